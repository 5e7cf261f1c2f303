/- What the law 'LookupJust' uses. No condition. -/
import Derived.Test.YtdljmchhecoakaaGreatKLookupJustA
import Derived.Test.YtdljmchhecoakaaGreatKLookupJustB
import Derived.Test.YtdljmchhecoakaaGreatKLookupJustF
import Derived.Test.YtdljmchhecoakaaGreatKLookupJustH
import Derived.Test.YtdljmchhecoakaaGreatKLookupJustI
import Derived.Test.YtdljmchhecoakaaGreatKLookupJustQ
namespace Go.Proofs.YtdljmchhecoakaaGreat
set_option linter.defProp false
def afv:=@Nat.zero_le
def afw:=@if_neg
def afx:=@if_pos
def afy:=@List.length_map
def afz:=@List.map_append
def afA:=@List.mem_singleton
def afB:=@List.length_singleton
def afC:=@trivial
def afD:=@congrArg
def afE:=@List.take_length
def afF:=@List.nil_append
def afG:=@List.length_take
def afH:=@List.mem_append
def afI:=@Nat.le_trans
def afJ:=@List.getElem?_map
def afK:=@List.append_nil
def afL:=@List.cons_append
def afM:=@List.getElem?_eq_some_iff
def afN:=@List.mem_cons
def afO:=@List.any_eq_true
def afP:=@List.length_filter_le
def afQ:=@List.not_mem_nil
def afR:=@or_false
def afS:=@List.map_cons
def afT:=@List.flatten_cons
def afU:=@List.flatten_nil
def afV:=@List.append_assoc
def afW:=@List.map_nil
def afX:=@List.take_add_one
def afY:=@List.length_nil
def afZ:=@List.length_append
def af0:=@List.getD_cons_zero
def af1:=@List.getD_eq_getElem?_getD
def af2:=@Option.getD_none
def af3:=@List.mem_map
def af4:=@List.getD_cons_succ
def af5:=@decide_eq_false
def af6:=@List.any_append
def af7:=@Option.isSome_iff_exists
def af8:=@Option.getD_some
def af9:=@List.filter_append
def aga:=@List.mem_flatMap
def agb:=@List.mem_append_right
def agc:=@List.mem_of_mem_take
def agd:=@Bool.not_eq_true'
def age:=@List.mem_iff_getElem
def agf:=@List.getElem_map
def agh:=@List.findIdx?_cons
open Tryz
set_option linter.unusedVariables false
set_option linter.unusedSimpArgs false
set_option maxRecDepth 4000
theorem ym{c:bJ}(h:re c.gb):c.qf:=λs b r a=>h (s.name,r) (aga.2 ⟨s,b,af3.2 ⟨r,a,rfl⟩⟩)
theorem PZ{R:ay}{xb:Nat}{vm:Value}{c:bJ}(h:IX R xb vm c)(h8:c.qf)(t:c.iZ):
  Spec prog 122 [pT xb] R [] λu H'=>∃T,H'=[T]/\∃w Es ok,u=.tuple [w,.bool ok].toArray/\OS 325 5 jD w Es T/\Es.length<=131072/\EA c ok Es c.plain.lZ:=by
 have b3:=λp s r a J=>C7 h h8 p s r a J
 have b5:=h
 have c0:=looked c
 have pc:=h.pc
 have Y:=h.ci.ss
 have W:=h.ci.sc
 have d3:=Y.le
 have d2:=W.le
 have b2:=h.ci.all
 have b0:=pQ c.plain
 have d6:=t.gb
 have b9:c.plain.all.length=c.gb.length:=by rw[<-o4,afy]
 have c5:c.plain.bg.length=c.bg.length:=by unfold bJ.plain;simp
 have c3:∀(i:Nat) (s:cq),c.bg[i]? =some s->c.plain.bg[i]? =some s.plain:=λi s a=>pa a
 have c6:=λ(p:gw) (s:cq) (r:cb)=>o5 (c:=c) (p:=p) (s:=s) (r:=r)
 have U:c.plain.lZ=if sU c.plain then cat (λp:Nat×(ByteArray×Rl)=>kT c.plain.all p.1 p.2.1 p.2.2) (jP 0 c.plain.all)else none:=rfl
 have a8:sU c.plain=c.scopes.all λs:Sc=>(bR c.plain.all ⟨s.jT,s.rel⟩).isSome:=rfl
 have b7:∀i k,c.ix (i,k)=cJ c.plain.bg i+k:=λ_ _=>rfl
 generalize hA:c.plain.all=A at *
 generalize S:cJ c.plain.bg=of at *
 generalize hg:(λp:Nat×(ByteArray×Rl)=>kT A p.1 p.2.1 p.2.2)=g at *
 have c1:of 0=0:=by rw[<-S];cases c.plain.bg<;>rfl
 refine Spec.body func122 rfl results122 ntmps122 rfl<|.sr<|.ag rfl<|.ag rfl<|.z<|.ag rfl<|.zs<|.sr<|.mo rfl<|.nc rfl<|.fa rfl<|.fa rfl<|.lo rfl<|.q (.bO Y)<|.mo rfl<|.zn<|.block<|.cF [(0,_),(18,_),(19,_)] (X:=Nat×Value×List jJ×ax) (λy=>y.1<=c.bg.length/\OS 325 5 jD y.2.1 y.2.2.1 y.2.2.2/\y.2.2.1.length<=512*of y.1/\EA c true y.2.2.1 (cat g (jP 0 (A.take (of y.1))))) (λy E=>(20,iN y.1)::(4,y.2.1)::E) (λy G=>y.2.2.2::G) (λy=>c.bg.length-y.1) (0,sZ,[],[]) ⟨afv _,OS.nil,by simp,by simp only;rw[c1];exact EA.nil⟩ kE.c.c.c.c.c bz.fH ?_
 rintro⟨i,K,Es,F⟩ ⟨hi,n,m,f⟩
 simp only at hi n m f⊢
 refine .sr<|.q .lss<|.zs<|.cond rfl (λL=>?_) λL=>?_
 have a3:i<c.bg.length:=cy L
 obtain⟨⟨e,v,d⟩,a⟩:=bW a3
 have a9:=b2 _ (aW a)
 have a7:RS R 3 cb.enc v d:=a9.rs
 have d4:=a7.le
 have d7:cC (cq.enc ⟨e,v,d⟩):=⟨a9.dg⟩
 have a6:=c3 i _ a
 have a5:=o7 a6
 have a4:=sq a6
 rw[S,show(cq.plain ⟨e,v,d⟩).bN.length=d.length by simp[cq.plain]]at a5 a4
 rw[b0,b9]at a4
 refine .kn<|.seq<|.block<|.sr<|.mo rfl ?_
 refine .bG i Y a (λd8=>?_)
 refine .q (.aT rfl) ?_
 refine .bU (λb6=>?_)
 refine .ag rfl<|.bP rfl rfl<|.z<|.fa rfl<|.lo rfl<|.q (.bO a7)<|.mo rfl<|.zn<|.block<|.cF [(0,_),(5,_),(18,_),(19,_),(20,_),(27,_)] (X:=Nat×Value×List jJ×ax) (λy=>y.1<=d.length/\OS 325 5 jD y.2.1 y.2.2.1 y.2.2.2/\y.2.2.1.length<=512*(of i+y.1)/\EA c true y.2.2.1 (cat g (jP 0 (A.take (of i+y.1))))) (λy E=>(28,iN y.1)::(4,y.2.1)::E) (λy G=>bl b6 (cq.enc ⟨e,v,d⟩) 164::y.2.2.2::G) (λy=>d.length-y.1) (0,K,Es,F) ⟨afv _,n,m,f⟩ kE.c.c.c.c.c.c.c.c rH ?_
 rintro⟨k,K,Es,F⟩ ⟨hk,n,m,f⟩
 simp only at hk n m f⊢
 refine .sr<|.q .lss<|.zs<|.cond rfl (λM=>?_) λM=>?_
 have a2:k<d.length:=cy M
 obtain⟨r,J⟩:=bW a2
 have Z:=b3 (i,k) _ r a J
 have H:=c6 (i,k) _ r a J
 rw[b7]at Z H
 have a0:g (of i+k,(e,r.r))=kT A (of i+k) e r.r:=by rw[<-hg]
 have d5:of i+k<A.length:=(afM.1 H).1
 refine .kn<|.seq<|.block<|.sr<|.mo rfl<|.ag rfl<|.z<|.mo rfl<|.mo rfl<|.mo rfl<|.q .cR<|.dh (Z.weaken da) (λu T4 c7=>?_)
 obtain⟨w4,Fs,ok,rfl,b1,d1,B⟩:=c7
 refine .mo rfl<|.q .extract<|.q .extract<|.ag rfl<|.ag rfl<|.zs<|.sr<|.mo rfl<|.q .not<|.zn<|.cond rfl (λN=>?_) λN=>?_
 refine .sr<|.ag rfl<|.az rfl<|.ret (aK (br (aK (cI (br (br (aK (cI (br (aK (bj _ (.two (.tmp rfl) (.tmp rfl)) bz.jS ?_)))))))))))
 ·refine⟨[],rfl,_,[],false,rfl,OS.nil,by simp,?_⟩
  have D:ok=false:=by simpa using N
  rw[U]
  split
  ·rw[tI (x:=(of i+k,(e,r.r))) (by have:=rE (i:=0) H;rwa [Nat.zero_add]at this) (by
    rw[a0]
    cases hrc:kT A (of i+k) e r.r with
    |none=>rfl
    |some o=>rw[show kT A (of i+k) (⟨e,v,d⟩:cq).name r.r=some o from hrc]at B;rw[B.1]at D;cases D)]
   rfl
  ·rfl
 have I:ok=true:=by simpa using N
 subst I
 refine .kn<|.region<|.mo rfl<|.mo rfl<|.append n b1.rx (by omega) (λv1 T1 c8=>?_)
 refine .ag rfl<|.nil<|aX<|aw<|.region<|.ia (k+1) .add<|.mo rfl<|.nil ?_
 ·exact bm (k+1,v1,Es++Fs,T1) ⟨a2,c8,by simp only[afZ];omega,by
   simp only
   rw[show of i+(k+1)=of i+k+1 by omega,tV H,p5]
   refine f.nN ?_
   rw[cat,Nat.zero_add,show g (of i+k,(⟨e,v,d⟩:cq).name,r.r)=kT A (of i+k) e r.r from a0]
   revert B
   generalize kT A (of i+k) (⟨e,v,d⟩:cq).name r.r=o
   intro B
   cases o with
   |none=>exact B
   |some o=>simpa[cat]using B⟩ (by simp only;omega) kE.c.c.c.c.c.c.c.c (aQ [1,1,1])
 have b8:k=d.length:=by have:=bF M;omega
 rw[b8, <-a5]at m f
 refine .exit<|bo<|bs<|bp<|aX<|aw<|.region<|.ia (i+1) .add<|.mo rfl<|.nil ?_
 ·exact bm (i+1,K,Es,F) ⟨a3,n,m,f⟩ (by simp only;omega) kE.c.c.c.c.c (aQ [1])
 have b4:i=c.bg.length:=by have:=bF L;omega
 have c2:of i=A.length:=by rw[b4, <-c5, <-S, <-b0];rfl
 rw[c2,afE]at f
 refine .exit<|bo<|bs<|bp<|aw<|.seq<|.sr<|.mo rfl<|.nc rfl<|.fa rfl<|.fa rfl<|.lo rfl<|.q (.bO W)<|.mo rfl<|.zn<|.block<|.cF [(0,_),(4,_),(50,_),(51,_)] (X:=Nat) (λj=>j<=c.scopes.length/\(c.scopes.take j).all (λs:Sc=>(bR A ⟨s.jT,s.rel⟩).isSome)=true) (λj E=>(52,iN j)::E) (λ_ G=>G) (λj=>c.scopes.length-j) 0 ⟨afv _,rfl⟩ kE.c.c.c.c.c rH ?_
 rintro j ⟨hj,V⟩
 refine .sr<|.q .lss<|.zs<|.cond rfl (λO=>?_) λO=>?_
 have a1:j<c.scopes.length:=cy O
 obtain⟨s,a⟩:=bW a1
 obtain⟨ps,ok,c4,C⟩:=c0 (⟨s.jT,s.rel⟩:Ty)
 unfold nJ at C
 rw[hA]at C
 refine .kn<|.seq<|.block<|.sr ?_
 refine .bG j W a (λd9=>?_)
 refine .q (.aT rfl) ?_
 refine .bU (λc9=>?_)
 refine .bP rfl rfl<|.zs<|.cS [15] mixed<|.tO 0 rfl .move<|.tO 1 rfl (.nilCheck rfl)<|.tO 2 rfl (.fieldAddr rfl)<|.tO 3 rfl (.cm rfl)<|.tO 4 rfl (.fieldAddr rfl)<|.tO 5 rfl (.fieldAddr rfl)<|.tO 6 rfl (.cm rfl)<|.tO 7 rfl (.fieldAddr rfl)<|.tO 8 rfl (.cm rfl)<|.tO 9 rfl .cR<|.fM 10 rfl (.cast (.oX (b5.rm.o0 λb o hb=>.inl hb) rfl rfl) (afD (λl:List Value=>Value.tuple l.toArray) c4)) (by kernel_rfl)<|.tO 11 rfl .move<|.tO 12 rfl .extract<|.tK 13 rfl .extract<|.sT 14 rfl ?_
 refine .bU (λd0=>?_)
 refine .nil<|Next.sub<|.sT 15 rfl<|.bP rfl rfl<|.nil<|Next.mod rfl<|.tK 16 rfl .assign<|RA.nil (by kernel_rfl)<|aw<|.sr<|.mo rfl<|.q .not<|.zn<|.cond rfl (λQ=>?_) λQ=>?_
 refine .sr<|.ag rfl<|.az rfl<|.ret (br (aK (cI (br (aK (bj _ (.two (.tmp rfl) (.tmp rfl)) bz.jS ?_))))))
 ·refine⟨[],rfl,_,[],false,rfl,OS.nil,by simp,?_⟩
  have D:ok=false:=by simpa using Q
  have hj:bR A ⟨s.jT,s.rel⟩=none:=by
   cases t:bR A ⟨s.jT,s.rel⟩with
   |none=>rfl
   |some j=>rw[t]at C;rw[C.1]at D;cases D
  rw[U,a8,lv a (by rw[hj];rfl)]
  rfl
 have t:(bR A ⟨s.jT,s.rel⟩).isSome=true:=by
  have I:ok=true:=by simpa using Q
  cases t:bR A ⟨s.jT,s.rel⟩with
  |none=>rw[t]at C;rw[C]at I;cases I
  |some j=>rfl
 refine .skip<|aX<|aw<|.region<|.ia (j+1) .add<|.mo rfl<|.nil ?_
 ·exact bm (j+1) ⟨a1,m1 a V t⟩ (by omega) kE.c.c.c.c.c (aQ [2])
 refine .exit<|bo<|bs<|bp<|aw<|.sr<|.mo rfl<|.ag rfl<|.az rfl<|.ret (bj _ (.two (.tmp rfl) (.tmp rfl)) (.one [0] _) ?_)
 ·refine⟨F,by simp[take],K,Es,true,rfl,n,afI m (Nat.mul_le_mul_left 512 (show of i<=256 by omega)),?_⟩
  rw[dP (kM O)]at V
  rw[U,a8,V,afx rfl]
  exact f
abbrev iF:=fW×ax
def oI(w:Value)(LL:List iF)(To:ax):Prop:=OS 182 1 eo w (LL.map (·.1)) To/\∀q∈LL,OS 3 1 di q.1.1 q.1.2 q.2
def nL(w:Value)(LL:List iF)(T:ax):Prop:=∃To,T=To++LL.flatMap (·.2)/\oI w LL To
theorem zv{α:Type}{l:List α}{i:Nat}{x:α}(h:l[i]? =some x):∃A B,l=A++x::B/\A.length=i/\∀y,l.set i y=A++y::B:=by
 refine⟨l.take i,l.drop (i+1),?_,?_,λy=>?_⟩
 ·have:=xG h
  rw[<-this,List.take_append_drop]
 ·rw[afG];have:=(afM.1 h).1;omega
 ·exact List.set_eq_take_append_cons_drop.trans (afx (afM.1 h).1)
theorem Pr(w:Value)(d:List iF)(T:ax)(h:nL w d T)(e:jJ)(a b:Nat)(t I:iF)(s:d[e.1.1]? =some t)(A:d[e.2.1.1]? =some I)(r:t.1.2[e.1.2]? =some a)(i:I.1.2[e.2.1.2]? =some b)(a1:b<=1000000000)(R:ay):
  Spec prog 182 [w,.agg (jD e).toArray] R [T] λu H'=>∃T',H'=[T']/\((u=.bool false/\b+(if e.2.2 then 1 else 0)<=a/\nL w d T')\/(u=.bool true/\a<b+(if e.2.2 then 1 else 0)/\∃Tn,nL w (d.set e.1.1 ((t.1.1,t.1.2.set e.1.2 (b+(if e.2.2 then 1 else 0))),Tn)) T')):=by
 obtain⟨f,rfl,g,m⟩:=h
 obtain⟨⟨k,l⟩,⟨v,B⟩,j⟩:=e
 obtain⟨⟨J,S⟩,V⟩:=t
 obtain⟨⟨K,U⟩,Z⟩:=I
 simp only at s A r i⊢
 have n:=m _ (aW s)
 have F:=m _ (aW A)
 simp only at n F
 have G:(d.map (·.1))[k]? =some (J,S):=by rw[afJ,s];rfl
 have Q:(d.map (·.1))[v]? =some (K,U):=by rw[afJ,A];rfl
 have O:∀(q:iF),q∈d->∀p∈q.2,p∈d.flatMap (·.2):=λq hq p Y=>aga.2 ⟨q,hq,Y⟩
 obtain⟨L,M,y,a0,H⟩:=zv s
 have a2:RC R [f,d.flatMap (·.2)] (eE J (l*1)) (di a):=⟨(n.pc r).mono λb o i=>.inr (by have:=O _ (aW s) _ i;simp[this])⟩
 have a3:RC R [f,d.flatMap (·.2)] (eE K (B*1)) (di b):=⟨(F.pc i).mono λb o i=>.inr (by have:=O _ (aW A) _ i;simp[this])⟩
 have a4:PS f (eE w (k*1)) (eo (J,S)):=⟨g.pc G⟩
 have a5:PS f (eE w (v*1)) (eo (K,U)):=⟨g.pc Q⟩
 refine Spec.hB (H':=[f,d.flatMap (·.2)]) (by simp)<|Spec.body func182 rfl results182 ntmps182 rfl<|.sr ?_
 refine .cx rfl (λN=>?_)
 refine .ag rfl<|.zs<|.gd mixed (by kernel_rfl)<|.mo rfl<|.fa rfl<|.fa rfl<|.lo rfl<|.q (.bG v g.sg Q rfl rfl rfl)<|.lo rfl<|.fa rfl<|.fa rfl<|.lo rfl<|.q (.bG B F.sg i rfl rfl rfl)<|.lo rfl<|.ag rfl<|.zs<|.sr<|.fa rfl<|.lo rfl<|.zn ?_
 refine bx.cZ [(0,_),(3,_)] kE.c.c (X:=Unit) (λ_=>True) (λ_ E=>(5,.int .i64 ((b+(if j then 1 else 0):Nat):Int))::E) (λ_=>[bl N (jD ((k,l),(v,B),j)) 325,f,d.flatMap (·.2)]) ?_ ?_
 refine .cond rfl (λC=>?_) λC=>?_
 refine .region<|.mo rfl<|.ia (b+1) .add<|.ag rfl<|.nil ?_
 ·exact aG () afC (kE.c.c.m7 rfl (by have h:j=_:=C;simp[h])) rH
 refine .skip ?_
 ·exact aG () afC (kE.c.c.m7 rfl (by have h:j=_:=C;simp[h])) rH
 intro x hx
 refine aw<|.seq<|.seq<|.gd mixed (by kernel_rfl)<|.mo rfl<|.fa rfl<|.fa rfl<|.lo rfl<|.q (.bG k g.sg G rfl rfl rfl)<|.lo rfl<|.fa rfl<|.fa rfl<|.lo rfl<|.q (.bG l n.sg r rfl rfl rfl)<|.lo rfl<|.mo rfl<|.q .geq<|.zn<|.cond rfl (λD=>?_) λD=>?_
 refine .sr<|.az rfl<|.ret (aK (bj _ (.one (.tmp rfl)) (.one [1,1] _) ?_))
 ·refine⟨_,rfl,.inl ⟨rfl,by have:=bX D;omega,f,by simp[take,bM],g,m⟩⟩
 refine .kn<|.seq<|.dm 11 mixed (by kernel_rfl) ?_
 conv=>arg 6;dsimp only[List.take]
 refine .mo rfl<|.fa rfl<|.fa rfl<|.lo rfl<|.q (.bG k g.sg G rfl rfl rfl)<|.lo rfl<|.fa rfl<|.fa rfl<|.lo rfl<|.mo rfl<|.q (.bG l n.sg r rfl rfl rfl)<|.nil ?_
 refine .sub (H':=[bl N (jD ((k,l),(v,B),j)) 325,f,V,L.flatMap (·.2)++M.flatMap (·.2)]) (bz.eS (by
  rw[y]
  simp only[List.flatMap_append,List.flatMap_cons,afT,afU,afK]
  refine .append_left _ (.append_left _ ?_)
  rw[<-afV, <-afV]
  exact List.perm_append_comm.append_right _)) ?_
 refine .du l n r (b+(if j then 1 else 0)) (λTn W=>?_)
 refine .z<|.az rfl<|.ret (bj _ (.one (.tmp rfl)) ((aQ [1,1,1]).trans (bz.eS (H':=[f++(L.flatMap (·.2)++(Tn++M.flatMap (·.2)))]) (by simp only[take,bM,af0,af4,afT,afU,afK];refine .append_left _ ?_;rw[<-afV, <-afV];exact List.perm_append_comm.append_right _))) ?_)
 ·refine⟨_,rfl,.inr ⟨rfl,by have:=bF D;omega,Tn,f,?_,?_,λq hq=>?_⟩⟩
  ·rw[H];simp
  ·refine g.congr ?_
   rw[H,y]
   simp[eo]
  ·rw[H]at hq
   rcases afH.1 hq with hq|hq
   ·exact m q (by rw[y];exact List.mem_append_left _ hq)
   ·rcases afN.1 hq with rfl|hq
    ·exact W
    ·exact m q (by rw[y];exact agb _ (List.mem_cons_of_mem _ hq))
theorem vF{c:bJ}{X:List Nat}{p:gw}(g:c.valid p)(i:X.length=total c.plain.bg):∃s:Sp,c.plain.bg[p.1]? =some s/\p.2<s.bN.length/\(rows c.plain.bg X)[p.1]? =some ((X.drop (cJ c.plain.bg p.1)).take s.bN.length)/\c.ix p<X.length/\
  ((X.drop (cJ c.plain.bg p.1)).take s.bN.length)[p.2]? =some (X.getD (c.ix p) 0):=by
 obtain⟨s,r,f,e⟩:=g
 have a:=pa f
 have d:=(afM.1 (Ak e)).1
 have h:=sq a
 have b:c.ix p<X.length:=by unfold bJ.ix;omega
 refine⟨s.plain,a,d,po a,b,?_⟩
 rw[List.getElem?_take,afx d,List.getElem?_drop,af1]
 unfold bJ.ix at b⊢
 rw[aV b]
 rfl
theorem Pp{c:bJ}(w:Value)(a:List iF)(T:ax)(h:nL w a T)(X:List Nat)(j:X.length=total c.plain.bg)(k:a.map (·.1.2)=rows c.plain.bg X)(e:jJ)(s:c.valid e.1/\c.valid e.2.1)(D:∀x∈X,x<=1000000000)(R:ay):
  Spec prog 182 [w,.agg (jD e).toArray] R [T] λu H'=>∃T',H'=[T']/\∃ch LL',u=.bool ch/\ch=decide (gp X (c.ed e)≠X)/\nL w LL' T'/\LL'.map (·.1.2)=rows c.plain.bg (gp X (c.ed e)):=by
 obtain⟨Q,t,v,y,z,A⟩:=vF s.1 j
 obtain⟨S,U,V,K,L,M⟩:=vF s.2 j
 have p:∀{i:Nat} {o:List Nat},(rows c.plain.bg X)[i]? =some o->∃q:iF,a[i]? =some q/\q.1.2=o:=λ{i o} b=>by
  rw[<-k,afJ]at b
  cases hq:a[i]? with
  |none=>rw[hq]at b;cases b
  |some q=>rw[hq]at b;exact⟨q,rfl,by simpa using b⟩
 obtain⟨I,F,r⟩:=p y
 obtain⟨J,G,H⟩:=p K
 have C:X.getD (c.ix e.2.1) 0<=1000000000:=D _ (by rw[af1,aV L];exact List.getElem_mem _)
 have O:X.getD (c.ix e.1) 0=X.getD (c.ed e).f 0:=rfl
 refine(Pr w a T h e (X.getD (c.ix e.1) 0) (X.getD (c.ix e.2.1) 0) I J F G (by rw[r];exact A) (by rw[H];exact M) C R).mono λu H' m=>?_
 obtain⟨T',rfl,m⟩:=m
 refine⟨T',rfl,?_⟩
 rcases m with⟨rfl,B,g⟩|⟨rfl,B,N,g⟩
 ·have d:gp X (c.ed e)=X:=afw (by show ¬X.getD (c.ix e.1) 0<X.getD (c.ix e.2.1) 0+_;unfold Ed.w bJ.ed;simp only;omega)
  refine⟨false,a,rfl,?_,g,?_⟩
  ·rw[d];simp
  ·rw[d];exact k
 ·have d:gp X (c.ed e)=X.set (c.ix e.1) (X.getD (c.ix e.2.1) 0+if e.2.2 then 1 else 0):=afx (by show X.getD (c.ix e.1) 0<X.getD (c.ix e.2.1) 0+_;unfold Ed.w bJ.ed;simp only;omega)
  refine⟨true,_,rfl,?_,g,?_⟩
  ·rw[d,eq_comm,decide_eq_true_iff]
   intro E
   have:=afD (λl:List Nat=>l.getD (c.ix e.1) 0) E
   rw[nU _ _ _ _ z,afx rfl]at this
   omega
  ·rw[d]
   have:=AH (n:=X) (x:=X.getD (c.ix e.2.1) 0+if e.2.2 then 1 else 0) t v j
   unfold bJ.ix at this⊢
   rw[this,List.map_set,k,r]
theorem Pq{A X:List Nat}{e:Ed}(d:∀i,A.getD i 0<=X.getD i 0)(l:X.length=A.length)(k:e.f<X.length):gp X e≠A↔(X≠A\/gp X e≠X):=by
 have c:=λi=>sI X e k i
 constructor
 ·intro h
  by_cases g:X=A
  ·exact .inr (by rw[g]at h⊢;exact h)
  ·exact .inl g
 ·rintro(h|h) b
  ·refine h (n0 l λi _=>?_)
   have j:=d i
   have a:=c i
   rw[b]at a
   omega
  ·refine h (n0 (by rw[pj]) λi _=>?_)
   have j:=d i
   have a:=c i
   rw[b]at a⊢
   omega
theorem Pn{X:List Nat}{e:Ed}{b:Nat}(h:∀x∈X,x<=b):∀x∈gp X e,x<=b+1:=by
 intro x hx
 unfold gp at hx
 split at hx
 ·rcases List.mem_or_eq_of_mem_set hx with hx|rfl
  ·have:=h x hx;omega
  ·have a:X.getD e.t 0<=b:=by
    rw[af1]
    cases hq:X[e.t]? with
    |none=>exact afv _
    |some q=>exact h q (aW hq)
   have c:e.w<=1:=by unfold Ed.w;split<;>omega
   omega
 ·have:=h x hx;omega
theorem Qj{R:ay}{xb:Nat}{vm:Value}{c:bJ}(h:IX R xb vm c)(hf:c.iZ)(ve:Value)(a:List jJ)(b7:RS R 5 jD ve a)(c0:a.length<=131072)(N:∀e∈a,c.valid e.1/\c.valid e.2.1):
  Spec prog 123 [pT xb,ve] R [] λu H'=>∃T,H'=[T]/\match settle (a.map c.ed) (total c.plain.bg+1) (List.replicate (total c.plain.bg) 0)with
   |none=>u=.tuple [sZ,.bool false].toArray
   |some A=>∃w ll,u=.tuple [w,.bool true].toArray/\NN (sg T) w ll/\ll.map (·.2)=rows c.plain.bg A:=by
 have d0:=h
 have pc:=h.pc
 have L:=h.ci.ss
 have e5:=L.le
 have e6:=hf.1
 have c6:=h.ci.all
 have f2:=pQ c.plain
 have e4:c.plain.all.length=c.gb.length:=by rw[<-o4,afy]
 have e9:=hf.gb
 have f1:c.plain.bg.length=c.bg.length:=by unfold bJ.plain;simp
 have d6:∀(i:Nat) (s:cq),c.bg[i]? =some s->c.plain.bg[i]? =some s.plain:=λi s t=>pa t
 have e0:=AI c.plain.bg
 have d8:=λw O T hh X v hr e N hb R=>Pp (c:=c) w O T hh X v hr e N hb R
 have e1:=vV c.plain.bg 0
 have c8:∀e∈a,(c.ed e).f<total c.plain.bg:=λe he=>by
  obtain⟨s,_,F,_,r,_⟩:=vF (X:=List.replicate (total c.plain.bg) 0) (N e he).1 (by simp)
  rw[List.length_replicate]at r
  exact r
 generalize f3:total c.plain.bg=tot at *
 refine Spec.body func123 rfl results123 ntmps123 rfl<|.sr<|.ag rfl<|.ag rfl<|.z<|.mo rfl<|.nc rfl<|.fa rfl<|.fa rfl<|.lo rfl<|.q (.bO L) ?_
 refine .makeSlice (enc:=eo) c.bg.length ((sZ,[]):fW) rfl rfl (by decide) (by simp[eo,aB]) rfl rfl (by omega) (by omega) (λQ T6 c3=>?_)
 refine .ag rfl<|.zs<|.sr<|.mo rfl<|.nc rfl<|.fa rfl<|.fa rfl<|.lo rfl<|.q (.bO L)<|.mo rfl<|.zn<|.block<|.cF [(0,_),(1,_),(6,_),(23,_),(24,_)] (X:=Nat×List iF×ax) (λy=>y.1<=c.bg.length/\y.2.1.length=y.1/\OS 182 1 eo (.slice (some ⟨Q,0,none⟩) c.bg.length c.bg.length) (y.2.1.map (·.1)++List.replicate (c.bg.length-y.1) ((sZ,[]):fW)) y.2.2/\(∀q∈y.2.1,OS 3 1 di q.1.1 q.1.2 q.2)/\y.2.1.map (·.1.2)=((c.plain.bg.take y.1).map λs=>List.replicate s.bN.length 0)) (λy E=>(25,iN y.1)::E) (λy G=>y.2.2::y.2.1.flatMap (·.2)::G) (λy=>c.bg.length-y.1) (0,[],T6) (G:=[]) ⟨afv _,rfl,by simp only[afW,afF,Nat.sub_zero];exact c3,λq hq=>(by cases hq),by simp⟩ kE.c.c.c.c.c.c ((aQ [0]).trans (bz.eS (by simp[take]))) ?_
 rintro⟨i,D,To⟩ ⟨hi,Z,l,hI,Y⟩
 simp only at hi Z l hI Y⊢
 refine .sr<|.q .lss<|.zs<|.cond rfl (λS=>?_) λS=>?_
 have b1:i<c.bg.length:=cy S
 obtain⟨⟨sn,sv,d⟩,t⟩:=bW b1
 have b5:=c6 _ (aW t)
 have b4:RS R 3 cb.enc sv d:=b5.rs
 have e7:=b4.le
 have f4:cC (cq.enc ⟨sn,sv,d⟩):=⟨b5.dg⟩
 have f0:d.length<=16:=hf.2 _ (aW t)
 have d5:=d6 i _ t
 obtain⟨k,hk⟩:∃k,c.bg.length-i=k+1:=⟨c.bg.length-i-1,by omega⟩
 have d2:c.bg.length-(i+1)=k:=by omega
 rw[hk]at l
 have a3:(D.map (·.1)).length=i:=by rw[afy,Z]
 obtain⟨z,hz⟩:∃z,(D.map (·.1)++List.replicate (k+1) ((sZ,[]):fW))[i]? =some z:=⟨_,aV (by rw[afZ,a3,List.length_replicate];omega)⟩
 refine .kn<|.seq<|.block<|.sr<|.mo rfl ?_
 refine .bG i L t (λf5=>?_)
 refine .q (.aT rfl) ?_
 refine .bU (λb8=>?_)
 refine .ag rfl<|.bP rfl rfl<|.zn<|.region<|.mo rfl<|.mo rfl<|.fa rfl<|.lo rfl<|.q (.bO b4) ?_
 refine .makeSlice (enc:=di) d.length 0 rfl rfl (by decide) (by simp[di,aB]) rfl rfl (by omega) (by omega) (λbn Tn c4=>?_)
 refine .aL i l hz (λf6=>?_)
 refine .du i l hz ((.slice (some ⟨bn,0,none⟩) d.length d.length,List.replicate d.length 0):fW) (λC a4=>?_)
 rw[jG a3]at a4
 refine .nil<|aX<|aw<|.region<|.ia (i+1) .add<|.mo rfl<|.nil ?_
 ·exact bm (i+1,D++[((.slice (some ⟨bn,0,none⟩) d.length d.length,List.replicate d.length 0),Tn)],C) ⟨b1,by simp[Z],by simp only;rw[d2,afz];exact a4,λq hq=>by
   rcases afH.1 hq with hq|hq
   ·exact hI q hq
   ·rw[afA]at hq;subst hq;exact c4,by simp only;rw[ec d5,afz,afz,Y];simp[cq.plain]⟩ (by simp only;omega) kE.c.c.c.c.c.c ((aQ [2,2,0]).trans (bz.eS (by simp[take,bM])))
 have c9:i=c.bg.length:=by have:=bF S;omega
 have b9:D.map (·.1.2)=rows c.plain.bg (List.replicate tot 0):=by
  rw[e0,Y,dP (by omega)]
 rw[c9,Nat.sub_self]at l
 simp only[List.replicate_zero,afK]at l
 refine .exit<|bo<|bs<|bp<|aw<|.seq<|.sr<|.mo rfl<|.nc rfl<|.fa rfl<|.lo rfl<|.q (.zl (d0.rm.o0 λb o hb=>.inl hb) rfl) ?_
 rw[e1]
 refine .ia (tot+1) .add<|.mo rfl<|.zn<|.block<|.cF [(1,_),(6,_),(43,_)] (X:=Nat×List Nat×List iF×ax) (λy=>y.1<=tot+1/\y.2.1.length=tot/\nL (.slice (some ⟨Q,0,none⟩) c.bg.length c.bg.length) y.2.2.1 y.2.2.2/\y.2.2.1.map (·.1.2)=rows c.plain.bg y.2.1/\(∀x∈y.2.1,x<=y.1*a.length)/\settle (a.map c.ed) (tot+1) (List.replicate tot 0)=settle (a.map c.ed) (tot+1-y.1) y.2.1) (λy E=>(44,iN y.1)::E) (λy _=>[y.2.2.2]) (λy=>tot+1-y.1) (0,List.replicate tot 0,D,To++(D.flatMap (·.2)++[])) (G:=[]) ⟨afv _,by simp,⟨To,by simp,l,hI⟩,b9,λx g=>by rw[List.eq_of_mem_replicate g];exact afv _,rfl⟩ kE.c.c.c.c (bz.one [0,0] _) ?_
 rintro⟨m,A,O,T⟩ ⟨hm,W,a5,b3,a7,M⟩
 simp only at hm W a5 b3 a7 M⊢
 refine .sr<|.q .lss<|.zs<|.cond rfl (λF=>?_) λF=>?_
 have d4:m<tot+1:=by have:=bX F;omega
 have e8:m*a.length<=256*131072:=Nat.mul_le_mul (by omega) c0
 refine .kn<|.seq<|.block<|.sr<|.ag rfl<|.zs<|.sr<|.mo rfl<|.q (.bO b7)<|.mo rfl<|.zn<|.block<|.cF [(1,_),(6,_),(43,_),(44,_),(46,_),(47,_)] (X:=Nat×List Nat×List iF×ax) (λy=>y.1<=a.length/\y.2.1=((a.take y.1).map c.ed).foldl gp A/\y.2.1.length=tot/\nL (.slice (some ⟨Q,0,none⟩) c.bg.length c.bg.length) y.2.2.1 y.2.2.2/\y.2.2.1.map (·.1.2)=rows c.plain.bg y.2.1/\(∀x∈y.2.1,x<=m*a.length+y.1)/\∀i,A.getD i 0<=y.2.1.getD i 0) (λy E=>(48,iN y.1)::(9,.bool (decide (y.2.1≠A)))::E) (λy _=>[y.2.2.2]) (λy=>a.length-y.1) (0,A,O,T) (G:=[]) ⟨afv _,rfl,W,a5,b3,λx g=>a7 x g,λi=>Nat.le_refl _⟩ ((kE.c.c.c.c.c.c.ca rfl (by simp)).cons rfl) rH ?_
 rintro⟨j,X,B,TX⟩ ⟨hj,v,n,H,K,J,a2⟩
 simp only at hj v n H K J a2⊢
 refine .sr<|.q .lss<|.zs<|.cond rfl (λU=>?_) λU=>?_
 have b0:j<a.length:=cy U
 obtain⟨e,a1⟩:=bW b0
 have a9:=aW a1
 have d9:=d8 _ B TX H X n K e (N e a9) (λx g=>by have:=J x g;omega)
 have a8:=c8 e a9
 refine .kn<|.seq<|.block<|.sr ?_
 refine .bG j b7 a1 (λf7=>?_)
 refine .q (.aT rfl) ?_
 refine .bU (λe3=>?_)
 refine .bP rfl rfl<|.z<|.mo rfl<|.q (.aT rfl)<|.cr (d9 R) (λu C hu=>?_)
 obtain⟨ch,L1,rfl,c7,c5,d7⟩:=hu
 refine .zn ?_
 refine bx.cZ [(1,_),(6,_),(43,_),(44,_),(46,_),(47,_),(48,_)] kE.c.c.c.c.c.c.c (X:=Unit) (λ_=>True) (λ_ E=>(9,.bool (decide (X≠A)||ch))::E) (λ_=>[C]) ?_ ?_
 refine .cond rfl (λr=>?_) λr=>?_
 refine .region<|.ag rfl<|.nil ?_
 ·exact aG () afC (kE.c.c.c.c.c.c.c.ca rfl (by simp[r])) (aQ [1])
 refine .skip ?_
 ·exact aG () afC (kE.c.c.c.c.c.c.c.ca rfl (by simp[r])) (aQ [1])
 intro x g
 refine aX<|aw<|.region<|.ia (j+1) .add<|.mo rfl<|.nil ?_
 ·exact bm (j+1,gp X (c.ed e),L1,C) ⟨b0,by simp only;rw[ec a1,afz,List.foldl_append, <-v];rfl,by simp only;rw[pj,n],c5,d7,λy hy=>by have:=Pn J y hy;simp only;omega,λi=>afI (a2 i) (sI X _ (by rw[n];exact a8) i)⟩ (by simp only;omega) ((kE.c.c.c.c.c.c.ca rfl (by
   simp only
   rw[c7, <-Bool.decide_or]
   exact decide_eq_decide.2 (Pq a2 (by rw[n,W]) (by rw[n];exact a8)).symm)).cons rfl) rH
 have d1:j=a.length:=by have:=bF U;omega
 have a0:X=pass (a.map c.ed) A:=by rw[v,d1,afE];rfl
 refine .exit<|bo<|bs<|bp<|aw<|.sr<|.mo rfl<|.q .not<|.zn<|.cond rfl (λV=>?_) λV=>?_
 have I:X=A:=Decidable.not_not.1 (show ¬¬X=A by simpa using V)
 refine .sr<|.mo rfl<|.ag rfl<|.az rfl<|.ret (br (aK (cI (br (aK (bj _ (.two (.tmp rfl) (.tmp rfl)) (.one [0] _) ?_))))))
 ·refine⟨_,rfl,?_⟩
  rw[M,show tot+1-m=tot+1-(m+1)+1 by omega,settle,afx (by rw[<-a0];exact I)]
  obtain⟨e2,a6,c2,c1⟩:=H
  refine⟨_,B.map (·.1),rfl,⟨c2.rs λp hp=>?_,λq hq=>?_⟩,?_⟩
  ·show p∈_
   simp[take,a6,hp]
  ·obtain⟨q2,b2,rfl⟩:=af3.1 hq
   refine(c1 q2 b2).rs λp hp=>?_
   show p∈_
   have:p∈B.flatMap (·.2):=aga.2 ⟨q2,b2,hp⟩
   simp only[take,a6,af0,afT,afU,afK]
   exact agb _ this
  ·rw[List.map_map, <-I]
   exact K
 have I:X≠A:=by simpa using V
 refine .skip<|aX<|aw<|.region<|.ia (m+1) .add<|.mo rfl<|.nil ?_
 ·exact bm (m+1,X,B,TX) ⟨d4,n,H,K,λx g=>by have h6:=J x g;simp only;rw[Nat.add_mul];omega,by
   simp only
   rw[M,show tot+1-m=tot+1-(m+1)+1 by omega,settle,afw (by rw[<-a0];exact I), <-a0]⟩ (by simp only;omega) kE.c.c.c.c rH
 refine .exit<|bo<|bs<|bp<|aw<|.sr<|.ag rfl<|.az rfl<|.ret (bj _ (.two (.tmp rfl) (.tmp rfl)) (.one [0] _) ?_)
 ·refine⟨_,rfl,?_⟩
  have d3:m=tot+1:=by have:=bF F;omega
  rw[M,d3,Nat.sub_self,settle]
theorem Qh{c:bJ}{k:Nat}{E:List Ed}(h:c.plain.all.length=k):settle E (k+1) (List.replicate k 0)=settle E (c.plain.all.length+1) (List.replicate c.plain.all.length 0):=by rw[h]
def SA(c:bJ)(ok:Bool)(w:Value)(T:ax)(o:Option (List Nat)):Prop:=match o with
 |none=>ok=false
 |some A=>ok=true/\∃ll,NN (sg T) w ll/\ll.map (·.2)=rows c.plain.bg A
theorem Ou(c:bJ)(R:ay)(h:c.is R):Spec prog 67 [.agg c.enc.toArray] R [] λu H'=>∃T,H'=[T]/\∃w ll,u=.tuple [w,.int .i64 (c.plain.numbers isWord dj).1].toArray/\NN (sg T) w ll/\ll.map (·.2)=(c.plain.numbers isWord dj).2:=by
 rw[<-Ot]
 have hR:=Ph c R h
 have X:=N9 c R h
 have a2:=uh (c:=c)
 have a:c.plain.sl isWord dj=if c.plain.right isWord dj=false then((4:Int),([]:List (List Nat)))else if ¬c.plain.dR then(10,[])else match c.plain.lZ with|none=>(14,[])|some E=>match settle E (c.plain.all.length+1) (List.replicate c.plain.all.length 0)with|none=>(15,[])|some n=>(0,rows c.plain.bg n):=rfl
 have a1:=λ(R:ay) xb vm (H:IX R xb vm c) Q F=>PZ (R:=R) (xb:=xb) (vm:=vm) H Q F
 have a5:=λ(R:ay) xb vm (H:IX R xb vm c) F ve f a8 hl hv=>Qj (R:=R) (xb:=xb) (vm:=vm) H F ve f a8 hl hv
 have a6:=pQ c.plain
 generalize a9:c.plain.sl isWord dj=nn at *
 refine Spec.body func67 rfl results67 ntmps67 rfl<|.sr ?_
 refine .cx rfl (λb1=>?_)
 refine .ag rfl<|.ag rfl<|.zs<|.sr<|.q (.aT rfl)<|.ba (hR.weaken da) (λu v=>?_)
 subst v
 refine .q .not<|.zn<|.cond rfl (λk=>?_) λk=>?_
 refine .sr<|.ag rfl<|.az rfl<|.ret (aK (bj _ (.two (.tmp rfl) (.tmp rfl)) bz.jS ?_))
 ·refine⟨[],rfl,sZ,[],?_,.nil,?_⟩
  ·rw[a,afx (by simpa using k)]
  ·rw[a,afx (by simpa using k)];rfl
 have N:c.plain.right isWord dj=true:=by simpa using k
 obtain⟨L,Z⟩:=a2 N
 rw[afw (by rw[N];simp)]at a
 refine .kn<|.sr<|.q (.aT rfl)<|.dh (X.weaken da) (λu J v=>?_)
 obtain⟨o,m,rfl,y,v⟩:∃(o:Option Addr) (m:Bool),u=.tuple [.pointer o,.bool m].toArray/\m=decide c.plain.dR/\(m=true->∃xb,o=some ⟨xb,0,none⟩/\pW xb c J):=by
  rcases v with⟨i,xb,rfl,V⟩|⟨i,rfl⟩
  ·exact⟨_,true,rfl,(decide_eq_true i).symm,λ_=>⟨xb,rfl,V⟩⟩
  ·exact⟨_,false,rfl,(af5 i).symm,λG=>(by cases G)⟩
 refine .mo rfl<|.q .extract<|.q .extract<|.ag rfl<|.ag rfl<|.zs<|.sr<|.mo rfl<|.q .not<|.zn<|.cond rfl (λs=>?_) λs=>?_
 refine .sr<|.ag rfl<|.az rfl<|.ret (aK (bj _ (.two (.tmp rfl) (.tmp rfl)) bz.jS ?_))
 ·have d:m=false:=by simpa using s
  rw[d]at y
  have i:¬c.plain.dR:=bF y.symm
  refine⟨[],rfl,sZ,[],?_,.nil,?_⟩
  ·rw[a,afx i]
  ·rw[a,afx i];rfl
 have M:m=true:=by simpa using s
 obtain⟨xb,rfl,W⟩:=v M
 rw[M]at y
 have i:c.plain.dR:=bX y.symm
 rw[afw (λG=>G i)]at a
 obtain⟨vm,K⟩:=W.view h
 refine .kn<|.sr<|.mo rfl<|.dh ((a1 _ xb vm K (ym Z) L).weaken λb o hb=>hb.elim .inl λhb=>.inr (by simp[hb])) (λu O a7=>?_)
 obtain⟨w6,f,I,rfl,a0,a3,j⟩:=a7
 refine .mo rfl<|.q .extract<|.q .extract<|.ag rfl<|.ag rfl<|.zs<|.sr<|.mo rfl<|.q .not<|.zn<|.cond rfl (λt=>?_) λt=>?_
 have d:I=false:=by simpa using t
 have D:c.plain.lZ=none:=by
  cases he:c.plain.lZ with
  |none=>rfl
  |some E=>rw[he]at j;rw[j.1]at d;cases d
 rw[D]at a
 simp only at a
 refine .sr<|.ag rfl<|.az rfl<|.ret (aK (bj _ (.two (.tmp rfl) (.tmp rfl)) bz.jS ?_))
 ·refine⟨[],rfl,sZ,[],?_,.nil,?_⟩
  ·rw[a]
  ·rw[a];rfl
 have d:I=true:=by simpa using t
 obtain⟨E,D,S,U⟩:∃E,c.plain.lZ=some E/\f.map c.ed=E/\∀e∈f,c.valid e.1/\c.valid e.2.1:=by
  cases he:c.plain.lZ with
  |none=>rw[he]at j;rw[show I=false from j]at d;cases d
  |some E=>rw[he]at j;exact⟨E,rfl,j.2.1,j.2.2⟩
 subst S
 rw[D]at a
 simp only at a
 rw[<-Qh a6.symm]at a
 refine .kn<|.sr<|.mo rfl<|.mo rfl<|.dh ((a5 _ xb vm (K.mono (R':=λb o=>R b o\/(b,o)∈J\/(b,o)∈O) λb o hb=>hb.elim .inl λhb=>.inr (.inl hb)) L w6 f (a0.rs λp hp=>.inr (.inr hp)) a3 U).weaken λb o hb=>hb.elim .inl λhb=>.inr (by rcases hb with hb|hb<;>simp[hb])) (λu B z=>?_)
 obtain⟨x,r,rfl,l⟩:∃(x:Value) (r:Bool),u=.tuple [x,.bool r].toArray/\SA c r x B (settle (f.map c.ed) (total c.plain.bg+1) (List.replicate (total c.plain.bg) 0)):=by
  cases g:settle (f.map c.ed) (total c.plain.bg+1) (List.replicate (total c.plain.bg) 0)with
  |none=>rw[g]at z;exact⟨_,_,z,rfl⟩
  |some A=>rw[g]at z;obtain⟨w,ll,k,s,t⟩:=z;exact⟨w,true,k,rfl,ll,s,t⟩
 refine .mo rfl<|.q .extract<|.q .extract<|.ag rfl<|.ag rfl<|.zs<|.sr<|.mo rfl<|.q .not<|.zn<|.cond rfl (λC=>?_) λC=>?_
 have d:r=false:=by simpa using C
 have g:settle (f.map c.ed) (total c.plain.bg+1) (List.replicate (total c.plain.bg) 0)=none:=by
  cases g:settle (f.map c.ed) (total c.plain.bg+1) (List.replicate (total c.plain.bg) 0)with
  |none=>rfl
  |some A=>rw[g]at l;rw[l.1]at d;cases d
 rw[g]at a
 simp only at a
 refine .sr<|.ag rfl<|.az rfl<|.ret (aK (bj _ (.two (.tmp rfl) (.tmp rfl)) bz.jS ?_))
 ·refine⟨[],rfl,sZ,[],?_,.nil,?_⟩
  ·rw[a]
  ·rw[a];rfl
 have d:r=true:=by simpa using C
 obtain⟨A,g,ll,Y,a4⟩:∃A,settle (f.map c.ed) (total c.plain.bg+1) (List.replicate (total c.plain.bg) 0)=some A/\∃ll,NN (sg B) x ll/\ll.map (·.2)=rows c.plain.bg A:=by
  cases g:settle (f.map c.ed) (total c.plain.bg+1) (List.replicate (total c.plain.bg) 0)with
  |none=>rw[g]at l;rw[show r=false from l]at d;cases d
  |some A=>rw[g]at l;exact⟨A,rfl,l.2⟩
 rw[g]at a
 simp only at a
 refine .kn<|.sr<|.mo rfl<|.ag rfl<|.az rfl<|.ret (bj _ (.two (.tmp rfl) (.tmp rfl)) (.one [0] _) ?_)
 ·refine⟨B,by simp[take],x,ll,?_,Y,?_⟩
  ·rw[a]
  ·rw[a];exact a4
def qg(r:Rl):Rl:=⟨r.name,r.types.take 9,r.nodes.take 66⟩
def rJ(s:Sp):Sp:=⟨short s.name 40,(s.bN.take 6).map qg⟩
def iH(c:Cf):Cf:=⟨(c.bg.take 5).map rJ,c.scopes.take 5⟩
theorem cb.is.taken{R:ay}{i g d c:Value}{r:Rl}(h:cb.is R ⟨i,g,r⟩){R':ay}(j:∀b o,R b o->R' b o){n m:Nat}(f:RS R' 2 Ty.enc d (r.types.take n))(e:RS R' 5 Nd.enc c (r.nodes.take m)):cb.is R' ⟨d,c,⟨r.name,r.types.take n,r.nodes.take m⟩⟩:=
 ⟨h.n,f,e,λx a=>h.ft x (agc a),λx a=>h.fd x (agc a)⟩
theorem My(c:bJ)(R:ay)(h:c.is R):Spec prog 22 [.agg c.enc.toArray] R [] λu H'=>∃T,H'=[T]/\∃c':bJ,u=.agg c'.enc.toArray/\c'.is (λb o=>R b o\/(b,o)∈T)/\c'.plain=iH c.plain:=by
 obtain⟨vs,vc,K,A⟩:=c
 have J:=h.ss
 have Z:=h.sc
 have i1:=J.aB
 have i2:=Z.aB
 simp only at J Z i1 i2
 have e0:=J.le
 have d9:=Z.le
 refine Spec.body func22 rfl results22 ntmps22 rfl ?_
 refine .sr ?_
 refine .cx rfl (λO=>?_)
 refine .bU (λQ=>?_)
 refine .z ?_
 refine .q .cR ?_
 refine .bU (λD=>?_)
 refine .bP rfl rfl<|.zs<|.sr<|.az rfl<|.block ?_
 refine .cF [(1,_),(2,_),(3,_)] (X:=Nat×Value×List cq×ax×ax) (λy=>(y.1<=5/\y.1<=K.length)/\OS 164 2 cq.enc y.2.1 y.2.2.1 y.2.2.2.1/\(∀s∈y.2.2.1,s.is (λb o=>R b o\/(b,o)∈y.2.2.2.2))/\y.2.2.1.map (·.plain)=((K.take y.1).map (·.plain)).map rJ) (λy E=>(4,iN y.1)::E) (λy G=>y.2.2.2.1::y.2.2.2.2::bl D [y.2.1,sZ] 25::G) (λy=>5-y.1) (0,sZ,[],[],[]) ⟨⟨by simp,by simp⟩,OS.nil,λs a=>(by cases a),by simp⟩ kE.c.c.c.c bz.iK ?_
 rintro⟨i,w,L,M,C⟩ ⟨⟨b8,hi⟩,hO,f,V⟩
 simp only at b8 hi hO f V⊢
 have io:=hO.aB
 have d8:L.length=i:=by have:=afD List.length V;rw[afy,afy,afy,afG]at this;omega
 refine .seq<|.seq ?_
 refine bx.cZ [(1,_),(2,_),(3,_),(4,_)] kE.c.c.c.c (X:=Unit) (λ_=>True) (λ_ E=>(21,.bool (decide (i<K.length/\i<5)))::E) (λ_=>[M,C,bl D [w,sZ] 25,bl Q [sZ,sZ] 25,bl O [vs,vc] 25]) ?_ ?_
 refine .region<|.mo rfl<|.fa rfl<|.lo rfl<|.q (.bO J) ?_
 refine .q .lss<|.mo rfl ?_
 refine .split (t:=18) rfl (λH=>?_) (λH=>?_)
 refine .gT H<|.mo rfl<|.gT H<|.q .lss<|.q (.aU H) ?_
 refine .nil ?_
 ·exact aG () afC (kE.c.c.c.c.ca rfl (by clear f;grind)) rH
 refine .gF H<|.gF H<|.q (.aR H) ?_
 refine .nil ?_
 ·exact aG () afC (kE.c.c.c.c.ca rfl (by clear f;grind)) rH
 intro y l
 refine aw ?_
 refine .cond rfl (λh1=>?_) λh1=>?_
 obtain⟨b0,c6⟩:=bX h1
 obtain⟨⟨B,sv,m⟩,a⟩:=bW b0
 have b6:=h.all _ (aW a)
 have a6:RS R 3 cb.enc sv m:=b6.rs
 have e1:=a6.le
 refine .kn<|.seq<|.block<|.sr<|.fa rfl<|.lo rfl<|.mo rfl ?_
 refine .bG i J a (λe5=>?_)
 refine .fa rfl<|.lo rfl ?_
 refine .ba (Qq B 40 _) (λu hu=>?_)
 subst hu
 refine .q .cR ?_
 refine .bU (λb5=>?_)
 refine .bP rfl rfl<|.zs<|.sr<|.az rfl<|.block ?_
 refine .cF [(1,_),(2,_),(3,_),(4,_),(5,_)] (X:=Nat×Value×List cb×ax) (λy=>(y.1<=6/\y.1<=m.length)/\OS 167 3 cb.enc y.2.1 y.2.2.1 y.2.2.2/\(∀r∈y.2.2.1,r.is R)/\y.2.2.1.map (·.r)=((m.take y.1).map (·.r)).map qg) (λy E=>(6,iN y.1)::E) (λy G=>y.2.2.2::bl b5 [.string (short B 40),y.2.1] 164::G) (λy=>6-y.1) (0,sZ,[],[]) ⟨⟨by simp,by simp⟩,OS.nil,λs a=>(by cases a),by simp⟩ kE.c.c.c.c.c.c bz.fH ?_
 rintro⟨k,w2,L2,T2⟩ ⟨⟨c3,hk⟩,a2,U,a1⟩
 simp only at c3 hk a2 U a1⊢
 have c9:=a2.aB
 have d7:L2.length=k:=by have:=afD List.length a1;rw[afy,afy,afy,afG]at this;omega
 refine .seq<|.seq ?_
 refine bx.cZ [(1,_),(2,_),(3,_),(4,_),(5,_),(6,_)] kE.c.c.c.c.c.c (X:=Unit) (λ_=>True) (λ_ E=>(44,.bool (decide (k<m.length/\k<6)))::E) (λ_=>[T2,bl b5 [.string (short B 40),w2] 164,M,C,bl D [w,sZ] 25,bl Q [sZ,sZ] 25,bl O [vs,vc] 25]) ?_ ?_
 refine .region<|.mo rfl<|.fa rfl<|.lo rfl<|.mo rfl ?_
 refine .bG i J a (λe6=>?_)
 refine .fa rfl<|.lo rfl<|.q (.bO a6) ?_
 refine .q .lss<|.mo rfl ?_
 refine .split (t:=41) rfl (λI=>?_) (λI=>?_)
 refine .gT I<|.mo rfl<|.gT I<|.q .lss<|.q (.aU I) ?_
 refine .nil ?_
 ·exact aG () afC (kE.c.c.c.c.c.c.ca rfl (by clear f U;grind)) rH
 refine .gF I<|.gF I<|.q (.aR I) ?_
 refine .nil ?_
 ·exact aG () afC (kE.c.c.c.c.c.c.ca rfl (by clear f U;grind)) rH
 intro y l
 refine aw ?_
 refine .cond rfl (λh2=>?_) λh2=>?_
 obtain⟨a9,c5⟩:=bX h2
 obtain⟨⟨vt,vn,r⟩,Y⟩:=bW a9
 have a4:=b6.all _ (aW Y)
 have a7:RS R 2 Ty.enc vt r.types:=a4.t
 have a5:RS R 5 Nd.enc vn r.nodes:=a4.d
 have e2:cC (cb.enc ⟨vt,vn,r⟩):=⟨a4.dg⟩
 refine .kn<|.seq<|.block<|.sr<|.fa rfl<|.lo rfl<|.mo rfl ?_
 refine .bG i J a (λe7=>?_)
 refine .fa rfl<|.lo rfl<|.mo rfl ?_
 refine .bG k a6 Y (λe8=>?_)
 refine .q (.aT rfl) ?_
 refine .bU (λb7=>?_)
 refine .bP rfl rfl<|.zs<|.sr<|.fa rfl<|.lo rfl<|.q (.bO a7) ?_
 refine .q .gtr<|.zn ?_
 refine bx.cZ [(1,_),(2,_),(3,_),(4,_),(5,_),(6,_),(7,_)] kE.c.c.c.c.c.c.c (X:=Value) (λv=>RS R 2 Ty.enc v (r.types.take 9)) (λ_ E=>E) (λv=>[bl b7 [.string r.name,v,vn] 167,T2,bl b5 [.string (short B 40),w2] 164,M,C,bl D [w,sZ] 25,bl Q [sZ,sZ] 25,bl O [vs,vc] 25]) ?_ ?_
 refine .cond rfl (λh3=>?_) λh3=>?_
 refine .region<|.fa rfl<|.lo rfl ?_
 refine .mS 0 9 a7 rfl ⟨_,rfl⟩ (by omega) (by have:=bX h3;omega) (λv2 a0=>?_)
 have d0:=a0.aB
 refine .fa rfl<|.dz rfl rfl<|.nil ?_
 ·exact aG v2 (by simpa using a0) kE.c.c.c.c.c.c.c rH
 refine .skip ?_
 ·exact aG vt (by rw[dP (kM h3)];exact a7) kE.c.c.c.c.c.c.c rH
 intro x hx
 have c8:RS R 2 Ty.enc x (r.types.take 9):=hx
 clear hx
 obtain⟨xt,rfl⟩:∃z,z=x:=⟨_,rfl⟩
 refine aw<|.seq<|.sr<|.fa rfl<|.lo rfl<|.q (.bO a5) ?_
 refine .q .gtr<|.zn ?_
 refine bx.cZ [(1,_),(2,_),(3,_),(4,_),(5,_),(6,_),(7,_)] kE.c.c.c.c.c.c.c (X:=Value) (λv=>RS R 5 Nd.enc v (r.nodes.take 66)) (λ_ E=>E) (λv=>[bl b7 [.string r.name,xt,v] 167,T2,bl b5 [.string (short B 40),w2] 164,M,C,bl D [w,sZ] 25,bl Q [sZ,sZ] 25,bl O [vs,vc] 25]) ?_ ?_
 refine .cond rfl (λh4=>?_) λh4=>?_
 refine .region<|.fa rfl<|.lo rfl ?_
 refine .mS 0 66 a5 rfl ⟨_,rfl⟩ (by omega) (by have:=bX h4;omega) (λv2 a0=>?_)
 have d0:=a0.aB
 refine .fa rfl<|.dz rfl rfl<|.nil ?_
 ·exact aG v2 (by simpa using a0) kE.c.c.c.c.c.c.c rH
 refine .skip ?_
 ·exact aG vn (by rw[dP (kM h4)];exact a5) kE.c.c.c.c.c.c.c rH
 intro x hx
 have c7:RS R 5 Nd.enc x (r.nodes.take 66):=hx
 have b4:cb.is R ⟨xt,x,qg r⟩:=a4.taken (λb o e=>e) c8 c7
 refine aw<|.sr<|.fa rfl<|.lo rfl<|.az rfl<|.region<|.mo rfl<|.q (.aT rfl) ?_
 refine .dY (λd2=>?_)
 refine .append a2 (RS.lits (xs:=[(⟨xt,x,qg r⟩:cb)]) rfl (by simp[cb.enc]) (by intro y l;rw[afA]at l;subst l;exact b4.dg)) (by simp only[afB];omega) (λv5 N g=>?_)
 have i5:=g.aB
 refine .fa rfl<|.dz rfl rfl<|.nil<|aX<|aw<|.region<|.mo rfl ?_
 refine .ia (k+1) .add ?_
 refine .ag rfl<|.nil ?_
 ·exact bm (k+1,v5,L2++[⟨xt,x,qg r⟩],N) ⟨⟨c5,a9⟩,g,λq hq=>by
   rcases afH.1 hq with hq|hq
   ·exact U q hq
   ·rw[afA]at hq;subst hq;exact b4,by simp only;rw[ec Y,afz,afz,afz,a1];rfl⟩ (by simp only;omega) kE.c.c.c.c.c.c (aQ [2,2,2,2,2,2,2])
 refine .exit<|bo<|bs<|bp<|aw<|.sr<|.fa rfl<|.lo rfl<|.az rfl<|.region<|.mo rfl<|.q (.aT rfl) ?_
 refine .dY (λd3=>?_)
 refine .append hO (RS.lits (xs:=[(⟨short B 40,w2,L2⟩:cq)]) rfl (by simp[cq.enc]) (by intro y l u hu;rw[afA]at l;subst l;simp only[cq.enc,afN,afQ,afR]at hu;rcases hu with rfl|rfl;rfl;exact c9.h)) (by simp only[afB];omega) (λv5 N g=>?_)
 have i5:=g.aB
 refine .fa rfl<|.dz rfl rfl<|.nil<|aX<|aw<|.region<|.mo rfl ?_
 refine .ia (i+1) .add ?_
 refine .ag rfl<|.nil ?_
 ·exact bm (i+1,v5,L++[⟨short B 40,w2,L2⟩],N,T2++C) ⟨⟨c6,b0⟩,g,λq hq=>by
   rcases afH.1 hq with hq|hq
   ·exact(f q hq).mono λb o e=>e.elim .inl λe=>.inr (agb _ e)
   ·rw[afA]at hq
    subst hq
    refine⟨?_,a2.rs λp W=>.inr (List.mem_append_left _ W),λr Y=>(U r Y).mono λb o e=>.inl e⟩
    have:=Qp (s:=B) (n:=40)
    simp only
    omega,by
   simp only
   rw[ec a,afz,afz,afz,V]
   have c4:m.take k=m.take 6:=by
    have d5:=bF h2
    by_cases h6:k=6
    ·rw[h6]
    ·rw[dP (show m.length<=k by omega),dP (show m.length<=6 by omega)]
   simp only[afS,afW]
   congr 1
   unfold cq.plain rJ
   simp only
   rw[a1,c4]
   simp[List.map_take]⟩ (by simp only;omega) kE.c.c.c.c ((aQ [3,1,2,2,2,2]).trans (bz.eS (by simp[take,bM,dl,bJ.enc])))
 have b9:K.take i=K.take 5:=by
  have d4:=bF h1
  by_cases S:i=5
  ·rw[S]
  ·rw[dP (show K.length<=i by omega),dP (show K.length<=5 by omega)]
 rw[b9]at V
 refine .exit<|bo<|bs<|bp<|aw<|.seq<|.sr<|.az rfl<|.block ?_
 refine .cF [(1,_),(2,_),(3,_)] (X:=Nat×Value×ax) (λy=>(y.1<=5/\y.1<=A.length)/\OS 169 4 Sc.enc y.2.1 (A.take y.1) y.2.2) (λy E=>(10,iN y.1)::E) (λy G=>y.2.2::M::C::bl D [w,y.2.1] 25::G) (λy=>5-y.1) (0,sZ,[]) ⟨⟨by simp,by simp⟩,OS.nil⟩ kE.c.c.c.c bz.fH ?_
 rintro⟨j,w3,T3⟩ ⟨⟨c0,hj⟩,a3⟩
 simp only at c0 hj a3⊢
 have e3:=a3.aB
 refine .seq<|.seq ?_
 refine bx.cZ [(1,_),(2,_),(3,_),(10,_)] kE.c.c.c.c (X:=Unit) (λ_=>True) (λ_ E=>(94,.bool (decide (j<A.length/\j<5)))::E) (λ_=>[T3,M,C,bl D [w,w3] 25,bl Q [sZ,sZ] 25,bl O [vs,vc] 25]) ?_ ?_
 refine .region<|.mo rfl<|.fa rfl<|.lo rfl<|.q (.bO Z) ?_
 refine .q .lss<|.mo rfl ?_
 refine .split (t:=91) rfl (λF=>?_) (λF=>?_)
 refine .gT F<|.mo rfl<|.gT F<|.q .lss<|.q (.aU F) ?_
 refine .nil ?_
 ·exact aG () afC (kE.c.c.c.c.ca rfl (by clear f;grind)) rH
 refine .gF F<|.gF F<|.q (.aR F) ?_
 refine .nil ?_
 ·exact aG () afC (kE.c.c.c.c.ca rfl (by clear f;grind)) rH
 intro y l
 refine aw ?_
 refine .cond rfl (λS=>?_) λS=>?_
 obtain⟨a8,c2⟩:=bX S
 obtain⟨s,a⟩:=bW a8
 refine .kn<|.seq<|.block<|.sr<|.fa rfl<|.lo rfl<|.az rfl<|.region<|.mo rfl<|.fa rfl<|.lo rfl<|.mo rfl ?_
 refine .bG j Z a (λe4=>?_)
 refine .q (.aT rfl) ?_
 refine .dY (λd1=>?_)
 refine .append a3 (RS.lits (xs:=[s]) rfl (by simp[Sc.enc]) (by simp[Sc.enc,aB])) (by simp only[afG,afB];omega) (λv5 N g=>?_)
 have i5:=g.aB
 refine .fa rfl<|.dz rfl rfl<|.nil<|aX<|aw<|.region<|.mo rfl ?_
 refine .ia (j+1) .add ?_
 refine .ag rfl<|.nil ?_
 ·exact bm (j+1,v5,N) ⟨⟨c2,a8⟩,by simp only;rw[ec a];exact g⟩ (by simp only;omega) kE.c.c.c.c (aQ [1,1,1,1,1,1])
 refine .exit<|bo<|bs<|bp<|aw<|.sr<|.q (.aT rfl)<|.bP rfl rfl<|.zn ?_
 refine .ret (bj _ (.one (.fE rfl rfl)) (.one [1,1,0] _) ?_)
 ·refine⟨_,rfl,⟨w,w3,L,A.take j⟩,rfl,⟨hO.rs λp W=>.inr (by simp[take,bM,W]),a3.rs λp W=>.inr (by simp[take,bM,W]),λs a=>(f s a).mono λb o e=>e.elim .inl λe=>.inr (by simp[take,bM,e]),λs a=>h.fc s (agc a)⟩,?_⟩
  have c1:A.take j=A.take 5:=by
   have d6:=bF S
   by_cases h6:j=5
   ·rw[h6]
   ·rw[dP (show A.length<=j by omega),dP (show A.length<=5 by omega)]
  unfold bJ.plain iH
  simp only
  rw[V,c1,List.map_take]
namespace LIN
theorem nP(v:Value)(xs:List Nat)(R:ay)(h:RS R 1 di v xs)(i:xs.length<=1000000):
  Spec prog 143 [v] R [] λv' H'=>∃T,H'=[T]/\OS 3 1 di v' xs T:=by
 obtain⟨b,d,rfl⟩:=h.val
 have f:∀H,RS (Rx R H) 1 di (.slice b xs.length d) xs:=λH=>h.rx
 refine Spec.hB (H':=[[]]) (by simp)<|Spec.body func143 rfl results143 ntmps143 rfl<|.sr<|.ag rfl<|.zs<|.sr<|.mo rfl<|.q (.rF rfl rfl)<|.zn<|.cond rfl (λa=>?_) λa=>?_
 refine .sr<|.az rfl<|.ret (aK (bj _ (.one (.tmp rfl)) (.one [0] _) ?_))
 ·obtain rfl:b=none:=by simpa using a
  have:=h.sj
  subst this
  exact⟨[],rfl,OS.nil⟩
 refine .kn<|.sr ?_
 refine .rz (λg=>?_)
 refine .mo rfl ?_
 refine .append (OS.empty (enc:=di) (sz:=1)) (f _) (by simp;omega) (λv' c e=>?_)
 refine .az rfl<|.ret (bj _ (.one (.tmp rfl)) (.one [0] _) ?_)
 ·exact⟨c,by simp[take],by simpa using e⟩
end LIN
def bJ.ug(c:bJ):Prop:=c.iZ/\c.qf/\c.scopes.length<=16
theorem yn{c:bJ}(h:c.plain.right isWord dj=true):c.ug:=by
 obtain⟨b,d⟩:=uh h
 refine⟨b,ym d,?_⟩
 have a:c.plain.jq isWord=false:=by
  unfold Cf.right at h
  simp only[Bool.and_eq_true,agd]at h
  exact h.2
 rw[qw]at a
 simp only[Bool.or_eq_false_iff,decide_eq_false_iff_not,Nat.not_lt]at a
 exact a.1.2
theorem xr(c:bJ)(R:ay)(h:c.is R)(hf:c.ug):Spec prog 68 [.agg c.enc.toArray] R [] λu H'=>∃T,H'=[T]/\∃c':bJ,u=.agg c'.enc.toArray/\c'.is (sg T)/\c'.plain=c.plain:=by
 obtain⟨⟨b4,a4⟩,h8,b0⟩:=hf
 obtain⟨vs,vc,O,a7⟩:=c
 have F:=h.ss
 have a0:=h.sc
 have i1:=F.aB
 have i2:=a0.aB
 simp only at F a0 i1 i2 b4 a4 b0
 have c4:=F.le
 refine Spec.body func68 rfl results68 ntmps68 rfl<|.sr ?_
 refine .cx rfl (λb1=>?_)
 refine .bU (λb2=>?_)
 refine .z ?_
 refine .bU (λb3=>?_)
 refine .zs<|.sr<|.fa rfl<|.lo rfl<|.q (.bO F)<|.mo rfl<|.zn<|.block<|.cF [(1,_),(2,_),(3,_),(10,_),(11,_)] (X:=Nat×Value×List cq×ax×ax) (λy=>y.1<=O.length/\OS 164 2 cq.enc y.2.1 y.2.2.1 y.2.2.2.1/\(∀s∈y.2.2.1,s.is (sg y.2.2.2.2))/\y.2.2.1.map (·.plain)=(O.take y.1).map (·.plain)) (λy E=>(12,iN y.1)::E) (λy G=>y.2.2.2.1::y.2.2.2.2::bl b3 [y.2.1,sZ] 25::G) (λy=>O.length-y.1) (0,sZ,[],[],[]) ⟨by simp,OS.nil,λs e=>(by cases e),by simp⟩ kE.c.c.c.c.c.c bz.iK ?_
 rintro⟨i,w,L,To,Ti⟩ ⟨hi,J,Y,C⟩
 simp only at hi J Y C⊢
 have io:=J.aB
 have c3:L.length=i:=by have:=afD List.length C;rw[afy,afy,afG]at this;omega
 refine .sr<|.q .lss<|.zs<|.cond rfl (λV=>?_) λV=>?_
 have a2:i<O.length:=cy V
 obtain⟨⟨x,sv,j⟩,e⟩:=bW a2
 have N:=h.all _ (aW e)
 have M:RS R 3 cb.enc sv j:=N.rs
 have c8:=M.aB
 have c5:=M.le
 have d0:cC (cq.enc ⟨x,sv,j⟩):=⟨N.dg⟩
 have a9:=a4 _ (aW e)
 simp only at a9
 refine .kn<|.seq<|.block<|.sr ?_
 refine .bG i F e (λd4=>?_)
 refine .q (.aT rfl) ?_
 refine .bU (λb5=>?_)
 refine .bP rfl rfl<|.z<|.fa rfl<|.lo rfl ?_
 refine .q .cR ?_
 refine .bU (λb6=>?_)
 refine .bP rfl rfl<|.zs<|.sr<|.fa rfl<|.lo rfl<|.q (.bO M)<|.mo rfl<|.zn<|.block<|.cF [(1,_),(2,_),(3,_),(6,_),(10,_),(11,_),(12,_),(20,_),(21,_)] (X:=Nat×Value×List cb×ax×ax) (λy=>y.1<=j.length/\OS 167 3 cb.enc y.2.1 y.2.2.1 y.2.2.2.1/\(∀r∈y.2.2.1,r.is (sg y.2.2.2.2))/\y.2.2.1.map (·.r)=(j.take y.1).map (·.r)) (λy E=>(22,iN y.1)::E) (λy G=>y.2.2.2.1::y.2.2.2.2::bl b6 [.string x,y.2.1] 164::G) (λy=>j.length-y.1) (0,sZ,[],[],[]) ⟨by simp,OS.nil,λs e=>(by cases e),by simp⟩ kE.c.c.c.c.c.c.c.c.c.c bz.iK ?_
 rintro⟨k,w2,A,T2,S⟩ ⟨hk,K,Z,D⟩
 simp only at hk K Z D⊢
 have b9:=K.aB
 have c2:A.length=k:=by have:=afD List.length D;rw[afy,afy,afG]at this;omega
 refine .sr<|.q .lss<|.zs<|.cond rfl (λW=>?_) λW=>?_
 have a1:k<j.length:=cy W
 obtain⟨⟨vt,vn,r⟩,l⟩:=bW a1
 have m:=N.all _ (aW l)
 have a5:RS R 2 Ty.enc vt r.types:=m.t
 have a3:RS R 5 Nd.enc vn r.nodes:=m.d
 have c9:=a5.aB
 have c7:=a3.aB
 have c6:cC (cb.enc ⟨vt,vn,r⟩):=⟨m.dg⟩
 obtain⟨b7,a8,_⟩:=h8 _ (aW e) _ (aW l)
 simp only at b7 a8
 refine .kn<|.seq<|.block<|.sr ?_
 refine .bG k M l (λd5=>?_)
 refine .q (.aT rfl) ?_
 refine .bU (λb8=>?_)
 refine .bP rfl rfl<|.zn ?_
 refine bx.cZ [(1,_),(2,_),(3,_),(6,_),(10,_),(11,_),(12,_),(20,_),(21,_),(22,_)] kE.c.c.c.c.c.c.c.c.c.c (X:=(Value×ax)×(Value×ax)×(Value×ax)) (λy=>OS 167 3 cb.enc y.1.1 (A++[(⟨y.2.1.1,y.2.2.1,r⟩:cb)]) y.1.2/\OS 249 2 Ty.enc y.2.1.1 r.types y.2.1.2/\OS 199 5 Nd.enc y.2.2.1 r.nodes y.2.2.2) (λ_ E=>E) (λy=>[y.1.2,y.2.1.2,y.2.2.2,S,bl b6 [.string x,y.1.1] 164,bl b5 (cq.enc ⟨x,sv,j⟩) 164,To,Ti,bl b3 [w,sZ] 25,bl b2 [sZ,sZ] 25,bl b1 [vs,vc] 25]) ?_ ?_
 refine .cS [12,14] mixed<|.tO 0 rfl (.fieldAddr rfl)<|.tO 1 rfl (.cm rfl)<|.tO 2 rfl (.fieldAddr rfl)<|.tO 3 rfl (.cm rfl)<|.tO 4 rfl (.fieldAddr rfl)<|.tO 5 rfl (.cm rfl)<|.tO 7 rfl (.fieldAddr rfl)<|.tO 8 rfl (.cm rfl)<|.sT 6 rfl<|.dh (LTY.nP vt r.types _ a5.rx (by omega)) (λut U v=>?_)
 obtain⟨pt,ct,rfl,_⟩:=v.shape
 have d3:=v.aB
 refine .nil<|Next.sub<|.sT 9 rfl<|.dh (LND.nP vn r.nodes _ a3.rx (by omega)) (λun Q p=>?_)
 obtain⟨pn,cn,rfl,_⟩:=p.shape
 have d2:=p.aB
 refine .nil<|Next.sub<|.tO 10 rfl .cR<|.sT 11 rfl ?_
 refine .dY (λc0=>?_)
 refine .nil<|Next.sub<|.sT 12 rfl<|.append K (RS.lits (xs:=[(⟨.slice pt r.types.length ct,.slice pn r.nodes.length cn,r⟩:cb)]) rfl (by simp[cb.enc]) (by intro y g u H;rw[afA]at g;subst g;simp only[cb.enc,afN,afQ,afR]at H;rcases H with rfl|rfl|rfl<;>rfl)) (by simp only[afB];omega) (λI B f=>?_)
 have i5:=f.aB
 refine .nil<|Next.mod rfl<|.tK 13 rfl (.fG rfl)<|.sT 14 rfl<|.dz rfl rfl<|.nil<|Next.mod rfl<|RA.nil (by kernel_rfl) ?_
 ·exact aG ((I,B),(_,U),(_,Q)) ⟨f,v,p⟩ ((((((((((kE.d rfl).d rfl).d rfl).d rfl).d rfl).d rfl).d rfl).d rfl).d rfl).d rfl) (aQ [4,2,1,2,2,2,2,2,2,2,2])
 intro y g
 obtain⟨⟨I,B⟩,⟨ut,U⟩,⟨un,Q⟩⟩:=y
 obtain⟨f,v,p⟩:=g
 simp only at f v p⊢
 have i5:=f.aB
 refine aX<|aw<|.region<|.ia (k+1) .add<|.mo rfl<|.nil ?_
 ·exact bm (k+1,I,A++[⟨ut,un,r⟩],B,U++(Q++S)) ⟨a1,f,λq hq=>by
   rcases afH.1 hq with hq|hq
   ·exact(Z q hq).mono λb o a=>gS (gS a)
   ·rw[afA]at hq
    subst hq
    exact⟨m.n,v.sg.mono λb o a=>iM a,p.sg.mono λb o a=>gS (iM a),m.ft,m.fd⟩,by simp only;rw[ec l,afz,afz,D];rfl⟩ (by simp only;omega) kE.c.c.c.c.c.c.c.c.c.c (bz.eS (by simp[dl,bJ.enc,cq.enc]))
 rw[dP (kM W)]at D
 refine .exit<|bo<|bs<|bp<|aw<|.region<|.fa rfl<|.lo rfl<|.q (.aT rfl) ?_
 refine .dY (λc1=>?_)
 refine .append J (RS.lits (xs:=[(⟨x,w2,A⟩:cq)]) rfl (by simp[cq.enc]) (by intro y g u H;rw[afA]at g;subst g;simp only[cq.enc,afN,afQ,afR]at H;rcases H with rfl|rfl;rfl;exact b9.h)) (by simp only[afB];omega) (λI B f=>?_)
 have i5:=f.aB
 refine .fa rfl<|.dz rfl rfl<|.nil<|aX<|aw<|.region<|.ia (i+1) .add<|.mo rfl<|.nil ?_
 ·exact bm (i+1,I,L++[⟨x,w2,A⟩],B,T2++(S++Ti)) ⟨a2,f,λq hq=>by
   rcases afH.1 hq with hq|hq
   ·exact(Y q hq).mono λb o a=>gS (gS a)
   ·rw[afA]at hq
    subst hq
    exact⟨N.n,K.sg.mono λb o a=>iM a,λr l=>(Z r l).mono λb o a=>gS (iM a)⟩,by
   simp only
   rw[ec e,afz,afz,C]
   simp only[afS,afW]
   congr 1
   unfold cq.plain
   simp only
   rw[D]⟩ (by simp only;omega) kE.c.c.c.c.c.c ((aQ [5,1,1,3,3,3,3]).trans (bz.eS (by simp[take,bM,dl,bJ.enc])))
 rw[dP (kM V)]at C
 refine .exit<|bo<|bs<|bp<|aw<|.sr<|.fa rfl<|.lo rfl<|.dh (LSC.nP vc a7 _ a0.rx (by omega)) (λuc Tc a6=>?_)
 have d1:=a6.aB
 refine .fa rfl<|.dz rfl rfl<|.z<|.q (.aT rfl)<|.bP rfl rfl<|.zn ?_
 refine .ret (bj _ (.one (.fE rfl rfl)) (.one [1,1,0] _) ?_)
 ·refine⟨_,rfl,⟨w,uc,L,a7⟩,rfl,⟨J.sg.mono λb o a=>?_,a6.sg.mono λb o a=>?_,λs e=>(Y s e).mono λb o a=>?_,h.fc⟩,?_⟩
  ·simp only[take,bM,af0,af4,afT,afU,afK];exact iM a
  ·simp only[take,bM,af0,af4,afT,afU,afK];exact gS (gS a)
  ·simp only[take,bM,af0,af4,afT,afU,afK];exact gS (iM a)
  ·unfold bJ.plain;simp only;rw[C]
def cb.zero:cb:=⟨sZ,sZ,⟨⟨#[]⟩,[],[]⟩⟩
def mV(c:bJ)(t:Ty)(r:cb)(ok:Bool):Prop:=match bR c.plain.all t with
 |none=>ok=false/\r=cb.zero
 |some j=>ok=true/\∃p s,c.bg[p.1]? =some s/\s.bN[p.2]? =some r/\c.ix p=j
theorem MH{l:List (ByteArray×Rl)}{t:Ty}(h:∀j x,j<l.length->l[j]? =some x->fo x≠t):bR l t=none:=by
 unfold bR
 rw[List.findIdx?_eq_none_iff]
 intro x b
 obtain⟨j,a,e⟩:=age.1 b
 have:=h j x a (by rw[aV a,e])
 simpa using this
theorem MI{l:List (ByteArray×Rl)}{t:Ty}{i:Nat}{x:ByteArray×Rl}(d:l[i]? =some x)(b:fo x=t)(h:∀j y,j<i->l[j]? =some y->fo y≠t):bR l t=some i:=by
 obtain⟨c,e⟩:=afM.1 d
 unfold bR
 rw[List.findIdx?_eq_some_iff_getElem]
 refine⟨c,by rw[e];exact decide_eq_true b,λj a=>?_⟩
 have:=h j _ a (aV (by omega))
 simpa using this
theorem A2(c:bJ)(R:ay)(h:c.is R)(e b:ByteArray):Spec prog 144 [.agg c.enc.toArray,.string e,.string b] R [] λu H'=>H'=[]/\∃r ok,u=.tuple [.agg r.enc.toArray,.bool ok].toArray/\mV c ⟨e,b⟩ r ok:=by
 have J:=h.ss
 have b2:=J.le
 have a1:=h.all
 have a8:=pQ c.plain
 have a7:c.plain.bg.length=c.bg.length:=by unfold bJ.plain;simp
 have a5:∀(i:Nat) (s:cq),c.bg[i]? =some s->c.plain.bg[i]? =some s.plain:=λi s f=>pa f
 have a9:=λ(p:gw) (s:cq) (r:cb)=>o5 (c:=c) (p:=p) (s:=s) (r:=r)
 have O:∀i k,c.ix (i,k)=cJ c.plain.bg i+k:=λ_ _=>rfl
 have N:∀r ok,mV c ⟨e,b⟩ r ok=(match bR c.plain.all ⟨e,b⟩with
  |none=>ok=false/\r=cb.zero
  |some j=>ok=true/\∃p s,c.bg[p.1]? =some s/\s.bN[p.2]? =some r/\c.ix p=j):=λ_ _=>rfl
 generalize hA:c.plain.all=A at *
 generalize C:cJ c.plain.bg=of at *
 have a2:of 0=0:=by rw[<-C];cases c.plain.bg<;>rfl
 refine Spec.body func144 rfl results144 ntmps144 rfl<|.sr ?_
 refine .cx rfl (λV=>?_)
 refine .bU (λW=>?_)
 refine .ag rfl<|.zs<|.sr<|.fa rfl<|.lo rfl<|.q (.bO J)<|.mo rfl<|.zn<|.block<|.cF [(1,_),(2,_),(6,_),(13,_),(14,_)] (X:=Nat) (λi=>i<=c.bg.length/\∀j x,j<of i->A[j]? =some x->fo x≠⟨e,b⟩) (λi E=>(15,iN i)::E) (λ_ G=>G) (λi=>c.bg.length-i) 0 ⟨afv _,λj x n=>by rw[a2]at n;omega⟩ kE.c.c.c.c.c.c rH ?_
 rintro i ⟨hi,T⟩
 refine .sr<|.q .lss<|.zs<|.cond rfl (λw=>?_) λw=>?_
 have S:i<c.bg.length:=cy w
 obtain⟨⟨l,v,d⟩,f⟩:=bW S
 have I:=a1 _ (aW f)
 have H:RS R 3 cb.enc v d:=I.rs
 have b4:=H.le
 have b7:cC (cq.enc ⟨l,v,d⟩):=⟨I.dg⟩
 have a4:=a5 i _ f
 have a3:=o7 a4
 rw[C,show(cq.plain ⟨l,v,d⟩).bN.length=d.length by simp[cq.plain]]at a3
 refine .kn<|.seq<|.block<|.sr ?_
 refine .bG i J f (λb8=>?_)
 refine .q (.aT rfl) ?_
 refine .bU (λY=>?_)
 refine .bP rfl rfl<|.z<|.fa rfl<|.lo rfl<|.q (.bO H)<|.mo rfl<|.zn<|.block<|.cF [(1,_),(2,_),(6,_),(9,_),(13,_),(14,_),(15,_),(20,_),(21,_)] (X:=Nat) (λk=>k<=d.length/\∀j x,j<of i+k->A[j]? =some x->fo x≠⟨e,b⟩) (λk E=>(22,iN k)::E) (λ_ G=>G) (λk=>d.length-k) 0 ⟨afv _,λj x n=>T j x (by omega)⟩ kE.c.c.c.c.c.c.c.c.c.c rH ?_
 rintro k ⟨hk,F⟩
 refine .sr<|.q .lss<|.zs<|.cond rfl (λm=>?_) λm=>?_
 have Q:k<d.length:=cy m
 obtain⟨⟨L,K,r⟩,o⟩:=bW Q
 have a6:=I.all _ (aW o)
 have b5:cC (cb.enc ⟨L,K,r⟩):=⟨a6.dg⟩
 have D:=a9 (i,k) _ _ f o
 rw[O]at D
 refine .kn<|.seq<|.block<|.sr ?_
 refine .bG k H o (λc0=>?_)
 refine .q (.aT rfl) ?_
 refine .bU (λU=>?_)
 refine .bP rfl rfl<|.zs ?_
 refine bx.cZ [(1,_),(2,_),(6,_),(9,_),(11,_),(13,_),(14,_),(15,_),(20,_),(21,_),(22,_)] kE.c.c.c.c.c.c.c.c.c.c.c (X:=Unit) (λ_=>True) (λ_ E=>(35,.bool (decide (l=e)&&decide (r.name=b)))::E) (λ_=>[bl U (cb.enc ⟨L,K,r⟩) 167,bl Y (cq.enc ⟨l,v,d⟩) 164,bl W [.string ⟨#[]⟩,sZ,sZ] 167,bl V c.enc 25]) ?_ ?_
 refine .region<|.fa rfl<|.lo rfl<|.mo rfl<|.q .eg<|.mo rfl<|.split (t:=30) rfl (λa=>?_) (λa=>?_)
 refine .gT a<|.fa rfl<|.gT a<|.lo rfl<|.gT a<|.mo rfl<|.gT a<|.q .eg<|.q (.aU a)<|.nil ?_
 ·exact aG () afC (kE.c.c.c.c.c.c.c.c.c.c.c.ca rfl (by simp[m,a])) rH
 refine .gF a<|.gF a<|.gF a<|.gF a<|.q (.aR a)<|.nil ?_
 ·exact aG () afC (kE.c.c.c.c.c.c.c.c.c.c.c.ca rfl (by simp[m,a])) rH
 intro y hy
 refine aw<|.cond rfl (λB=>?_) λB=>?_
 refine .sr<|.q (.aT rfl)<|.bP rfl rfl<|.az rfl ?_
 refine .ret (br (aK (cI (br (br (aK (cI (br (aK (bj _ (.two (.fE rfl rfl) (.tmp rfl)) (.none _) ?_))))))))))
 ·refine⟨rfl,⟨L,K,r⟩,true,rfl,?_⟩
  have M:l=e/\r.name=b:=by simpa using B
  rw[N,MI D (show(⟨l,r.name⟩:Ty)=_ by rw[M.1,M.2]) F]
  exact⟨rfl,(i,k),_,f,o,O i k⟩
 refine .skip<|aX<|aw<|.region<|.ia (k+1) .add<|.mo rfl<|.nil ?_
 ·exact bm (k+1) ⟨Q,λj x n g=>by
   rcases Nat.lt_or_ge j (of i+k)with hh|hh
   ·exact F j x hh g
   ·obtain rfl:j=of i+k:=by omega
    rw[D]at g
    cases g
    intro he
    injection he with e1 e2
    have Z:l=e:=e1
    have a0:r.name=b:=e2
    simp[Z,a0]at B⟩ (by omega) kE.c.c.c.c.c.c.c.c.c.c (aQ [1,1,1])
 have b1:k=d.length:=by have:=bF m;omega
 refine .exit<|bo<|bs<|bp<|aX<|aw<|.region<|.ia (i+1) .add<|.mo rfl<|.nil ?_
 ·exact bm (i+1) ⟨S,λj x n g=>F j x (by omega) g⟩ (by omega) kE.c.c.c.c.c.c (aQ [1,1])
 refine .exit<|bo<|bs<|bp<|aw<|.sr<|.q .cR<|.bP rfl rfl<|.az rfl ?_
 refine .ret (bj _ (.two (.fE rfl rfl) (.tmp rfl)) (.none _) ?_)
 ·refine⟨rfl,cb.zero,false,rfl,?_⟩
  have b0:of i=A.length:=by
   have:i=c.bg.length:=by have:=bF w;omega
   rw[this, <-a7, <-C, <-a8]
   rfl
  rw[N,MH λj x n g=>T j x (by omega) g]
  exact⟨rfl,rfl⟩
theorem Qo(t:Ty)(s:Sub)(R:ay):Spec prog 243 [.agg t.enc.toArray,.agg s.enc.toArray] R [] λu H'=>u=.bool (lB s t)/\H'=[]:=by
 obtain⟨e,d⟩:=t
 obtain⟨k,j,h,i⟩:=s
 refine Spec.body func243 rfl results243 ntmps243 rfl<|.sr ?_
 refine .cx rfl (λf=>?_)
 refine .cx rfl (λg=>?_)
 refine .ag rfl<|.zs<|.sr<|.fa rfl<|.lo rfl<|.q .gP<|.zn<|.cond rfl (λc=>?_) λc=>?_
 refine .sr<|.q (.aT rfl)<|.q .cR<|.q (.cast (.nT (xs:=Ty.enc ⟨e,d⟩) (ys:=Ty.enc ⟨⟨#[]⟩,⟨#[]⟩⟩) rfl rfl (Ty.kinds _) (Ty.kinds _)) (afD Value.bool (Ty.eq _ _)))<|.az rfl<|.ret (aK (aN rfl ?_))
 ·refine⟨afD _ ?_,rfl⟩
  simp only[lB]
  grind
 refine .kn<|.sr<|.fa rfl<|.lo rfl<|.q .gP<|.mo rfl<|.split (t:=14) rfl (λa=>?_) (λa=>?_)
 refine .gT a<|.fa rfl<|.gT a<|.lo rfl<|.gT a<|.fa rfl<|.gT a<|.fa rfl<|.gT a<|.lo rfl<|.gT a<|.q .eg<|.q (.aU a)<|.mo rfl<|.split (t:=22) rfl (λb=>?_) (λb=>?_)
 refine .gT b<|.fa rfl<|.gT b<|.lo rfl<|.gT b<|.fa rfl<|.gT b<|.lo rfl<|.gT b<|.q .eg<|.q (.aU b)<|.az rfl<|.ret (aN rfl ?_)
 ·refine⟨afD _ ?_,rfl⟩
  simp only[lB]
  grind
 refine .gF b<|.gF b<|.gF b<|.gF b<|.gF b<|.q (.aR b)<|.az rfl<|.ret (aN rfl ?_)
 ·refine⟨afD _ ?_,rfl⟩
  simp only[lB]
  grind
 refine .gF a<|.gF a<|.gF a<|.gF a<|.gF a<|.gF a<|.q (.aR a)<|.mo rfl<|.gX<|.gX<|.gX<|.gX<|.gX<|.q .cY<|.az rfl<|.ret (aN rfl ?_)
 ·refine⟨afD _ ?_,rfl⟩
  simp only[lB]
  grind
theorem B8(t:Ty)(s:Sub)(b c d:Value)(q:Nat)(R:ay) [pc:PC R (pT q) (b::c::d::s.enc)]:Spec prog 242 [.agg t.enc.toArray,pT q] R [] λu H'=>u=.bool (lB s t)/\H'=[]:=by
 refine Spec.body func242 rfl results242 ntmps242 rfl<|.sr ?_
 refine .cx rfl (λe=>?_)
 refine .ag rfl<|.z<|.q (.aT rfl)<|.fa rfl<|.q (.loadT rfl)<|.ba (Qo t s _) (λu a=>?_)
 subst a
 refine .az rfl<|.ret (aN rfl ?_)
 ·exact⟨rfl,rfl⟩
theorem B9(c:bJ)(R:ay)(h:c.is R)(t:aA):Spec prog 189 [.agg c.enc.toArray,.agg t.enc.toArray] R [] λu H'=>u=.int .i64 (if allowed c.plain t.db t.sub then 0 else 14)/\H'=[]:=by
 have B:=A2 c R h t.os t.rel
 have n:=h.all
 have A:allowed c.plain t.db t.sub=match bR c.plain.all ⟨t.os,t.rel⟩with
  |none=>false
  |some i=>((c.plain.all.map (·.2.types)).getD i []).any (lB t.sub):=rfl
 refine Spec.body func189 rfl results189 ntmps189 rfl<|.sr ?_
 refine .cx rfl (λF=>?_)
 refine .cx rfl (λk=>?_)
 refine .ag rfl<|.z<|.q (.aT rfl)<|.fa rfl<|.fa rfl<|.lo rfl<|.fa rfl<|.lo rfl<|.ba ((B.mono λu H' d=>⟨d.2,d.1⟩).weaken da) (λu d=>?_)
 obtain⟨r,C,rfl,b⟩:=d
 obtain⟨g,v,l⟩:∃g,RS R 2 Ty.enc r.vt g/\allowed c.plain t.db t.sub=(C&&g.any (lB t.sub)):=by
  rw[A]
  unfold mV at b
  cases hf:bR c.plain.all ⟨t.os,t.rel⟩with
  |none=>rw[hf]at b;obtain⟨rfl,rfl⟩:=b;exact⟨[],RS.jr,rfl⟩
  |some j=>
   rw[hf]at b
   obtain⟨rfl,p,s,f,e,o⟩:=b
   refine⟨r.r.types,((n _ (aW f)).all _ (aW e)).t,?_⟩
   have:=o5 f e
   rw[o]at this
   simp only[Bool.true_and]
   rw[af1,afJ,this]
   rfl
 have H:cC r.enc:=by
  unfold mV at b
  cases hf:bR c.plain.all ⟨t.os,t.rel⟩with
  |none=>rw[hf]at b;obtain⟨_,rfl⟩:=b;exact⟨by simp[cb.enc,cb.zero,aB]⟩
  |some j=>rw[hf]at b;obtain⟨_,p,s,f,e,o⟩:=b;exact⟨((n _ (aW f)).all _ (aW e)).dg⟩
 obtain⟨D,J,r⟩:=r
 simp only at v
 refine .mo rfl<|.q .extract<|.q .extract ?_
 refine .bU (λG=>?_)
 refine .bP rfl rfl<|.ag rfl<|.zs<|.sr<|.mo rfl<|.q .not<|.mo rfl<|.split (t:=19) rfl (λa=>?_) (λa=>?_)
 refine .gF a<|.gF a<|.gF a<|.gF a<|.gF a<|.q (.aU a)<|.zn<|.gM<|.sr<|.az rfl<|.ret (aK (aN rfl ?_))
 ·refine⟨?_,rfl⟩
  rw[l,afw (by simp_all)]
 refine .gT a<|.fa rfl<|.gT a<|.lo rfl<|.gT a<|.q .makeFunc<|.gT a ?_
 refine .ba (LTY.jN 242 [pT k] (lB t.sub) D g _ v.rx (λy _ m x=>by
  have I:PC m (pT k) (.string t.os:: .string t.oi:: .string t.rel::t.sub.enc):=PC.of (E:=119) (fr:=(0,0)) (x _ _ (.inr (by simp[aA.enc,Sub.enc,aA.sub])))
  exact B8 y t.sub _ _ _ k m)) (λu d=>?_)
 subst d
 refine .gT a<|.q .not<|.q (.aR a)<|.zn<|.cond rfl (λw=>?_) λw=>?_
 refine .sr<|.az rfl<|.ret (aK (aN rfl ?_))
 ·refine⟨?_,rfl⟩
  rw[l,afw (by simp_all)]
 refine .kn<|.sr<|.az rfl<|.ret (aN rfl ?_)
 ·refine⟨?_,rfl⟩
  rw[l,afx (by simp_all)]
structure ee where
 rev:Int
 c:bJ
 vn:Value
 ll:List fW
def ee.enc(e:ee):List Value:=[.int .u64 e.rev,e.c.vs,e.c.vc,e.vn]
structure ee.is(R:ay)(e:ee):Prop where
 c:e.c.is R
 n:NN R e.vn e.ll
 ok:(e.c.plain.numbers isWord dj).1=0
 eq:e.ll.map (·.2)=(e.c.plain.numbers isWord dj).2
theorem ee.is.mono{R R':ay}{e:ee}(h:e.is R)(a:∀b o,R b o->R' b o):e.is R':=⟨h.c.mono a,h.n.mono a,h.ok,h.eq⟩
theorem ee.is.dg{R:ay}{e:ee}(h:e.is R):∀u∈e.enc,aB u=true:=by
 have b:=h.c.ss.aB
 have d:=h.c.sc.aB
 have f:=h.n.rs.aB
 intro u a
 simp only[ee.enc,afN,afQ,afR]at a
 rcases a with rfl|rfl|rfl|rfl
 ·rfl
 ·exact b.h
 ·exact d.h
 ·exact f.h
theorem AD{c:Cf}(h:(c.numbers isWord dj).1=0):c.right isWord dj=true:=by
 cases hr:c.right isWord dj with
 |true=>rfl
 |false=>unfold Cf.numbers at h;rw[afx hr]at h;cases h
def HI(hb:Nat)(es:List ee)(gone:Nat)(T:ax):Prop:=∃vl Te Tp,T=(hb,.cells [.bool true,vl,iN gone].toArray 155 (0,0))::(Te++Tp)/\OS 159 4 ee.enc vl es Te/\∀e∈es,e.is (sg Tp)
structure HV(R:ay)(hb:Nat)(vl:Value)(es:List ee)(gone:Nat):Prop where
 pc:PC R (pT hb) [.bool true,vl,iN gone]
 rs:RS R 4 ee.enc vl es
 all:∀e∈es,e.is R
theorem HI.view{a:Nat}{d:List ee}{f:Nat}{T:ax}{R:ay}(h:HI a d f T)(c:∀p∈T,R p.1 p.2):∃vl,HV R a vl d f:=by
 obtain⟨vl,m,g,rfl,j,i⟩:=h
 refine⟨vl,PC.of (E:=155) (fr:=(0,0)) (c (a,_) (by simp)),j.rs λp l=>c p (by simp[l]),λe k=>(i e k).mono λb o a=>c (b,o) ?_⟩
 have:(b,o)∈g:=a
 simp[this]
theorem yS(R:ay):Spec prog 48 [] R [] λu H'=>∃T,H'=[T]/\∃hb,u=pT hb/\HI hb [] 0 T:=by
 refine Spec.body func48 rfl results48 ntmps48 rfl<|.sr<|.ag rfl<|.z<|.q .cR ?_
 refine .cx rfl (λa=>?_)
 refine .az rfl<|.ret (bj _ (.one (.tmp rfl)) (.one [0] _) ?_)
 ·exact⟨_,rfl,a,rfl,sZ,[],[],rfl,OS.nil,λe b=>(by cases b)⟩
section
variable{R:ay}{hb:Nat}{vl:Value}{es:List ee}{gone:Nat}
theorem HV.made(h:HV R hb vl es gone):Spec prog 66 [pT hb] R [] λu H'=>u=.bool true/\H'=[]:=by
 have a:=h.pc
 refine Spec.body func66 rfl results66 ntmps66 rfl<|.sr<|.ag rfl<|.z<|.mo rfl<|.q (.zO rfl rfl)<|.mo rfl<|.gt rfl<|.mo rfl<|.gt rfl<|.nc rfl<|.gt rfl<|.fa rfl<|.gt rfl<|.lo rfl<|.q .cQ<|.az rfl<|.ret (aN rfl ?_)
 ·exact⟨rfl,rfl⟩
def hl(es:List ee)(r:Int):Nat->Option Nat
 |0=>none
 |n+1=>match es[n]? with
  |some e=>if e.rev<=r then some n else hl es r n
  |none=>hl es r n
theorem rO{b:List ee}{r:Int}:∀{n i:Nat},hl b r n=some i->i<n/\∃e,b[i]? =some e
 |0,i,h=>by cases h
 |n+1,i,h=>by
  unfold hl at h
  split at h
  ·rename_i e d
   split at h
   ·cases h;exact⟨by omega,e,d⟩
   ·obtain⟨c,a⟩:=rO h;exact⟨by omega,a⟩
  ·obtain⟨c,a⟩:=rO h;exact⟨by omega,a⟩
theorem HV.last(h:HV R hb vl es gone)(r:Int):Spec prog 75 [pT hb,.int .u64 r] R [] λu H'=>u=.int .i64 (fI (hl es r es.length))/\H'=[]:=by
 have v:=h.pc
 have f:=h.rs
 have o:=f.le
 have k:=h.all
 refine Spec.body func75 rfl results75 ntmps75 rfl<|.sr<|.ag rfl<|.zs<|.sr<|.mo rfl<|.ba (h.made.weaken da) (λu l=>?_)
 subst l
 refine .q .not<|.zn<|.cU<|.kn<|.sr<|.ag rfl<|.zs<|.sr<|.mo rfl<|.nc rfl<|.fa rfl<|.lo rfl<|.q (.bO f)<|.mo rfl<|.zn<|.block<|.cF [(1,_),(14,_),(15,_)] (X:=Nat) (λi=>i<=es.length) (λi E=>(16,iN i)::(5,.int .i64 (fI (hl es r i)))::E) (λ_ G=>G) (λi=>es.length-i) 0 (afv _) kE.c.c.c.c.c rH ?_
 rintro i n
 refine .sr<|.q .lss<|.zs<|.cond rfl (λb=>?_) λb=>?_
 have g:i<es.length:=cy b
 obtain⟨e,d⟩:=bW g
 have p:cC e.enc:=⟨(k e (aW d)).dg⟩
 have j:hl es r (i+1)=if e.rev<=r then some i else hl es r i:=by rw[hl,d]
 refine .kn<|.seq<|.block<|.sr<|.mo rfl ?_
 refine .bG i f d (λt=>?_)
 refine .q (.aT rfl) ?_
 refine .bU (λm=>?_)
 refine .ag rfl<|.bP rfl rfl<|.z<|.fa rfl<|.fa rfl<|.lo rfl<|.mo rfl<|.q .leq<|.zn ?_
 refine bx.cZ [(1,_),(14,_),(15,_),(16,_)] kE.c.c.c.c (X:=Unit) (λ_=>True) (λ_ E=>(5,.int .i64 (fI (hl es r (i+1))))::E) (λ_=>[]) ?_ ?_
 refine .cond rfl (λa=>?_) λa=>?_
 refine .region<|.mo rfl<|.ag rfl<|.nil ?_
 ·exact aG () afC (kE.c.c.c.c.m7 rfl (by rw[j];first|rw[afx (bX a)];rfl|rw[afw (bF a)])) (bz.none _)
 refine .skip ?_
 ·exact aG () afC (kE.c.c.c.c.m7 rfl (by rw[j];first|rw[afx (bX a)];rfl|rw[afw (bF a)])) (bz.none _)
 intro x s
 refine aX<|aw<|.region<|.ia (i+1) .add<|.mo rfl<|.nil ?_
 ·exact bm (i+1) g (by omega) kE.c.c.c.c.c rH
 refine .exit<|bo<|bs<|bp<|aw<|.sr<|.mo rfl<|.az rfl<|.ret (aN rfl ?_)
 ·refine⟨?_,rfl⟩
  rw[show i=es.length by have:=bF b;omega]
def tw(es:List ee)(gone:Nat)(r:Int):Int:=match hl es r es.length with
 |none=>0
 |some i=>(gone+i+1:Nat)
def kh(es:List ee)(r:Int):Option ee:=(hl es r es.length).bind λi=>es[i]?
theorem HV.at_(h:HV R hb vl es gone)(r:Int)(x:gone<=1000000/\es.length<=1000000):Spec prog 27 [pT hb,.int .u64 r] R [] λu H'=>∃T,H'=[T]/\∃c':bJ,u=.tuple [.agg c'.enc.toArray,.int .i64 (tw es gone r)].toArray/\c'.is (sg T)/\c'.plain=((kh es r).map (·.c.plain)).getD ⟨[],[]⟩:=by
 have H:=h.pc
 have k:=h.rs
 have G:=k.le
 have t:=h.all
 obtain⟨C,D⟩:=x
 refine Spec.body func27 rfl results27 ntmps27 rfl<|.sr ?_
 refine .bU (λp=>?_)
 refine .ag rfl<|.z<|.mo rfl<|.mo rfl<|.ba ((h.last r).weaken da) (λu m=>?_)
 subst m
 refine .ag rfl<|.zs<|.sr<|.mo rfl<|.q .lss<|.zn<|.cond rfl (λa=>?_) λa=>?_
 have o:hl es r es.length=none:=by
  cases hh:hl es r es.length with
  |none=>rfl
  |some i=>rw[hh]at a;simp only[fI]at a;have:=bX a;omega
 refine .sr<|.q .cR<|.bP rfl rfl<|.az rfl ?_
 refine .ret (aK (bj _ (.two (.fE rfl rfl) (.tmp rfl)) bz.jS ?_))
 ·refine⟨[],rfl,⟨sZ,sZ,[],[]⟩,?_,⟨RS.jr,RS.jr,λs l=>(by cases l),λs l=>(by cases l)⟩,?_⟩
  ·unfold tw;rw[o];rfl
  ·unfold kh;rw[o];rfl
 obtain⟨i,g⟩:∃i,hl es r es.length=some i:=by
  cases hh:hl es r es.length with
  |none=>rw[hh]at a;simp[fI]at a
  |some i=>exact⟨i,rfl⟩
 obtain⟨F,e,f⟩:=rO g
 have n:=t e (aW f)
 have v:=xr e.c R n.c (yn (AD n.ok))
 have w:fI (hl es r es.length)=(i:Int):=by rw[g];rfl
 have I:=k.pc f
 rw[w]
 refine .kn<|.seq ?_
 refine bx.cZ [(4,_)] kE.c (X:=bJ×ax) (λy=>y.1.is (sg y.2)/\y.1.plain=e.c.plain) (λ_ E=>(5,.int .i64 ((gone+i+1:Nat):Int))::E) (λy=>[y.2,bl p y.1.enc 25]) ?_ ?_
 refine .cS [17] mixed<|.tO 0 rfl .move<|.tO 1 rfl (.nilCheck rfl)<|.tO 2 rfl (.fieldAddr rfl)<|.tO 3 rfl (.cm rfl)<|.tO 4 rfl .move<|.tO 5 rfl (.bG i k f rfl rfl rfl)<|.tO 6 rfl (.fieldAddr rfl)<|.tO 7 rfl (.fieldAddr rfl)<|.tO 8 rfl (.loadT rfl)<|.tK 10 rfl .move<|.tK 11 rfl (.lG rfl)<|.tK 12 rfl (.fG rfl)<|.tK 13 rfl (.cm rfl)<|.tK 14 rfl .move<|.take 15 rfl (.i64 ((gone+i:Nat):Int) .add ⟨by omega,by omega,by omega⟩) (by kernel_rfl)<|.take 16 rfl (.i64 ((gone+i+1:Nat):Int) .add ⟨by omega,by omega,by omega⟩) (by kernel_rfl)<|.sT 9 rfl<|.dh (v.weaken da) (λu j m=>?_)
 obtain⟨c',rfl,b,d⟩:=m
 have B:cC c'.enc:=⟨b.dg⟩
 refine .nil<|Next.sub<|.sT 17 rfl<|.bP rfl rfl<|.nil<|Next.mod rfl<|.tK 18 rfl .assign<|RA.nil (by kernel_rfl) ?_
 ·exact aG (c',j) ⟨b,d⟩ kE.c.c (by first|exact bz.refl _|exact bz.pick [0,0] _|exact aQ [1,0])
 intro y A
 obtain⟨c',j⟩:=y
 obtain⟨b,d⟩:=A
 simp only at b d⊢
 refine aw<|.ret (bj _ (.two (.fE rfl rfl) (.tmp rfl)) (.one [0] _) ?_)
 ·refine⟨j,by simp[take],c',?_,b,?_⟩
  ·unfold tw;rw[g]
  ·unfold kh;rw[g,Option.bind_some,f];exact d
end
theorem HV.numbers{R:ay}{d:Nat}{vl:Value}{a:List ee}{J:Nat}(h:HV R d vl a J)(r:Int)(S:∀e∈a,e.ll.length<=1000000/\∀q∈e.ll,q.2.length<=1000000):Spec prog 82 [pT d,.int .u64 r] R [] λu H'=>∃T,H'=[T]/\∃ll,NN (sg T) u ll/\ll.map (·.2)=((kh a r).map λe=>e.ll.map (·.2)).getD []:=by
 have pc:=h.pc
 have V:=h.rs
 have K:=h.all
 refine Spec.body func82 rfl results82 ntmps82 rfl<|.sr<|.ag rfl<|.z<|.mo rfl<|.mo rfl<|.ba ((h.last r).weaken da) (λu l=>?_)
 subst l
 refine .ag rfl<|.zs<|.sr<|.mo rfl<|.q .lss<|.zn<|.cond rfl (λg=>?_) λg=>?_
 have p:hl a r a.length=none:=by
  cases hh:hl a r a.length with
  |none=>rfl
  |some i=>rw[hh]at g;simp only[fI]at g;have:=bX g;omega
 refine .sr<|.az rfl<|.ret (aK (bj _ (.one (.tmp rfl)) bz.jS ?_))
 ·refine⟨[],rfl,[],.nil,?_⟩
  unfold kh;rw[p];rfl
 obtain⟨i,w⟩:∃i,hl a r a.length=some i:=by
  cases hh:hl a r a.length with
  |none=>rw[hh]at g;simp[fI]at g
  |some i=>exact⟨i,rfl⟩
 obtain⟨a2,e,m⟩:=rO w
 have M:=K e (aW m)
 have p:=M.n
 have C:=p.rs
 obtain⟨a3,Q⟩:=S e (aW m)
 have N:fI (hl a r a.length)=(i:Int):=by rw[w];rfl
 rw[N]
 refine .kn<|.sr<|.ag rfl<|.zs<|.sr<|.mo rfl<|.nc rfl<|.fa rfl<|.lo rfl<|.mo rfl ?_
 refine .bG i V m (λa4=>?_)
 refine .fa rfl<|.lo rfl<|.q (.bO C)<|.mo rfl<|.zn<|.block<|.cF [(21,_),(22,_)] (X:=Nat×Value×List fW×ax×ax) (λy=>y.1<=e.ll.length/\OS 182 1 eo y.2.1 y.2.2.1 y.2.2.2.1/\(∀q∈y.2.2.1,RS (sg y.2.2.2.2) 1 di q.1 q.2)/\y.2.2.1.map (·.2)=(e.ll.take y.1).map (·.2)) (λy E=>(23,iN y.1)::(6,y.2.1)::E) (λy G=>y.2.2.2.1::y.2.2.2.2::G) (λy=>e.ll.length-y.1) (0,sZ,[],[],[]) ⟨afv _,OS.nil,λq f=>(by cases f),rfl⟩ kE.c.c.c.c bz.iK ?_
 rintro⟨k,vo,L,I,x⟩ ⟨O,v,t,j⟩
 simp only at O v t j⊢
 have a1:L.length=k:=by have:=afD List.length j;rw[afy,afy,afG]at this;omega
 refine .sr<|.q .lss<|.zs<|.cond rfl (λs=>?_) λs=>?_
 have B:k<e.ll.length:=cy s
 obtain⟨q,f⟩:=bW B
 have U:=p.all q (aW f)
 refine .kn<|.seq<|.block<|.sr ?_
 refine .bG k C f (λa5=>?_)
 refine .lo rfl<|.az rfl<|.region<|.mo rfl<|.mo rfl<|.dh (LIN.nP q.1 q.2 _ U.rx (Q q (aW f))) (λu F l=>?_)
 have iu:=l.aB
 obtain⟨D,A,rfl,_⟩:=l.shape
 refine .ki (λa0=>?_)
 refine .append v (RS.lits (xs:=[((.slice D q.2.length A,q.2):fW)]) rfl (by simp[eo]) (by simp[eo,aB])) (by simp only[afB];omega) (λZ H W=>?_)
 refine .ag rfl<|.nil<|aX<|aw<|.region<|.ia (k+1) .add<|.mo rfl<|.nil ?_
 ·exact bm (k+1,Z,L++[(.slice D q.2.length A,q.2)],H,F++x) ⟨B,W,λY hq'=>by
   rcases afH.1 hq' with hq'|hq'
   ·exact(t Y hq').mono λb o d=>gS d
   ·rw[afA]at hq'
    subst hq'
    exact l.sg.mono λb o d=>iM d,by simp only;rw[ec f,afz,afz,j];rfl⟩ (by simp only;omega) kE.c.c.c.c ((aQ [2,1,1]).trans (bz.eS (by simp[take,bM])))
 refine .exit<|bo<|bs<|bp<|aw<|.sr<|.mo rfl<|.az rfl<|.ret (bj _ (.one (.tmp rfl)) (.one [0,0] _) ?_)
 ·refine⟨I++x,by simp[take,bM],L,⟨v.sg.mono λb o d=>iM d,λq f=>(t q f).mono λb o d=>gS d⟩,?_⟩
  rw[dP (kM s)]at j
  unfold kh;rw[w,Option.bind_some,m,j];rfl
def nV(es:List ee)(rev:Int)(c:Cf):Int:=
 if(es.getLast?.map λe=>decide (rev<=e.rev)).getD false then 12 else if(c.numbers isWord dj).1≠0 then(c.numbers isWord dj).1 else if 16<=es.length then 8 else 0
theorem yN(f:Nat)(d:List ee)(j:Nat)(T:ax)(h:HI f d j T)(b8:d.length<=1000)(rev:Int)(c:bJ)(R:ay)(hc:c.is R):
  Spec prog 20 [pT f,.int .u64 rev,.agg c.enc.toArray] R [T] λu H'=>∃T',H'=[T']/\u=.int .i64 (nV d rev c.plain)/\(nV d rev c.plain=0->∃e:ee,e.rev=rev/\e.c.plain=c.plain/\HI f (d++[e]) j T')/\(nV d rev c.plain≠0->HI f d j T'):=by
 have b3:=Ou c R hc
 have a9:=xr c R hc
 obtain⟨k,l,g,rfl,m,x⟩:=h
 have b4:(c.plain.numbers isWord dj).1=0->c.ug:=λv=>yn (AD v)
 have C:nV d rev c.plain=if(d.getLast?.map λe=>decide (rev<=e.rev)).getD false then 12 else if(c.plain.numbers isWord dj).1≠0 then(c.plain.numbers isWord dj).1 else if 16<=d.length then 8 else 0:=rfl
 generalize hk:nV d rev c.plain=kc at *
 generalize a5:c.plain.numbers isWord dj=nn at *
 have a8:∀D:ay,(∀p∈((f,.cells [.bool true,k,iN j].toArray 155 (0,0))::(l++g):ax),D p.1 p.2)->HV D f k d j:=λD L=>by
  refine⟨PC.of (E:=155) (fr:=(0,0)) (L (f,_) (by simp)),m.rs λp hp=>L p (by simp[hp]),λe he=>(x e he).mono λb o f=>L (b,o) ?_⟩
  have:(b,o)∈g:=f
  simp[this]
 have M:∀w,HI f d j w↔∃k l g,w=(f,.cells [.bool true,k,iN j].toArray 155 (0,0))::(l++g)/\OS 159 4 ee.enc k d l/\∀e∈d,e.is (sg g):=λ_=>Iff.rfl
 refine Spec.hB (H':=[bl f [.bool true,k,iN j] 155,l,g]) (by simp)<|Spec.body func20 rfl results20 ntmps20 rfl<|.sr ?_
 refine .cx rfl (λb5=>?_)
 refine .ag rfl<|.zs<|.block<|.sr<|.mo rfl ?_
 refine .ba (HV.made (a8 _ λp hp=>.inr (by
  rcases afN.1 hp with rfl|hp
  ·simp
  ·rcases afH.1 hp with hp|hp<;>simp[hp]))) (λu S=>?_)
 subst S
 refine .q .not<|.az rfl<|.cU<|.seq ?_
 refine bx.cZ [(0,_),(1,_),(5,_)] kE.c.c.c (X:=Unit) (λ_=>True) (λ_ E=>(13,.bool ((d.getLast?.map λe=>decide (rev<=e.rev)).getD false))::E) (λ_=>[bl b5 c.enc 25,bl f [.bool true,k,iN j] 155,l,g]) ?_ ?_
 refine .gd mixed (by kernel_rfl)<|.mo rfl<|.nc rfl<|.fa rfl<|.lo rfl<|.q (.ep m)<|.q .gtr<|.mo rfl<|.split (t:=20) rfl (λa=>?_) (λa=>?_)
 obtain⟨n,hn⟩:∃n,d.length=n+1:=⟨d.length-1,by have:=bX a;omega⟩
 obtain⟨V,O⟩:∃e,d[n]? =some e:=⟨_,aV (by omega)⟩
 have a3:d.getLast? =some V:=by rw[List.getLast?_eq_getElem?,hn];exact O
 have b9:=x V (aW O)
 refine .gT a<|.mo rfl<|.gT a<|.mo rfl<|.gT a<|.nc rfl<|.gT a<|.fa rfl<|.gT a<|.lo rfl<|.gT a<|.mo rfl<|.gT a<|.nc rfl<|.gT a<|.fa rfl<|.gT a<|.lo rfl<|.gT a<|.q (.ep m)<|.gT a<|.q (.i64 (n:Int) .sub ⟨by omega,by omega,by omega⟩)<|.gT a ?_
 refine .aL n m O (λc2=>?_)
 refine .gT a<|.fa rfl<|.gT a<|.fa rfl<|.gT a<|.lo rfl<|.gT a<|.q .leq<|.q (.aU a)<|.ag rfl<|.nil ?_
 ·exact aG () afC (kE.c.c.c.ca rfl (by first|rfl|(rw[a3];rfl))) rH
 have b2:d=[]:=List.eq_nil_of_length_eq_zero (by have:=bF a;omega)
 subst b2
 refine .gF a<|.gF a<|.gF a<|.gF a<|.gF a<|.gF a<|.gF a<|.gF a<|.gF a<|.gF a<|.gF a<|.gF a<|.gF a<|.gF a<|.gF a<|.gF a<|.q (.aR a)<|.ag rfl<|.nil ?_
 ·exact aG () afC (kE.c.c.c.ca rfl (by first|rfl|(rw[a3];rfl))) rH
 intro y hy
 refine aw<|.cond rfl (λz=>?_) λz=>?_
 refine .sr<|.az rfl<|.ret (br (aK (bj _ (.one (.tmp rfl)) (.one [1,1,1] _) ?_)))
 ·have r:((d.getLast?.map λe=>decide (rev<=e.rev)).getD false)=true:=z
  have i:kc=12:=by rw[C,afx r]
  have Q:kc≠0:=by rw[i];decide
  exact⟨_,rfl,by rw[i],λs=>absurd s Q,λ_=>(M _).2 ⟨k,l,g,by simp[take,bM],m,x⟩⟩
 refine .skip<|aX<|aw<|.sr<|.q (.aT rfl)<|.dh (b3.weaken da) (λu T7 b6=>?_)
 obtain⟨w7,ll,rfl,K,b0⟩:=b6
 have i7:=K.rs.aB
 refine .mo rfl<|.q .extract<|.q .extract<|.ag rfl<|.ag rfl<|.zs<|.block<|.sr<|.mo rfl<|.q .dZ<|.az rfl<|.cond rfl (λI=>?_) λI=>?_
 have a4:nn.1≠0:=by simpa using I
 refine .sr<|.mo rfl<|.az rfl<|.ret (br (aK (bj _ (.one (.tmp rfl)) (.one [2,2,2] _) ?_)))
 ·have r:((d.getLast?.map λe=>decide (rev<=e.rev)).getD false)=false:=z
  have i:kc=nn.1:=by rw[C,afw (by rw[r];simp),afx a4]
  exact⟨_,rfl,by rw[i],λs=>absurd (i.symm.trans s) a4,λ_=>(M _).2 ⟨k,l,g,by simp[take,bM],m,x⟩⟩
 have v:nn.1=0:=by simpa using I
 refine .sr<|.mo rfl<|.nc rfl<|.fa rfl<|.lo rfl<|.q (.ep m)<|.q .geq<|.az rfl<|.cond rfl (λJ=>?_) λJ=>?_
 refine .sr<|.az rfl<|.ret (br (aK (bj _ (.one (.tmp rfl)) (.one [2,2,2] _) ?_)))
 ·have r:((d.getLast?.map λe=>decide (rev<=e.rev)).getD false)=false:=z
  have i:kc=8:=by rw[C,afw (by rw[r];simp),afw (by rw[v];simp),afx (by have:=bX J;omega)]
  have Q:kc≠0:=by rw[i];decide
  exact⟨_,rfl,by rw[i],λs=>absurd s Q,λ_=>(M _).2 ⟨k,l,g,by simp[take,bM],m,x⟩⟩
 have b1:¬16<=d.length:=by have:=bF J;omega
 have r:((d.getLast?.map λe=>decide (rev<=e.rev)).getD false)=false:=z
 have i:kc=0:=by rw[C,afw (by rw[r];simp),afw (by rw[v];simp),afw b1]
 refine .skip<|aX<|aw<|.seq ?_
 refine bx.cZ [] (dB.nil _) (X:=Value×ax×ee×ax) (λy=>OS 159 4 ee.enc y.1 (d++[y.2.2.1]) y.2.1/\y.2.2.1.is (sg y.2.2.2)/\y.2.2.1.rev=rev/\y.2.2.1.c.plain=c.plain) (λ_ E=>E) (λy=>[bl f [.bool true,y.1,iN j] 155,y.2.1,y.2.2.2,g]) ?_ ?_
 refine .cS [12,15] mixed<|.tK 0 rfl .move<|.tO 1 rfl .move<|.tO 2 rfl (.nilCheck rfl)<|.tO 3 rfl (.fieldAddr rfl)<|.tO 4 rfl (.cm rfl)<|.tO 5 rfl .move<|.tO 6 rfl (.aT rfl)<|.tO 9 rfl .move<|.sT 7 rfl<|.dh ((a9 (b4 v)).weaken da) (λu G S=>?_)
 obtain⟨H,rfl,A,N⟩:=S
 have c0:One H.vs:=RS.aB A.ss
 have c1:One H.vc:=RS.aB A.sc
 obtain⟨ps,cs,W⟩:=A.ss.val
 obtain⟨pc,cc,Y⟩:=A.sc.val
 obtain⟨pw,cw,Z⟩:=K.rs.val
 obtain⟨c4,c3,a7,a6⟩:=H
 simp only at W Y Z
 subst W Y Z
 refine .nil<|Next.sub<|.tO 8 rfl .cR<|.tO 10 rfl .cR<|.sT 11 rfl ?_
 refine .dY (λb7=>?_)
 refine .nil<|Next.sub<|.sT 12 rfl<|.append m (RS.lits (xs:=[(⟨rev,⟨.slice ps a7.length cs,.slice pc a6.length cc,a7,a6⟩,.slice pw ll.length cw,ll⟩:ee)]) rfl (by simp[ee.enc]) (by simp[ee.enc,aB])) (by simp only[afB];omega) (λU F B=>?_)
 have i5:=B.aB
 refine .nil<|Next.mod rfl<|.tK 13 rfl (.lG rfl)<|.tK 14 rfl (.fG rfl)<|.sT 15 rfl<|.dz rfl rfl<|.nil<|Next.mod rfl<|RA.nil (by kernel_rfl) ?_
 ·exact aG (U,F,_,G++T7) ⟨B,⟨A.mono λb o f=>iM f,K.mono λb o f=>gS f,by simp only;rw[N,a5];exact v,by simp only;rw[N,a5];exact b0⟩,rfl,N⟩ (dB.nil _) (by first|exact(aQ [4,4,1,1,2]).trans (bz.eS (by simp[take,bM,dl]))|exact(aQ [3,3,0,1,2]).trans (bz.eS (by simp[take,bM,dl])))
 intro y hy
 obtain⟨U,F,e5,G⟩:=y
 obtain⟨B,a0,a2,a1⟩:=hy
 simp only at B a0 a2 a1⊢
 refine aw<|.sr<|.az rfl<|.ret (bj _ (.one (.tmp rfl)) (.one [0,0,0,0] _) ?_)
 ·refine⟨_,rfl,by rw[i],λ_=>⟨e5,a2,a1,U,F,G++g,by simp[take,bM],B,λe he=>?_⟩,λs=>absurd i s⟩
  rcases afH.1 he with he|he
  ·exact(x e he).mono λb o f=>gS f
  ·rw[afA]at he
   subst he
   exact a0.mono λb o f=>iM f
theorem O7(a b:bC)(R:ay):Spec prog 169 [.agg a.enc.toArray,.agg b.enc.toArray] R [] λv H'=>v=.bool (eC a b)/\H'=[]:=by
 refine Spec.body func169 rfl results169 ntmps169 rfl<|.sr ?_
 refine .cx rfl (λf=>?_)
 refine .cx rfl (λg=>?_)
 refine .ag rfl<|.z<|.fa rfl<|.q (.loadT rfl)<|.fa rfl<|.q (.loadT rfl)<|.ba (Pt a.t b.t _) (λv e=>?_)
 subst e
 refine .mo rfl<|.split (t:=10) rfl (λc=>?_) (λc=>?_)
 refine .gF c<|.gF c<|.gF c<|.gF c<|.gF c<|.gF c<|.dc rfl<|.dc rfl<|.dc rfl<|.dc rfl<|.dc rfl<|.gF c<|.q (.aU c)<|.az rfl<|.ret (aN rfl ?_)
 ·refine⟨afD _ ?_,rfl⟩
  unfold eC
  simp_all
 refine .gT c<|.fa rfl<|.gT c<|.q (.loadT rfl) ?_
 refine .gT c<|.fa rfl<|.gT c<|.q (.loadT rfl) ?_
 refine .gT c<|.q (.nT rfl rfl (aA.kinds a.t) (aA.kinds b.t)) ?_
 rw[show eR (List.take 7 (List.drop 0 a.enc)) (List.take 7 (List.drop 0 b.enc))=decide (a.t=b.t)from aA.eq a.t b.t]
 refine .gT c<|.mo rfl<|.split (t:=16) rfl (λd=>?_) (λd=>?_)
 refine .gT d<|.fa rfl<|.gT d<|.lo rfl<|.gT d<|.fa rfl<|.gT d<|.lo rfl<|.gT d<|.q .lss<|.gT c<|.q (.aU d)<|.q (.aR c)<|.az rfl<|.ret (aN rfl ?_)
 ·refine⟨afD _ ?_,rfl⟩
  unfold eC
  simp_all
 refine .gF d<|.gF d<|.gF d<|.gF d<|.gF d<|.gT c<|.q (.aR d)<|.q (.aR c)<|.az rfl<|.ret (aN rfl ?_)
 ·refine⟨afD _ ?_,rfl⟩
  unfold eC
  simp_all
theorem Pj(v:Value)(l:List bC)(t:bC)(R:ay)(h:RS R 9 bC.enc v l)(hl:l.length<=100000):
    Spec prog 110 [v,.agg t.enc.toArray] R [] λu H'=>∃T,H'=[T]/\OS 226 9 bC.enc u (gO eC t l) T:=by
  obtain⟨I,H,rfl⟩:=h.val
  refine Spec.hB (H':=[[]]) (by simp)<|Spec.body func110 rfl results110 ntmps110 rfl<|.sr ?_
  refine .cx rfl (λm=>?_)
  refine .ag rfl<|.z<|.ag rfl<|.z<|.ag rfl<|.zs<|.sr<|.az rfl<|.block<|.loop (X:=Nat×Value×ax) (λy=>y.1<=l.length/\OS 226 9 bC.enc y.2.1 (kp eC t (l.take y.1)) y.2.2) (λy=>[(0,.slice I l.length H),(3,pT m),(5,y.2.1),(6,.bool ((l.take y.1).any (eC t))),(7,iN y.1)]) (λy=>[bl m t.enc 226,y.2.2]) (λy=>l.length-y.1) (0,sZ,[]) ⟨afv _,OS.nil⟩ kE.c.c.c.c.c rH ?_
  rintro⟨i,D,s⟩ ⟨N,e⟩
  simp only at N e⊢
  have M:(kp eC t (l.take i)).length<=100001:=afI yK (by rw[afG];omega)
  refine .seq<|.sr<|.mo rfl<|.mo rfl<|.q (.bO h)<|.q .lss<|.zn<|.cond rfl (λA=>?_) λA=>?_
  have G:i<l.length:=cy A
  obtain⟨x,f⟩:=bW G
  have E:=MU (lt:=eC) (p:=t) f
  refine .kn<|.seq<|.block<|.seq ?_
  refine bx.cut (X:=Value×ax) (λz=>OS 226 9 bC.enc z.1 (m9 eC t (l.take i) x) z.2) (λz=>[(0,.slice I l.length H),(3,pT m),(5,z.1),(6,.bool ((l.take (i+1)).any (eC t))),(7,iN i)]) (λz=>[bl m t.enc 226,z.2]) ?_ ?_
  refine .seq<|.dm 8 mixed (by kernel_rfl) ?_
  conv=>arg 6;dsimp only[List.take]
  refine .mo rfl<|.q .not<|.mo rfl<|.split (t:=16) rfl (λa=>?_) (λa=>?_)
  refine .gT a<|.q (.aT rfl)<|.gT a<|.mo rfl<|.gT a<|.mo rfl<|.gT a ?_
  refine .bG i h f (λa0=>?_)
  refine .gT a<|.q (.aT rfl)<|.nil<|.gT a<|.ba (O7 t x _) (λv Q=>?_)
  subst Q
  refine .q (.aU a)<|.zn<|.cond rfl (λn=>?_) λn=>?_
  first|have C:=MV f a n|skip
  refine .sr<|.mo rfl<|.q (.aT rfl) ?_
  refine .dY (λW=>?_)
  refine .append e (RS.lits (xs:=[t]) rfl (by simp[bC.enc,aA.enc]) (by simp[bC.enc,aA.enc,aB])) (by simp only[afB];omega) (λr k g=>?_)
  refine .az rfl<|.region<|.ag rfl<|.nil ?_
  ·first
      |(obtain⟨d,b⟩:=C
        exact aG (r,k) (by simp only;rw[d];exact g) (by simp only;rw[b];exact kE.c.c.c.c.c) (aQ [1,1]))
      |(obtain⟨d,b⟩:=j
        exact aG (D,s) (by simp only;rw[d];simpa using e) (by simp only;rw[b];exact kE.c.c.c.c.c) rH)
  first|have j:=uu (p:=t) f (.inr n)|skip
  refine .skip ?_
  ·first
      |(obtain⟨d,b⟩:=C
        exact aG (r,k) (by simp only;rw[d];exact g) (by simp only;rw[b];exact kE.c.c.c.c.c) (aQ [1,1]))
      |(obtain⟨d,b⟩:=j
        exact aG (D,s) (by simp only;rw[d];simpa using e) (by simp only;rw[b];exact kE.c.c.c.c.c) rH)
  have j:=uu (p:=t) f (.inl a)
  refine .gF a<|.gF a<|.gF a<|.gF a<|.gF a<|.nil<|.gF a<|.q (.aR a)<|.zn<|.cU ?_
  first|have j:=uu (p:=t) f (.inr n)|skip
  refine .skip ?_
  ·first
      |(obtain⟨d,b⟩:=C
        exact aG (r,k) (by simp only;rw[d];exact g) (by simp only;rw[b];exact kE.c.c.c.c.c) (aQ [1,1]))
      |(obtain⟨d,b⟩:=j
        exact aG (D,s) (by simp only;rw[d];simpa using e) (by simp only;rw[b];exact kE.c.c.c.c.c) rH)
  intro y S
  obtain⟨V,K⟩:=y
  have L:OS 226 9 bC.enc V (m9 eC t (l.take i) x) K:=S
  simp only
  refine aw<|.region<|.mo rfl<|.mo rfl<|.mo rfl ?_
  refine .bG i h f (λa1=>?_)
  refine .q (.aT rfl) ?_
  refine .dY (λY=>?_)
  refine .append L (RS.lits (xs:=[x]) rfl (by simp[bC.enc,aA.enc]) (by simp[bC.enc,aA.enc,aB])) (by have:=yK (lt:=eC) (p:=t) (X:=l.take (i+1));rw[<-E,afG]at this;simp at this⊢;omega) (λU J F=>?_)
  rw[E]at F
  refine .ag rfl<|.nil<|aX<|aw<|.region<|.mo rfl<|.ia (i+1) .add<|.ag rfl<|.nil ?_
  ·exact bm (i+1,U,J) ⟨G,F⟩ (by simp only;omega) kE.c.c.c.c.c (aQ [1,1])
  have O:i=l.length:=by have:=bF A;omega
  subst O
  rw[afE]at e M⊢
  refine .exit<|bo<|bs<|bp<|aw<|.seq<|.sr<|.mo rfl<|.q .not<|.zn<|.cond rfl (λB=>?_) λB=>?_
  refine .region<|.mo rfl<|.q (.aT rfl) ?_
  refine .dY (λZ=>?_)
  refine .append e (RS.lits (xs:=[t]) rfl (by simp[bC.enc,aA.enc]) (by simp[bC.enc,aA.enc,aB])) (by simp;omega) (λr k g=>?_)
  refine .ag rfl<|.z<|.mo rfl<|.az rfl<|.ret (bj _ (.one (.tmp rfl)) ((aQ [2])) ?_)
  ·have o:l.any (eC t)=false:=by simpa using B
   refine⟨_,by simp[take,bM];rfl,?_⟩
   have w:kp eC t l=l:=by unfold kp;rw[o];rfl
   rw[w]at g
   rw[MT o];exact g
  refine .kn<|.sr<|.mo rfl<|.az rfl<|.ret (bj _ (.one (.tmp rfl)) ((aQ [1])) ?_)
  ·have o:l.any (eC t)=true:=by simpa using B
   refine⟨_,by simp[take,bM];rfl,?_⟩
   have w:kp eC t l=gO eC t l:=by unfold kp;rw[o];rfl
   rw[w]at e;exact e
def pU(L:List bC)(t:aA)(z:Int):Prop:=(∃(j:Nat) (x:bC),z=j/\L[j]? =some x/\x.eI t=true/\∀k y,k<j->L[k]? =some y->y.eI t=false)\/(z= -1/\dv L t=false)
theorem pU.lt{L:List bC}{t:aA}{z:Int}(h:pU L t z):decide (z<0)= !dv L t:=by
 rcases h with⟨j,x,rfl,b,a,_⟩|⟨rfl,h⟩
 ·rw[af5 (by omega),dv,afO.2 ⟨x,aW b,a⟩];rfl
 ·rw[h];rfl
theorem pU.ge{L:List bC}{t:aA}{z:Int}(h:pU L t z):decide (0<=z)=dv L t:=by
 have a:=h.lt
 have b:decide (0<=z)= !decide (z<0):=by rw[Bool.eq_iff_iff];simp
 rw[b,a,Bool.not_not]
section
variable{R:ay}{b:Nat}{S:cX}{vL:Value}{L:List bC}
theorem DV.find(h:DV R b S vL L)(t:aA):Spec prog 111 [pT b,.agg t.enc.toArray] R [] λu H'=>(∃z,u=.int .i64 z/\pU L t z)/\H'=[]:=by
 have F:=h.pc
 have B:=h.rs.aB
 have A:=h.rs.le
 obtain⟨G,C,rfl⟩:=h.rs.val
 have n:=h.rs
 refine Spec.body func111 rfl results111 ntmps111 rfl<|.sr ?_
 refine .cx rfl (λo=>?_)
 refine .ag rfl<|.zs<|.sr<|.az rfl<|.block<|.loop (X:=Nat) (λi=>i<=L.length/\∀k y,k<i->L[k]? =some y->y.eI t=false) (λi=>[(0,pT b),(3,pT o),(5,iN i)]) (λ_=>[bl o t.enc 119]) (λi=>L.length-i) 0 ⟨afv _,λk y e=>absurd e (Nat.not_lt_zero _)⟩ kE.c.c.c rH ?_
 rintro i ⟨v,g⟩
 refine .seq<|.sr<|.mo rfl<|.mo rfl<|.nc rfl<|.fa rfl<|.lo rfl<|.q (.bO n)<|.q .lss<|.zn<|.cond rfl (λl=>?_) λl=>?_
 have m:i<L.length:=cy l
 obtain⟨x,f⟩:=bW m
 refine .kn<|.seq<|.block<|.seq<|.gd mixed (by kernel_rfl) ?_
 refine .mo rfl<|.nc rfl<|.fa rfl<|.lo rfl<|.mo rfl ?_
 refine .bG i n f (λD=>?_)
 refine .fa rfl<|.q (.loadT rfl) ?_
 refine .q (.aT rfl)<|.q (.nT rfl rfl (aA.kinds x.t) (aA.kinds t)) ?_
 rw[show eR (List.take 7 (List.drop 0 x.enc)) t.enc=decide (x.t=t)from aA.eq x.t t]
 refine .mo rfl<|.split (t:=25) rfl (λa=>?_) (λa=>?_)
 refine .gT a<|.mo rfl<|.gT a<|.nc rfl<|.gT a<|.fa rfl<|.gT a<|.lo rfl<|.gT a<|.mo rfl<|.gT a ?_
 refine .bG i n f (λE=>?_)
 refine .gT a<|.fa rfl<|.gT a<|.lo rfl<|.gT a<|.q .bY<|.q (.aU a)<|.zn<|.cond rfl (λr=>?_) λr=>?_
 refine .sr<|.mo rfl<|.az rfl<|.ret (br (aK (cI (br (aK (aN rfl ?_))))))
 ·exact⟨⟨_,rfl,.inl ⟨i,x,rfl,f,by unfold bC.eI;simp_all,g⟩⟩,rfl⟩
 refine .skip<|aX<|aw<|.region<|.mo rfl<|.ia (i+1) .add<|.ag rfl<|.nil ?_
 ·exact bm (i+1) ⟨m,λk y e d=>by
   rcases Nat.lt_or_eq_of_le (Nat.le_of_lt_succ e)with h3|h3
   ·exact g k y h3 d
   ·subst h3
    rw[f]at d
    cases d
    unfold bC.eI
    simp_all⟩ (by omega) kE.c.c.c rH
 refine .gF a<|.gF a<|.gF a<|.gF a<|.gF a<|.gF a<|.gF a<|.gF a<|.gF a<|.q (.aR a)<|.zn<|.cU<|.skip<|aX<|aw<|.region<|.mo rfl<|.ia (i+1) .add<|.ag rfl<|.nil ?_
 ·exact bm (i+1) ⟨m,λk y e d=>by
   rcases Nat.lt_or_eq_of_le (Nat.le_of_lt_succ e)with h3|h3
   ·exact g k y h3 d
   ·subst h3
    rw[f]at d
    cases d
    unfold bC.eI
    simp_all⟩ (by omega) kE.c.c.c rH
 refine .exit<|bo<|bs<|bp<|aw<|.sr<|.az rfl<|.ret (aN rfl ?_)
 ·have w:i=L.length:=by have:=bF l;omega
  refine⟨⟨_,rfl,.inr ⟨rfl,?_⟩⟩,rfl⟩
  unfold dv
  rw[List.any_eq_false]
  intro y d p
  obtain⟨j,s,rfl⟩:=age.1 d
  have:=g j _ (by omega) (aV s)
  rw[this]at p
  cases p
theorem O8(vm vn vc:Value)(bE no:List aA)(cs:List cB)(R:ay)(s:RS R 7 aA.enc vm bE)(w:RS R 7 aA.enc vn no)(m:RS R 8 cB.enc vc cs)(fm:∀t∈bE,t.fits)(fn:∀t∈no,t.fits)(fc:∀c∈cs,c.t.fits):
  Spec prog 108 [vm,vn,vc] R [] λu H'=>u=.int .i64 (fT bE no cs)/\H'=[]:=by
 have lm:=s.le
 have ln:=w.le
 have lc:=m.le
 obtain⟨D,B,rfl⟩:=s.val
 obtain⟨E,C,rfl⟩:=w.val
 obtain⟨F,A,rfl⟩:=m.val
 refine Spec.body func108 rfl results108 ntmps108 rfl<|.sr<|.ag rfl<|.zs<|.sr<|.mo rfl<|.q (.bO m)<|.q .gtr<|.mo rfl<|.split (t:=15) rfl (λj=>?_) (λj=>?_)
 refine .gF j<|.gF j<|.gF j<|.q (.aU j)<|.mo rfl<|.gX<|.gX<|.gX<|.q .cQ<|.mo rfl<|.gX<|.gX<|.gX<|.q .cQ<|.zn<|.gM ?_
 have f:32<cs.length\/cs.length=0\/32<bE.length\/32<no.length:=by simp_all;try omega
 refine .sr<|.az rfl<|.ret (aK (aN rfl ?_))
 ·(refine⟨?_,rfl⟩;rw[nw f];done)
 refine .gT j<|.mo rfl<|.gT j<|.q (.bO m)<|.gT j<|.q .bY<|.q (.aR j)<|.mo rfl<|.split (t:=20) rfl (λl=>?_) (λl=>?_)
 refine .gF l<|.gF l<|.gF l<|.q (.aU l)<|.mo rfl<|.gX<|.gX<|.gX<|.q .cQ<|.zn<|.gM ?_
 have f:32<cs.length\/cs.length=0\/32<bE.length\/32<no.length:=by simp_all;try omega
 refine .sr<|.az rfl<|.ret (aK (aN rfl ?_))
 ·(refine⟨?_,rfl⟩;rw[nw f];done)
 refine .gT l<|.mo rfl<|.gT l<|.q (.bO s)<|.gT l<|.q .gtr<|.q (.aR l)<|.mo rfl<|.split (t:=25) rfl (λh=>?_) (λh=>?_)
 refine .gF h<|.gF h<|.gF h<|.q (.aU h)<|.zn<|.gM ?_
 have f:32<cs.length\/cs.length=0\/32<bE.length\/32<no.length:=by simp_all;try omega
 refine .sr<|.az rfl<|.ret (aK (aN rfl ?_))
 ·(refine⟨?_,rfl⟩;rw[nw f];done)
 refine .gT h<|.mo rfl<|.gT h<|.q (.bO w)<|.gT h<|.q .gtr<|.q (.aR h)<|.zn<|.cond rfl (λh1=>?_) λh1=>?_
 have f:32<cs.length\/cs.length=0\/32<bE.length\/32<no.length:=by simp_all;try omega
 refine .sr<|.az rfl<|.ret (aK (aN rfl ?_))
 ·(refine⟨?_,rfl⟩;rw[nw f];done)
 have f:¬(32<cs.length\/cs.length=0\/32<bE.length\/32<no.length):=by simp_all;try omega
 refine .kn<|.seq<|.sr<|.az rfl<|.block<|.loop (X:=Nat) (λi=>i<=bE.length/\(bE.take i).any (λt=> !eH t)=false) (λi=>[(0,.slice D bE.length B),(1,.slice E no.length C),(2,.slice F cs.length A),(7,iN i)]) (λ_=>[]) (λi=>bE.length-i) 0 ⟨afv _,by simp⟩ kE.c.c.c.c rH ?_
 rintro i ⟨T,p⟩
 refine .seq<|.sr<|.mo rfl<|.mo rfl<|.q (.bO s)<|.q .lss<|.zn<|.cond rfl (λH=>?_) λH=>?_
 have g:i<bE.length:=cy H
 obtain⟨x,d⟩:=bW g
 refine .kn<|.seq<|.block<|.sr<|.mo rfl<|.mo rfl ?_
 refine .bG i s d (λa2=>?_)
 refine .q (.aT rfl)<|.ba (vD x (fm x (aW d)) _) (λv z=>?_)
 subst z
 refine .q .not<|.zn<|.cond rfl (λI=>?_) λI=>?_
 have n:fT bE no cs=9:=pD f (by rw[afO.2 ⟨x,aW d,I⟩];simp)
 refine .sr<|.az rfl<|.ret (br (aK (cI (br (aK (aN rfl ?_))))))
 ·(refine⟨?_,rfl⟩;rw[n];done)
 refine .skip<|aX<|aw<|.region<|.mo rfl<|.ia (i+1) .add<|.ag rfl<|.nil ?_
 ·exact bm (i+1) ⟨g,by rw[afX,d,af6,p];simp;simpa using I⟩ (by omega) kE.c.c.c.c rH
 have o:i=bE.length:=by have:=bF H;omega
 subst o
 rw[afE]at p
 refine .exit<|bo<|bs<|bp<|aw<|.seq<|.sr<|.az rfl<|.block<|.loop (X:=Nat) (λi=>i<=no.length/\(no.take i).any (λt=> !eH t)=false) (λi=>[(0,.slice D bE.length B),(1,.slice E no.length C),(2,.slice F cs.length A),(8,iN i)]) (λ_=>[]) (λi=>no.length-i) 0 ⟨afv _,by simp⟩ kE.c.c.c.c rH ?_
 rintro i ⟨T,r⟩
 refine .seq<|.sr<|.mo rfl<|.mo rfl<|.q (.bO w)<|.q .lss<|.zn<|.cond rfl (λJ=>?_) λJ=>?_
 have g:i<no.length:=cy J
 obtain⟨x,d⟩:=bW g
 refine .kn<|.seq<|.block<|.sr<|.mo rfl<|.mo rfl ?_
 refine .bG i w d (λa3=>?_)
 refine .q (.aT rfl)<|.ba (vD x (fn x (aW d)) _) (λv z=>?_)
 subst z
 refine .q .not<|.zn<|.cond rfl (λK=>?_) λK=>?_
 have n:fT bE no cs=9:=pD f (by rw[p,afO.2 ⟨x,aW d,K⟩];simp)
 refine .sr<|.az rfl<|.ret (br (aK (cI (br (aK (aN rfl ?_))))))
 ·(refine⟨?_,rfl⟩;rw[n];done)
 refine .skip<|aX<|aw<|.region<|.mo rfl<|.ia (i+1) .add<|.ag rfl<|.nil ?_
 ·exact bm (i+1) ⟨g,by rw[afX,d,af6,r];simp;simpa using K⟩ (by omega) kE.c.c.c.c rH
 have o:i=no.length:=by have:=bF J;omega
 subst o
 rw[afE]at r
 refine .exit<|bo<|bs<|bp<|aw<|.seq<|.sr<|.az rfl<|.block<|.loop (X:=Nat) (λi=>i<=cs.length/\(cs.take i).any (λc=> !eH c.t)=false) (λi=>[(0,.slice D bE.length B),(1,.slice E no.length C),(2,.slice F cs.length A),(9,iN i)]) (λ_=>[]) (λi=>cs.length-i) 0 ⟨afv _,by simp⟩ kE.c.c.c.c rH ?_
 rintro i ⟨T,Q⟩
 refine .seq<|.sr<|.mo rfl<|.mo rfl<|.q (.bO m)<|.q .lss<|.zn<|.cond rfl (λL=>?_) λL=>?_
 have g:i<cs.length:=cy L
 obtain⟨x,d⟩:=bW g
 refine .kn<|.seq<|.block<|.sr<|.mo rfl<|.mo rfl ?_
 refine .bG i m d (λa4=>?_)
 refine .fa rfl<|.q (.loadT rfl)<|.ba (vD x.t (fc x (aW d)) _) (λv z=>?_)
 subst z
 refine .q .not<|.zn<|.cond rfl (λM=>?_) λM=>?_
 have n:fT bE no cs=9:=pD f (by rw[p,r,afO.2 ⟨x,aW d,M⟩];simp)
 refine .sr<|.az rfl<|.ret (br (aK (cI (br (aK (aN rfl ?_))))))
 ·(refine⟨?_,rfl⟩;rw[n];done)
 refine .skip<|aX<|aw<|.region<|.mo rfl<|.ia (i+1) .add<|.ag rfl<|.nil ?_
 ·exact bm (i+1) ⟨g,by rw[afX,d,af6,Q];simp;simpa using M⟩ (by omega) kE.c.c.c.c rH
 have o:i=cs.length:=by have:=bF L;omega
 subst o
 rw[afE]at Q
 have V:∀c∈cs,eH c.t=true:=λc n=>by
  have:=List.any_eq_false.1 Q c n
  simpa using this
 refine .exit<|bo<|bs<|bp<|aw<|.seq<|.sr<|.az rfl<|.block<|.loop (X:=Nat) (λi=>i<=cs.length/\((cs.take i).map (·.t)).Nodup) (λi=>[(0,.slice D bE.length B),(1,.slice E no.length C),(2,.slice F cs.length A),(10,iN i)]) (λ_=>[]) (λi=>cs.length-i) 0 ⟨afv _,by simp⟩ kE.c.c.c.c rH ?_
 rintro i ⟨T,S⟩
 refine .seq<|.sr<|.mo rfl<|.mo rfl<|.q (.bO m)<|.q .lss<|.zn<|.cond rfl (λN=>?_) λN=>?_
 have g:i<cs.length:=cy N
 obtain⟨x,d⟩:=bW g
 have a1:(cs.take (i+1)).map (·.t)=(cs.take i).map (·.t)++[x.t]:=by rw[afX,d,Option.toList_some,afz];rfl
 refine .kn<|.seq<|.block<|.sr<|.az rfl<|.block<|.loop (X:=Nat) (λk=>k<=i/\x.t∉(cs.take k).map (·.t)) (λk=>[(0,.slice D bE.length B),(1,.slice E no.length C),(2,.slice F cs.length A),(10,iN i),(11,iN k)]) (λ_=>[]) (λk=>i-k) 0 ⟨afv _,by simp⟩ kE.c.c.c.c.c rH ?_
 rintro k ⟨hk,W⟩
 refine .seq<|.sr<|.mo rfl<|.mo rfl<|.q .lss<|.zn<|.cond rfl (λO=>?_) λO=>?_
 have Z:k<i:=cy O
 obtain⟨y,U⟩:∃x,cs[k]? =some x:=⟨_,aV (by omega)⟩
 refine .kn<|.seq<|.block<|.seq<|.gd mixed (by kernel_rfl)<|.mo rfl<|.mo rfl ?_
 refine .bG i m d (λa5=>?_)
 refine .fa rfl<|.q (.loadT rfl) ?_
 refine .mo rfl<|.mo rfl ?_
 refine .bG k m U (λa6=>?_)
 refine .fa rfl<|.q (.loadT rfl) ?_
 refine .q (.nT rfl rfl (aA.kinds x.t) (aA.kinds y.t)) ?_
 rw[show eR (List.take 7 (List.drop 1 x.enc)) (List.take 7 (List.drop 1 y.enc))=decide (x.t=y.t)from aA.eq x.t y.t]
 refine .zn<|.cond rfl (λG=>?_) λG=>?_
 have n:fT bE no cs=2:=by
  rw[sQ f p r V true ?_];rfl
  rw[eq_comm,agd,decide_eq_false_iff_not]
  intro hn
  have:=List.pairwise_iff_getElem.1 hn k i (by simp;omega) (by simp;omega) Z
  rw[agf,agf,(afM.1 d).2,(afM.1 U).2]at this
  exact this (bX G).symm
 refine .sr<|.az rfl<|.ret (br (aK (cI (br (br (aK (cI (br (aK (aN rfl ?_))))))))))
 ·(refine⟨?_,rfl⟩;rw[n];done)
 refine .skip<|aX<|aw<|.region<|.mo rfl<|.ia (k+1) .add<|.ag rfl<|.nil ?_
 ·exact bm (k+1) ⟨Z,by
   rw[afX,U,Option.toList_some,afz,afH,not_or]
   exact⟨W,by simpa using G⟩⟩ (by omega) kE.c.c.c.c.c rH
 have a0:k=i:=by have:=bF O;omega
 subst a0
 refine .exit<|bo<|bs<|bp<|aX<|aw<|.region<|.mo rfl<|.ia (k+1) .add<|.ag rfl<|.nil ?_
 ·exact bm (k+1) ⟨g,by
   rw[a1,List.nodup_append]
   exact⟨S,by simp,λa ha b Y=>by simp only[afA]at Y;subst Y;exact λe=>W (e▸ha)⟩⟩ (by omega) kE.c.c.c.c rH
 have o:i=cs.length:=by have:=bF N;omega
 subst o
 rw[afE]at S
 refine .exit<|bo<|bs<|bp<|aw<|.sr<|.az rfl<|.ret (aN rfl ?_)
 ·(refine⟨?_,rfl⟩;rw[sQ f p r V false (by simp[S])];rfl)
end
theorem oN{α:Type}{p:α->Bool}{l:List α}{i:Nat}{x:α}(h:(l.take i).any p=false)(b:l[i]? =some x)(a:p x=false):(l.take (i+1)).any p=false:=by
 rw[afX,b,af6,h]
 simp[a]
theorem A3{L:List bC}{head:Int}{bE no:List aA}{cs:List cB}(h:(bE.any (λt=> !dv L t)||no.any (λt=>dv L t))=true):eY L head bE no cs=13:=by unfold eY;rw[afx h]
theorem Qm{L:List bC}{head:Int}{bE no:List aA}{cs:List cB}(a:bE.any (λt=> !dv L t)=false)(b:no.any (λt=>dv L t)=false)(h:cs.any (λc=>c.put&&dv L c.t)=true):eY L head bE no cs=10:=by unfold eY;rw[a,b,afw (by simp),afx h]
theorem Qk{L:List bC}{head:Int}{bE no:List aA}{cs:List cB}(a:bE.any (λt=> !dv L t)=false)(b:no.any (λt=>dv L t)=false)(d:cs.any (λc=>c.put&&dv L c.t)=false)(h:cs.any (λc=> !c.put&& !dv L c.t)=true):eY L head bE no cs=11:=by unfold eY;rw[a,b,afw (by simp),afw (by rw[d];simp),afx h]
theorem Qn{L:List bC}{head:Int}{bE no:List aA}{cs:List cB}(a:bE.any (λt=> !dv L t)=false)(b:no.any (λt=>dv L t)=false)(d:cs.any (λc=>c.put&&dv L c.t)=false)(e:cs.any (λc=> !c.put&& !dv L c.t)=false):eY L head bE no cs=if 4611686018427387903<=head\/4096<L.length+fp cs/\0<fp cs then 8 else 0:=by unfold eY;rw[a,b,afw (by simp),afw (by rw[d];simp),afw (by rw[e];simp)]
theorem Pe{R:ay}{b:Nat}{S:cX}{vL:Value}{L:List bC}(h:DV R b S vL L)(a4:L.length<=5000)(vm vn vc:Value)(bE no:List aA)(cs:List cB)(E:RS R 7 aA.enc vm bE)(F:RS R 7 aA.enc vn no)(m:RS R 8 cB.enc vc cs)(a3:cs.length<=1000):
  Spec prog 109 [pT b,vm,vn,vc] R [] λu H'=>u=.int .i64 (eY L S.head bE no cs)/\H'=[]:=by
 have pc:=h.pc
 have a6:=h.rs.aB
 obtain⟨pw,a7,rfl⟩:=h.rs.val
 have a0:=h.rs
 have lm:=E.le
 have ln:=F.le
 have lc:=m.le
 obtain⟨M,J,rfl⟩:=E.val
 obtain⟨N,K,rfl⟩:=F.val
 obtain⟨O,I,rfl⟩:=m.val
 refine Spec.body func109 rfl results109 ntmps109 rfl<|.sr<|.ag rfl<|.zs<|.sr<|.az rfl<|.block<|.loop (X:=Nat) (λi=>i<=bE.length/\(bE.take i).any (λt=> !dv L t)=false) (λi=>[(0,pT b),(1,.slice M bE.length J),(2,.slice N no.length K),(3,.slice O cs.length I),(9,iN i)]) (λ_=>[]) (λi=>bE.length-i) 0 ⟨afv _,by simp⟩ kE.c.c.c.c.c rH ?_
 rintro i ⟨hi,y⟩
 refine .seq<|.sr<|.mo rfl<|.mo rfl<|.q (.bO E)<|.q .lss<|.zn<|.cond rfl (λQ=>?_) λQ=>?_
 have j:i<bE.length:=cy Q
 obtain⟨x,e⟩:=bW j
 refine .kn<|.seq<|.block<|.sr<|.mo rfl<|.mo rfl<|.mo rfl ?_
 refine .bG i E e (λa8=>?_)
 refine .q (.aT rfl)<|.ba ((h.mono λb o n=>.inl n).find x) (λv s=>?_)
 obtain⟨z,rfl,w⟩:=s
 have k:=w.lt
 refine .q .lss<|.zn<|.cond rfl (λT=>?_) λT=>?_
 have p:eY L S.head bE no cs=13:=A3 (by rw[afO.2 ⟨x,aW e,by rw[<-k];exact T⟩];simp)
 refine .sr<|.az rfl<|.ret (br (aK (cI (br (aK (aN rfl ?_))))))
 ·(refine⟨?_,rfl⟩;rw[p];done)
 refine .skip<|aX<|aw<|.region<|.mo rfl<|.ia (i+1) .add<|.ag rfl<|.nil ?_
 ·exact bm (i+1) ⟨j,oN y e (by rw[<-k];exact T)⟩ (by omega) kE.c.c.c.c.c (aQ [])
 have r:i=bE.length:=by have:=bF Q;omega
 subst r
 rw[afE]at y
 refine .exit<|bo<|bs<|bp<|aw<|.seq<|.sr<|.az rfl<|.block<|.loop (X:=Nat) (λi=>i<=no.length/\(no.take i).any (λt=>dv L t)=false) (λi=>[(0,pT b),(1,.slice M bE.length J),(2,.slice N no.length K),(3,.slice O cs.length I),(10,iN i)]) (λ_=>[]) (λi=>no.length-i) 0 ⟨afv _,by simp⟩ kE.c.c.c.c.c rH ?_
 rintro i ⟨hi,B⟩
 refine .seq<|.sr<|.mo rfl<|.mo rfl<|.q (.bO F)<|.q .lss<|.zn<|.cond rfl (λU=>?_) λU=>?_
 have j:i<no.length:=cy U
 obtain⟨x,e⟩:=bW j
 refine .kn<|.seq<|.block<|.sr<|.mo rfl<|.mo rfl<|.mo rfl ?_
 refine .bG i F e (λa9=>?_)
 refine .q (.aT rfl)<|.ba ((h.mono λb o n=>.inl n).find x) (λv s=>?_)
 obtain⟨z,rfl,w⟩:=s
 have k:=w.ge
 refine .q .geq<|.zn<|.cond rfl (λV=>?_) λV=>?_
 have p:eY L S.head bE no cs=13:=A3 (by rw[y,afO.2 ⟨x,aW e,by rw[<-k];exact V⟩];rfl)
 refine .sr<|.az rfl<|.ret (br (aK (cI (br (aK (aN rfl ?_))))))
 ·(refine⟨?_,rfl⟩;rw[p];done)
 refine .skip<|aX<|aw<|.region<|.mo rfl<|.ia (i+1) .add<|.ag rfl<|.nil ?_
 ·exact bm (i+1) ⟨j,oN B e (by rw[<-k];exact V)⟩ (by omega) kE.c.c.c.c.c (aQ [])
 have r:i=no.length:=by have:=bF U;omega
 subst r
 rw[afE]at B
 refine .exit<|bo<|bs<|bp<|aw<|.seq<|.sr<|.az rfl<|.block<|.loop (X:=Nat) (λi=>i<=cs.length/\(cs.take i).any (λc=>c.put&&dv L c.t)=false) (λi=>[(0,pT b),(1,.slice M bE.length J),(2,.slice N no.length K),(3,.slice O cs.length I),(11,iN i)]) (λ_=>[]) (λi=>cs.length-i) 0 ⟨afv _,by simp⟩ kE.c.c.c.c.c rH ?_
 rintro i ⟨hi,C⟩
 refine .seq<|.sr<|.mo rfl<|.mo rfl<|.q (.bO m)<|.q .lss<|.zn<|.cond rfl (λW=>?_) λW=>?_
 have j:i<cs.length:=cy W
 obtain⟨x,e⟩:=bW j
 refine .kn<|.seq<|.block<|.sr<|.mo rfl<|.mo rfl ?_
 refine .bG i m e (λb0=>?_)
 refine .fa rfl<|.lo rfl<|.mo rfl<|.split (t:=51) rfl (λd=>?_) (λd=>?_)
 refine .gT d<|.mo rfl<|.gT d<|.mo rfl<|.gT d<|.mo rfl<|.gT d ?_
 refine .bG i m e (λb1=>?_)
 refine .gT d<|.fa rfl<|.gT d<|.q (.loadT rfl)<|.gT d<|.ba ((h.mono λb o n=>.inl n).find x.t) (λv s=>?_)
 obtain⟨z,rfl,w⟩:=s
 have k:=w.ge
 refine .gT d<|.q .geq<|.q (.aU d)<|.zn<|.cond rfl (λY=>?_) λY=>?_
 have p:eY L S.head bE no cs=10:=Qm y B (afO.2 ⟨x,aW e,by rw[<-k,d];exact Y⟩)
 refine .sr<|.az rfl<|.ret (br (aK (cI (br (aK (aN rfl ?_))))))
 ·(refine⟨?_,rfl⟩;rw[p];done)
 refine .skip<|aX<|aw<|.region<|.mo rfl<|.ia (i+1) .add<|.ag rfl<|.nil ?_
 ·exact bm (i+1) ⟨j,oN C e (by rw[<-k,d];exact Y)⟩ (by omega) kE.c.c.c.c.c (aQ [])
 refine .gF d<|.gF d<|.gF d<|.gF d<|.gF d<|.gF d<|.gF d<|.gF d<|.q (.aR d)<|.zn<|.cU<|.skip<|aX<|aw<|.region<|.mo rfl<|.ia (i+1) .add<|.ag rfl<|.nil ?_
 ·exact bm (i+1) ⟨j,oN C e (by rw[d];rfl)⟩ (by omega) kE.c.c.c.c.c (aQ [])
 have r:i=cs.length:=by have:=bF W;omega
 subst r
 rw[afE]at C
 refine .exit<|bo<|bs<|bp<|aw<|.sr<|.mo rfl<|.nc rfl<|.fa rfl<|.lo rfl<|.q (.bO a0)<|.ag rfl<|.zs<|.sr<|.az rfl<|.block<|.loop (X:=Nat) (λi=>i<=cs.length/\(cs.take i).any (λc=> !c.put&& !dv L c.t)=false) (λi=>[(0,pT b),(1,.slice M bE.length J),(2,.slice N no.length K),(3,.slice O cs.length I),(12,.int .i64 ((L.length+fp (cs.take i):Nat):Int)),(13,iN i)]) (λ_=>[]) (λi=>cs.length-i) 0 ⟨afv _,by simp⟩ kE.c.c.c.c.c.c rH ?_
 rintro i ⟨hi,D⟩
 have a5:fp (cs.take i)<=1000:=by unfold fp;exact afI (afP _ _) (by rw[afG];omega)
 refine .seq<|.sr<|.mo rfl<|.mo rfl<|.q (.bO m)<|.q .lss<|.zn<|.cond rfl (λZ=>?_) λZ=>?_
 have j:i<cs.length:=cy Z
 obtain⟨x,e⟩:=bW j
 have H:=Be e
 refine .kn<|.seq<|.block<|.seq<|.sr<|.mo rfl<|.mo rfl ?_
 refine .bG i m e (λb2=>?_)
 refine .fa rfl<|.lo rfl<|.q .not<|.mo rfl<|.split (t:=78) rfl (λa=>?_) (λa=>?_)
 refine .gT a<|.mo rfl<|.gT a<|.mo rfl<|.gT a<|.mo rfl<|.gT a ?_
 refine .bG i m e (λb3=>?_)
 refine .gT a<|.fa rfl<|.gT a<|.q (.loadT rfl)<|.gT a<|.ba ((h.mono λb o n=>.inl n).find x.t) (λv s=>?_)
 obtain⟨z,rfl,w⟩:=s
 have k:=w.lt
 refine .gT a<|.q .lss<|.q (.aU a)<|.zn<|.cond rfl (λh8=>?_) λh8=>?_
 have p:eY L S.head bE no cs=11:=Qk y B C (afO.2 ⟨x,aW e,by rw[<-k,a];exact h8⟩)
 refine .sr<|.az rfl<|.ret (aK (br (aK (cI (br (aK (aN rfl ?_)))))))
 ·(refine⟨?_,rfl⟩;rw[p];done)
 refine .kn<|.sr<|.mo rfl<|.mo rfl ?_
 refine .bG i m e (λa2=>?_)
 refine .fa rfl<|.lo rfl<|.zn<|.cond rfl (λl=>?_) λl=>?_
 have A:L.length+fp (cs.take (i+1))=L.length+fp (cs.take i)+1:=by rw[H,afx l];rfl
 refine .region<|.mo rfl<|.ia (L.length+fp (cs.take i)+1) .add<|.ag rfl<|.nil<|aX<|aw<|.region<|.mo rfl<|.ia (i+1) .add<|.ag rfl<|.nil ?_
 ·(exfalso;rw[l]at a;cases a;done)
 have A:L.length+fp (cs.take (i+1))=L.length+fp (cs.take i):=by rw[H,afw (by rw[l];simp)];rfl
 refine .skip<|aX<|aw<|.region<|.mo rfl<|.ia (i+1) .add<|.ag rfl<|.nil ?_
 ·(refine bm (i+1) ⟨j,oN D e ?_⟩ (by omega) (by simp only[A];exact kE.c.c.c.c.c.c) (aQ []);rw[<-k,a];exact h8)
 refine .gF a<|.gF a<|.gF a<|.gF a<|.gF a<|.gF a<|.gF a<|.gF a<|.q (.aR a)<|.zn<|.cU<|.kn<|.sr<|.mo rfl<|.mo rfl ?_
 refine .bG i m e (λa2=>?_)
 refine .fa rfl<|.lo rfl<|.zn<|.cond rfl (λl=>?_) λl=>?_
 have A:L.length+fp (cs.take (i+1))=L.length+fp (cs.take i)+1:=by rw[H,afx l];rfl
 refine .region<|.mo rfl<|.ia (L.length+fp (cs.take i)+1) .add<|.ag rfl<|.nil<|aX<|aw<|.region<|.mo rfl<|.ia (i+1) .add<|.ag rfl<|.nil ?_
 ·(refine bm (i+1) ⟨j,oN D e ?_⟩ (by omega) (by simp only[A];exact kE.c.c.c.c.c.c) (aQ []);rw[l];rfl)
 have A:L.length+fp (cs.take (i+1))=L.length+fp (cs.take i):=by rw[H,afw (by rw[l];simp)];rfl
 refine .skip<|aX<|aw<|.region<|.mo rfl<|.ia (i+1) .add<|.ag rfl<|.nil ?_
 ·(exfalso;rw[l]at a;cases a;done)
 have r:i=cs.length:=by have:=bF Z;omega
 subst r
 rw[afE]at D
 rw[afE]
 have G:=Qn (head:=S.head) y B C D
 refine .exit<|bo<|bs<|bp<|aw<|.seq<|.sr<|.mo rfl<|.nc rfl<|.fa rfl<|.lo rfl<|.q .geq<|.mo rfl<|.split (t:=100) rfl (λg=>?_) (λg=>?_)
 refine .gF g<|.gF g<|.gF g<|.dc rfl<|.dc rfl<|.dc rfl<|.dc rfl<|.dc rfl<|.dc rfl<|.dc rfl<|.gF g<|.q (.aU g)<|.zn<|.gM<|.sr<|.az rfl<|.ret (aK (aN rfl ?_))
 ·(refine⟨?_,rfl⟩;rw[G];congr 1;split<;>first|rfl|(exfalso;simp_all;done)|(exfalso;simp_all;omega))
 refine .gT g<|.mo rfl<|.gT g<|.q .gtr<|.gT g<|.mo rfl<|.split (t:=103) rfl (λf=>?_) (λf=>?_)
 refine .gT f<|.mo rfl<|.gT f<|.mo rfl<|.gT f<|.nc rfl<|.gT f<|.fa rfl<|.gT f<|.lo rfl<|.gT f<|.q (.bO a0)<|.gT f<|.q .gtr<|.gT g<|.q (.aU f)<|.q (.aR g)<|.zn<|.cond rfl (λa1=>?_) λa1=>?_
 refine .sr<|.az rfl<|.ret (aK (aN rfl ?_))
 ·(refine⟨?_,rfl⟩;rw[G];congr 1;split<;>first|rfl|(exfalso;simp_all;done)|(exfalso;simp_all;omega))
 refine .kn<|.sr<|.az rfl<|.ret (aN rfl ?_)
 ·(refine⟨?_,rfl⟩;rw[G];congr 1;split<;>first|rfl|(exfalso;simp_all;done)|(exfalso;simp_all;omega))
 refine .gF f<|.gF f<|.gF f<|.gF f<|.gF f<|.gF f<|.gF f<|.gT g<|.q (.aR f)<|.q (.aR g)<|.zn<|.cU<|.kn<|.sr<|.az rfl<|.ret (aN rfl ?_)
 ·(refine⟨?_,rfl⟩;rw[G];congr 1;split<;>first|rfl|(exfalso;simp_all;done)|(exfalso;simp_all;omega))
def DO(b:Nat)(S:cX)(T:ax):Prop:=∃vL L TL,T=(b,.cells [vL,.int .u64 S.head,.int .u64 S.dO].toArray 103 (0,0))::TL/\OS 226 9 bC.enc vL L TL/\RL S L
theorem DO.view{b:Nat}{S:cX}{T:ax}{R:ay}(h:DO b S T)(a:∀p∈T,R p.1 p.2):∃vL L,DV R b S vL L/\RL S L:=by
 obtain⟨vL,L,f,rfl,c,d⟩:=h
 exact⟨vL,L,⟨PC.of (E:=103) (fr:=(0,0)) (a (b,_) (by simp)),c.rs λp e=>a p (by simp[e])⟩,d⟩
theorem RL.len{S:cX}(a:fY S){L:List bC}(h:RL S L):L.length<=4096:=by rw[h.pm.length_eq];exact a.len
theorem PY(b:Nat)(S:cX)(T:ax)(h:DO b S T)(g:fY S)(vm vn vc:Value)(bE no:List aA)(cs:List cB)(R:ay)(D:RS R 7 aA.enc vm bE)(F:RS R 7 aA.enc vn no)(a:RS R 8 cB.enc vc cs)(fm:∀t∈bE,t.fits)(fn:∀t∈no,t.fits)(fc:∀c∈cs,c.t.fits)(a5:cs.length<=1000):
  Spec prog 58 [pT b,vm,vn,vc] R [T] λu H'=>∃T',H'=[T']/\u=.tuple [.int .u64 (if gq S bE no cs=0 then S.head+1 else 0),.int .i64 (gq S bE no cs)].toArray/\DO b (iC S bE no cs) T':=by
 have a0:=g.h0
 have a1:=g.h1
 have a2:=g.h2
 have h0:=h
 obtain⟨pm,km,rfl⟩:=D.val
 obtain⟨pn,kn,rfl⟩:=F.val
 obtain⟨pv,kc,rfl⟩:=a.val
 obtain⟨c1,L0,a3,W⟩:=h.view (R:=Rx R [T]) λp hp=>.inr (by simp[hp])
 have b2:=W.len g
 refine Spec.body func58 rfl results58 ntmps58 rfl<|.sr<|.ag rfl<|.ag rfl<|.z<|.mo rfl<|.mo rfl<|.mo rfl<|.ba (O8 _ _ _ bE no cs _ D.rx F.rx a.rx fm fn fc) (λv n=>?_)
 subst n
 refine .ag rfl<|.zs<|.sr<|.mo rfl<|.q .bY<|.zn ?_
 refine bx.cut (X:=Unit) (λ_=>True) (λ_=>[(0,pT b),(1,.slice pm bE.length km),(2,.slice pn no.length kn),(3,.slice pv cs.length kc),(10,.int .i64 (gq S bE no cs))]) (λ_=>[T]) ?_ ?_
 refine .cond rfl (λw=>?_) λw=>?_
 have G:fT bE no cs=0:=by simpa using w
 have s:eY L0 S.head bE no cs=gq S bE no cs:=by rw[sR G,Ql W.pm]
 refine .region<|.mo rfl<|.mo rfl<|.mo rfl<|.mo rfl<|.ba (Pe a3 (by omega) _ _ _ bE no cs D.rx F.rx a.rx a5) (λv n=>?_)
 subst n
 refine .ag rfl<|.nil ?_
 ·exact aG () afC (by rw[<-s];exact kE.c.c.c.c.c) rH
 have G:fT bE no cs≠0:=by simpa using w
 have s:fT bE no cs=gq S bE no cs:=by rw[vK G]
 refine .skip ?_
 ·exact aG () afC (by rw[<-s];exact kE.c.c.c.c.c) rH
 intro x hx
 skip
 refine aw<|.seq<|.sr<|.mo rfl<|.q .dZ<|.zn<|.cond rfl (λA=>?_) λA=>?_
 have f:gq S bE no cs≠0:=by simpa using A
 refine .sr<|.mo rfl<|.ag rfl<|.az rfl<|.ret (aK (bj _ (.two (.tmp rfl) (.tmp rfl)) (.one [0] _) ?_))
 ·exact⟨T,by simp[take],by rw[afw f],by rw[qW f];exact h0⟩
 have f:gq S bE no cs=0:=by simpa using A
 have K:=sS f
 have b4:=K.head
 obtain⟨vL,L,O,rfl,V,U⟩:=h
 have b6:=V.aB
 refine .kn<|.sr<|.sub (H':=[bl b [vL,.int .u64 S.head,.int .u64 S.dO] 103,O]) (bz.eS (by simp))<|.mo rfl<|.mo rfl<|.nc rfl<|.fa rfl<|.lo rfl<|.q (.u64 (S.head+1) .add ⟨rfl,by omega,by omega⟩)<|.nc rfl<|.fa rfl<|.dz rfl rfl<|.zs<|.sr<|.az rfl<|.block<|.loop (X:=Nat×Value×List bC×ax) (λy=>y.1<=cs.length/\OS 226 9 bC.enc y.2.1 y.2.2.1 y.2.2.2/\RL ⟨(cs.take y.1).foldl (eX (S.head+1)) S.rows,S.head+1,S.dO⟩ y.2.2.1) (λy=>[(0,pT b),(3,.slice pv cs.length kc),(11,iN y.1)]) (λy=>[bl b [y.2.1,.int .u64 (S.head+1),.int .u64 S.dO] 103,y.2.2.2]) (λy=>cs.length-y.1) (0,vL,L,O) ⟨afv _,V,⟨U.pm,U.st⟩⟩ kE.c.c.c rH ?_
 rintro⟨i,M,N,Q⟩ ⟨hi,e,o⟩
 simp only at hi e o⊢
 have b5:=e.aB
 have b3:=o.len (g.fold (K.take i))
 have lc:=a.le
 refine .seq<|.sr<|.mo rfl<|.mo rfl<|.q (.bO a)<|.q .lss<|.zn<|.cond rfl (λB=>?_) λB=>?_
 have H:i<cs.length:=cy B
 obtain⟨c,l⟩:=bW H
 have c0:=a.pc l
 obtain⟨m,a6⟩:=RL.next g K l o
 refine .kn<|.seq<|.block<|.sr<|.mo rfl<|.mo rfl ?_
 refine .bG i a l (λb7=>?_)
 refine .fa rfl<|.lo rfl<|.zn<|.cond rfl (λC=>?_) λC=>?_
 refine .cS [18] mixed<|.tO 0 rfl .move<|.tO 1 rfl .move<|.tO 2 rfl (.nilCheck rfl)<|.tO 3 rfl (.fieldAddr rfl)<|.tO 4 rfl (.cm rfl)<|.tO 5 rfl .move<|.tO 6 rfl .move<|.tO 7 rfl (.bG i a l rfl rfl rfl)<|.tO 8 rfl (.fieldAddr rfl)<|.tO 9 rfl (.loadT rfl)<|.tO 10 rfl .move<|.tO 11 rfl (.nilCheck rfl)<|.tO 12 rfl (.fieldAddr rfl)<|.tO 13 rfl (.cm rfl)<|.tO 14 rfl .cR<|.sT 15 rfl<|.dh (Pj _ N ⟨c.t,S.head+1,0⟩ _ e.rx (by omega)) (λu Tn hu=>?_)
 have iu:=hu.aB
 refine .nil<|Next.sub<|.tO 16 rfl (.nilCheck rfl)<|.tO 17 rfl (.fieldAddr rfl)<|.sT 18 rfl<|.dz rfl rfl<|.nil<|Next.mod rfl<|RA.nil (by kernel_rfl)<|aX<|aw<|.region<|.mo rfl<|.ia (i+1) .add<|.ag rfl<|.nil ?_
 ·exact bm (i+1,u,_,Tn) ⟨H,by simp only;exact hu,by simp only;unfold pe at m;rw[afx C]at m;exact m⟩ (by simp only;omega) (((kE.d rfl).d rfl).d rfl) (aQ [1,0])
 obtain⟨j,x,r,J,b0,b1⟩:=a6 C
 refine .sr<|.mo rfl<|.mo rfl<|.mo rfl ?_
 refine .bG i a l (λb8=>?_)
 refine .fa rfl<|.q (.loadT rfl)<|.ba (DV.find (S:=⟨[],S.head+1,S.dO⟩) ⟨PC.of (E:=103) (fr:=(0,0)) (.inr (by simp)),e.rx⟩ c.t) (λv n=>?_)
 obtain⟨z,rfl,hz⟩:=n
 obtain rfl:z=(j:Int):=by
  rcases hz with⟨k,y,rfl,hy,Y,a9⟩|⟨_,I⟩
  ·rcases Nat.lt_trichotomy k j with h9|h9|h9
   ·rw[b0 k y h9 hy]at Y;cases Y
   ·rw[h9]
   ·rw[a9 j x h9 r]at J;cases J
  ·unfold dv at I
   rw[afO.2 ⟨x,aW r,J⟩]at I
   cases I
 refine .az rfl<|.dm 11 mixed (by kernel_rfl) ?_
 conv=>arg 6;dsimp only[List.take]
 refine .mo rfl<|.nc rfl<|.fa rfl<|.lo rfl<|.mo rfl<|.mo rfl<|.nc rfl<|.fa rfl<|.lo rfl ?_
 refine .aL j e r (λb9=>?_)
 refine .fa rfl<|.nil ?_
 refine .qU (k:=8) (cs:=[.int .u64 (S.head+1)]) (z':=⟨x.t,x.fr,S.head+1⟩) j e r rfl rfl rfl rfl rfl (by simp[aB]) rfl (by simp) (λTd a4=>?_)
 refine .nil<|aX<|aw<|.region<|.mo rfl<|.ia (i+1) .add<|.ag rfl<|.nil ?_
 ·exact bm (i+1,M,_,Td) ⟨H,by simp only;exact a4,by simp only;rw[b1]at m;exact m⟩ (by simp only;omega) (((kE.d rfl).d rfl).d rfl) (aQ [0,0])
 refine .exit<|bo<|bs<|bp<|aw<|.sr<|.mo rfl<|.nc rfl<|.fa rfl<|.lo rfl<|.ag rfl<|.az rfl<|.ret (bj _ (.two (.tmp rfl) (.tmp rfl)) ((bz.eS (H':=[(b,.cells [M,.int .u64 (S.head+1),.int .u64 S.dO].toArray 103 (0,0))::Q]) (by simp))) ?_)
 ·have a8:i=cs.length:=by have:=bF B;omega
  subst a8
  have a7:=o.write f
  have Z:(iC S bE no cs).head=S.head+1/\(iC S bE no cs).dO=S.dO:=by unfold iC;rw[afx f];exact⟨rfl,rfl⟩
  exact⟨_,rfl,by rw[f];rfl,M,N,Q,by rw[Z.1,Z.2],e,a7⟩
structure lV where
 c:bJ
 vw:Value
 calls:List fC
def lV.enc(w:lV):List Value:=[w.c.vs,w.c.vc,w.vw]
structure lV.is(R:ay)(w:lV):Prop where
 c:w.c.is R
 rs:RS R 12 fC.enc w.vw w.calls
 all:∀d∈w.calls,d.is R
theorem RI{S:cX}(d:fY S)(bE no:List aA)(cs:List cB):(iC S bE no cs).rows.length<=S.rows.length+32:=by
 by_cases h:gq S bE no cs=0
 ·rw[Bm d h]
  have b:fT bE no cs=0:=by
   unfold gq at h
   split at h
   ·rename_i a;exact absurd h a
   ·rename_i a;simpa using a
  have e:cs.length<=32:=by
   unfold fT at b
   split at b
   ·cases b
   ·omega
  simp only[afZ,afy,news]
  have:=afP (λc:cB=>c.put) cs
  omega
 ·rw[qW h];omega
theorem fY.new:fY ⟨[],0,0⟩:=⟨λx a=>(by cases a),List.Pairwise.nil,by simp,Int.le_refl _,Int.le_refl _,by decide⟩
theorem yP(c:Cf):nV [] 0 c=(c.numbers isWord dj).1:=by
 unfold nV
 simp only[List.getLast?_nil,Option.map_none,af2,Bool.false_eq_true,if_false,afY]
 by_cases h:(c.numbers isWord dj).1=0
 ·rw[afw (by rw[h];simp),h];rfl
 ·rw[afx h]
def BQ(R:ay)(w:lV)(u:Value)(H:aP):Prop:=∃Tc Th Ts Tx hb g x e S,∃c:bJ,H=[Tc,Th,Ts,Tx]/\u=.tuple [pT hb,pT g,.agg c.enc.toArray,pT x,.bool true].toArray/\
 c.is (λb o=>R b o\/(b,o)∈Tc)/\c.plain=iH w.c.plain/\((iH w.c.plain).numbers isWord dj).1=0/\ee.rev e=0/\(ee.c e).plain=iH w.c.plain/\HI hb [e] 0 Th/\SI g S Ts/\fY S/\DO x S Tx/\S.rows.length<=512
theorem NK(w:lV)(R:ay)(h:w.is R):Spec prog 14 [.agg w.enc.toArray] R [] λu H'=>BQ R w u H'\/
  ∃T c,∃x:Nat,H'=[T]/\u=.tuple [.pointer none,.pointer none,.agg (bJ.enc c).toArray,pT x,.bool false].toArray/\c.is (λb o=>R b o\/(b,o)∈T)/\c.plain=iH w.c.plain/\((iH w.c.plain).numbers isWord dj).1≠0:=by
 obtain⟨c,vw,a4⟩:=w
 have I:=h.c
 have M:=h.rs
 have Z:=h.all
 simp only at I M Z⊢
 have i1:One c.vs:=RS.aB I.ss
 have i2:One c.vc:=RS.aB I.sc
 have i3:=M.aB
 have a9:=yP (iH c.plain)
 refine Spec.body func14 rfl results14 ntmps14 rfl<|.sr ?_
 refine .cx rfl (λb1=>?_)
 refine .ag rfl<|.ag rfl ?_
 refine .bU (λb4=>?_)
 refine .ag rfl<|.ag rfl<|.z<|.fa rfl<|.q (.loadT rfl)<|.dh ((My c R I).weaken da) (λu Tc a=>?_)
 obtain⟨n,rfl,r,J⟩:=a
 have ic:cC n.enc:=⟨r.dg⟩
 have c7:One n.vs:=RS.aB r.ss
 have c8:One n.vc:=RS.aB r.sc
 refine .bU (λb7=>?_)
 refine .bP rfl rfl<|.z<|.q (.aT rfl)<|.dh ((Pz n _ r).weaken λb o j=>j.elim .inl λj=>.inr (by simp[j])) (λu Tn a=>?_)
 obtain⟨wn,d3,rfl,a7,c4⟩:=a
 rw[J]
 have c9:One wn:=a7.rs.aB
 refine .mo rfl<|.q .extract<|.q .extract<|.ag rfl<|.ag rfl<|.z<|.dh (yS _) (λu Th a=>?_)
 obtain⟨j,rfl,hH⟩:=a
 refine .dh (A5 _) (λu A a=>?_)
 obtain⟨g,rfl,v⟩:=a
 refine .q .cR ?_
 refine .cx rfl (λD=>?_)
 refine .ag rfl<|.ag rfl<|.ag rfl<|.zs<|.sr<|.mo rfl<|.q .dZ<|.mo rfl<|.split (t:=29) rfl (λk=>?_) (λk=>?_)
 have b9:((iH c.plain).numbers isWord dj).1≠0:=by simpa using k
 refine .gF k<|.gF k<|.gF k<|.gF k<|.q (.aU k)<|.zn<|.gM<|.seq<|.cS [4] mixed<|.tO 0 rfl (.aT rfl)<|.tK 1 rfl .move<|.tO 2 rfl .assign<|.tO 3 rfl .assign<|.sT 4 rfl<|.bP rfl rfl<|.nil<|Next.mod rfl<|.tK 5 rfl .assign<|.tK 6 rfl .assign<|RA.nil (by kernel_rfl)<|aw ?_
 refine .ret (aK (bj _ (.uk (.tmp rfl) (.tmp rfl) (.fE rfl rfl) (.tmp rfl) (.tmp rfl)) (.one [5] _) ?_))
 ·exact .inr ⟨_,n,_,rfl,rfl,r.mono λb o j=>j.elim .inl λj=>.inr (by simp[take,bM,j]),J,b9⟩
 have O:((iH c.plain).numbers isWord dj).1=0:=by simpa using k
 refine .gT k<|.mo rfl<|.gT k<|.q (.aT rfl)<|.gT k<|.tG (yN j [] 0 Th hH (by simp) 0 n _ (r.mono λb o j=>j.elim .inl λj=>.inr (by simp[j]))) (λu a1 a=>?_)
 rw[J,a9]at a
 obtain⟨rfl,a5,c0⟩:=a
 refine .gT k<|.q .dZ<|.q (.aR k)<|.zn<|.cond rfl (λL=>?_) λL=>?_
 refine .seq<|.cS [4] mixed<|.tO 0 rfl (.aT rfl)<|.tK 1 rfl .move<|.tO 2 rfl .assign<|.tO 3 rfl .assign<|.sT 4 rfl<|.bP rfl rfl<|.nil<|Next.mod rfl<|.tK 5 rfl .assign<|.tK 6 rfl .assign<|RA.nil (by kernel_rfl)<|aw ?_
 refine .ret (aK (bj _ (.uk (.tmp rfl) (.tmp rfl) (.fE rfl rfl) (.tmp rfl) (.tmp rfl)) (.one [5] _) ?_))
 ·exfalso
  rw[O]at L
  simp at L
 obtain⟨e,b6,b5,Y⟩:=a5 O
 rw[afF]at Y
 refine .kn<|.sr<|.fa rfl<|.lo rfl<|.dh (Mx _ a4 16 (by omega) _ R M.rx Z) (λu a0 a=>?_)
 obtain⟨F,l,b3,b2⟩:=a
 have c6:=l.aB
 have c3:F.length<=16:=by rw[b2];exact Nat.min_le_right _ _
 refine .ag rfl<|.zs<|.sr<|.az rfl<|.block<|.cF [(4,_),(7,_),(10,_),(11,_),(12,_),(13,_)] (X:=Nat×cX×ax×ax) (λy=>y.1<=F.length/\SI g y.2.1 y.2.2.1/\fY y.2.1/\DO D y.2.1 y.2.2.2/\y.2.1.rows.length<=32*y.1) (λy E=>(14,iN y.1)::E) (λy G=>a0::y.2.2.2::y.2.2.1::G) (λy=>F.length-y.1) (0,⟨[],0,0⟩,A,bl D [sZ,.int .u64 0,.int .u64 0] 103) ⟨afv _,v,fY.new,⟨_,[],[],rfl,OS.nil,RL.new⟩,by simp⟩ kE.c.c.c.c.c.c.c rH ?_
 rintro⟨i,S,A,K⟩ ⟨hi,v,p,H,b8⟩
 simp only at hi v p H b8⊢
 refine .seq<|.sr<|.mo rfl<|.mo rfl<|.q (.ep l)<|.q .lss<|.zn<|.cond rfl (λW=>?_) λW=>?_
 have N:i<F.length:=cy W
 obtain⟨d,m⟩:=bW N
 obtain⟨f,c1,c2,b0⟩:=b3 d (aW m)
 obtain⟨dk,U,V,Q,df,dr,B,C,s⟩:=d
 have c5:=RI p B C s
 have d0:One U:=RS.aB f.hm
 have d1:One V:=RS.aB f.hn
 have d2:One Q:=RS.aB f.hc
 refine .kn<|.seq<|.block<|.sr<|.mo rfl<|.mo rfl ?_
 refine .aL i l m (λd4=>?_)
 refine .fa rfl<|.lo rfl<|.q .bY<|.zn<|.cond rfl (λh3=>?_) λh3=>?_
 refine .seq<|.dm 16 mixed (by kernel_rfl) ?_
 conv=>arg 6;dsimp only[List.take]
 refine .mo rfl<|.mo rfl<|.mo rfl ?_
 refine .aL i l m (λd5=>?_)
 refine .fa rfl<|.lo rfl<|.mo rfl<|.mo rfl ?_
 refine .aL i l m (λd6=>?_)
 refine .fa rfl<|.lo rfl<|.mo rfl<|.mo rfl ?_
 refine .aL i l m (λd7=>?_)
 refine .fa rfl<|.lo rfl<|.nil<|.cr (BN g S A v p U V Q B C s _ f.hm f.hn f.hc f.fm f.fn f.fc) (λu a2 a=>?_)
 obtain⟨rfl,a8⟩:=a
 refine .zn<|.dm 16 mixed (by kernel_rfl) ?_
 conv=>arg 6;dsimp only[List.take]
 refine .mo rfl<|.mo rfl<|.mo rfl ?_
 refine .aL i l m (λd8=>?_)
 refine .fa rfl<|.lo rfl<|.mo rfl<|.mo rfl ?_
 refine .aL i l m (λd9=>?_)
 refine .fa rfl<|.lo rfl<|.mo rfl<|.mo rfl ?_
 refine .aL i l m (λe0=>?_)
 refine .fa rfl<|.lo rfl<|.nil<|.cr (PY D S K H p U V Q B C s _ f.hm f.hn f.hc f.fm f.fn f.fc (by have h9:s.length<=34:=b0;omega)) (λu a3 a=>?_)
 obtain⟨rfl,a6⟩:=a
 refine .nil<|aX<|aw<|.region<|.mo rfl<|.ia (i+1) .add<|.ag rfl<|.nil ?_
 ·exact bm (i+1,iC S B C s,a2,a3) ⟨N,a8,p.write B C s,a6,by simp only;omega⟩ (by simp only;omega) kE.c.c.c.c.c.c.c rH
 refine .skip<|aX<|aw<|.region<|.mo rfl<|.ia (i+1) .add<|.ag rfl<|.nil ?_
 ·exact bm (i+1,S,A,K) ⟨N,v,p,H,by simp only;omega⟩ (by simp only;omega) kE.c.c.c.c.c.c.c rH
 refine .exit<|bo<|bs<|bp<|aw<|.seq<|.cS [6] mixed<|.tO 0 rfl .move<|.tO 1 rfl .move<|.tO 2 rfl (.aT rfl)<|.tK 3 rfl .move<|.tO 4 rfl .assign<|.tO 5 rfl .assign<|.sT 6 rfl<|.bP rfl rfl<|.nil<|Next.mod rfl<|.tK 7 rfl .assign<|.tK 8 rfl .assign<|RA.nil (by kernel_rfl)<|aw ?_
 refine .ret (bj _ (.uk (.tmp rfl) (.tmp rfl) (.fE rfl rfl) (.tmp rfl) (.tmp rfl)) (aQ [6,3,2,1]) ?_)
 ·exact .inl ⟨Tc,a1,A,K,j,g,D,e,S,n,rfl,rfl,r,J,O,b6,b5,Y,v,p,H,by omega⟩
abbrev kF(n:Nat):Value:=iN n
def me(c:Cf)(num:List Nat):List (Ty×Nat):=(c.all.map fo).zip num
theorem Oq(c:Cf)(num:List Nat)(a:num.length=c.all.length)(t:Ty):(de t (me c num)).getD 0=match bR c.all t with|none=>0|some i=>num.getD i 0:=by
 unfold me bR
 generalize c.all=A at *
 induction A generalizing num with
 |nil=>simp[de]
 |cons x A ih=>
  cases num with
  |nil=>simp at a
  |cons n num=>
   have:=ih num (by simpa using a)
   rw[afS,List.zip_cons_cons,de,agh]
   by_cases e:t=fo x
   ·subst e;simp
   ·rw[afw e,this]
    have b:decide (fo x=t)=false:=af5 λh=>e h.symm
    rw[b]
    cases List.findIdx? (λx=>decide (fo x=t)) A with
    |none=>rfl
    |some i=>rfl
theorem uT(c:bJ)(R:ay)(h:c.is R)(hu:c.plain.dR)(w:Value)(J:List fW)(num:List Nat)(M:NN R w J)(a6:J.map (·.2)=rows c.plain.bg num)(O:num.length=c.plain.all.length):
  Spec prog 81 [.agg c.enc.toArray,w] R [] λu H'=>∃T,H'=[T]/\MS ma kF u (me c.plain num) T:=by
 have I:=h.ss
 have c1:=I.le
 have a2:=h.all
 have a8:=M.rs
 have a7:=M.all
 have b5:=pQ c.plain
 have b4:c.plain.bg.length=c.bg.length:=by unfold bJ.plain;simp
 have W:∀(i:Nat) (s:cq),c.bg[i]? =some s->c.plain.bg[i]? =some s.plain:=λi s d=>pa d
 have b6:=λ(p:gw) (s:cq) (r:cb)=>o5 (c:=c) (p:=p) (s:=s) (r:=r)
 have a4:∀i k,c.ix (i,k)=cJ c.plain.bg i+k:=λ_ _=>rfl
 have b8:(c.plain.all.map fo).Nodup:=hu.2.1
 have C:me c.plain num=(c.plain.all.map fo).zip num:=rfl
 generalize hA:c.plain.all=A at *
 generalize hQ:me c.plain num=Q at *
 have a1:Q.length=A.length:=by rw[C];simp[O]
 have a0:Q.map (·.1)=A.map fo:=by rw[C];exact List.map_fst_zip (by simp[O])
 have b3:∀i s,c.bg[i]? =some s->∃v,J[i]? =some (v,(num.drop (cJ c.plain.bg i)).take s.bN.length):=λi s d=>by
  have f:=po (n:=num) (W i s d)
  rw[<-a6,afJ,show s.plain.bN.length=s.bN.length by simp[cq.plain]]at f
  obtain⟨⟨v,r⟩,g,K⟩:=Option.map_eq_some_iff.1 f
  exact⟨v,by rw[g];simp only at K;rw[K]⟩
 generalize o:cJ c.plain.bg=of at *
 have a9:of 0=0:=by rw[<-o];cases c.plain.bg<;>rfl
 refine Spec.body func81 rfl results81 ntmps81 rfl<|.sr ?_
 refine .cx rfl (λb2=>?_)
 refine .ag rfl<|.z ?_
 refine .makeMap (λm=>?_)
 refine .ag rfl<|.zs<|.sr<|.fa rfl<|.lo rfl<|.q (.bO I)<|.mo rfl<|.zn<|.block<|.cF [(1,_),(5,_),(12,_),(13,_)] (X:=Nat×ax) (λy=>y.1<=c.bg.length/\MS ma kF (.map (some m)) (Q.take (of y.1)) y.2) (λy E=>(14,iN y.1)::E) (λy G=>y.2::G) (λy=>c.bg.length-y.1) (0,[(m,.map #[] 0)]) ⟨afv _,by rw[a9];exact MS.nil⟩ kE.c.c.c.c.c rH ?_
 rintro⟨i,T⟩ ⟨hi,b⟩
 simp only at hi b⊢
 refine .sr<|.q .lss<|.zs<|.cond rfl (λf=>?_) λf=>?_
 have S:i<c.bg.length:=cy f
 obtain⟨⟨j,l,a⟩,d⟩:=bW S
 have H:=a2 _ (aW d)
 have F:RS R 3 cb.enc l a:=H.rs
 have c2:=F.le
 have c4:cC (cq.enc ⟨j,l,a⟩):=⟨H.dg⟩
 have V:=o7 (W i _ d)
 rw[o,show(cq.plain ⟨j,l,a⟩).bN.length=a.length by simp[cq.plain]]at V
 obtain⟨vr,B⟩:=b3 i _ d
 simp only at B
 have Y:=a7 _ (aW B)
 simp only at Y
 refine .kn<|.seq<|.block<|.sr<|.mo rfl ?_
 refine .bG i I d (λc5=>?_)
 refine .q (.aT rfl) ?_
 refine .bU (λb7=>?_)
 refine .ag rfl<|.bP rfl rfl<|.z<|.fa rfl<|.lo rfl<|.q (.bO F)<|.mo rfl<|.zn<|.block<|.cF [(1,_),(5,_),(6,_),(7,_),(12,_),(13,_),(14,_),(20,_),(21,_)] (X:=Nat×ax) (λy=>y.1<=a.length/\MS ma kF (.map (some m)) (Q.take (of i+y.1)) y.2) (λy E=>(22,iN y.1)::E) (G:=[bl b2 c.enc 25]) (λy G=>bl b7 (cq.enc ⟨j,l,a⟩) 164::y.2::G) (λy=>a.length-y.1) (0,T) ⟨afv _,b⟩ kE.c.c.c.c.c.c.c.c.c.c rH ?_
 rintro⟨k,T⟩ ⟨hk,b⟩
 simp only at hk b⊢
 refine .sr<|.q .lss<|.zs<|.cond rfl (λg=>?_) λg=>?_
 have x:k<a.length:=cy g
 obtain⟨⟨vt,vn,r⟩,D⟩:=bW x
 have b0:=H.all _ (aW D)
 have c3:cC (cb.enc ⟨vt,vn,r⟩):=⟨b0.dg⟩
 have t:=b6 (i,k) _ _ d D
 rw[a4]at t
 have c0:of i+k<A.length:=(afM.1 t).1
 obtain⟨n,U⟩:∃n,num[of i+k]? =some n:=⟨_,aV (by omega)⟩
 have b1:((num.drop (of i)).take a.length)[k]? =some n:=by rw[List.getElem?_take_of_lt x,List.getElem?_drop];exact U
 have N:Q[of i+k]? =some (⟨j,r.name⟩,n):=by
  rw[C,List.getElem?_zip_eq_some]
  exact⟨by rw[afJ,t];rfl,U⟩
 refine .kn<|.seq<|.block<|.sr<|.mo rfl ?_
 refine .bG k F D (λc6=>?_)
 refine .q (.aT rfl) ?_
 refine .bU (λb9=>?_)
 refine .ag rfl<|.bP rfl rfl<|.zn<|.dm 13 mixed (by kernel_rfl) ?_
 conv=>arg 6;dsimp only[List.take]
 refine .mo rfl<|.fa rfl<|.lo rfl<|.fa rfl<|.lo rfl ?_
 refine .q .cR ?_
 refine .mo rfl<|.mo rfl ?_
 refine .bG i a8 B (λc7=>?_)
 refine .lo rfl<|.mo rfl ?_
 refine .bG k Y b1 (λc8=>?_)
 refine .lo rfl<|.nil<|.update (key:=(⟨j,r.name⟩:Ty)) (u:=n) b rfl rfl rfl (λZ L _=>?_)
 rw[mD (λhm=>by
  obtain⟨q,hq,e⟩:=age.1 hm
  rw[afy,afG]at hq
  rw[agf,List.getElem_take]at e
  have f:(Q.map (·.1))[of i+k]? =some ⟨j,r.name⟩:=by rw[afJ,N];rfl
  have g:(Q.map (·.1))[q]? =some ⟨j,r.name⟩:=by rw[afJ,aV (by omega),Option.map_some,e]
  exact oc (show q<of i+k by omega) f g rfl (by rw[a0];exact b8)), <-ec N]at L
 refine .nil<|aX<|aw<|.region<|.ia (k+1) .add<|.mo rfl<|.nil ?_
 ·exact bm (k+1,Z) ⟨x,L⟩ (by simp only;omega) kE.c.c.c.c.c.c.c.c.c.c (aQ [1,1,1])
 have a5:k=a.length:=by have:=bF g;omega
 rw[a5, <-V]at b
 refine .exit<|bo<|bs<|bp<|aX<|aw<|.region<|.ia (i+1) .add<|.mo rfl<|.nil ?_
 ·exact bm (i+1,T) ⟨S,b⟩ (by simp only;omega) kE.c.c.c.c.c (aQ [1,1])
 refine .exit<|bo<|bs<|bp<|aw<|.sr<|.mo rfl<|.az rfl<|.ret (bj _ (.one (.tmp rfl)) (.one [0] _) ?_)
 ·refine⟨_,rfl,?_⟩
  have a3:i=c.bg.length:=by have:=bF f;omega
  have:of i=Q.length:=by
   rw[a3,a1, <-b4, <-o];exact b5
  rw[this,afE]at b
  simpa[take]using b
structure aZ where
 k:bc
 found:Bool
 vn:Value
 nodes:List Nd
 vu:Value
 fU:List ByteArray
 vl:Value
 ll:List fW
 number:Nat
def aZ.enc(p:aZ):List Value:=[.string p.k.os,.string p.k.oi,.string p.k.rel,.bool p.found,p.vn,p.vu,p.vl,iN p.number]
def aZ.plain(p:aZ):bI:=⟨p.k,p.found,p.nodes,p.number,p.fU,p.ll.map (·.2)⟩
structure aZ.is(R:ay)(p:aZ):Prop where
 n:RS R 5 Nd.enc p.vn p.nodes
 u:RS R 1 cG p.vu p.fU
 l:NN R p.vl p.ll
theorem aZ.is.mono{R R':ay}{p:aZ}(h:p.is R)(a:∀b o,R b o->R' b o):p.is R':=⟨h.n.mono a,h.u.mono a,h.l.mono a⟩
theorem aZ.is.dg{R:ay}{p:aZ}(h:p.is R):∀u∈p.enc,aB u=true:=by
 have b:=h.n.aB
 have c:=h.u.aB
 have d:=h.l.rs.aB
 intro u a
 simp only[aZ.enc,afN,afQ,afR]at a
 rcases a with rfl|rfl|rfl|rfl|rfl|rfl|rfl|rfl
 ·rfl
 ·rfl
 ·rfl
 ·rfl
 ·exact b.h
 ·exact c.h
 ·exact d.h
 ·rfl
instance bc.R2:fw prog 269 (λk:bc=>.agg k.enc.toArray):=fw.agg yb underlying269 rfl bc.kinds bc.eq
abbrev ze(k:bc):Value:=.agg k.enc.toArray
structure XC where
 c:bJ
 num:List Nat
 vn:Value
 g:Nat
 S:cX
 L:List bC
 rev:Int
 b:Int
def XC.sub(x:XC)(k:bc):List Sub:=if scan x.S x.rev then(x.L.filter λy=>y.there x.rev&&decide (y.t.db=k)).map (·.t.sub)else []
structure XC.ok(R:ay)(x:XC):Prop where
 c:x.c.is R
 n:RM R ma kF x.vn (me x.c.plain x.num)
 nl:x.num.length=x.c.plain.all.length
 s:∃ps vf vr Mf Mr,SV R x.g x.S ps vf vr Mf Mr
 l:RL x.S x.L
 len:x.S.rows.length<=1000
theorem XC.ok.mono{R R':ay}{x:XC}(h:x.ok R)(a:∀b o,R b o->R' b o):x.ok R':=⟨h.c.mono a,h.n.mono a,h.nl,let ⟨ps,vf,vr,Mf,Mr,h1⟩:=h.s;⟨ps,vf,vr,Mf,Mr,h1.mono a⟩,h.l,h.len⟩
def XC.cells(x:XC)(va vp:Value)(e:Nat):List Value:=[x.c.vs,x.c.vc,x.vn,.pointer (some ⟨x.g,0,none⟩),.int .u64 x.rev,va,vp,iN e,.int .i64 x.b]
abbrev XC.iG(x:XC)(xb:Nat)(va vp:Value)(e:Nat):ax:=(bl xb (x.cells va vp e) 190)
def iQ(ps:List aZ)(va:Value)(T:ax):Prop:=∃M,MS ze kF va M T/\∀k,de k M=im (ps.map aZ.plain) k
theorem OJ(x:XC)(R:ay)(h:x.ok R)(xb:Nat)(va a:Value)(e:Nat)(ps:List aZ) [g:One va] [pc:PC R (pT xb) (x.cells va a e)](c:RS R 8 aZ.enc a ps)(f:e<=1000000000000)(d:0<=x.b/\x.b<=9223372036854775807):
  Spec prog 84 [pT xb] R [] λu H'=>u=.bool (decide (x.b<(ps.length+e:Nat)))/\H'=[]:=by
 refine Spec.body func84 rfl results84 ntmps84 rfl<|.sr<|.ag rfl<|.zs<|.gd mixed (by kernel_rfl)<|.mo rfl<|.nc rfl<|.fa rfl<|.fa rfl<|.lo rfl<|.q (.bO c) ?_
 refine .mo rfl<|.nc rfl<|.fa rfl<|.lo rfl<|.mo rfl ?_
 refine .nc rfl<|.fa rfl<|.fa rfl<|.lo rfl ?_
 refine .q (.i64 (x.b-e) .sub ⟨by omega,by omega,by omega⟩) ?_
 refine .q .gtr<|.az rfl<|.ret (aN rfl ?_)
 ·refine⟨afD _ ?_,rfl⟩
  rw[decide_eq_decide]
  omega
theorem OO{ps:List bI}{p:bI}(h:im ps p.k=none)(k:bc):im (ps++[p]) k=if k=p.k then some ps.length else im ps k:=by
 unfold im at h⊢
 rw[List.findIdx?_append]
 by_cases e:k=p.k
 ·subst e
  rw[h,afx rfl]
  simp[agh]
 ·rw[afw e]
  have a:decide (p.k=k)=false:=af5 λh=>e h.symm
  simp[agh,a]
theorem iQ.add{ps:List aZ}{p:aZ}{va:Value}{T:ax}{M:List (bc×Nat)}(b:MS ze kF va (dH p.k ps.length M) T)(a:∀k,de k M=im (ps.map aZ.plain) k)(h:im (ps.map aZ.plain) p.k=none):iQ (ps++[p]) va T:=
 ⟨_,b,λk=>by
  rw[oZ,a,afz,afS,afW,OO h]
  rw[afy]
  rfl⟩
def wC(x:XC)(R:ay)(xb:Nat)(ps:List aZ)(e:Nat)(va:Value)(k:bc)(u:Value)(H':aP):Prop:=∃ps' vp Ta To,H'=[x.iG xb va vp e,Ta,To]/\u=.int .i64 ((fg x.c.plain x.num (ps.map aZ.plain) k).2:Nat)/\ps'.map aZ.plain=(fg x.c.plain x.num (ps.map aZ.plain) k).1/\iQ ps' va Ta/\OS 95 8 aZ.enc vp ps' To/\∃l,ps'=ps++l/\∀p∈l,p.is R
theorem Aj(x:XC)(R:ay)(h:x.ok R)(xb:Nat)(ps:List aZ)(e:Nat)(va t:Value)(g m:ax)(hA:iQ ps va g)(L:OS 95 8 aZ.enc t ps m)(hl:ps.length<=3000000)(k:bc):
  Spec prog 83 [pT xb,.agg [.string k.os,.string k.oi].toArray,.string k.rel] R [x.iG xb va t e,g,m] (wC x R xb ps e va k):=by
 have U:∀u D,wC x R xb ps e va k u D↔∃ps' t g m,D=[x.iG xb va t e,g,m]/\u=.int .i64 ((fg x.c.plain x.num (ps.map aZ.plain) k).2:Nat)/\ps'.map aZ.plain=(fg x.c.plain x.num (ps.map aZ.plain) k).1/\iQ ps' va g/\OS 95 8 aZ.enc t ps' m/\∃l,ps'=ps++l/\∀p∈l,p.is R:=λ_ _=>Iff.rfl
 have a1:=A2 x.c R h.c k.os k.rel
 have hn:=h.n
 have a8:=Oq x.c.plain x.num h.nl
 obtain⟨M,J,K⟩:=hA
 have a5:∀i,im (ps.map aZ.plain) k=some i->fg x.c.plain x.num (ps.map aZ.plain) k=(ps.map aZ.plain,i):=λi O=>by unfold fg;rw[O]
 have a6:im (ps.map aZ.plain) k=none->fg x.c.plain x.num (ps.map aZ.plain) k=(ps.map aZ.plain++[one x.c.plain x.num k],ps.length):=λO=>by unfold fg;rw[O];simp
 have a4:=λ(p:aZ) (T:ax)=>iQ.add (ps:=ps) (p:=p) (va:=va) (T:=T) (M:=M)
 have b1:one x.c.plain x.num k=match bR x.c.plain.all ⟨k.os,k.rel⟩with
  |none=>⟨k,false,[],0,[],[]⟩
  |some i=>⟨k,true,(x.c.plain.all.map (·.2.nodes)).getD i [],x.num.getD i 0,[],[]⟩:=rfl
 have N:=h.c.all
 have b5:=λ(p:gw) (s:cq) (r:cb)=>o5 (c:=x.c) (p:=p) (s:=s) (r:=r)
 obtain⟨i0,ok,b3,Z⟩:∃(i:Nat) (ok:Bool),[((de k M).map kF).getD (kF 0),Value.bool (de k M).isSome]=[kF i,.bool ok]/\im (ps.map aZ.plain) k=if ok then some i else none:=by
  rw[K k]
  cases im (ps.map aZ.plain) k with
  |none=>exact⟨0,false,rfl,rfl⟩
  |some i=>exact⟨i,true,rfl,rfl⟩
 refine Spec.body func83 rfl results83 ntmps83 rfl<|.sr ?_
 refine .cx rfl (λb4=>?_)
 refine .ag rfl<|.z<|.q (.aT rfl)<|.mo rfl<|.q .cR ?_
 refine .bU (λb7=>?_)
 refine .bP rfl rfl<|.zs<|.seq<|.gd mixed (by kernel_rfl)<|.mo rfl<|.nc rfl<|.fa rfl<|.lo rfl<|.q (.aT rfl)<|.q (.cast (.oX J.rx rfl rfl) (afD (λl:List Value=>Value.tuple l.toArray) b3))<|.mo rfl<|.q .extract<|.q .extract<|.ag rfl<|.ag rfl<|.z<|.mo rfl<|.zn<|.cond rfl (λI=>?_) λI=>?_
 have b2:ok=true:=I
 subst b2
 have V:=a5 i0 Z
 refine .sr<|.mo rfl<|.az rfl<|.ret (aK (bj _ (.one (.tmp rfl)) (aQ [2,2,2]) ?_))
 ·refine(U _ _).2 ⟨ps,t,g,m,?_,?_,?_,⟨M,J,K⟩,L,[],by simp,λp G=>(by cases G)⟩
  ·simp[take,bM]
  ·rw[V]
  ·rw[V]
 have b0:ok=false:=I
 subst b0
 have Y:im (ps.map aZ.plain) k=none:=Z
 have W:=a6 Y
 refine .kn<|.seq ?_
 refine bx.cZ [(0,_),(2,_),(4,_),(7,_)] kE.c.c.c.c (X:=Nat×cb×Bool) (λy=>mV x.c ⟨k.os,k.rel⟩ y.2.1 y.2.2/\cC y.2.1.enc) (λy E=>(10,.pointer (some ⟨y.1,0,none⟩))::(11,.bool y.2.2)::E) (λy=>[[(y.1,.cells y.2.1.enc.toArray 167 (0,0))],bl b7 k.enc 269,bl b4 [.string k.os,.string k.oi] 44,x.iG xb va t e,g,m]) ?_ ?_
 refine .cS [12] mixed<|.tO 0 rfl .move<|.tO 1 rfl (.nilCheck rfl)<|.tO 2 rfl (.fieldAddr rfl) ?_
 refine .tO 3 rfl (.loadT rfl) ?_
 refine .tO 4 rfl (.fieldAddr rfl)<|.tO 5 rfl (.cm rfl)<|.tO 6 rfl .move<|RA.jH 7 11 rfl rfl (by kernel_rfl) rfl ?_ ?_
 refine .ba ((a1.mono λu D f=>⟨f.2,f.1⟩).weaken da) (λu f=>?_)
 obtain⟨r,v,rfl,a⟩:=f
 have B:cC r.enc:=by
  unfold mV at a
  cases hf:bR x.c.plain.all ⟨k.os,k.rel⟩with
  |none=>rw[hf]at a;obtain⟨_,rfl⟩:=a;exact⟨by simp[cb.enc,cb.zero,aB]⟩
  |some j=>rw[hf]at a;obtain⟨_,p,s,A,w,Q⟩:=a;exact⟨((N _ (aW A)).all _ (aW w)).dg⟩
 refine .nil<|Next.sub<|.tO 8 rfl .move<|.tO 9 rfl .extract<|.tK 10 rfl .extract<|.sT 11 rfl ?_
 refine .bU (λH=>?_)
 refine .nil<|Next.sub<|.sT 12 rfl<|.bP rfl rfl<|.nil<|Next.mod rfl<|.tK 13 rfl .assign<|RA.nil (by kernel_rfl) ?_
 ·exact aG (H,r,v) ⟨a,B⟩ kE.c.c.c.c.c.c rH
 refine .bU (λH=>?_)
 refine .nil<|Next.sub<|.sT 7 rfl<|.ba ((a1.mono λu D f=>⟨f.2,f.1⟩).weaken da) (λu f=>?_)
 obtain⟨r,v,rfl,a⟩:=f
 have B:cC r.enc:=by
  unfold mV at a
  cases hf:bR x.c.plain.all ⟨k.os,k.rel⟩with
  |none=>rw[hf]at a;obtain⟨_,rfl⟩:=a;exact⟨by simp[cb.enc,cb.zero,aB]⟩
  |some j=>rw[hf]at a;obtain⟨_,p,s,A,w,Q⟩:=a;exact⟨((N _ (aW A)).all _ (aW w)).dg⟩
 refine .nil<|Next.sub<|.tO 8 rfl .move<|.tO 9 rfl .extract<|.tK 10 rfl .extract<|.sT 12 rfl<|.bP rfl rfl<|.nil<|Next.mod rfl<|.tK 13 rfl .assign<|RA.nil (by kernel_rfl) ?_
 ·exact aG (H,r,v) ⟨a,B⟩ kE.c.c.c.c.c.c rH
 intro y hy
 obtain⟨bb,r,v⟩:=y
 obtain⟨a,B⟩:=hy
 simp only at a B⊢
 obtain⟨C,a9,a7⟩:∃C,(de (⟨k.os,k.rel⟩:Ty) (me x.c.plain x.num)).getD 0=C/\((de (⟨k.os,k.rel⟩:Ty) (me x.c.plain x.num)).map kF).getD (kF 0)=kF C:=by
  cases de (⟨k.os,k.rel⟩:Ty) (me x.c.plain x.num)with
  |none=>exact⟨0,rfl,rfl⟩
  |some i=>exact⟨i,rfl,rfl⟩
 obtain⟨a0,F⟩:one x.c.plain x.num k=⟨k,v,r.r.nodes,C,[],[]⟩/\RS R 5 Nd.enc r.vn r.r.nodes:=by
  rw[b1, <-a9,a8]
  unfold mV at a
  cases hf:bR x.c.plain.all ⟨k.os,k.rel⟩with
  |none=>rw[hf]at a;obtain⟨rfl,rfl⟩:=a;exact⟨rfl,RS.jr⟩
  |some j=>
   rw[hf]at a
   obtain⟨rfl,p,s,A,w,Q⟩:=a
   refine⟨?_,((N _ (aW A)).all _ (aW w)).d⟩
   have:=b5 p s r A w
   rw[Q]at this
   simp only[af1,afJ,this]
   rfl
 obtain⟨vt,vd,r⟩:=r
 simp only at a0 F
 have b8:One vd:=F.aB
 obtain⟨pd,cd,rfl⟩:=F.val
 refine aw<|.seq<|.dm 11 mixed (by kernel_rfl) ?_
 conv=>arg 6;dsimp only[List.take]
 refine .mo rfl<|.nc rfl<|.fa rfl<|.lo rfl<|.q (.aT rfl)<|.mo rfl<|.nc rfl<|.fa rfl<|.fa rfl<|.lo rfl<|.q (.ep L)<|.nil ?_
 refine .update (key:=k) (u:=ps.length) J rfl rfl rfl (λa3 S _=>?_)
 refine .zs<|.cS [22,26] mixed<|.tK 0 rfl .move<|.tO 1 rfl .move<|.tO 2 rfl (.nilCheck rfl)<|.tO 3 rfl (.fieldAddr rfl)<|.tO 4 rfl (.fieldAddr rfl)<|.tO 5 rfl (.cm rfl)<|.tO 6 rfl (.aT rfl)<|.tO 7 rfl .move<|.tO 8 rfl .move<|.tO 9 rfl (.fieldAddr rfl)<|.tO 10 rfl (.cm rfl)<|.tO 11 rfl .move<|.tO 12 rfl (.nilCheck rfl)<|.tO 13 rfl (.fieldAddr rfl)<|.tO 14 rfl (.cm rfl)<|.tO 15 rfl (.fieldAddr rfl)<|.tO 16 rfl (.cm rfl)<|.tO 17 rfl .move<|.tO 18 rfl .cR<|.fM 19 rfl (.n3 (hn.mono λb o hb=>.inl hb) rfl rfl (key:=(⟨k.os,k.rel⟩:Ty)) a7) (by kernel_rfl)<|.tO 20 rfl .cR<|.sT 21 rfl ?_
 refine .dY (λb6=>?_)
 refine .nil<|Next.sub<|.sT 22 rfl<|.append L (RS.lits (xs:=[(⟨k,v,.slice pd r.nodes.length cd,r.nodes,sZ,[],sZ,[],C⟩:aZ)]) rfl (by simp[aZ.enc]) (by simp[aZ.enc,aB])) (by simp only[afB];omega) (λv5 T5 a2=>?_)
 have i5:=a2.aB
 refine .nil<|Next.mod rfl<|.tK 23 rfl (.lG rfl)<|.tK 24 rfl (.fG rfl)<|.tK 25 rfl (.fG rfl)<|.sT 26 rfl<|.dz rfl rfl<|.nil<|Next.mod rfl<|RA.nil (by kernel_rfl)<|aw<|.seq<|.gd mixed (by kernel_rfl)<|.mo rfl<|.nc rfl<|.fa rfl<|.lo rfl<|.q (.aT rfl)<|.q (.n3 S.rx rfl rfl (key:=k) rfl)<|.az rfl<|.ret (bj _ (.one (.tmp rfl)) (aQ [4,4,4]) ?_)
 ·refine(U _ _).2 ⟨_,v5,a3,T5,?_,?_,?_,a4 _ _ S K Y,a2,_,rfl,λp G=>?_⟩
  ·simp[take,bM,dl,XC.cells]
  ·rw[W,oZ,afx rfl];rfl
  ·rw[W,a0,afz];rfl
  ·rw[afA]at G
   subst G
   exact⟨F,RS.jr,NN.nil⟩
theorem Rq{a:cg}(h:∀t∈a.1,gh t):kS isWord a=match dw pM a with
  |none=>([],a)
  |some s=>([(gR isWord s).1],(gR isWord s).2):=by
 unfold kS
 cases hh:dw pM a with
 |none=>rfl
 |some s=>
  simp only
  rw[qD,oC (λt b=>h t ((jc hh).1.mem ((uD s).mem b))) (by simp)]
theorem Ol{a:cg}(h:∀t∈a.1,gh t):mG isWord a=match dw pN a with
  |none=>([⟨1,⟨#[]⟩,⟨#[]⟩,0,0⟩],a)
  |some s=>fF [] s:=by
 unfold mG
 cases hh:dw pN a with
 |none=>rfl
 |some s=>
  simp only
  rw[Db (λt b=>h t ((jc hh).1.mem b))]
theorem NU{s:ByteArray}{a:cg}(h:∀t∈a.1,gh t):∀t∈(gn s a).1,gh t:=λt b=>h t ((n8 s a).mem b)
theorem Nn{a:cg}(h:∀t∈a.1,gh t):(gR isWord a).1.fits:=by
 unfold gR
 split
 ·exact⟨afv _,afv _⟩
 ·exact⟨qH h,qH (NU λt b=>h t ((lg a).mem b))⟩
theorem Mh{b:cg}(h:∀t∈b.1,gh t):∀x∈(fF [] b).1,x.fits:=by
 unfold fF
 split
 ·intro x a
  rw[afF,afA]at a
  subst a
  exact⟨afv _,afv _⟩
 ·intro x a
  rw[afF,afA]at a
  subst a
  exact⟨qH h,afv _⟩
section
variable{R:ay}
theorem Av(e:Nat)(g:cg)(T:ax)(N:dN R e g T):Spec prog 204 [pT e] R [T] λu H'=>∃T' Tn,H'=[T',Tn]/\∃r:cb,u=.agg r.enc.toArray/\r.is (sg Tn)/\r.r=(mH isWord g).1/\dN R e (mH isWord g).2 T':=by
 have a4:mH isWord g=(⟨(dy isWord g).1,(kS isWord (dy isWord g).2).1,(mG isWord (kS isWord (dy isWord g).2).2).1⟩,gn v8 (mG isWord (kS isWord (dy isWord g).2).2).2):=rfl
 have V:=qH (W:=isWord) N.ok
 have H:∀t∈(dy isWord g).2.1,gh t:=λt k=>N.ok t ((lg g).mem k)
 have n:=Rq H
 have B:∀t∈(kS isWord (dy isWord g).2).2.1,gh t:=λt k=>H t ((Bz _).mem k)
 have j:=Ol B
 rw[a4]
 clear a4
 obtain⟨ws,a7⟩:∃ws,ws=dy isWord g:=⟨_,rfl⟩
 have U:=qI e g T R N
 rw[<-a7]at V H n B j U⊢
 clear a7
 obtain⟨J,K⟩:=ws
 simp only at V H n B j U⊢
 obtain⟨tt,a6⟩:∃tt,tt=kS isWord K:=⟨_,rfl⟩
 rw[<-a6]at n B j⊢
 clear a6
 obtain⟨a0,C⟩:=tt
 simp only at B j⊢
 obtain⟨nn,a3⟩:∃nn,nn=mG isWord C:=⟨_,rfl⟩
 rw[<-a3]at j⊢
 clear a3
 obtain⟨I,s3⟩:=nn
 simp only
 refine Spec.body func204 rfl results204 ntmps204 rfl<|.sr ?_
 refine .bU (λL=>?_)
 refine .z<|.mo rfl<|.cr (R:=R) U (λu T1 f=>?_)
 obtain⟨rfl,a8⟩:=f
 refine .q .cR ?_
 refine .dY (λA=>?_)
 refine .q .cR ?_
 refine .bU (λM=>?_)
 refine .bP rfl rfl<|.zs<|.sr<|.mo rfl<|.cr (R:=R) (nB e K _ R a8 pM) (λu T2 f=>?_)
 obtain⟨rfl,i⟩:=f
 refine .zn ?_
 refine bx.cZ [(0,_),(2,_),(3,_)] kE.c.c.c (X:=Value×ax×ax) (λy=>OS 249 2 Ty.enc y.1 a0 y.2.1/\dN R e C y.2.2/\∀t∈a0,t.fits) (λ_ E=>E) (λy=>[y.2.2,y.2.1,bl M [.string J,y.1,.slice (some ⟨A,0,none⟩) 1 1] 167,bl A (Nd.enc ⟨1,⟨#[]⟩,⟨#[]⟩,0,0⟩) 199,bl L [.string ⟨#[]⟩,sZ,sZ] 167]) ?_ ?_
 refine .cond rfl (λD=>?_) λD=>?_
 obtain⟨s,p⟩:=af7.1 D
 rw[p]at i n
 simp only[af8,Prod.mk.injEq]at i n
 obtain⟨rfl,rfl⟩:=n
 have b4:=Nn i.ok
 refine bx.le (dB.refl _) bz.fH<|.seq ?_
 refine bx.cZ [(0,_),(2,_),(3,_)] kE.c.c.c (X:=Value×ax×ax) (λy=>OS 249 2 Ty.enc y.1 [(gR isWord s).1] y.2.1/\dN R e (gR isWord s).2 y.2.2) (λ_ E=>E) (λy=>[y.2.2,y.2.1,bl M [.string J,y.1,.slice (some ⟨A,0,none⟩) 1 1] 167,bl A (Nd.enc ⟨1,⟨#[]⟩,⟨#[]⟩,0,0⟩) 199,bl L [.string ⟨#[]⟩,sZ,sZ] 167]) ?_ ?_
 refine .cS [3,5,7] mixed<|.tK 0 rfl (.fG rfl)<|.tO 2 rfl .move<|RA.jH 1 3 rfl rfl (by kernel_rfl) rfl ?_ ?_
 refine .lo rfl<|.nil<|Next.sub<|.sT 3 rfl<|.cr (R:=R) (zi e s _ i) (λu l f=>?_)
 obtain⟨rfl,a⟩:=f
 refine .nil<|Next.mod rfl<|.sT 4 rfl ?_
 refine .dY (λa1=>?_)
 refine .nil<|Next.mod rfl<|.sT 5 rfl<|.append (OS.nil (E:=249) (sz:=2) (enc:=Ty.enc)) (RS.lits (xs:=[(gR isWord s).1]) rfl (by simp[Ty.enc]) (by simp[Ty.enc,aB])) (by simp only[afB,afY];omega) (λv m h=>?_)
 have Z:=h.aB
 refine .nil<|Next.mod rfl<|.tK 6 rfl (.fG rfl)<|.sT 7 rfl<|.dz rfl rfl<|.nil<|Next.mod rfl<|RA.nil (by kernel_rfl) ?_
 ·exact aG (v,m,l) ⟨h,a⟩ kE.c.c.c (aQ [5,1,1,1,1])
 refine .cr (R:=R) (zi e s _ i) (λu l f=>?_)
 obtain⟨rfl,a⟩:=f
 refine .nil<|Next.mod rfl<|RA.jH 1 4 rfl rfl (by kernel_rfl) rfl ?_ ?_
 refine .lo rfl<|.nil<|Next.mod rfl<|.sT 4 rfl ?_
 refine .dY (λa1=>?_)
 refine .nil<|Next.mod rfl<|.sT 5 rfl<|.append (OS.nil (E:=249) (sz:=2) (enc:=Ty.enc)) (RS.lits (xs:=[(gR isWord s).1]) rfl (by simp[Ty.enc]) (by simp[Ty.enc,aB])) (by simp only[afB,afY];omega) (λv m h=>?_)
 have Z:=h.aB
 refine .nil<|Next.mod rfl<|.tK 6 rfl (.fG rfl)<|.sT 7 rfl<|.dz rfl rfl<|.nil<|Next.mod rfl<|RA.nil (by kernel_rfl) ?_
 ·exact aG (v,m,l) ⟨h,a⟩ kE.c.c.c (aQ [5,1,1,1,1])
 refine .dY (λa1=>?_)
 refine .nil<|Next.mod rfl<|.sT 1 rfl<|.lo rfl<|.nil<|Next.mod rfl<|.sT 5 rfl<|.append (OS.nil (E:=249) (sz:=2) (enc:=Ty.enc)) (RS.lits (xs:=[(gR isWord s).1]) rfl (by simp[Ty.enc]) (by simp[Ty.enc,aB])) (by simp only[afB,afY];omega) (λv m h=>?_)
 have Z:=h.aB
 refine .nil<|Next.mod rfl<|.tK 6 rfl (.fG rfl)<|.sT 7 rfl<|.dz rfl rfl<|.nil<|Next.mod rfl<|RA.nil (by kernel_rfl) ?_
 ·exact aG (v,m,l) ⟨h,a⟩ kE.c.c.c (aQ [5,1,1,1,1])
 intro y hy
 obtain⟨v,m,l⟩:=y
 obtain⟨h,a⟩:=hy
 simp only at h a⊢
 have Z:=h.aB
 refine aw<|.block<|.cF [(0,_),(2,_),(3,_)] (X:=ax) (λT=>dN R e (gR isWord s).2 T) (λ_ E=>E) (λT G=>T::G) (λ_=>0) l a kE.c.c.c rH ?_
 rintro T4 O
 refine .seq<|.sr<|.mo rfl<|.cr (R:=R) (oz e _ _ O ou (by simp)) (λu T6 f=>?_)
 obtain⟨rfl,b0⟩:=f
 refine .zn<|.cU<|.exit<|bo<|bs<|bp ?_
 ·exact aG (v,m,T6) ⟨h,b0,λt k=>by rw[afA]at k;subst k;exact b4⟩ kE.c.c.c rH
 have p:dw pM K=none:=by
  cases hh:dw pM K with
  |none=>rfl
  |some x=>rw[hh]at D;cases D
 rw[p]at i n
 simp only[af2,Prod.mk.injEq]at i n
 obtain⟨rfl,rfl⟩:=n
 refine .skip ?_
 ·exact aG (sZ,[],T2) ⟨OS.nil,i,λt k=>(by cases k)⟩ kE.c.c.c (bz.fH.trans (aQ [4,0,0,0,0]))
 intro x Y
 obtain⟨vt,Tt,T2⟩:=x
 obtain⟨Q,i,a5⟩:=Y
 simp only at Q i a5⊢
 have it:=Q.aB
 refine aw<|.seq<|.sr<|.mo rfl<|.cr (R:=R) (nB e C _ R i pN) (λu l f=>?_)
 obtain⟨rfl,a⟩:=f
 refine .zn ?_
 refine bx.cZ [(0,_),(2,_),(3,_)] kE.c.c.c (X:=Value×ax×ax) (λy=>OS 199 5 Nd.enc y.1 I y.2.1/\dN R e s3 y.2.2/\∀t∈I,t.fits) (λ_ E=>E) (λy=>[y.2.2,y.2.1,Tt,bl M [.string J,vt,y.1] 167,bl L [.string ⟨#[]⟩,sZ,sZ] 167]) ?_ ?_
 refine .cond rfl (λF=>?_) λF=>?_
 obtain⟨s,p⟩:=af7.1 F
 rw[p]at a j
 simp only[af8]at a j
 have b1:=Mh a.ok
 obtain⟨rfl,rfl⟩:I=(fF [] s).1/\s3=(fF [] s).2:=by rw[<-j];exact⟨rfl,rfl⟩
 refine bx.le (dB.refl _) bz.fH<|.region<|.mo rfl<|.call [1,0] ((Dc (R:=R) e s _ a (sZ) [] [] OS.nil (by simp)).weaken da) (λu H' f=>?_)
 obtain⟨T4,Tn,rfl,w,O⟩:=f
 have i7:=w.aB
 conv=>arg 8;simp only[rest,bM,afL,afF]
 refine .fa rfl<|.dz rfl rfl<|.nil ?_
 ·exact aG (_,Tn,T4) ⟨w,O,b1⟩ (((kE.d rfl).d rfl).d rfl) (aQ [0,0,0,0,1])
 have p:dw pN C=none:=by
  cases hh:dw pN C with
  |none=>rfl
  |some x=>rw[hh]at F;cases F
 rw[p]at a j
 simp only[af2,Prod.mk.injEq]at a j
 obtain⟨rfl,rfl⟩:=j
 refine .skip ?_
 ·exact aG (.slice (some ⟨A,0,none⟩) 1 1,_,l) ⟨OS.lits (xs:=[(⟨1,⟨#[]⟩,⟨#[]⟩,0,0⟩:Nd)]) rfl (by simp[Nd.enc]) (by simp[Nd.enc,aB]),a,λt k=>by rw[afA]at k;subst k;exact⟨afv _,afv _⟩⟩ (((kE.d rfl).d rfl).d rfl) (aQ [0,2,0,0,0])
 intro x Y
 obtain⟨vn,Tn,l⟩:=x
 obtain⟨w,a,a2⟩:=Y
 simp only at w a a2⊢
 have b5:=w.aB
 refine aw<|.sr<|.mo rfl ?_
 refine .cr (R:=R) (se e _ _ R a v8) (λu m a9=>?_)
 refine .z<|.q (.aT rfl)<|.bP rfl rfl<|.zn ?_
 refine .ret (bj _ (.one (.fE rfl rfl)) ((aQ [0,0,0]).trans (bz.eS (H':=[m,Tn++Tt]) (by simp[take,bM]))) ?_)
 ·exact⟨_,_,rfl,⟨vt,vn,⟨J,a0,I⟩⟩,rfl,⟨V,Q.sg.mono λb o S=>gS S,w.sg.mono λb o S=>iM S,a5,a2⟩,rfl,a9⟩
end
section
variable{R:ay}
theorem A9(i:Nat)(e:cg)(T:ax)(V:dN R i e T)(M:e.1.length<=1000000):Spec prog 157 [pT i] R [T] λu H'=>∃T' Ts,H'=[T',Ts]/\∃s:cq,u=.agg s.enc.toArray/\s.is (sg Ts)/\s.plain=(mJ isWord e).1/\dN R i (mJ isWord e).2 T':=by
 have a1:mJ isWord e=(⟨(dy isWord e).1,(mI isWord ((gn lK (dy isWord e).2).1.length+1) [] (gn lK (dy isWord e).2)).1⟩,gn vZ (mI isWord ((gn lK (dy isWord e).2).1.length+1) [] (gn lK (dy isWord e).2)).2):=rfl
 have a3:=qH (W:=isWord) V.ok
 have a2:=qI i e T R V
 have Z:(gn lK (dy isWord e).2).1.length<=1000000:=afI (afI (n8 _ _).len (lg e).len) M
 rw[a1]
 clear a1
 generalize dy isWord e=ws at *
 obtain⟨N,H⟩:=ws
 simp only at a3 a2 Z⊢
 obtain⟨O,a0⟩:∃O,O=mI isWord ((gn lK H).1.length+1) [] (gn lK H):=⟨_,rfl⟩
 rw[<-a0]
 refine Spec.body func157 rfl results157 ntmps157 rfl<|.sr ?_
 refine .bU (λS=>?_)
 refine .z<|.mo rfl<|.cr (R:=R) a2 (λu T1 g=>?_)
 obtain⟨rfl,a4⟩:=g
 refine .q .cR ?_
 refine .bU (λU=>?_)
 refine .bP rfl rfl<|.z<|.mo rfl ?_
 refine .cr (R:=R) (se i _ _ R a4 lK) (λu T2 a5=>?_)
 refine .zs<|.block<|.cF [(0,_),(2,_),(3,_)] (X:=Nat×List cb×cg×Value×(ax×ax×ax)) (λy=>dN R i y.2.2.1 y.2.2.2.2.1/\OS 167 3 cb.enc y.2.2.2.1 y.2.1 y.2.2.2.2.2.1/\(∀r∈y.2.1,r.is (sg y.2.2.2.2.2.2))/\mI isWord y.1 (y.2.1.map (·.r)) y.2.2.1=O/\y.2.2.1.1.length+1<=y.1/\y.2.1.length+y.2.2.1.1.length<=1000000) (λ_ E=>E) (λy _=>[y.2.2.2.2.1,y.2.2.2.2.2.1,y.2.2.2.2.2.2,bl U [.string N,y.2.2.2.1] 164,bl S [.string ⟨#[]⟩,sZ] 164]) (λy=>y.1) ((gn lK H).1.length+1,[],gn lK H,sZ,(T2,[],[])) ⟨a5,OS.nil,λr a=>(by cases a),a0.symm,Nat.le_refl _,by simpa using Z⟩ kE.c.c.c (bz.iK.trans (aQ [4,0,0,0,0])) (G:=[]) ?_
 rintro⟨f,L,s,vL,⟨T,To,I⟩⟩ ⟨Y,C,K,l,hf,M⟩
 simp only at Y C K l hf M⊢
 have io:=C.aB
 obtain⟨J,rfl⟩:∃J,f=J+1:=⟨f-1,by omega⟩
 rw[mI]at l
 refine .seq<|.sr<|.mo rfl<|.cr (R:=R) (nB i s _ R Y s4) (λu T3 g=>?_)
 obtain⟨rfl,m⟩:=g
 refine .zn<|.cond rfl (λD=>?_) λD=>?_
 obtain⟨z,F⟩:=af7.1 D
 rw[F]at m l
 simp only[af8]at m l
 have b0:=(jc F).2.1
 have a9:=(Au (W:=isWord) z).len
 refine .kn<|.block ?_
 refine bx.cZ [(0,_),(2,_),(3,_)] kE.c.c.c (X:=cb×Value×(ax×ax×ax)) (λy=>dN R i (mH isWord z).2 y.2.2.1/\OS 167 3 cb.enc y.2.1 (L++[y.1]) y.2.2.2.1/\y.1.is (sg y.2.2.2.2)/\y.1.r=(mH isWord z).1) (λ_ E=>E) (λy=>[y.2.2.1,y.2.2.2.1,y.2.2.2.2,I,bl U [.string N,y.2.1] 164,bl S [.string ⟨#[]⟩,sZ] 164]) ?_ ?_
 refine .cS [3,5,7] mixed<|.tK 0 rfl (.fG rfl)<|.tO 2 rfl .move<|RA.jH 1 3 rfl rfl (by kernel_rfl) rfl ?_ ?_
 refine .lo rfl<|.nil<|Next.sub<|.sT 3 rfl<|.call [0] ((Av (R:=R) i z _ m).weaken da) (λu H' g=>?_)
 obtain⟨A,B,rfl,r,rfl,a,v,n⟩:=g
 have ir:cC r.enc:=⟨a.dg⟩
 conv=>arg 8;simp only[rest,bM,afL,afF]
 have a8:One r.vt:=a.t.aB
 have a7:One r.vn:=a.d.aB
 refine .nil<|Next.mod rfl<|.sT 4 rfl ?_
 refine .dY (λQ=>?_)
 refine .nil<|Next.mod rfl<|.sT 5 rfl<|.append C (RS.lits (xs:=[r]) rfl (by simp[cb.enc]) (λy j u g=>by rw[afA]at j;subst j;exact a.dg u g)) (by simp only[afB];omega) (λw k h=>?_)
 have i5:=h.aB
 refine .nil<|Next.mod rfl<|.tK 6 rfl (.fG rfl)<|.sT 7 rfl<|.dz rfl rfl<|.nil<|Next.mod rfl<|RA.nil (by kernel_rfl) ?_
 ·exact aG (r,w,(A,k,B)) ⟨n,h,a,v⟩ kE.c.c.c (aQ [1,2,1,1,1,1])
 refine .call [0] ((Av (R:=R) i z _ m).weaken da) (λu H' g=>?_)
 obtain⟨A,B,rfl,r,rfl,a,v,n⟩:=g
 have ir:cC r.enc:=⟨a.dg⟩
 conv=>arg 8;simp only[rest,bM,afL,afF]
 have a8:One r.vt:=a.t.aB
 have a7:One r.vn:=a.d.aB
 refine .nil<|Next.mod rfl<|RA.jH 1 4 rfl rfl (by kernel_rfl) rfl ?_ ?_
 refine .lo rfl<|.nil<|Next.mod rfl<|.sT 4 rfl ?_
 refine .dY (λQ=>?_)
 refine .nil<|Next.mod rfl<|.sT 5 rfl<|.append C (RS.lits (xs:=[r]) rfl (by simp[cb.enc]) (λy j u g=>by rw[afA]at j;subst j;exact a.dg u g)) (by simp only[afB];omega) (λw k h=>?_)
 have i5:=h.aB
 refine .nil<|Next.mod rfl<|.tK 6 rfl (.fG rfl)<|.sT 7 rfl<|.dz rfl rfl<|.nil<|Next.mod rfl<|RA.nil (by kernel_rfl) ?_
 ·exact aG (r,w,(A,k,B)) ⟨n,h,a,v⟩ kE.c.c.c (aQ [1,2,1,1,1,1])
 refine .dY (λQ=>?_)
 refine .nil<|Next.mod rfl<|.sT 1 rfl<|.lo rfl<|.nil<|Next.mod rfl<|.sT 5 rfl<|.append C (RS.lits (xs:=[r]) rfl (by simp[cb.enc]) (λy j u g=>by rw[afA]at j;subst j;exact a.dg u g)) (by simp only[afB];omega) (λw k h=>?_)
 have i5:=h.aB
 refine .nil<|Next.mod rfl<|.tK 6 rfl (.fG rfl)<|.sT 7 rfl<|.dz rfl rfl<|.nil<|Next.mod rfl<|RA.nil (by kernel_rfl) ?_
 ·exact aG (r,w,(A,k,B)) ⟨n,h,a,v⟩ kE.c.c.c (aQ [1,2,1,1,1,1])
 intro y j
 obtain⟨r,w,⟨A,k,B⟩⟩:=y
 obtain⟨n,h,a,v⟩:=j
 simp only at n h a v⊢
 refine aX ?_
 ·exact bm (J,L++[r],(mH isWord z).2,w,(A,k,B++I)) ⟨n,h,λq hq=>by
   rcases afH.1 hq with hq|hq
   ·exact(K q hq).mono λb o p=>gS p
   ·rw[afA]at hq
    subst hq
    exact a.mono λb o p=>iM p,by simp only;rw[afz,afS,afW,v];exact l,by simp only;omega,by simp only[afZ,afB];omega⟩ (by simp only;omega) kE.c.c.c (bz.eS (by simp))
 have F:dw s4 s=none:=by
  cases hh:dw s4 s with
  |none=>rfl
  |some x=>rw[hh]at D;cases D
 rw[F]at m l
 simp only[af2]at m l
 refine .exit<|bo<|bs<|bp<|aw<|.sr<|.mo rfl ?_
 refine .cr (R:=R) (se i _ _ R m vZ) (λu k a6=>?_)
 refine .z<|.q (.aT rfl)<|.bP rfl rfl<|.zn ?_
 refine .ret (bj _ (.one (.fE rfl rfl)) ((aQ [0,0,0]).trans (bz.eS (H':=[k,To++I]) (by simp[take,bM]))) ?_)
 ·exact⟨_,_,rfl,⟨N,vL,L⟩,rfl,⟨a3,C.sg.mono λb o p=>iM p,λr a=>(K r a).mono λb o p=>gS p⟩,by rw[<-l];rfl,by rw[<-l];exact a6⟩
theorem CT (j : Nat) (m : cg) (T : ax) (hI : dN R j m T) (Y : m.1.length <= 1000000) : Spec prog 99 [pT j] R [T] λ u H' => ∃ T' Ts, H' = [T', Ts] /\ ∃ c : bJ, u = .agg c.enc.toArray /\ c.is (sg Ts) /\ c.plain = ⟨(kR isWord (m.1.length + 1) [] m).1, []⟩ /\ dN R j (kR isWord (m.1.length + 1) [] m).2 T' := by
 obtain⟨a1,a4⟩:∃a1,a1=kR isWord (m.1.length+1) [] m:=⟨_,rfl⟩
 rw[<-a4]
 refine Spec.body func99 rfl results99 ntmps99 rfl<|.sr ?_
 refine .bU (λU=>?_)
 refine .z ?_
 refine .bU (λV=>?_)
 refine .zs<|.block<|.cF [(0,_),(2,_),(3,_)] (X:=Nat×List cq×cg×Value×(ax×ax×ax)) (λy=>dN R j y.2.2.1 y.2.2.2.2.1/\OS 164 2 cq.enc y.2.2.2.1 y.2.1 y.2.2.2.2.2.1/\(∀r∈y.2.1,r.is (sg y.2.2.2.2.2.2))/\kR isWord y.1 (y.2.1.map cq.plain) y.2.2.1=a1/\y.2.2.1.1.length+1<=y.1/\y.2.1.length+y.2.2.1.1.length<=1000000) (λ_ E=>E) (λy _=>[y.2.2.2.2.1,y.2.2.2.2.2.1,y.2.2.2.2.2.2,bl V [y.2.2.2.1,sZ] 25,bl U [sZ,sZ] 25]) (λy=>y.1) (m.1.length+1,[],m,sZ,(T,[],[])) ⟨hI,OS.nil,λr a=>(by cases a),a4.symm,Nat.le_refl _,by simpa using Y⟩ kE.c.c.c (bz.iK.trans (aQ [4,0,0,0,0])) (G:=[]) ?_
 rintro⟨f,L,s,vL,⟨T,S,K⟩⟩ ⟨M,C,O,i,hf,Y⟩
 simp only at M C O i hf Y⊢
 have io:=C.aB
 obtain⟨J,rfl⟩:∃J,f=J+1:=⟨f-1,by omega⟩
 rw[kR]at i
 obtain⟨⟨v2,a3,Z⟩,a5⟩:=M
 have M:dN R j s T:=⟨⟨v2,a3,Z⟩,a5⟩
 have i2:=Z.aB
 have b1:PS T (pT j) [v2,.bool s.2]:=PS.of (E:=215) (fr:=(0,0)) (by rw[a3];simp)
 refine .seq<|.seq ?_
 refine bx.cZ [(0,_),(2,_),(3,_)] kE.c.c.c (X:=Unit) (λ_=>True) (λ_ E=>(16,.bool (!s.2&&decide (0<s.1.length)))::E) (λ_=>[T,S,K,bl V [vL,sZ] 25,bl U [sZ,sZ] 25]) ?_ ?_
 refine .region<|.mo rfl<|.nc rfl<|.fa rfl<|.lo rfl<|.q .not<|.mo rfl<|.split (t:=9) rfl (λe=>?_) (λe=>?_)
 refine .gT e<|.mo rfl<|.gT e<|.nc rfl<|.gT e<|.fa rfl<|.gT e<|.lo rfl<|.gT e<|.q (.bO Z)<|.gT e<|.q .gtr<|.q (.aU e)<|.nil ?_
 ·exact aG () afC (kE.c.c.c.ca rfl (by rw[e];simp)) rH
 refine .gF e<|.gF e<|.gF e<|.gF e<|.gF e<|.gF e<|.q (.aR e)<|.nil ?_
 ·exact aG () afC (kE.c.c.c.ca rfl (by rw[e];simp)) rH
 intro y l
 refine aw<|.cond rfl (λw=>?_) λw=>?_
 simp only[Bool.and_eq_true,agd,decide_eq_true_eq]at w
 have a0:¬(s.2=true\/s.1=[]):=by
  rintro(h|h)
  ·rw[w.1]at h;cases h
  ·rw[h]at w;simp at w
 rw[afw a0]at i
 refine .kn<|.block<|.block<|.sr<|.mo rfl<|.cr (R:=R) (nB j s _ R M s0) (λu T3 g=>?_)
 obtain⟨rfl,B⟩:=g
 refine .az rfl<|.cond rfl (λN=>?_) λN=>?_
 obtain⟨z,Q⟩:=af7.1 N
 rw[Q]at B i
 simp only[af8]at B i
 have b0:=(jc Q).2.1
 have a9:=(QN (W:=isWord) z).len
 refine bx.cZ [(0,_),(2,_),(3,_)] kE.c.c.c (X:=cq×Value×(ax×ax×ax)) (λy=>dN R j (mJ isWord z).2 y.2.2.1/\OS 164 2 cq.enc y.2.1 (L++[y.1]) y.2.2.2.1/\y.1.is (sg y.2.2.2.2)/\y.1.plain=(mJ isWord z).1) (λ_ E=>E) (λy=>[y.2.2.1,y.2.2.2.1,y.2.2.2.2,K,bl V [y.2.1,sZ] 25,bl U [sZ,sZ] 25]) ?_ ?_
 refine .cS [3,5,7] mixed<|.tK 0 rfl (.fG rfl)<|.tO 2 rfl .move<|RA.jH 1 3 rfl rfl (by kernel_rfl) rfl ?_ ?_
 refine .lo rfl<|.nil<|Next.sub<|.sT 3 rfl<|.call [0] ((A9 (R:=R) j z _ B (by omega)).weaken da) (λu H' g=>?_)
 obtain⟨A,I,rfl,r,rfl,a,F,n⟩:=g
 have ir:cC r.enc:=⟨a.dg⟩
 conv=>arg 8;simp only[rest,bM,afL,afF]
 have a7:One r.v:=a.rs.aB
 refine .nil<|Next.mod rfl<|.sT 4 rfl ?_
 refine .dY (λa2=>?_)
 refine .nil<|Next.mod rfl<|.sT 5 rfl<|.append C (RS.lits (xs:=[r]) rfl (by simp[cq.enc]) (λy l u g=>by rw[afA]at l;subst l;exact a.dg u g)) (by simp only[afB];omega) (λH p k=>?_)
 have i5:=k.aB
 refine .nil<|Next.mod rfl<|.tK 6 rfl (.fG rfl)<|.sT 7 rfl<|.dz rfl rfl<|.nil<|Next.mod rfl<|RA.nil (by kernel_rfl) ?_
 ·exact aG (r,H,(A,p,I)) ⟨n,k,a,F⟩ kE.c.c.c (aQ [1,2,1,1,1,1])
 refine .call [0] ((A9 (R:=R) j z _ B (by omega)).weaken da) (λu H' g=>?_)
 obtain⟨A,I,rfl,r,rfl,a,F,n⟩:=g
 have ir:cC r.enc:=⟨a.dg⟩
 conv=>arg 8;simp only[rest,bM,afL,afF]
 have a7:One r.v:=a.rs.aB
 refine .nil<|Next.mod rfl<|RA.jH 1 4 rfl rfl (by kernel_rfl) rfl ?_ ?_
 refine .lo rfl<|.nil<|Next.mod rfl<|.sT 4 rfl ?_
 refine .dY (λa2=>?_)
 refine .nil<|Next.mod rfl<|.sT 5 rfl<|.append C (RS.lits (xs:=[r]) rfl (by simp[cq.enc]) (λy l u g=>by rw[afA]at l;subst l;exact a.dg u g)) (by simp only[afB];omega) (λH p k=>?_)
 have i5:=k.aB
 refine .nil<|Next.mod rfl<|.tK 6 rfl (.fG rfl)<|.sT 7 rfl<|.dz rfl rfl<|.nil<|Next.mod rfl<|RA.nil (by kernel_rfl) ?_
 ·exact aG (r,H,(A,p,I)) ⟨n,k,a,F⟩ kE.c.c.c (aQ [1,2,1,1,1,1])
 refine .dY (λa2=>?_)
 refine .nil<|Next.mod rfl<|.sT 1 rfl<|.lo rfl<|.nil<|Next.mod rfl<|.sT 5 rfl<|.append C (RS.lits (xs:=[r]) rfl (by simp[cq.enc]) (λy l u g=>by rw[afA]at l;subst l;exact a.dg u g)) (by simp only[afB];omega) (λH p k=>?_)
 have i5:=k.aB
 refine .nil<|Next.mod rfl<|.tK 6 rfl (.fG rfl)<|.sT 7 rfl<|.dz rfl rfl<|.nil<|Next.mod rfl<|RA.nil (by kernel_rfl) ?_
 ·exact aG (r,H,(A,p,I)) ⟨n,k,a,F⟩ kE.c.c.c (aQ [1,2,1,1,1,1])
 intro y l
 obtain⟨r,H,⟨A,p,I⟩⟩:=y
 obtain⟨n,k,a,F⟩:=l
 simp only at n k a F⊢
 refine aX (aX ?_)
 ·exact bm (J,L++[r],(mJ isWord z).2,H,(A,p,I++K)) ⟨n,k,λq hq=>by
   rcases afH.1 hq with hq|hq
   ·exact(O q hq).mono λb o D=>gS D
   ·rw[afA]at hq
    subst hq
    exact a.mono λb o D=>iM D,by simp only;rw[afz,afS,afW,F];exact i,by simp only;omega,by simp only[afZ,afB];omega⟩ (by simp only;omega) kE.c.c.c (bz.eS (by simp))
 have Q:dw s0 s=none:=by
  cases hh:dw s0 s with
  |none=>rfl
  |some x=>rw[hh]at N;cases N
 rw[Q]at B i
 simp only[af2]at B i
 refine .sr<|.mo rfl<|.cr (R:=R) (oz j s _ B s5 (by simp)) (λu A g=>?_)
 obtain⟨rfl,n⟩:=g
 refine .az rfl<|.cU<|.region<|.mo rfl ?_
 obtain⟨⟨v3,rfl,a6⟩,a8⟩:=n
 have i3:=a6.aB
 refine .cr (R:=R) (rI j v3 s.2 R) (λu p g=>?_)
 subst g
 refine .nil<|aX<|aX ?_
 ·exact bm (J,L,jU,vL,(_,S,K)) ⟨dN.nil,C,O,by
   obtain⟨f2,rfl⟩:∃f2,J=f2+1:=⟨J-1,by omega⟩
   simp only
   rw[kR,afx (.inl rfl)]
   exact i,by simp only[jU,afY];omega,by simp only[jU,afY];omega⟩ (by simp only;omega) (((kE.d rfl).d rfl).d rfl) rH
 have a0:s.2=true\/s.1=[]:=by
  cases hs:s.2 with
  |true=>exact .inl rfl
  |false=>
   rw[hs]at w
   simp at w
   exact .inr w
 rw[afx a0]at i
 refine .exit<|bo<|bs<|bp<|aw<|.sr<|.q (.aT rfl)<|.bP rfl rfl<|.zn ?_
 refine .ret (bj _ (.one (.fE rfl rfl)) ((aQ [0,0,0]).trans (bz.eS (H':=[T,S++K]) (by simp[take,bM]))) ?_)
 ·exact⟨_,_,rfl,⟨vL,sZ,L,[]⟩,rfl,⟨C.sg.mono λb o D=>iM D,RS.jr,λr a=>(O r a).mono λb o D=>gS D,λr a=>(by cases a)⟩,by rw[<-i];rfl,by rw[<-i];exact M⟩
theorem N5(v:Value)(L:List eO)(h:RS R 3 eO.enc v L)(m:∀t∈L,gh t):Spec prog 98 [v] R [] λu H'=>u=.bool false/\H'=[]:=by
 have p:=h.le
 refine Spec.body func98 rfl results98 ntmps98 rfl<|.sr<|.ag rfl<|.z<|.ag rfl<|.zs<|.sr<|.mo rfl<|.q (.bO h)<|.mo rfl<|.zn<|.block<|.cF [(6,_),(7,_)] (X:=Nat) (λi=>i<=L.length) (λi E=>(8,iN i)::(3,.int .i64 0)::E) (λ_ G=>G) (λi=>L.length-i) 0 (afv _) kE.c.c.c.c rH ?_
 rintro i o
 refine .sr<|.q .lss<|.zs<|.cond rfl (λg=>?_) λg=>?_
 have k:i<L.length:=cy g
 obtain⟨t,l⟩:=bW k
 have d:=m t (aW l)
 refine .kn<|.seq<|.block<|.sr ?_
 refine .bG i h l (λr=>?_)
 refine .q (.aT rfl) ?_
 refine .bU (λf=>?_)
 refine .bP rfl rfl<|.zs<|.block<|.seq ?_
 refine bx.cZ [(3,_),(5,_),(6,_),(7,_),(8,_)] kE.c.c.c.c.c (X:=Unit) (λ_=>True) (λ_ E=>(12,.bool false)::E) (λ_=>[bl f t.enc 291]) ?_ ?_
 refine .region<|.fa rfl<|.lo rfl<|.q .bY<|.mo rfl<|.split (t:=16) rfl (λa=>?_) (λa=>?_)
 refine .gT a<|.fa rfl<|.gT a<|.lo rfl<|.gT a<|.q .eg<|.q (.aU a)<|.ag rfl<|.nil ?_
 ·exact aG () afC (kE.c.c.c.c.c.ca rfl (by unfold gh at d;have e:ov=(⟨#[40]⟩:ByteArray):=rfl;grind)) rH
 refine .gF a<|.gF a<|.gF a<|.q (.aR a)<|.ag rfl<|.nil ?_
 ·exact aG () afC (kE.c.c.c.c.c.ca rfl (by unfold gh at d;have e:ov=(⟨#[40]⟩:ByteArray):=rfl;grind)) rH
 intro y n
 refine aw<|.cU<|.seq ?_
 refine bx.cZ [(3,_),(6,_),(7,_),(8,_)] kE.c.c.c.c (X:=Unit) (λ_=>True) (λ_ E=>(23,.bool false)::E) (λ_=>[bl f t.enc 291]) ?_ ?_
 refine .region<|.fa rfl<|.lo rfl<|.q .bY<|.mo rfl<|.split (t:=27) rfl (λb=>?_) (λb=>?_)
 refine .gT b<|.fa rfl<|.gT b<|.lo rfl<|.gT b<|.q .eg<|.q (.aU b)<|.ag rfl<|.nil ?_
 ·exact aG () afC (kE.c.c.c.c.ca rfl (by unfold gh at d;have e:pP=(⟨#[41]⟩:ByteArray):=rfl;grind)) rH
 refine .gF b<|.gF b<|.gF b<|.q (.aR b)<|.ag rfl<|.nil ?_
 ·exact aG () afC (kE.c.c.c.c.ca rfl (by unfold gh at d;have e:pP=(⟨#[41]⟩:ByteArray):=rfl;grind)) rH
 intro y n
 refine aw<|.cU<|.skip<|aX<|aw<|.sr<|.mo rfl<|.q .gtr<|.zn<|.cond rfl (λj=>?_) λj=>?_
 ·simp at j
 refine .skip<|aX<|aw<|.region<|.ia (i+1) .add<|.mo rfl<|.nil ?_
 ·exact bm (i+1) k (by omega) kE.c.c.c.c (bz.none _)
 refine .exit<|bo<|bs<|bp<|aw<|.sr<|.az rfl<|.ret (bj _ (.one (.tmp rfl)) (bz.none _) ?_)
 ·exact⟨rfl,rfl⟩
theorem OL(s:ByteArray)(B:s.size<=16384)(g:Pl s)(L:List eO)(r:qt s=some L)(l:∀t∈L,gh t)(y:L.length<=1000000)(C:List Sp)(n:kR isWord (L.length+1) [] (L,false)=(C,([],false)))(A:(⟨C,[]⟩:Cf).jq isWord=false):
  Spec prog 47 [.string s] R [] λu H'=>∃T,H'=[T]/\∃c:bJ,u=.tuple [.agg c.enc.toArray,.int .i64 0].toArray/\c.is (sg T)/\c.plain=⟨C,[]⟩:=by
 refine Spec.body func47 rfl results47 ntmps47 rfl<|.sr ?_
 refine .bU (λG=>?_)
 refine .ag rfl<|.z<|.mo rfl<|.dh (Nv s B g L r _) (λu F a=>?_)
 obtain⟨v,rfl,d⟩:=a
 obtain⟨D,m,rfl,_⟩:=d.shape
 refine .mo rfl<|.q .extract<|.q .extract<|.ag rfl<|.ag rfl<|.zs<|.block<|.sr<|.mo rfl<|.q .dZ<|.az rfl<|.cond rfl (λj=>?_) λj=>?_
 ·simp at j
 refine .sr<|.mo rfl<|.ba (N5 _ L (d.sg.nz) l) (λu a=>?_)
 subst a
 refine .az rfl<|.cU<|.skip<|aX<|aw<|.sr<|.mo rfl<|.q .cR ?_
 refine .cx rfl (λi=>?_)
 refine .ag rfl<|.z<|.mo rfl<|.call [0] (CT (T := qF i (.slice D L.length m) false) i (L, false) ⟨⟨_, rfl, d.rs λ p g => .inr (by simp [rest, bM, g])⟩, l⟩ y) (λ u H' a => ?_)
 obtain⟨E,h,rfl,c,rfl,e,f,k⟩:=a
 rw[n]at f k
 obtain⟨⟨K,rfl,I⟩,_⟩:=k
 have J:cC c.enc:=⟨e.dg⟩
 conv=>arg 8;simp only[rest,bM,afL,afF]
 refine .bU (λH=>?_)
 refine .bP rfl rfl<|.zs<|.block<|.sr<|.mo rfl<|.nc rfl<|.fa rfl<|.lo rfl<|.az rfl<|.cU<|.sr<|.q (.aT rfl)<|.ba (BK c _ (e.mono λb o w=>.inr (by have x:(b,o)∈h:=w;simp[x]))) (λu a=>?_)
 subst a
 rw[f,A]
 refine .q .not<|.az rfl<|.cU<|.skip<|aX<|aw<|.sr<|.q (.aT rfl)<|.bP rfl rfl<|.az rfl ?_
 refine .ret (bj _ (.two (.fE rfl rfl) (.tmp rfl)) (aQ [2]) ?_)
 ·exact⟨h,rfl,c,rfl,e,f⟩
end
def oD(c:Cf)(k:bc)(l:List Sub):List ByteArray:=((l.filter (allowed c k)).filter λs=> !decide (s.us=⟨#[]⟩)).map (·.us)
def oq(c:Cf)(k:bc)(l:List Sub):List Sub:=(l.filter (allowed c k)).filter λs=>decide (s.us=⟨#[]⟩)
theorem Rt{c:Cf}{k:bc}{l:List Sub}{i:Nat}{s:Sub}(h:l[i]? =some s):oD c k (l.take (i+1))=oD c k (l.take i)++if allowed c k s=true/\s.us≠⟨#[]⟩then [s.us]else []:=by
 rw[ec h]
 unfold oD
 rw[af9,af9,afz]
 congr 1
 by_cases a:allowed c k s=true<;>by_cases b:s.us=⟨#[]⟩<;>simp[a,b]
theorem Qx{c:Cf}{k:bc}{l:List Sub}{i:Nat}{s:Sub}(h:l[i]? =some s):oq c k (l.take (i+1))=oq c k (l.take i)++if allowed c k s=true/\s.us=⟨#[]⟩then [s]else []:=by
 rw[ec h]
 unfold oq
 rw[af9,af9]
 congr 1
 by_cases a:allowed c k s=true<;>by_cases b:s.us=⟨#[]⟩<;>simp[a,b]
theorem XC.Bi{x:XC}{R:ay}(h:x.ok R)(k:bc):(x.sub k).length<=1000:=by
 unfold XC.sub
 split
 ·rw[afy]
  have a:=afP (λy:bC=>y.there x.rev&&decide (y.t.db=k)) x.L
  have b:=h.l.pm.length_eq
  have c:=h.len
  omega
 ·simp
theorem Bj(x:XC)(R:ay)(h:x.ok R)(xb:Nat)(va U:Value)(e:Nat) [iv:One va] [ip:One U] [pc:PC R (pT xb) (x.cells va U e)](k:bc):
  Spec prog 145 [pT xb,.agg [.string k.os,.string k.oi].toArray,.string k.rel] R [] λu H'=>∃Tu Ts,H'=[Tu,Ts]/\∃wu ws,u=.tuple [wu,ws].toArray/\OS 9 1 cG wu (ka x.c.plain x.sub k) Tu/\OS 117 4 Sub.enc ws (gz x.c.plain x.sub k) Ts:=by
 have Z:=B9 x.c R h.c
 have i1:One x.c.vs:=RS.aB h.c.ss
 have i2:One x.c.vc:=RS.aB h.c.sc
 have i3:=h.n.one
 obtain⟨ps,vf,vr,Mf,Mr,W⟩:=h.s
 have b3:=XC.Bi h k
 have hl:=h.l
 have b1:=h.len
 have Y:ka x.c.plain x.sub k=oD x.c.plain k (x.sub k):=rfl
 have V:gz x.c.plain x.sub k=oq x.c.plain k (x.sub k):=rfl
 have a4:x.sub k=if scan x.S x.rev then(x.L.filter λy=>y.there x.rev&&decide (y.t.db=k)).map (·.t.sub)else []:=rfl
 have a6:∀i,(oD x.c.plain k ((x.sub k).take i)).length<=1000:=λi=>by
  unfold oD
  rw[afy]
  refine afI (afP _ _) (afI (afP _ _) ?_)
  rw[afG];omega
 have a2:∀i,(oq x.c.plain k ((x.sub k).take i)).length<=1000:=λi=>by
  unfold oq
  refine afI (afP _ _) (afI (afP _ _) ?_)
  rw[afG];omega
 have a5:=λ(l:List Sub) (i:Nat) (s:Sub) (h:l[i]? =some s)=>Rt (c:=x.c.plain) (k:=k) h
 have a3:=λ(l:List Sub) (i:Nat) (s:Sub) (h:l[i]? =some s)=>Qx (c:=x.c.plain) (k:=k) h
 rw[Y,V]
 generalize hL:x.sub k=l at *
 refine Spec.body func145 rfl results145 ntmps145 rfl ?_
 refine .sr ?_
 refine .cx rfl (λb4=>?_)
 refine .ag rfl<|.ag rfl<|.z<|.ag rfl<|.z<|.ag rfl<|.zs<|.seq<|.cS [] mixed ?_
 refine .tO 0 rfl .move<|.tO 1 rfl (.nilCheck rfl)<|.tO 2 rfl (.fieldAddr rfl)<|.tO 3 rfl (.cm rfl)<|.tO 4 rfl (.aT rfl)<|.tO 5 rfl .move<|.tO 6 rfl .move<|.tO 7 rfl (.nilCheck rfl)<|.tO 8 rfl (.fieldAddr rfl)<|.tO 9 rfl (.cm rfl)<|.tO 12 rfl .move ?_
 refine .sT 10 rfl ?_
 refine .dh ((SV.QZ (W.mono λb o J=>.inl J) (by omega) k x.rev hl).weaken λb o J=>J) (λu a7 D=>?_)
 rw[<-a4]at D
 have iu:=D.aB
 refine .nil (Next.sub ?_)
 refine .tO 11 rfl (.ep D) ?_
 refine RA.nil (by kernel_rfl) ?_
 refine aw<|.block ?_
 refine .cF [(0,_),(2,_),(4,_),(22,_),(23,_)] (X:=Nat×Value×Value×ax×ax) (λy=>y.1<=l.length/\OS 9 1 cG y.2.1 (oD x.c.plain k (l.take y.1)) y.2.2.2.1/\OS 117 4 Sub.enc y.2.2.1 (oq x.c.plain k (l.take y.1)) y.2.2.2.2) (λy E=>(24,iN y.1)::(8,y.2.1)::(9,y.2.2.1)::E) (λy G=>y.2.2.2.1::y.2.2.2.2::G) (λy=>l.length-y.1) (0,sZ,sZ,[],[]) ⟨afv _,OS.nil,OS.nil⟩ kE.c.c.c.c.c.c.c.c bz.iK ?_
 rintro⟨i,Q,O,Tu,Ts⟩ ⟨hi,m,j⟩
 simp only at hi m j⊢
 have b6:=m.aB
 have b7:=j.aB
 refine .sr<|.q .lss<|.zs ?_
 refine .cond rfl (λH=>?_) λH=>?_
 have C:i<l.length:=cy H
 obtain⟨s,M⟩:=bW C
 have b5:=a6 i
 have b2:=a2 i
 have r:=a5 l i s M
 have p:=a3 l i s M
 obtain⟨a,g,d,f⟩:=s
 refine .kn<|.seq<|.block<|.sr ?_
 refine .aL i D M (λb8=>?_)
 refine .q (.aT rfl) ?_
 refine .bU (λa8=>?_)
 refine .bP rfl rfl<|.zn<|.block<|.seq ?_
 refine .dm 8 mixed (by kernel_rfl) ?_
 conv=>arg 6;dsimp only[List.take]
 refine .mo rfl<|.nc rfl<|.fa rfl<|.q (.loadT rfl) ?_
 refine .q (.aT rfl)<|.mo rfl<|.q (.aT rfl) ?_
 refine .q .cR ?_
 refine .nil ?_
 refine .ba ((Z ⟨k.os,k.oi,k.rel,a,g,d,f⟩).weaken da) (λw hw=>?_)
 subst hw
 refine .q .dZ<|.az rfl ?_
 refine .cond rfl (λv=>?_) λv=>?_
 have a1:allowed x.c.plain k ⟨a,g,d,f⟩=false:=by
  cases hq:allowed x.c.plain k ⟨a,g,d,f⟩with
  |false=>rfl
  |true=>
   have:allowed x.c.plain (⟨k.os,k.oi,k.rel,a,g,d,f⟩:aA).db (⟨k.os,k.oi,k.rel,a,g,d,f⟩:aA).sub=true:=hq
   rw[this]at v;simp at v
 rw[afw (by rw[a1];simp),afK]at r p
 refine .skip<|aX<|aX<|aw<|.region ?_
 refine .ia (i+1) .add ?_
 refine .mo rfl<|.nil ?_
 ·exact bm (i+1,Q,O,Tu,Ts) ⟨C,by rw[r];exact m,by rw[p];exact j⟩ (by simp only;omega) kE.c.c.c.c.c.c.c.c (bz.drop [0] _)
 have T:allowed x.c.plain k ⟨a,g,d,f⟩=true:=by
  cases hq:allowed x.c.plain k ⟨a,g,d,f⟩with
  |true=>rfl
  |false=>
   have:allowed x.c.plain (⟨k.os,k.oi,k.rel,a,g,d,f⟩:aA).db (⟨k.os,k.oi,k.rel,a,g,d,f⟩:aA).sub=false:=hq
   rw[this]at v;simp at v
 refine .sr<|.fa rfl<|.lo rfl<|.q .gP<|.az rfl ?_
 refine .cond rfl (λI=>?_) λI=>?_
 have A:a≠⟨#[]⟩:=by simpa using I
 rw[afx ⟨T,A⟩]at r
 rw[afw (λK=>A K.2),afK]at p
 refine .region<|.mo rfl<|.fa rfl<|.lo rfl ?_
 refine .ki (λb0=>?_)
 refine .append m (RS.lits (xs:=[a]) rfl (by simp[cG]) (by simp[cG,aB])) (by simp only[afB];omega) (λN F B=>?_)
 rw[<-r]at B
 refine .ag rfl<|.nil<|aX<|aX<|aw<|.region ?_
 refine .ia (i+1) .add ?_
 refine .mo rfl<|.nil ?_
 ·exact bm (i+1,N,O,F,Ts) ⟨C,B,by rw[p];exact j⟩ (by simp only;omega) kE.c.c.c.c.c.c.c.c (bz.drop [0,0] _)
 have A:a=⟨#[]⟩:=by simpa using I
 rw[afw (λK=>K.2 A),afK]at r
 rw[afx ⟨T,A⟩]at p
 refine .region<|.mo rfl<|.q (.aT rfl) ?_
 refine .dY (λa9=>?_)
 refine .append j (RS.lits (xs:=[(⟨a,g,d,f⟩:Sub)]) rfl (by simp[Sub.enc]) (by simp[Sub.enc,aB])) (by simp only[afB];omega) (λN F B=>?_)
 rw[<-p]at B
 refine .ag rfl<|.nil<|aX<|aX<|aw<|.region ?_
 refine .ia (i+1) .add ?_
 refine .mo rfl<|.nil ?_
 ·exact bm (i+1,Q,N,Tu,F) ⟨C,by rw[r];exact m,B⟩ (by simp only;omega) kE.c.c.c.c.c.c.c.c (bz.drop [0,0] _)
 refine .exit<|bo<|bs<|bp<|aw<|.sr<|.mo rfl<|.mo rfl<|.ag rfl<|.az rfl ?_
 refine .ret (bj _ (.two (.tmp rfl) (.tmp rfl)) (aQ [0,0]) ?_)
 ·have a0:i=l.length:=by have:=bF H;omega
  subst a0
  rw[afE]at m j
  exact⟨Tu,Ts,by simp[take,bM],Q,O,rfl,m,j⟩
structure lS(x:XC)(R:ay)(ps:List aZ)(va:Value)(ks:List bc)(ps':List aZ)(vp:Value)(Ta To:ax)(vo:Value)(Tl:ax):Prop where
 l:OS 3 1 di vo (dJ x.c.plain x.num (ps.map aZ.plain) ks).2 Tl
 eq:ps'.map aZ.plain=(dJ x.c.plain x.num (ps.map aZ.plain) ks).1
 at_:iQ ps' va Ta
 o:OS 95 8 aZ.enc vp ps' To
 gr:∃l,ps'=ps++l/\∀p∈l,p.is R
theorem lS.len{x:XC}{R:ay}{ps a:List aZ}{va g f:Value}{ks:List bc}{b e d:ax}(h:lS x R ps va ks a g b e f d):a.length=(dJ x.c.plain x.num (ps.map aZ.plain) ks).1.length:=by rw[<-h.eq,afy]
theorem lS.next{x:XC}{R:ay}{ps d b:List aZ}{va D s C r:Value}{ks:List bc}{i:Nat}{k:bc}{t v f m u j:ax}(h:lS x R ps va (ks.take i) d D t v C u)(z:ks[i]? =some k)
  (e:b.map aZ.plain=(fg x.c.plain x.num (d.map aZ.plain) k).1)(a:iQ b va f)(o:OS 95 8 aZ.enc s b m)(g:∃l,b=d++l/\∀p∈l,p.is R)
  (q:OS 3 1 di r ((dJ x.c.plain x.num (ps.map aZ.plain) (ks.take i)).2++[(fg x.c.plain x.num (d.map aZ.plain) k).2]) j):lS x R ps va (ks.take (i+1)) b s f m r j:=by
 have n:=B1 (c:=x.c.plain) (num:=x.num) z (ps.map aZ.plain)
 rw[h.eq]at e q
 refine⟨by rw[n];exact q,by rw[n];exact e,a,o,?_⟩
 obtain⟨A,rfl,w⟩:=h.gr
 obtain⟨B,rfl,y⟩:=g
 refine⟨A++B,by rw[afV],λp hp=>?_⟩
 rcases afH.1 hp with hp|hp
 ·exact w p hp
 ·exact y p hp
def wy(x:XC)(R:ay)(xb:Nat)(ps:List aZ)(e:Nat)(va:Value)(ks:List bc)(u:Value)(H':aP):Prop:=∃ps' vp Ta To Tl,H'=[Tl,x.iG xb va vp e,Ta,To]/\lS x R ps va ks ps' vp Ta To u Tl
theorem Nr(x:XC)(R:ay)(h:x.ok R)(xb:Nat)(ps:List aZ)(e:Nat)(va j:Value)(m p:ax)(hA:iQ ps va m)(hO:OS 95 8 aZ.enc j ps p)(k:bc)(H:List Value)(n:Nd) [ie:cC H]
  (hl:(dJ x.c.plain x.num (ps.map aZ.plain) (ei x.c.plain x.sub k n)).1.length<=3000000)(b1:H.length=5):
  Spec prog 146 [pT xb,.agg (.string k.os:: .string k.oi:: .string k.rel::H).toArray,.agg n.enc.toArray] R [x.iG xb va j e,m,p] (wy x R xb ps e va (ei x.c.plain x.sub k n)):=by
 obtain⟨x3,x4,x5,x6,x7,rfl⟩:∃a b c d f,H=[a,b,c,d,f]:=by
  match H,b1 with
  |[a,b,c,d,f],_=>exact⟨a,b,c,d,f,rfl⟩
 have c9:cC (Value.string k.os:: .string k.oi:: .string k.rel::[x3,x4,x5,x6,x7]):=⟨λu hu=>by
  simp only[afN,afQ,afR]at hu
  rcases hu with rfl|rfl|rfl|hu
  ·rfl
  ·rfl
  ·rfl
  ·exact ie.h u (by simpa using hu)⟩
 have a9:=Bj x
 have a4:=Aj x R h xb
 have i1:One x.c.vs:=RS.aB h.c.ss
 have i2:One x.c.vc:=RS.aB h.c.sc
 have i3:=h.n.one
 obtain⟨M0,b0,_⟩:=id hA
 have d0:=b0.one
 have d1:=hO.aB
 have a0:∀ks u H',wy x R xb ps e va ks u H'↔∃ps' j m p w,H'=[w,x.iG xb va j e,m,p]/\lS x R ps va ks ps' j m p u w:=λ_ _ _=>Iff.rfl
 have r:ei x.c.plain x.sub k n=if n.kind=1 then(gz x.c.plain x.sub k).map λs=>⟨s.ss,s.si,s.sr⟩
  else if n.kind=3 then(gz x.c.plain x.sub ⟨k.os,k.oi,n.rel⟩).map λs=>⟨s.ss,s.si,n.dQ⟩
  else if n.kind=2 then [⟨k.os,k.oi,n.rel⟩]
  else []:=rfl
 generalize c8:ei x.c.plain x.sub k n=ks at *
 have a6:=λi=>B0 (c:=x.c.plain) (num:=x.num) ks i (ps.map aZ.plain)
 have b2:=BZ (c:=x.c.plain) (num:=x.num) ks (ps.map aZ.plain)
 rw[afy]at b2
 have a7:=λi=>tp (c:=x.c.plain) (num:=x.num) (ks.take i) (ps.map aZ.plain)
 have a8:∀k',(gz x.c.plain x.sub k').length<=1000:=λk'=>by
  unfold gz fitting
  exact afI (afP _ _) (afI (afP _ _) (XC.Bi h k'))
 have S:lS x R ps va (ks.take 0) ps j m p (sZ) []:=⟨OS.nil,by simp[dJ],hA,hO,[],by simp,by simp⟩
 refine Spec.hB (H':=[[],x.iG xb va j e,m,p]) (by simp)<|Spec.body func146 rfl results146 ntmps146 rfl<|.sr ?_
 refine .cx rfl (λb4=>?_)
 refine .cx rfl (λb5=>?_)
 refine .ag rfl<|.z<|.ag rfl<|.zs<|.sr<|.fa rfl<|.lo rfl<|.zn<|.block<|.sr<|.q .bY<|.az rfl<|.cond rfl (λh1=>?_) λh1=>?_
 have M:n.kind=1:=bX h1
 rw[afx M]at r
 have b9:=a8 k
 refine .sr<|.mo rfl<|.fa rfl<|.q (.loadT rfl)<|.fa rfl<|.lo rfl<|.call [] (a9 _ (h.mono λb o hb=>.inl hb) xb va j e (pc:=PC.of (E:=190) (fr:=(0,0)) (.inr (by simp[rest]))) k) (λu H' hu=>?_)
 obtain⟨Tu,Ts,rfl,wu,ws,rfl,a1,t⟩:=hu
 have c1:=a1.aB
 have c2:=t.aB
 conv=>arg 8;simp only[rest,bM,afL,afF]
 refine .mo rfl<|.q .extract<|.q .extract<|.ag rfl<|.ag rfl<|.z<|.mo rfl<|.q (.ep t)<|.mo rfl<|.zn<|.block<|.cF [(0,_),(29,_),(30,_)] (X:=Nat×List aZ×Value×ax×ax×Value×ax) (λy=>y.1<=(gz x.c.plain x.sub k).length/\lS x R ps va (ks.take y.1) y.2.1 y.2.2.1 y.2.2.2.1 y.2.2.2.2.1 y.2.2.2.2.2.1 y.2.2.2.2.2.2) (λy E=>(31,iN y.1)::(7,y.2.2.2.2.2.1)::E) (G:=[Ts,bl b5 n.enc 199,bl b4 (Value.string k.os:: .string k.oi:: .string k.rel::[x3,x4,x5,x6,x7]) 95]) (λy G=>y.2.2.2.2.2.2::x.iG xb va y.2.2.1 e::y.2.2.2.1::y.2.2.2.2.1::G) (λy=>(gz x.c.plain x.sub k).length-y.1) (0,ps,j,m,p,sZ,[]) ⟨afv _,S⟩ kE.c.c.c.c.c (aQ [4,4,4,4,1,1,1]) ?_
 rintro⟨i,v,Y,B,D,vo,w⟩ ⟨hi,g⟩
 simp only at hi g⊢
 have io:=g.l.aB
 have c0:=g.o.aB
 have b8:=g.len
 have b7:=a6 i
 have a3:=a7 i
 rw[afG]at a3
 refine .sr<|.q .lss<|.zs<|.cond rfl (λh2=>?_) λh2=>?_
 have O:i<(gz x.c.plain x.sub k).length:=by have:=bX h2;omega
 obtain⟨s,Q⟩:=bW O
 have N:ks[i]? =some ⟨s.ss,s.si,s.sr⟩:=by rw[r,afJ,Q];rfl
 obtain⟨us,W,V,sr⟩:=s
 refine .kn<|.seq<|.block<|.sr ?_
 refine .aL i t Q (λd2=>?_)
 refine .q (.aT rfl) ?_
 refine .bU (λc3=>?_)
 refine .bP rfl rfl<|.zn<|.region<|.mo rfl<|.mo rfl<|.fa rfl<|.q (.loadT rfl)<|.fa rfl<|.lo rfl<|.call [2,2,2] ((a4 v e va Y B D g.at_ g.o (by omega) ⟨W,V,sr⟩).weaken da) (λu H' hu=>?_)
 obtain⟨U,Z,C,F,rfl,rfl,K,I,J,L⟩:=hu
 conv=>arg 8;simp only[rest,bM,afL,afF]
 refine .ki (λc5=>?_)
 refine .append g.l (RS.lits (xs:=[(fg x.c.plain x.num (v.map aZ.plain) ⟨W,V,sr⟩).2]) rfl (by simp[di]) (by simp[di,aB])) (by simp only[afB];omega) (λv5 A T=>?_)
 refine .ag rfl<|.nil<|aX<|aw<|.region<|.ia (i+1) .add<|.mo rfl<|.nil ?_
 ·exact bm (i+1,U,Z,C,F,v5,A) ⟨O,g.next N K I J L T⟩ (by simp only;omega) kE.c.c.c.c.c (aQ [5,1,1,1,2,2,2])
 have a2:i=ks.length:=by rw[r,afy];have:=bF h2;omega
 rw[a2,afE]at g
 refine .exit<|bo<|bs<|bp<|aX<|aw<|.sr<|.mo rfl<|.az rfl<|.ret (bj _ (.one (.tmp rfl)) (aQ [0,0,0,0]) ?_)
 ·exact(a0 _ _ _).2 ⟨v,Y,B,D,w,by simp[take,bM],g⟩
 refine .sr<|.q .bY<|.az rfl<|.cond rfl (λh3=>?_) λh3=>?_
 have M:n.kind=2:=bX h3
 rw[afw (by omega),afw (by omega),afx M]at r
 have N:ks[0]? =some ⟨k.os,k.oi,n.rel⟩:=by rw[r];rfl
 have b3:ks.take 1=ks:=by rw[r];rfl
 refine .region<|.mo rfl<|.mo rfl<|.fa rfl<|.q (.loadT rfl)<|.fa rfl<|.lo rfl<|.call [3,3,3] ((a4 ps e va j m p hA hO (by omega) ⟨k.os,k.oi,n.rel⟩).weaken da) (λu H' hu=>?_)
 obtain⟨U,Z,C,F,rfl,rfl,K,I,J,L⟩:=hu
 conv=>arg 8;simp only[rest,bM,afL,afF]
 refine .ki (λc6=>?_)
 refine .append S.l (RS.lits (xs:=[(fg x.c.plain x.num (ps.map aZ.plain) ⟨k.os,k.oi,n.rel⟩).2]) rfl (by simp[di]) (by simp[di,aB])) (by simp[dJ]) (λv5 A T=>?_)
 have a5:=S.next N K I J L T
 rw[show(0:Nat)+1=1 from rfl,b3]at a5
 refine .ag rfl<|.nil<|aX<|aw<|.sr<|.mo rfl<|.az rfl<|.ret (bj _ (.one (.tmp rfl)) (aQ [6,1,1,1]) ?_)
 ·exact(a0 _ _ _).2 ⟨U,Z,C,F,A,by simp[take,bM],a5⟩
 refine .sr<|.q .bY<|.az rfl<|.cond rfl (λh4=>?_) λh4=>?_
 have M:n.kind=3:=bX h4
 rw[afw (by omega),afx M]at r
 have b9:=a8 ⟨k.os,k.oi,n.rel⟩
 refine .sr<|.mo rfl<|.fa rfl<|.q (.loadT rfl)<|.fa rfl<|.lo rfl<|.call [] (a9 _ (h.mono λb o hb=>.inl hb) xb va j e (pc:=PC.of (E:=190) (fr:=(0,0)) (.inr (by simp[rest]))) ⟨k.os,k.oi,n.rel⟩) (λu H' hu=>?_)
 obtain⟨Tu,Ts,rfl,wu,ws,rfl,a1,t⟩:=hu
 have c1:=a1.aB
 have c2:=t.aB
 conv=>arg 8;simp only[rest,bM,afL,afF]
 refine .mo rfl<|.q .extract<|.q .extract<|.ag rfl<|.ag rfl<|.z<|.mo rfl<|.q (.ep t)<|.mo rfl<|.zn<|.block<|.cF [(0,_),(5,_),(67,_),(68,_)] (X:=Nat×List aZ×Value×ax×ax×Value×ax) (λy=>y.1<=(gz x.c.plain x.sub ⟨k.os,k.oi,n.rel⟩).length/\lS x R ps va (ks.take y.1) y.2.1 y.2.2.1 y.2.2.2.1 y.2.2.2.2.1 y.2.2.2.2.2.1 y.2.2.2.2.2.2) (λy E=>(69,iN y.1)::(7,y.2.2.2.2.2.1)::E) (G:=[Ts,bl b5 n.enc 199,bl b4 (Value.string k.os:: .string k.oi:: .string k.rel::[x3,x4,x5,x6,x7]) 95]) (λy G=>y.2.2.2.2.2.2::x.iG xb va y.2.2.1 e::y.2.2.2.1::y.2.2.2.2.1::G) (λy=>(gz x.c.plain x.sub ⟨k.os,k.oi,n.rel⟩).length-y.1) (0,ps,j,m,p,sZ,[]) ⟨afv _,S⟩ kE.c.c.c.c.c.c (aQ [4,4,4,4,1,1,1]) ?_
 rintro⟨i,v,Y,B,D,vo,w⟩ ⟨hi,g⟩
 simp only at hi g⊢
 have io:=g.l.aB
 have c0:=g.o.aB
 have b8:=g.len
 have b7:=a6 i
 have a3:=a7 i
 rw[afG]at a3
 refine .sr<|.q .lss<|.zs<|.cond rfl (λh5=>?_) λh5=>?_
 have O:i<(gz x.c.plain x.sub ⟨k.os,k.oi,n.rel⟩).length:=by have:=bX h5;omega
 obtain⟨s,Q⟩:=bW O
 have N:ks[i]? =some ⟨s.ss,s.si,n.dQ⟩:=by rw[r,afJ,Q];rfl
 obtain⟨us,W,V,sr⟩:=s
 refine .kn<|.seq<|.block<|.sr ?_
 refine .aL i t Q (λd3=>?_)
 refine .q (.aT rfl) ?_
 refine .bU (λc4=>?_)
 refine .bP rfl rfl<|.zn<|.region<|.mo rfl<|.mo rfl<|.fa rfl<|.q (.loadT rfl)<|.fa rfl<|.lo rfl<|.call [2,2,2] ((a4 v e va Y B D g.at_ g.o (by omega) ⟨W,V,n.dQ⟩).weaken da) (λu H' hu=>?_)
 obtain⟨U,Z,C,F,rfl,rfl,K,I,J,L⟩:=hu
 conv=>arg 8;simp only[rest,bM,afL,afF]
 refine .ki (λc7=>?_)
 refine .append g.l (RS.lits (xs:=[(fg x.c.plain x.num (v.map aZ.plain) ⟨W,V,n.dQ⟩).2]) rfl (by simp[di]) (by simp[di,aB])) (by simp only[afB];omega) (λv5 A T=>?_)
 refine .ag rfl<|.nil<|aX<|aw<|.region<|.ia (i+1) .add<|.mo rfl<|.nil ?_
 ·exact bm (i+1,U,Z,C,F,v5,A) ⟨O,g.next N K I J L T⟩ (by simp only;omega) kE.c.c.c.c.c.c (aQ [5,1,1,1,2,2,2])
 have a2:i=ks.length:=by rw[r,afy];have:=bF h5;omega
 rw[a2,afE]at g
 refine .exit<|bo<|bs<|bp<|aX<|aw<|.sr<|.mo rfl<|.az rfl<|.ret (bj _ (.one (.tmp rfl)) (aQ [0,0,0,0]) ?_)
 ·exact(a0 _ _ _).2 ⟨v,Y,B,D,w,by simp[take,bM],g⟩
 have b6:ks=[]:=by
  rw[r,afw (bF h1),afw (bF h4),afw (bF h3)]
 refine .skip<|aX<|aw<|.sr<|.mo rfl<|.az rfl<|.ret (bj _ (.one (.tmp rfl)) (aQ [2,2,2,2]) ?_)
 ·refine(a0 _ _ _).2 ⟨ps,j,m,p,[],by simp[take,bM],?_⟩
  have:=S
  rw[List.take_zero, <-b6]at this
  exact this
instance R1:fw prog 3 (λs:Int=>.int .i64 s):=fw.int ud xY
abbrev kI(n:Int):Value:=.int .i64 n
structure BS(x:XC)(R:ay)(ps:List aZ)(va:Value)(k:bc)(ns:List Nd)(mp:Value)(ps1:List aZ)(vp:Value)(Ta To:ax)(vL:Value)(L:List fW)(TL Tr:ax)(M:List (Int×Bool))(Tm:ax):Prop where
 eq:ps1.map aZ.plain=(dq x.c.plain x.num x.sub k (ps.map aZ.plain) ns).1
 at_:iQ ps1 va Ta
 o:OS 95 8 aZ.enc vp ps1 To
 gr:∃l,ps1=ps++l/\∀p∈l,p.is R
 le:OS 182 1 eo vL L TL
 rows:∀q∈L,RS (sg Tr) 1 di q.1 q.2
 ll:L.map (·.2)=(dq x.c.plain x.num x.sub k (ps.map aZ.plain) ns).2
 ms:MS kI Value.bool mp M Tm
 zI:M.map (·.1)=(kV [] (dq x.c.plain x.num x.sub k (ps.map aZ.plain) ns).2.flatten).map λn:Nat=>(n:Int)
theorem NR{β:Type}{M:List (Int×β)}{l:List Nat}(h:M.map (·.1)=l.map λn:Nat=>(n:Int))(y:β)(j:Nat):(dH (j:Int) y M).map (·.1)=(if j∈l then l else l++[j]).map λn:Nat=>(n:Int):=by
 by_cases c:j∈l
 ·rw[afx c, <-h]
  have b:(j:Int)∈M.map (·.1):=by rw[h];exact af3.2 ⟨j,c,rfl⟩
  clear h
  induction M with
  |nil=>simp at b
  |cons a M ih=>
   obtain⟨g,i⟩:=a
   rw[dH]
   split
   ·rename_i e;simp[e]
   ·rename_i e
    simp only[afS,afN]at b⊢
    rw[ih (b.resolve_left e)]
 ·rw[afw c,mD (λb=>by
   rw[h]at b
   obtain⟨n,f,e⟩:=af3.1 b
   have d:n=j:=by omega
   exact c (d▸f)),afz,afz,h]
  rfl
theorem AX{α:Type}{l:List α}{i:Nat}{x:α}(h:l[i]? =some x):l.set i x=l:=by
 obtain⟨a,e⟩:=afM.1 h
 rw[<-e]
 exact List.set_getElem_self a
theorem OS.Ci{α:Type}{E sz:Nat}{enc:α->List Value}{v:Value}{xs:List α}{T:ax}{i:Nat}{z:α}(h:OS E sz enc v xs T)(d:xs[i]? =some z):∃a,eE v (i*sz)=.pointer (some a):=by
 rcases h.h with⟨_,rfl,_⟩|⟨b,f,c,e,rfl,_⟩
 ·simp at d
 ·exact⟨_,rfl⟩
theorem OQ{a b:List bI}(h:a.map (·.k)=b.map (·.k))(k:bc):im a k=im b k:=by
 have c:∀l:List bI,im l k=(l.map (·.k)).findIdx? λy=>decide (y=k):=λl=>by
  unfold im
  rw[List.findIdx?_map]
  rfl
 rw[c,c,h]
theorem Qf{ps:List aZ}{i:Nat}{p q:aZ}(a:ps[i]? =some p)(b:q.k=p.k):((ps.set i q).map aZ.plain).map (·.k)=(ps.map aZ.plain).map (·.k):=by
 rw[List.map_map,List.map_map]
 refine List.ext_getElem? λj=>?_
 rw[afJ,afJ,List.getElem?_set]
 split
 ·rename_i e
  subst e
  rw[afx (afM.1 a).1,a]
  show some q.k=some p.k
  rw[b]
 ·rfl
theorem iQ.set{ps:List aZ}{i:Nat}{p q:aZ}{va:Value}{T:ax}(h:iQ ps va T)(d:ps[i]? =some p)(c:q.k=p.k):iQ (ps.set i q) va T:=by
 obtain⟨M,b,a⟩:=h
 exact⟨M,b,λk=>by rw[a];exact OQ (Qf d c).symm k⟩
def ti(x:XC)(Rc:ay)(xb:Nat)(ps:List aZ)(e:Nat)(va:Value)(i:Nat)(p:aZ)(H':aP):Prop:=∃vp Ta To TL Tr Tu l q,
 H'=[x.iG xb va vp (e+(eB x.c.plain x.num x.sub (ps.map aZ.plain) i).2),Ta,To,TL,Tr,Tu]/\(∀p∈l,aZ.is Rc p)/\((ps++l).set i q).map aZ.plain=(eB x.c.plain x.num x.sub (ps.map aZ.plain) i).1/\iQ ((ps++l).set i q) va Ta/\OS 95 8 aZ.enc vp ((ps++l).set i q) To/\
 (q=p\/q.vn=p.vn/\q.nodes=p.nodes/\RS (sg Tu) 1 cG q.vu q.fU/\RS (sg TL) 1 eo q.vl q.ll/\∀y∈q.ll,RS (sg Tr) 1 di y.1 y.2)
theorem OB(x:XC)(A R:ay)(b5:∀b o,A b o->R b o)(h:x.ok A)(xb:Nat)(ps:List aZ)(e:Nat)(va w:Value)(B C:ax)(hA:iQ ps va B)(V:OS 95 8 aZ.enc w ps C)(i:Nat)(p:aZ)(v:ps[i]? =some p)(hn:RS R 5 Nd.enc p.vn p.nodes)(a3:p.plain=one x.c.plain x.num p.k)(e9:p.nodes.length<=1000000)
  (hl:(eB x.c.plain x.num x.sub (ps.map aZ.plain) i).1.length<=3000000)(he:e<=1000000000000):
  Spec prog 85 [pT xb,iN i] R [x.iG xb va w e,B,C] λ_ H'=>ti x A xb ps e va i p H':=by
 have f3:=Bj x
 have e6:=Nr x A h xb
 obtain⟨M0,d6,_⟩:=id hA
 have g4:=d6.one
 have g5:=V.aB
 have f1:=aW v
 have f7:cC p.enc:=⟨V.one p f1⟩
 have a5:(ps.map aZ.plain)[i]? =some p.plain:=by rw[afJ,v];rfl
 have e0:=(afM.1 v).1
 have b6:∀H',ti x A xb ps e va i p H'↔∃w B C U H I l q,
  H'=[x.iG xb va w (e+(eB x.c.plain x.num x.sub (ps.map aZ.plain) i).2),B,C,U,H,I]/\(∀p∈l,aZ.is A p)/\((ps++l).set i q).map aZ.plain=(eB x.c.plain x.num x.sub (ps.map aZ.plain) i).1/\iQ ((ps++l).set i q) va B/\OS 95 8 aZ.enc w ((ps++l).set i q) C/\
  (q=p\/q.vn=p.vn/\q.nodes=p.nodes/\RS (sg I) 1 cG q.vu q.fU/\RS (sg U) 1 eo q.vl q.ll/\∀y∈q.ll,RS (sg H) 1 di y.1 y.2):=λ_=>Iff.rfl
 have W:=Oy (c:=x.c.plain) (num:=x.num) (sub:=x.sub) a5
 have a4:=OA (c:=x.c.plain) (num:=x.num) (sub:=x.sub) a5 a3
 have e5:=hn.le
 obtain⟨k,f,vn,d,S,Q,t,s,g⟩:=p
 have f0:aZ.plain ⟨k,f,vn,d,S,Q,t,s,g⟩=⟨k,f,d,g,Q,s.map (·.2)⟩:=rfl
 rw[f0]at W a4 a5 a3
 simp only at W a4 hn a3 e5 e9
 have e3:=λj=>B2 (c:=x.c.plain) (num:=x.num) (sub:=x.sub) k d j (ps.map aZ.plain)
 have e7:=wN (c:=x.c.plain) (num:=x.num) (sub:=x.sub) k d (ps.map aZ.plain)
 have f5:=λ(j:Nat) (n:Nd) (hj:d[j]? =some n)=>B3 (c:=x.c.plain) (num:=x.num) (sub:=x.sub) hj k (ps.map aZ.plain)
 have b9:(dq x.c.plain x.num x.sub k (ps.map aZ.plain) d).1.length<=3000000:=by
  rw[W]at hl
  rwa [List.length_set]at hl
 refine Spec.body func85 rfl results85 ntmps85 rfl<|.sr<|.mo rfl<|.nc rfl<|.fa rfl<|.fa rfl<|.lo rfl<|.mo rfl ?_
 refine .aL i V v (λg6=>?_)
 refine .q (.aT rfl) ?_
 refine .bU (λb4=>?_)
 refine .bP rfl rfl<|.zs<|.sr<|.fa rfl<|.lo rfl<|.q .not<|.zn<|.cond rfl (λh1=>?_) λh1=>?_
 have hf:f=false:=by simpa using h1
 have c3:=a4 hf
 refine .ret (aK (bj _ .none (bz.N8.trans (aQ [4,4,4,0,0,0])) ?_))
 ·refine(b6 _).2 ⟨w,B,C,[],[],[],[],⟨k,f,vn,d,S,Q,t,s,g⟩,?_,λq hq=>(by cases hq),?_,?_,?_,.inl rfl⟩
  ·rw[c3];simp[take,bM]
  ·rw[c3,afK]
   rw[AX v]
  ·rw[afK];exact hA.set v rfl
  ·rw[afK]
   rw[AX v];exact V
 have hf:f=true:=by simpa using h1
 refine .kn<|.sr<|.mo rfl<|.fa rfl<|.q (.loadT rfl)<|.fa rfl<|.lo rfl<|.call [] (f3 _ (h.mono λb o D=>.inl (b5 b o D)) xb va w e (pc:=PC.of (E:=190) (fr:=(0,0)) (.inr (by simp[rest]))) k) (λu H' O=>?_)
 obtain⟨I,Ts,rfl,T,ws,rfl,b3,g2⟩:=O
 have c5:=b3.aB
 conv=>arg 8;simp only[rest,bM,afL,afF]
 refine .mo rfl<|.q .extract<|.q .extract<|.ag rfl<|.ag rfl<|.z<|.ag rfl<|.z ?_
 refine .makeMap (λa1=>?_)
 refine .ag rfl<|.zs<|.sr<|.fa rfl<|.lo rfl<|.q (.bO hn)<|.mo rfl<|.zn<|.block<|.cF [(0,_),(1,_),(4,_),(5,_),(8,_),(36,_),(37,_)] (X:=Nat×List aZ×Value×ax×ax×Value×List fW×ax×ax×List (Int×Bool)×ax) (λy=>y.1<=d.length/\BS x A ps va k (d.take y.1) (.map (some a1)) y.2.1 y.2.2.1 y.2.2.2.1 y.2.2.2.2.1 y.2.2.2.2.2.1 y.2.2.2.2.2.2.1 y.2.2.2.2.2.2.2.1 y.2.2.2.2.2.2.2.2.1 y.2.2.2.2.2.2.2.2.2.1 y.2.2.2.2.2.2.2.2.2.2) (λy E=>(38,iN y.1)::(7,y.2.2.2.2.2.1)::E) (G:=[I,bl b4 (aZ.enc ⟨k,f,vn,d,S,Q,t,s,g⟩) 95]) (λy G=>x.iG xb va y.2.2.1 e::y.2.2.2.1::y.2.2.2.2.1::y.2.2.2.2.2.2.2.1::y.2.2.2.2.2.2.2.2.1::y.2.2.2.2.2.2.2.2.2.2::G) (λy=>d.length-y.1) (0,ps,w,B,C,sZ,[],[],[],[],[(a1,.map #[] 0)]) ⟨afv _,⟨rfl,hA,V,⟨[],by simp,λq hq=>(by cases hq)⟩,OS.nil,λq hq=>(by cases hq),rfl,MS.nil,rfl⟩⟩ kE.c.c.c.c.c.c.c.c.c (bz.iK.trans (aQ [6,6,6,0,0,0,0,1])) ?_
 rintro⟨j,Y,c7,a7,d0,vL,L,U,H,M,Tm⟩ ⟨hj,a⟩
 simp only at hj a⊢
 have c6:=a.le.aB
 have g0:L.length<=j:=by
  have h9:=afD List.length a.ll
  have h8:=(tq (c:=x.c.plain) (num:=x.num) (sub:=x.sub) k (d.take j) (ps.map aZ.plain)).1
  rw[afy]at h9
  rw[afG]at h8
  omega
 refine .sr<|.q .lss<|.zs<|.cond rfl (λh2=>?_) λh2=>?_
 have b7:j<d.length:=cy h2
 obtain⟨n,c2⟩:=bW b7
 have a0:=f5 j n c2
 have c0:=e3 (j+1)
 have e4:(dJ x.c.plain x.num (Y.map aZ.plain) (ei x.c.plain x.sub k n)).1.length<=3000000:=by
  rw[a.eq]
  rw[a0]at c0
  exact afI c0 b9
 refine .kn<|.seq<|.block<|.sr ?_
 refine .bG j hn c2 (λg7=>?_)
 refine .q (.aT rfl) ?_
 refine .bU (λd1=>?_)
 refine .bP rfl rfl<|.z<|.mo rfl<|.q (.aT rfl)<|.q (.aT rfl)<|.call [1,1,1] ((e6 Y e va c7 a7 d0 a.at_ a.o k [.bool f,vn,S,t,iN g] n (ie:=⟨λu O=>f7.h u (by simp only[aZ.enc];simp only[afN,afQ,afR]at O⊢;simp[O])⟩) e4 rfl).weaken λb o D=>.inl (b5 b o D)) (λu H' O=>?_)
 obtain⟨f8,c8,a8,b0,Tl,rfl,J⟩:=O
 have iu:=J.l.aB
 have N:=J.l
 conv=>arg 8;simp only[rest,bM,afL,afF]
 obtain⟨r,a6⟩:∃r,r=(dJ x.c.plain x.num (Y.map aZ.plain) (ei x.c.plain x.sub k n)).2:=⟨_,rfl⟩
 rw[<-a6]at N
 have g3:=N.le
 refine .ag rfl<|.zs<|.sr<|.mo rfl<|.q (.ep N)<|.mo rfl<|.zn<|.block<|.cF [(0,_),(1,_),(4,_),(5,_),(7,_),(8,_),(11,_),(36,_),(37,_),(38,_),(46,_),(47,_)] (X:=Nat×List (Int×Bool)×ax) (λy=>y.1<=r.length/\MS kI Value.bool (.map (some a1)) y.2.1 y.2.2/\y.2.1.map (·.1)=(kV (kV [] (dq x.c.plain x.num x.sub k (ps.map aZ.plain) (d.take j)).2.flatten) (r.take y.1)).map λn:Nat=>(n:Int)) (λy E=>(48,iN y.1)::E) (G:=[Tl,x.iG xb va c8 e,a8,b0,bl d1 n.enc 199,U,H,I,bl b4 (aZ.enc ⟨k,f,vn,d,S,Q,t,s,g⟩) 95]) (λy G=>y.2.2::G) (λy=>r.length-y.1) (0,M,Tm) ⟨afv _,a.ms,a.zI⟩ kE.c.c.c.c.c.c.c.c.c.c.c.c.c (aQ [7,0,0,0,0,0,0,0,0,0]) ?_
 rintro⟨m,M2,c9⟩ ⟨hm,a2,Z⟩
 simp only at hm a2 Z⊢
 refine .sr<|.q .lss<|.zs<|.cond rfl (λh3=>?_) λh3=>?_
 have c1:m<r.length:=cy h3
 obtain⟨to,c4⟩:=bW c1
 have f4:=Qb c4 (kV [] (dq x.c.plain x.num x.sub k (ps.map aZ.plain) (d.take j)).2.flatten)
 refine .kn<|.seq<|.block<|.sr ?_
 refine .aL m N c4 (λg8=>?_)
 refine .lo rfl<|.az rfl<|.region<|.mo rfl<|.mo rfl<|.update (key:=(to:Int)) (u:=true) a2 rfl rfl rfl (λT2 d7 _=>?_)
 have b8:=NR Z true to
 rw[<-f4]at b8
 refine .nil<|aX<|aw<|.region<|.ia (m+1) .add<|.mo rfl<|.nil ?_
 ·exact bm (m+1,dH (to:Int) true M2,T2) ⟨c1,d7,b8⟩ (by simp only;omega) kE.c.c.c.c.c.c.c.c.c.c.c.c.c rH
 have e8:m=r.length:=by have:=bF h3;omega
 rw[e8,afE]at Z
 obtain⟨pu,cu,rfl,_⟩:=N.shape
 refine .exit<|bo<|bs<|bp<|aw<|.region<|.mo rfl<|.mo rfl ?_
 refine .ki (λf9=>?_)
 refine .append a.le (RS.lits (xs:=[((.slice pu r.length cu,r):fW)]) rfl (by simp[eo]) (by simp[eo,aB])) (by simp only[afB];omega) (λv5 T5 f6=>?_)
 refine .ag rfl<|.nil<|aX<|aw<|.region<|.ia (j+1) .add<|.mo rfl<|.nil ?_
 ·exact bm (j+1,f8,c8,a8,b0,v5,L++[(.slice pu r.length cu,r)],T5,Tl++H,M2,c9) ⟨b7,⟨by rw[a0,J.eq,a.eq],J.at_,J.o,by
   obtain⟨l1,d2,d3⟩:=a.gr
   obtain⟨l2,d4,d5⟩:=J.gr
   refine⟨l1++l2,by rw[d4,d2,afV],λq hq=>?_⟩
   rcases afH.1 hq with hq|hq
   ·exact d3 q hq
   ·exact d5 q hq,f6,λq hq=>by
   rcases afH.1 hq with hq|hq
   ·exact(a.rows q hq).mono λb o D=>gS D
   ·rw[afA]at hq
    subst hq
    exact N.sg.mono λb o D=>iM D,by rw[a0,afz,a.ll,a6,a.eq];rfl,a2,by rw[a0,List.flatten_append,AS,Z,a6,a.eq];simp⟩⟩ (by simp only;omega) kE.c.c.c.c.c.c.c.c.c ((aQ [3,3,3,4,2,3,1,2,2]).trans (bz.eS (by simp[take,bM])))
 have e1:j=d.length:=by have:=bF h2;omega
 rw[e1,afE]at a
 have K:Y[i]? =some ⟨k,f,vn,d,S,Q,t,s,g⟩:=by
  obtain⟨l,F,_⟩:=a.gr
  rw[F,List.getElem?_append_left e0,v]
 obtain⟨a9,d9⟩:=a.o.Ci K
 have b1:M.length=kQ (dq x.c.plain x.num x.sub k (ps.map aZ.plain) d).2.flatten:=by
  have:=afD List.length a.zI
  rw[afy,afy]at this
  exact this
 have g1:M.length<=3000000:=by
  rw[b1]
  refine afI (N1 (n:=(dq x.c.plain x.num x.sub k (ps.map aZ.plain) d).1.length) λy hy=>?_) b9
  obtain⟨l,F,hy⟩:=List.mem_flatten.1 hy
  exact e7 l F y hy
 refine .exit<|bo<|bs<|bp<|aw<|.seq<|.cS [16,19] mixed<|.tO 0 rfl .move<|.tO 1 rfl (.nilCheck rfl)<|.tO 2 rfl (.fieldAddr rfl)<|.tO 3 rfl (.fieldAddr rfl)<|.tO 4 rfl (.cm rfl)<|.tO 5 rfl .move<|.tO 6 rfl .move<|.tO 7 rfl (.nilCheck rfl)<|.tO 8 rfl (.fieldAddr rfl)<|.tO 9 rfl (.fieldAddr rfl)<|.tO 10 rfl (.cm rfl)<|.tK 11 rfl .move<|.tO 12 rfl .move<|.tK 13 rfl .move ?_
 refine RA.aL 14 rfl i a.o K rfl rfl rfl (by kernel_rfl) (λg9=>?_)
 refine .tO 15 rfl (.fieldAddr rfl)<|.sT 16 rfl<|.qU (k:=5) (cs:=[T]) (z':=(⟨k,f,vn,d,T,ka x.c.plain x.sub k,t,s,g⟩:aZ)) i a.o K rfl rfl rfl (oQ c5.h) rfl (by simpa using c5.h) rfl (by simp) (λTd d8=>?_)
 have f2:(Y.set i (⟨k,f,vn,d,T,ka x.c.plain x.sub k,t,s,g⟩:aZ))[i]? =some ⟨k,f,vn,d,T,ka x.c.plain x.sub k,t,s,g⟩:=by rw[List.getElem?_set_self (afM.1 K).1]
 refine .nil (Next.mod rfl ?_)
 refine RA.aL 17 rfl i a.o K rfl rfl rfl (by kernel_rfl) (λh0=>?_)
 refine .tK 18 rfl (.fG rfl d9)<|.sT 19 rfl<|.qU (k:=6) (cs:=[vL]) (z':=(⟨k,f,vn,d,T,ka x.c.plain x.sub k,vL,L,g⟩:aZ)) i d8 f2 rfl rfl rfl (oQ c6.h) rfl (by simpa using c6.h) rfl (by simp) (λTe b2=>?_)
 rw[List.set_set]at b2
 refine .nil<|Next.mod rfl<|RA.nil (by kernel_rfl)<|aw<|.dm 11 mixed (by kernel_rfl) ?_
 conv=>arg 6;dsimp only[List.take]
 refine .mo rfl<|.nc rfl<|.fa rfl<|.fa rfl<|.lo rfl<|.mo rfl<|.q (.zl a.ms.rx rfl) ?_
 refine .ia (e+M.length) .add ?_
 refine .nc rfl<|.fa rfl<|.fa rfl<|.nil<|.dz rfl rfl<|.nil<|fS _ .none (aQ [0,0,0,0,0,1]) ?_
 ·obtain⟨l,F,e2⟩:=a.gr
  refine(b6 _).2 ⟨c7,a7,Te,U,H,I,l,⟨k,f,vn,d,T,ka x.c.plain x.sub k,vL,L,g⟩,?_,e2,?_,?_,?_,.inr ⟨rfl,rfl,b3.sg,a.le.sg,a.rows⟩⟩
  ·rw[W, <-b1];simp[take,bM];rfl
  ·rw[W, <-F,List.map_set,a.eq]
   simp only[hf,if_true]
   rw[<-a.ll]
   rfl
  ·rw[<-F];exact a.at_.set K rfl
  ·rw[<-F];exact b2
end Go.Proofs.YtdljmchhecoakaaGreat

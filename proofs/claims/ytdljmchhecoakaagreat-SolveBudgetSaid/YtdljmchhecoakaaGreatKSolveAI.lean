/- What the law 'SolveA' uses. No condition. -/
import Derived.Test.YtdljmchhecoakaaGreatKSolveAB
import Derived.Test.YtdljmchhecoakaaGreatKSolveAF
import Derived.Test.YtdljmchhecoakaaGreatKSolveAH
namespace Go.Proofs.YtdljmchhecoakaaGreat
open Tryz (prog)
set_option linter.unusedVariables false
set_option linter.unusedSimpArgs false
set_option maxRecDepth 4000
structure fJ where
 kind:Int
 wm:Value
 wn:Value
 wc:Value
 f:aC
 rev:Int
 bF:List aC
 no:List aC
 cs:List cC
def fJ.enc(c:fJ):List Value:=[.int .i64 c.kind,c.wm,c.wn,c.wc]++c.f.enc++[.int .u64 c.rev]
structure fJ.is(R:aD)(c:fJ):Prop where
 hm:RS R 7 aC.enc c.wm c.bF
 hn:RS R 7 aC.enc c.wn c.no
 hc:RS R 8 cC.enc c.wc c.cs
 fm:∀t∈c.bF,t.fits
 fn:∀t∈c.no,t.fits
 fc:∀d∈c.cs,d.t.fits
 r0:0<=c.rev
 r1:c.rev<=18446744073709551615
def fJ.ig(c:fJ):Prop:=c.bF.length<=34/\c.no.length<=34/\c.cs.length<=34
theorem fJ.is.cJ{R:aD}{c:fJ}(h:c.is R):bZ c.enc:=⟨by
 obtain⟨i,e,a⟩:=h.hm.val
 obtain⟨j,f,b⟩:=h.hn.val
 obtain⟨k,g,d⟩:=h.hc.val
 simp[fJ.enc,aC.enc,a,b,d,ap]⟩
theorem NL(v:Value)(cs:List fJ)(n:Nat)(hn:n<=1000)(R j:aD)(h:RS R 12 fJ.enc v cs)(hD:∀c∈cs,c.is j):
  Spec prog 18 [v,iN n] R [] λu H'=>∃T,H'=[T]/\∃ds,OS 51 12 fJ.enc u ds T/\(∀d∈ds,d.is j/\d.ig)/\ds.length=min cs.length n:=by
 have hl:=h.le
 obtain⟨pv,Z,rfl⟩:=h.val
 refine Spec.gO (H':=[[]]) (by simp) ?_
 refine Spec.body Tryz.func18 rfl Tryz.results18 Tryz.ntmps18 rfl ?_
 refine .sr<|.ag rfl<|.z<|.ag rfl<|.zs<|.sr<|.az rfl<|.block ?_
 refine .loop (X:=Nat×List fJ×Value×aB) (λy=>(y.1<=cs.length/\y.1<=n/\y.2.1.length=y.1)/\OS 51 12 fJ.enc y.2.2.1 y.2.1 y.2.2.2/\∀d∈y.2.1,d.is j/\d.ig) (λy=>[(0,.slice pv cs.length Z),(1,iN n),(5,y.2.2.1),(6,iN y.1)]) (λy=>[y.2.2.2]) (λy=>cs.length-y.1) (0,[],sZ,[]) ⟨⟨Nat.zero_le _,Nat.zero_le _,rfl⟩,OS.nil,by simp⟩ kE.c.c.c.c rH ?_
 rintro⟨i,ds,vo,J⟩ ⟨⟨hi,a5,a2⟩,K,Y⟩
 simp only at hi a5 a2 K Y⊢
 have io:=K.ap
 refine .seq<|.sr<|.mo rfl<|.mo rfl<|.q (.bJ h) ?_
 refine .q .lss<|.mo rfl ?_
 refine .split (t:=12) rfl (λA=>?_) (λA=>?_)
 refine .gT A<|.mo rfl<|.gT A<|.mo rfl<|.gT A<|.q .lss<|.q (.aO A) ?_
 refine .zn ?_
 refine .cond rfl (λh1=>?_) λh1=>?_
 have a0:i<cs.length/\i<n:=by simp_all
 obtain⟨c,hc⟩:∃c,cs[i]? =some c:=⟨_,bu a0.1⟩
 have a:=hD c (aZ hc)
 have a7:=a.cJ
 refine .kn<|.seq<|.block<|.sr<|.mo rfl<|.mo rfl ?_
 refine .bC i h hc (λa8=>?_)
 obtain⟨s,Q,S,O,f,w,b,e,g⟩:=c
 have l:RS j 7 aC.enc Q b:=a.hm
 have m:RS j 7 aC.enc S e:=a.hn
 have k:RS j 8 cC.enc O g:=a.hc
 obtain⟨F,C,rfl⟩:=l.val
 obtain⟨G,D,rfl⟩:=m.val
 obtain⟨E,B,rfl⟩:=k.val
 have N:bZ (fJ.enc ⟨s,.slice F b.length C,.slice G e.length D,.slice E g.length B,f,w,b,e,g⟩):=a.cJ
 refine .q (.aL rfl) ?_
 refine .bN (λI=>?_)
 refine .bH rfl rfl<|.zs<|.sr<|.fa rfl<|.lo rfl<|.q (.bJ l) ?_
 refine .q .gtr<|.zn ?_
 refine bx.cut (X:=fJ) (λd=>d.is j/\d.bF.length<=34) (λd=>[(0,.slice pv cs.length Z),(1,iN n),(5,vo),(6,iN i),(7,pT I)]) (λd=>[bl I d.enc 51,J]) ?_ ?_
 refine .cond rfl (λU=>?_) λU=>?_
 refine .region<|.fa rfl<|.lo rfl ?_
 refine .nu (R':=j) 0 34 l rfl ⟨_,rfl⟩ (by omega) (by have:=cm U;first|omega|(simp only at this;omega)) (λH r=>?_)
 have a3:=r.ap
 refine .fa rfl<|.dw rfl rfl<|.nil ?_
 ·first
   |exact ay ⟨s,H,.slice G e.length D,.slice E g.length B,f,w,(b.drop 0).take (34-0),e,g⟩ ⟨⟨r,m,k,λt p=>a.fm t (List.mem_of_mem_drop (List.mem_of_mem_take p)),a.fn,a.fc,a.r0,a.r1⟩,by simp;omega⟩ kE.c.c.c.c.c rH
   |exact ay _ ⟨a,by have:=bA U;first|omega|(simp only at this;omega)|(simp only;omega)⟩ kE.c.c.c.c.c rH
 refine .skip ?_
 ·first
   |exact ay ⟨s,H,.slice G e.length D,.slice E g.length B,f,w,(b.drop 0).take (34-0),e,g⟩ ⟨⟨r,m,k,λt p=>a.fm t (List.mem_of_mem_drop (List.mem_of_mem_take p)),a.fn,a.fc,a.r0,a.r1⟩,by simp;omega⟩ kE.c.c.c.c.c rH
   |exact ay _ ⟨a,by have:=bA U;first|omega|(simp only at this;omega)|(simp only;omega)⟩ kE.c.c.c.c.c rH
 intro x M
 clear N l m k a
 obtain⟨a,o⟩:=M
 obtain⟨s,Q,S,O,f,w,b,e,g⟩:=x
 have l:RS j 7 aC.enc Q b:=a.hm
 have m:RS j 7 aC.enc S e:=a.hn
 have k:RS j 8 cC.enc O g:=a.hc
 obtain⟨F,C,rfl⟩:=l.val
 obtain⟨G,D,rfl⟩:=m.val
 obtain⟨E,B,rfl⟩:=k.val
 have N:bZ (fJ.enc ⟨s,.slice F b.length C,.slice G e.length D,.slice E g.length B,f,w,b,e,g⟩):=a.cJ
 refine ax<|.seq<|.sr<|.fa rfl<|.lo rfl<|.q (.bJ m) ?_
 refine .q .gtr<|.zn ?_
 refine bx.cut (X:=fJ) (λd=>d.is j/\d.bF.length<=34/\d.no.length<=34) (λd=>[(0,.slice pv cs.length Z),(1,iN n),(5,vo),(6,iN i),(7,pT I)]) (λd=>[bl I d.enc 51,J]) ?_ ?_
 refine .cond rfl (λV=>?_) λV=>?_
 refine .region<|.fa rfl<|.lo rfl ?_
 refine .nu (R':=j) 0 34 m rfl ⟨_,rfl⟩ (by omega) (by have:=cm V;first|omega|(simp only at this;omega)) (λH r=>?_)
 have a3:=r.ap
 refine .fa rfl<|.dw rfl rfl<|.nil ?_
 ·first
   |exact ay ⟨s,.slice F b.length C,H,.slice E g.length B,f,w,b,(e.drop 0).take (34-0),g⟩ ⟨⟨l,r,k,a.fm,λt p=>a.fn t (List.mem_of_mem_drop (List.mem_of_mem_take p)),a.fc,a.r0,a.r1⟩,o,by simp;omega⟩ kE.c.c.c.c.c rH
   |exact ay _ ⟨a,o,by have:=bA V;first|omega|(simp only at this;omega)|(simp only;omega)⟩ kE.c.c.c.c.c rH
 refine .skip ?_
 ·first
   |exact ay ⟨s,.slice F b.length C,H,.slice E g.length B,f,w,b,(e.drop 0).take (34-0),g⟩ ⟨⟨l,r,k,a.fm,λt p=>a.fn t (List.mem_of_mem_drop (List.mem_of_mem_take p)),a.fc,a.r0,a.r1⟩,o,by simp;omega⟩ kE.c.c.c.c.c rH
   |exact ay _ ⟨a,o,by have:=bA V;first|omega|(simp only at this;omega)|(simp only;omega)⟩ kE.c.c.c.c.c rH
 intro x M
 clear N l m k a o
 obtain⟨a,o,L⟩:=M
 obtain⟨s,Q,S,O,f,w,b,e,g⟩:=x
 have l:RS j 7 aC.enc Q b:=a.hm
 have m:RS j 7 aC.enc S e:=a.hn
 have k:RS j 8 cC.enc O g:=a.hc
 obtain⟨F,C,rfl⟩:=l.val
 obtain⟨G,D,rfl⟩:=m.val
 obtain⟨E,B,rfl⟩:=k.val
 have N:bZ (fJ.enc ⟨s,.slice F b.length C,.slice G e.length D,.slice E g.length B,f,w,b,e,g⟩):=a.cJ
 refine ax<|.seq<|.sr<|.fa rfl<|.lo rfl<|.q (.bJ k) ?_
 refine .q .gtr<|.zn ?_
 refine bx.cut (X:=fJ) (λd=>d.is j/\d.ig) (λd=>[(0,.slice pv cs.length Z),(1,iN n),(5,vo),(6,iN i),(7,pT I)]) (λd=>[bl I d.enc 51,J]) ?_ ?_
 refine .cond rfl (λW=>?_) λW=>?_
 refine .region<|.fa rfl<|.lo rfl ?_
 refine .nu (R':=j) 0 34 k rfl ⟨_,rfl⟩ (by omega) (by have:=cm W;first|omega|(simp only at this;omega)) (λH r=>?_)
 have a3:=r.ap
 refine .fa rfl<|.dw rfl rfl<|.nil ?_
 ·first
   |exact ay ⟨s,.slice F b.length C,.slice G e.length D,H,f,w,b,e,(g.drop 0).take (34-0)⟩ ⟨⟨l,m,r,a.fm,a.fn,λt p=>a.fc t (List.mem_of_mem_drop (List.mem_of_mem_take p)),a.r0,a.r1⟩,o,L,by simp;omega⟩ kE.c.c.c.c.c rH
   |exact ay _ ⟨a,o,L,by have:=bA W;first|omega|(simp only at this;omega)|(simp only;omega)⟩ kE.c.c.c.c.c rH
 refine .skip ?_
 ·first
   |exact ay ⟨s,.slice F b.length C,.slice G e.length D,H,f,w,b,e,(g.drop 0).take (34-0)⟩ ⟨⟨l,m,r,a.fm,a.fn,λt p=>a.fc t (List.mem_of_mem_drop (List.mem_of_mem_take p)),a.r0,a.r1⟩,o,L,by simp;omega⟩ kE.c.c.c.c.c rH
   |exact ay _ ⟨a,o,L,by have:=bA W;first|omega|(simp only at this;omega)|(simp only;omega)⟩ kE.c.c.c.c.c rH
 intro x M
 clear N l m k a o L
 obtain⟨a,a4⟩:=M
 have ix:=a.cJ
 refine ax<|.region<|.mo rfl<|.q (.aL rfl) ?_
 refine .dM (λa6=>?_)
 refine .append K (RS.lits (xs:=[x]) rfl (by simp[fJ.enc,aC.enc]) (by have:=ix.h;simpa using this)) (by simp;omega) (λv7 T7 a1=>?_)
 have i7:=a1.ap
 refine .ag rfl<|.nil<|bf<|ax<|.region<|.mo rfl ?_
 refine .ia (i+1) .add ?_
 refine .ag rfl<|.nil ?_
 ·exact aP (i+1,ds++[x],v7,T7) ⟨⟨a0.1,a0.2,by simp[a2]⟩,a1,λd hd=>by
   rcases List.mem_append.1 hd with hd|hd
   ·exact Y d hd
   ·simp only[List.mem_singleton]at hd
    subst hd
    exact⟨a,a4⟩⟩ (by simp only;omega) kE.c.c.c.c (aH [2])
 refine .exit<|bq<|bz<|bs<|ax<|.sr<|.mo rfl<|.az rfl ?_
 refine .ret (bk _ (.one (.tmp rfl)) (.one [0] _) ?_)
 ·refine⟨J,by simp[take],ds,K,Y,?_⟩
  simp_all
  omega
 refine .gF A<|.gF A<|.gF A<|.q (.aN A) ?_
 refine .zn<|.cS<|.exit<|bq<|bz<|bs<|ax<|.sr<|.mo rfl<|.az rfl ?_
 refine .ret (bk _ (.one (.tmp rfl)) (.one [0] _) ?_)
 ·refine⟨J,by simp[take],ds,K,Y,?_⟩
  simp_all
  omega
section
variable{c:Cf}{num:List Nat}{sub:bc->List Sub}{k:bc}
theorem A2:∀i,(∀j,j<i->j<(opened c num sub k j).1.length)->(opened c num sub k i).2=dC (((opened c num sub k i).1.take i).map λp=>kO p.leads.flatten)
 |0,_=>rfl
 |i+1,hlt=>by
  have n:=A2 i λj o=>hlt j (by omega)
  have d:=hlt i (by omega)
  obtain⟨a,b⟩:∃a,a=(opened c num sub k i).1:=⟨_,rfl⟩
  have f:(opened c num sub k (i+1)).1=(eJ c num sub a i).1:=by rw[b];rfl
  have g:(opened c num sub k (i+1)).2=(opened c num sub k i).2+(eJ c num sub a i).2:=by rw[b];rfl
  rw[f,g,n, <-b]
  rw[<-b]at d
  obtain⟨p,m⟩:=bR d
  unfold eJ
  simp only[m]
  obtain⟨⟨l,e,_⟩,_⟩:=lK (c:=c) (num:=num) (sub:=sub) p.k p.nodes a
  have h:∀q:bQ,(((dj c num sub p.k a p.nodes).1.set i q).take (i+1))=a.take i++[q]:=λq=>by
   rw[List.take_add_one]
   congr 1
   ·refine List.ext_getElem? λj=>?_
    rw[List.getElem?_take,List.getElem?_take]
    split
    ·rw[List.getElem?_set_ne (by omega),e,List.getElem?_append_left (by omega)]
    ·rfl
   ·rw[List.getElem?_set_self (by rw[e];simp;omega)]
    rfl
  rw[h,List.map_append,tD]
  simp[dC]
def fL(ps:List bQ)(j:Nat):List Nat:=(List.range ps.length).filter λi=>((ps[i]?).map λp=>decide (j∈p.leads.flatten)).getD false
theorem O0{l:List Nat}{n:Nat}(h:∀x∈l,x<n):kO l=(List.range n).countP λj=>decide (j∈l):=by
 obtain⟨c,b⟩:=rE l [] List.nodup_nil
 rw[List.countP_eq_length_filter]
 refine Nat.le_antisymm ?_ ?_
 ·exact ph c λx a=>List.mem_filter.2 ⟨List.mem_range.2 (h x (((b x).1 a).resolve_left (by simp))),by simpa using((b x).1 a).resolve_left (by simp)⟩
 ·refine ph (List.nodup_range.filter _) λx a=>?_
  have:=(List.mem_filter.1 a).2
  exact(b x).2 (.inr (by simpa using this))
theorem OG(f:Nat->Nat)(ps:List bQ)(g:bQ->Nat)(h:∀i p,ps[i]? =some p->f i=g p):dC ((List.range ps.length).map f)=dC (ps.map g):=by
 congr 1
 refine List.ext_getElem? λi=>?_
 rw[List.getElem?_map,List.getElem?_map]
 by_cases a:i<ps.length
 ·rw[List.getElem?_range a,bu a,Option.map_some,Option.map_some,h i _ (bu a)]
 ·rw[List.getElem?_eq_none (by simpa using a),List.getElem?_eq_none (by omega)]
  rfl
theorem Di{ps:List bQ}(h:∀p∈ps,∀x∈p.leads.flatten,x<ps.length):dC ((List.range ps.length).map λj=>(fL ps j).length)=dC (ps.map λp=>kO p.leads.flatten):=by
 have b:∀j,(fL ps j).length=(List.range ps.length).countP λi=>((ps[i]?).map λp=>decide (j∈p.leads.flatten)).getD false:=λj=>by
  unfold fL;rw[List.countP_eq_length_filter]
 simp only[b]
 rw[tE (λ(j i:Nat)=>((ps[i]?).map λp=>decide (j∈p.leads.flatten)).getD false) (List.range ps.length) (List.range ps.length)]
 refine OG _ ps _ λi p a=>?_
 rw[O0 (h p (aZ a))]
 simp only[a,Option.map_some,Option.getD_some]
end
def pZ(n:Nat)(b:Nat->Nat)(v:Nat->Bool):Nat:=dC ((List.range n).map λj=>if v j then b j else 0)
theorem Ax(b:Nat->Nat)(i:Nat):∀n,dC ((List.range n).map λj=>if j=i then b j else 0)=if i<n then b i else 0
 |0=>rfl
 |n+1=>by
  rw[List.range_succ,List.map_append,tD,Ax b i n]
  simp only[List.map_cons,List.map_nil,dC,List.foldr_cons,List.foldr_nil,Nat.add_zero]
  by_cases h:n=i
  ·subst h;simp
  ·rw[if_neg h]
   by_cases a:i<n
   ·rw[if_pos a,if_pos (by omega)];rfl
   ·rw[if_neg a,if_neg (by omega)]
theorem Dw{n:Nat}{b:Nat->Nat}{v:Nat->Bool}{i:Nat}(a:i<n)(c:v i=false):pZ n b (λj=>v j||decide (j=i))=pZ n b v+b i:=by
 have h:=Ax b i n
 rw[if_pos a]at h
 unfold pZ
 rw[<-h, <-tC]
 congr 1
 refine List.map_congr_left λj _=>?_
 by_cases e:j=i
 ·subst e;simp[c]
 ·simp[e]
theorem Dx{n:Nat}{b:Nat->Nat}{v:Nat->Bool}:pZ n b v<=dC ((List.range n).map b):=oW λj _=>by split<;>omega
structure kB(W:ByteArray->Bool)(F:ByteArray->ByteArray->Bool)(c:Cf)(num:List Nat):Prop where
 right:c.right W F=true
 dY:c.dY
 ex:∃E,c.gW=some E/\jh E num
 len:num.length=c.all.length
 lt:∀i,num.getD i 0<=c.all.length
theorem AV{W:ByteArray->Bool}{F:ByteArray->ByteArray->Bool}{c:Cf}(h:(c.numbers W F).1=0):∃num,(c.numbers W F).2=rows c.bd num/\kB W F c num:=by
 unfold Cf.numbers at h⊢
 by_cases k:c.right W F=false
 ·rw[if_pos k]at h;cases h
 ·rw[if_neg k]at h⊢
  by_cases l:¬c.dY
  ·rw[if_pos l]at h;cases h
  ·rw[if_neg l]at h⊢
   cases he:c.gW with
   |none=>rw[he]at h;cases h
   |some E=>
    rw[he]at h
    simp only at h⊢
    by_cases g:kF E c.all.length=true
    ·rw[if_pos g]at h⊢
     have b:∀e∈E,e.f<c.all.length:=λe a=>(qX he e a).1
     have d:∀e∈E,e.t<c.all.length:=λe a=>(qX he e a).2
     refine⟨_,rfl,⟨by simpa using k,Decidable.not_not.1 l,⟨E,he,?_⟩,li _,λi=>?_⟩⟩
     ·rcases Nat.eq_zero_or_pos c.all.length with h0|hn
      ·intro e a
       exact absurd (b e a) (by omega)
      ·obtain⟨v,m⟩:=(sQ b d hn).1 g
       obtain⟨n,j,_⟩:=tw b d m hn
       rw[j (c.all.length+1) (by omega)]
       exact n
     ·rcases Nat.eq_zero_or_pos c.all.length with h0|hn
      ·have:(level E c.all.length (c.all.length+1)).length=0:=by rw[li,h0]
       rw[List.length_eq_zero_iff.1 this]
       simp
      ·obtain⟨v,m⟩:=(sQ b d hn).1 g
       obtain⟨_,j,o⟩:=tw b d m hn
       rw[j (c.all.length+1) (by omega)]
       exact Nat.le_of_lt (o i)
    ·rw[if_neg g]at h;cases h
section
variable{W:ByteArray->Bool}{F:ByteArray->ByteArray->Bool}{c:Cf}{num:List Nat}{sub:bc->List Sub}{k:bc}{N:Nat}
theorem kB.O5(h:kB W F c num)(a:fk c num sub k N)(user:ByteArray):(eX (opened c num sub k N).1 user).OK:=by
 obtain⟨E,d,e⟩:=h.ex
 have b:=rG N a.2
 refine O6 d e h.right (sub:=sub) (num:=num) ⟨b.one,λj p g f=>b.op j p (by have:=a.1;omega) f⟩ user
theorem kB.lp(h:kB W F c num)(f:fk c num sub k N)(user:ByteArray):∀i,i<(eX (opened c num sub k N).1 user).n->(eX (opened c num sub k N).1 user).num i<=c.all.length:=λi d=>by
 have b:=rG (c:=c) (num:=num) (sub:=sub) (k:=k) N f.2
 obtain⟨a,g⟩:∃a,a=(opened c num sub k N).1:=⟨_,rfl⟩
 rw[<-g]at b d⊢
 show((a[i]?).map (·.number)).getD 0<=_
 have e:i<a.length:=d
 rw[bu e,Option.map_some,Option.getD_some,(b.one _ (List.getElem_mem e)).2.2]
 unfold one
 split
 ·exact Nat.zero_le _
 ·exact h.lt _
end
abbrev QS:=List Bool×List Bool
def jM(q:List Bool):List Nat:=(List.range q.length).filter λi=>q.getD i false
def fV(ps:List bQ)(i:Nat):Nat:=((ps[i]?).map (·.number)).getD 0
def mU(ps:List bQ)(q:List Bool)(i:Nat):Prop:=q.getD i false=true/\∀j,q.getD j false=true->fV ps i<fV ps j\/(fV ps i=fV ps j/\i<=j)
def gR(v q:List Bool)(k:Nat):List Bool:=if v.getD k false then q else q.set k true
def ue(ps:List bQ)(user:ByteArray)(s:QS)(i:Nat):QS:=
 if s.1.getD i false|| !(eX ps user).ex i (λj=>s.1.getD j false)then(s.1,s.2.set i false)
 else(s.1.set i true,(fL ps i).foldl (gR (s.1.set i true)) (s.2.set i false))
inductive dV(ps:List bQ)(user:ByteArray):Nat->QS->Prop
 |start:dV ps user 0 (List.replicate ps.length false,ps.map (·.found))
 |step {k:Nat} {s:QS} {i:Nat}:dV ps user k s->mU ps s.2 i->dV ps user (k+1) (ue ps user s i)
section
variable{ps:List bQ}{user:ByteArray}
theorem mU.dY{q:List Bool}{i j:Nat}(h:mU ps q i)(a:mU ps q j):i=j:=by
 have b:=h.2 j a.1
 have c:=a.2 i h.1
 omega
theorem dV.dY:∀{k:Nat} {s t:QS},dV ps user k s->dV ps user k t->s=t
 |0,_,_,.start,.start=>rfl
 |k+1,_,_,.step h1 n1,.step h2 n2=>by
  have e:=dV.dY h1 h2
  subst e
  rw[n1.dY n2]
theorem dV.wS{m:Nat}:∀{k:Nat} {s:QS},dV ps user k s->m<k->∃t i,dV ps user m t/\mU ps t.2 i
 |0,_,_,hm=>absurd hm (by omega)
 |k+1,_,.step (i:=i) (s:=s) h n,hm=>by
  by_cases e:m=k
  ·subst e;exact⟨s,i,h,n⟩
  ·exact dV.wS h (by omega)
def jc(q:List Bool):Prop:=∀i,q.getD i false=false
theorem dV.last{k m:Nat}{s t:QS}(h:dV ps user k s)(b:jc s.2)(a:dV ps user m t)(g:jc t.2):k=m/\s=t:=by
 have c:∀{k m:Nat} {s t:QS},dV ps user k s->jc s.2->dV ps user m t->¬k<m:=by
  intro k m s t h b a f
  obtain⟨u,i,j,d⟩:=a.wS f
  have e:=h.dY j
  subst e
  have:=d.1
  rw[b i]at this
  cases this
 have e:k=m:=by
  have l:=c h b a
  have n:=c a g h
  omega
 subst e
 exact⟨rfl,h.dY a⟩
theorem fW{q:List Bool}{i:Nat}:i∈jM q↔q.getD i false=true:=by
 unfold jM
 rw[List.mem_filter,List.mem_range]
 constructor
 ·exact λh=>h.2
 ·intro h
  refine⟨?_,h⟩
  rcases Nat.lt_or_ge i q.length with h1|h1
  ·exact h1
  ·rw[List.getD_eq_getElem?_getD,List.getElem?_eq_none h1]at h;cases h
theorem Pa{q:List Bool}(h:¬jc q):∃i,mU ps q i:=by
 have g:∀(l:List Nat),l≠[]->∃i∈l,∀j∈l,fV ps i<fV ps j\/(fV ps i=fV ps j/\i<=j):=by
  intro l
  induction l with
  |nil=>exact λh=>absurd rfl h
  |cons x l ih=>
   intro _
   by_cases c:l=[]
   ·subst c
    exact⟨x,List.mem_cons_self,λj hj=>by rw[List.mem_singleton]at hj;subst hj;exact .inr ⟨rfl,Nat.le_refl _⟩⟩
   ·obtain⟨i,b,a⟩:=ih c
    by_cases f:fV ps i<fV ps x\/(fV ps i=fV ps x/\i<=x)
    ·refine⟨i,List.mem_cons_of_mem _ b,λj hj=>?_⟩
     rcases List.mem_cons.1 hj with rfl|hj
     ·exact f
     ·exact a j hj
    ·refine⟨x,List.mem_cons_self,λj hj=>?_⟩
     rcases List.mem_cons.1 hj with rfl|hj
     ·exact .inr ⟨rfl,Nat.le_refl _⟩
     ·have:=a j hj;omega
 have d:jM q≠[]:=by
  intro e
  refine h λi=>?_
  cases hq:q.getD i false with
  |false=>rfl
  |true=>
   have:=fW.2 hq
   rw[e]at this
   cases this
 obtain⟨i,b,a⟩:=g _ d
 exact⟨i,fW.1 b,λj hj=>a j (fW.2 hj)⟩
theorem pY(l:List Bool)(i j:Nat)(x:Bool)(h:i<l.length):(l.set i x).getD j false=if i=j then x else l.getD j false:=by
 rw[List.getD_eq_getElem?_getD,List.getElem?_set,List.getD_eq_getElem?_getD]
 split
 ·rename_i e;subst e;simp
 ·rfl
theorem xA(v:List Bool):∀(l:List Nat) (q:List Bool),(l.foldl (gR v) q).length=q.length
 |[],_=>rfl
 |k::l,q=>by
  rw[List.foldl_cons,xA v l,gR]
  split
  ·rfl
  ·exact List.length_set
theorem CH(v:List Bool)(x:Nat):∀(l:List Nat) (q:List Bool),(∀k∈l,k<q.length)->((l.foldl (gR v) q).getD x false=true↔q.getD x false=true\/(x∈l/\v.getD x false=false))
 |[],q,_=>by simp
 |k::l,q,h=>by
  have c:k<q.length:=h k List.mem_cons_self
  have d:(gR v q k).length=q.length:=by unfold gR;split<;>simp
  rw[List.foldl_cons,CH v x l _ (λy f=>by rw[d];exact h y (List.mem_cons_of_mem _ f)),List.mem_cons]
  have e:(gR v q k).getD x false=true↔q.getD x false=true\/(x=k/\v.getD x false=false):=by
   unfold gR
   by_cases b:v.getD k false=true
   ·rw[if_pos b]
    constructor
    ·exact .inl
    ·rintro(h1|⟨rfl,h1⟩)
     ·exact h1
     ·rw[b]at h1;cases h1
   ·rw[if_neg b,pY _ _ _ _ c]
    by_cases e:k=x
    ·subst e
     rw[if_pos rfl]
     exact⟨λ_=>.inr ⟨rfl,by simpa using b⟩,λ_=>rfl⟩
    ·rw[if_neg e]
     exact⟨.inl,λh1=>h1.elim id λa=>absurd a.1.symm e⟩
  rw[e]
  constructor
  ·rintro((h1|h1)|h1)
   ·exact .inl h1
   ·exact .inr ⟨.inl h1.1,h1.2⟩
   ·exact .inr ⟨.inr h1.1,h1.2⟩
  ·rintro(h1|⟨h1|h1,a⟩)
   ·exact .inl (.inl h1)
   ·exact .inl (.inr ⟨h1,a⟩)
   ·exact .inr ⟨h1,a⟩
theorem Pn(q:List Bool)(k:Nat):dO (q.set k true)<=dO q+1/\dO q<=dO (q.set k true):=by
 rcases Nat.lt_or_ge k q.length with h|h
 ·cases hq:q.getD k false with
  |false=>rw[wE q k h hq];omega
  |true=>
   have:q.set k true=q:=by
    refine List.ext_getElem? λi=>?_
    rw[List.getElem?_set]
    split
    ·rename_i e;subst e
     rw[List.getD_eq_getElem?_getD,bu h,Option.getD_some]at hq
     simp[h,hq]
    ·rfl
   rw[this];omega
 ·rw[List.set_eq_of_length_le h];omega
theorem CI(v:List Bool):∀(l:List Nat) (q:List Bool),dO (l.foldl (gR v) q)<=dO q+l.length/\dO q<=dO (l.foldl (gR v) q)
 |[],q=>⟨Nat.le_refl _,Nat.le_refl _⟩
 |k::l,q=>by
  rw[List.foldl_cons]
  have b:=CI v l (gR v q k)
  have a:dO (gR v q k)<=dO q+1/\dO q<=dO (gR v q k):=by
   unfold gR
   split
   ·omega
   ·exact Pn q k
  rw[List.length_cons]
  omega
theorem AT:∀(q:List Bool) (i:Nat),q.getD i false=true->dO (q.set i false)+1=dO q
 |[],i,h=>by simp at h
 |b::q,0,h=>by
  have:b=true:=by simpa using h
  subst this
  simp[dO]
 |b::q,i+1,h=>by
  have a:=AT q i (by simpa using h)
  unfold dO at a⊢
  rw[List.set_cons_succ,List.countP_cons,List.countP_cons]
  omega
theorem AU{q:List Bool}:dO q=0↔jc q:=by
 unfold dO jc
 rw[List.countP_eq_zero]
 constructor
 ·intro h i
  rw[List.getD_eq_getElem?_getD]
  cases hq:q[i]? with
  |none=>rfl
  |some b=>have:=h b (aZ hq);simpa using this
 ·intro h b c a
  obtain⟨i,d,e⟩:=List.mem_iff_getElem.1 c
  have:=h i
  rw[List.getD_eq_getElem?_getD,bu d,e]at this
  simp only[Option.getD_some]at this
  rw[this]at a
  cases a
structure kg(ps:List bQ)(user:ByteArray):Prop where
 ok:(eX ps user).OK
 lt:∀p∈ps,∀x∈p.leads.flatten,x<ps.length
 nf:∀p∈ps,p.found=false->p.leads=[]
 ln:∀p∈ps,p.leads.length=p.nodes.length
theorem AB{i j:Nat}:i∈fL ps j↔∃p,ps[i]? =some p/\j∈p.leads.flatten:=by
 unfold fL
 rw[List.mem_filter,List.mem_range]
 constructor
 ·rintro⟨a,b⟩
  rw[bu a,Option.map_some,Option.getD_some]at b
  exact⟨_,bu a,cm b⟩
 ·rintro⟨p,a,b⟩
  refine⟨(List.getElem?_eq_some_iff.1 a).1,?_⟩
  rw[a]
  simpa using b
theorem kg.back(h:kg ps user){i j:Nat}:i∈fL ps j↔(eX ps user).to i j:=by
 rw[AB]
 constructor
 ·rintro⟨p,c,d⟩
  obtain⟨l,b,k⟩:=List.mem_flatten.1 d
  obtain⟨e,f,m⟩:=List.mem_iff_getElem.1 b
  have g:e<p.nodes.length:=by rw[<-h.ln p (aZ c)];exact f
  refine⟨p,c,e,p.nodes[e],bu g,?_⟩
  rw[List.getD_eq_getElem?_getD,bu f,m]
  exact k
 ·rintro⟨p,c,e,n,d,a⟩
  refine⟨p,c,List.mem_flatten.2 ?_⟩
  rw[List.getD_eq_getElem?_getD]at a
  cases b:p.leads[e]? with
  |none=>rw[b]at a;cases a
  |some l=>rw[b]at a;exact⟨l,aZ b,a⟩
theorem kg.sL(h:kg ps user){i j:Nat}(c:i∈fL ps j):i<ps.length/\(eX ps user).f i=true:=by
 obtain⟨p,a,b⟩:=AB.1 c
 refine⟨(List.getElem?_eq_some_iff.1 a).1,?_⟩
 show((ps[i]?).map (·.found)).getD false=true
 rw[a]
 cases hf:p.found with
 |true=>simp[hf]
 |false=>rw[h.nf p (aZ a) hf]at b;cases b
def fE(ps:List bQ):Nat:=dO (ps.map (·.found))
structure nE(ps:List bQ)(user:ByteArray)(k:Nat)(s:QS):Prop where
 l1:s.1.length=ps.length
 l2:s.2.length=ps.length
 inv:jm (eX ps user) (λj=>s.1.getD j false) (jM s.2)
 up:k+dO s.2<=fE ps+pZ ps.length (λj=>(fL ps j).length) (λj=>s.1.getD j false)
 lo:fE ps<=k+dO s.2
theorem zP(n i:Nat):(List.replicate n false).getD i false=false:=by
 rw[List.getD_eq_getElem?_getD,List.getElem?_replicate]
 split<;>rfl
theorem zN(i:Nat):(ps.map (·.found)).getD i false=(eX ps user).f i:=by
 show _=((ps[i]?).map (·.found)).getD false
 rw[List.getD_eq_getElem?_getD,List.getElem?_map]
theorem nE.start:nE ps user 0 (List.replicate ps.length false,ps.map (·.found)):=by
 refine⟨by simp,by simp,?_,?_,?_⟩
 ·have e:(λj=>(List.replicate ps.length false).getD j false)=λ_=>false:=funext λj=>zP _ j
  show jm _ (λj=>(List.replicate ps.length false).getD j false) _
  rw[e]
  refine jm.start (λi a=>?_) λi a c=>?_
  ·have b:=fW.1 a
   rw[zN (user:=user)]at b
   refine⟨?_,b⟩
   unfold jM at a
   have:=List.mem_range.1 (List.mem_filter.1 a).1
   rw[List.length_map]at this
   exact this
  ·exact fW.2 (by rw[zN (user:=user)];exact c)
 ·show 0+fE ps<=_;omega
 ·show fE ps<=0+fE ps;omega
theorem nE.step(ok:kg ps user){k:Nat}{s:QS}{i:Nat}(h:nE ps user k s)(c:mU ps s.2 i):nE ps user (k+1) (ue ps user s i):=by
 obtain⟨v,q⟩:=s
 obtain⟨g,d,f,E,D⟩:=h
 simp only at g d f E D c
 have G:=AT q i c.1
 have z:=f.q i (fW.2 c.1)
 have m:i<ps.length:=z.1
 have r:∀x,(q.set i false).getD x false=true↔q.getD x false=true/\x≠i:=λx=>by
  rw[pY _ _ _ _ (by rw[d];exact m)]
  by_cases e:i=x
  ·rw[if_pos e];exact⟨λh=>(by cases h),λh=>absurd e.symm h.2⟩
  ·rw[if_neg e];exact⟨λh=>⟨h,λu=>e u.symm⟩,λh=>h.1⟩
 unfold ue
 simp only
 split
 ·rename_i b
  refine⟨g,by simpa using d,?_,?_,?_⟩
  ·refine f.skip (i:=i) (λx=>by rw[fW,fW];exact r x) ?_
   simp only[Bool.or_eq_true,Bool.not_eq_true']at b
   exact b
  ·simp only;omega
  ·simp only;omega
 ·rename_i b
  simp only[Bool.or_eq_true,Bool.not_eq_true',not_or,Bool.not_eq_true,Bool.not_eq_false]at b
  obtain⟨t,w⟩:=b
  have p:i<v.length:=by rw[g];exact m
  have o:=BT v i p
  have F:=CI (v.set i true) (fL ps i) (q.set i false)
  have l:∀x,((fL ps i).foldl (gR (v.set i true)) (q.set i false)).getD x false=true↔(q.getD x false=true/\x≠i)\/(x∈fL ps i/\(v.set i true).getD x false=false):=λx=>by
   rw[CH _ _ _ _ λy C=>by rw[List.length_set,d];exact(ok.sL C).1,r]
  refine⟨by simpa using g,by rw[xA];simpa using d,?_,?_,?_⟩
  ·show jm _ (λj=>(v.set i true).getD j false) _
   rw[o]
   refine f.take ok.ok (fW.2 c.1) (λx a=>?_) t w (λx a=>?_) (λx a n=>?_) (λx a H A B n=>?_)
   ·have:=c.2 x (fW.1 a)
    show fV ps i<=fV ps x
    omega
   ·rcases(l x).1 (fW.1 a)with h1|h1
    ·exact .inl ⟨fW.2 h1.1,h1.2⟩
    ·exact .inr ⟨(ok.sL h1.1).1,(ok.sL h1.1).2,ok.back.1 h1.1⟩
   ·exact fW.2 ((l x).2 (.inl ⟨fW.1 a,n⟩))
   ·refine fW.2 ((l x).2 (.inr ⟨ok.back.2 A,?_⟩))
    rw[pY _ _ _ _ p,if_neg λe=>n e.symm]
    exact B
  ·show k+1+dO ((fL ps i).foldl (gR (v.set i true)) (q.set i false))<=fE ps+pZ ps.length (λj=>(fL ps j).length) (λj=>(v.set i true).getD j false)
   rw[o,Dw m t]
   omega
  ·show fE ps<=k+1+dO ((fL ps i).foldl (gR (v.set i true)) (q.set i false))
   omega
theorem dV.inv(ok:kg ps user):∀{k:Nat} {s:QS},dV ps user k s->nE ps user k s
 |0,_,.start=>.start
 |k+1,_,.step h n=>(dV.inv ok h).step ok n
def oZ(ps:List bQ):Nat:=dC (ps.map λp=>kO p.leads.flatten)
theorem nE.lp(ok:kg ps user){k:Nat}{s:QS}(h:nE ps user k s):k+dO s.2<=fE ps+oZ ps:=by
 have a:=h.up
 have c:=Dx (n:=ps.length) (b:=λj=>(fL ps j).length) (v:=λj=>s.1.getD j false)
 have d:=Di ok.lt
 unfold oZ
 omega
theorem dV.ends(ok:kg ps user):∃K s,dV ps user K s/\jc s.2:=by
 have e:∀d k s,dV ps user k s->fE ps+oZ ps-k=d->∃K s,dV ps user K s/\jc s.2:=by
  intro d
  induction d with
  |zero=>
   intro k s h b
   have f:=(h.inv ok).lp ok
   refine⟨k,s,h,AU.1 ?_⟩
   omega
  |succ d ih=>
   intro k s h b
   by_cases a:jc s.2
   ·exact⟨k,s,h,a⟩
   ·obtain⟨i,c⟩:=Pa (ps:=ps) a
    exact ih (k+1) _ (.step h c) (by omega)
 exact e _ 0 _ .start rfl
theorem dV.end_(ok:kg ps user){K:Nat}{s:QS}(h:dV ps user K s)(k:jc s.2):
  s.1.length=ps.length/\fE ps<=K/\K<=fE ps+oZ ps/\(∀i,i<ps.length->s.1.getD i false=((eX ps user).f i&&(eX ps user).ex i λj=>s.1.getD j false))/\
  ∀lp,(∀i,i<ps.length->fV ps i<=lp)->s.1=oC (eX ps user) lp:=by
 have a:=h.inv ok
 have p:=AU.2 k
 have q:=a.lp ok
 have r:=a.lo
 have n:jM s.2=[]:=List.eq_nil_iff_forall_not_mem.2 λi a=>by
  have:=fW.1 a
  rw[k i]at this
  cases this
 have c:=a.inv
 rw[n]at c
 refine⟨a.l1,by omega,by omega,λi o=>c.model ok.ok i o,λlp g=>?_⟩
 have d:=(yH ok.ok g).1
 refine List.ext_getElem? λj=>?_
 have b:=RR ok.ok g c j
 rw[List.getD_eq_getElem?_getD,List.getD_eq_getElem?_getD]at b
 by_cases e:j<ps.length
 ·have l:j<s.1.length:=by rw[a.l1];exact e
  have m:j<(oC (eX ps user) lp).length:=by show j<(kk _ _ _ _).length;rw[d];exact e
  rw[bu l,bu m]at b⊢
  simp only[Option.getD_some]at b
  rw[b]
 ·rw[List.getElem?_eq_none (by rw[a.l1];omega),List.getElem?_eq_none (by show(kk _ _ _ _).length<=j;rw[d];show ps.length<=j;omega)]
end
section
variable{W:ByteArray->Bool}{F:ByteArray->ByteArray->Bool}{c:Cf}{num:List Nat}{sub:bc->List Sub}{k:bc}{N:Nat}
theorem fk.gr(a:fk c num sub k N):sB c num sub (opened c num sub k N).1 (opened c num sub k N).1.length:=by
 have h:=rG N a.2
 exact⟨h.one,λj p b d=>h.op j p (Nat.lt_of_lt_of_le b a.1) d⟩
theorem AY{x:bc}(h:(one c num x).found=false):(one c num x).nodes=[]:=by
 unfold one at h⊢
 split at h
 ·rfl
 ·cases h
theorem kB.ps(h:kB W F c num)(j:fk c num sub k N)(user:ByteArray):kg (opened c num sub k N).1 user:=by
 have f:=j.gr
 refine⟨h.O5 j user,λp b x v=>?_,λp b n=>?_,λp b=>?_⟩
 ·obtain⟨i,a,e⟩:=List.mem_iff_getElem.1 b
  have g:=(f.op i p a (by rw[bu a,e])).1
  obtain⟨l,s,t⟩:=List.mem_flatten.1 v
  obtain⟨m,o,q⟩:=List.mem_iff_getElem.1 s
  have u:m<p.nodes.length:=by rw[<-g.1];exact o
  have d:=g.2 m _ (bu u)
  rw[List.getD_eq_getElem?_getD,bu o,Option.getD_some,q]at d
  have r:((opened c num sub k N).1.map (·.k))[x]? ∈(ej c sub p.k p.nodes[m]).map some:=by rw[<-d];exact List.mem_map.2 ⟨x,t,rfl⟩
  obtain⟨y,_,w⟩:=List.mem_map.1 r
  have:=(List.getElem?_eq_some_iff.1 w.symm).1
  rwa [List.length_map]at this
 ·obtain⟨i,a,e⟩:=List.mem_iff_getElem.1 b
  have g:=(f.op i p a (by rw[bu a,e])).1
  obtain⟨z,A,_⟩:=f.one p b
  rw[z]at n
  have:=AY n
  rw[<-A]at this
  have d:=g.1
  rw[this]at d
  exact List.eq_nil_of_length_eq_zero d
 ·obtain⟨i,a,e⟩:=List.mem_iff_getElem.1 b
  exact(f.op i p a (by rw[bu a,e])).1.1
theorem fk.sS(a:fk c num sub k N):oZ (opened c num sub k N).1=(opened c num sub k N).2:=by
 rw[A2 N a.2,List.take_of_length_le a.1]
 rfl
end
namespace LTY
theorem oz(v:Value)(xs:List Ty)(R:aD)(h:RS R 2 Ty.enc v xs)(i:xs.length<=1000000):
  Spec prog 124 [v] R [] λv' H'=>∃T,H'=[T]/\OS 249 2 Ty.enc v' xs T:=by
 obtain⟨b,d,rfl⟩:=h.val
 have f:∀H,RS (Rx R H) 2 Ty.enc (.slice b xs.length d) xs:=λH=>h.rx
 refine Spec.gO (H':=[[]]) (by simp) ?_
 refine Spec.body Tryz.func124 rfl Tryz.results124 Tryz.ntmps124 rfl ?_
 refine .sr<|.ag rfl<|.zs<|.sr<|.mo rfl<|.q (.sW rfl rfl) ?_
 refine .zn ?_
 refine .cond rfl (λa=>?_) λa=>?_
 refine .sr<|.az rfl ?_
 refine .ret (aI (bk _ (.one (.tmp rfl)) (.one [0] _) ?_))
 ·obtain rfl:b=none:=by simpa using a
  have:=h.tP
  subst this
  exact⟨[],rfl,OS.nil⟩
 refine .kn<|.sr ?_
 refine .sN (λg=>?_)
 refine .mo rfl ?_
 refine .append (OS.empty (enc:=Ty.enc) (sz:=2)) (f _) (by simp;omega) (λv' c e=>?_)
 refine .az rfl ?_
 refine .ret (bk _ (.one (.tmp rfl)) (.one [0] _) ?_)
 ·exact⟨c,by simp[take],by simpa using e⟩
theorem mT(f:FuncId)(caps:List Value) [e:aY prog f](p:Ty->Bool)(v:Value)(l:List Ty)(R:aD)(h:RS R 2 Ty.enc v l)(D:∀s∈l,∀R',(∀b o,R b o->R' b o)->Spec prog f ((λt:Ty=>Value.agg t.enc.toArray) s::caps) R' [] λu H'=>u=.bool (p s)/\H'=[]):
  Spec prog 227 [v,.func (.func f) #[] caps.toArray] R [] λu H'=>(∃k:Int,u=.int .i64 k/\((∃(i:Nat) (x:Ty),l[i]? =some x/\p x=true/\(∀j y,j<i->l[j]? =some y->p y=false)/\k=i)\/((∀y∈l,p y=false)/\k= -1)))/\H'=[]:=by
 have H:=h.le
 refine Spec.body Tryz.func227 rfl Tryz.results227 Tryz.ntmps227 rfl ?_
 refine .sr<|.ag rfl<|.zs<|.sr<|.mo rfl<|.q (.bJ h) ?_
 refine .mo rfl<|.zn<|.block ?_
 refine .loop (X:=Nat) (λi=>i<=l.length/\∀j z,j<i->l[j]? =some z->p z=false) (λi=>[(0,v),(1,.func (.func f) #[] caps.toArray),(7,.int .i64 l.length),(8,iN i)]) (λ_=>[]) (λi=>l.length-i) 0 ⟨by omega,by omega⟩ kE.c.c.c.c rH ?_
 rintro i ⟨G,w⟩
 refine .sr<|.q .lss<|.zs ?_
 refine .cond rfl (λg=>?_) λg=>?_
 have E:i<l.length:=by simp at g;omega
 obtain⟨z,d⟩:=bR E
 have A:=aZ d
 have I:=(⟨h.one z A⟩:bZ (Ty.enc z))
 refine .kn<|.seq<|.block<|.sr<|.mo rfl<|.ag rfl<|.z<|.mo rfl<|.mo rfl<|.mo rfl ?_
 refine .bC i h d (λJ=>?_)
 refine .q (.aL rfl) ?_
 refine .gu (first:=[]) (captured:=caps) (vs:=[(λt:Ty=>Value.agg t.enc.toArray) z]) (D z A _ λb o B=>.inl B) (λu F=>?_)
 subst F
 refine .zn ?_
 refine .cond rfl (λm=>?_) λm=>?_
 refine .sr<|.mo rfl<|.az rfl ?_
 refine .ret (bp (aI (cF (bp (aI (aM rfl ?_))))))
 ·exact⟨⟨_,rfl,.inl ⟨i,z,d,m,w,rfl⟩⟩,rfl⟩
 refine .skip<|bf<|ax<|.region ?_
 refine .q (.inc (n:=i) (by omega)) ?_
 refine .mo rfl<|.nil ?_
 ·exact aP (i+1) ⟨by omega,λj y r a=>by
   rcases Nat.lt_or_ge j i with hh|hh
   ·exact w j y hh a
   ·obtain rfl:j=i:=by omega
    rw[d]at a;cases a;exact m⟩ (by omega) kE.c.c.c.c rH
 refine .exit<|bq<|bz<|bs<|ax<|.sr<|.az rfl ?_
 refine .ret (aM rfl ?_)
 ·have C:i=l.length:=by simp at g;omega
  subst C
  refine⟨⟨_,rfl,.inr ⟨λy a=>?_,rfl⟩⟩,rfl⟩
  obtain⟨j,r,rfl⟩:=List.mem_iff_getElem.1 a
  exact w j _ r (bu r)
theorem kj(f:FuncId)(caps:List Value) [e:aY prog f](p:Ty->Bool)(v:Value)(l:List Ty)(R:aD)(h:RS R 2 Ty.enc v l)(j:∀s∈l,∀R',(∀b o,R b o->R' b o)->Spec prog f ((λt:Ty=>Value.agg t.enc.toArray) s::caps) R' [] λu H'=>u=.bool (p s)/\H'=[]):
  Spec prog 175 [v,.func (.func f) #[] caps.toArray] R [] λu H'=>u=.bool (l.any p)/\H'=[]:=by
 refine Spec.body Tryz.func175 rfl Tryz.results175 Tryz.ntmps175 rfl ?_
 refine .sr<|.ag rfl<|.z<|.mo rfl<|.mo rfl ?_
 refine .ba (mT f caps p v l _ h.rx λs r R' d=>j s r R' λb o g=>d b o (.inl g)) (λu w=>?_)
 obtain⟨k,rfl,m⟩:=w
 have n:decide (0<=k)=l.any p:=by
  rcases m with⟨i,x,a,c,_,rfl⟩|⟨a,rfl⟩
  ·rw[List.any_eq_true.2 ⟨x,aZ a,c⟩];simp
  ·rw[List.any_eq_false.2 λy A=>by rw[a y A];simp];rfl
 refine .q .geq<|.az rfl ?_
 refine .ret (aM rfl ?_)
 ·exact⟨by simp only[n],rfl⟩
end LTY
namespace LSC
theorem oz(v:Value)(xs:List Sc)(R:aD)(h:RS R 4 Sc.enc v xs)(i:xs.length<=1000000):
  Spec prog 126 [v] R [] λv' H'=>∃T,H'=[T]/\OS 169 4 Sc.enc v' xs T:=by
 obtain⟨b,d,rfl⟩:=h.val
 have f:∀H,RS (Rx R H) 4 Sc.enc (.slice b xs.length d) xs:=λH=>h.rx
 refine Spec.gO (H':=[[]]) (by simp) ?_
 refine Spec.body Tryz.func126 rfl Tryz.results126 Tryz.ntmps126 rfl ?_
 refine .sr<|.ag rfl<|.zs<|.sr<|.mo rfl<|.q (.sW rfl rfl) ?_
 refine .zn ?_
 refine .cond rfl (λa=>?_) λa=>?_
 refine .sr<|.az rfl ?_
 refine .ret (aI (bk _ (.one (.tmp rfl)) (.one [0] _) ?_))
 ·obtain rfl:b=none:=by simpa using a
  have:=h.tP
  subst this
  exact⟨[],rfl,OS.nil⟩
 refine .kn<|.sr ?_
 refine .sN (λg=>?_)
 refine .mo rfl ?_
 refine .append (OS.empty (enc:=Sc.enc) (sz:=4)) (f _) (by simp;omega) (λv' c e=>?_)
 refine .az rfl ?_
 refine .ret (bk _ (.one (.tmp rfl)) (.one [0] _) ?_)
 ·exact⟨c,by simp[take],by simpa using e⟩
theorem mT(f:FuncId)(caps:List Value) [e:aY prog f](p:Sc->Bool)(v:Value)(l:List Sc)(R:aD)(h:RS R 4 Sc.enc v l)(D:∀s∈l,∀R',(∀b o,R b o->R' b o)->Spec prog f ((λt:Sc=>Value.agg t.enc.toArray) s::caps) R' [] λu H'=>u=.bool (p s)/\H'=[]):
  Spec prog 228 [v,.func (.func f) #[] caps.toArray] R [] λu H'=>(∃k:Int,u=.int .i64 k/\((∃(i:Nat) (x:Sc),l[i]? =some x/\p x=true/\(∀j y,j<i->l[j]? =some y->p y=false)/\k=i)\/((∀y∈l,p y=false)/\k= -1)))/\H'=[]:=by
 have H:=h.le
 refine Spec.body Tryz.func228 rfl Tryz.results228 Tryz.ntmps228 rfl ?_
 refine .sr<|.ag rfl<|.zs<|.sr<|.mo rfl<|.q (.bJ h) ?_
 refine .mo rfl<|.zn<|.block ?_
 refine .loop (X:=Nat) (λi=>i<=l.length/\∀j z,j<i->l[j]? =some z->p z=false) (λi=>[(0,v),(1,.func (.func f) #[] caps.toArray),(7,.int .i64 l.length),(8,iN i)]) (λ_=>[]) (λi=>l.length-i) 0 ⟨by omega,by omega⟩ kE.c.c.c.c rH ?_
 rintro i ⟨G,w⟩
 refine .sr<|.q .lss<|.zs ?_
 refine .cond rfl (λg=>?_) λg=>?_
 have E:i<l.length:=by simp at g;omega
 obtain⟨z,d⟩:=bR E
 have A:=aZ d
 have I:=(⟨h.one z A⟩:bZ (Sc.enc z))
 refine .kn<|.seq<|.block<|.sr<|.mo rfl<|.ag rfl<|.z<|.mo rfl<|.mo rfl<|.mo rfl ?_
 refine .bC i h d (λJ=>?_)
 refine .q (.aL rfl) ?_
 refine .gu (first:=[]) (captured:=caps) (vs:=[(λt:Sc=>Value.agg t.enc.toArray) z]) (D z A _ λb o B=>.inl B) (λu F=>?_)
 subst F
 refine .zn ?_
 refine .cond rfl (λm=>?_) λm=>?_
 refine .sr<|.mo rfl<|.az rfl ?_
 refine .ret (bp (aI (cF (bp (aI (aM rfl ?_))))))
 ·exact⟨⟨_,rfl,.inl ⟨i,z,d,m,w,rfl⟩⟩,rfl⟩
 refine .skip<|bf<|ax<|.region ?_
 refine .q (.inc (n:=i) (by omega)) ?_
 refine .mo rfl<|.nil ?_
 ·exact aP (i+1) ⟨by omega,λj y r a=>by
   rcases Nat.lt_or_ge j i with hh|hh
   ·exact w j y hh a
   ·obtain rfl:j=i:=by omega
    rw[d]at a;cases a;exact m⟩ (by omega) kE.c.c.c.c rH
 refine .exit<|bq<|bz<|bs<|ax<|.sr<|.az rfl ?_
 refine .ret (aM rfl ?_)
 ·have C:i=l.length:=by simp at g;omega
  subst C
  refine⟨⟨_,rfl,.inr ⟨λy a=>?_,rfl⟩⟩,rfl⟩
  obtain⟨j,r,rfl⟩:=List.mem_iff_getElem.1 a
  exact w j _ r (bu r)
theorem kj(f:FuncId)(caps:List Value) [e:aY prog f](p:Sc->Bool)(v:Value)(l:List Sc)(R:aD)(h:RS R 4 Sc.enc v l)(j:∀s∈l,∀R',(∀b o,R b o->R' b o)->Spec prog f ((λt:Sc=>Value.agg t.enc.toArray) s::caps) R' [] λu H'=>u=.bool (p s)/\H'=[]):
  Spec prog 178 [v,.func (.func f) #[] caps.toArray] R [] λu H'=>u=.bool (l.any p)/\H'=[]:=by
 refine Spec.body Tryz.func178 rfl Tryz.results178 Tryz.ntmps178 rfl ?_
 refine .sr<|.ag rfl<|.z<|.mo rfl<|.mo rfl ?_
 refine .ba (mT f caps p v l _ h.rx λs r R' d=>j s r R' λb o g=>d b o (.inl g)) (λu w=>?_)
 obtain⟨k,rfl,m⟩:=w
 have n:decide (0<=k)=l.any p:=by
  rcases m with⟨i,x,a,c,_,rfl⟩|⟨a,rfl⟩
  ·rw[List.any_eq_true.2 ⟨x,aZ a,c⟩];simp
  ·rw[List.any_eq_false.2 λy A=>by rw[a y A];simp];rfl
 refine .q .geq<|.az rfl ?_
 refine .ret (aM rfl ?_)
 ·exact⟨by simp only[n],rfl⟩
end LSC
namespace LRE
theorem mT(f:FuncId)(caps:List Value) [e:aY prog f](p:ca->Bool)(v:Value)(l:List ca)(R:aD)(h:RS R 3 ca.enc v l)(D:∀s∈l,∀R',(∀b o,R b o->R' b o)->Spec prog f ((λt:ca=>Value.agg t.enc.toArray) s::caps) R' [] λu H'=>u=.bool (p s)/\H'=[]):
  Spec prog 207 [v,.func (.func f) #[] caps.toArray] R [] λu H'=>(∃k:Int,u=.int .i64 k/\((∃(i:Nat) (x:ca),l[i]? =some x/\p x=true/\(∀j y,j<i->l[j]? =some y->p y=false)/\k=i)\/((∀y∈l,p y=false)/\k= -1)))/\H'=[]:=by
 have H:=h.le
 refine Spec.body Tryz.func207 rfl Tryz.results207 Tryz.ntmps207 rfl ?_
 refine .sr<|.ag rfl<|.zs<|.sr<|.mo rfl<|.q (.bJ h) ?_
 refine .mo rfl<|.zn<|.block ?_
 refine .loop (X:=Nat) (λi=>i<=l.length/\∀j z,j<i->l[j]? =some z->p z=false) (λi=>[(0,v),(1,.func (.func f) #[] caps.toArray),(7,.int .i64 l.length),(8,iN i)]) (λ_=>[]) (λi=>l.length-i) 0 ⟨by omega,by omega⟩ kE.c.c.c.c rH ?_
 rintro i ⟨G,w⟩
 refine .sr<|.q .lss<|.zs ?_
 refine .cond rfl (λg=>?_) λg=>?_
 have E:i<l.length:=by simp at g;omega
 obtain⟨z,d⟩:=bR E
 have A:=aZ d
 have I:=(⟨h.one z A⟩:bZ (ca.enc z))
 refine .kn<|.seq<|.block<|.sr<|.mo rfl<|.ag rfl<|.z<|.mo rfl<|.mo rfl<|.mo rfl ?_
 refine .bC i h d (λJ=>?_)
 refine .q (.aL rfl) ?_
 refine .gu (first:=[]) (captured:=caps) (vs:=[(λt:ca=>Value.agg t.enc.toArray) z]) (D z A _ λb o B=>.inl B) (λu F=>?_)
 subst F
 refine .zn ?_
 refine .cond rfl (λm=>?_) λm=>?_
 refine .sr<|.mo rfl<|.az rfl ?_
 refine .ret (bp (aI (cF (bp (aI (aM rfl ?_))))))
 ·exact⟨⟨_,rfl,.inl ⟨i,z,d,m,w,rfl⟩⟩,rfl⟩
 refine .skip<|bf<|ax<|.region ?_
 refine .q (.inc (n:=i) (by omega)) ?_
 refine .mo rfl<|.nil ?_
 ·exact aP (i+1) ⟨by omega,λj y r a=>by
   rcases Nat.lt_or_ge j i with hh|hh
   ·exact w j y hh a
   ·obtain rfl:j=i:=by omega
    rw[d]at a;cases a;exact m⟩ (by omega) kE.c.c.c.c rH
 refine .exit<|bq<|bz<|bs<|ax<|.sr<|.az rfl ?_
 refine .ret (aM rfl ?_)
 ·have C:i=l.length:=by simp at g;omega
  subst C
  refine⟨⟨_,rfl,.inr ⟨λy a=>?_,rfl⟩⟩,rfl⟩
  obtain⟨j,r,rfl⟩:=List.mem_iff_getElem.1 a
  exact w j _ r (bu r)
theorem kj(f:FuncId)(caps:List Value) [e:aY prog f](p:ca->Bool)(v:Value)(l:List ca)(R:aD)(h:RS R 3 ca.enc v l)(j:∀s∈l,∀R',(∀b o,R b o->R' b o)->Spec prog f ((λt:ca=>Value.agg t.enc.toArray) s::caps) R' [] λu H'=>u=.bool (p s)/\H'=[]):
  Spec prog 160 [v,.func (.func f) #[] caps.toArray] R [] λu H'=>u=.bool (l.any p)/\H'=[]:=by
 refine Spec.body Tryz.func160 rfl Tryz.results160 Tryz.ntmps160 rfl ?_
 refine .sr<|.ag rfl<|.z<|.mo rfl<|.mo rfl ?_
 refine .ba (mT f caps p v l _ h.rx λs r R' d=>j s r R' λb o g=>d b o (.inl g)) (λu w=>?_)
 obtain⟨k,rfl,m⟩:=w
 have n:decide (0<=k)=l.any p:=by
  rcases m with⟨i,x,a,c,_,rfl⟩|⟨a,rfl⟩
  ·rw[List.any_eq_true.2 ⟨x,aZ a,c⟩];simp
  ·rw[List.any_eq_false.2 λy A=>by rw[a y A];simp];rfl
 refine .q .geq<|.az rfl ?_
 refine .ret (aM rfl ?_)
 ·exact⟨by simp only[n],rfl⟩
end LRE
namespace LND
theorem oz(v:Value)(xs:List Nd)(R:aD)(h:RS R 5 Nd.enc v xs)(i:xs.length<=1000000):
  Spec prog 125 [v] R [] λv' H'=>∃T,H'=[T]/\OS 199 5 Nd.enc v' xs T:=by
 obtain⟨b,d,rfl⟩:=h.val
 have f:∀H,RS (Rx R H) 5 Nd.enc (.slice b xs.length d) xs:=λH=>h.rx
 refine Spec.gO (H':=[[]]) (by simp) ?_
 refine Spec.body Tryz.func125 rfl Tryz.results125 Tryz.ntmps125 rfl ?_
 refine .sr<|.ag rfl<|.zs<|.sr<|.mo rfl<|.q (.sW rfl rfl) ?_
 refine .zn ?_
 refine .cond rfl (λa=>?_) λa=>?_
 refine .sr<|.az rfl ?_
 refine .ret (aI (bk _ (.one (.tmp rfl)) (.one [0] _) ?_))
 ·obtain rfl:b=none:=by simpa using a
  have:=h.tP
  subst this
  exact⟨[],rfl,OS.nil⟩
 refine .kn<|.sr ?_
 refine .sN (λg=>?_)
 refine .mo rfl ?_
 refine .append (OS.empty (enc:=Nd.enc) (sz:=5)) (f _) (by simp;omega) (λv' c e=>?_)
 refine .az rfl ?_
 refine .ret (bk _ (.one (.tmp rfl)) (.one [0] _) ?_)
 ·exact⟨c,by simp[take],by simpa using e⟩
end LND
section
variable{c:Cf}{num:List Nat}{sub:bc->List Sub}{k:bc}
theorem fk.ex{B:Nat}(h:∀i,(opened c num sub k i).1.length<=B):∃N,fk c num sub k N:=by
 have b:∀m,(∃N,N<=m/\fk c num sub k N)\/∀j,j<=m->j<(opened c num sub k j).1.length:=by
  intro m
  induction m with
  |zero=>
   refine .inr λj a=>?_
   obtain rfl:j=0:=by omega
   simp[opened]
  |succ m ih=>
   rcases ih with⟨N,h1,h2⟩|ih
   ·exact .inl ⟨N,by omega,h2⟩
   ·by_cases h1:m+1<(opened c num sub k (m+1)).1.length
    ·exact .inr λj a=>by
      rcases Nat.lt_or_ge j (m+1)with h2|h2
      ·exact ih j (by omega)
      ·obtain rfl:j=m+1:=by omega
       exact h1
    ·exact .inl ⟨m+1,Nat.le_refl _,by omega,λj a=>ih j (by omega)⟩
 rcases b (B+1)with⟨N,_,h1⟩|h1
 ·exact⟨N,h1⟩
 ·have:=h1 (B+1) (Nat.le_refl _)
  have:=h (B+1)
  omega
def fq(c:Cf)(num:List Nat)(sub:bc->List Sub)(k:bc)(b:Int)(can:Bool)(N:Nat):List bQ×Nat×Int:=
 if b<1 then([],0,2)else if can=false then([],0,12)
 else if(((opened c num sub k N).1.length+(opened c num sub k N).2:Nat):Int)<=b then((opened c num sub k N).1,(opened c num sub k N).2,0)else([],0,16)
theorem N1{P:bc->Prop}{a b:List bQ}(h:Grown c num P a b){i:Nat}(e:∀j p,i<=j->a[j]? =some p->p=one c num p.k):∀j p,i<=j->b[j]? =some p->p=one c num p.k:=by
 obtain⟨⟨l,rfl,g⟩,_⟩:=h
 intro j p f d
 rcases Nat.lt_or_ge j a.length with h1|h1
 ·rw[List.getElem?_append_left h1]at d
  exact e j p f d
 ·rw[List.getElem?_append_right h1]at d
  exact(g p (aZ d)).2
theorem wJ:∀(i:Nat) (j:Nat) (p:bQ),i<=j->(opened c num sub k i).1[j]? =some p->p=one c num p.k
 |0,j,p,_,a=>by
  have:=aZ a
  simp only[opened,List.mem_singleton]at this
  subst this
  rw[rF]
 |i+1,j,p,b,a=>by
  have d:=λj p b a=>wJ i j p b a
  change (eJ c num sub (opened c num sub k i).1 i).1[j]? =some p at a
  unfold eJ at a
  split at a
  ·exact d j p (by omega) a
  ·rw[List.getElem?_set_ne (by omega)]at a
   exact N1 (lK _ _ _) d j p (by omega) a
theorem Pv{ps:List bQ}{i:Nat}{p:bQ}(d:ps[i]? =some p)(a:p=one c num p.k)(b:p.found=false):eJ c num sub ps i=(ps,0):=by
 have g:p.nodes=[]:=by rw[a];exact AY (by rw[<-a];exact b)
 have q:p.gQ=[]/\p.leads=[]:=by
  rw[a]
  unfold one
  split<;>exact⟨rfl,rfl⟩
 obtain⟨h,o⟩:=q
 obtain⟨k,f,n,m,u,l⟩:=p
 simp only at h o g b
 subst h o g b
 unfold eJ
 rw[d]
 simp only[dj,Bool.false_eq_true,if_false]
 refine Prod.ext ?_ rfl
 refine List.ext_getElem? λj=>?_
 rw[List.getElem?_set]
 split
 ·rename_i e;subst e
  have:=(List.getElem?_eq_some_iff.1 d).1
  rw[if_pos this,d]
 ·rfl
theorem xR:∀(ks:List bc) (ps:List bQ) (x:bc),dq c num ps (ks++[x])=((eB c num (dq c num ps ks).1 x).1,(dq c num ps ks).2++[(eB c num (dq c num ps ks).1 x).2])
 |[],ps,x=>rfl
 |y::ks,ps,x=>by
  rw[List.cons_append,dq,xR ks _ x]
  rfl
theorem xW(y:bc):∀(ns:List Nd) (ps:List bQ) (n:Nd),dj c num sub y ps (ns++[n])=((dq c num (dj c num sub y ps ns).1 (ej c sub y n)).1,(dj c num sub y ps ns).2++[(dq c num (dj c num sub y ps ns).1 (ej c sub y n)).2])
 |[],ps,n=>rfl
 |m::ns,ps,n=>by
  rw[List.cons_append,dj,xW y ns _ n]
  rfl
theorem xS{ks:List bc}{i:Nat}{x:bc}(h:ks[i]? =some x)(ps:List bQ):dq c num ps (ks.take (i+1))=((eB c num (dq c num ps (ks.take i)).1 x).1,(dq c num ps (ks.take i)).2++[(eB c num (dq c num ps (ks.take i)).1 x).2]):=by
 rw[show ks.take (i+1)=ks.take i++[x] by rw[List.take_add_one,h];rfl,xR]
theorem xX{a:List Nd}{i:Nat}{n:Nd}(h:a[i]? =some n)(y:bc)(ps:List bQ):dj c num sub y ps (a.take (i+1))=((dq c num (dj c num sub y ps (a.take i)).1 (ej c sub y n)).1,(dj c num sub y ps (a.take i)).2++[(dq c num (dj c num sub y ps (a.take i)).1 (ej c sub y n)).2]):=by
 rw[show a.take (i+1)=a.take i++[n] by rw[List.take_add_one,h];rfl,xW]
theorem xO:∀(a b:List bc) (ps:List bQ),(dq c num ps (a++b)).1=(dq c num (dq c num ps a).1 b).1
 |[],b,ps=>rfl
 |x::a,b,ps=>by rw[List.cons_append,dq,dq];exact xO a b _
theorem xT(y:bc):∀(a b:List Nd) (ps:List bQ),(dj c num sub y ps (a++b)).1=(dj c num sub y (dj c num sub y ps a).1 b).1
 |[],b,ps=>rfl
 |x::a,b,ps=>by rw[List.cons_append,dj,dj];exact xT y a b _
theorem xQ(ks:List bc)(i:Nat)(ps:List bQ):(dq c num ps (ks.take i)).1.length<=(dq c num ps ks).1.length:=by
 have h:=xO (c:=c) (num:=num) (ks.take i) (ks.drop i) ps
 rw[List.take_append_drop]at h
 rw[h]
 exact(pX _ _).len
theorem xV(y:bc)(a:List Nd)(i:Nat)(ps:List bQ):(dj c num sub y ps (a.take i)).1.length<=(dj c num sub y ps a).1.length:=by
 have h:=xT (c:=c) (num:=num) (sub:=sub) y (a.take i) (a.drop i) ps
 rw[List.take_append_drop]at h
 rw[h]
 exact(lK _ _ _).len
theorem C1(ks:List bc)(ps:List bQ):ps.length<=(dq c num ps ks).1.length:=(pX _ _).len
theorem C2(y:bc)(a:List Nd)(ps:List bQ):ps.length<=(dj c num sub y ps a).1.length:=(lK _ _ _).len
def jO(a:List Nat)(l:List Nat):List Nat:=l.foldl (λa x=>if x∈a then a else a++[x]) a
theorem rW(a l m:List Nat):jO a (l++m)=jO (jO a l) m:=List.foldl_append
theorem BP(a:List Nat)(x:Nat):jO a [x]=if x∈a then a else a++[x]:=rfl
theorem Rf{l:List Nat}{i x:Nat}(h:l[i]? =some x)(a:List Nat):jO a (l.take (i+1))=if x∈jO a (l.take i)then jO a (l.take i)else jO a (l.take i)++[x]:=by
 rw[show l.take (i+1)=l.take i++[x] by rw[List.take_add_one,h];rfl,rW,BP]
theorem BO{l:List Nat}{n:Nat}(h:∀x∈l,x<n):(jO [] l).length<=n:=AL h
theorem A0{ps:List bQ}{i:Nat}{p:bQ}(a:ps[i]? =some p):eJ c num sub ps i=((dj c num sub p.k ps p.nodes).1.set i {p with gQ:=if p.found then iH c sub p.k else [],leads:=(dj c num sub p.k ps p.nodes).2},kO (dj c num sub p.k ps p.nodes).2.flatten):=by unfold eJ;rw[a]
theorem A3(i:Nat):opened c num sub k (i+1)=((eJ c num sub (opened c num sub k i).1 i).1,(opened c num sub k i).2+(eJ c num sub (opened c num sub k i).1 i).2):=rfl
end
abbrev dF:Type:=Nat×Nat
def mw(x y:dF):Bool:=decide (x.1<y.1)||(decide (x.1=y.1)&&decide (x.2<y.2))
theorem z8{x y:dF}:mw x y=true↔x.1<y.1\/(x.1=y.1/\x.2<y.2):=by
 unfold mw
 simp only[Bool.or_eq_true,Bool.and_eq_true,decide_eq_true_eq]
theorem vW{x y:dF}:mw x y=false↔y.1<x.1\/(x.1=y.1/\y.2<=x.2):=by
 rw[Bool.eq_false_iff,ne_eq,z8]
 omega
theorem vX:SO mw:=⟨λx=>by rw[vW];omega,λx y z a b=>by rw[z8]at *;omega,λx y z a b=>by rw[vW]at *;omega⟩
def items(ps:List bQ)(q:List Bool):List dF:=(jM q).map λi=>(fV ps i,i)
theorem uf(q:List Bool):(jM q).Nodup:=List.Pairwise.filter _ List.nodup_range
theorem u3{q:List Bool}{i:Nat}{b:Bool}(h:q.getD i false=b)(a:i<q.length):q.set i b=q:=by
 refine List.ext_getElem? λj=>?_
 rw[List.getElem?_set]
 split
 ·rename_i e
  subst e
  rw[List.getD_eq_getElem?_getD,bu a,Option.getD_some]at h
  simp[a,h]
 ·rfl
theorem PZ{q:List Bool}{i:Nat}(f:i<q.length)(h:q.getD i false=false):(jM q++[i]).Perm (jM (q.set i true)):=by
 refine(List.perm_ext_iff_of_nodup ?_ (uf _)).2 λx=>?_
 ·rw[List.nodup_append]
  refine⟨uf q,by simp,λa d b c=>?_⟩
  rw[List.mem_singleton]at c
  subst c
  intro e
  subst e
  rw[fW.1 d]at h
  cases h
 ·rw[List.mem_append,List.mem_singleton,fW,fW,pY _ _ _ _ f]
  by_cases e:i=x
  ·subst e;simp
  ·rw[if_neg e]
   exact⟨λh=>h.elim id λh=>absurd h.symm e,.inl⟩
theorem PY{q:List Bool}{i:Nat}(h:q.getD i false=true)(a:i<q.length):(jM q).Perm (i::jM (q.set i false)):=by
 refine(List.perm_ext_iff_of_nodup (uf _) ?_).2 λx=>?_
 ·rw[List.nodup_cons]
  refine⟨λb=>?_,uf _⟩
  have:=fW.1 b
  rw[pY _ _ _ _ a,if_pos rfl]at this
  cases this
 ·rw[List.mem_cons,fW,fW,pY _ _ _ _ a]
  by_cases e:i=x
  ·subst e;rw[h];simp
  ·rw[if_neg e]
   exact⟨.inr,λh=>h.elim (λh=>absurd h.symm e) id⟩
theorem Oj{ps:List bQ}{q:List Bool}{i:Nat}(a:i<q.length)(h:q.getD i false=false):(items ps q++[(fV ps i,i)]).Perm (items ps (q.set i true)):=by
 have:=(PZ a h).map λi=>(fV ps i,i)
 rw[List.map_append]at this
 exact this
theorem zZ{ps:List bQ}{q:List Bool}{L:List dF}(c:L.Perm (items ps q))(f:fG mw L L.length){x:dF}(d:L[0]? =some x):mU ps q x.2/\x.1=fV ps x.2/\x.2<q.length:=by
 have n:x∈items ps q:=c.mem_iff.1 (aZ d)
 obtain⟨i,a,rfl⟩:=List.mem_map.1 n
 have m:i<q.length:=by
  unfold jM at a
  exact List.mem_range.1 (List.mem_filter.1 a).1
 refine⟨⟨fW.1 a,λj g=>?_⟩,rfl,m⟩
 have h:(fV ps j,j)∈L:=c.mem_iff.2 (List.mem_map.2 ⟨j,fW.2 g,rfl⟩)
 obtain⟨k,l,e⟩:=List.mem_iff_getElem.1 h
 have b:=fG.least vX f d k _ (bu l)
 rw[e,vW]at b
 simp only at b⊢
 omega
theorem Og{ps:List bQ}{q:List Bool}{L a:List dF}(e:L.Perm (items ps q)){i:Nat}(d:i<q.length)(f:q.getD i false=true)(c:L.Perm ((fV ps i,i)::a)):a.Perm (items ps (q.set i false)):=by
 have b:=(PY f d).map λi=>(fV ps i,i)
 rw[List.map_cons]at b
 exact(List.Perm.cons_inv ((c.symm.trans e).trans b))
theorem Oi{ps:List bQ}{q:List Bool}{L:List dF}(a:L.Perm (items ps q))(h:L=[]):jc q:=λi=>by
 cases hq:q.getD i false with
 |false=>rfl
 |true=>
  have:(fV ps i,i)∈L:=a.mem_iff.2 (List.mem_map.2 ⟨i,fW.2 hq,rfl⟩)
  rw[h]at this
  cases this
theorem Oh{ps:List bQ}{q:List Bool}{L:List dF}(a:L.Perm (items ps q)):L.length<=q.length:=by
 rw[a.length_eq]
 unfold items jM
 rw[List.length_map]
 exact Nat.le_trans (List.length_filter_le _ _) (by simp)
def mj(ps:List bQ)(n j:Nat):List Nat:=(List.range n).filter λi=>((ps[i]?).map λp=>decide (j∈p.leads.flatten)).getD false
theorem Df(ps:List bQ)(j:Nat):mj ps ps.length j=fL ps j:=rfl
theorem Dh{ps:List bQ}{i:Nat}{p:bQ}(h:ps[i]? =some p)(j:Nat):mj ps (i+1) j=mj ps i j++if j∈p.leads.flatten then [i]else []:=by
 unfold mj
 rw[List.range_succ,List.filter_append]
 congr 1
 simp only[List.filter_cons,List.filter_nil,h,Option.map_some,Option.getD_some]
 by_cases a:j∈p.leads.flatten
 ·rw[if_pos a,if_pos (decide_eq_true a)]
 ·rw[if_neg a,if_neg (by simpa using a)]
theorem Dg{ps:List bQ}{i j x:Nat}(h:x∈mj ps i j):x<i:=by
 unfold mj at h
 exact List.mem_range.1 (List.mem_filter.1 h).1
def gU(ps:List bQ)(i:Nat)(seen:List Nat)(j:Nat):List Nat:=mj ps i j++if j∈seen then [i]else []
theorem Ds(ps:List bQ)(i:Nat)(a:List Nat)(j:Nat):((gU ps i a j).getLast? =some i)↔j∈a:=by
 unfold gU
 by_cases h:j∈a
 ·rw[if_pos h];simp[h]
 ·rw[if_neg h,List.append_nil]
  constructor
  ·intro c
   have d:=List.mem_of_getLast? c
   exact absurd (Dg d) (Nat.lt_irrefl _)
  ·exact λb=>absurd b h
theorem Du(ps:List bQ)(i:Nat)(b:List Nat)(c j:Nat):gU ps i (b++[c]) j=if j=c/\¬c∈b then gU ps i b j++[i]else gU ps i b j:=by
 unfold gU
 by_cases d:j=c
 ·subst d
  by_cases a:j∈b
  ·rw[if_pos (by simp),if_neg (by simp[a]),if_pos a]
  ·rw[if_pos (by simp),if_pos ⟨rfl,a⟩,if_neg a,List.append_nil]
 ·rw[if_neg (λh:j=c/\¬c∈b=>d h.1)]
  by_cases a:j∈b
  ·rw[if_pos (List.mem_append_left _ a),if_pos a]
  ·rw[if_neg (λh=>(List.mem_append.1 h).elim a λh=>d (List.mem_singleton.1 h)),if_neg a]
theorem Dr{ps:List bQ}{i:Nat}{p:bQ}(h:ps[i]? =some p)(j:Nat):gU ps i p.leads.flatten j=gU ps (i+1) [] j:=by
 unfold gU
 rw[Dh h]
 simp
theorem OQ{α:Type}{l:List α}{i:Nat}{x:α}(h:l[i]? =some x)(y:α):y∈l.take (i+1)↔y∈l.take i\/y=x:=by
 rw[List.take_add_one,h];simp
theorem Ry(v:Value)(l:List ByteArray)(s:ByteArray)(R:aD)(h:RS R 1 hZ v l):
  Spec prog 191 [v,.string s] R [] λu H'=>(∃k:Int,u=.int .i64 k/\(0<=k↔s∈l))/\H'=[]:=by
 have m:=h.le
 refine Spec.body Tryz.func191 rfl Tryz.results191 Tryz.ntmps191 rfl ?_
 refine .sr<|.ag rfl<|.zs<|.sr<|.mo rfl<|.q (.bJ h) ?_
 refine .mo rfl<|.zn<|.block ?_
 refine .loop (X:=Nat) (λi=>i<=l.length/\s∉l.take i) (λi=>[(0,v),(1,.string s),(7,.int .i64 l.length),(8,iN i)]) (λ_=>[]) (λi=>l.length-i) 0 ⟨by omega,by simp⟩ kE.c.c.c.c rH ?_
 rintro i ⟨j,e⟩
 refine .sr<|.q .lss<|.zs ?_
 refine .cond rfl (λb=>?_) λb=>?_
 have g:i<l.length:=by simp at b;omega
 obtain⟨z,f⟩:=bR g
 refine .kn<|.seq<|.block<|.sr<|.mo rfl<|.ag rfl<|.z<|.mo rfl<|.mo rfl<|.mo rfl ?_
 refine .bC i h f (λo=>?_)
 refine .lo rfl<|.q .dW<|.zn ?_
 refine .cond rfl (λa=>?_) λa=>?_
 refine .sr<|.mo rfl<|.az rfl ?_
 refine .ret (bp (aI (cF (bp (aI (aM rfl ?_))))))
 ·have d:s=z:=by simpa using a
  exact⟨⟨_,rfl,by rw[d];simp[aZ f]⟩,rfl⟩
 refine .skip<|bf<|ax<|.region ?_
 refine .q (.inc (n:=i) (by omega)) ?_
 refine .mo rfl<|.nil ?_
 ·exact aP (i+1) ⟨by omega,by rw[OQ f];simp at a;simp[e,a]⟩ (by omega) kE.c.c.c.c rH
 refine .exit<|bq<|bz<|bs<|ax<|.sr<|.az rfl ?_
 refine .ret (aM rfl ?_)
 ·have d:i=l.length:=by simp at b;omega
  rw[d,List.take_length]at e
  exact⟨⟨_,rfl,by simp[e]⟩,rfl⟩
theorem Rb(v:Value)(l:List ByteArray)(s:ByteArray)(R:aD)(h:RS R 1 hZ v l):
  Spec prog 150 [v,.string s] R [] λu H'=>u=.bool (decide (s∈l))/\H'=[]:=by
 refine Spec.body Tryz.func150 rfl Tryz.results150 Tryz.ntmps150 rfl ?_
 refine .sr<|.ag rfl<|.z<|.mo rfl<|.mo rfl ?_
 refine .ba (Ry v l s _ h.rx) (λu b=>?_)
 obtain⟨k,rfl,a⟩:=b
 refine .q .geq<|.az rfl ?_
 refine .ret (aM rfl ?_)
 ·exact⟨by simp only[a],rfl⟩
theorem gh.ff:gh ⟨[],0,0⟩:=⟨by simp,by simp,by simp,by simp,by simp,by simp⟩
end Go.Proofs.YtdljmchhecoakaaGreat

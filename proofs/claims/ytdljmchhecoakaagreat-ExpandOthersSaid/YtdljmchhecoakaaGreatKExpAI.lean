/- What the law 'ExpA' uses. No condition. -/
import Derived.Test.YtdljmchhecoakaaGreatKExpAB
import Derived.Test.YtdljmchhecoakaaGreatKExpAF
import Derived.Test.YtdljmchhecoakaaGreatKExpAH
namespace Go.Proofs.YtdljmchhecoakaaGreat
open Tryz (prog)
set_option linter.unusedVariables false
set_option linter.unusedSimpArgs false
set_option maxRecDepth 4000
structure fK where
 kind:Int
 wm:Value
 wn:Value
 wc:Value
 f:aE
 rev:Int
 bF:List aE
 no:List aE
 cs:List cD
def fK.enc(c:fK):List Value:=[.int .i64 c.kind,c.wm,c.wn,c.wc]++c.f.enc++[.int .u64 c.rev]
structure fK.is(R:aB)(c:fK):Prop where
 hm:RS R 7 aE.enc c.wm c.bF
 hn:RS R 7 aE.enc c.wn c.no
 hc:RS R 8 cD.enc c.wc c.cs
 fm:∀t∈c.bF,t.fits
 fn:∀t∈c.no,t.fits
 fc:∀d∈c.cs,d.t.fits
 r0:0<=c.rev
 r1:c.rev<=18446744073709551615
def fK.iI(c:fK):Prop:=c.bF.length<=34/\c.no.length<=34/\c.cs.length<=34
theorem fK.is.cT{R:aB}{c:fK}(h:c.is R):ca c.enc:=⟨by
 obtain⟨i,e,a⟩:=h.hm.val
 obtain⟨j,f,b⟩:=h.hn.val
 obtain⟨k,g,d⟩:=h.hc.val
 simp[fK.enc,aE.enc,a,b,d,ap]⟩
theorem MV(v:Value)(cs:List fK)(n:Nat)(hn:n<=1000)(R b:aB)(h:RS R 12 fK.enc v cs)(hD:∀c∈cs,c.is b):
  Spec prog 18 [v,iN n] R [] λu H'=>∃T,H'=[T]/\∃ds,OS 51 12 fK.enc u ds T/\(∀d∈ds,d.is b/\d.iI)/\ds.length=min cs.length n:=by
 have hl:=h.le
 obtain⟨V,U,rfl⟩:=h.val
 refine Spec.gu (H':=[[]]) (by simp) ?_
 refine Spec.body Tryz.func18 rfl Tryz.results18 Tryz.ntmps18 rfl ?_
 refine .sr<|.ag rfl<|.z<|.ag rfl<|.zs<|.sr<|.az rfl<|.block ?_
 refine .loop (X:=Nat×List fK×Value×ay) (λy=>(y.1<=cs.length/\y.1<=n/\y.2.1.length=y.1)/\OS 51 12 fK.enc y.2.2.1 y.2.1 y.2.2.2/\∀d∈y.2.1,d.is b/\d.iI) (λy=>[(0,.slice V cs.length U),(1,iN n),(5,y.2.2.1),(6,iN y.1)]) (λy=>[y.2.2.2]) (λy=>cs.length-y.1) (0,[],sZ,[]) ⟨⟨Nat.zero_le _,Nat.zero_le _,rfl⟩,OS.nil,by simp⟩ kE.c.c.c.c rH ?_
 rintro⟨i,ds,vo,H⟩ ⟨⟨hi,a6,a3⟩,I,S⟩
 simp only at hi a6 a3 I S⊢
 have io:=I.ap
 refine .seq<|.sr<|.mo rfl<|.mo rfl<|.q (.bH h) ?_
 refine .q .lss<|.mo rfl ?_
 refine .split (t:=12) rfl (λo=>?_) (λo=>?_)
 refine .gT o<|.mo rfl<|.gT o<|.mo rfl<|.gT o<|.q .lss<|.q (.aT o) ?_
 refine .zn ?_
 refine .cond rfl (λh1=>?_) λh1=>?_
 have a1:i<cs.length/\i<n:=by simp_all
 obtain⟨c,hc⟩:∃c,cs[i]? =some c:=⟨_,aX a1.1⟩
 have a:=hD c (aO hc)
 have a8:=a.cT
 refine .kn<|.seq<|.block<|.sr<|.mo rfl<|.mo rfl ?_
 refine .bx i h hc (λa9=>?_)
 obtain⟨r,O,Q,N,f,s,e,g,j⟩:=c
 have l:RS b 7 aE.enc O e:=a.hm
 have m:RS b 7 aE.enc Q g:=a.hn
 have k:RS b 8 cD.enc N j:=a.hc
 obtain⟨E,B,rfl⟩:=l.val
 obtain⟨F,C,rfl⟩:=m.val
 obtain⟨D,A,rfl⟩:=k.val
 have L:ca (fK.enc ⟨r,.slice E e.length B,.slice F g.length C,.slice D j.length A,f,s,e,g,j⟩):=a.cT
 refine .q (.aM rfl) ?_
 refine .bX (λG=>?_)
 refine .bP rfl rfl<|.zs<|.sr<|.fa rfl<|.lo rfl<|.q (.bH l) ?_
 refine .q .gtr<|.zn ?_
 refine bz.cut (X:=fK) (λd=>d.is b/\d.bF.length<=34) (λd=>[(0,.slice V cs.length U),(1,iN n),(5,vo),(6,iN i),(7,pT G)]) (λd=>[bl G d.enc 51,H]) ?_ ?_
 refine .cond rfl (λW=>?_) λW=>?_
 refine .region<|.fa rfl<|.lo rfl ?_
 refine .oJ (R':=b) 0 34 l rfl ⟨_,rfl⟩ (by omega) (by have:=bS W;first|omega|(simp only at this;omega)) (λM p=>?_)
 have a4:=p.ap
 refine .fa rfl<|.dZ rfl rfl<|.nil ?_
 ·exact aF ⟨r,M,.slice F g.length C,.slice D j.length A,f,s,(e.drop 0).take (34-0),g,j⟩ ⟨⟨p,m,k,λt J=>a.fm t (List.mem_of_mem_drop (List.mem_of_mem_take J)),a.fn,a.fc,a.r0,a.r1⟩,by simp;omega⟩ kE.c.c.c.c.c rH
 refine .skip ?_
 ·exact aF _ ⟨a,by have:=bA W;first|omega|(simp only at this;omega)|(simp only;omega)⟩ kE.c.c.c.c.c rH
 intro x K
 clear L l m k a
 obtain⟨a,w⟩:=K
 obtain⟨r,O,Q,N,f,s,e,g,j⟩:=x
 have l:RS b 7 aE.enc O e:=a.hm
 have m:RS b 7 aE.enc Q g:=a.hn
 have k:RS b 8 cD.enc N j:=a.hc
 obtain⟨E,B,rfl⟩:=l.val
 obtain⟨F,C,rfl⟩:=m.val
 obtain⟨D,A,rfl⟩:=k.val
 have L:ca (fK.enc ⟨r,.slice E e.length B,.slice F g.length C,.slice D j.length A,f,s,e,g,j⟩):=a.cT
 refine av<|.seq<|.sr<|.fa rfl<|.lo rfl<|.q (.bH m) ?_
 refine .q .gtr<|.zn ?_
 refine bz.cut (X:=fK) (λd=>d.is b/\d.bF.length<=34/\d.no.length<=34) (λd=>[(0,.slice V cs.length U),(1,iN n),(5,vo),(6,iN i),(7,pT G)]) (λd=>[bl G d.enc 51,H]) ?_ ?_
 refine .cond rfl (λY=>?_) λY=>?_
 refine .region<|.fa rfl<|.lo rfl ?_
 refine .oJ (R':=b) 0 34 m rfl ⟨_,rfl⟩ (by omega) (by have:=bS Y;first|omega|(simp only at this;omega)) (λM p=>?_)
 have a4:=p.ap
 refine .fa rfl<|.dZ rfl rfl<|.nil ?_
 ·exact aF ⟨r,.slice E e.length B,M,.slice D j.length A,f,s,e,(g.drop 0).take (34-0),j⟩ ⟨⟨l,p,k,a.fm,λt J=>a.fn t (List.mem_of_mem_drop (List.mem_of_mem_take J)),a.fc,a.r0,a.r1⟩,w,by simp;omega⟩ kE.c.c.c.c.c rH
 refine .skip ?_
 ·exact aF _ ⟨a,w,by have:=bA Y;first|omega|(simp only at this;omega)|(simp only;omega)⟩ kE.c.c.c.c.c rH
 intro x K
 clear L l m k a w
 obtain⟨a,w,a0⟩:=K
 obtain⟨r,O,Q,N,f,s,e,g,j⟩:=x
 have l:RS b 7 aE.enc O e:=a.hm
 have m:RS b 7 aE.enc Q g:=a.hn
 have k:RS b 8 cD.enc N j:=a.hc
 obtain⟨E,B,rfl⟩:=l.val
 obtain⟨F,C,rfl⟩:=m.val
 obtain⟨D,A,rfl⟩:=k.val
 have L:ca (fK.enc ⟨r,.slice E e.length B,.slice F g.length C,.slice D j.length A,f,s,e,g,j⟩):=a.cT
 refine av<|.seq<|.sr<|.fa rfl<|.lo rfl<|.q (.bH k) ?_
 refine .q .gtr<|.zn ?_
 refine bz.cut (X:=fK) (λd=>d.is b/\d.iI) (λd=>[(0,.slice V cs.length U),(1,iN n),(5,vo),(6,iN i),(7,pT G)]) (λd=>[bl G d.enc 51,H]) ?_ ?_
 refine .cond rfl (λZ=>?_) λZ=>?_
 refine .region<|.fa rfl<|.lo rfl ?_
 refine .oJ (R':=b) 0 34 k rfl ⟨_,rfl⟩ (by omega) (by have:=bS Z;first|omega|(simp only at this;omega)) (λM p=>?_)
 have a4:=p.ap
 refine .fa rfl<|.dZ rfl rfl<|.nil ?_
 ·exact aF ⟨r,.slice E e.length B,.slice F g.length C,M,f,s,e,g,(j.drop 0).take (34-0)⟩ ⟨⟨l,m,p,a.fm,a.fn,λt J=>a.fc t (List.mem_of_mem_drop (List.mem_of_mem_take J)),a.r0,a.r1⟩,w,a0,by simp;omega⟩ kE.c.c.c.c.c rH
 refine .skip ?_
 ·exact aF _ ⟨a,w,a0,by have:=bA Z;first|omega|(simp only at this;omega)|(simp only;omega)⟩ kE.c.c.c.c.c rH
 intro x K
 clear L l m k a w a0
 obtain⟨a,a5⟩:=K
 have ix:=a.cT
 refine av<|.region<|.mo rfl<|.q (.aM rfl) ?_
 refine .ej (λa7=>?_)
 refine .append I (RS.lits (xs:=[x]) rfl (by simp[fK.enc,aE.enc]) (by have:=ix.h;simpa using this)) (by simp;omega) (λv7 T7 a2=>?_)
 have i7:=a2.ap
 refine .ag rfl<|.nil<|aV<|av<|.region<|.mo rfl ?_
 refine .ia (i+1) .add ?_
 refine .ag rfl<|.nil ?_
 ·exact aW (i+1,ds++[x],v7,T7) ⟨⟨a1.1,a1.2,by simp[a3]⟩,a2,λd hd=>by
   rcases List.mem_append.1 hd with hd|hd
   ·exact S d hd
   ·simp only[List.mem_singleton]at hd
    subst hd
    exact⟨a,a5⟩⟩ (by simp only;omega) kE.c.c.c.c (aQ [2])
 refine .exit<|bm<|bs<|bo<|av<|.sr<|.mo rfl<|.az rfl ?_
 refine .ret (bp _ (.one (.tmp rfl)) (.one [0] _) ?_)
 ·refine⟨H,by simp[take],ds,I,S,?_⟩
  simp_all
  omega
 refine .gF o<|.gF o<|.gF o<|.q (.aS o) ?_
 refine .zn<|.cP<|.exit<|bm<|bs<|bo<|av<|.sr<|.mo rfl<|.az rfl ?_
 refine .ret (bp _ (.one (.tmp rfl)) (.one [0] _) ?_)
 ·refine⟨H,by simp[take],ds,I,S,?_⟩
  simp_all
  omega
section
variable{c:Cf}{num:List Nat}{sub:bc->List Sub}{k:bc}
theorem AF:∀i,(∀j,j<i->j<(opened c num sub k j).1.length)->(opened c num sub k i).2=dC (((opened c num sub k i).1.take i).map λp=>kC p.leads.flatten)
 |0,_=>rfl
 |i+1,hlt=>by
  have n:=AF i λj o=>hlt j (by omega)
  have d:=hlt i (by omega)
  obtain⟨a,b⟩:∃a,a=(opened c num sub k i).1:=⟨_,rfl⟩
  have f:(opened c num sub k (i+1)).1=(eH c num sub a i).1:=by rw[b];rfl
  have g:(opened c num sub k (i+1)).2=(opened c num sub k i).2+(eH c num sub a i).2:=by rw[b];rfl
  rw[f,g,n, <-b]
  rw[<-b]at d
  obtain⟨p,m⟩:=bL d
  unfold eH
  simp only[m]
  obtain⟨⟨l,e,_⟩,_⟩:=lz (c:=c) (num:=num) (sub:=sub) p.k p.nodes a
  have h:∀q:bM,(((de c num sub p.k a p.nodes).1.set i q).take (i+1))=a.take i++[q]:=λq=>by
   rw[List.take_add_one]
   congr 1
   ·refine List.ext_getElem? λj=>?_
    rw[List.getElem?_take,List.getElem?_take]
    split
    ·rw[List.getElem?_set_ne (by omega),e,List.getElem?_append_left (by omega)]
    ·rfl
   ·rw[List.getElem?_set_self (by rw[e];simp;omega)]
    rfl
  rw[h,List.map_append,sI]
  simp[dC]
def fL(ps:List bM)(j:Nat):List Nat:=(List.range ps.length).filter λi=>((ps[i]?).map λp=>decide (j∈p.leads.flatten)).getD false
theorem N9{l:List Nat}{n:Nat}(h:∀x∈l,x<n):kC l=(List.range n).countP λj=>decide (j∈l):=by
 obtain⟨c,b⟩:=qM l [] List.nodup_nil
 rw[List.countP_eq_length_filter]
 refine Nat.le_antisymm ?_ ?_
 ·exact oC c λx a=>List.mem_filter.2 ⟨List.mem_range.2 (h x (((b x).1 a).resolve_left (by simp))),by simpa using((b x).1 a).resolve_left (by simp)⟩
 ·refine oC (List.nodup_range.filter _) λx a=>?_
  have:=(List.mem_filter.1 a).2
  exact(b x).2 (.inr (by simpa using this))
theorem NT(f:Nat->Nat)(ps:List bM)(g:bM->Nat)(h:∀i p,ps[i]? =some p->f i=g p):dC ((List.range ps.length).map f)=dC (ps.map g):=by
 congr 1
 refine List.ext_getElem? λi=>?_
 rw[List.getElem?_map,List.getElem?_map]
 by_cases a:i<ps.length
 ·rw[List.getElem?_range a,aX a,Option.map_some,Option.map_some,h i _ (aX a)]
 ·rw[List.getElem?_eq_none (by simpa using a),List.getElem?_eq_none (by omega)]
  rfl
theorem CF{ps:List bM}(h:∀p∈ps,∀x∈p.leads.flatten,x<ps.length):dC ((List.range ps.length).map λj=>(fL ps j).length)=dC (ps.map λp=>kC p.leads.flatten):=by
 have b:∀j,(fL ps j).length=(List.range ps.length).countP λi=>((ps[i]?).map λp=>decide (j∈p.leads.flatten)).getD false:=λj=>by
  unfold fL;rw[List.countP_eq_length_filter]
 simp only[b]
 rw[sJ (λ(j i:Nat)=>((ps[i]?).map λp=>decide (j∈p.leads.flatten)).getD false) (List.range ps.length) (List.range ps.length)]
 refine NT _ ps _ λi p a=>?_
 rw[N9 (h p (aO a))]
 simp only[a,Option.map_some,Option.getD_some]
end
def pj(n:Nat)(b:Nat->Nat)(v:Nat->Bool):Nat:=dC ((List.range n).map λj=>if v j then b j else 0)
theorem z9(b:Nat->Nat)(i:Nat):∀n,dC ((List.range n).map λj=>if j=i then b j else 0)=if i<n then b i else 0
 |0=>rfl
 |n+1=>by
  rw[List.range_succ,List.map_append,sI,z9 b i n]
  simp only[List.map_cons,List.map_nil,dC,List.foldr_cons,List.foldr_nil,Nat.add_zero]
  by_cases h:n=i
  ·subst h;simp
  ·rw[if_neg h]
   by_cases a:i<n
   ·rw[if_pos a,if_pos (by omega)];rfl
   ·rw[if_neg a,if_neg (by omega)]
theorem CR{n:Nat}{b:Nat->Nat}{v:Nat->Bool}{i:Nat}(a:i<n)(c:v i=false):pj n b (λj=>v j||decide (j=i))=pj n b v+b i:=by
 have h:=z9 b i n
 rw[if_pos a]at h
 unfold pj
 rw[<-h, <-sH]
 congr 1
 refine List.map_congr_left λj _=>?_
 by_cases e:j=i
 ·subst e;simp[c]
 ·simp[e]
theorem CS{n:Nat}{b:Nat->Nat}{v:Nat->Bool}:pj n b v<=dC ((List.range n).map b):=ow λj _=>by split<;>omega
structure lv(W:ByteArray->Bool)(F:ByteArray->ByteArray->Bool)(c:Cf)(num:List Nat):Prop where
 right:c.right W F=true
 dU:c.dU
 ex:∃E,c.gO=some E/\iQ E num
 len:num.length=c.all.length
 lt:∀i,num.getD i 0<=c.all.length
theorem OA{W:ByteArray->Bool}{F:ByteArray->ByteArray->Bool}{c:Cf}(h:(c.numbers W F).1=0):∃num,(c.numbers W F).2=rows c.bg num/\lv W F c num:=by
 unfold Cf.numbers at h⊢
 by_cases k:c.right W F=false
 ·rw[if_pos k]at h;cases h
 ·rw[if_neg k]at h⊢
  by_cases l:¬c.dU
  ·rw[if_pos l]at h;cases h
  ·rw[if_neg l]at h⊢
   cases he:c.gO with
   |none=>rw[he]at h;cases h
   |some E=>
    rw[he]at h
    simp only at h⊢
    by_cases g:kr E c.all.length=true
    ·rw[if_pos g]at h⊢
     have b:∀e∈E,e.f<c.all.length:=λe a=>(qt he e a).1
     have d:∀e∈E,e.t<c.all.length:=λe a=>(qt he e a).2
     refine⟨_,rfl,⟨by simpa using k,Decidable.not_not.1 l,⟨E,he,?_⟩,kX _,λi=>?_⟩⟩
     ·rcases Nat.eq_zero_or_pos c.all.length with h0|hn
      ·intro e a
       exact absurd (b e a) (by omega)
      ·obtain⟨v,m⟩:=(rQ b d hn).1 g
       obtain⟨n,j,_⟩:=sE b d m hn
       rw[j (c.all.length+1) (by omega)]
       exact n
     ·rcases Nat.eq_zero_or_pos c.all.length with h0|hn
      ·have:(level E c.all.length (c.all.length+1)).length=0:=by rw[kX,h0]
       rw[List.length_eq_zero_iff.1 this]
       simp
      ·obtain⟨v,m⟩:=(rQ b d hn).1 g
       obtain⟨_,j,o⟩:=sE b d m hn
       rw[j (c.all.length+1) (by omega)]
       exact Nat.le_of_lt (o i)
    ·rw[if_neg g]at h;cases h
section
variable{W:ByteArray->Bool}{F:ByteArray->ByteArray->Bool}{c:Cf}{num:List Nat}{sub:bc->List Sub}{k:bc}{N:Nat}
theorem lv.Od(h:lv W F c num)(a:eW c num sub k N)(user:ByteArray):(eK (opened c num sub k N).1 user).OK:=by
 obtain⟨E,d,e⟩:=h.ex
 have b:=qP N a.2
 refine Oe d e h.right (sub:=sub) (num:=num) ⟨b.one,λj p g f=>b.op j p (by have:=a.1;omega) f⟩ user
theorem lv.kZ(h:lv W F c num)(f:eW c num sub k N)(user:ByteArray):∀i,i<(eK (opened c num sub k N).1 user).n->(eK (opened c num sub k N).1 user).num i<=c.all.length:=λi d=>by
 have b:=qP (c:=c) (num:=num) (sub:=sub) (k:=k) N f.2
 obtain⟨a,g⟩:∃a,a=(opened c num sub k N).1:=⟨_,rfl⟩
 rw[<-g]at b d⊢
 show((a[i]?).map (·.number)).getD 0<=_
 have e:i<a.length:=d
 rw[aX e,Option.map_some,Option.getD_some,(b.one _ (List.getElem_mem e)).2.2]
 unfold one
 split
 ·exact Nat.zero_le _
 ·exact h.lt _
end
abbrev QS:=List Bool×List Bool
def jA(q:List Bool):List Nat:=(List.range q.length).filter λi=>q.getD i false
def fV(ps:List bM)(i:Nat):Nat:=((ps[i]?).map (·.number)).getD 0
def mI(ps:List bM)(q:List Bool)(i:Nat):Prop:=q.getD i false=true/\∀j,q.getD j false=true->fV ps i<fV ps j\/(fV ps i=fV ps j/\i<=j)
def gJ(v q:List Bool)(k:Nat):List Bool:=if v.getD k false then q else q.set k true
def qT(ps:List bM)(user:ByteArray)(s:QS)(i:Nat):QS:=
 if s.1.getD i false|| !(eK ps user).ex i (λj=>s.1.getD j false)then(s.1,s.2.set i false)
 else(s.1.set i true,(fL ps i).foldl (gJ (s.1.set i true)) (s.2.set i false))
inductive dV(ps:List bM)(user:ByteArray):Nat->QS->Prop
 |start:dV ps user 0 (List.replicate ps.length false,ps.map (·.found))
 |step {k:Nat} {s:QS} {i:Nat}:dV ps user k s->mI ps s.2 i->dV ps user (k+1) (qT ps user s i)
section
variable{ps:List bM}{user:ByteArray}
theorem mI.dU{q:List Bool}{i j:Nat}(h:mI ps q i)(a:mI ps q j):i=j:=by
 have b:=h.2 j a.1
 have c:=a.2 i h.1
 omega
theorem dV.dU:∀{k:Nat} {s t:QS},dV ps user k s->dV ps user k t->s=t
 |0,_,_,.start,.start=>rfl
 |k+1,_,_,.step h1 n1,.step h2 n2=>by
  have e:=dV.dU h1 h2
  subst e
  rw[n1.dU n2]
theorem dV.wj{m:Nat}:∀{k:Nat} {s:QS},dV ps user k s->m<k->∃t i,dV ps user m t/\mI ps t.2 i
 |0,_,_,hm=>absurd hm (by omega)
 |k+1,_,.step (i:=i) (s:=s) h n,hm=>by
  by_cases e:m=k
  ·subst e;exact⟨s,i,h,n⟩
  ·exact dV.wj h (by omega)
def ja(q:List Bool):Prop:=∀i,q.getD i false=false
theorem dV.last{k m:Nat}{s t:QS}(h:dV ps user k s)(b:ja s.2)(a:dV ps user m t)(g:ja t.2):k=m/\s=t:=by
 have c:∀{k m:Nat} {s t:QS},dV ps user k s->ja s.2->dV ps user m t->¬k<m:=by
  intro k m s t h b a f
  obtain⟨u,i,j,d⟩:=a.wj f
  have e:=h.dU j
  subst e
  have:=d.1
  rw[b i]at this
  cases this
 have e:k=m:=by
  have l:=c h b a
  have n:=c a g h
  omega
 subst e
 exact⟨rfl,h.dU a⟩
theorem fW{q:List Bool}{i:Nat}:i∈jA q↔q.getD i false=true:=by
 unfold jA
 rw[List.mem_filter,List.mem_range]
 constructor
 ·exact λh=>h.2
 ·intro h
  refine⟨?_,h⟩
  rcases Nat.lt_or_ge i q.length with h1|h1
  ·exact h1
  ·rw[List.getD_eq_getElem?_getD,List.getElem?_eq_none h1]at h;cases h
theorem Oi{q:List Bool}(h:¬ja q):∃i,mI ps q i:=by
 have g:∀(l:List Nat),l≠[]->∃i∈l,∀j∈l,fV ps i<fV ps j\/(fV ps i=fV ps j/\i<=j):=by
  intro l
  induction l with
  |nil=>exact λh=>absurd rfl h
  |cons x l ih=>
   intro _
   by_cases c:l=[]
   ·subst c
    exact⟨x,List.mem_cons_self,λj hj=>by rw[List.mem_singleton]at hj;subst hj;exact .inr ⟨rfl,Nat.le_refl _⟩⟩
   ·obtain⟨i,b,a⟩:=ih c
    by_cases f:fV ps i<fV ps x\/(fV ps i=fV ps x/\i<=x)
    ·refine⟨i,List.mem_cons_of_mem _ b,λj hj=>?_⟩
     rcases List.mem_cons.1 hj with rfl|hj
     ·exact f
     ·exact a j hj
    ·refine⟨x,List.mem_cons_self,λj hj=>?_⟩
     rcases List.mem_cons.1 hj with rfl|hj
     ·exact .inr ⟨rfl,Nat.le_refl _⟩
     ·have:=a j hj;omega
 have d:jA q≠[]:=by
  intro e
  refine h λi=>?_
  cases hq:q.getD i false with
  |false=>rfl
  |true=>
   have:=fW.2 hq
   rw[e]at this
   cases this
 obtain⟨i,b,a⟩:=g _ d
 exact⟨i,fW.1 b,λj hj=>a j (fW.2 hj)⟩
theorem pi(l:List Bool)(i j:Nat)(x:Bool)(h:i<l.length):(l.set i x).getD j false=if i=j then x else l.getD j false:=by
 rw[List.getD_eq_getElem?_getD,List.getElem?_set,List.getD_eq_getElem?_getD]
 split
 ·rename_i e;subst e;simp
 ·rfl
theorem w8(v:List Bool):∀(l:List Nat) (q:List Bool),(l.foldl (gJ v) q).length=q.length
 |[],_=>rfl
 |k::l,q=>by
  rw[List.foldl_cons,w8 v l,gJ]
  split
  ·rfl
  ·exact List.length_set
theorem B7(v:List Bool)(x:Nat):∀(l:List Nat) (q:List Bool),(∀k∈l,k<q.length)->((l.foldl (gJ v) q).getD x false=true↔q.getD x false=true\/(x∈l/\v.getD x false=false))
 |[],q,_=>by simp
 |k::l,q,h=>by
  have c:k<q.length:=h k List.mem_cons_self
  have d:(gJ v q k).length=q.length:=by unfold gJ;split<;>simp
  rw[List.foldl_cons,B7 v x l _ (λy f=>by rw[d];exact h y (List.mem_cons_of_mem _ f)),List.mem_cons]
  have e:(gJ v q k).getD x false=true↔q.getD x false=true\/(x=k/\v.getD x false=false):=by
   unfold gJ
   by_cases b:v.getD k false=true
   ·rw[if_pos b]
    constructor
    ·exact .inl
    ·rintro(h1|⟨rfl,h1⟩)
     ·exact h1
     ·rw[b]at h1;cases h1
   ·rw[if_neg b,pi _ _ _ _ c]
    by_cases e:k=x
    ·subst e
     rw[if_pos rfl]
     exact⟨λ_=>.inr ⟨rfl,by simpa using b⟩,λ_=>rfl⟩
    ·rw[if_neg e]
     exact⟨.inl,λh1=>h1.elim id λa=>absurd a.1.symm e⟩
  rw[e]
  constructor
  ·rintro((h1|h1)|h1)
   ·exact .inl h1
   ·exact .inr ⟨.inl h1.1,h1.2⟩
   ·exact .inr ⟨.inr h1.1,h1.2⟩
  ·rintro(h1|⟨h1|h1,a⟩)
   ·exact .inl (.inl h1)
   ·exact .inl (.inr ⟨h1,a⟩)
   ·exact .inr ⟨h1,a⟩
theorem Ox(q:List Bool)(k:Nat):dO (q.set k true)<=dO q+1/\dO q<=dO (q.set k true):=by
 rcases Nat.lt_or_ge k q.length with h|h
 ·cases hq:q.getD k false with
  |false=>rw[vK q k h hq];omega
  |true=>
   have:q.set k true=q:=by
    refine List.ext_getElem? λi=>?_
    rw[List.getElem?_set]
    split
    ·rename_i e;subst e
     rw[List.getD_eq_getElem?_getD,aX h,Option.getD_some]at hq
     simp[h,hq]
    ·rfl
   rw[this];omega
 ·rw[List.set_eq_of_length_le h];omega
theorem B8(v:List Bool):∀(l:List Nat) (q:List Bool),dO (l.foldl (gJ v) q)<=dO q+l.length/\dO q<=dO (l.foldl (gJ v) q)
 |[],q=>⟨Nat.le_refl _,Nat.le_refl _⟩
 |k::l,q=>by
  rw[List.foldl_cons]
  have b:=B8 v l (gJ v q k)
  have a:dO (gJ v q k)<=dO q+1/\dO q<=dO (gJ v q k):=by
   unfold gJ
   split
   ·omega
   ·exact Ox q k
  rw[List.length_cons]
  omega
theorem Aw:∀(q:List Bool) (i:Nat),q.getD i false=true->dO (q.set i false)+1=dO q
 |[],i,h=>by simp at h
 |b::q,0,h=>by
  have:b=true:=by simpa using h
  subst this
  simp[dO]
 |b::q,i+1,h=>by
  have a:=Aw q i (by simpa using h)
  unfold dO at a⊢
  rw[List.set_cons_succ,List.countP_cons,List.countP_cons]
  omega
theorem Ax{q:List Bool}:dO q=0↔ja q:=by
 unfold dO ja
 rw[List.countP_eq_zero]
 constructor
 ·intro h i
  rw[List.getD_eq_getElem?_getD]
  cases hq:q[i]? with
  |none=>rfl
  |some b=>have:=h b (aO hq);simpa using this
 ·intro h b c a
  obtain⟨i,d,e⟩:=List.mem_iff_getElem.1 c
  have:=h i
  rw[List.getD_eq_getElem?_getD,aX d,e]at this
  simp only[Option.getD_some]at this
  rw[this]at a
  cases a
structure kQ(ps:List bM)(user:ByteArray):Prop where
 ok:(eK ps user).OK
 lt:∀p∈ps,∀x∈p.leads.flatten,x<ps.length
 nf:∀p∈ps,p.found=false->p.leads=[]
 ln:∀p∈ps,p.leads.length=p.nodes.length
theorem Ad{i j:Nat}:i∈fL ps j↔∃p,ps[i]? =some p/\j∈p.leads.flatten:=by
 unfold fL
 rw[List.mem_filter,List.mem_range]
 constructor
 ·rintro⟨a,b⟩
  rw[aX a,Option.map_some,Option.getD_some]at b
  exact⟨_,aX a,bS b⟩
 ·rintro⟨p,a,b⟩
  refine⟨(List.getElem?_eq_some_iff.1 a).1,?_⟩
  rw[a]
  simpa using b
theorem kQ.back(h:kQ ps user){i j:Nat}:i∈fL ps j↔(eK ps user).to i j:=by
 rw[Ad]
 constructor
 ·rintro⟨p,c,d⟩
  obtain⟨l,b,k⟩:=List.mem_flatten.1 d
  obtain⟨e,f,m⟩:=List.mem_iff_getElem.1 b
  have g:e<p.nodes.length:=by rw[<-h.ln p (aO c)];exact f
  refine⟨p,c,e,p.nodes[e],aX g,?_⟩
  rw[List.getD_eq_getElem?_getD,aX f,m]
  exact k
 ·rintro⟨p,c,e,n,d,a⟩
  refine⟨p,c,List.mem_flatten.2 ?_⟩
  rw[List.getD_eq_getElem?_getD]at a
  cases b:p.leads[e]? with
  |none=>rw[b]at a;cases a
  |some l=>rw[b]at a;exact⟨l,aO b,a⟩
theorem kQ.rK(h:kQ ps user){i j:Nat}(c:i∈fL ps j):i<ps.length/\(eK ps user).f i=true:=by
 obtain⟨p,a,b⟩:=Ad.1 c
 refine⟨(List.getElem?_eq_some_iff.1 a).1,?_⟩
 show((ps[i]?).map (·.found)).getD false=true
 rw[a]
 cases hf:p.found with
 |true=>simp[hf]
 |false=>rw[h.nf p (aO a) hf]at b;cases b
def iL(ps:List bM):Nat:=dO (ps.map (·.found))
structure mZ(ps:List bM)(user:ByteArray)(k:Nat)(s:QS):Prop where
 l1:s.1.length=ps.length
 l2:s.2.length=ps.length
 inv:iV (eK ps user) (λj=>s.1.getD j false) (jA s.2)
 up:k+dO s.2<=iL ps+pj ps.length (λj=>(fL ps j).length) (λj=>s.1.getD j false)
 lo:iL ps<=k+dO s.2
theorem zm(n i:Nat):(List.replicate n false).getD i false=false:=by
 rw[List.getD_eq_getElem?_getD,List.getElem?_replicate]
 split<;>rfl
theorem zl(i:Nat):(ps.map (·.found)).getD i false=(eK ps user).f i:=by
 show _=((ps[i]?).map (·.found)).getD false
 rw[List.getD_eq_getElem?_getD,List.getElem?_map]
theorem mZ.start:mZ ps user 0 (List.replicate ps.length false,ps.map (·.found)):=by
 refine⟨by simp,by simp,?_,?_,?_⟩
 ·have e:(λj=>(List.replicate ps.length false).getD j false)=λ_=>false:=funext λj=>zm _ j
  show iV _ (λj=>(List.replicate ps.length false).getD j false) _
  rw[e]
  refine iV.start (λi a=>?_) λi a c=>?_
  ·have b:=fW.1 a
   rw[zl (user:=user)]at b
   refine⟨?_,b⟩
   unfold jA at a
   have:=List.mem_range.1 (List.mem_filter.1 a).1
   rw[List.length_map]at this
   exact this
  ·exact fW.2 (by rw[zl (user:=user)];exact c)
 ·show 0+iL ps<=_;omega
 ·show iL ps<=0+iL ps;omega
theorem mZ.step(ok:kQ ps user){k:Nat}{s:QS}{i:Nat}(h:mZ ps user k s)(c:mI ps s.2 i):mZ ps user (k+1) (qT ps user s i):=by
 obtain⟨v,q⟩:=s
 obtain⟨g,d,f,E,D⟩:=h
 simp only at g d f E D c
 have G:=Aw q i c.1
 have z:=f.q i (fW.2 c.1)
 have m:i<ps.length:=z.1
 have r:∀x,(q.set i false).getD x false=true↔q.getD x false=true/\x≠i:=λx=>by
  rw[pi _ _ _ _ (by rw[d];exact m)]
  by_cases e:i=x
  ·rw[if_pos e];exact⟨λh=>(by cases h),λh=>absurd e.symm h.2⟩
  ·rw[if_neg e];exact⟨λh=>⟨h,λu=>e u.symm⟩,λh=>h.1⟩
 unfold qT
 simp only
 split
 ·rename_i b
  refine⟨g,by simpa using d,?_,?_,?_⟩
  ·refine f.skip (i:=i) (λx=>by rw[fW,fW];exact r x) ?_
   simp only[Bool.or_eq_true,Bool.not_eq_true']at b
   exact b
  ·simp only;omega
  ·simp only;omega
 ·rename_i b
  simp only[Bool.or_eq_true,Bool.not_eq_true',not_or,Bool.not_eq_true,Bool.not_eq_false]at b
  obtain⟨t,w⟩:=b
  have p:i<v.length:=by rw[g];exact m
  have o:=Bo v i p
  have F:=B8 (v.set i true) (fL ps i) (q.set i false)
  have l:∀x,((fL ps i).foldl (gJ (v.set i true)) (q.set i false)).getD x false=true↔(q.getD x false=true/\x≠i)\/(x∈fL ps i/\(v.set i true).getD x false=false):=λx=>by
   rw[B7 _ _ _ _ λy C=>by rw[List.length_set,d];exact(ok.rK C).1,r]
  refine⟨by simpa using g,by rw[w8];simpa using d,?_,?_,?_⟩
  ·show iV _ (λj=>(v.set i true).getD j false) _
   rw[o]
   refine f.take ok.ok (fW.2 c.1) (λx a=>?_) t w (λx a=>?_) (λx a n=>?_) (λx a H A B n=>?_)
   ·have:=c.2 x (fW.1 a)
    show fV ps i<=fV ps x
    omega
   ·rcases(l x).1 (fW.1 a)with h1|h1
    ·exact .inl ⟨fW.2 h1.1,h1.2⟩
    ·exact .inr ⟨(ok.rK h1.1).1,(ok.rK h1.1).2,ok.back.1 h1.1⟩
   ·exact fW.2 ((l x).2 (.inl ⟨fW.1 a,n⟩))
   ·refine fW.2 ((l x).2 (.inr ⟨ok.back.2 A,?_⟩))
    rw[pi _ _ _ _ p,if_neg λe=>n e.symm]
    exact B
  ·show k+1+dO ((fL ps i).foldl (gJ (v.set i true)) (q.set i false))<=iL ps+pj ps.length (λj=>(fL ps j).length) (λj=>(v.set i true).getD j false)
   rw[o,CR m t]
   omega
  ·show iL ps<=k+1+dO ((fL ps i).foldl (gJ (v.set i true)) (q.set i false))
   omega
theorem dV.inv(ok:kQ ps user):∀{k:Nat} {s:QS},dV ps user k s->mZ ps user k s
 |0,_,.start=>.start
 |k+1,_,.step h n=>(dV.inv ok h).step ok n
def oz(ps:List bM):Nat:=dC (ps.map λp=>kC p.leads.flatten)
theorem mZ.kZ(ok:kQ ps user){k:Nat}{s:QS}(h:mZ ps user k s):k+dO s.2<=iL ps+oz ps:=by
 have a:=h.up
 have c:=CS (n:=ps.length) (b:=λj=>(fL ps j).length) (v:=λj=>s.1.getD j false)
 have d:=CF ok.lt
 unfold oz
 omega
theorem dV.ends(ok:kQ ps user):∃K s,dV ps user K s/\ja s.2:=by
 have e:∀d k s,dV ps user k s->iL ps+oz ps-k=d->∃K s,dV ps user K s/\ja s.2:=by
  intro d
  induction d with
  |zero=>
   intro k s h b
   have f:=(h.inv ok).kZ ok
   refine⟨k,s,h,Ax.1 ?_⟩
   omega
  |succ d ih=>
   intro k s h b
   by_cases a:ja s.2
   ·exact⟨k,s,h,a⟩
   ·obtain⟨i,c⟩:=Oi (ps:=ps) a
    exact ih (k+1) _ (.step h c) (by omega)
 exact e _ 0 _ .start rfl
theorem dV.end_(ok:kQ ps user){K:Nat}{s:QS}(h:dV ps user K s)(k:ja s.2):
  s.1.length=ps.length/\iL ps<=K/\K<=iL ps+oz ps/\(∀i,i<ps.length->s.1.getD i false=((eK ps user).f i&&(eK ps user).ex i λj=>s.1.getD j false))/\
  ∀kZ,(∀i,i<ps.length->fV ps i<=kZ)->s.1=nq (eK ps user) kZ:=by
 have a:=h.inv ok
 have p:=Ax.2 k
 have q:=a.kZ ok
 have r:=a.lo
 have n:jA s.2=[]:=List.eq_nil_iff_forall_not_mem.2 λi a=>by
  have:=fW.1 a
  rw[k i]at this
  cases this
 have c:=a.inv
 rw[n]at c
 refine⟨a.l1,by omega,by omega,λi o=>c.model ok.ok i o,λkZ g=>?_⟩
 have d:=(yq ok.ok g).1
 refine List.ext_getElem? λj=>?_
 have b:=QT ok.ok g c j
 rw[List.getD_eq_getElem?_getD,List.getD_eq_getElem?_getD]at b
 by_cases e:j<ps.length
 ·have l:j<s.1.length:=by rw[a.l1];exact e
  have m:j<(nq (eK ps user) kZ).length:=by show j<(jT _ _ _ _).length;rw[d];exact e
  rw[aX l,aX m]at b⊢
  simp only[Option.getD_some]at b
  rw[b]
 ·rw[List.getElem?_eq_none (by rw[a.l1];omega),List.getElem?_eq_none (by show(jT _ _ _ _).length<=j;rw[d];show ps.length<=j;omega)]
end
section
variable{W:ByteArray->Bool}{F:ByteArray->ByteArray->Bool}{c:Cf}{num:List Nat}{sub:bc->List Sub}{k:bc}{N:Nat}
theorem eW.gr(a:eW c num sub k N):ru c num sub (opened c num sub k N).1 (opened c num sub k N).1.length:=by
 have h:=qP N a.2
 exact⟨h.one,λj p b d=>h.op j p (Nat.lt_of_lt_of_le b a.1) d⟩
theorem AB{x:bc}(h:(one c num x).found=false):(one c num x).nodes=[]:=by
 unfold one at h⊢
 split at h
 ·rfl
 ·cases h
theorem lv.ps(h:lv W F c num)(j:eW c num sub k N)(user:ByteArray):kQ (opened c num sub k N).1 user:=by
 have f:=j.gr
 refine⟨h.Od j user,λp b x v=>?_,λp b n=>?_,λp b=>?_⟩
 ·obtain⟨i,a,e⟩:=List.mem_iff_getElem.1 b
  have g:=(f.op i p a (by rw[aX a,e])).1
  obtain⟨l,s,t⟩:=List.mem_flatten.1 v
  obtain⟨m,o,q⟩:=List.mem_iff_getElem.1 s
  have u:m<p.nodes.length:=by rw[<-g.1];exact o
  have d:=g.2 m _ (aX u)
  rw[List.getD_eq_getElem?_getD,aX o,Option.getD_some,q]at d
  have r:((opened c num sub k N).1.map (·.k))[x]? ∈(dX c sub p.k p.nodes[m]).map some:=by rw[<-d];exact List.mem_map.2 ⟨x,t,rfl⟩
  obtain⟨y,_,w⟩:=List.mem_map.1 r
  have:=(List.getElem?_eq_some_iff.1 w.symm).1
  rwa [List.length_map]at this
 ·obtain⟨i,a,e⟩:=List.mem_iff_getElem.1 b
  have g:=(f.op i p a (by rw[aX a,e])).1
  obtain⟨z,A,_⟩:=f.one p b
  rw[z]at n
  have:=AB n
  rw[<-A]at this
  have d:=g.1
  rw[this]at d
  exact List.eq_nil_of_length_eq_zero d
 ·obtain⟨i,a,e⟩:=List.mem_iff_getElem.1 b
  exact(f.op i p a (by rw[aX a,e])).1.1
theorem eW.yx(a:eW c num sub k N):oz (opened c num sub k N).1=(opened c num sub k N).2:=by
 rw[AF N a.2,List.take_of_length_le a.1]
 rfl
def kb(kind:Int):ByteArray:=
 if kind=1 then⟨#[116,104,105,115]⟩else if kind=2 then⟨#[114,101,108]⟩else if kind=3 then⟨#[97,114,114,111,119]⟩else if kind=4 then⟨#[111,114]⟩else if kind=5 then⟨#[97,110,100]⟩else⟨#[98,117,116]⟩
def nC(k:bc):ByteArray:=k.os++⟨#[58]⟩++k.oi++⟨#[35]⟩++k.rel
end
namespace LTY
theorem nY(v:Value)(xs:List Ty)(R:aB)(h:RS R 2 Ty.enc v xs)(i:xs.length<=1000000):
  Spec prog 124 [v] R [] λv' H'=>∃T,H'=[T]/\OS 249 2 Ty.enc v' xs T:=by
 obtain⟨b,d,rfl⟩:=h.val
 have f:∀H,RS (Rx R H) 2 Ty.enc (.slice b xs.length d) xs:=λH=>h.rx
 refine Spec.gu (H':=[[]]) (by simp)<|Spec.body Tryz.func124 rfl Tryz.results124 Tryz.ntmps124 rfl<|.sr<|.ag rfl<|.zs<|.sr<|.mo rfl<|.q (.rU rfl rfl)<|.zn<|.cond rfl (λa=>?_) λa=>?_
 refine .sr<|.az rfl<|.ret (aH (bp _ (.one (.tmp rfl)) (.one [0] _) ?_))
 ·obtain rfl:b=none:=by simpa using a
  have:=h.sP
  subst this
  exact⟨[],rfl,OS.nil⟩
 refine .kn<|.sr ?_
 refine .rM (λg=>?_)
 refine .mo rfl ?_
 refine .append (OS.empty (enc:=Ty.enc) (sz:=2)) (f _) (by simp;omega) (λv' c e=>?_)
 refine .az rfl<|.ret (bp _ (.one (.tmp rfl)) (.one [0] _) ?_)
 ·exact⟨c,by simp[take],by simpa using e⟩
theorem mH(f:FuncId)(caps:List Value) [e:aZ prog f](p:Ty->Bool)(v:Value)(l:List Ty)(R:aB)(h:RS R 2 Ty.enc v l)(D:∀s∈l,∀R',(∀b o,R b o->R' b o)->Spec prog f ((λt:Ty=>Value.agg t.enc.toArray) s::caps) R' [] λu H'=>u=.bool (p s)/\H'=[]):
  Spec prog 227 [v,.func (.func f) #[] caps.toArray] R [] λu H'=>(∃k:Int,u=.int .i64 k/\((∃(i:Nat) (x:Ty),l[i]? =some x/\p x=true/\(∀j y,j<i->l[j]? =some y->p y=false)/\k=i)\/((∀y∈l,p y=false)/\k= -1)))/\H'=[]:=by
 have H:=h.le
 refine Spec.body Tryz.func227 rfl Tryz.results227 Tryz.ntmps227 rfl<|.sr<|.ag rfl<|.zs<|.sr<|.mo rfl<|.q (.bH h)<|.mo rfl<|.zn<|.block<|.loop (X:=Nat) (λi=>i<=l.length/\∀j z,j<i->l[j]? =some z->p z=false) (λi=>[(0,v),(1,.func (.func f) #[] caps.toArray),(7,.int .i64 l.length),(8,iN i)]) (λ_=>[]) (λi=>l.length-i) 0 ⟨by omega,by omega⟩ kE.c.c.c.c rH ?_
 rintro i ⟨G,w⟩
 refine .sr<|.q .lss<|.zs<|.cond rfl (λg=>?_) λg=>?_
 have E:i<l.length:=by simp at g;omega
 obtain⟨z,d⟩:=bL E
 have A:=aO d
 have I:=(⟨h.one z A⟩:ca (Ty.enc z))
 refine .kn<|.seq<|.block<|.sr<|.mo rfl<|.ag rfl<|.z<|.mo rfl<|.mo rfl<|.mo rfl ?_
 refine .bx i h d (λJ=>?_)
 refine .q (.aM rfl)<|.gy (first:=[]) (captured:=caps) (vs:=[(λt:Ty=>Value.agg t.enc.toArray) z]) (D z A _ λb o B=>.inl B) (λu F=>?_)
 subst F
 refine .zn<|.cond rfl (λm=>?_) λm=>?_
 refine .sr<|.mo rfl<|.az rfl<|.ret (bh (aH (cB (bh (aH (aP rfl ?_))))))
 ·exact⟨⟨_,rfl,.inl ⟨i,z,d,m,w,rfl⟩⟩,rfl⟩
 refine .skip<|aV<|av<|.region<|.q (.inc (n:=i) (by omega))<|.mo rfl<|.nil ?_
 ·exact aW (i+1) ⟨by omega,λj y r a=>by
   rcases Nat.lt_or_ge j i with hh|hh
   ·exact w j y hh a
   ·obtain rfl:j=i:=by omega
    rw[d]at a;cases a;exact m⟩ (by omega) kE.c.c.c.c rH
 refine .exit<|bm<|bs<|bo<|av<|.sr<|.az rfl<|.ret (aP rfl ?_)
 ·have C:i=l.length:=by simp at g;omega
  subst C
  refine⟨⟨_,rfl,.inr ⟨λy a=>?_,rfl⟩⟩,rfl⟩
  obtain⟨j,r,rfl⟩:=List.mem_iff_getElem.1 a
  exact w j _ r (aX r)
theorem jS(f:FuncId)(caps:List Value) [e:aZ prog f](p:Ty->Bool)(v:Value)(l:List Ty)(R:aB)(h:RS R 2 Ty.enc v l)(j:∀s∈l,∀R',(∀b o,R b o->R' b o)->Spec prog f ((λt:Ty=>Value.agg t.enc.toArray) s::caps) R' [] λu H'=>u=.bool (p s)/\H'=[]):
  Spec prog 175 [v,.func (.func f) #[] caps.toArray] R [] λu H'=>u=.bool (l.any p)/\H'=[]:=by
 refine Spec.body Tryz.func175 rfl Tryz.results175 Tryz.ntmps175 rfl<|.sr<|.ag rfl<|.z<|.mo rfl<|.mo rfl<|.aY (mH f caps p v l _ h.rx λs r R' d=>j s r R' λb o g=>d b o (.inl g)) (λu w=>?_)
 obtain⟨k,rfl,m⟩:=w
 have n:decide (0<=k)=l.any p:=by
  rcases m with⟨i,x,a,c,_,rfl⟩|⟨a,rfl⟩
  ·rw[List.any_eq_true.2 ⟨x,aO a,c⟩];simp
  ·rw[List.any_eq_false.2 λy A=>by rw[a y A];simp];rfl
 refine .q .geq<|.az rfl<|.ret (aP rfl ?_)
 ·exact⟨by simp only[n],rfl⟩
end LTY
namespace LSC
theorem nY(v:Value)(xs:List Sc)(R:aB)(h:RS R 4 Sc.enc v xs)(i:xs.length<=1000000):
  Spec prog 126 [v] R [] λv' H'=>∃T,H'=[T]/\OS 169 4 Sc.enc v' xs T:=by
 obtain⟨b,d,rfl⟩:=h.val
 have f:∀H,RS (Rx R H) 4 Sc.enc (.slice b xs.length d) xs:=λH=>h.rx
 refine Spec.gu (H':=[[]]) (by simp)<|Spec.body Tryz.func126 rfl Tryz.results126 Tryz.ntmps126 rfl<|.sr<|.ag rfl<|.zs<|.sr<|.mo rfl<|.q (.rU rfl rfl)<|.zn<|.cond rfl (λa=>?_) λa=>?_
 refine .sr<|.az rfl<|.ret (aH (bp _ (.one (.tmp rfl)) (.one [0] _) ?_))
 ·obtain rfl:b=none:=by simpa using a
  have:=h.sP
  subst this
  exact⟨[],rfl,OS.nil⟩
 refine .kn<|.sr ?_
 refine .rM (λg=>?_)
 refine .mo rfl ?_
 refine .append (OS.empty (enc:=Sc.enc) (sz:=4)) (f _) (by simp;omega) (λv' c e=>?_)
 refine .az rfl<|.ret (bp _ (.one (.tmp rfl)) (.one [0] _) ?_)
 ·exact⟨c,by simp[take],by simpa using e⟩
theorem mH(f:FuncId)(caps:List Value) [e:aZ prog f](p:Sc->Bool)(v:Value)(l:List Sc)(R:aB)(h:RS R 4 Sc.enc v l)(D:∀s∈l,∀R',(∀b o,R b o->R' b o)->Spec prog f ((λt:Sc=>Value.agg t.enc.toArray) s::caps) R' [] λu H'=>u=.bool (p s)/\H'=[]):
  Spec prog 228 [v,.func (.func f) #[] caps.toArray] R [] λu H'=>(∃k:Int,u=.int .i64 k/\((∃(i:Nat) (x:Sc),l[i]? =some x/\p x=true/\(∀j y,j<i->l[j]? =some y->p y=false)/\k=i)\/((∀y∈l,p y=false)/\k= -1)))/\H'=[]:=by
 have H:=h.le
 refine Spec.body Tryz.func228 rfl Tryz.results228 Tryz.ntmps228 rfl<|.sr<|.ag rfl<|.zs<|.sr<|.mo rfl<|.q (.bH h)<|.mo rfl<|.zn<|.block<|.loop (X:=Nat) (λi=>i<=l.length/\∀j z,j<i->l[j]? =some z->p z=false) (λi=>[(0,v),(1,.func (.func f) #[] caps.toArray),(7,.int .i64 l.length),(8,iN i)]) (λ_=>[]) (λi=>l.length-i) 0 ⟨by omega,by omega⟩ kE.c.c.c.c rH ?_
 rintro i ⟨G,w⟩
 refine .sr<|.q .lss<|.zs<|.cond rfl (λg=>?_) λg=>?_
 have E:i<l.length:=by simp at g;omega
 obtain⟨z,d⟩:=bL E
 have A:=aO d
 have I:=(⟨h.one z A⟩:ca (Sc.enc z))
 refine .kn<|.seq<|.block<|.sr<|.mo rfl<|.ag rfl<|.z<|.mo rfl<|.mo rfl<|.mo rfl ?_
 refine .bx i h d (λJ=>?_)
 refine .q (.aM rfl)<|.gy (first:=[]) (captured:=caps) (vs:=[(λt:Sc=>Value.agg t.enc.toArray) z]) (D z A _ λb o B=>.inl B) (λu F=>?_)
 subst F
 refine .zn<|.cond rfl (λm=>?_) λm=>?_
 refine .sr<|.mo rfl<|.az rfl<|.ret (bh (aH (cB (bh (aH (aP rfl ?_))))))
 ·exact⟨⟨_,rfl,.inl ⟨i,z,d,m,w,rfl⟩⟩,rfl⟩
 refine .skip<|aV<|av<|.region<|.q (.inc (n:=i) (by omega))<|.mo rfl<|.nil ?_
 ·exact aW (i+1) ⟨by omega,λj y r a=>by
   rcases Nat.lt_or_ge j i with hh|hh
   ·exact w j y hh a
   ·obtain rfl:j=i:=by omega
    rw[d]at a;cases a;exact m⟩ (by omega) kE.c.c.c.c rH
 refine .exit<|bm<|bs<|bo<|av<|.sr<|.az rfl<|.ret (aP rfl ?_)
 ·have C:i=l.length:=by simp at g;omega
  subst C
  refine⟨⟨_,rfl,.inr ⟨λy a=>?_,rfl⟩⟩,rfl⟩
  obtain⟨j,r,rfl⟩:=List.mem_iff_getElem.1 a
  exact w j _ r (aX r)
theorem jS(f:FuncId)(caps:List Value) [e:aZ prog f](p:Sc->Bool)(v:Value)(l:List Sc)(R:aB)(h:RS R 4 Sc.enc v l)(j:∀s∈l,∀R',(∀b o,R b o->R' b o)->Spec prog f ((λt:Sc=>Value.agg t.enc.toArray) s::caps) R' [] λu H'=>u=.bool (p s)/\H'=[]):
  Spec prog 178 [v,.func (.func f) #[] caps.toArray] R [] λu H'=>u=.bool (l.any p)/\H'=[]:=by
 refine Spec.body Tryz.func178 rfl Tryz.results178 Tryz.ntmps178 rfl<|.sr<|.ag rfl<|.z<|.mo rfl<|.mo rfl<|.aY (mH f caps p v l _ h.rx λs r R' d=>j s r R' λb o g=>d b o (.inl g)) (λu w=>?_)
 obtain⟨k,rfl,m⟩:=w
 have n:decide (0<=k)=l.any p:=by
  rcases m with⟨i,x,a,c,_,rfl⟩|⟨a,rfl⟩
  ·rw[List.any_eq_true.2 ⟨x,aO a,c⟩];simp
  ·rw[List.any_eq_false.2 λy A=>by rw[a y A];simp];rfl
 refine .q .geq<|.az rfl<|.ret (aP rfl ?_)
 ·exact⟨by simp only[n],rfl⟩
end LSC
namespace LRE
theorem mH(f:FuncId)(caps:List Value) [e:aZ prog f](p:cv->Bool)(v:Value)(l:List cv)(R:aB)(h:RS R 3 cv.enc v l)(D:∀s∈l,∀R',(∀b o,R b o->R' b o)->Spec prog f ((λt:cv=>Value.agg t.enc.toArray) s::caps) R' [] λu H'=>u=.bool (p s)/\H'=[]):
  Spec prog 207 [v,.func (.func f) #[] caps.toArray] R [] λu H'=>(∃k:Int,u=.int .i64 k/\((∃(i:Nat) (x:cv),l[i]? =some x/\p x=true/\(∀j y,j<i->l[j]? =some y->p y=false)/\k=i)\/((∀y∈l,p y=false)/\k= -1)))/\H'=[]:=by
 have H:=h.le
 refine Spec.body Tryz.func207 rfl Tryz.results207 Tryz.ntmps207 rfl<|.sr<|.ag rfl<|.zs<|.sr<|.mo rfl<|.q (.bH h)<|.mo rfl<|.zn<|.block<|.loop (X:=Nat) (λi=>i<=l.length/\∀j z,j<i->l[j]? =some z->p z=false) (λi=>[(0,v),(1,.func (.func f) #[] caps.toArray),(7,.int .i64 l.length),(8,iN i)]) (λ_=>[]) (λi=>l.length-i) 0 ⟨by omega,by omega⟩ kE.c.c.c.c rH ?_
 rintro i ⟨G,w⟩
 refine .sr<|.q .lss<|.zs<|.cond rfl (λg=>?_) λg=>?_
 have E:i<l.length:=by simp at g;omega
 obtain⟨z,d⟩:=bL E
 have A:=aO d
 have I:=(⟨h.one z A⟩:ca (cv.enc z))
 refine .kn<|.seq<|.block<|.sr<|.mo rfl<|.ag rfl<|.z<|.mo rfl<|.mo rfl<|.mo rfl ?_
 refine .bx i h d (λJ=>?_)
 refine .q (.aM rfl)<|.gy (first:=[]) (captured:=caps) (vs:=[(λt:cv=>Value.agg t.enc.toArray) z]) (D z A _ λb o B=>.inl B) (λu F=>?_)
 subst F
 refine .zn<|.cond rfl (λm=>?_) λm=>?_
 refine .sr<|.mo rfl<|.az rfl<|.ret (bh (aH (cB (bh (aH (aP rfl ?_))))))
 ·exact⟨⟨_,rfl,.inl ⟨i,z,d,m,w,rfl⟩⟩,rfl⟩
 refine .skip<|aV<|av<|.region<|.q (.inc (n:=i) (by omega))<|.mo rfl<|.nil ?_
 ·exact aW (i+1) ⟨by omega,λj y r a=>by
   rcases Nat.lt_or_ge j i with hh|hh
   ·exact w j y hh a
   ·obtain rfl:j=i:=by omega
    rw[d]at a;cases a;exact m⟩ (by omega) kE.c.c.c.c rH
 refine .exit<|bm<|bs<|bo<|av<|.sr<|.az rfl<|.ret (aP rfl ?_)
 ·have C:i=l.length:=by simp at g;omega
  subst C
  refine⟨⟨_,rfl,.inr ⟨λy a=>?_,rfl⟩⟩,rfl⟩
  obtain⟨j,r,rfl⟩:=List.mem_iff_getElem.1 a
  exact w j _ r (aX r)
theorem jS(f:FuncId)(caps:List Value) [e:aZ prog f](p:cv->Bool)(v:Value)(l:List cv)(R:aB)(h:RS R 3 cv.enc v l)(j:∀s∈l,∀R',(∀b o,R b o->R' b o)->Spec prog f ((λt:cv=>Value.agg t.enc.toArray) s::caps) R' [] λu H'=>u=.bool (p s)/\H'=[]):
  Spec prog 160 [v,.func (.func f) #[] caps.toArray] R [] λu H'=>u=.bool (l.any p)/\H'=[]:=by
 refine Spec.body Tryz.func160 rfl Tryz.results160 Tryz.ntmps160 rfl<|.sr<|.ag rfl<|.z<|.mo rfl<|.mo rfl<|.aY (mH f caps p v l _ h.rx λs r R' d=>j s r R' λb o g=>d b o (.inl g)) (λu w=>?_)
 obtain⟨k,rfl,m⟩:=w
 have n:decide (0<=k)=l.any p:=by
  rcases m with⟨i,x,a,c,_,rfl⟩|⟨a,rfl⟩
  ·rw[List.any_eq_true.2 ⟨x,aO a,c⟩];simp
  ·rw[List.any_eq_false.2 λy A=>by rw[a y A];simp];rfl
 refine .q .geq<|.az rfl<|.ret (aP rfl ?_)
 ·exact⟨by simp only[n],rfl⟩
end LRE
namespace LND
theorem nY(v:Value)(xs:List Nd)(R:aB)(h:RS R 5 Nd.enc v xs)(i:xs.length<=1000000):
  Spec prog 125 [v] R [] λv' H'=>∃T,H'=[T]/\OS 199 5 Nd.enc v' xs T:=by
 obtain⟨b,d,rfl⟩:=h.val
 have f:∀H,RS (Rx R H) 5 Nd.enc (.slice b xs.length d) xs:=λH=>h.rx
 refine Spec.gu (H':=[[]]) (by simp)<|Spec.body Tryz.func125 rfl Tryz.results125 Tryz.ntmps125 rfl<|.sr<|.ag rfl<|.zs<|.sr<|.mo rfl<|.q (.rU rfl rfl)<|.zn<|.cond rfl (λa=>?_) λa=>?_
 refine .sr<|.az rfl<|.ret (aH (bp _ (.one (.tmp rfl)) (.one [0] _) ?_))
 ·obtain rfl:b=none:=by simpa using a
  have:=h.sP
  subst this
  exact⟨[],rfl,OS.nil⟩
 refine .kn<|.sr ?_
 refine .rM (λg=>?_)
 refine .mo rfl ?_
 refine .append (OS.empty (enc:=Nd.enc) (sz:=5)) (f _) (by simp;omega) (λv' c e=>?_)
 refine .az rfl<|.ret (bp _ (.one (.tmp rfl)) (.one [0] _) ?_)
 ·exact⟨c,by simp[take],by simpa using e⟩
end LND
section
variable{c:Cf}{num:List Nat}{sub:bc->List Sub}{k:bc}
theorem eW.ex{B:Nat}(h:∀i,(opened c num sub k i).1.length<=B):∃N,eW c num sub k N:=by
 have b:∀m,(∃N,N<=m/\eW c num sub k N)\/∀j,j<=m->j<(opened c num sub k j).1.length:=by
  intro m
  induction m with
  |zero=>
   refine .inr λj a=>?_
   obtain rfl:j=0:=by omega
   simp[opened]
  |succ m ih=>
   rcases ih with⟨N,h1,h2⟩|ih
   ·exact .inl ⟨N,by omega,h2⟩
   ·by_cases h1:m+1<(opened c num sub k (m+1)).1.length
    ·exact .inr λj a=>by
      rcases Nat.lt_or_ge j (m+1)with h2|h2
      ·exact ih j (by omega)
      ·obtain rfl:j=m+1:=by omega
       exact h1
    ·exact .inl ⟨m+1,Nat.le_refl _,by omega,λj a=>ih j (by omega)⟩
 rcases b (B+1)with⟨N,_,h1⟩|h1
 ·exact⟨N,h1⟩
 ·have:=h1 (B+1) (Nat.le_refl _)
  have:=h (B+1)
  omega
def gW(c:Cf)(num:List Nat)(sub:bc->List Sub)(k:bc)(b:Int)(can:Bool)(N:Nat):List bM×Nat×Int:=
 if b<1 then([],0,2)else if can=false then([],0,12)
 else if(((opened c num sub k N).1.length+(opened c num sub k N).2:Nat):Int)<=b then((opened c num sub k N).1,(opened c num sub k N).2,0)else([],0,16)
theorem Nf{P:bc->Prop}{a b:List bM}(h:Grown c num P a b){i:Nat}(e:∀j p,i<=j->a[j]? =some p->p=one c num p.k):∀j p,i<=j->b[j]? =some p->p=one c num p.k:=by
 obtain⟨⟨l,rfl,g⟩,_⟩:=h
 intro j p f d
 rcases Nat.lt_or_ge j a.length with h1|h1
 ·rw[List.getElem?_append_left h1]at d
  exact e j p f d
 ·rw[List.getElem?_append_right h1]at d
  exact(g p (aO d)).2
theorem vQ:∀(i:Nat) (j:Nat) (p:bM),i<=j->(opened c num sub k i).1[j]? =some p->p=one c num p.k
 |0,j,p,_,a=>by
  have:=aO a
  simp only[opened,List.mem_singleton]at this
  subst this
  rw[qO]
 |i+1,j,p,b,a=>by
  have d:=λj p b a=>vQ i j p b a
  change (eH c num sub (opened c num sub k i).1 i).1[j]? =some p at a
  unfold eH at a
  split at a
  ·exact d j p (by omega) a
  ·rw[List.getElem?_set_ne (by omega)]at a
   exact Nf (lz _ _ _) d j p (by omega) a
theorem OG{ps:List bM}{i:Nat}{p:bM}(d:ps[i]? =some p)(a:p=one c num p.k)(b:p.found=false):eH c num sub ps i=(ps,0):=by
 have g:p.nodes=[]:=by rw[a];exact AB (by rw[<-a];exact b)
 have q:p.eR=[]/\p.leads=[]:=by
  rw[a]
  unfold one
  split<;>exact⟨rfl,rfl⟩
 obtain⟨h,o⟩:=q
 obtain⟨k,f,n,m,u,l⟩:=p
 simp only at h o g b
 subst h o g b
 unfold eH
 rw[d]
 simp only[de,Bool.false_eq_true,if_false]
 refine Prod.ext ?_ rfl
 refine List.ext_getElem? λj=>?_
 rw[List.getElem?_set]
 split
 ·rename_i e;subst e
  have:=(List.getElem?_eq_some_iff.1 d).1
  rw[if_pos this,d]
 ·rfl
theorem xx:∀(ks:List bc) (ps:List bM) (x:bc),dl c num ps (ks++[x])=((ew c num (dl c num ps ks).1 x).1,(dl c num ps ks).2++[(ew c num (dl c num ps ks).1 x).2])
 |[],ps,x=>rfl
 |y::ks,ps,x=>by
  rw[List.cons_append,dl,xx ks _ x]
  rfl
theorem xC(y:bc):∀(ns:List Nd) (ps:List bM) (n:Nd),de c num sub y ps (ns++[n])=((dl c num (de c num sub y ps ns).1 (dX c sub y n)).1,(de c num sub y ps ns).2++[(dl c num (de c num sub y ps ns).1 (dX c sub y n)).2])
 |[],ps,n=>rfl
 |m::ns,ps,n=>by
  rw[List.cons_append,de,xC y ns _ n]
  rfl
theorem xy{ks:List bc}{i:Nat}{x:bc}(h:ks[i]? =some x)(ps:List bM):dl c num ps (ks.take (i+1))=((ew c num (dl c num ps (ks.take i)).1 x).1,(dl c num ps (ks.take i)).2++[(ew c num (dl c num ps (ks.take i)).1 x).2]):=by
 rw[show ks.take (i+1)=ks.take i++[x] by rw[List.take_add_one,h];rfl,xx]
theorem xD{a:List Nd}{i:Nat}{n:Nd}(h:a[i]? =some n)(y:bc)(ps:List bM):de c num sub y ps (a.take (i+1))=((dl c num (de c num sub y ps (a.take i)).1 (dX c sub y n)).1,(de c num sub y ps (a.take i)).2++[(dl c num (de c num sub y ps (a.take i)).1 (dX c sub y n)).2]):=by
 rw[show a.take (i+1)=a.take i++[n] by rw[List.take_add_one,h];rfl,xC]
theorem xu:∀(a b:List bc) (ps:List bM),(dl c num ps (a++b)).1=(dl c num (dl c num ps a).1 b).1
 |[],b,ps=>rfl
 |x::a,b,ps=>by rw[List.cons_append,dl,dl];exact xu a b _
theorem xz(y:bc):∀(a b:List Nd) (ps:List bM),(de c num sub y ps (a++b)).1=(de c num sub y (de c num sub y ps a).1 b).1
 |[],b,ps=>rfl
 |x::a,b,ps=>by rw[List.cons_append,de,de];exact xz y a b _
theorem xw(ks:List bc)(i:Nat)(ps:List bM):(dl c num ps (ks.take i)).1.length<=(dl c num ps ks).1.length:=by
 have h:=xu (c:=c) (num:=num) (ks.take i) (ks.drop i) ps
 rw[List.take_append_drop]at h
 rw[h]
 exact(pb _ _).len
theorem xB(y:bc)(a:List Nd)(i:Nat)(ps:List bM):(de c num sub y ps (a.take i)).1.length<=(de c num sub y ps a).1.length:=by
 have h:=xz (c:=c) (num:=num) (sub:=sub) y (a.take i) (a.drop i) ps
 rw[List.take_append_drop]at h
 rw[h]
 exact(lz _ _ _).len
theorem Cq(ks:List bc)(ps:List bM):ps.length<=(dl c num ps ks).1.length:=(pb _ _).len
theorem Cr(y:bc)(a:List Nd)(ps:List bM):ps.length<=(de c num sub y ps a).1.length:=(lz _ _ _).len
def jC(a:List Nat)(l:List Nat):List Nat:=l.foldl (λa x=>if x∈a then a else a++[x]) a
theorem ra(a l m:List Nat):jC a (l++m)=jC (jC a l) m:=List.foldl_append
theorem Bk(a:List Nat)(x:Nat):jC a [x]=if x∈a then a else a++[x]:=rfl
theorem Qp{l:List Nat}{i x:Nat}(h:l[i]? =some x)(a:List Nat):jC a (l.take (i+1))=if x∈jC a (l.take i)then jC a (l.take i)else jC a (l.take i)++[x]:=by
 rw[show l.take (i+1)=l.take i++[x] by rw[List.take_add_one,h];rfl,ra,Bk]
theorem Bj{l:List Nat}{n:Nat}(h:∀x∈l,x<n):(jC [] l).length<=n:=Ap h
theorem AD{ps:List bM}{i:Nat}{p:bM}(a:ps[i]? =some p):eH c num sub ps i=((de c num sub p.k ps p.nodes).1.set i {p with eR:=if p.found then gS c sub p.k else [],leads:=(de c num sub p.k ps p.nodes).2},kC (de c num sub p.k ps p.nodes).2.flatten):=by unfold eH;rw[a]
theorem AH(i:Nat):opened c num sub k (i+1)=((eH c num sub (opened c num sub k i).1 i).1,(opened c num sub k i).2+(eH c num sub (opened c num sub k i).1 i).2):=rfl
end
theorem Ou{W:ByteArray->Bool}{l:List Nd}(h:fC W l≠0):∀n∈l,1<=n.kind/\n.kind<=6/\(n.rel=⟨#[]⟩\/W n.rel=true)/\(n.dz=⟨#[]⟩\/W n.dz=true):=λn o=>by
 unfold fC at h
 cases ht:tree W l l.length with
 |none=>rw[ht]at h;exact absurd rfl h
 |some p=>
  obtain⟨b,x⟩:=p
  rw[ht]at h
  simp only at h
  have m:b=0:=by
   by_cases d:b=0
   ·exact d
   ·rw[if_neg d]at h;exact absurd rfl h
  subst m
  obtain⟨i,f,e⟩:=List.mem_iff_getElem.1 o
  have q:=(iB _ _ ht).2.2.2 i (Nat.zero_le _) f
  have g:l[i]? =some n:=by rw[aX f,e]
  obtain⟨r,c⟩:=Option.isSome_iff_exists.1 q
  cases ho:n.op with
  |true=>
   obtain⟨_,_,_,_,_,_,_,_,j,k,_⟩:=mU g ho c
   unfold Nd.op at ho
   simp only[Bool.or_eq_true,beq_iff_eq]at ho
   exact⟨by omega,by omega,.inl j,.inl k⟩
  |false=>
   rw[kO g ho]at c
   split at c
   ·rename_i a
    unfold Nd.leaf at a
    simp only[Bool.and_eq_true]at a
    obtain⟨_,a⟩:=a
    split at a
    ·simp only[Bool.and_eq_true,decide_eq_true_eq]at a
     exact⟨by omega,by omega,.inl a.1,.inl a.2⟩
    ·split at a
     ·simp only[Bool.and_eq_true,decide_eq_true_eq]at a
      exact⟨by omega,by omega,.inr a.1,.inl a.2⟩
     ·split at a
      ·simp only[Bool.and_eq_true]at a
       exact⟨by omega,by omega,.inr a.1,.inr a.2⟩
      ·cases a
   ·cases c
section
variable{W:ByteArray->Bool}{F:ByteArray->ByteArray->Bool}{c:Cf}{num:List Nat}{sub:bc->List Sub}
theorem OC(d:c.right W F=true){k:bc}:∀n∈(one c num k).nodes,1<=n.kind/\n.kind<=6/\(n.rel=⟨#[]⟩\/W n.rel=true)/\(n.dz=⟨#[]⟩\/W n.dz=true):=λn b=>by
 obtain⟨y,e,b⟩:=vP b
 have a:=(mP d y e).1
 unfold ml at a
 simp only[Bool.and_eq_true,bne_iff_ne,ne_eq]at a
 exact Ou a.1.2 n b
def oK(B:Nat)(x:bc):Prop:=x.os.size<=B/\x.oi.size<=B/\x.rel.size<=B
theorem Dc{B:Nat}(j:c.right W F=true)(d:∀s,W s=true->s.size<=B)(f:∀k,∀s∈sub k,s.ss.size<=B/\s.si.size<=B/\s.sr.size<=B):oW c num sub (oK B):=λx g n l y a=>by
 obtain⟨_,_,h3,h4⟩:=OC j n l
 have m:n.rel.size<=B:=by
  rcases h3 with h3|h3
  ·rw[h3];exact Nat.zero_le _
  ·exact d _ h3
 have o:n.dz.size<=B:=by
  rcases h4 with h4|h4
  ·rw[h4];exact Nat.zero_le _
  ·exact d _ h4
 have e:∀z s,s∈fu c sub z->s∈sub z:=λz s b=>by
  unfold fu fitting at b
  exact(List.mem_filter.1 (List.mem_filter.1 b).1).1
 unfold dX at a
 split at a
 ·obtain⟨s,b,rfl⟩:=List.mem_map.1 a
  exact f _ s (e _ s b)
 ·split at a
  ·obtain⟨s,b,rfl⟩:=List.mem_map.1 a
   obtain⟨h,i,_⟩:=f _ s (e _ s b)
   exact⟨h,i,o⟩
  ·split at a
   ·rw[List.mem_singleton]at a
    subst a
    exact⟨g.1,g.2.1,m⟩
   ·cases a
theorem OL{B:Nat}(b:c.right W F=true)(a:∀s,W s=true->s.size<=B)(f:∀k,∀s∈sub k,s.ss.size<=B/\s.si.size<=B/\s.sr.size<=B){k:bc}(d:oK B k)(i:Nat):∀p∈(opened c num sub k i).1,oK B p.k:=
 λp e=>((sU (Dc b a f) d i).u p e).1
end
abbrev dD:Type:=Nat×Nat
def lZ(x y:dD):Bool:=decide (x.1<y.1)||(decide (x.1=y.1)&&decide (x.2<y.2))
theorem zF{x y:dD}:lZ x y=true↔x.1<y.1\/(x.1=y.1/\x.2<y.2):=by
 unfold lZ
 simp only[Bool.or_eq_true,Bool.and_eq_true,decide_eq_true_eq]
theorem uV{x y:dD}:lZ x y=false↔y.1<x.1\/(x.1=y.1/\y.2<=x.2):=by
 rw[Bool.eq_false_iff,ne_eq,zF]
 omega
theorem uW:SO lZ:=⟨λx=>by rw[uV];omega,λx y z a b=>by rw[zF]at *;omega,λx y z a b=>by rw[uV]at *;omega⟩
def items(ps:List bM)(q:List Bool):List dD:=(jA q).map λi=>(fV ps i,i)
theorem sY(q:List Bool):(jA q).Nodup:=List.Pairwise.filter _ List.nodup_range
theorem tW{q:List Bool}{i:Nat}{b:Bool}(h:q.getD i false=b)(a:i<q.length):q.set i b=q:=by
 refine List.ext_getElem? λj=>?_
 rw[List.getElem?_set]
 split
 ·rename_i e
  subst e
  rw[List.getD_eq_getElem?_getD,aX a,Option.getD_some]at h
  simp[a,h]
 ·rfl
theorem O5{q:List Bool}{i:Nat}(f:i<q.length)(h:q.getD i false=false):(jA q++[i]).Perm (jA (q.set i true)):=by
 refine(List.perm_ext_iff_of_nodup ?_ (sY _)).2 λx=>?_
 ·rw[List.nodup_append]
  refine⟨sY q,by simp,λa d b c=>?_⟩
  rw[List.mem_singleton]at c
  subst c
  intro e
  subst e
  rw[fW.1 d]at h
  cases h
 ·rw[List.mem_append,List.mem_singleton,fW,fW,pi _ _ _ _ f]
  by_cases e:i=x
  ·subst e;simp
  ·rw[if_neg e]
   exact⟨λh=>h.elim id λh=>absurd h.symm e,.inl⟩
theorem O4{q:List Bool}{i:Nat}(h:q.getD i false=true)(a:i<q.length):(jA q).Perm (i::jA (q.set i false)):=by
 refine(List.perm_ext_iff_of_nodup (sY _) ?_).2 λx=>?_
 ·rw[List.nodup_cons]
  refine⟨λb=>?_,sY _⟩
  have:=fW.1 b
  rw[pi _ _ _ _ a,if_pos rfl]at this
  cases this
 ·rw[List.mem_cons,fW,fW,pi _ _ _ _ a]
  by_cases e:i=x
  ·subst e;rw[h];simp
  ·rw[if_neg e]
   exact⟨.inr,λh=>h.elim (λh=>absurd h.symm e) id⟩
theorem Nx{ps:List bM}{q:List Bool}{i:Nat}(a:i<q.length)(h:q.getD i false=false):(items ps q++[(fV ps i,i)]).Perm (items ps (q.set i true)):=by
 have:=(O5 a h).map λi=>(fV ps i,i)
 rw[List.map_append]at this
 exact this
theorem zy{ps:List bM}{q:List Bool}{L:List dD}(c:L.Perm (items ps q))(f:fH lZ L L.length){x:dD}(d:L[0]? =some x):mI ps q x.2/\x.1=fV ps x.2/\x.2<q.length:=by
 have n:x∈items ps q:=c.mem_iff.1 (aO d)
 obtain⟨i,a,rfl⟩:=List.mem_map.1 n
 have m:i<q.length:=by
  unfold jA at a
  exact List.mem_range.1 (List.mem_filter.1 a).1
 refine⟨⟨fW.1 a,λj g=>?_⟩,rfl,m⟩
 have h:(fV ps j,j)∈L:=c.mem_iff.2 (List.mem_map.2 ⟨j,fW.2 g,rfl⟩)
 obtain⟨k,l,e⟩:=List.mem_iff_getElem.1 h
 have b:=fH.least uW f d k _ (aX l)
 rw[e,uV]at b
 simp only at b⊢
 omega
theorem Nu{ps:List bM}{q:List Bool}{L a:List dD}(e:L.Perm (items ps q)){i:Nat}(d:i<q.length)(f:q.getD i false=true)(c:L.Perm ((fV ps i,i)::a)):a.Perm (items ps (q.set i false)):=by
 have b:=(O4 f d).map λi=>(fV ps i,i)
 rw[List.map_cons]at b
 exact(List.Perm.cons_inv ((c.symm.trans e).trans b))
theorem Nw{ps:List bM}{q:List Bool}{L:List dD}(a:L.Perm (items ps q))(h:L=[]):ja q:=λi=>by
 cases hq:q.getD i false with
 |false=>rfl
 |true=>
  have:(fV ps i,i)∈L:=a.mem_iff.2 (List.mem_map.2 ⟨i,fW.2 hq,rfl⟩)
  rw[h]at this
  cases this
theorem Nv{ps:List bM}{q:List Bool}{L:List dD}(a:L.Perm (items ps q)):L.length<=q.length:=by
 rw[a.length_eq]
 unfold items jA
 rw[List.length_map]
 exact Nat.le_trans (List.length_filter_le _ _) (by simp)
def lU(ps:List bM)(n j:Nat):List Nat:=(List.range n).filter λi=>((ps[i]?).map λp=>decide (j∈p.leads.flatten)).getD false
theorem CC(ps:List bM)(j:Nat):lU ps ps.length j=fL ps j:=rfl
theorem CE{ps:List bM}{i:Nat}{p:bM}(h:ps[i]? =some p)(j:Nat):lU ps (i+1) j=lU ps i j++if j∈p.leads.flatten then [i]else []:=by
 unfold lU
 rw[List.range_succ,List.filter_append]
 congr 1
 simp only[List.filter_cons,List.filter_nil,h,Option.map_some,Option.getD_some]
 by_cases a:j∈p.leads.flatten
 ·rw[if_pos a,if_pos (decide_eq_true a)]
 ·rw[if_neg a,if_neg (by simpa using a)]
theorem CD{ps:List bM}{i j x:Nat}(h:x∈lU ps i j):x<i:=by
 unfold lU at h
 exact List.mem_range.1 (List.mem_filter.1 h).1
def gL(ps:List bM)(i:Nat)(seen:List Nat)(j:Nat):List Nat:=lU ps i j++if j∈seen then [i]else []
theorem CN(ps:List bM)(i:Nat)(a:List Nat)(j:Nat):((gL ps i a j).getLast? =some i)↔j∈a:=by
 unfold gL
 by_cases h:j∈a
 ·rw[if_pos h];simp[h]
 ·rw[if_neg h,List.append_nil]
  constructor
  ·intro c
   have d:=List.mem_of_getLast? c
   exact absurd (CD d) (Nat.lt_irrefl _)
  ·exact λb=>absurd b h
theorem CP(ps:List bM)(i:Nat)(b:List Nat)(c j:Nat):gL ps i (b++[c]) j=if j=c/\¬c∈b then gL ps i b j++[i]else gL ps i b j:=by
 unfold gL
 by_cases d:j=c
 ·subst d
  by_cases a:j∈b
  ·rw[if_pos (by simp),if_neg (by simp[a]),if_pos a]
  ·rw[if_pos (by simp),if_pos ⟨rfl,a⟩,if_neg a,List.append_nil]
 ·rw[if_neg (λh:j=c/\¬c∈b=>d h.1)]
  by_cases a:j∈b
  ·rw[if_pos (List.mem_append_left _ a),if_pos a]
  ·rw[if_neg (λh=>(List.mem_append.1 h).elim a λh=>d (List.mem_singleton.1 h)),if_neg a]
theorem CM{ps:List bM}{i:Nat}{p:bM}(h:ps[i]? =some p)(j:Nat):gL ps i p.leads.flatten j=gL ps (i+1) [] j:=by
 unfold gL
 rw[CE h]
 simp
theorem NZ{α:Type}{l:List α}{i:Nat}{x:α}(h:l[i]? =some x)(y:α):y∈l.take (i+1)↔y∈l.take i\/y=x:=by
 rw[List.take_add_one,h];simp
theorem QG(v:Value)(l:List ByteArray)(s:ByteArray)(R:aB)(h:RS R 1 cg v l):
  Spec prog 191 [v,.string s] R [] λu H'=>(∃k:Int,u=.int .i64 k/\(0<=k↔s∈l))/\H'=[]:=by
 have m:=h.le
 refine Spec.body Tryz.func191 rfl Tryz.results191 Tryz.ntmps191 rfl<|.sr<|.ag rfl<|.zs<|.sr<|.mo rfl<|.q (.bH h)<|.mo rfl<|.zn<|.block<|.loop (X:=Nat) (λi=>i<=l.length/\s∉l.take i) (λi=>[(0,v),(1,.string s),(7,.int .i64 l.length),(8,iN i)]) (λ_=>[]) (λi=>l.length-i) 0 ⟨by omega,by simp⟩ kE.c.c.c.c rH ?_
 rintro i ⟨j,e⟩
 refine .sr<|.q .lss<|.zs<|.cond rfl (λb=>?_) λb=>?_
 have g:i<l.length:=by simp at b;omega
 obtain⟨z,f⟩:=bL g
 refine .kn<|.seq<|.block<|.sr<|.mo rfl<|.ag rfl<|.z<|.mo rfl<|.mo rfl<|.mo rfl ?_
 refine .bx i h f (λo=>?_)
 refine .lo rfl<|.q .dP<|.zn<|.cond rfl (λa=>?_) λa=>?_
 refine .sr<|.mo rfl<|.az rfl<|.ret (bh (aH (cB (bh (aH (aP rfl ?_))))))
 ·have d:s=z:=by simpa using a
  exact⟨⟨_,rfl,by rw[d];simp[aO f]⟩,rfl⟩
 refine .skip<|aV<|av<|.region<|.q (.inc (n:=i) (by omega))<|.mo rfl<|.nil ?_
 ·exact aW (i+1) ⟨by omega,by rw[NZ f];simp at a;simp[e,a]⟩ (by omega) kE.c.c.c.c rH
 refine .exit<|bm<|bs<|bo<|av<|.sr<|.az rfl<|.ret (aP rfl ?_)
 ·have d:i=l.length:=by simp at b;omega
  rw[d,List.take_length]at e
  exact⟨⟨_,rfl,by simp[e]⟩,rfl⟩
theorem Qn(v:Value)(l:List ByteArray)(s:ByteArray)(R:aB)(h:RS R 1 cg v l):
  Spec prog 150 [v,.string s] R [] λu H'=>u=.bool (decide (s∈l))/\H'=[]:=by
 refine Spec.body Tryz.func150 rfl Tryz.results150 Tryz.ntmps150 rfl<|.sr<|.ag rfl<|.z<|.mo rfl<|.mo rfl<|.aY (QG v l s _ h.rx) (λu b=>?_)
 obtain⟨k,rfl,a⟩:=b
 refine .q .geq<|.az rfl<|.ret (aP rfl ?_)
 ·exact⟨by simp only[a],rfl⟩
theorem gj.eL:gj ⟨[],0,0⟩:=⟨by simp,by simp,by simp,by simp,by simp,by simp⟩
inductive J where
 |mk (kind:Int) (b:Bool) (n:Int) (text:ByteArray) (list:List J) (keys:List ByteArray)
inductive fZ(R:aB):List Value->J->Prop
 |mk {kind:Int} {b:Bool} {n:Int} {text:ByteArray} {vl vk:Value} {l:List (List Value×J)} {keys:List ByteArray} (hl:RS R 6 (λp:List Value×J=>p.1) vl l) (hk:RS R 1 cg vk keys) (h:∀p∈l,fZ R p.1 p.2):
  fZ R [.int .i64 kind,.bool b,.int .i64 n,.string text,vl,vk] (.mk kind b n text (l.map (·.2)) keys)
theorem fZ.mono{R R':aB}(a:∀b o,R b o->R' b o){cs:List Value}{j:J}(h:fZ R cs j):fZ R' cs j:=by
 induction h with
 |mk hl hk _ ih=>exact .mk (hl.mono a) (hk.mono a) ih
theorem fZ.cT{R:aB}{cs:List Value}{j:J}(h:fZ R cs j):∀u∈cs,ap u=true:=by
 cases h with
 |mk hl hk _=>
  have b:=hl.ap
  have c:=hk.ap
  intro u a
  simp only[List.mem_cons,List.not_mem_nil,or_false]at a
  rcases a with rfl|rfl|rfl|rfl|rfl|rfl
  ·rfl
  ·rfl
  ·rfl
  ·rfl
  ·exact b.h
  ·exact c.h
theorem fZ.open{R:aB}{cs:List Value}{j:J}(h:fZ R cs j):∃(kind:Int) (b:Bool) (n:Int) (text:ByteArray) (vl vk:Value) (l:List (List Value×J)) (keys:List ByteArray),
  cs=[.int .i64 kind,.bool b,.int .i64 n,.string text,vl,vk]/\j=.mk kind b n text (l.map (·.2)) keys/\RS R 6 (λp:List Value×J=>p.1) vl l/\RS R 1 cg vk keys/\∀p∈l,fZ R p.1 p.2:=by
 cases h with
 |mk hl hk h=>exact⟨_,_,_,_,_,_,_,_,rfl,rfl,hl,hk,h⟩
def oh:J:=.mk 0 false 0 ⟨#[]⟩ [] []
def sx(b:Bool):J:=.mk 1 b 0 ⟨#[]⟩ [] []
def mJ(n:Int):J:=.mk 2 false n ⟨#[]⟩ [] []
def eG(s:ByteArray):J:=.mk 3 false 0 s [] []
def iJ(l:List J):J:=.mk 4 false 0 ⟨#[]⟩ l []
def kW(ks:List ByteArray)(l:List J):J:=.mk 5 false 0 ⟨#[]⟩ l ks
theorem Qf(v w:Value)(l m:List ByteArray)(R:aB)(h:RS R 1 cg v l)(k:RS R 1 cg w m):
  Spec prog 52 [v,w] R [] λu H'=>u=.bool (decide (l=m))/\H'=[]:=by
 have t:=h.le
 refine Spec.body Tryz.func52 rfl Tryz.results52 Tryz.ntmps52 rfl<|.sr<|.ag rfl<|.zs<|.sr<|.mo rfl<|.q (.bH h)<|.mo rfl<|.q (.bH k)<|.q .et<|.zn<|.cond rfl (λb=>?_) λb=>?_
 refine .sr<|.az rfl<|.ret (aH (aP rfl ?_))
 ·exact⟨by rw[decide_eq_false (λe:l=m=>by simp[e]at b)],rfl⟩
 have x:l.length=m.length:=by simp at b;omega
 refine .kn<|.seq<|.sr<|.az rfl<|.block<|.loop (X:=Nat) (λi=>i<=l.length/\l.take i=m.take i) (λi=>[(0,v),(1,w),(5,iN i)]) (λ_=>[]) (λi=>l.length-i) 0 ⟨by omega,by simp⟩ kE.c.c.c rH ?_
 rintro i ⟨s,g⟩
 refine .seq<|.sr<|.mo rfl<|.mo rfl<|.q (.bH h)<|.q .lss<|.zn<|.cond rfl (λd=>?_) λd=>?_
 have p:i<l.length:=by simp at d;omega
 obtain⟨z,a⟩:=bL p
 obtain⟨y,j⟩:∃y,m[i]? =some y:=⟨_,aX (by omega)⟩
 refine .kn<|.seq<|.block<|.seq<|.gn mixed (by kernel_rfl)<|.mo rfl<|.mo rfl ?_
 refine .bx i h a (λB=>?_)
 refine .lo rfl<|.mo rfl<|.mo rfl ?_
 refine .bx i k j (λA=>?_)
 refine .lo rfl<|.q .fU<|.zn<|.cond rfl (λf=>?_) λf=>?_
 refine .sr<|.az rfl<|.ret (bh (aH (cB (bh (aH (aP rfl ?_))))))
 ·refine⟨?_,rfl⟩
  have r:z≠y:=by simpa using f
  rw[decide_eq_false (λe:l=m=>r (by rw[e,j]at a;cases a;rfl))]
 refine .skip<|aV<|av<|.region<|.mo rfl<|.q (.inc (n:=i) (by omega))<|.ag rfl<|.nil ?_
 ·exact aW (i+1) ⟨by omega,by
   have e:z=y:=by simpa using f
   rw[List.take_add_one,List.take_add_one,g,a,j,e]⟩ (by omega) kE.c.c.c rH
 refine .exit<|bm<|bs<|bo<|av<|.sr<|.az rfl<|.ret (aP rfl ?_)
 ·refine⟨?_,rfl⟩
  have o:i=l.length:=by simp at d;omega
  rw[o,List.take_length,List.take_of_length_le (by omega)]at g
  rw[decide_eq_true g]
end Go.Proofs.YtdljmchhecoakaaGreat

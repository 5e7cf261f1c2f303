/- What the law 'MemoChecks' uses. No condition. -/
import Derived.Test.YtdljmchhecoakaaGreatKMemoChecksB
import Derived.Test.YtdljmchhecoakaaGreatKMemoChecksF
import Derived.Test.YtdljmchhecoakaaGreatKMemoChecksH
namespace Go.Proofs.YtdljmchhecoakaaGreat
set_option linter.defProp false
def adO:=@if_pos
def adP:=@if_neg
def adQ:=@List.getD_eq_getElem?_getD
def adR:=@List.mem_filter
def adS:=@List.mem_iff_getElem
def adT:=@Option.getD_some
def adU:=@Nat.lt_or_ge
def adV:=@List.mem_singleton
def adW:=@List.ext_getElem?
def adX:=@List.mem_range
def adY:=@Option.map_some
def adZ:=@Nat.le_refl
def ad0:=@List.take_add_one
def ad1:=@List.getElem?_eq_none
def ad2:=@List.mem_map
def ad3:=@List.mem_cons
def ad4:=@List.getElem?_set
def ad5:=@List.getElem?_eq_some_iff
def ad6:=@List.cons_append
def ad7:=@List.mem_of_mem_drop
def ad8:=@List.mem_of_mem_take
def ad9:=@List.getElem?_map
def aea:=@List.mem_cons_self
def aeb:=@List.mem_flatten
def aec:=@List.any_eq_true
def aed:=@List.any_eq_false
def aee:=@List.countP_eq_length_filter
open Tryz
set_option linter.unusedVariables false
set_option linter.unusedSimpArgs false
set_option maxRecDepth 4000
structure eW where
 kind:Int
 wm:Value
 wn:Value
 wc:Value
 f:aw
 rev:Int
 bj:List aw
 no:List aw
 cs:List cz
def eW.enc(c:eW):List Value:=[.int .i64 c.kind,c.wm,c.wn,c.wc]++c.f.enc++[.int .u64 c.rev]
structure eW.is(R:aA)(c:eW):Prop where
 hm:RS R 7 aw.enc c.wm c.bj
 hn:RS R 7 aw.enc c.wn c.no
 hc:RS R 8 cz.enc c.wc c.cs
 fm:∀t∈c.bj,t.fits
 fn:∀t∈c.no,t.fits
 fc:∀d∈c.cs,d.t.fits
 r0:0<=c.rev
 r1:c.rev<=18446744073709551615
def eW.jF(c:eW):Prop:=c.bj.length<=34/\c.no.length<=34/\c.cs.length<=34
theorem eW.is.dl{R:aA}{c:eW}(h:c.is R):cM c.enc:=⟨by
 obtain⟨i,e,a⟩:=h.hm.val
 obtain⟨j,f,b⟩:=h.hn.val
 obtain⟨k,g,d⟩:=h.hc.val
 simp[eW.enc,aw.enc,a,b,d,ay]⟩
theorem yi(v:Value)(cs:List eW)(n:Nat)(hn:n<=1000)(R b:aA)(h:RS R 12 eW.enc v cs)(hD:∀c∈cs,c.is b):
  Spec prog 18 [v,iN n] R [] λu H'=>∃T,H'=[T]/\∃ds,OS 51 12 eW.enc u ds T/\(∀d∈ds,d.is b/\d.jF)/\ds.length=min cs.length n:=by
 have hl:=h.le
 obtain⟨V,U,rfl⟩:=h.val
 refine Spec.gj (H':=[[]]) (by simp)<|Spec.body func18 rfl results18 ntmps18 rfl<|.sr<|.ag rfl<|.z<|.ag rfl<|.zs<|.sr<|.az rfl<|.block<|.loop (X:=Nat×List eW×Value×av) (λy=>(y.1<=cs.length/\y.1<=n/\y.2.1.length=y.1)/\OS 51 12 eW.enc y.2.2.1 y.2.1 y.2.2.2/\∀d∈y.2.1,d.is b/\d.jF) (λy=>[(0,.slice V cs.length U),(1,iN n),(5,y.2.2.1),(6,iN y.1)]) (λy=>[y.2.2.2]) (λy=>cs.length-y.1) (0,[],sZ,[]) ⟨⟨Nat.zero_le _,Nat.zero_le _,rfl⟩,OS.nil,by simp⟩ kE.c.c.c.c rH ?_
 rintro⟨i,ds,vo,H⟩ ⟨⟨hi,a6,a3⟩,I,S⟩
 simp only at hi a6 a3 I S⊢
 have io:=I.ay
 refine .seq<|.sr<|.mo rfl<|.mo rfl<|.q (.bK h)<|.q .lss<|.mo rfl<|.split (t:=12) rfl (λo=>?_) (λo=>?_)
 refine .gT o<|.mo rfl<|.gT o<|.mo rfl<|.gT o<|.q .lss<|.q (.aU o)<|.zn<|.cond rfl (λh1=>?_) λh1=>?_
 have a1:i<cs.length/\i<n:=by simp_all
 obtain⟨c,hc⟩:∃c,cs[i]? =some c:=⟨_,bk a1.1⟩
 have a:=hD c (aR hc)
 have a8:=a.dl
 refine .kn<|.seq<|.block<|.sr<|.mo rfl<|.mo rfl<|.bF i h hc (λa9=>?_)
 obtain⟨r,O,Q,N,f,s,e,g,j⟩:=c
 have l:RS b 7 aw.enc O e:=a.hm
 have m:RS b 7 aw.enc Q g:=a.hn
 have k:RS b 8 cz.enc N j:=a.hc
 obtain⟨E,B,rfl⟩:=l.val
 obtain⟨F,C,rfl⟩:=m.val
 obtain⟨D,A,rfl⟩:=k.val
 have L:cM (eW.enc ⟨r,.slice E e.length B,.slice F g.length C,.slice D j.length A,f,s,e,g,j⟩):=a.dl
 refine .q (.aL rfl) ?_
 refine .cq (λG=>?_)
 refine .bZ rfl rfl<|.zs<|.sr<|.fa rfl<|.lo rfl<|.q (.bK l)<|.q .gtr<|.zn ?_
 refine bu.cut (X:=eW) (λd=>d.is b/\d.bj.length<=34) (λd=>[(0,.slice V cs.length U),(1,iN n),(5,vo),(6,iN i),(7,pT G)]) (λd=>[bl G d.enc 51,H]) ?_ ?_
 refine .cond rfl (λW=>?_) λW=>?_
 refine .region<|.fa rfl<|.lo rfl<|.oB (R':=b) 0 34 l rfl ⟨_,rfl⟩ (by omega) (by have:=cL W;first|omega|(simp only at this;omega)) (λM p=>?_)
 have a4:=p.ay
 refine .fa rfl<|.ek rfl rfl<|.nil ?_
 ·exact aD ⟨r,M,.slice F g.length C,.slice D j.length A,f,s,(e.drop 0).take (34-0),g,j⟩ ⟨⟨p,m,k,λt J=>a.fm t (ad7 (ad8 J)),a.fn,a.fc,a.r0,a.r1⟩,by simp;omega⟩ kE.c.c.c.c.c rH
 refine .skip ?_
 ·exact aD _ ⟨a,by have:=bI W;first|omega|(simp only at this;omega)|(simp only;omega)⟩ kE.c.c.c.c.c rH
 intro x K
 clear L l m k a
 obtain⟨a,w⟩:=K
 obtain⟨r,O,Q,N,f,s,e,g,j⟩:=x
 have l:RS b 7 aw.enc O e:=a.hm
 have m:RS b 7 aw.enc Q g:=a.hn
 have k:RS b 8 cz.enc N j:=a.hc
 obtain⟨E,B,rfl⟩:=l.val
 obtain⟨F,C,rfl⟩:=m.val
 obtain⟨D,A,rfl⟩:=k.val
 have L:cM (eW.enc ⟨r,.slice E e.length B,.slice F g.length C,.slice D j.length A,f,s,e,g,j⟩):=a.dl
 refine au<|.seq<|.sr<|.fa rfl<|.lo rfl<|.q (.bK m)<|.q .gtr<|.zn ?_
 refine bu.cut (X:=eW) (λd=>d.is b/\d.bj.length<=34/\d.no.length<=34) (λd=>[(0,.slice V cs.length U),(1,iN n),(5,vo),(6,iN i),(7,pT G)]) (λd=>[bl G d.enc 51,H]) ?_ ?_
 refine .cond rfl (λY=>?_) λY=>?_
 refine .region<|.fa rfl<|.lo rfl<|.oB (R':=b) 0 34 m rfl ⟨_,rfl⟩ (by omega) (by have:=cL Y;first|omega|(simp only at this;omega)) (λM p=>?_)
 have a4:=p.ay
 refine .fa rfl<|.ek rfl rfl<|.nil ?_
 ·exact aD ⟨r,.slice E e.length B,M,.slice D j.length A,f,s,e,(g.drop 0).take (34-0),j⟩ ⟨⟨l,p,k,a.fm,λt J=>a.fn t (ad7 (ad8 J)),a.fc,a.r0,a.r1⟩,w,by simp;omega⟩ kE.c.c.c.c.c rH
 refine .skip ?_
 ·exact aD _ ⟨a,w,by have:=bI Y;first|omega|(simp only at this;omega)|(simp only;omega)⟩ kE.c.c.c.c.c rH
 intro x K
 clear L l m k a w
 obtain⟨a,w,a0⟩:=K
 obtain⟨r,O,Q,N,f,s,e,g,j⟩:=x
 have l:RS b 7 aw.enc O e:=a.hm
 have m:RS b 7 aw.enc Q g:=a.hn
 have k:RS b 8 cz.enc N j:=a.hc
 obtain⟨E,B,rfl⟩:=l.val
 obtain⟨F,C,rfl⟩:=m.val
 obtain⟨D,A,rfl⟩:=k.val
 have L:cM (eW.enc ⟨r,.slice E e.length B,.slice F g.length C,.slice D j.length A,f,s,e,g,j⟩):=a.dl
 refine au<|.seq<|.sr<|.fa rfl<|.lo rfl<|.q (.bK k)<|.q .gtr<|.zn ?_
 refine bu.cut (X:=eW) (λd=>d.is b/\d.jF) (λd=>[(0,.slice V cs.length U),(1,iN n),(5,vo),(6,iN i),(7,pT G)]) (λd=>[bl G d.enc 51,H]) ?_ ?_
 refine .cond rfl (λZ=>?_) λZ=>?_
 refine .region<|.fa rfl<|.lo rfl<|.oB (R':=b) 0 34 k rfl ⟨_,rfl⟩ (by omega) (by have:=cL Z;first|omega|(simp only at this;omega)) (λM p=>?_)
 have a4:=p.ay
 refine .fa rfl<|.ek rfl rfl<|.nil ?_
 ·exact aD ⟨r,.slice E e.length B,.slice F g.length C,M,f,s,e,g,(j.drop 0).take (34-0)⟩ ⟨⟨l,m,p,a.fm,a.fn,λt J=>a.fc t (ad7 (ad8 J)),a.r0,a.r1⟩,w,a0,by simp;omega⟩ kE.c.c.c.c.c rH
 refine .skip ?_
 ·exact aD _ ⟨a,w,a0,by have:=bI Z;first|omega|(simp only at this;omega)|(simp only;omega)⟩ kE.c.c.c.c.c rH
 intro x K
 clear L l m k a w a0
 obtain⟨a,a5⟩:=K
 have ix:=a.dl
 refine au<|.region<|.mo rfl<|.q (.aL rfl) ?_
 refine .fq (λa7=>?_)
 refine .append I (RS.lits (xs:=[x]) rfl (by simp[eW.enc,aw.enc]) (by have:=ix.h;simpa using this)) (by simp;omega) (λv7 T7 a2=>?_)
 have i7:=a2.ay
 refine .ag rfl<|.nil<|ba<|au<|.region<|.mo rfl<|.ia (i+1) .add<|.ag rfl<|.nil ?_
 ·exact bp (i+1,ds++[x],v7,T7) ⟨⟨a1.1,a1.2,by simp[a3]⟩,a2,λd hd=>by
   rcases List.mem_append.1 hd with hd|hd
   ·exact S d hd
   ·simp only[adV]at hd
    subst hd
    exact⟨a,a5⟩⟩ (by simp only;omega) kE.c.c.c.c (aK [2])
 refine .exit<|bD<|bG<|bE<|au<|.sr<|.mo rfl<|.az rfl<|.ret (br _ (.one (.tmp rfl)) (.one [0] _) ?_)
 ·refine⟨H,by simp[take],ds,I,S,?_⟩
  simp_all
  omega
 refine .gF o<|.gF o<|.gF o<|.q (.aN o)<|.zn<|.dA<|.exit<|bD<|bG<|bE<|au<|.sr<|.mo rfl<|.az rfl<|.ret (br _ (.one (.tmp rfl)) (.one [0] _) ?_)
 ·refine⟨H,by simp[take],ds,I,S,?_⟩
  simp_all
  omega
section
variable{c:Cf}{num:List Nat}{sub:aW->List Sub}{k:aW}
theorem zP:∀i,(∀j,j<i->j<(opened c num sub k j).1.length)->(opened c num sub k i).2=dF (((opened c num sub k i).1.take i).map λp=>kX p.leads.flatten)
 |0,_=>rfl
 |i+1,hlt=>by
  have n:=zP i λj o=>hlt j (by omega)
  have d:=hlt i (by omega)
  obtain⟨a,b⟩:∃a,a=(opened c num sub k i).1:=⟨_,rfl⟩
  have f:(opened c num sub k (i+1)).1=(eJ c num sub a i).1:=by rw[b];rfl
  have g:(opened c num sub k (i+1)).2=(opened c num sub k i).2+(eJ c num sub a i).2:=by rw[b];rfl
  rw[f,g,n, <-b]
  rw[<-b]at d
  obtain⟨p,m⟩:=ca d
  unfold eJ
  simp only[m]
  obtain⟨⟨l,e,_⟩,_⟩:=lD (c:=c) (num:=num) (sub:=sub) p.k p.nodes a
  have h:∀q:bQ,(((dC c num sub p.k a p.nodes).1.set i q).take (i+1))=a.take i++[q]:=λq=>by
   rw[ad0]
   congr 1
   ·refine adW λj=>?_
    rw[List.getElem?_take,List.getElem?_take]
    split
    ·rw[List.getElem?_set_ne (by omega),e,List.getElem?_append_left (by omega)]
    ·rfl
   ·rw[List.getElem?_set_self (by rw[e];simp;omega)]
    rfl
  rw[h,List.map_append,sd]
  simp[dF]
def fG(ps:List bQ)(j:Nat):List Nat:=(List.range ps.length).filter λi=>((ps[i]?).map λp=>decide (j∈p.leads.flatten)).getD false
theorem NC{l:List Nat}{n:Nat}(h:∀x∈l,x<n):kX l=(List.range n).countP λj=>decide (j∈l):=by
 obtain⟨c,b⟩:=qG l [] List.nodup_nil
 rw[aee]
 refine Nat.le_antisymm ?_ ?_
 ·exact oo c λx a=>adR.2 ⟨adX.2 (h x (((b x).1 a).resolve_left (by simp))),by simpa using((b x).1 a).resolve_left (by simp)⟩
 ·refine oo (List.nodup_range.filter _) λx a=>?_
  have:=(adR.1 a).2
  exact(b x).2 (.inr (by simpa using this))
theorem Nf(f:Nat->Nat)(ps:List bQ)(g:bQ->Nat)(h:∀i p,ps[i]? =some p->f i=g p):dF ((List.range ps.length).map f)=dF (ps.map g):=by
 congr 1
 refine adW λi=>?_
 rw[ad9,ad9]
 by_cases a:i<ps.length
 ·rw[List.getElem?_range a,bk a,adY,adY,h i _ (bk a)]
 ·rw[ad1 (by simpa using a),ad1 (by omega)]
  rfl
theorem B5{ps:List bQ}(h:∀p∈ps,∀x∈p.leads.flatten,x<ps.length):dF ((List.range ps.length).map λj=>(fG ps j).length)=dF (ps.map λp=>kX p.leads.flatten):=by
 have b:∀j,(fG ps j).length=(List.range ps.length).countP λi=>((ps[i]?).map λp=>decide (j∈p.leads.flatten)).getD false:=λj=>by
  unfold fG;rw[aee]
 simp only[b]
 rw[se (λ(j i:Nat)=>((ps[i]?).map λp=>decide (j∈p.leads.flatten)).getD false) (List.range ps.length) (List.range ps.length)]
 refine Nf _ ps _ λi p a=>?_
 rw[NC (h p (aR a))]
 simp only[a,adY,adT]
end
def oP(n:Nat)(b:Nat->Nat)(v:Nat->Bool):Nat:=dF ((List.range n).map λj=>if v j then b j else 0)
theorem zq(b:Nat->Nat)(i:Nat):∀n,dF ((List.range n).map λj=>if j=i then b j else 0)=if i<n then b i else 0
 |0=>rfl
 |n+1=>by
  rw[List.range_succ,List.map_append,sd,zq b i n]
  simp only[List.map_cons,List.map_nil,dF,List.foldr_cons,List.foldr_nil,Nat.add_zero]
  by_cases h:n=i
  ·subst h;simp
  ·rw[adP h]
   by_cases a:i<n
   ·rw[adO a,adO (by omega)];rfl
   ·rw[adP a,adP (by omega)]
theorem Ci{n:Nat}{b:Nat->Nat}{v:Nat->Bool}{i:Nat}(a:i<n)(c:v i=false):oP n b (λj=>v j||decide (j=i))=oP n b v+b i:=by
 have h:=zq b i n
 rw[adO a]at h
 unfold oP
 rw[<-h, <-rZ]
 congr 1
 refine List.map_congr_left λj _=>?_
 by_cases e:j=i
 ·subst e;simp[c]
 ·simp[e]
theorem Cj{n:Nat}{b:Nat->Nat}{v:Nat->Bool}:oP n b v<=dF ((List.range n).map b):=og λj _=>by split<;>omega
structure kk(W:ByteArray->Bool)(F:ByteArray->ByteArray->Bool)(c:Cf)(num:List Nat):Prop where
 right:c.right W F=true
 dN:c.dN
 ex:∃E,c.gM=some E/\iP E num
 len:num.length=c.all.length
 lt:∀i,num.getD i 0<=c.all.length
theorem N4{W:ByteArray->Bool}{F:ByteArray->ByteArray->Bool}{c:Cf}(h:(c.numbers W F).1=0):∃num,(c.numbers W F).2=rows c.aV num/\kk W F c num:=by
 unfold Cf.numbers at h⊢
 by_cases k:c.right W F=false
 ·rw[adO k]at h;cases h
 ·rw[adP k]at h⊢
  by_cases l:¬c.dN
  ·rw[adO l]at h;cases h
  ·rw[adP l]at h⊢
   cases he:c.gM with
   |none=>rw[he]at h;cases h
   |some E=>
    rw[he]at h
    simp only at h⊢
    by_cases g:ko E c.all.length=true
    ·rw[adO g]at h⊢
     have b:∀e∈E,e.f<c.all.length:=λe a=>(qn he e a).1
     have d:∀e∈E,e.t<c.all.length:=λe a=>(qn he e a).2
     refine⟨_,rfl,⟨by simpa using k,Decidable.not_not.1 l,⟨E,he,?_⟩,kU _,λi=>?_⟩⟩
     ·rcases Nat.eq_zero_or_pos c.all.length with h0|hn
      ·intro e a
       exact absurd (b e a) (by omega)
      ·obtain⟨v,m⟩:=(rE b d hn).1 g
       obtain⟨n,j,_⟩:=rW b d m hn
       rw[j (c.all.length+1) (by omega)]
       exact n
     ·rcases Nat.eq_zero_or_pos c.all.length with h0|hn
      ·have:(level E c.all.length (c.all.length+1)).length=0:=by rw[kU,h0]
       rw[List.length_eq_zero_iff.1 this]
       simp
      ·obtain⟨v,m⟩:=(rE b d hn).1 g
       obtain⟨_,j,o⟩:=rW b d m hn
       rw[j (c.all.length+1) (by omega)]
       exact Nat.le_of_lt (o i)
    ·rw[adP g]at h;cases h
section
variable{W:ByteArray->Bool}{F:ByteArray->ByteArray->Bool}{c:Cf}{num:List Nat}{sub:aW->List Sub}{k:aW}{N:Nat}
theorem kk.NI(h:kk W F c num)(a:fK c num sub k N)(user:ByteArray):(im (opened c num sub k N).1 user).OK:=by
 obtain⟨E,d,e⟩:=h.ex
 have b:=qL N a.2
 refine NJ d e h.right (sub:=sub) (num:=num) ⟨b.one,λj p g f=>b.op j p (by have:=a.1;omega) f⟩ user
theorem kk.lH(h:kk W F c num)(f:fK c num sub k N)(user:ByteArray):∀i,i<(im (opened c num sub k N).1 user).n->(im (opened c num sub k N).1 user).num i<=c.all.length:=λi d=>by
 have b:=qL (c:=c) (num:=num) (sub:=sub) (k:=k) N f.2
 obtain⟨a,g⟩:∃a,a=(opened c num sub k N).1:=⟨_,rfl⟩
 rw[<-g]at b d⊢
 show((a[i]?).map (·.number)).getD 0<=_
 have e:i<a.length:=d
 rw[bk e,adY,adT,(b.one _ (List.getElem_mem e)).2.2]
 unfold one
 split
 ·exact Nat.zero_le _
 ·exact h.lt _
end
abbrev QS:=List Bool×List Bool
def jq(q:List Bool):List Nat:=(List.range q.length).filter λi=>q.getD i false
def fW(ps:List bQ)(i:Nat):Nat:=((ps[i]?).map (·.number)).getD 0
def mL(ps:List bQ)(q:List Bool)(i:Nat):Prop:=q.getD i false=true/\∀j,q.getD j false=true->fW ps i<fW ps j\/(fW ps i=fW ps j/\i<=j)
def gH(v q:List Bool)(k:Nat):List Bool:=if v.getD k false then q else q.set k true
def sG(ps:List bQ)(user:ByteArray)(s:QS)(i:Nat):QS:=
 if s.1.getD i false|| !(im ps user).ex i (λj=>s.1.getD j false)then(s.1,s.2.set i false)
 else(s.1.set i true,(fG ps i).foldl (gH (s.1.set i true)) (s.2.set i false))
inductive ep(ps:List bQ)(user:ByteArray):Nat->QS->Prop
 |start:ep ps user 0 (List.replicate ps.length false,ps.map (·.found))
 |step {k:Nat} {s:QS} {i:Nat}:ep ps user k s->mL ps s.2 i->ep ps user (k+1) (sG ps user s i)
section
variable{ps:List bQ}{user:ByteArray}
theorem mL.dN{q:List Bool}{i j:Nat}(h:mL ps q i)(a:mL ps q j):i=j:=by
 have b:=h.2 j a.1
 have c:=a.2 i h.1
 omega
theorem ep.dN:∀{k:Nat} {s t:QS},ep ps user k s->ep ps user k t->s=t
 |0,_,_,.start,.start=>rfl
 |k+1,_,_,.step h1 n1,.step h2 n2=>by
  have e:=ep.dN h1 h2
  subst e
  rw[n1.dN n2]
theorem ep.vh{m:Nat}:∀{k:Nat} {s:QS},ep ps user k s->m<k->∃t i,ep ps user m t/\mL ps t.2 i
 |0,_,_,hm=>absurd hm (by omega)
 |k+1,_,.step (i:=i) (s:=s) h n,hm=>by
  by_cases e:m=k
  ·subst e;exact⟨s,i,h,n⟩
  ·exact ep.vh h (by omega)
def jo(q:List Bool):Prop:=∀i,q.getD i false=false
theorem ep.last{k m:Nat}{s t:QS}(h:ep ps user k s)(b:jo s.2)(a:ep ps user m t)(g:jo t.2):k=m/\s=t:=by
 have c:∀{k m:Nat} {s t:QS},ep ps user k s->jo s.2->ep ps user m t->¬k<m:=by
  intro k m s t h b a f
  obtain⟨u,i,j,d⟩:=a.vh f
  have e:=h.dN j
  subst e
  have:=d.1
  rw[b i]at this
  cases this
 have e:k=m:=by
  have l:=c h b a
  have n:=c a g h
  omega
 subst e
 exact⟨rfl,h.dN a⟩
theorem fP{q:List Bool}{i:Nat}:i∈jq q↔q.getD i false=true:=by
 unfold jq
 rw[adR,adX]
 constructor
 ·exact λh=>h.2
 ·intro h
  refine⟨?_,h⟩
  rcases adU i q.length with h1|h1
  ·exact h1
  ·rw[adQ,ad1 h1]at h;cases h
theorem NQ{q:List Bool}(h:¬jo q):∃i,mL ps q i:=by
 have g:∀(l:List Nat),l≠[]->∃i∈l,∀j∈l,fW ps i<fW ps j\/(fW ps i=fW ps j/\i<=j):=by
  intro l
  induction l with
  |nil=>exact λh=>absurd rfl h
  |cons x l ih=>
   intro _
   by_cases c:l=[]
   ·subst c
    exact⟨x,aea,λj hj=>by rw[adV]at hj;subst hj;exact .inr ⟨rfl,adZ _⟩⟩
   ·obtain⟨i,b,a⟩:=ih c
    by_cases f:fW ps i<fW ps x\/(fW ps i=fW ps x/\i<=x)
    ·refine⟨i,List.mem_cons_of_mem _ b,λj hj=>?_⟩
     rcases ad3.1 hj with rfl|hj
     ·exact f
     ·exact a j hj
    ·refine⟨x,aea,λj hj=>?_⟩
     rcases ad3.1 hj with rfl|hj
     ·exact .inr ⟨rfl,adZ _⟩
     ·have:=a j hj;omega
 have d:jq q≠[]:=by
  intro e
  refine h λi=>?_
  cases hq:q.getD i false with
  |false=>rfl
  |true=>
   have:=fP.2 hq
   rw[e]at this
   cases this
 obtain⟨i,b,a⟩:=g _ d
 exact⟨i,fP.1 b,λj hj=>a j (fP.2 hj)⟩
theorem oO(l:List Bool)(i j:Nat)(x:Bool)(h:i<l.length):(l.set i x).getD j false=if i=j then x else l.getD j false:=by
 rw[adQ,ad4,adQ]
 split
 ·rename_i e;subst e;simp
 ·rfl
theorem wh(v:List Bool):∀(l:List Nat) (q:List Bool),(l.foldl (gH v) q).length=q.length
 |[],_=>rfl
 |k::l,q=>by
  rw[List.foldl_cons,wh v l,gH]
  split
  ·rfl
  ·exact List.length_set
theorem Bq(v:List Bool)(x:Nat):∀(l:List Nat) (q:List Bool),(∀k∈l,k<q.length)->((l.foldl (gH v) q).getD x false=true↔q.getD x false=true\/(x∈l/\v.getD x false=false))
 |[],q,_=>by simp
 |k::l,q,h=>by
  have c:k<q.length:=h k aea
  have d:(gH v q k).length=q.length:=by unfold gH;split<;>simp
  rw[List.foldl_cons,Bq v x l _ (λy f=>by rw[d];exact h y (List.mem_cons_of_mem _ f)),ad3]
  have e:(gH v q k).getD x false=true↔q.getD x false=true\/(x=k/\v.getD x false=false):=by
   unfold gH
   by_cases b:v.getD k false=true
   ·rw[adO b]
    constructor
    ·exact .inl
    ·rintro(h1|⟨rfl,h1⟩)
     ·exact h1
     ·rw[b]at h1;cases h1
   ·rw[adP b,oO _ _ _ _ c]
    by_cases e:k=x
    ·subst e
     rw[adO rfl]
     exact⟨λ_=>.inr ⟨rfl,by simpa using b⟩,λ_=>rfl⟩
    ·rw[adP e]
     exact⟨.inl,λh1=>h1.elim id λa=>absurd a.1.symm e⟩
  rw[e]
  constructor
  ·rintro((h1|h1)|h1)
   ·exact .inl h1
   ·exact .inr ⟨.inl h1.1,h1.2⟩
   ·exact .inr ⟨.inr h1.1,h1.2⟩
  ·rintro(h1|⟨h1|h1,a⟩)
   ·exact .inl (.inl h1)
   ·exact .inl (.inr ⟨h1,a⟩)
   ·exact .inr ⟨h1,a⟩
theorem N1(q:List Bool)(k:Nat):dQ (q.set k true)<=dQ q+1/\dQ q<=dQ (q.set k true):=by
 rcases adU k q.length with h|h
 ·cases hq:q.getD k false with
  |false=>rw[uU q k h hq];omega
  |true=>
   have:q.set k true=q:=by
    refine adW λi=>?_
    rw[ad4]
    split
    ·rename_i e;subst e
     rw[adQ,bk h,adT]at hq
     simp[h,hq]
    ·rfl
   rw[this];omega
 ·rw[List.set_eq_of_length_le h];omega
theorem Br(v:List Bool):∀(l:List Nat) (q:List Bool),dQ (l.foldl (gH v) q)<=dQ q+l.length/\dQ q<=dQ (l.foldl (gH v) q)
 |[],q=>⟨adZ _,adZ _⟩
 |k::l,q=>by
  rw[List.foldl_cons]
  have b:=Br v l (gH v q k)
  have a:dQ (gH v q k)<=dQ q+1/\dQ q<=dQ (gH v q k):=by
   unfold gH
   split
   ·omega
   ·exact N1 q k
  rw[List.length_cons]
  omega
theorem zG:∀(q:List Bool) (i:Nat),q.getD i false=true->dQ (q.set i false)+1=dQ q
 |[],i,h=>by simp at h
 |b::q,0,h=>by
  have:b=true:=by simpa using h
  subst this
  simp[dQ]
 |b::q,i+1,h=>by
  have a:=zG q i (by simpa using h)
  unfold dQ at a⊢
  rw[List.set_cons_succ,List.countP_cons,List.countP_cons]
  omega
theorem zH{q:List Bool}:dQ q=0↔jo q:=by
 unfold dQ jo
 rw[List.countP_eq_zero]
 constructor
 ·intro h i
  rw[adQ]
  cases hq:q[i]? with
  |none=>rfl
  |some b=>have:=h b (aR hq);simpa using this
 ·intro h b c a
  obtain⟨i,d,e⟩:=adS.1 c
  have:=h i
  rw[adQ,bk d,e]at this
  simp only[adT]at this
  rw[this]at a
  cases a
structure kM(ps:List bQ)(user:ByteArray):Prop where
 ok:(im ps user).OK
 lt:∀p∈ps,∀x∈p.leads.flatten,x<ps.length
 nf:∀p∈ps,p.found=false->p.leads=[]
 ln:∀p∈ps,p.leads.length=p.nodes.length
theorem zy{i j:Nat}:i∈fG ps j↔∃p,ps[i]? =some p/\j∈p.leads.flatten:=by
 unfold fG
 rw[adR,adX]
 constructor
 ·rintro⟨a,b⟩
  rw[bk a,adY,adT]at b
  exact⟨_,bk a,cL b⟩
 ·rintro⟨p,a,b⟩
  refine⟨(ad5.1 a).1,?_⟩
  rw[a]
  simpa using b
theorem kM.back(h:kM ps user){i j:Nat}:i∈fG ps j↔(im ps user).to i j:=by
 rw[zy]
 constructor
 ·rintro⟨p,c,d⟩
  obtain⟨l,b,k⟩:=aeb.1 d
  obtain⟨e,f,m⟩:=adS.1 b
  have g:e<p.nodes.length:=by rw[<-h.ln p (aR c)];exact f
  refine⟨p,c,e,p.nodes[e],bk g,?_⟩
  rw[adQ,bk f,m]
  exact k
 ·rintro⟨p,c,e,n,d,a⟩
  refine⟨p,c,aeb.2 ?_⟩
  rw[adQ]at a
  cases b:p.leads[e]? with
  |none=>rw[b]at a;cases a
  |some l=>rw[b]at a;exact⟨l,aR b,a⟩
theorem kM.rz(h:kM ps user){i j:Nat}(c:i∈fG ps j):i<ps.length/\(im ps user).f i=true:=by
 obtain⟨p,a,b⟩:=zy.1 c
 refine⟨(ad5.1 a).1,?_⟩
 show((ps[i]?).map (·.found)).getD false=true
 rw[a]
 cases hf:p.found with
 |true=>simp[hf]
 |false=>rw[h.nf p (aR a) hf]at b;cases b
def jm(ps:List bQ):Nat:=dQ (ps.map (·.found))
structure na(ps:List bQ)(user:ByteArray)(k:Nat)(s:QS):Prop where
 l1:s.1.length=ps.length
 l2:s.2.length=ps.length
 inv:iT (im ps user) (λj=>s.1.getD j false) (jq s.2)
 up:k+dQ s.2<=jm ps+oP ps.length (λj=>(fG ps j).length) (λj=>s.1.getD j false)
 lo:jm ps<=k+dQ s.2
theorem yD(n i:Nat):(List.replicate n false).getD i false=false:=by
 rw[adQ,List.getElem?_replicate]
 split<;>rfl
theorem yC(i:Nat):(ps.map (·.found)).getD i false=(im ps user).f i:=by
 show _=((ps[i]?).map (·.found)).getD false
 rw[adQ,ad9]
theorem na.start:na ps user 0 (List.replicate ps.length false,ps.map (·.found)):=by
 refine⟨by simp,by simp,?_,?_,?_⟩
 ·have e:(λj=>(List.replicate ps.length false).getD j false)=λ_=>false:=funext λj=>yD _ j
  show iT _ (λj=>(List.replicate ps.length false).getD j false) _
  rw[e]
  refine iT.start (λi a=>?_) λi a c=>?_
  ·have b:=fP.1 a
   rw[yC (user:=user)]at b
   refine⟨?_,b⟩
   unfold jq at a
   have:=adX.1 (adR.1 a).1
   rw[List.length_map]at this
   exact this
  ·exact fP.2 (by rw[yC (user:=user)];exact c)
 ·show 0+jm ps<=_;omega
 ·show jm ps<=0+jm ps;omega
theorem na.step(ok:kM ps user){k:Nat}{s:QS}{i:Nat}(h:na ps user k s)(c:mL ps s.2 i):na ps user (k+1) (sG ps user s i):=by
 obtain⟨v,q⟩:=s
 obtain⟨g,d,f,E,D⟩:=h
 simp only at g d f E D c
 have G:=zG q i c.1
 have z:=f.q i (fP.2 c.1)
 have m:i<ps.length:=z.1
 have r:∀x,(q.set i false).getD x false=true↔q.getD x false=true/\x≠i:=λx=>by
  rw[oO _ _ _ _ (by rw[d];exact m)]
  by_cases e:i=x
  ·rw[adO e];exact⟨λh=>(by cases h),λh=>absurd e.symm h.2⟩
  ·rw[adP e];exact⟨λh=>⟨h,λu=>e u.symm⟩,λh=>h.1⟩
 unfold sG
 simp only
 split
 ·rename_i b
  refine⟨g,by simpa using d,?_,?_,?_⟩
  ·refine f.skip (i:=i) (λx=>by rw[fP,fP];exact r x) ?_
   simp only[Bool.or_eq_true,Bool.not_eq_true']at b
   exact b
  ·simp only;omega
  ·simp only;omega
 ·rename_i b
  simp only[Bool.or_eq_true,Bool.not_eq_true',not_or,Bool.not_eq_true,Bool.not_eq_false]at b
  obtain⟨t,w⟩:=b
  have p:i<v.length:=by rw[g];exact m
  have o:=AJ v i p
  have F:=Br (v.set i true) (fG ps i) (q.set i false)
  have l:∀x,((fG ps i).foldl (gH (v.set i true)) (q.set i false)).getD x false=true↔(q.getD x false=true/\x≠i)\/(x∈fG ps i/\(v.set i true).getD x false=false):=λx=>by
   rw[Bq _ _ _ _ λy C=>by rw[List.length_set,d];exact(ok.rz C).1,r]
  refine⟨by simpa using g,by rw[wh];simpa using d,?_,?_,?_⟩
  ·show iT _ (λj=>(v.set i true).getD j false) _
   rw[o]
   refine f.take ok.ok (fP.2 c.1) (λx a=>?_) t w (λx a=>?_) (λx a n=>?_) (λx a H A B n=>?_)
   ·have:=c.2 x (fP.1 a)
    show fW ps i<=fW ps x
    omega
   ·rcases(l x).1 (fP.1 a)with h1|h1
    ·exact .inl ⟨fP.2 h1.1,h1.2⟩
    ·exact .inr ⟨(ok.rz h1.1).1,(ok.rz h1.1).2,ok.back.1 h1.1⟩
   ·exact fP.2 ((l x).2 (.inl ⟨fP.1 a,n⟩))
   ·refine fP.2 ((l x).2 (.inr ⟨ok.back.2 A,?_⟩))
    rw[oO _ _ _ _ p,adP λe=>n e.symm]
    exact B
  ·show k+1+dQ ((fG ps i).foldl (gH (v.set i true)) (q.set i false))<=jm ps+oP ps.length (λj=>(fG ps j).length) (λj=>(v.set i true).getD j false)
   rw[o,Ci m t]
   omega
  ·show jm ps<=k+1+dQ ((fG ps i).foldl (gH (v.set i true)) (q.set i false))
   omega
theorem ep.inv(ok:kM ps user):∀{k:Nat} {s:QS},ep ps user k s->na ps user k s
 |0,_,.start=>.start
 |k+1,_,.step h n=>(ep.inv ok h).step ok n
def ol(ps:List bQ):Nat:=dF (ps.map λp=>kX p.leads.flatten)
theorem na.lH(ok:kM ps user){k:Nat}{s:QS}(h:na ps user k s):k+dQ s.2<=jm ps+ol ps:=by
 have a:=h.up
 have c:=Cj (n:=ps.length) (b:=λj=>(fG ps j).length) (v:=λj=>s.1.getD j false)
 have d:=B5 ok.lt
 unfold ol
 omega
theorem ep.ends(ok:kM ps user):∃K s,ep ps user K s/\jo s.2:=by
 have e:∀d k s,ep ps user k s->jm ps+ol ps-k=d->∃K s,ep ps user K s/\jo s.2:=by
  intro d
  induction d with
  |zero=>
   intro k s h b
   have f:=(h.inv ok).lH ok
   refine⟨k,s,h,zH.1 ?_⟩
   omega
  |succ d ih=>
   intro k s h b
   by_cases a:jo s.2
   ·exact⟨k,s,h,a⟩
   ·obtain⟨i,c⟩:=NQ (ps:=ps) a
    exact ih (k+1) _ (.step h c) (by omega)
 exact e _ 0 _ .start rfl
theorem ep.end_(ok:kM ps user){K:Nat}{s:QS}(h:ep ps user K s)(k:jo s.2):
  s.1.length=ps.length/\jm ps<=K/\K<=jm ps+ol ps/\(∀i,i<ps.length->s.1.getD i false=((im ps user).f i&&(im ps user).ex i λj=>s.1.getD j false))/\
  ∀lH,(∀i,i<ps.length->fW ps i<=lH)->s.1=tM (im ps user) lH:=by
 have a:=h.inv ok
 have p:=zH.2 k
 have q:=a.lH ok
 have r:=a.lo
 have n:jq s.2=[]:=List.eq_nil_iff_forall_not_mem.2 λi a=>by
  have:=fP.1 a
  rw[k i]at this
  cases this
 have c:=a.inv
 rw[n]at c
 refine⟨a.l1,by omega,by omega,λi o=>c.model ok.ok i o,λlH g=>?_⟩
 have d:=(xB ok.ok g).1
 refine adW λj=>?_
 have b:=Qo ok.ok g c j
 rw[adQ,adQ]at b
 by_cases e:j<ps.length
 ·have l:j<s.1.length:=by rw[a.l1];exact e
  have m:j<(tM (im ps user) lH).length:=by show j<(mF _ _ _ _).length;rw[d];exact e
  rw[bk l,bk m]at b⊢
  simp only[adT]at b
  rw[b]
 ·rw[ad1 (by rw[a.l1];omega),ad1 (by show(mF _ _ _ _).length<=j;rw[d];show ps.length<=j;omega)]
end
section
variable{W:ByteArray->Bool}{F:ByteArray->ByteArray->Bool}{c:Cf}{num:List Nat}{sub:aW->List Sub}{k:aW}{N:Nat}
theorem fK.gr(a:fK c num sub k N):ra c num sub (opened c num sub k N).1 (opened c num sub k N).1.length:=by
 have h:=qL N a.2
 exact⟨h.one,λj p b d=>h.op j p (Nat.lt_of_lt_of_le b a.1) d⟩
theorem zM{x:aW}(h:(one c num x).found=false):(one c num x).nodes=[]:=by
 unfold one at h⊢
 split at h
 ·rfl
 ·cases h
theorem kk.ps(h:kk W F c num)(j:fK c num sub k N)(user:ByteArray):kM (opened c num sub k N).1 user:=by
 have f:=j.gr
 refine⟨h.NI j user,λp b x v=>?_,λp b n=>?_,λp b=>?_⟩
 ·obtain⟨i,a,e⟩:=adS.1 b
  have g:=(f.op i p a (by rw[bk a,e])).1
  obtain⟨l,s,t⟩:=aeb.1 v
  obtain⟨m,o,q⟩:=adS.1 s
  have u:m<p.nodes.length:=by rw[<-g.1];exact o
  have d:=g.2 m _ (bk u)
  rw[adQ,bk o,adT,q]at d
  have r:((opened c num sub k N).1.map (·.k))[x]? ∈(eC c sub p.k p.nodes[m]).map some:=by rw[<-d];exact ad2.2 ⟨x,t,rfl⟩
  obtain⟨y,_,w⟩:=ad2.1 r
  have:=(ad5.1 w.symm).1
  rwa [List.length_map]at this
 ·obtain⟨i,a,e⟩:=adS.1 b
  have g:=(f.op i p a (by rw[bk a,e])).1
  obtain⟨z,A,_⟩:=f.one p b
  rw[z]at n
  have:=zM n
  rw[<-A]at this
  have d:=g.1
  rw[this]at d
  exact List.eq_nil_of_length_eq_zero d
 ·obtain⟨i,a,e⟩:=adS.1 b
  exact(f.op i p a (by rw[bk a,e])).1.1
theorem fK.xH(a:fK c num sub k N):ol (opened c num sub k N).1=(opened c num sub k N).2:=by
 rw[zP N a.2,List.take_of_length_le a.1]
 rfl
end
namespace LTY
theorem mC(v:Value)(xs:List Ty)(R:aA)(h:RS R 2 Ty.enc v xs)(i:xs.length<=1000000):
  Spec prog 124 [v] R [] λv' H'=>∃T,H'=[T]/\OS 249 2 Ty.enc v' xs T:=by
 obtain⟨b,d,rfl⟩:=h.val
 have f:∀H,RS (Rx R H) 2 Ty.enc (.slice b xs.length d) xs:=λH=>h.rx
 refine Spec.gj (H':=[[]]) (by simp)<|Spec.body func124 rfl results124 ntmps124 rfl<|.sr<|.ag rfl<|.zs<|.sr<|.mo rfl<|.q (.qq rfl rfl)<|.zn<|.cond rfl (λa=>?_) λa=>?_
 refine .sr<|.az rfl<|.ret (aJ (br _ (.one (.tmp rfl)) (.one [0] _) ?_))
 ·obtain rfl:b=none:=by simpa using a
  have:=h.qI
  subst this
  exact⟨[],rfl,OS.nil⟩
 refine .kn<|.sr ?_
 refine .qg (λg=>?_)
 refine .mo rfl ?_
 refine .append (OS.empty (enc:=Ty.enc) (sz:=2)) (f _) (by simp;omega) (λv' c e=>?_)
 refine .az rfl<|.ret (br _ (.one (.tmp rfl)) (.one [0] _) ?_)
 ·exact⟨c,by simp[take],by simpa using e⟩
theorem mK(f:FuncId)(caps:List Value) [e:aT prog f](p:Ty->Bool)(v:Value)(l:List Ty)(R:aA)(h:RS R 2 Ty.enc v l)(C:∀s∈l,∀R',(∀b o,R b o->R' b o)->Spec prog f ((λt:Ty=>Value.agg t.enc.toArray) s::caps) R' [] λu H'=>u=.bool (p s)/\H'=[]):
  Spec prog 227 [v,.func (.func f) #[] caps.toArray] R [] λu H'=>(∃k:Int,u=.int .i64 k/\((∃(i:Nat) (x:Ty),l[i]? =some x/\p x=true/\(∀j y,j<i->l[j]? =some y->p y=false)/\k=i)\/((∀y∈l,p y=false)/\k= -1)))/\H'=[]:=by
 have H:=h.le
 refine Spec.body func227 rfl results227 ntmps227 rfl<|.sr<|.ag rfl<|.zs<|.sr<|.mo rfl<|.q (.bK h)<|.mo rfl<|.zn<|.block<|.loop (X:=Nat) (λi=>i<=l.length/\∀j z,j<i->l[j]? =some z->p z=false) (λi=>[(0,v),(1,.func (.func f) #[] caps.toArray),(7,.int .i64 l.length),(8,iN i)]) (λ_=>[]) (λi=>l.length-i) 0 ⟨by omega,by omega⟩ kE.c.c.c.c rH ?_
 rintro i ⟨G,w⟩
 refine .sr<|.q .lss<|.zs<|.cond rfl (λg=>?_) λg=>?_
 have D:i<l.length:=by simp at g;omega
 obtain⟨z,d⟩:=ca D
 have F:=aR d
 refine .kn<|.seq<|.block<|.sr<|.mo rfl<|.ag rfl<|.z<|.mo rfl<|.mo rfl<|.mo rfl ?_
 refine .bF i h d (λI=>?_)
 refine .q (.aL rfl)<|.gx (first:=[]) (captured:=caps) (vs:=[(λt:Ty=>Value.agg t.enc.toArray) z]) (C z F _ λb o A=>.inl A) (λu E=>?_)
 subst E
 refine .zn<|.cond rfl (λm=>?_) λm=>?_
 refine .sr<|.mo rfl<|.az rfl<|.ret (bA (aJ (cW (bA (aJ (aP rfl ?_))))))
 ·exact⟨⟨_,rfl,.inl ⟨i,z,d,m,w,rfl⟩⟩,rfl⟩
 refine .skip<|ba<|au<|.region<|.q (.inc (n:=i) (by omega))<|.mo rfl<|.nil ?_
 ·exact bp (i+1) ⟨by omega,λj y r a=>by
   rcases adU j i with hh|hh
   ·exact w j y hh a
   ·obtain rfl:j=i:=by omega
    rw[d]at a;cases a;exact m⟩ (by omega) kE.c.c.c.c rH
 refine .exit<|bD<|bG<|bE<|au<|.sr<|.az rfl<|.ret (aP rfl ?_)
 ·have B:i=l.length:=by simp at g;omega
  subst B
  refine⟨⟨_,rfl,.inr ⟨λy a=>?_,rfl⟩⟩,rfl⟩
  obtain⟨j,r,rfl⟩:=adS.1 a
  exact w j _ r (bk r)
theorem jU(f:FuncId)(caps:List Value) [e:aT prog f](p:Ty->Bool)(v:Value)(l:List Ty)(R:aA)(h:RS R 2 Ty.enc v l)(j:∀s∈l,∀R',(∀b o,R b o->R' b o)->Spec prog f ((λt:Ty=>Value.agg t.enc.toArray) s::caps) R' [] λu H'=>u=.bool (p s)/\H'=[]):
  Spec prog 175 [v,.func (.func f) #[] caps.toArray] R [] λu H'=>u=.bool (l.any p)/\H'=[]:=by
 refine Spec.body func175 rfl results175 ntmps175 rfl<|.sr<|.ag rfl<|.z<|.mo rfl<|.mo rfl<|.aQ (mK f caps p v l _ h.rx λs r R' d=>j s r R' λb o g=>d b o (.inl g)) (λu w=>?_)
 obtain⟨k,rfl,m⟩:=w
 have n:decide (0<=k)=l.any p:=by
  rcases m with⟨i,x,a,c,_,rfl⟩|⟨a,rfl⟩
  ·rw[aec.2 ⟨x,aR a,c⟩];simp
  ·rw[aed.2 λy A=>by rw[a y A];simp];rfl
 refine .q .geq<|.az rfl<|.ret (aP rfl ?_)
 ·exact⟨by simp only[n],rfl⟩
end LTY
namespace LSC
theorem mC(v:Value)(xs:List Sc)(R:aA)(h:RS R 4 Sc.enc v xs)(i:xs.length<=1000000):
  Spec prog 126 [v] R [] λv' H'=>∃T,H'=[T]/\OS 169 4 Sc.enc v' xs T:=by
 obtain⟨b,d,rfl⟩:=h.val
 have f:∀H,RS (Rx R H) 4 Sc.enc (.slice b xs.length d) xs:=λH=>h.rx
 refine Spec.gj (H':=[[]]) (by simp)<|Spec.body func126 rfl results126 ntmps126 rfl<|.sr<|.ag rfl<|.zs<|.sr<|.mo rfl<|.q (.qq rfl rfl)<|.zn<|.cond rfl (λa=>?_) λa=>?_
 refine .sr<|.az rfl<|.ret (aJ (br _ (.one (.tmp rfl)) (.one [0] _) ?_))
 ·obtain rfl:b=none:=by simpa using a
  have:=h.qI
  subst this
  exact⟨[],rfl,OS.nil⟩
 refine .kn<|.sr ?_
 refine .qg (λg=>?_)
 refine .mo rfl ?_
 refine .append (OS.empty (enc:=Sc.enc) (sz:=4)) (f _) (by simp;omega) (λv' c e=>?_)
 refine .az rfl<|.ret (br _ (.one (.tmp rfl)) (.one [0] _) ?_)
 ·exact⟨c,by simp[take],by simpa using e⟩
theorem mK(f:FuncId)(caps:List Value) [e:aT prog f](p:Sc->Bool)(v:Value)(l:List Sc)(R:aA)(h:RS R 4 Sc.enc v l)(C:∀s∈l,∀R',(∀b o,R b o->R' b o)->Spec prog f ((λt:Sc=>Value.agg t.enc.toArray) s::caps) R' [] λu H'=>u=.bool (p s)/\H'=[]):
  Spec prog 228 [v,.func (.func f) #[] caps.toArray] R [] λu H'=>(∃k:Int,u=.int .i64 k/\((∃(i:Nat) (x:Sc),l[i]? =some x/\p x=true/\(∀j y,j<i->l[j]? =some y->p y=false)/\k=i)\/((∀y∈l,p y=false)/\k= -1)))/\H'=[]:=by
 have H:=h.le
 refine Spec.body func228 rfl results228 ntmps228 rfl<|.sr<|.ag rfl<|.zs<|.sr<|.mo rfl<|.q (.bK h)<|.mo rfl<|.zn<|.block<|.loop (X:=Nat) (λi=>i<=l.length/\∀j z,j<i->l[j]? =some z->p z=false) (λi=>[(0,v),(1,.func (.func f) #[] caps.toArray),(7,.int .i64 l.length),(8,iN i)]) (λ_=>[]) (λi=>l.length-i) 0 ⟨by omega,by omega⟩ kE.c.c.c.c rH ?_
 rintro i ⟨G,w⟩
 refine .sr<|.q .lss<|.zs<|.cond rfl (λg=>?_) λg=>?_
 have D:i<l.length:=by simp at g;omega
 obtain⟨z,d⟩:=ca D
 have F:=aR d
 refine .kn<|.seq<|.block<|.sr<|.mo rfl<|.ag rfl<|.z<|.mo rfl<|.mo rfl<|.mo rfl ?_
 refine .bF i h d (λI=>?_)
 refine .q (.aL rfl)<|.gx (first:=[]) (captured:=caps) (vs:=[(λt:Sc=>Value.agg t.enc.toArray) z]) (C z F _ λb o A=>.inl A) (λu E=>?_)
 subst E
 refine .zn<|.cond rfl (λm=>?_) λm=>?_
 refine .sr<|.mo rfl<|.az rfl<|.ret (bA (aJ (cW (bA (aJ (aP rfl ?_))))))
 ·exact⟨⟨_,rfl,.inl ⟨i,z,d,m,w,rfl⟩⟩,rfl⟩
 refine .skip<|ba<|au<|.region<|.q (.inc (n:=i) (by omega))<|.mo rfl<|.nil ?_
 ·exact bp (i+1) ⟨by omega,λj y r a=>by
   rcases adU j i with hh|hh
   ·exact w j y hh a
   ·obtain rfl:j=i:=by omega
    rw[d]at a;cases a;exact m⟩ (by omega) kE.c.c.c.c rH
 refine .exit<|bD<|bG<|bE<|au<|.sr<|.az rfl<|.ret (aP rfl ?_)
 ·have B:i=l.length:=by simp at g;omega
  subst B
  refine⟨⟨_,rfl,.inr ⟨λy a=>?_,rfl⟩⟩,rfl⟩
  obtain⟨j,r,rfl⟩:=adS.1 a
  exact w j _ r (bk r)
theorem jU(f:FuncId)(caps:List Value) [e:aT prog f](p:Sc->Bool)(v:Value)(l:List Sc)(R:aA)(h:RS R 4 Sc.enc v l)(j:∀s∈l,∀R',(∀b o,R b o->R' b o)->Spec prog f ((λt:Sc=>Value.agg t.enc.toArray) s::caps) R' [] λu H'=>u=.bool (p s)/\H'=[]):
  Spec prog 178 [v,.func (.func f) #[] caps.toArray] R [] λu H'=>u=.bool (l.any p)/\H'=[]:=by
 refine Spec.body func178 rfl results178 ntmps178 rfl<|.sr<|.ag rfl<|.z<|.mo rfl<|.mo rfl<|.aQ (mK f caps p v l _ h.rx λs r R' d=>j s r R' λb o g=>d b o (.inl g)) (λu w=>?_)
 obtain⟨k,rfl,m⟩:=w
 have n:decide (0<=k)=l.any p:=by
  rcases m with⟨i,x,a,c,_,rfl⟩|⟨a,rfl⟩
  ·rw[aec.2 ⟨x,aR a,c⟩];simp
  ·rw[aed.2 λy A=>by rw[a y A];simp];rfl
 refine .q .geq<|.az rfl<|.ret (aP rfl ?_)
 ·exact⟨by simp only[n],rfl⟩
end LSC
namespace LRE
theorem mK(f:FuncId)(caps:List Value) [e:aT prog f](p:cm->Bool)(v:Value)(l:List cm)(R:aA)(h:RS R 3 cm.enc v l)(C:∀s∈l,∀R',(∀b o,R b o->R' b o)->Spec prog f ((λt:cm=>Value.agg t.enc.toArray) s::caps) R' [] λu H'=>u=.bool (p s)/\H'=[]):
  Spec prog 207 [v,.func (.func f) #[] caps.toArray] R [] λu H'=>(∃k:Int,u=.int .i64 k/\((∃(i:Nat) (x:cm),l[i]? =some x/\p x=true/\(∀j y,j<i->l[j]? =some y->p y=false)/\k=i)\/((∀y∈l,p y=false)/\k= -1)))/\H'=[]:=by
 have H:=h.le
 refine Spec.body func207 rfl results207 ntmps207 rfl<|.sr<|.ag rfl<|.zs<|.sr<|.mo rfl<|.q (.bK h)<|.mo rfl<|.zn<|.block<|.loop (X:=Nat) (λi=>i<=l.length/\∀j z,j<i->l[j]? =some z->p z=false) (λi=>[(0,v),(1,.func (.func f) #[] caps.toArray),(7,.int .i64 l.length),(8,iN i)]) (λ_=>[]) (λi=>l.length-i) 0 ⟨by omega,by omega⟩ kE.c.c.c.c rH ?_
 rintro i ⟨G,w⟩
 refine .sr<|.q .lss<|.zs<|.cond rfl (λg=>?_) λg=>?_
 have D:i<l.length:=by simp at g;omega
 obtain⟨z,d⟩:=ca D
 have F:=aR d
 refine .kn<|.seq<|.block<|.sr<|.mo rfl<|.ag rfl<|.z<|.mo rfl<|.mo rfl<|.mo rfl ?_
 refine .bF i h d (λI=>?_)
 refine .q (.aL rfl)<|.gx (first:=[]) (captured:=caps) (vs:=[(λt:cm=>Value.agg t.enc.toArray) z]) (C z F _ λb o A=>.inl A) (λu E=>?_)
 subst E
 refine .zn<|.cond rfl (λm=>?_) λm=>?_
 refine .sr<|.mo rfl<|.az rfl<|.ret (bA (aJ (cW (bA (aJ (aP rfl ?_))))))
 ·exact⟨⟨_,rfl,.inl ⟨i,z,d,m,w,rfl⟩⟩,rfl⟩
 refine .skip<|ba<|au<|.region<|.q (.inc (n:=i) (by omega))<|.mo rfl<|.nil ?_
 ·exact bp (i+1) ⟨by omega,λj y r a=>by
   rcases adU j i with hh|hh
   ·exact w j y hh a
   ·obtain rfl:j=i:=by omega
    rw[d]at a;cases a;exact m⟩ (by omega) kE.c.c.c.c rH
 refine .exit<|bD<|bG<|bE<|au<|.sr<|.az rfl<|.ret (aP rfl ?_)
 ·have B:i=l.length:=by simp at g;omega
  subst B
  refine⟨⟨_,rfl,.inr ⟨λy a=>?_,rfl⟩⟩,rfl⟩
  obtain⟨j,r,rfl⟩:=adS.1 a
  exact w j _ r (bk r)
theorem jU(f:FuncId)(caps:List Value) [e:aT prog f](p:cm->Bool)(v:Value)(l:List cm)(R:aA)(h:RS R 3 cm.enc v l)(j:∀s∈l,∀R',(∀b o,R b o->R' b o)->Spec prog f ((λt:cm=>Value.agg t.enc.toArray) s::caps) R' [] λu H'=>u=.bool (p s)/\H'=[]):
  Spec prog 160 [v,.func (.func f) #[] caps.toArray] R [] λu H'=>u=.bool (l.any p)/\H'=[]:=by
 refine Spec.body func160 rfl results160 ntmps160 rfl<|.sr<|.ag rfl<|.z<|.mo rfl<|.mo rfl<|.aQ (mK f caps p v l _ h.rx λs r R' d=>j s r R' λb o g=>d b o (.inl g)) (λu w=>?_)
 obtain⟨k,rfl,m⟩:=w
 have n:decide (0<=k)=l.any p:=by
  rcases m with⟨i,x,a,c,_,rfl⟩|⟨a,rfl⟩
  ·rw[aec.2 ⟨x,aR a,c⟩];simp
  ·rw[aed.2 λy A=>by rw[a y A];simp];rfl
 refine .q .geq<|.az rfl<|.ret (aP rfl ?_)
 ·exact⟨by simp only[n],rfl⟩
end LRE
namespace LND
theorem mC(v:Value)(xs:List Nd)(R:aA)(h:RS R 5 Nd.enc v xs)(i:xs.length<=1000000):
  Spec prog 125 [v] R [] λv' H'=>∃T,H'=[T]/\OS 199 5 Nd.enc v' xs T:=by
 obtain⟨b,d,rfl⟩:=h.val
 have f:∀H,RS (Rx R H) 5 Nd.enc (.slice b xs.length d) xs:=λH=>h.rx
 refine Spec.gj (H':=[[]]) (by simp)<|Spec.body func125 rfl results125 ntmps125 rfl<|.sr<|.ag rfl<|.zs<|.sr<|.mo rfl<|.q (.qq rfl rfl)<|.zn<|.cond rfl (λa=>?_) λa=>?_
 refine .sr<|.az rfl<|.ret (aJ (br _ (.one (.tmp rfl)) (.one [0] _) ?_))
 ·obtain rfl:b=none:=by simpa using a
  have:=h.qI
  subst this
  exact⟨[],rfl,OS.nil⟩
 refine .kn<|.sr ?_
 refine .qg (λg=>?_)
 refine .mo rfl ?_
 refine .append (OS.empty (enc:=Nd.enc) (sz:=5)) (f _) (by simp;omega) (λv' c e=>?_)
 refine .az rfl<|.ret (br _ (.one (.tmp rfl)) (.one [0] _) ?_)
 ·exact⟨c,by simp[take],by simpa using e⟩
end LND
section
variable{c:Cf}{num:List Nat}{sub:aW->List Sub}{k:aW}
theorem fK.ex{B:Nat}(h:∀i,(opened c num sub k i).1.length<=B):∃N,fK c num sub k N:=by
 have b:∀m,(∃N,N<=m/\fK c num sub k N)\/∀j,j<=m->j<(opened c num sub k j).1.length:=by
  intro m
  induction m with
  |zero=>
   refine .inr λj a=>?_
   obtain rfl:j=0:=by omega
   simp[opened]
  |succ m ih=>
   rcases ih with⟨N,h1,h2⟩|ih
   ·exact .inl ⟨N,by omega,h2⟩
   ·by_cases h1:m+1<(opened c num sub k (m+1)).1.length
    ·exact .inr λj a=>by
      rcases adU j (m+1)with h2|h2
      ·exact ih j (by omega)
      ·obtain rfl:j=m+1:=by omega
       exact h1
    ·exact .inl ⟨m+1,adZ _,by omega,λj a=>ih j (by omega)⟩
 rcases b (B+1)with⟨N,_,h1⟩|h1
 ·exact⟨N,h1⟩
 ·have:=h1 (B+1) (adZ _)
  have:=h (B+1)
  omega
def jV(c:Cf)(num:List Nat)(sub:aW->List Sub)(k:aW)(b:Int)(can:Bool)(N:Nat):List bQ×Nat×Int:=
 if b<1 then([],0,2)else if can=false then([],0,12)
 else if(((opened c num sub k N).1.length+(opened c num sub k N).2:Nat):Int)<=b then((opened c num sub k N).1,(opened c num sub k N).2,0)else([],0,16)
theorem Mo{P:aW->Prop}{a b:List bQ}(h:Grown c num P a b){i:Nat}(e:∀j p,i<=j->a[j]? =some p->p=one c num p.k):∀j p,i<=j->b[j]? =some p->p=one c num p.k:=by
 obtain⟨⟨l,rfl,g⟩,_⟩:=h
 intro j p f d
 rcases adU j a.length with h1|h1
 ·rw[List.getElem?_append_left h1]at d
  exact e j p f d
 ·rw[List.getElem?_append_right h1]at d
  exact(g p (aR d)).2
theorem zQ:∀(i:Nat) (j:Nat) (p:bQ),i<=j->(opened c num sub k i).1[j]? =some p->p=one c num p.k
 |0,j,p,_,a=>by
  have:=aR a
  simp only[opened,adV]at this
  subst this
  rw[qK]
 |i+1,j,p,b,a=>by
  have d:=λj p b a=>zQ i j p b a
  change (eJ c num sub (opened c num sub k i).1 i).1[j]? =some p at a
  unfold eJ at a
  split at a
  ·exact d j p (by omega) a
  ·rw[List.getElem?_set_ne (by omega)]at a
   exact Mo (lD _ _ _) d j p (by omega) a
theorem Ob{ps:List bQ}{i:Nat}{p:bQ}(d:ps[i]? =some p)(a:p=one c num p.k)(b:p.found=false):eJ c num sub ps i=(ps,0):=by
 have g:p.nodes=[]:=by rw[a];exact zM (by rw[<-a];exact b)
 have q:p.iC=[]/\p.leads=[]:=by
  rw[a]
  unfold one
  split<;>exact⟨rfl,rfl⟩
 obtain⟨h,o⟩:=q
 obtain⟨k,f,n,m,u,l⟩:=p
 simp only at h o g b
 subst h o g b
 unfold eJ
 rw[d]
 simp only[dC,Bool.false_eq_true,if_false]
 refine Prod.ext ?_ rfl
 refine adW λj=>?_
 rw[ad4]
 split
 ·rename_i e;subst e
  have:=(ad5.1 d).1
  rw[adO this,d]
 ·rfl
theorem wL:∀(ks:List aW) (ps:List bQ) (x:aW),dO c num ps (ks++[x])=((fp c num (dO c num ps ks).1 x).1,(dO c num ps ks).2++[(fp c num (dO c num ps ks).1 x).2])
 |[],ps,x=>rfl
 |y::ks,ps,x=>by
  rw[ad6,dO,wL ks _ x]
  rfl
theorem wP(y:aW):∀(ns:List Nd) (ps:List bQ) (n:Nd),dC c num sub y ps (ns++[n])=((dO c num (dC c num sub y ps ns).1 (eC c sub y n)).1,(dC c num sub y ps ns).2++[(dO c num (dC c num sub y ps ns).1 (eC c sub y n)).2])
 |[],ps,n=>rfl
 |m::ns,ps,n=>by
  rw[ad6,dC,wP y ns _ n]
  rfl
theorem BK{ks:List aW}{i:Nat}{x:aW}(h:ks[i]? =some x)(ps:List bQ):dO c num ps (ks.take (i+1))=((fp c num (dO c num ps (ks.take i)).1 x).1,(dO c num ps (ks.take i)).2++[(fp c num (dO c num ps (ks.take i)).1 x).2]):=by
 rw[show ks.take (i+1)=ks.take i++[x] by rw[ad0,h];rfl,wL]
theorem BM{a:List Nd}{i:Nat}{n:Nd}(h:a[i]? =some n)(y:aW)(ps:List bQ):dC c num sub y ps (a.take (i+1))=((dO c num (dC c num sub y ps (a.take i)).1 (eC c sub y n)).1,(dC c num sub y ps (a.take i)).2++[(dO c num (dC c num sub y ps (a.take i)).1 (eC c sub y n)).2]):=by
 rw[show a.take (i+1)=a.take i++[n] by rw[ad0,h];rfl,wP]
theorem wI:∀(a b:List aW) (ps:List bQ),(dO c num ps (a++b)).1=(dO c num (dO c num ps a).1 b).1
 |[],b,ps=>rfl
 |x::a,b,ps=>by rw[ad6,dO,dO];exact wI a b _
theorem wM(y:aW):∀(a b:List Nd) (ps:List bQ),(dC c num sub y ps (a++b)).1=(dC c num sub y (dC c num sub y ps a).1 b).1
 |[],b,ps=>rfl
 |x::a,b,ps=>by rw[ad6,dC,dC];exact wM y a b _
theorem BJ(ks:List aW)(i:Nat)(ps:List bQ):(dO c num ps (ks.take i)).1.length<=(dO c num ps ks).1.length:=by
 have h:=wI (c:=c) (num:=num) (ks.take i) (ks.drop i) ps
 rw[List.take_append_drop]at h
 rw[h]
 exact(oM _ _).len
theorem BL(y:aW)(a:List Nd)(i:Nat)(ps:List bQ):(dC c num sub y ps (a.take i)).1.length<=(dC c num sub y ps a).1.length:=by
 have h:=wM (c:=c) (num:=num) (sub:=sub) y (a.take i) (a.drop i) ps
 rw[List.take_append_drop]at h
 rw[h]
 exact(lD _ _ _).len
theorem BI(ks:List aW)(ps:List bQ):ps.length<=(dO c num ps ks).1.length:=(oM _ _).len
theorem Rq(y:aW)(a:List Nd)(ps:List bQ):ps.length<=(dC c num sub y ps a).1.length:=(lD _ _ _).len
def li(a:List Nat)(l:List Nat):List Nat:=l.foldl (λa x=>if x∈a then a else a++[x]) a
theorem AE(a l m:List Nat):li a (l++m)=li (li a l) m:=List.foldl_append
theorem PX(a:List Nat)(x:Nat):li a [x]=if x∈a then a else a++[x]:=rfl
theorem PY{l:List Nat}{i x:Nat}(h:l[i]? =some x)(a:List Nat):li a (l.take (i+1))=if x∈li a (l.take i)then li a (l.take i)else li a (l.take i)++[x]:=by
 rw[show l.take (i+1)=l.take i++[x] by rw[ad0,h];rfl,AE,PX]
theorem N9{ps:List bQ}{i:Nat}{p:bQ}(a:ps[i]? =some p):eJ c num sub ps i=((dC c num sub p.k ps p.nodes).1.set i {p with iC:=if p.found then kJ c sub p.k else [],leads:=(dC c num sub p.k ps p.nodes).2},kX (dC c num sub p.k ps p.nodes).2.flatten):=by unfold eJ;rw[a]
theorem Of(i:Nat):opened c num sub k (i+1)=((eJ c num sub (opened c num sub k i).1 i).1,(opened c num sub k i).2+(eJ c num sub (opened c num sub k i).1 i).2):=rfl
end
abbrev dH:Type:=Nat×Nat
def me(x y:dH):Bool:=decide (x.1<y.1)||(decide (x.1=y.1)&&decide (x.2<y.2))
theorem yT{x y:dH}:me x y=true↔x.1<y.1\/(x.1=y.1/\x.2<y.2):=by
 unfold me
 simp only[Bool.or_eq_true,Bool.and_eq_true,decide_eq_true_eq]
theorem ux{x y:dH}:me x y=false↔y.1<x.1\/(x.1=y.1/\y.2<=x.2):=by
 rw[Bool.eq_false_iff,ne_eq,yT]
 omega
theorem uy:SO me:=⟨λx=>by rw[ux];omega,λx y z a b=>by rw[yT]at *;omega,λx y z a b=>by rw[ux]at *;omega⟩
def items(ps:List bQ)(q:List Bool):List dH:=(jq q).map λi=>(fW ps i,i)
theorem sH(q:List Bool):(jq q).Nodup:=List.Pairwise.filter _ List.nodup_range
theorem tE{q:List Bool}{i:Nat}{b:Bool}(h:q.getD i false=b)(a:i<q.length):q.set i b=q:=by
 refine adW λj=>?_
 rw[ad4]
 split
 ·rename_i e
  subst e
  rw[adQ,bk a,adT]at h
  simp[a,h]
 ·rfl
theorem OF{q:List Bool}{i:Nat}(f:i<q.length)(h:q.getD i false=false):(jq q++[i]).Perm (jq (q.set i true)):=by
 refine(List.perm_ext_iff_of_nodup ?_ (sH _)).2 λx=>?_
 ·rw[List.nodup_append]
  refine⟨sH q,by simp,λa d b c=>?_⟩
  rw[adV]at c
  subst c
  intro e
  subst e
  rw[fP.1 d]at h
  cases h
 ·rw[List.mem_append,adV,fP,fP,oO _ _ _ _ f]
  by_cases e:i=x
  ·subst e;simp
  ·rw[adP e]
   exact⟨λh=>h.elim id λh=>absurd h.symm e,.inl⟩
theorem OE{q:List Bool}{i:Nat}(h:q.getD i false=true)(a:i<q.length):(jq q).Perm (i::jq (q.set i false)):=by
 refine(List.perm_ext_iff_of_nodup (sH _) ?_).2 λx=>?_
 ·rw[List.nodup_cons]
  refine⟨λb=>?_,sH _⟩
  have:=fP.1 b
  rw[oO _ _ _ _ a,adO rfl]at this
  cases this
 ·rw[ad3,fP,fP,oO _ _ _ _ a]
  by_cases e:i=x
  ·subst e;rw[h];simp
  ·rw[adP e]
   exact⟨.inr,λh=>h.elim (λh=>absurd h.symm e) id⟩
theorem MO{ps:List bQ}{q:List Bool}{i:Nat}(a:i<q.length)(h:q.getD i false=false):(items ps q++[(fW ps i,i)]).Perm (items ps (q.set i true)):=by
 have:=(OF a h).map λi=>(fW ps i,i)
 rw[List.map_append]at this
 exact this
theorem yL{ps:List bQ}{q:List Bool}{L:List dH}(c:L.Perm (items ps q))(f:fE me L L.length){x:dH}(d:L[0]? =some x):mL ps q x.2/\x.1=fW ps x.2/\x.2<q.length:=by
 have n:x∈items ps q:=c.mem_iff.1 (aR d)
 obtain⟨i,a,rfl⟩:=ad2.1 n
 have m:i<q.length:=by
  unfold jq at a
  exact adX.1 (adR.1 a).1
 refine⟨⟨fP.1 a,λj g=>?_⟩,rfl,m⟩
 have h:(fW ps j,j)∈L:=c.mem_iff.2 (ad2.2 ⟨j,fP.2 g,rfl⟩)
 obtain⟨k,l,e⟩:=adS.1 h
 have b:=fE.least uy f d k _ (bk l)
 rw[e,ux]at b
 simp only at b⊢
 omega
theorem ML{ps:List bQ}{q:List Bool}{L a:List dH}(e:L.Perm (items ps q)){i:Nat}(d:i<q.length)(f:q.getD i false=true)(c:L.Perm ((fW ps i,i)::a)):a.Perm (items ps (q.set i false)):=by
 have b:=(OE f d).map λi=>(fW ps i,i)
 rw[List.map_cons]at b
 exact(List.Perm.cons_inv ((c.symm.trans e).trans b))
theorem MN{ps:List bQ}{q:List Bool}{L:List dH}(a:L.Perm (items ps q))(h:L=[]):jo q:=λi=>by
 cases hq:q.getD i false with
 |false=>rfl
 |true=>
  have:(fW ps i,i)∈L:=a.mem_iff.2 (ad2.2 ⟨i,fP.2 hq,rfl⟩)
  rw[h]at this
  cases this
theorem MM{ps:List bQ}{q:List Bool}{L:List dH}(a:L.Perm (items ps q)):L.length<=q.length:=by
 rw[a.length_eq]
 unfold items jq
 rw[List.length_map]
 exact Nat.le_trans (List.length_filter_le _ _) (by simp)
def lW(ps:List bQ)(n j:Nat):List Nat:=(List.range n).filter λi=>((ps[i]?).map λp=>decide (j∈p.leads.flatten)).getD false
theorem B2(ps:List bQ)(j:Nat):lW ps ps.length j=fG ps j:=rfl
theorem B4{ps:List bQ}{i:Nat}{p:bQ}(h:ps[i]? =some p)(j:Nat):lW ps (i+1) j=lW ps i j++if j∈p.leads.flatten then [i]else []:=by
 unfold lW
 rw[List.range_succ,List.filter_append]
 congr 1
 simp only[List.filter_cons,List.filter_nil,h,adY,adT]
 by_cases a:j∈p.leads.flatten
 ·rw[adO a,adO (decide_eq_true a)]
 ·rw[adP a,adP (by simpa using a)]
theorem B3{ps:List bQ}{i j x:Nat}(h:x∈lW ps i j):x<i:=by
 unfold lW at h
 exact adX.1 (adR.1 h).1
def gK(ps:List bQ)(i:Nat)(seen:List Nat)(j:Nat):List Nat:=lW ps i j++if j∈seen then [i]else []
theorem Cd(ps:List bQ)(i:Nat)(a:List Nat)(j:Nat):((gK ps i a j).getLast? =some i)↔j∈a:=by
 unfold gK
 by_cases h:j∈a
 ·rw[adO h];simp[h]
 ·rw[adP h,List.append_nil]
  constructor
  ·intro c
   have d:=List.mem_of_getLast? c
   exact absurd (B3 d) (Nat.lt_irrefl _)
  ·exact λb=>absurd b h
theorem Cg(ps:List bQ)(i:Nat)(b:List Nat)(c j:Nat):gK ps i (b++[c]) j=if j=c/\¬c∈b then gK ps i b j++[i]else gK ps i b j:=by
 unfold gK
 by_cases d:j=c
 ·subst d
  by_cases a:j∈b
  ·rw[adO (by simp),adP (by simp[a]),adO a]
  ·rw[adO (by simp),adO ⟨rfl,a⟩,adP a,List.append_nil]
 ·rw[adP (λh:j=c/\¬c∈b=>d h.1)]
  by_cases a:j∈b
  ·rw[adO (List.mem_append_left _ a),adO a]
  ·rw[adP (λh=>(List.mem_append.1 h).elim a λh=>d (adV.1 h)),adP a]
theorem Cc{ps:List bQ}{i:Nat}{p:bQ}(h:ps[i]? =some p)(j:Nat):gK ps i p.leads.flatten j=gK ps (i+1) [] j:=by
 unfold gK
 rw[B4 h]
 simp
theorem Nq{α:Type}{l:List α}{i:Nat}{x:α}(h:l[i]? =some x)(y:α):y∈l.take (i+1)↔y∈l.take i\/y=x:=by
 rw[ad0,h];simp
theorem Qe(v:Value)(l:List ByteArray)(s:ByteArray)(R:aA)(h:RS R 1 jW v l):
  Spec prog 191 [v,.string s] R [] λu H'=>(∃k:Int,u=.int .i64 k/\(0<=k↔s∈l))/\H'=[]:=by
 have m:=h.le
 refine Spec.body func191 rfl results191 ntmps191 rfl<|.sr<|.ag rfl<|.zs<|.sr<|.mo rfl<|.q (.bK h)<|.mo rfl<|.zn<|.block<|.loop (X:=Nat) (λi=>i<=l.length/\s∉l.take i) (λi=>[(0,v),(1,.string s),(7,.int .i64 l.length),(8,iN i)]) (λ_=>[]) (λi=>l.length-i) 0 ⟨by omega,by simp⟩ kE.c.c.c.c rH ?_
 rintro i ⟨j,e⟩
 refine .sr<|.q .lss<|.zs<|.cond rfl (λb=>?_) λb=>?_
 have g:i<l.length:=by simp at b;omega
 obtain⟨z,f⟩:=ca g
 refine .kn<|.seq<|.block<|.sr<|.mo rfl<|.ag rfl<|.z<|.mo rfl<|.mo rfl<|.mo rfl ?_
 refine .bF i h f (λo=>?_)
 refine .lo rfl<|.q .fb<|.zn<|.cond rfl (λa=>?_) λa=>?_
 refine .sr<|.mo rfl<|.az rfl<|.ret (bA (aJ (cW (bA (aJ (aP rfl ?_))))))
 ·have d:s=z:=by simpa using a
  exact⟨⟨_,rfl,by rw[d];simp[aR f]⟩,rfl⟩
 refine .skip<|ba<|au<|.region<|.q (.inc (n:=i) (by omega))<|.mo rfl<|.nil ?_
 ·exact bp (i+1) ⟨by omega,by rw[Nq f];simp at a;simp[e,a]⟩ (by omega) kE.c.c.c.c rH
 refine .exit<|bD<|bG<|bE<|au<|.sr<|.az rfl<|.ret (aP rfl ?_)
 ·have d:i=l.length:=by simp at b;omega
  rw[d,List.take_length]at e
  exact⟨⟨_,rfl,by simp[e]⟩,rfl⟩
theorem PV(v:Value)(l:List ByteArray)(s:ByteArray)(R:aA)(h:RS R 1 jW v l):
  Spec prog 150 [v,.string s] R [] λu H'=>u=.bool (decide (s∈l))/\H'=[]:=by
 refine Spec.body func150 rfl results150 ntmps150 rfl<|.sr<|.ag rfl<|.z<|.mo rfl<|.mo rfl<|.aQ (Qe v l s _ h.rx) (λu b=>?_)
 obtain⟨k,rfl,a⟩:=b
 refine .q .geq<|.az rfl<|.ret (aP rfl ?_)
 ·exact⟨by simp only[a],rfl⟩
theorem eH.ir:eH ⟨[],0,0⟩:=⟨by simp,by simp,by simp,by simp,by simp,by simp⟩
section
variable{κ:Type} [DecidableEq κ]{encK:κ->Value}{key:bf->κ}
structure CX(encK:κ->Value)(key:bf->κ)(qs:List RB)(vm:Value)(M0 M1:List (κ×(Value×av)))(todo:List κ)(Tm Sn:av):Prop where
 ms:MS encK (λp:Value×av=>p.1) vm M1 Tm
 td:∀k∈todo,cG k M1=cG k M0
 nd:todo.Nodup
 dn:∀p∈M1,p.1∉todo->OS 151 1 jh p.2.1 (ids key p.1 qs) p.2.2/\ids key p.1 qs≠[]
 al:∀x∈qs,key x.2∉todo->key x.2∈M1.map (·.1)
 pm:Sn.Perm ((M1.filter λp=>decide (p.1∉todo)).flatMap λp=>p.2.2)
theorem CX.done{qs:List RB}{vm:Value}{e b:List (κ×(Value×av))}{d c:av}(h:CX encK key qs vm e b [] d c):iR encK key qs vm b d c:=
 ⟨h.ms,by have:=h.pm;rwa [List.filter_eq_self.2 λp _=>by simp]at this,λp a=>(h.dn p a (by simp)).1,λp a=>(h.dn p a (by simp)).2,λx f=>h.al x f (by simp)⟩
theorem Oj{todo:List κ}{k:κ}(a:k∈todo)(M:List (κ×(Value×av))):(kx k M).filter (λp=>decide (p.1∉todo.filter λk'=>decide (k'≠k)))=M.filter λp=>decide (p.1∉todo):=by
 unfold kx
 rw[List.filter_filter]
 refine List.filter_congr λp _=>?_
 by_cases e:p.1=k
 ·rw[e];simp[a]
 ·simp[e]
theorem CX.gY{qs:List RB}{vm:Value}{g b:List (κ×(Value×av))}{todo:List κ}{o i:av}(h:CX encK key qs vm g b todo o i){k:κ}(s:k∈todo){v':Value}{a l:av}(m:MS encK (λp:Value×av=>p.1) vm (dy k (v',a) b) l)(u:OS 151 1 jh v' (ids key k qs) a)(t:ids key k qs≠[]):
  CX encK key qs vm g (dy k (v',a) b) (todo.filter λk'=>decide (k'≠k)) l (a++i):=by
 have n:=h.ms.nd
 refine⟨m,λj r=>?_,h.nd.sublist List.filter_sublist,λp hp f=>?_,λx v f=>?_,?_⟩
 ·have:=adR.1 r
  rw[kV,adP (by simpa using this.2)]
  exact h.td j this.1
 ·by_cases e:p.1=k
  ·have c:cG p.1 (dy k (v',a) b)=some p.2:=sq m.nd (by exact hp)
   rw[kV,adO e]at c
   have q:=Option.some.inj c
   rw[e, <-q]
   exact⟨u,t⟩
  ·rcases uP n hp with hp|hp
   ·exact h.dn p hp λd=>f (adR.2 ⟨d,by simp[e]⟩)
   ·exact absurd (by rw[hp]) e
 ·rw[qE]
  by_cases e:key x.2=k
  ·split
   ·rw[e];assumption
   ·simp[e]
  ·have:=h.al x v λd=>f (adR.2 ⟨d,by simp[e]⟩)
   split<;>simp[this]
 ·have c:((dy k (v',a) b).filter λp=>decide (p.1∉todo.filter λk'=>decide (k'≠k))).Perm ((k,(v',a))::b.filter λp=>decide (p.1∉todo)):=by
   refine((sx n).filter _).trans ?_
   unfold pb
   rw[List.filter_append,Oj s]
   refine(List.perm_append_comm).trans ?_
   rw[List.filter_cons,adO (by simp)]
   exact .refl _
  refine .trans ?_ (c.flatMap_right _).symm
  rw[List.flatMap_cons]
  exact .append_left _ h.pm
end
end Go.Proofs.YtdljmchhecoakaaGreat

/- What the law 'LookupJust' uses. No condition. -/
import Derived.Test.YtdljmchhecoakaaGreatKLookupJustB
import Derived.Test.YtdljmchhecoakaaGreatKLookupJustF
import Derived.Test.YtdljmchhecoakaaGreatKLookupJustH
namespace Go.Proofs.YtdljmchhecoakaaGreat
set_option linter.defProp false
def adB:=@if_neg
def adC:=@if_pos
def adD:=@List.getD_eq_getElem?_getD
def adE:=@List.mem_iff_getElem
def adF:=@Option.getD_some
def adG:=@List.mem_filter
def adH:=@Nat.lt_or_ge
def adI:=@List.mem_singleton
def adJ:=@List.ext_getElem?
def adK:=@List.mem_range
def adL:=@Option.map_some
def adM:=@Nat.le_refl
def adN:=@List.take_add_one
def adO:=@List.getElem?_eq_none
def adP:=@List.mem_map
def adQ:=@List.mem_cons
def adR:=@List.getElem?_set
def adS:=@List.getElem?_eq_some_iff
def adT:=@List.cons_append
def adU:=@List.mem_of_mem_drop
def adV:=@List.mem_of_mem_take
def adW:=@List.getElem?_map
def adX:=@List.mem_cons_self
def adY:=@List.mem_flatten
def adZ:=@List.any_eq_true
def ad0:=@List.any_eq_false
def ad1:=@List.countP_eq_length_filter
open Tryz
set_option linter.unusedVariables false
set_option linter.unusedSimpArgs false
set_option maxRecDepth 4000
structure fC where
 kind:Int
 wm:Value
 wn:Value
 wc:Value
 f:aA
 rev:Int
 bE:List aA
 no:List aA
 cs:List cB
def fC.enc(c:fC):List Value:=[.int .i64 c.kind,c.wm,c.wn,c.wc]++c.f.enc++[.int .u64 c.rev]
structure fC.is(R:ay)(c:fC):Prop where
 hm:RS R 7 aA.enc c.wm c.bE
 hn:RS R 7 aA.enc c.wn c.no
 hc:RS R 8 cB.enc c.wc c.cs
 fm:∀t∈c.bE,t.fits
 fn:∀t∈c.no,t.fits
 fc:∀d∈c.cs,d.t.fits
 r0:0<=c.rev
 r1:c.rev<=18446744073709551615
def fC.iZ(c:fC):Prop:=c.bE.length<=34/\c.no.length<=34/\c.cs.length<=34
theorem fC.is.dg{R:ay}{c:fC}(h:c.is R):cC c.enc:=⟨by
 obtain⟨i,e,a⟩:=h.hm.val
 obtain⟨j,f,b⟩:=h.hn.val
 obtain⟨k,g,d⟩:=h.hc.val
 simp[fC.enc,aA.enc,a,b,d,aB]⟩
theorem Mx(v:Value)(cs:List fC)(n:Nat)(hn:n<=1000)(R b:ay)(h:RS R 12 fC.enc v cs)(hD:∀c∈cs,c.is b):
  Spec prog 18 [v,iN n] R [] λu H'=>∃T,H'=[T]/\∃ds,OS 51 12 fC.enc u ds T/\(∀d∈ds,d.is b/\d.iZ)/\ds.length=min cs.length n:=by
 have hl:=h.le
 obtain⟨V,U,rfl⟩:=h.val
 refine Spec.hB (H':=[[]]) (by simp)<|Spec.body func18 rfl results18 ntmps18 rfl<|.sr<|.ag rfl<|.z<|.ag rfl<|.zs<|.sr<|.az rfl<|.block<|.loop (X:=Nat×List fC×Value×ax) (λy=>(y.1<=cs.length/\y.1<=n/\y.2.1.length=y.1)/\OS 51 12 fC.enc y.2.2.1 y.2.1 y.2.2.2/\∀d∈y.2.1,d.is b/\d.iZ) (λy=>[(0,.slice V cs.length U),(1,iN n),(5,y.2.2.1),(6,iN y.1)]) (λy=>[y.2.2.2]) (λy=>cs.length-y.1) (0,[],sZ,[]) ⟨⟨Nat.zero_le _,Nat.zero_le _,rfl⟩,OS.nil,by simp⟩ kE.c.c.c.c rH ?_
 rintro⟨i,ds,vo,H⟩ ⟨⟨hi,a6,a3⟩,I,S⟩
 simp only at hi a6 a3 I S⊢
 have io:=I.aB
 refine .seq<|.sr<|.mo rfl<|.mo rfl<|.q (.bO h)<|.q .lss<|.mo rfl<|.split (t:=12) rfl (λo=>?_) (λo=>?_)
 refine .gT o<|.mo rfl<|.gT o<|.mo rfl<|.gT o<|.q .lss<|.q (.aU o)<|.zn<|.cond rfl (λh1=>?_) λh1=>?_
 have a1:i<cs.length/\i<n:=by simp_all
 obtain⟨c,hc⟩:∃c,cs[i]? =some c:=⟨_,aV a1.1⟩
 have a:=hD c (aW hc)
 have a8:=a.dg
 refine .kn<|.seq<|.block<|.sr<|.mo rfl<|.mo rfl<|.bG i h hc (λa9=>?_)
 obtain⟨r,O,Q,N,f,s,e,g,j⟩:=c
 have l:RS b 7 aA.enc O e:=a.hm
 have m:RS b 7 aA.enc Q g:=a.hn
 have k:RS b 8 cB.enc N j:=a.hc
 obtain⟨E,B,rfl⟩:=l.val
 obtain⟨F,C,rfl⟩:=m.val
 obtain⟨D,A,rfl⟩:=k.val
 have L:cC (fC.enc ⟨r,.slice E e.length B,.slice F g.length C,.slice D j.length A,f,s,e,g,j⟩):=a.dg
 refine .q (.aT rfl) ?_
 refine .bU (λG=>?_)
 refine .bP rfl rfl<|.zs<|.sr<|.fa rfl<|.lo rfl<|.q (.bO l)<|.q .gtr<|.zn ?_
 refine bx.cut (X:=fC) (λd=>d.is b/\d.bE.length<=34) (λd=>[(0,.slice V cs.length U),(1,iN n),(5,vo),(6,iN i),(7,pT G)]) (λd=>[bl G d.enc 51,H]) ?_ ?_
 refine .cond rfl (λW=>?_) λW=>?_
 refine .region<|.fa rfl<|.lo rfl<|.mS (R':=b) 0 34 l rfl ⟨_,rfl⟩ (by omega) (by have:=bX W;first|omega|(simp only at this;omega)) (λM p=>?_)
 have a4:=p.aB
 refine .fa rfl<|.dz rfl rfl<|.nil ?_
 ·exact aG ⟨r,M,.slice F g.length C,.slice D j.length A,f,s,(e.drop 0).take (34-0),g,j⟩ ⟨⟨p,m,k,λt J=>a.fm t (adU (adV J)),a.fn,a.fc,a.r0,a.r1⟩,by simp;omega⟩ kE.c.c.c.c.c rH
 refine .skip ?_
 ·exact aG _ ⟨a,by have:=bF W;first|omega|(simp only at this;omega)|(simp only;omega)⟩ kE.c.c.c.c.c rH
 intro x K
 clear L l m k a
 obtain⟨a,w⟩:=K
 obtain⟨r,O,Q,N,f,s,e,g,j⟩:=x
 have l:RS b 7 aA.enc O e:=a.hm
 have m:RS b 7 aA.enc Q g:=a.hn
 have k:RS b 8 cB.enc N j:=a.hc
 obtain⟨E,B,rfl⟩:=l.val
 obtain⟨F,C,rfl⟩:=m.val
 obtain⟨D,A,rfl⟩:=k.val
 have L:cC (fC.enc ⟨r,.slice E e.length B,.slice F g.length C,.slice D j.length A,f,s,e,g,j⟩):=a.dg
 refine aw<|.seq<|.sr<|.fa rfl<|.lo rfl<|.q (.bO m)<|.q .gtr<|.zn ?_
 refine bx.cut (X:=fC) (λd=>d.is b/\d.bE.length<=34/\d.no.length<=34) (λd=>[(0,.slice V cs.length U),(1,iN n),(5,vo),(6,iN i),(7,pT G)]) (λd=>[bl G d.enc 51,H]) ?_ ?_
 refine .cond rfl (λY=>?_) λY=>?_
 refine .region<|.fa rfl<|.lo rfl<|.mS (R':=b) 0 34 m rfl ⟨_,rfl⟩ (by omega) (by have:=bX Y;first|omega|(simp only at this;omega)) (λM p=>?_)
 have a4:=p.aB
 refine .fa rfl<|.dz rfl rfl<|.nil ?_
 ·exact aG ⟨r,.slice E e.length B,M,.slice D j.length A,f,s,e,(g.drop 0).take (34-0),j⟩ ⟨⟨l,p,k,a.fm,λt J=>a.fn t (adU (adV J)),a.fc,a.r0,a.r1⟩,w,by simp;omega⟩ kE.c.c.c.c.c rH
 refine .skip ?_
 ·exact aG _ ⟨a,w,by have:=bF Y;first|omega|(simp only at this;omega)|(simp only;omega)⟩ kE.c.c.c.c.c rH
 intro x K
 clear L l m k a w
 obtain⟨a,w,a0⟩:=K
 obtain⟨r,O,Q,N,f,s,e,g,j⟩:=x
 have l:RS b 7 aA.enc O e:=a.hm
 have m:RS b 7 aA.enc Q g:=a.hn
 have k:RS b 8 cB.enc N j:=a.hc
 obtain⟨E,B,rfl⟩:=l.val
 obtain⟨F,C,rfl⟩:=m.val
 obtain⟨D,A,rfl⟩:=k.val
 have L:cC (fC.enc ⟨r,.slice E e.length B,.slice F g.length C,.slice D j.length A,f,s,e,g,j⟩):=a.dg
 refine aw<|.seq<|.sr<|.fa rfl<|.lo rfl<|.q (.bO k)<|.q .gtr<|.zn ?_
 refine bx.cut (X:=fC) (λd=>d.is b/\d.iZ) (λd=>[(0,.slice V cs.length U),(1,iN n),(5,vo),(6,iN i),(7,pT G)]) (λd=>[bl G d.enc 51,H]) ?_ ?_
 refine .cond rfl (λZ=>?_) λZ=>?_
 refine .region<|.fa rfl<|.lo rfl<|.mS (R':=b) 0 34 k rfl ⟨_,rfl⟩ (by omega) (by have:=bX Z;first|omega|(simp only at this;omega)) (λM p=>?_)
 have a4:=p.aB
 refine .fa rfl<|.dz rfl rfl<|.nil ?_
 ·exact aG ⟨r,.slice E e.length B,.slice F g.length C,M,f,s,e,g,(j.drop 0).take (34-0)⟩ ⟨⟨l,m,p,a.fm,a.fn,λt J=>a.fc t (adU (adV J)),a.r0,a.r1⟩,w,a0,by simp;omega⟩ kE.c.c.c.c.c rH
 refine .skip ?_
 ·exact aG _ ⟨a,w,a0,by have:=bF Z;first|omega|(simp only at this;omega)|(simp only;omega)⟩ kE.c.c.c.c.c rH
 intro x K
 clear L l m k a w a0
 obtain⟨a,a5⟩:=K
 have ix:=a.dg
 refine aw<|.region<|.mo rfl<|.q (.aT rfl) ?_
 refine .dY (λa7=>?_)
 refine .append I (RS.lits (xs:=[x]) rfl (by simp[fC.enc,aA.enc]) (by have:=ix.h;simpa using this)) (by simp;omega) (λv7 T7 a2=>?_)
 have i7:=a2.aB
 refine .ag rfl<|.nil<|aX<|aw<|.region<|.mo rfl<|.ia (i+1) .add<|.ag rfl<|.nil ?_
 ·exact bm (i+1,ds++[x],v7,T7) ⟨⟨a1.1,a1.2,by simp[a3]⟩,a2,λd hd=>by
   rcases List.mem_append.1 hd with hd|hd
   ·exact S d hd
   ·simp only[adI]at hd
    subst hd
    exact⟨a,a5⟩⟩ (by simp only;omega) kE.c.c.c.c (aQ [2])
 refine .exit<|bo<|bs<|bp<|aw<|.sr<|.mo rfl<|.az rfl<|.ret (bj _ (.one (.tmp rfl)) (.one [0] _) ?_)
 ·refine⟨H,by simp[take],ds,I,S,?_⟩
  simp_all
  omega
 refine .gF o<|.gF o<|.gF o<|.q (.aR o)<|.zn<|.cU<|.exit<|bo<|bs<|bp<|aw<|.sr<|.mo rfl<|.az rfl<|.ret (bj _ (.one (.tmp rfl)) (.one [0] _) ?_)
 ·refine⟨H,by simp[take],ds,I,S,?_⟩
  simp_all
  omega
section
variable{c:Cf}{num:List Nat}{sub:bc->List Sub}{k:bc}
theorem z7:∀i,(∀j,j<i->j<(opened c num sub k j).1.length)->(opened c num sub k i).2=dx (((opened c num sub k i).1.take i).map λp=>kQ p.leads.flatten)
 |0,_=>rfl
 |i+1,hlt=>by
  have n:=z7 i λj o=>hlt j (by omega)
  have d:=hlt i (by omega)
  obtain⟨a,b⟩:∃a,a=(opened c num sub k i).1:=⟨_,rfl⟩
  have f:(opened c num sub k (i+1)).1=(eB c num sub a i).1:=by rw[b];rfl
  have g:(opened c num sub k (i+1)).2=(opened c num sub k i).2+(eB c num sub a i).2:=by rw[b];rfl
  rw[f,g,n, <-b]
  rw[<-b]at d
  obtain⟨p,m⟩:=bW d
  unfold eB
  simp only[m]
  obtain⟨⟨l,e,_⟩,_⟩:=lu (c:=c) (num:=num) (sub:=sub) p.k p.nodes a
  have h:∀q:bI,(((dq c num sub p.k a p.nodes).1.set i q).take (i+1))=a.take i++[q]:=λq=>by
   rw[adN]
   congr 1
   ·refine adJ λj=>?_
    rw[List.getElem?_take,List.getElem?_take]
    split
    ·rw[List.getElem?_set_ne (by omega),e,List.getElem?_append_left (by omega)]
    ·rfl
   ·rw[List.getElem?_set_self (by rw[e];simp;omega)]
    rfl
  rw[h,List.map_append,rZ]
  simp[dx]
def fD(ps:List bI)(j:Nat):List Nat:=(List.range ps.length).filter λi=>((ps[i]?).map λp=>decide (j∈p.leads.flatten)).getD false
theorem N0{l:List Nat}{n:Nat}(h:∀x∈l,x<n):kQ l=(List.range n).countP λj=>decide (j∈l):=by
 obtain⟨c,b⟩:=qx l [] List.nodup_nil
 rw[ad1]
 refine Nat.le_antisymm ?_ ?_
 ·exact ob c λx a=>adG.2 ⟨adK.2 (h x (((b x).1 a).resolve_left (by simp))),by simpa using((b x).1 a).resolve_left (by simp)⟩
 ·refine ob (List.nodup_range.filter _) λx a=>?_
  have:=(adG.1 a).2
  exact(b x).2 (.inr (by simpa using this))
theorem NE(f:Nat->Nat)(ps:List bI)(g:bI->Nat)(h:∀i p,ps[i]? =some p->f i=g p):dx ((List.range ps.length).map f)=dx (ps.map g):=by
 congr 1
 refine adJ λi=>?_
 rw[adW,adW]
 by_cases a:i<ps.length
 ·rw[List.getElem?_range a,aV a,adL,adL,h i _ (aV a)]
 ·rw[adO (by simpa using a),adO (by omega)]
  rfl
theorem Ch{ps:List bI}(h:∀p∈ps,∀x∈p.leads.flatten,x<ps.length):dx ((List.range ps.length).map λj=>(fD ps j).length)=dx (ps.map λp=>kQ p.leads.flatten):=by
 have b:∀j,(fD ps j).length=(List.range ps.length).countP λi=>((ps[i]?).map λp=>decide (j∈p.leads.flatten)).getD false:=λj=>by
  unfold fD;rw[ad1]
 simp only[b]
 rw[r6 (λ(j i:Nat)=>((ps[i]?).map λp=>decide (j∈p.leads.flatten)).getD false) (List.range ps.length) (List.range ps.length)]
 refine NE _ ps _ λi p a=>?_
 rw[N0 (h p (aW a))]
 simp only[a,adL,adF]
end
def oP(n:Nat)(b:Nat->Nat)(v:Nat->Bool):Nat:=dx ((List.range n).map λj=>if v j then b j else 0)
theorem zC(b:Nat->Nat)(i:Nat):∀n,dx ((List.range n).map λj=>if j=i then b j else 0)=if i<n then b i else 0
 |0=>rfl
 |n+1=>by
  rw[List.range_succ,List.map_append,rZ,zC b i n]
  simp only[List.map_cons,List.map_nil,dx,List.foldr_cons,List.foldr_nil,Nat.add_zero]
  by_cases h:n=i
  ·subst h;simp
  ·rw[adB h]
   by_cases a:i<n
   ·rw[adC a,adC (by omega)];rfl
   ·rw[adB a,adB (by omega)]
theorem Cu{n:Nat}{b:Nat->Nat}{v:Nat->Bool}{i:Nat}(a:i<n)(c:v i=false):oP n b (λj=>v j||decide (j=i))=oP n b v+b i:=by
 have h:=zC b i n
 rw[adC a]at h
 unfold oP
 rw[<-h, <-rY]
 congr 1
 refine List.map_congr_left λj _=>?_
 by_cases e:j=i
 ·subst e;simp[c]
 ·simp[e]
theorem Cv{n:Nat}{b:Nat->Nat}{v:Nat->Bool}:oP n b v<=dx ((List.range n).map b):=n5 λj _=>by split<;>omega
structure lp(W:ByteArray->Bool)(F:ByteArray->ByteArray->Bool)(c:Cf)(num:List Nat):Prop where
 right:c.right W F=true
 dR:c.dR
 ex:∃E,c.gN=some E/\iR E num
 len:num.length=c.all.length
 lt:∀i,num.getD i 0<=c.all.length
theorem zW{W:ByteArray->Bool}{F:ByteArray->ByteArray->Bool}{c:Cf}(h:(c.numbers W F).1=0):∃num,(c.numbers W F).2=rows c.bg num/\lp W F c num:=by
 unfold Cf.numbers at h⊢
 by_cases k:c.right W F=false
 ·rw[adC k]at h;cases h
 ·rw[adB k]at h⊢
  by_cases l:¬c.dR
  ·rw[adC l]at h;cases h
  ·rw[adB l]at h⊢
   cases he:c.gN with
   |none=>rw[he]at h;cases h
   |some E=>
    rw[he]at h
    simp only at h⊢
    by_cases g:kj E c.all.length=true
    ·rw[adC g]at h⊢
     have b:∀e∈E,e.f<c.all.length:=λe a=>(p9 he e a).1
     have d:∀e∈E,e.t<c.all.length:=λe a=>(p9 he e a).2
     refine⟨_,rfl,⟨by simpa using k,Decidable.not_not.1 l,⟨E,he,?_⟩,kO _,λi=>?_⟩⟩
     ·rcases Nat.eq_zero_or_pos c.all.length with h0|hn
      ·intro e a
       exact absurd (b e a) (by omega)
      ·obtain⟨v,m⟩:=(rB b d hn).1 g
       obtain⟨n,j,_⟩:=rV b d m hn
       rw[j (c.all.length+1) (by omega)]
       exact n
     ·rcases Nat.eq_zero_or_pos c.all.length with h0|hn
      ·have:(level E c.all.length (c.all.length+1)).length=0:=by rw[kO,h0]
       rw[List.length_eq_zero_iff.1 this]
       simp
      ·obtain⟨v,m⟩:=(rB b d hn).1 g
       obtain⟨_,j,o⟩:=rV b d m hn
       rw[j (c.all.length+1) (by omega)]
       exact Nat.le_of_lt (o i)
    ·rw[adB g]at h;cases h
section
variable{W:ByteArray->Bool}{F:ByteArray->ByteArray->Bool}{c:Cf}{num:List Nat}{sub:bc->List Sub}{k:bc}{N:Nat}
theorem lp.N6(h:lp W F c num)(a:eZ c num sub k N)(user:ByteArray):(fj (opened c num sub k N).1 user).OK:=by
 obtain⟨E,d,e⟩:=h.ex
 have b:=qz N a.2
 refine N7 d e h.right (sub:=sub) (num:=num) ⟨b.one,λj p g f=>b.op j p (by have:=a.1;omega) f⟩ user
theorem lp.kP(h:lp W F c num)(f:eZ c num sub k N)(user:ByteArray):∀i,i<(fj (opened c num sub k N).1 user).n->(fj (opened c num sub k N).1 user).num i<=c.all.length:=λi d=>by
 have b:=qz (c:=c) (num:=num) (sub:=sub) (k:=k) N f.2
 obtain⟨a,g⟩:∃a,a=(opened c num sub k N).1:=⟨_,rfl⟩
 rw[<-g]at b d⊢
 show((a[i]?).map (·.number)).getD 0<=_
 have e:i<a.length:=d
 rw[aV e,adL,adF,(b.one _ (List.getElem_mem e)).2.2]
 unfold one
 split
 ·exact Nat.zero_le _
 ·exact h.lt _
end
abbrev QS:=List Bool×List Bool
def js(q:List Bool):List Nat:=(List.range q.length).filter λi=>q.getD i false
def fQ(ps:List bI)(i:Nat):Nat:=((ps[i]?).map (·.number)).getD 0
def mA(ps:List bI)(q:List Bool)(i:Nat):Prop:=q.getD i false=true/\∀j,q.getD j false=true->fQ ps i<fQ ps j\/(fQ ps i=fQ ps j/\i<=j)
def gI(v q:List Bool)(k:Nat):List Bool:=if v.getD k false then q else q.set k true
def qJ(ps:List bI)(user:ByteArray)(s:QS)(i:Nat):QS:=
 if s.1.getD i false|| !(fj ps user).ex i (λj=>s.1.getD j false)then(s.1,s.2.set i false)
 else(s.1.set i true,(fD ps i).foldl (gI (s.1.set i true)) (s.2.set i false))
inductive dL(ps:List bI)(user:ByteArray):Nat->QS->Prop
 |start:dL ps user 0 (List.replicate ps.length false,ps.map (·.found))
 |step {k:Nat} {s:QS} {i:Nat}:dL ps user k s->mA ps s.2 i->dL ps user (k+1) (qJ ps user s i)
section
variable{ps:List bI}{user:ByteArray}
theorem mA.dR{q:List Bool}{i j:Nat}(h:mA ps q i)(a:mA ps q j):i=j:=by
 have b:=h.2 j a.1
 have c:=a.2 i h.1
 omega
theorem dL.dR:∀{k:Nat} {s t:QS},dL ps user k s->dL ps user k t->s=t
 |0,_,_,.start,.start=>rfl
 |k+1,_,_,.step h1 n1,.step h2 n2=>by
  have e:=dL.dR h1 h2
  subst e
  rw[n1.dR n2]
theorem dL.vg{m:Nat}:∀{k:Nat} {s:QS},dL ps user k s->m<k->∃t i,dL ps user m t/\mA ps t.2 i
 |0,_,_,hm=>absurd hm (by omega)
 |k+1,_,.step (i:=i) (s:=s) h n,hm=>by
  by_cases e:m=k
  ·subst e;exact⟨s,i,h,n⟩
  ·exact dL.vg h (by omega)
def iA(q:List Bool):Prop:=∀i,q.getD i false=false
theorem dL.last{k m:Nat}{s t:QS}(h:dL ps user k s)(b:iA s.2)(a:dL ps user m t)(g:iA t.2):k=m/\s=t:=by
 have c:∀{k m:Nat} {s t:QS},dL ps user k s->iA s.2->dL ps user m t->¬k<m:=by
  intro k m s t h b a f
  obtain⟨u,i,j,d⟩:=a.vg f
  have e:=h.dR j
  subst e
  have:=d.1
  rw[b i]at this
  cases this
 have e:k=m:=by
  have l:=c h b a
  have n:=c a g h
  omega
 subst e
 exact⟨rfl,h.dR a⟩
theorem fR{q:List Bool}{i:Nat}:i∈js q↔q.getD i false=true:=by
 unfold js
 rw[adG,adK]
 constructor
 ·exact λh=>h.2
 ·intro h
  refine⟨?_,h⟩
  rcases adH i q.length with h1|h1
  ·exact h1
  ·rw[adD,adO h1]at h;cases h
theorem Oc{q:List Bool}(h:¬iA q):∃i,mA ps q i:=by
 have g:∀(l:List Nat),l≠[]->∃i∈l,∀j∈l,fQ ps i<fQ ps j\/(fQ ps i=fQ ps j/\i<=j):=by
  intro l
  induction l with
  |nil=>exact λh=>absurd rfl h
  |cons x l ih=>
   intro _
   by_cases c:l=[]
   ·subst c
    exact⟨x,adX,λj hj=>by rw[adI]at hj;subst hj;exact .inr ⟨rfl,adM _⟩⟩
   ·obtain⟨i,b,a⟩:=ih c
    by_cases f:fQ ps i<fQ ps x\/(fQ ps i=fQ ps x/\i<=x)
    ·refine⟨i,List.mem_cons_of_mem _ b,λj hj=>?_⟩
     rcases adQ.1 hj with rfl|hj
     ·exact f
     ·exact a j hj
    ·refine⟨x,adX,λj hj=>?_⟩
     rcases adQ.1 hj with rfl|hj
     ·exact .inr ⟨rfl,adM _⟩
     ·have:=a j hj;omega
 have d:js q≠[]:=by
  intro e
  refine h λi=>?_
  cases hq:q.getD i false with
  |false=>rfl
  |true=>
   have:=fR.2 hq
   rw[e]at this
   cases this
 obtain⟨i,b,a⟩:=g _ d
 exact⟨i,fR.1 b,λj hj=>a j (fR.2 hj)⟩
theorem oO(l:List Bool)(i j:Nat)(x:Bool)(h:i<l.length):(l.set i x).getD j false=if i=j then x else l.getD j false:=by
 rw[adD,adR,adD]
 split
 ·rename_i e;subst e;simp
 ·rfl
theorem wo(v:List Bool):∀(l:List Nat) (q:List Bool),(l.foldl (gI v) q).length=q.length
 |[],_=>rfl
 |k::l,q=>by
  rw[List.foldl_cons,wo v l,gI]
  split
  ·rfl
  ·exact List.length_set
theorem BI(v:List Bool)(x:Nat):∀(l:List Nat) (q:List Bool),(∀k∈l,k<q.length)->((l.foldl (gI v) q).getD x false=true↔q.getD x false=true\/(x∈l/\v.getD x false=false))
 |[],q,_=>by simp
 |k::l,q,h=>by
  have c:k<q.length:=h k adX
  have d:(gI v q k).length=q.length:=by unfold gI;split<;>simp
  rw[List.foldl_cons,BI v x l _ (λy f=>by rw[d];exact h y (List.mem_cons_of_mem _ f)),adQ]
  have e:(gI v q k).getD x false=true↔q.getD x false=true\/(x=k/\v.getD x false=false):=by
   unfold gI
   by_cases b:v.getD k false=true
   ·rw[adC b]
    constructor
    ·exact .inl
    ·rintro(h1|⟨rfl,h1⟩)
     ·exact h1
     ·rw[b]at h1;cases h1
   ·rw[adB b,oO _ _ _ _ c]
    by_cases e:k=x
    ·subst e
     rw[adC rfl]
     exact⟨λ_=>.inr ⟨rfl,by simpa using b⟩,λ_=>rfl⟩
    ·rw[adB e]
     exact⟨.inl,λh1=>h1.elim id λa=>absurd a.1.symm e⟩
  rw[e]
  constructor
  ·rintro((h1|h1)|h1)
   ·exact .inl h1
   ·exact .inr ⟨.inl h1.1,h1.2⟩
   ·exact .inr ⟨.inr h1.1,h1.2⟩
  ·rintro(h1|⟨h1|h1,a⟩)
   ·exact .inl (.inl h1)
   ·exact .inl (.inr ⟨h1,a⟩)
   ·exact .inr ⟨h1,a⟩
theorem Oo(q:List Bool)(k:Nat):dK (q.set k true)<=dK q+1/\dK q<=dK (q.set k true):=by
 rcases adH k q.length with h|h
 ·cases hq:q.getD k false with
  |false=>rw[uS q k h hq];omega
  |true=>
   have:q.set k true=q:=by
    refine adJ λi=>?_
    rw[adR]
    split
    ·rename_i e;subst e
     rw[adD,aV h,adF]at hq
     simp[h,hq]
    ·rfl
   rw[this];omega
 ·rw[List.set_eq_of_length_le h];omega
theorem BJ(v:List Bool):∀(l:List Nat) (q:List Bool),dK (l.foldl (gI v) q)<=dK q+l.length/\dK q<=dK (l.foldl (gI v) q)
 |[],q=>⟨adM _,adM _⟩
 |k::l,q=>by
  rw[List.foldl_cons]
  have b:=BJ v l (gI v q k)
  have a:dK (gI v q k)<=dK q+1/\dK q<=dK (gI v q k):=by
   unfold gI
   split
   ·omega
   ·exact Oo q k
  rw[List.length_cons]
  omega
theorem zU:∀(q:List Bool) (i:Nat),q.getD i false=true->dK (q.set i false)+1=dK q
 |[],i,h=>by simp at h
 |b::q,0,h=>by
  have:b=true:=by simpa using h
  subst this
  simp[dK]
 |b::q,i+1,h=>by
  have a:=zU q i (by simpa using h)
  unfold dK at a⊢
  rw[List.set_cons_succ,List.countP_cons,List.countP_cons]
  omega
theorem zV{q:List Bool}:dK q=0↔iA q:=by
 unfold dK iA
 rw[List.countP_eq_zero]
 constructor
 ·intro h i
  rw[adD]
  cases hq:q[i]? with
  |none=>rfl
  |some b=>have:=h b (aW hq);simpa using this
 ·intro h b c a
  obtain⟨i,d,e⟩:=adE.1 c
  have:=h i
  rw[adD,aV d,e]at this
  simp only[adF]at this
  rw[this]at a
  cases a
structure jL(ps:List bI)(user:ByteArray):Prop where
 ok:(fj ps user).OK
 lt:∀p∈ps,∀x∈p.leads.flatten,x<ps.length
 nf:∀p∈ps,p.found=false->p.leads=[]
 ln:∀p∈ps,p.leads.length=p.nodes.length
theorem zG{i j:Nat}:i∈fD ps j↔∃p,ps[i]? =some p/\j∈p.leads.flatten:=by
 unfold fD
 rw[adG,adK]
 constructor
 ·rintro⟨a,b⟩
  rw[aV a,adL,adF]at b
  exact⟨_,aV a,bX b⟩
 ·rintro⟨p,a,b⟩
  refine⟨(adS.1 a).1,?_⟩
  rw[a]
  simpa using b
theorem jL.back(h:jL ps user){i j:Nat}:i∈fD ps j↔(fj ps user).to i j:=by
 rw[zG]
 constructor
 ·rintro⟨p,c,d⟩
  obtain⟨l,b,k⟩:=adY.1 d
  obtain⟨e,f,m⟩:=adE.1 b
  have g:e<p.nodes.length:=by rw[<-h.ln p (aW c)];exact f
  refine⟨p,c,e,p.nodes[e],aV g,?_⟩
  rw[adD,aV f,m]
  exact k
 ·rintro⟨p,c,e,n,d,a⟩
  refine⟨p,c,adY.2 ?_⟩
  rw[adD]at a
  cases b:p.leads[e]? with
  |none=>rw[b]at a;cases a
  |some l=>rw[b]at a;exact⟨l,aW b,a⟩
theorem jL.ru(h:jL ps user){i j:Nat}(c:i∈fD ps j):i<ps.length/\(fj ps user).f i=true:=by
 obtain⟨p,a,b⟩:=zG.1 c
 refine⟨(adS.1 a).1,?_⟩
 show((ps[i]?).map (·.found)).getD false=true
 rw[a]
 cases hf:p.found with
 |true=>simp[hf]
 |false=>rw[h.nf p (aW a) hf]at b;cases b
def iL(ps:List bI):Nat:=dK (ps.map (·.found))
structure mZ(ps:List bI)(user:ByteArray)(k:Nat)(s:QS):Prop where
 l1:s.1.length=ps.length
 l2:s.2.length=ps.length
 inv:iV (fj ps user) (λj=>s.1.getD j false) (js s.2)
 up:k+dK s.2<=iL ps+oP ps.length (λj=>(fD ps j).length) (λj=>s.1.getD j false)
 lo:iL ps<=k+dK s.2
theorem yG(n i:Nat):(List.replicate n false).getD i false=false:=by
 rw[adD,List.getElem?_replicate]
 split<;>rfl
theorem yF(i:Nat):(ps.map (·.found)).getD i false=(fj ps user).f i:=by
 show _=((ps[i]?).map (·.found)).getD false
 rw[adD,adW]
theorem mZ.start:mZ ps user 0 (List.replicate ps.length false,ps.map (·.found)):=by
 refine⟨by simp,by simp,?_,?_,?_⟩
 ·have e:(λj=>(List.replicate ps.length false).getD j false)=λ_=>false:=funext λj=>yG _ j
  show iV _ (λj=>(List.replicate ps.length false).getD j false) _
  rw[e]
  refine iV.start (λi a=>?_) λi a c=>?_
  ·have b:=fR.1 a
   rw[yF (user:=user)]at b
   refine⟨?_,b⟩
   unfold js at a
   have:=adK.1 (adG.1 a).1
   rw[List.length_map]at this
   exact this
  ·exact fR.2 (by rw[yF (user:=user)];exact c)
 ·show 0+iL ps<=_;omega
 ·show iL ps<=0+iL ps;omega
theorem mZ.step(ok:jL ps user){k:Nat}{s:QS}{i:Nat}(h:mZ ps user k s)(c:mA ps s.2 i):mZ ps user (k+1) (qJ ps user s i):=by
 obtain⟨v,q⟩:=s
 obtain⟨g,d,f,E,D⟩:=h
 simp only at g d f E D c
 have G:=zU q i c.1
 have z:=f.q i (fR.2 c.1)
 have m:i<ps.length:=z.1
 have r:∀x,(q.set i false).getD x false=true↔q.getD x false=true/\x≠i:=λx=>by
  rw[oO _ _ _ _ (by rw[d];exact m)]
  by_cases e:i=x
  ·rw[adC e];exact⟨λh=>(by cases h),λh=>absurd e.symm h.2⟩
  ·rw[adB e];exact⟨λh=>⟨h,λu=>e u.symm⟩,λh=>h.1⟩
 unfold qJ
 simp only
 split
 ·rename_i b
  refine⟨g,by simpa using d,?_,?_,?_⟩
  ·refine f.skip (i:=i) (λx=>by rw[fR,fR];exact r x) ?_
   simp only[Bool.or_eq_true,Bool.not_eq_true']at b
   exact b
  ·simp only;omega
  ·simp only;omega
 ·rename_i b
  simp only[Bool.or_eq_true,Bool.not_eq_true',not_or,Bool.not_eq_true,Bool.not_eq_false]at b
  obtain⟨t,w⟩:=b
  have p:i<v.length:=by rw[g];exact m
  have o:=AW v i p
  have F:=BJ (v.set i true) (fD ps i) (q.set i false)
  have l:∀x,((fD ps i).foldl (gI (v.set i true)) (q.set i false)).getD x false=true↔(q.getD x false=true/\x≠i)\/(x∈fD ps i/\(v.set i true).getD x false=false):=λx=>by
   rw[BI _ _ _ _ λy C=>by rw[List.length_set,d];exact(ok.ru C).1,r]
  refine⟨by simpa using g,by rw[wo];simpa using d,?_,?_,?_⟩
  ·show iV _ (λj=>(v.set i true).getD j false) _
   rw[o]
   refine f.take ok.ok (fR.2 c.1) (λx a=>?_) t w (λx a=>?_) (λx a n=>?_) (λx a H A B n=>?_)
   ·have:=c.2 x (fR.1 a)
    show fQ ps i<=fQ ps x
    omega
   ·rcases(l x).1 (fR.1 a)with h1|h1
    ·exact .inl ⟨fR.2 h1.1,h1.2⟩
    ·exact .inr ⟨(ok.ru h1.1).1,(ok.ru h1.1).2,ok.back.1 h1.1⟩
   ·exact fR.2 ((l x).2 (.inl ⟨fR.1 a,n⟩))
   ·refine fR.2 ((l x).2 (.inr ⟨ok.back.2 A,?_⟩))
    rw[oO _ _ _ _ p,adB λe=>n e.symm]
    exact B
  ·show k+1+dK ((fD ps i).foldl (gI (v.set i true)) (q.set i false))<=iL ps+oP ps.length (λj=>(fD ps j).length) (λj=>(v.set i true).getD j false)
   rw[o,Cu m t]
   omega
  ·show iL ps<=k+1+dK ((fD ps i).foldl (gI (v.set i true)) (q.set i false))
   omega
theorem dL.inv(ok:jL ps user):∀{k:Nat} {s:QS},dL ps user k s->mZ ps user k s
 |0,_,.start=>.start
 |k+1,_,.step h n=>(dL.inv ok h).step ok n
def oa(ps:List bI):Nat:=dx (ps.map λp=>kQ p.leads.flatten)
theorem mZ.kP(ok:jL ps user){k:Nat}{s:QS}(h:mZ ps user k s):k+dK s.2<=iL ps+oa ps:=by
 have a:=h.up
 have c:=Cv (n:=ps.length) (b:=λj=>(fD ps j).length) (v:=λj=>s.1.getD j false)
 have d:=Ch ok.lt
 unfold oa
 omega
theorem dL.ends(ok:jL ps user):∃K s,dL ps user K s/\iA s.2:=by
 have e:∀d k s,dL ps user k s->iL ps+oa ps-k=d->∃K s,dL ps user K s/\iA s.2:=by
  intro d
  induction d with
  |zero=>
   intro k s h b
   have f:=(h.inv ok).kP ok
   refine⟨k,s,h,zV.1 ?_⟩
   omega
  |succ d ih=>
   intro k s h b
   by_cases a:iA s.2
   ·exact⟨k,s,h,a⟩
   ·obtain⟨i,c⟩:=Oc (ps:=ps) a
    exact ih (k+1) _ (.step h c) (by omega)
 exact e _ 0 _ .start rfl
theorem dL.end_(ok:jL ps user){K:Nat}{s:QS}(h:dL ps user K s)(k:iA s.2):
  s.1.length=ps.length/\iL ps<=K/\K<=iL ps+oa ps/\(∀i,i<ps.length->s.1.getD i false=((fj ps user).f i&&(fj ps user).ex i λj=>s.1.getD j false))/\
  ∀kP,(∀i,i<ps.length->fQ ps i<=kP)->s.1=p8 (fj ps user) kP:=by
 have a:=h.inv ok
 have p:=zV.2 k
 have q:=a.kP ok
 have r:=a.lo
 have n:js s.2=[]:=List.eq_nil_iff_forall_not_mem.2 λi a=>by
  have:=fR.1 a
  rw[k i]at this
  cases this
 have c:=a.inv
 rw[n]at c
 refine⟨a.l1,by omega,by omega,λi o=>c.model ok.ok i o,λkP g=>?_⟩
 have d:=(xE ok.ok g).1
 refine adJ λj=>?_
 have b:=QD ok.ok g c j
 rw[adD,adD]at b
 by_cases e:j<ps.length
 ·have l:j<s.1.length:=by rw[a.l1];exact e
  have m:j<(p8 (fj ps user) kP).length:=by show j<(mw _ _ _ _).length;rw[d];exact e
  rw[aV l,aV m]at b⊢
  simp only[adF]at b
  rw[b]
 ·rw[adO (by rw[a.l1];omega),adO (by show(mw _ _ _ _).length<=j;rw[d];show ps.length<=j;omega)]
end
section
variable{W:ByteArray->Bool}{F:ByteArray->ByteArray->Bool}{c:Cf}{num:List Nat}{sub:bc->List Sub}{k:bc}{N:Nat}
theorem eZ.gr(a:eZ c num sub k N):q9 c num sub (opened c num sub k N).1 (opened c num sub k N).1.length:=by
 have h:=qz N a.2
 exact⟨h.one,λj p b d=>h.op j p (Nat.lt_of_lt_of_le b a.1) d⟩
theorem z4{x:bc}(h:(one c num x).found=false):(one c num x).nodes=[]:=by
 unfold one at h⊢
 split at h
 ·rfl
 ·cases h
theorem lp.ps(h:lp W F c num)(j:eZ c num sub k N)(user:ByteArray):jL (opened c num sub k N).1 user:=by
 have f:=j.gr
 refine⟨h.N6 j user,λp b x v=>?_,λp b n=>?_,λp b=>?_⟩
 ·obtain⟨i,a,e⟩:=adE.1 b
  have g:=(f.op i p a (by rw[aV a,e])).1
  obtain⟨l,s,t⟩:=adY.1 v
  obtain⟨m,o,q⟩:=adE.1 s
  have u:m<p.nodes.length:=by rw[<-g.1];exact o
  have d:=g.2 m _ (aV u)
  rw[adD,aV o,adF,q]at d
  have r:((opened c num sub k N).1.map (·.k))[x]? ∈(ei c sub p.k p.nodes[m]).map some:=by rw[<-d];exact adP.2 ⟨x,t,rfl⟩
  obtain⟨y,_,w⟩:=adP.1 r
  have:=(adS.1 w.symm).1
  rwa [List.length_map]at this
 ·obtain⟨i,a,e⟩:=adE.1 b
  have g:=(f.op i p a (by rw[aV a,e])).1
  obtain⟨z,A,_⟩:=f.one p b
  rw[z]at n
  have:=z4 n
  rw[<-A]at this
  have d:=g.1
  rw[this]at d
  exact List.eq_nil_of_length_eq_zero d
 ·obtain⟨i,a,e⟩:=adE.1 b
  exact(f.op i p a (by rw[aV a,e])).1.1
theorem eZ.xK(a:eZ c num sub k N):oa (opened c num sub k N).1=(opened c num sub k N).2:=by
 rw[z7 N a.2,List.take_of_length_le a.1]
 rfl
end
namespace LTY
theorem nP(v:Value)(xs:List Ty)(R:ay)(h:RS R 2 Ty.enc v xs)(i:xs.length<=1000000):
  Spec prog 124 [v] R [] λv' H'=>∃T,H'=[T]/\OS 249 2 Ty.enc v' xs T:=by
 obtain⟨b,d,rfl⟩:=h.val
 have f:∀H,RS (Rx R H) 2 Ty.enc (.slice b xs.length d) xs:=λH=>h.rx
 refine Spec.hB (H':=[[]]) (by simp)<|Spec.body func124 rfl results124 ntmps124 rfl<|.sr<|.ag rfl<|.zs<|.sr<|.mo rfl<|.q (.rF rfl rfl)<|.zn<|.cond rfl (λa=>?_) λa=>?_
 refine .sr<|.az rfl<|.ret (aK (bj _ (.one (.tmp rfl)) (.one [0] _) ?_))
 ·obtain rfl:b=none:=by simpa using a
  have:=h.sj
  subst this
  exact⟨[],rfl,OS.nil⟩
 refine .kn<|.sr ?_
 refine .rz (λg=>?_)
 refine .mo rfl ?_
 refine .append (OS.empty (enc:=Ty.enc) (sz:=2)) (f _) (by simp;omega) (λv' c e=>?_)
 refine .az rfl<|.ret (bj _ (.one (.tmp rfl)) (.one [0] _) ?_)
 ·exact⟨c,by simp[take],by simpa using e⟩
theorem mz(f:FuncId)(caps:List Value) [e:aS prog f](p:Ty->Bool)(v:Value)(l:List Ty)(R:ay)(h:RS R 2 Ty.enc v l)(C:∀s∈l,∀R',(∀b o,R b o->R' b o)->Spec prog f ((λt:Ty=>Value.agg t.enc.toArray) s::caps) R' [] λu H'=>u=.bool (p s)/\H'=[]):
  Spec prog 227 [v,.func (.func f) #[] caps.toArray] R [] λu H'=>(∃k:Int,u=.int .i64 k/\((∃(i:Nat) (x:Ty),l[i]? =some x/\p x=true/\(∀j y,j<i->l[j]? =some y->p y=false)/\k=i)\/((∀y∈l,p y=false)/\k= -1)))/\H'=[]:=by
 have H:=h.le
 refine Spec.body func227 rfl results227 ntmps227 rfl<|.sr<|.ag rfl<|.zs<|.sr<|.mo rfl<|.q (.bO h)<|.mo rfl<|.zn<|.block<|.loop (X:=Nat) (λi=>i<=l.length/\∀j z,j<i->l[j]? =some z->p z=false) (λi=>[(0,v),(1,.func (.func f) #[] caps.toArray),(7,.int .i64 l.length),(8,iN i)]) (λ_=>[]) (λi=>l.length-i) 0 ⟨by omega,by omega⟩ kE.c.c.c.c rH ?_
 rintro i ⟨G,w⟩
 refine .sr<|.q .lss<|.zs<|.cond rfl (λg=>?_) λg=>?_
 have D:i<l.length:=by simp at g;omega
 obtain⟨z,d⟩:=bW D
 have F:=aW d
 refine .kn<|.seq<|.block<|.sr<|.mo rfl<|.ag rfl<|.z<|.mo rfl<|.mo rfl<|.mo rfl ?_
 refine .bG i h d (λI=>?_)
 refine .q (.aT rfl)<|.gj (first:=[]) (captured:=caps) (vs:=[(λt:Ty=>Value.agg t.enc.toArray) z]) (C z F _ λb o A=>.inl A) (λu E=>?_)
 subst E
 refine .zn<|.cond rfl (λm=>?_) λm=>?_
 refine .sr<|.mo rfl<|.az rfl<|.ret (br (aK (cI (br (aK (aN rfl ?_))))))
 ·exact⟨⟨_,rfl,.inl ⟨i,z,d,m,w,rfl⟩⟩,rfl⟩
 refine .skip<|aX<|aw<|.region<|.q (.inc (n:=i) (by omega))<|.mo rfl<|.nil ?_
 ·exact bm (i+1) ⟨by omega,λj y r a=>by
   rcases adH j i with hh|hh
   ·exact w j y hh a
   ·obtain rfl:j=i:=by omega
    rw[d]at a;cases a;exact m⟩ (by omega) kE.c.c.c.c rH
 refine .exit<|bo<|bs<|bp<|aw<|.sr<|.az rfl<|.ret (aN rfl ?_)
 ·have B:i=l.length:=by simp at g;omega
  subst B
  refine⟨⟨_,rfl,.inr ⟨λy a=>?_,rfl⟩⟩,rfl⟩
  obtain⟨j,r,rfl⟩:=adE.1 a
  exact w j _ r (aV r)
theorem jN(f:FuncId)(caps:List Value) [e:aS prog f](p:Ty->Bool)(v:Value)(l:List Ty)(R:ay)(h:RS R 2 Ty.enc v l)(j:∀s∈l,∀R',(∀b o,R b o->R' b o)->Spec prog f ((λt:Ty=>Value.agg t.enc.toArray) s::caps) R' [] λu H'=>u=.bool (p s)/\H'=[]):
  Spec prog 175 [v,.func (.func f) #[] caps.toArray] R [] λu H'=>u=.bool (l.any p)/\H'=[]:=by
 refine Spec.body func175 rfl results175 ntmps175 rfl<|.sr<|.ag rfl<|.z<|.mo rfl<|.mo rfl<|.ba (mz f caps p v l _ h.rx λs r R' d=>j s r R' λb o g=>d b o (.inl g)) (λu w=>?_)
 obtain⟨k,rfl,m⟩:=w
 have n:decide (0<=k)=l.any p:=by
  rcases m with⟨i,x,a,c,_,rfl⟩|⟨a,rfl⟩
  ·rw[adZ.2 ⟨x,aW a,c⟩];simp
  ·rw[ad0.2 λy A=>by rw[a y A];simp];rfl
 refine .q .geq<|.az rfl<|.ret (aN rfl ?_)
 ·exact⟨by simp only[n],rfl⟩
end LTY
namespace LSC
theorem nP(v:Value)(xs:List Sc)(R:ay)(h:RS R 4 Sc.enc v xs)(i:xs.length<=1000000):
  Spec prog 126 [v] R [] λv' H'=>∃T,H'=[T]/\OS 169 4 Sc.enc v' xs T:=by
 obtain⟨b,d,rfl⟩:=h.val
 have f:∀H,RS (Rx R H) 4 Sc.enc (.slice b xs.length d) xs:=λH=>h.rx
 refine Spec.hB (H':=[[]]) (by simp)<|Spec.body func126 rfl results126 ntmps126 rfl<|.sr<|.ag rfl<|.zs<|.sr<|.mo rfl<|.q (.rF rfl rfl)<|.zn<|.cond rfl (λa=>?_) λa=>?_
 refine .sr<|.az rfl<|.ret (aK (bj _ (.one (.tmp rfl)) (.one [0] _) ?_))
 ·obtain rfl:b=none:=by simpa using a
  have:=h.sj
  subst this
  exact⟨[],rfl,OS.nil⟩
 refine .kn<|.sr ?_
 refine .rz (λg=>?_)
 refine .mo rfl ?_
 refine .append (OS.empty (enc:=Sc.enc) (sz:=4)) (f _) (by simp;omega) (λv' c e=>?_)
 refine .az rfl<|.ret (bj _ (.one (.tmp rfl)) (.one [0] _) ?_)
 ·exact⟨c,by simp[take],by simpa using e⟩
theorem mz(f:FuncId)(caps:List Value) [e:aS prog f](p:Sc->Bool)(v:Value)(l:List Sc)(R:ay)(h:RS R 4 Sc.enc v l)(C:∀s∈l,∀R',(∀b o,R b o->R' b o)->Spec prog f ((λt:Sc=>Value.agg t.enc.toArray) s::caps) R' [] λu H'=>u=.bool (p s)/\H'=[]):
  Spec prog 228 [v,.func (.func f) #[] caps.toArray] R [] λu H'=>(∃k:Int,u=.int .i64 k/\((∃(i:Nat) (x:Sc),l[i]? =some x/\p x=true/\(∀j y,j<i->l[j]? =some y->p y=false)/\k=i)\/((∀y∈l,p y=false)/\k= -1)))/\H'=[]:=by
 have H:=h.le
 refine Spec.body func228 rfl results228 ntmps228 rfl<|.sr<|.ag rfl<|.zs<|.sr<|.mo rfl<|.q (.bO h)<|.mo rfl<|.zn<|.block<|.loop (X:=Nat) (λi=>i<=l.length/\∀j z,j<i->l[j]? =some z->p z=false) (λi=>[(0,v),(1,.func (.func f) #[] caps.toArray),(7,.int .i64 l.length),(8,iN i)]) (λ_=>[]) (λi=>l.length-i) 0 ⟨by omega,by omega⟩ kE.c.c.c.c rH ?_
 rintro i ⟨G,w⟩
 refine .sr<|.q .lss<|.zs<|.cond rfl (λg=>?_) λg=>?_
 have D:i<l.length:=by simp at g;omega
 obtain⟨z,d⟩:=bW D
 have F:=aW d
 refine .kn<|.seq<|.block<|.sr<|.mo rfl<|.ag rfl<|.z<|.mo rfl<|.mo rfl<|.mo rfl ?_
 refine .bG i h d (λI=>?_)
 refine .q (.aT rfl)<|.gj (first:=[]) (captured:=caps) (vs:=[(λt:Sc=>Value.agg t.enc.toArray) z]) (C z F _ λb o A=>.inl A) (λu E=>?_)
 subst E
 refine .zn<|.cond rfl (λm=>?_) λm=>?_
 refine .sr<|.mo rfl<|.az rfl<|.ret (br (aK (cI (br (aK (aN rfl ?_))))))
 ·exact⟨⟨_,rfl,.inl ⟨i,z,d,m,w,rfl⟩⟩,rfl⟩
 refine .skip<|aX<|aw<|.region<|.q (.inc (n:=i) (by omega))<|.mo rfl<|.nil ?_
 ·exact bm (i+1) ⟨by omega,λj y r a=>by
   rcases adH j i with hh|hh
   ·exact w j y hh a
   ·obtain rfl:j=i:=by omega
    rw[d]at a;cases a;exact m⟩ (by omega) kE.c.c.c.c rH
 refine .exit<|bo<|bs<|bp<|aw<|.sr<|.az rfl<|.ret (aN rfl ?_)
 ·have B:i=l.length:=by simp at g;omega
  subst B
  refine⟨⟨_,rfl,.inr ⟨λy a=>?_,rfl⟩⟩,rfl⟩
  obtain⟨j,r,rfl⟩:=adE.1 a
  exact w j _ r (aV r)
theorem jN(f:FuncId)(caps:List Value) [e:aS prog f](p:Sc->Bool)(v:Value)(l:List Sc)(R:ay)(h:RS R 4 Sc.enc v l)(j:∀s∈l,∀R',(∀b o,R b o->R' b o)->Spec prog f ((λt:Sc=>Value.agg t.enc.toArray) s::caps) R' [] λu H'=>u=.bool (p s)/\H'=[]):
  Spec prog 178 [v,.func (.func f) #[] caps.toArray] R [] λu H'=>u=.bool (l.any p)/\H'=[]:=by
 refine Spec.body func178 rfl results178 ntmps178 rfl<|.sr<|.ag rfl<|.z<|.mo rfl<|.mo rfl<|.ba (mz f caps p v l _ h.rx λs r R' d=>j s r R' λb o g=>d b o (.inl g)) (λu w=>?_)
 obtain⟨k,rfl,m⟩:=w
 have n:decide (0<=k)=l.any p:=by
  rcases m with⟨i,x,a,c,_,rfl⟩|⟨a,rfl⟩
  ·rw[adZ.2 ⟨x,aW a,c⟩];simp
  ·rw[ad0.2 λy A=>by rw[a y A];simp];rfl
 refine .q .geq<|.az rfl<|.ret (aN rfl ?_)
 ·exact⟨by simp only[n],rfl⟩
end LSC
namespace LRE
theorem mz(f:FuncId)(caps:List Value) [e:aS prog f](p:cb->Bool)(v:Value)(l:List cb)(R:ay)(h:RS R 3 cb.enc v l)(C:∀s∈l,∀R',(∀b o,R b o->R' b o)->Spec prog f ((λt:cb=>Value.agg t.enc.toArray) s::caps) R' [] λu H'=>u=.bool (p s)/\H'=[]):
  Spec prog 207 [v,.func (.func f) #[] caps.toArray] R [] λu H'=>(∃k:Int,u=.int .i64 k/\((∃(i:Nat) (x:cb),l[i]? =some x/\p x=true/\(∀j y,j<i->l[j]? =some y->p y=false)/\k=i)\/((∀y∈l,p y=false)/\k= -1)))/\H'=[]:=by
 have H:=h.le
 refine Spec.body func207 rfl results207 ntmps207 rfl<|.sr<|.ag rfl<|.zs<|.sr<|.mo rfl<|.q (.bO h)<|.mo rfl<|.zn<|.block<|.loop (X:=Nat) (λi=>i<=l.length/\∀j z,j<i->l[j]? =some z->p z=false) (λi=>[(0,v),(1,.func (.func f) #[] caps.toArray),(7,.int .i64 l.length),(8,iN i)]) (λ_=>[]) (λi=>l.length-i) 0 ⟨by omega,by omega⟩ kE.c.c.c.c rH ?_
 rintro i ⟨G,w⟩
 refine .sr<|.q .lss<|.zs<|.cond rfl (λg=>?_) λg=>?_
 have D:i<l.length:=by simp at g;omega
 obtain⟨z,d⟩:=bW D
 have F:=aW d
 refine .kn<|.seq<|.block<|.sr<|.mo rfl<|.ag rfl<|.z<|.mo rfl<|.mo rfl<|.mo rfl ?_
 refine .bG i h d (λI=>?_)
 refine .q (.aT rfl)<|.gj (first:=[]) (captured:=caps) (vs:=[(λt:cb=>Value.agg t.enc.toArray) z]) (C z F _ λb o A=>.inl A) (λu E=>?_)
 subst E
 refine .zn<|.cond rfl (λm=>?_) λm=>?_
 refine .sr<|.mo rfl<|.az rfl<|.ret (br (aK (cI (br (aK (aN rfl ?_))))))
 ·exact⟨⟨_,rfl,.inl ⟨i,z,d,m,w,rfl⟩⟩,rfl⟩
 refine .skip<|aX<|aw<|.region<|.q (.inc (n:=i) (by omega))<|.mo rfl<|.nil ?_
 ·exact bm (i+1) ⟨by omega,λj y r a=>by
   rcases adH j i with hh|hh
   ·exact w j y hh a
   ·obtain rfl:j=i:=by omega
    rw[d]at a;cases a;exact m⟩ (by omega) kE.c.c.c.c rH
 refine .exit<|bo<|bs<|bp<|aw<|.sr<|.az rfl<|.ret (aN rfl ?_)
 ·have B:i=l.length:=by simp at g;omega
  subst B
  refine⟨⟨_,rfl,.inr ⟨λy a=>?_,rfl⟩⟩,rfl⟩
  obtain⟨j,r,rfl⟩:=adE.1 a
  exact w j _ r (aV r)
theorem jN(f:FuncId)(caps:List Value) [e:aS prog f](p:cb->Bool)(v:Value)(l:List cb)(R:ay)(h:RS R 3 cb.enc v l)(j:∀s∈l,∀R',(∀b o,R b o->R' b o)->Spec prog f ((λt:cb=>Value.agg t.enc.toArray) s::caps) R' [] λu H'=>u=.bool (p s)/\H'=[]):
  Spec prog 160 [v,.func (.func f) #[] caps.toArray] R [] λu H'=>u=.bool (l.any p)/\H'=[]:=by
 refine Spec.body func160 rfl results160 ntmps160 rfl<|.sr<|.ag rfl<|.z<|.mo rfl<|.mo rfl<|.ba (mz f caps p v l _ h.rx λs r R' d=>j s r R' λb o g=>d b o (.inl g)) (λu w=>?_)
 obtain⟨k,rfl,m⟩:=w
 have n:decide (0<=k)=l.any p:=by
  rcases m with⟨i,x,a,c,_,rfl⟩|⟨a,rfl⟩
  ·rw[adZ.2 ⟨x,aW a,c⟩];simp
  ·rw[ad0.2 λy A=>by rw[a y A];simp];rfl
 refine .q .geq<|.az rfl<|.ret (aN rfl ?_)
 ·exact⟨by simp only[n],rfl⟩
end LRE
namespace LND
theorem nP(v:Value)(xs:List Nd)(R:ay)(h:RS R 5 Nd.enc v xs)(i:xs.length<=1000000):
  Spec prog 125 [v] R [] λv' H'=>∃T,H'=[T]/\OS 199 5 Nd.enc v' xs T:=by
 obtain⟨b,d,rfl⟩:=h.val
 have f:∀H,RS (Rx R H) 5 Nd.enc (.slice b xs.length d) xs:=λH=>h.rx
 refine Spec.hB (H':=[[]]) (by simp)<|Spec.body func125 rfl results125 ntmps125 rfl<|.sr<|.ag rfl<|.zs<|.sr<|.mo rfl<|.q (.rF rfl rfl)<|.zn<|.cond rfl (λa=>?_) λa=>?_
 refine .sr<|.az rfl<|.ret (aK (bj _ (.one (.tmp rfl)) (.one [0] _) ?_))
 ·obtain rfl:b=none:=by simpa using a
  have:=h.sj
  subst this
  exact⟨[],rfl,OS.nil⟩
 refine .kn<|.sr ?_
 refine .rz (λg=>?_)
 refine .mo rfl ?_
 refine .append (OS.empty (enc:=Nd.enc) (sz:=5)) (f _) (by simp;omega) (λv' c e=>?_)
 refine .az rfl<|.ret (bj _ (.one (.tmp rfl)) (.one [0] _) ?_)
 ·exact⟨c,by simp[take],by simpa using e⟩
end LND
section
variable{c:Cf}{num:List Nat}{sub:bc->List Sub}{k:bc}
theorem eZ.ex{B:Nat}(h:∀i,(opened c num sub k i).1.length<=B):∃N,eZ c num sub k N:=by
 have b:∀m,(∃N,N<=m/\eZ c num sub k N)\/∀j,j<=m->j<(opened c num sub k j).1.length:=by
  intro m
  induction m with
  |zero=>
   refine .inr λj a=>?_
   obtain rfl:j=0:=by omega
   simp[opened]
  |succ m ih=>
   rcases ih with⟨N,h1,h2⟩|ih
   ·exact .inl ⟨N,by omega,h2⟩
   ·by_cases h1:m+1<(opened c num sub k (m+1)).1.length
    ·exact .inr λj a=>by
      rcases adH j (m+1)with h2|h2
      ·exact ih j (by omega)
      ·obtain rfl:j=m+1:=by omega
       exact h1
    ·exact .inl ⟨m+1,adM _,by omega,λj a=>ih j (by omega)⟩
 rcases b (B+1)with⟨N,_,h1⟩|h1
 ·exact⟨N,h1⟩
 ·have:=h1 (B+1) (adM _)
  have:=h (B+1)
  omega
def fO(c:Cf)(num:List Nat)(sub:bc->List Sub)(k:bc)(b:Int)(can:Bool)(N:Nat):List bI×Nat×Int:=
 if b<1 then([],0,2)else if can=false then([],0,12)
 else if(((opened c num sub k N).1.length+(opened c num sub k N).2:Nat):Int)<=b then((opened c num sub k N).1,(opened c num sub k N).2,0)else([],0,16)
theorem MP{P:bc->Prop}{a b:List bI}(h:Grown c num P a b){i:Nat}(e:∀j p,i<=j->a[j]? =some p->p=one c num p.k):∀j p,i<=j->b[j]? =some p->p=one c num p.k:=by
 obtain⟨⟨l,rfl,g⟩,_⟩:=h
 intro j p f d
 rcases adH j a.length with h1|h1
 ·rw[List.getElem?_append_left h1]at d
  exact e j p f d
 ·rw[List.getElem?_append_right h1]at d
  exact(g p (aW d)).2
theorem z8:∀(i:Nat) (j:Nat) (p:bI),i<=j->(opened c num sub k i).1[j]? =some p->p=one c num p.k
 |0,j,p,_,a=>by
  have:=aW a
  simp only[opened,adI]at this
  subst this
  rw[qy]
 |i+1,j,p,b,a=>by
  have d:=λj p b a=>z8 i j p b a
  change (eB c num sub (opened c num sub k i).1 i).1[j]? =some p at a
  unfold eB at a
  split at a
  ·exact d j p (by omega) a
  ·rw[List.getElem?_set_ne (by omega)]at a
   exact MP (lu _ _ _) d j p (by omega) a
theorem OA{ps:List bI}{i:Nat}{p:bI}(d:ps[i]? =some p)(a:p=one c num p.k)(b:p.found=false):eB c num sub ps i=(ps,0):=by
 have g:p.nodes=[]:=by rw[a];exact z4 (by rw[<-a];exact b)
 have q:p.fU=[]/\p.leads=[]:=by
  rw[a]
  unfold one
  split<;>exact⟨rfl,rfl⟩
 obtain⟨h,o⟩:=q
 obtain⟨k,f,n,m,u,l⟩:=p
 simp only at h o g b
 subst h o g b
 unfold eB
 rw[d]
 simp only[dq,Bool.false_eq_true,if_false]
 refine Prod.ext ?_ rfl
 refine adJ λj=>?_
 rw[adR]
 split
 ·rename_i e;subst e
  have:=(adS.1 d).1
  rw[adC this,d]
 ·rfl
theorem wK:∀(ks:List bc) (ps:List bI) (x:bc),dJ c num ps (ks++[x])=((fg c num (dJ c num ps ks).1 x).1,(dJ c num ps ks).2++[(fg c num (dJ c num ps ks).1 x).2])
 |[],ps,x=>rfl
 |y::ks,ps,x=>by
  rw[adT,dJ,wK ks _ x]
  rfl
theorem wO(y:bc):∀(ns:List Nd) (ps:List bI) (n:Nd),dq c num sub y ps (ns++[n])=((dJ c num (dq c num sub y ps ns).1 (ei c sub y n)).1,(dq c num sub y ps ns).2++[(dJ c num (dq c num sub y ps ns).1 (ei c sub y n)).2])
 |[],ps,n=>rfl
 |m::ns,ps,n=>by
  rw[adT,dq,wO y ns _ n]
  rfl
theorem B1{ks:List bc}{i:Nat}{x:bc}(h:ks[i]? =some x)(ps:List bI):dJ c num ps (ks.take (i+1))=((fg c num (dJ c num ps (ks.take i)).1 x).1,(dJ c num ps (ks.take i)).2++[(fg c num (dJ c num ps (ks.take i)).1 x).2]):=by
 rw[show ks.take (i+1)=ks.take i++[x] by rw[adN,h];rfl,wK]
theorem B3{a:List Nd}{i:Nat}{n:Nd}(h:a[i]? =some n)(y:bc)(ps:List bI):dq c num sub y ps (a.take (i+1))=((dJ c num (dq c num sub y ps (a.take i)).1 (ei c sub y n)).1,(dq c num sub y ps (a.take i)).2++[(dJ c num (dq c num sub y ps (a.take i)).1 (ei c sub y n)).2]):=by
 rw[show a.take (i+1)=a.take i++[n] by rw[adN,h];rfl,wO]
theorem wH:∀(a b:List bc) (ps:List bI),(dJ c num ps (a++b)).1=(dJ c num (dJ c num ps a).1 b).1
 |[],b,ps=>rfl
 |x::a,b,ps=>by rw[adT,dJ,dJ];exact wH a b _
theorem wL(y:bc):∀(a b:List Nd) (ps:List bI),(dq c num sub y ps (a++b)).1=(dq c num sub y (dq c num sub y ps a).1 b).1
 |[],b,ps=>rfl
 |x::a,b,ps=>by rw[adT,dq,dq];exact wL y a b _
theorem B0(ks:List bc)(i:Nat)(ps:List bI):(dJ c num ps (ks.take i)).1.length<=(dJ c num ps ks).1.length:=by
 have h:=wH (c:=c) (num:=num) (ks.take i) (ks.drop i) ps
 rw[List.take_append_drop]at h
 rw[h]
 exact(oL _ _).len
theorem B2(y:bc)(a:List Nd)(i:Nat)(ps:List bI):(dq c num sub y ps (a.take i)).1.length<=(dq c num sub y ps a).1.length:=by
 have h:=wL (c:=c) (num:=num) (sub:=sub) y (a.take i) (a.drop i) ps
 rw[List.take_append_drop]at h
 rw[h]
 exact(lu _ _ _).len
theorem BZ(ks:List bc)(ps:List bI):ps.length<=(dJ c num ps ks).1.length:=(oL _ _).len
theorem RR(y:bc)(a:List Nd)(ps:List bI):ps.length<=(dq c num sub y ps a).1.length:=(lu _ _ _).len
def kV(a:List Nat)(l:List Nat):List Nat:=l.foldl (λa x=>if x∈a then a else a++[x]) a
theorem AS(a l m:List Nat):kV a (l++m)=kV (kV a l) m:=List.foldl_append
theorem Qa(a:List Nat)(x:Nat):kV a [x]=if x∈a then a else a++[x]:=rfl
theorem Qb{l:List Nat}{i x:Nat}(h:l[i]? =some x)(a:List Nat):kV a (l.take (i+1))=if x∈kV a (l.take i)then kV a (l.take i)else kV a (l.take i)++[x]:=by
 rw[show l.take (i+1)=l.take i++[x] by rw[adN,h];rfl,AS,Qa]
theorem Oy{ps:List bI}{i:Nat}{p:bI}(a:ps[i]? =some p):eB c num sub ps i=((dq c num sub p.k ps p.nodes).1.set i {p with fU:=if p.found then ka c sub p.k else [],leads:=(dq c num sub p.k ps p.nodes).2},kQ (dq c num sub p.k ps p.nodes).2.flatten):=by unfold eB;rw[a]
theorem OE(i:Nat):opened c num sub k (i+1)=((eB c num sub (opened c num sub k i).1 i).1,(opened c num sub k i).2+(eB c num sub (opened c num sub k i).1 i).2):=rfl
end
abbrev dA:Type:=Nat×Nat
def l9(x y:dA):Bool:=decide (x.1<y.1)||(decide (x.1=y.1)&&decide (x.2<y.2))
theorem yZ{x y:dA}:l9 x y=true↔x.1<y.1\/(x.1=y.1/\x.2<y.2):=by
 unfold l9
 simp only[Bool.or_eq_true,Bool.and_eq_true,decide_eq_true_eq]
theorem uz{x y:dA}:l9 x y=false↔y.1<x.1\/(x.1=y.1/\y.2<=x.2):=by
 rw[Bool.eq_false_iff,ne_eq,yZ]
 omega
theorem uA:SO l9:=⟨λx=>by rw[uz];omega,λx y z a b=>by rw[yZ]at *;omega,λx y z a b=>by rw[uz]at *;omega⟩
def items(ps:List bI)(q:List Bool):List dA:=(js q).map λi=>(fQ ps i,i)
theorem sD(q:List Bool):(js q).Nodup:=List.Pairwise.filter _ List.nodup_range
theorem tE{q:List Bool}{i:Nat}{b:Bool}(h:q.getD i false=b)(a:i<q.length):q.set i b=q:=by
 refine adJ λj=>?_
 rw[adR]
 split
 ·rename_i e
  subst e
  rw[adD,aV a,adF]at h
  simp[a,h]
 ·rfl
theorem O3{q:List Bool}{i:Nat}(f:i<q.length)(h:q.getD i false=false):(js q++[i]).Perm (js (q.set i true)):=by
 refine(List.perm_ext_iff_of_nodup ?_ (sD _)).2 λx=>?_
 ·rw[List.nodup_append]
  refine⟨sD q,by simp,λa d b c=>?_⟩
  rw[adI]at c
  subst c
  intro e
  subst e
  rw[fR.1 d]at h
  cases h
 ·rw[List.mem_append,adI,fR,fR,oO _ _ _ _ f]
  by_cases e:i=x
  ·subst e;simp
  ·rw[adB e]
   exact⟨λh=>h.elim id λh=>absurd h.symm e,.inl⟩
theorem O2{q:List Bool}{i:Nat}(h:q.getD i false=true)(a:i<q.length):(js q).Perm (i::js (q.set i false)):=by
 refine(List.perm_ext_iff_of_nodup (sD _) ?_).2 λx=>?_
 ·rw[List.nodup_cons]
  refine⟨λb=>?_,sD _⟩
  have:=fR.1 b
  rw[oO _ _ _ _ a,adC rfl]at this
  cases this
 ·rw[adQ,fR,fR,oO _ _ _ _ a]
  by_cases e:i=x
  ·subst e;rw[h];simp
  ·rw[adB e]
   exact⟨.inr,λh=>h.elim (λh=>absurd h.symm e) id⟩
theorem Nb{ps:List bI}{q:List Bool}{i:Nat}(a:i<q.length)(h:q.getD i false=false):(items ps q++[(fQ ps i,i)]).Perm (items ps (q.set i true)):=by
 have:=(O3 a h).map λi=>(fQ ps i,i)
 rw[List.map_append]at this
 exact this
theorem yR{ps:List bI}{q:List Bool}{L:List dA}(c:L.Perm (items ps q))(f:fz l9 L L.length){x:dA}(d:L[0]? =some x):mA ps q x.2/\x.1=fQ ps x.2/\x.2<q.length:=by
 have n:x∈items ps q:=c.mem_iff.1 (aW d)
 obtain⟨i,a,rfl⟩:=adP.1 n
 have m:i<q.length:=by
  unfold js at a
  exact adK.1 (adG.1 a).1
 refine⟨⟨fR.1 a,λj g=>?_⟩,rfl,m⟩
 have h:(fQ ps j,j)∈L:=c.mem_iff.2 (adP.2 ⟨j,fR.2 g,rfl⟩)
 obtain⟨k,l,e⟩:=adE.1 h
 have b:=fz.least uA f d k _ (aV l)
 rw[e,uz]at b
 simp only at b⊢
 omega
theorem M8{ps:List bI}{q:List Bool}{L a:List dA}(e:L.Perm (items ps q)){i:Nat}(d:i<q.length)(f:q.getD i false=true)(c:L.Perm ((fQ ps i,i)::a)):a.Perm (items ps (q.set i false)):=by
 have b:=(O2 f d).map λi=>(fQ ps i,i)
 rw[List.map_cons]at b
 exact(List.Perm.cons_inv ((c.symm.trans e).trans b))
theorem Na{ps:List bI}{q:List Bool}{L:List dA}(a:L.Perm (items ps q))(h:L=[]):iA q:=λi=>by
 cases hq:q.getD i false with
 |false=>rfl
 |true=>
  have:(fQ ps i,i)∈L:=a.mem_iff.2 (adP.2 ⟨i,fR.2 hq,rfl⟩)
  rw[h]at this
  cases this
theorem M9{ps:List bI}{q:List Bool}{L:List dA}(a:L.Perm (items ps q)):L.length<=q.length:=by
 rw[a.length_eq]
 unfold items js
 rw[List.length_map]
 exact Nat.le_trans (List.length_filter_le _ _) (by simp)
def lX(ps:List bI)(n j:Nat):List Nat:=(List.range n).filter λi=>((ps[i]?).map λp=>decide (j∈p.leads.flatten)).getD false
theorem Cd(ps:List bI)(j:Nat):lX ps ps.length j=fD ps j:=rfl
theorem Cg{ps:List bI}{i:Nat}{p:bI}(h:ps[i]? =some p)(j:Nat):lX ps (i+1) j=lX ps i j++if j∈p.leads.flatten then [i]else []:=by
 unfold lX
 rw[List.range_succ,List.filter_append]
 congr 1
 simp only[List.filter_cons,List.filter_nil,h,adL,adF]
 by_cases a:j∈p.leads.flatten
 ·rw[adC a,adC (decide_eq_true a)]
 ·rw[adB a,adB (by simpa using a)]
theorem Ce{ps:List bI}{i j x:Nat}(h:x∈lX ps i j):x<i:=by
 unfold lX at h
 exact adK.1 (adG.1 h).1
def gL(ps:List bI)(i:Nat)(seen:List Nat)(j:Nat):List Nat:=lX ps i j++if j∈seen then [i]else []
theorem Cq(ps:List bI)(i:Nat)(a:List Nat)(j:Nat):((gL ps i a j).getLast? =some i)↔j∈a:=by
 unfold gL
 by_cases h:j∈a
 ·rw[adC h];simp[h]
 ·rw[adB h,List.append_nil]
  constructor
  ·intro c
   have d:=List.mem_of_getLast? c
   exact absurd (Ce d) (Nat.lt_irrefl _)
  ·exact λb=>absurd b h
theorem Cs(ps:List bI)(i:Nat)(b:List Nat)(c j:Nat):gL ps i (b++[c]) j=if j=c/\¬c∈b then gL ps i b j++[i]else gL ps i b j:=by
 unfold gL
 by_cases d:j=c
 ·subst d
  by_cases a:j∈b
  ·rw[adC (by simp),adB (by simp[a]),adC a]
  ·rw[adC (by simp),adC ⟨rfl,a⟩,adB a,List.append_nil]
 ·rw[adB (λh:j=c/\¬c∈b=>d h.1)]
  by_cases a:j∈b
  ·rw[adC (List.mem_append_left _ a),adC a]
  ·rw[adB (λh=>(List.mem_append.1 h).elim a λh=>d (adI.1 h)),adB a]
theorem Cp{ps:List bI}{i:Nat}{p:bI}(h:ps[i]? =some p)(j:Nat):gL ps i p.leads.flatten j=gL ps (i+1) [] j:=by
 unfold gL
 rw[Cg h]
 simp
theorem NO{α:Type}{l:List α}{i:Nat}{x:α}(h:l[i]? =some x)(y:α):y∈l.take (i+1)↔y∈l.take i\/y=x:=by
 rw[adN,h];simp
theorem Qt(v:Value)(l:List ByteArray)(s:ByteArray)(R:ay)(h:RS R 1 cG v l):
  Spec prog 191 [v,.string s] R [] λu H'=>(∃k:Int,u=.int .i64 k/\(0<=k↔s∈l))/\H'=[]:=by
 have m:=h.le
 refine Spec.body func191 rfl results191 ntmps191 rfl<|.sr<|.ag rfl<|.zs<|.sr<|.mo rfl<|.q (.bO h)<|.mo rfl<|.zn<|.block<|.loop (X:=Nat) (λi=>i<=l.length/\s∉l.take i) (λi=>[(0,v),(1,.string s),(7,.int .i64 l.length),(8,iN i)]) (λ_=>[]) (λi=>l.length-i) 0 ⟨by omega,by simp⟩ kE.c.c.c.c rH ?_
 rintro i ⟨j,e⟩
 refine .sr<|.q .lss<|.zs<|.cond rfl (λb=>?_) λb=>?_
 have g:i<l.length:=by simp at b;omega
 obtain⟨z,f⟩:=bW g
 refine .kn<|.seq<|.block<|.sr<|.mo rfl<|.ag rfl<|.z<|.mo rfl<|.mo rfl<|.mo rfl ?_
 refine .bG i h f (λo=>?_)
 refine .lo rfl<|.q .eg<|.zn<|.cond rfl (λa=>?_) λa=>?_
 refine .sr<|.mo rfl<|.az rfl<|.ret (br (aK (cI (br (aK (aN rfl ?_))))))
 ·have d:s=z:=by simpa using a
  exact⟨⟨_,rfl,by rw[d];simp[aW f]⟩,rfl⟩
 refine .skip<|aX<|aw<|.region<|.q (.inc (n:=i) (by omega))<|.mo rfl<|.nil ?_
 ·exact bm (i+1) ⟨by omega,by rw[NO f];simp at a;simp[e,a]⟩ (by omega) kE.c.c.c.c rH
 refine .exit<|bo<|bs<|bp<|aw<|.sr<|.az rfl<|.ret (aN rfl ?_)
 ·have d:i=l.length:=by simp at b;omega
  rw[d,List.take_length]at e
  exact⟨⟨_,rfl,by simp[e]⟩,rfl⟩
theorem P8(v:Value)(l:List ByteArray)(s:ByteArray)(R:ay)(h:RS R 1 cG v l):
  Spec prog 150 [v,.string s] R [] λu H'=>u=.bool (decide (s∈l))/\H'=[]:=by
 refine Spec.body func150 rfl results150 ntmps150 rfl<|.sr<|.ag rfl<|.z<|.mo rfl<|.mo rfl<|.ba (Qt v l s _ h.rx) (λu b=>?_)
 obtain⟨k,rfl,a⟩:=b
 refine .q .geq<|.az rfl<|.ret (aN rfl ?_)
 ·exact⟨by simp only[a],rfl⟩
theorem fY.fH:fY ⟨[],0,0⟩:=⟨by simp,by simp,by simp,by simp,by simp,by simp⟩
inductive J where
 |mk (kind:Int) (b:Bool) (n:Int) (text:ByteArray) (list:List J) (keys:List ByteArray)
inductive ra(R:ay):List Value->J->Prop
 |mk {kind:Int} {b:Bool} {n:Int} {text:ByteArray} {vl vk:Value} {l:List (List Value×J)} {keys:List ByteArray} (hl:RS R 6 (λp:List Value×J=>p.1) vl l) (hk:RS R 1 cG vk keys) (h:∀p∈l,ra R p.1 p.2):
  ra R [.int .i64 kind,.bool b,.int .i64 n,.string text,vl,vk] (.mk kind b n text (l.map (·.2)) keys)
end Go.Proofs.YtdljmchhecoakaaGreat

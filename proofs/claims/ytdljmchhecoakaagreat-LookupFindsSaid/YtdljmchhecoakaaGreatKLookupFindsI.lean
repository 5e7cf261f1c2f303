/- What the law 'LookupFinds' uses. No condition. -/
import Derived.Test.YtdljmchhecoakaaGreatKLookupFindsB
import Derived.Test.YtdljmchhecoakaaGreatKLookupFindsF
import Derived.Test.YtdljmchhecoakaaGreatKLookupFindsH
namespace Go.Proofs.YtdljmchhecoakaaGreat
set_option linter.defProp false
def adB:=@if_neg
def adC:=@if_pos
def adD:=@List.getD_eq_getElem?_getD
def adE:=@List.mem_iff_getElem
def adF:=@Option.getD_some
def adG:=@List.take_add_one
def adH:=@List.mem_filter
def adI:=@Nat.lt_or_ge
def adJ:=@List.mem_singleton
def adK:=@List.ext_getElem?
def adL:=@List.mem_range
def adM:=@Option.map_some
def adN:=@Nat.le_refl
def adO:=@List.getElem?_eq_none
def adP:=@List.mem_map
def adQ:=@List.mem_cons
def adR:=@List.getElem?_set
def adS:=@List.getElem?_eq_some_iff
def adT:=@List.cons_append
def adU:=@List.mem_of_mem_drop
def adV:=@List.mem_of_mem_take
def adW:=@List.getElem?_map
def adX:=@List.mem_cons_self
def adY:=@List.mem_flatten
def adZ:=@List.any_eq_true
def ad0:=@List.any_eq_false
def ad1:=@List.countP_eq_length_filter
open Tryz
set_option linter.unusedVariables false
set_option linter.unusedSimpArgs false
set_option maxRecDepth 4000
structure fM where
 kind:Int
 wm:Value
 wn:Value
 wc:Value
 f:aB
 rev:Int
 bF:List aB
 no:List aB
 cs:List cD
def fM.enc(c:fM):List Value:=[.int .i64 c.kind,c.wm,c.wn,c.wc]++c.f.enc++[.int .u64 c.rev]
structure fM.is(R:ay)(c:fM):Prop where
 hm:RS R 7 aB.enc c.wm c.bF
 hn:RS R 7 aB.enc c.wn c.no
 hc:RS R 8 cD.enc c.wc c.cs
 fm:∀t∈c.bF,t.fits
 fn:∀t∈c.no,t.fits
 fc:∀d∈c.cs,d.t.fits
 r0:0<=c.rev
 r1:c.rev<=18446744073709551615
def fM.ik(c:fM):Prop:=c.bF.length<=34/\c.no.length<=34/\c.cs.length<=34
theorem fM.is.cV{R:ay}{c:fM}(h:c.is R):cB c.enc:=⟨by
 obtain⟨i,e,a⟩:=h.hm.val
 obtain⟨j,f,b⟩:=h.hn.val
 obtain⟨k,g,d⟩:=h.hc.val
 simp[fM.enc,aB.enc,a,b,d,aE]⟩
theorem OG(v:Value)(cs:List fM)(n:Nat)(hn:n<=1000)(R b:ay)(h:RS R 12 fM.enc v cs)(hD:∀c∈cs,c.is b):
  Spec prog 18 [v,iN n] R [] λu H'=>∃T,H'=[T]/\∃ds,OS 51 12 fM.enc u ds T/\(∀d∈ds,d.is b/\d.ik)/\ds.length=min cs.length n:=by
 obtain⟨V,U,rfl⟩:=h.val
 refine Spec.gQ (H':=[[]]) (by simp) ?_
 refine Spec.body func18 rfl results18 ntmps18 rfl ?_
 refine .sr<|.ag rfl<|.z<|.ag rfl<|.zs<|.sr<|.az rfl<|.block ?_
 refine .loop (X:=Nat×List fM×Value×aw) (λy=>(y.1<=cs.length/\y.1<=n/\y.2.1.length=y.1)/\OS 51 12 fM.enc y.2.2.1 y.2.1 y.2.2.2/\∀d∈y.2.1,d.is b/\d.ik) (λy=>[(0,.slice V cs.length U),(1,iN n),(5,y.2.2.1),(6,iN y.1)]) (λy=>[y.2.2.2]) (λy=>cs.length-y.1) (0,[],sZ,[]) ⟨⟨Nat.zero_le _,Nat.zero_le _,rfl⟩,OS.nil,by simp⟩ kE.c.c.c.c rH ?_
 rintro⟨i,ds,vo,H⟩ ⟨⟨hi,a6,a2⟩,Q,S⟩
 simp only at hi a6 a2 Q S⊢
 refine .seq<|.sr<|.mo rfl<|.mo rfl<|.q (.bI h) ?_
 refine .q .lss<|.mo rfl ?_
 refine .split (t:=12) rfl (λo=>?_) (λo=>?_)
 refine .gT o<|.mo rfl<|.gT o<|.mo rfl<|.gT o<|.q .lss<|.q (.aT o) ?_
 refine .zn ?_
 refine .cond rfl (λh1=>?_) λh1=>?_
 have a1:i<cs.length/\i<n:=by simp_all
 obtain⟨c,hc⟩:∃c,cs[i]? =some c:=⟨_,aZ a1.1⟩
 have a:=hD c (ba hc)
 have a8:=a.cV
 refine .kn<|.seq<|.block<|.sr<|.mo rfl<|.mo rfl ?_
 refine .bC i h hc (λa9=>?_)
 obtain⟨r,N,O,M,f,s,e,g,j⟩:=c
 have l:RS b 7 aB.enc N e:=a.hm
 have m:RS b 7 aB.enc O g:=a.hn
 have k:RS b 8 cD.enc M j:=a.hc
 obtain⟨E,B,rfl⟩:=l.val
 obtain⟨F,C,rfl⟩:=m.val
 obtain⟨D,A,rfl⟩:=k.val
 have K:cB (fM.enc ⟨r,.slice E e.length B,.slice F g.length C,.slice D j.length A,f,s,e,g,j⟩):=a.cV
 refine .q (.aM rfl) ?_
 refine .bX (λG=>?_)
 refine .bN rfl rfl<|.zs<|.sr<|.fa rfl<|.lo rfl<|.q (.bI l) ?_
 refine .q .gtr<|.zn ?_
 refine bz.cut (X:=fM) (λd=>d.is b/\d.bF.length<=34) (λd=>[(0,.slice V cs.length U),(1,iN n),(5,vo),(6,iN i),(7,pT G)]) (λd=>[bl G d.enc 51,H]) ?_ ?_
 refine .cond rfl (λW=>?_) λW=>?_
 refine .region<|.fa rfl<|.lo rfl ?_
 refine .nr (R':=b) 0 34 l rfl ⟨_,rfl⟩ (by omega) (by have:=bT W;first|omega|(simp only at this;omega)) (λL p=>?_)
 have a3:=p.aE
 refine .fa rfl<|.dt rfl rfl<|.nil ?_
 ·exact aF ⟨r,L,.slice F g.length C,.slice D j.length A,f,s,(e.drop 0).take (34-0),g,j⟩ ⟨⟨p,m,k,λt I=>a.fm t (adU (adV I)),a.fn,a.fc,a.r0,a.r1⟩,by simp;omega⟩ kE.c.c.c.c.c rH
 refine .skip ?_
 ·exact aF _ ⟨a,by have:=bA W;first|omega|(simp only at this;omega)|(simp only;omega)⟩ kE.c.c.c.c.c rH
 intro x J
 clear K l m k a
 obtain⟨a,w⟩:=J
 obtain⟨r,N,O,M,f,s,e,g,j⟩:=x
 have l:RS b 7 aB.enc N e:=a.hm
 have m:RS b 7 aB.enc O g:=a.hn
 have k:RS b 8 cD.enc M j:=a.hc
 obtain⟨E,B,rfl⟩:=l.val
 obtain⟨F,C,rfl⟩:=m.val
 obtain⟨D,A,rfl⟩:=k.val
 have K:cB (fM.enc ⟨r,.slice E e.length B,.slice F g.length C,.slice D j.length A,f,s,e,g,j⟩):=a.cV
 refine au<|.seq<|.sr<|.fa rfl<|.lo rfl<|.q (.bI m) ?_
 refine .q .gtr<|.zn ?_
 refine bz.cut (X:=fM) (λd=>d.is b/\d.bF.length<=34/\d.no.length<=34) (λd=>[(0,.slice V cs.length U),(1,iN n),(5,vo),(6,iN i),(7,pT G)]) (λd=>[bl G d.enc 51,H]) ?_ ?_
 refine .cond rfl (λY=>?_) λY=>?_
 refine .region<|.fa rfl<|.lo rfl ?_
 refine .nr (R':=b) 0 34 m rfl ⟨_,rfl⟩ (by omega) (by have:=bT Y;first|omega|(simp only at this;omega)) (λL p=>?_)
 have a3:=p.aE
 refine .fa rfl<|.dt rfl rfl<|.nil ?_
 ·exact aF ⟨r,.slice E e.length B,L,.slice D j.length A,f,s,e,(g.drop 0).take (34-0),j⟩ ⟨⟨l,p,k,a.fm,λt I=>a.fn t (adU (adV I)),a.fc,a.r0,a.r1⟩,w,by simp;omega⟩ kE.c.c.c.c.c rH
 refine .skip ?_
 ·exact aF _ ⟨a,w,by have:=bA Y;first|omega|(simp only at this;omega)|(simp only;omega)⟩ kE.c.c.c.c.c rH
 intro x J
 clear K l m k a w
 obtain⟨a,w,a0⟩:=J
 obtain⟨r,N,O,M,f,s,e,g,j⟩:=x
 have l:RS b 7 aB.enc N e:=a.hm
 have m:RS b 7 aB.enc O g:=a.hn
 have k:RS b 8 cD.enc M j:=a.hc
 obtain⟨E,B,rfl⟩:=l.val
 obtain⟨F,C,rfl⟩:=m.val
 obtain⟨D,A,rfl⟩:=k.val
 have K:cB (fM.enc ⟨r,.slice E e.length B,.slice F g.length C,.slice D j.length A,f,s,e,g,j⟩):=a.cV
 refine au<|.seq<|.sr<|.fa rfl<|.lo rfl<|.q (.bI k) ?_
 refine .q .gtr<|.zn ?_
 refine bz.cut (X:=fM) (λd=>d.is b/\d.ik) (λd=>[(0,.slice V cs.length U),(1,iN n),(5,vo),(6,iN i),(7,pT G)]) (λd=>[bl G d.enc 51,H]) ?_ ?_
 refine .cond rfl (λZ=>?_) λZ=>?_
 refine .region<|.fa rfl<|.lo rfl ?_
 refine .nr (R':=b) 0 34 k rfl ⟨_,rfl⟩ (by omega) (by have:=bT Z;first|omega|(simp only at this;omega)) (λL p=>?_)
 have a3:=p.aE
 refine .fa rfl<|.dt rfl rfl<|.nil ?_
 ·exact aF ⟨r,.slice E e.length B,.slice F g.length C,L,f,s,e,g,(j.drop 0).take (34-0)⟩ ⟨⟨l,m,p,a.fm,a.fn,λt I=>a.fc t (adU (adV I)),a.r0,a.r1⟩,w,a0,by simp;omega⟩ kE.c.c.c.c.c rH
 refine .skip ?_
 ·exact aF _ ⟨a,w,a0,by have:=bA Z;first|omega|(simp only at this;omega)|(simp only;omega)⟩ kE.c.c.c.c.c rH
 intro x J
 clear K l m k a w a0
 obtain⟨a,a5⟩:=J
 have ix:=a.cV
 refine au<|.region<|.mo rfl<|.q (.aM rfl) ?_
 refine .dN (λa7=>?_)
 refine .append Q (RS.lits (xs:=[x]) rfl (by simp[fM.enc,aB.enc]) (by have:=ix.h;simpa using this)) (by simp;omega) (λv7 T7 a4=>?_)
 refine .ag rfl<|.nil<|aS<|au<|.region<|.mo rfl ?_
 refine .ia (i+1) .add ?_
 refine .ag rfl<|.nil ?_
 ·exact bd (i+1,ds++[x],v7,T7) ⟨⟨a1.1,a1.2,by simp[a2]⟩,a4,λd hd=>by
   rcases List.mem_append.1 hd with hd|hd
   ·exact S d hd
   ·simp only[adJ]at hd
    subst hd
    exact⟨a,a5⟩⟩ (by simp only;omega) kE.c.c.c.c (aN [2])
 refine .exit<|bo<|bq<|bp<|au<|.sr<|.mo rfl<|.az rfl ?_
 refine .ret (aY _ (.one (.tmp rfl)) (.one [0] _) ?_)
 ·refine⟨H,by simp[take],ds,Q,S,?_⟩
  simp_all
  omega
 refine .gF o<|.gF o<|.gF o<|.q (.aQ o) ?_
 refine .zn<|.cU<|.exit<|bo<|bq<|bp<|au<|.sr<|.mo rfl<|.az rfl ?_
 refine .ret (aY _ (.one (.tmp rfl)) (.one [0] _) ?_)
 ·refine⟨H,by simp[take],ds,Q,S,?_⟩
  simp_all
  omega
section
variable{c:Cf}{num:List Nat}{sub:bf->List Sub}{k:bf}
theorem Bj:∀i,(∀j,j<i->j<(opened c num sub k j).1.length)->(opened c num sub k i).2=dy (((opened c num sub k i).1.take i).map λp=>kJ p.leads.flatten)
 |0,_=>rfl
 |i+1,hlt=>by
  have n:=Bj i λj o=>hlt j (by omega)
  have d:=hlt i (by omega)
  obtain⟨a,b⟩:∃a,a=(opened c num sub k i).1:=⟨_,rfl⟩
  have f:(opened c num sub k (i+1)).1=(eL c num sub a i).1:=by rw[b];rfl
  have g:(opened c num sub k (i+1)).2=(opened c num sub k i).2+(eL c num sub a i).2:=by rw[b];rfl
  rw[f,g,n, <-b]
  rw[<-b]at d
  obtain⟨p,m⟩:=bQ d
  unfold eL
  simp only[m]
  obtain⟨⟨l,e,_⟩,_⟩:=lJ (c:=c) (num:=num) (sub:=sub) p.k p.nodes a
  have h:∀q:bO,(((dj c num sub p.k a p.nodes).1.set i q).take (i+1))=a.take i++[q]:=λq=>by
   rw[adG]
   congr 1
   ·refine adK λj=>?_
    rw[List.getElem?_take,List.getElem?_take]
    split
    ·rw[List.getElem?_set_ne (by omega),e,List.getElem?_append_left (by omega)]
    ·rfl
   ·rw[List.getElem?_set_self (by rw[e];simp;omega)]
    rfl
  rw[h,List.map_append,tm]
  simp[dy]
def fN(ps:List bO)(j:Nat):List Nat:=(List.range ps.length).filter λi=>((ps[i]?).map λp=>decide (j∈p.leads.flatten)).getD false
theorem P5{l:List Nat}{n:Nat}(h:∀x∈l,x<n):kJ l=(List.range n).countP λj=>decide (j∈l):=by
 obtain⟨c,b⟩:=rE l [] List.nodup_nil
 rw[ad1]
 refine Nat.le_antisymm ?_ ?_
 ·exact oQ c λx a=>adH.2 ⟨adL.2 (h x (((b x).1 a).resolve_left (by simp))),by simpa using((b x).1 a).resolve_left (by simp)⟩
 ·refine oQ (List.nodup_range.filter _) λx a=>?_
  have:=(adH.1 a).2
  exact(b x).2 (.inr (by simpa using this))
theorem PF(f:Nat->Nat)(ps:List bO)(g:bO->Nat)(h:∀i p,ps[i]? =some p->f i=g p):dy ((List.range ps.length).map f)=dy (ps.map g):=by
 congr 1
 refine adK λi=>?_
 rw[adW,adW]
 by_cases a:i<ps.length
 ·rw[List.getElem?_range a,aZ a,adM,adM,h i _ (aZ a)]
 ·rw[adO (by simpa using a),adO (by omega)]
  rfl
theorem DB{ps:List bO}(h:∀p∈ps,∀x∈p.leads.flatten,x<ps.length):dy ((List.range ps.length).map λj=>(fN ps j).length)=dy (ps.map λp=>kJ p.leads.flatten):=by
 have b:∀j,(fN ps j).length=(List.range ps.length).countP λi=>((ps[i]?).map λp=>decide (j∈p.leads.flatten)).getD false:=λj=>by
  unfold fN;rw[ad1]
 simp only[b]
 rw[tn (λ(j i:Nat)=>((ps[i]?).map λp=>decide (j∈p.leads.flatten)).getD false) (List.range ps.length) (List.range ps.length)]
 refine PF _ ps _ λi p a=>?_
 rw[P5 (h p (ba a))]
 simp only[a,adM,adF]
end
def pQ(n:Nat)(b:Nat->Nat)(v:Nat->Bool):Nat:=dy ((List.range n).map λj=>if v j then b j else 0)
theorem AN(b:Nat->Nat)(i:Nat):∀n,dy ((List.range n).map λj=>if j=i then b j else 0)=if i<n then b i else 0
 |0=>rfl
 |n+1=>by
  rw[List.range_succ,List.map_append,tm,AN b i n]
  simp only[List.map_cons,List.map_nil,dy,List.foldr_cons,List.foldr_nil,Nat.add_zero]
  by_cases h:n=i
  ·subst h;simp
  ·rw[adB h]
   by_cases a:i<n
   ·rw[adC a,adC (by omega)];rfl
   ·rw[adB a,adB (by omega)]
theorem DP{n:Nat}{b:Nat->Nat}{v:Nat->Bool}{i:Nat}(a:i<n)(c:v i=false):pQ n b (λj=>v j||decide (j=i))=pQ n b v+b i:=by
 have h:=AN b i n
 rw[adC a]at h
 unfold pQ
 rw[<-h, <-tj]
 congr 1
 refine List.map_congr_left λj _=>?_
 by_cases e:j=i
 ·subst e;simp[c]
 ·simp[e]
theorem DQ{n:Nat}{b:Nat->Nat}{v:Nat->Bool}:pQ n b v<=dy ((List.range n).map b):=oI λj _=>by split<;>omega
structure kz(W:ByteArray->Bool)(F:ByteArray->ByteArray->Bool)(c:Cf)(num:List Nat):Prop where
 right:c.right W F=true
 dW:c.dW
 ex:∃E,c.gZ=some E/\jf E num
 len:num.length=c.all.length
 lt:∀i,num.getD i 0<=c.all.length
theorem Bb{W:ByteArray->Bool}{F:ByteArray->ByteArray->Bool}{c:Cf}(h:(c.numbers W F).1=0):∃num,(c.numbers W F).2=rows c.bj num/\kz W F c num:=by
 unfold Cf.numbers at h⊢
 by_cases k:c.right W F=false
 ·rw[adC k]at h;cases h
 ·rw[adB k]at h⊢
  by_cases l:¬c.dW
  ·rw[adC l]at h;cases h
  ·rw[adB l]at h⊢
   cases he:c.gZ with
   |none=>rw[he]at h;cases h
   |some E=>
    rw[he]at h
    simp only at h⊢
    by_cases g:kB E c.all.length=true
    ·rw[adC g]at h⊢
     have b:∀e∈E,e.f<c.all.length:=λe a=>(qU he e a).1
     have d:∀e∈E,e.t<c.all.length:=λe a=>(qU he e a).2
     refine⟨_,rfl,⟨by simpa using k,Decidable.not_not.1 l,⟨E,he,?_⟩,lg _,λi=>?_⟩⟩
     ·rcases Nat.eq_zero_or_pos c.all.length with h0|hn
      ·intro e a
       exact absurd (b e a) (by omega)
      ·obtain⟨v,m⟩:=(sN b d hn).1 g
       obtain⟨n,j,_⟩:=tf b d m hn
       rw[j (c.all.length+1) (by omega)]
       exact n
     ·rcases Nat.eq_zero_or_pos c.all.length with h0|hn
      ·have:(level E c.all.length (c.all.length+1)).length=0:=by rw[lg,h0]
       rw[List.length_eq_zero_iff.1 this]
       simp
      ·obtain⟨v,m⟩:=(sN b d hn).1 g
       obtain⟨_,j,o⟩:=tf b d m hn
       rw[j (c.all.length+1) (by omega)]
       exact Nat.le_of_lt (o i)
    ·rw[adB g]at h;cases h
section
variable{W:ByteArray->Bool}{F:ByteArray->ByteArray->Bool}{c:Cf}{num:List Nat}{sub:bf->List Sub}{k:bf}{N:Nat}
theorem kz.Qa(h:kz W F c num)(a:eN c num sub k N)(user:ByteArray):(eF (opened c num sub k N).1 user).OK:=by
 obtain⟨E,d,e⟩:=h.ex
 have b:=rI N a.2
 refine Qb d e h.right (sub:=sub) (num:=num) ⟨b.one,λj p g f=>b.op j p (by have:=a.1;omega) f⟩ user
theorem kz.li(h:kz W F c num)(f:eN c num sub k N)(user:ByteArray):∀i,i<(eF (opened c num sub k N).1 user).n->(eF (opened c num sub k N).1 user).num i<=c.all.length:=λi d=>by
 have b:=rI (c:=c) (num:=num) (sub:=sub) (k:=k) N f.2
 obtain⟨a,g⟩:∃a,a=(opened c num sub k N).1:=⟨_,rfl⟩
 rw[<-g]at b d⊢
 show((a[i]?).map (·.number)).getD 0<=_
 have e:i<a.length:=d
 rw[aZ e,adM,adF,(b.one _ (List.getElem_mem e)).2.2]
 unfold one
 split
 ·exact Nat.zero_le _
 ·exact h.lt _
end
abbrev QS:=List Bool×List Bool
def jH(q:List Bool):List Nat:=(List.range q.length).filter λi=>q.getD i false
def gb(ps:List bO)(i:Nat):Nat:=((ps[i]?).map (·.number)).getD 0
def mN(ps:List bO)(q:List Bool)(i:Nat):Prop:=q.getD i false=true/\∀j,q.getD j false=true->gb ps i<gb ps j\/(gb ps i=gb ps j/\i<=j)
def gS(v q:List Bool)(k:Nat):List Bool:=if v.getD k false then q else q.set k true
def rS(ps:List bO)(user:ByteArray)(s:QS)(i:Nat):QS:=
 if s.1.getD i false|| !(eF ps user).ex i (λj=>s.1.getD j false)then(s.1,s.2.set i false)
 else(s.1.set i true,(fN ps i).foldl (gS (s.1.set i true)) (s.2.set i false))
inductive dR(ps:List bO)(user:ByteArray):Nat->QS->Prop
 |start:dR ps user 0 (List.replicate ps.length false,ps.map (·.found))
 |step {k:Nat} {s:QS} {i:Nat}:dR ps user k s->mN ps s.2 i->dR ps user (k+1) (rS ps user s i)
section
variable{ps:List bO}{user:ByteArray}
theorem mN.dW{q:List Bool}{i j:Nat}(h:mN ps q i)(a:mN ps q j):i=j:=by
 have b:=h.2 j a.1
 have c:=a.2 i h.1
 omega
theorem dR.dW:∀{k:Nat} {s t:QS},dR ps user k s->dR ps user k t->s=t
 |0,_,_,.start,.start=>rfl
 |k+1,_,_,.step h1 n1,.step h2 n2=>by
  have e:=dR.dW h1 h2
  subst e
  rw[n1.dW n2]
theorem dR.wR{m:Nat}:∀{k:Nat} {s:QS},dR ps user k s->m<k->∃t i,dR ps user m t/\mN ps t.2 i
 |0,_,_,hm=>absurd hm (by omega)
 |k+1,_,.step (i:=i) (s:=s) h n,hm=>by
  by_cases e:m=k
  ·subst e;exact⟨s,i,h,n⟩
  ·exact dR.wR h (by omega)
def iM(q:List Bool):Prop:=∀i,q.getD i false=false
theorem dR.last{k m:Nat}{s t:QS}(h:dR ps user k s)(b:iM s.2)(a:dR ps user m t)(g:iM t.2):k=m/\s=t:=by
 have c:∀{k m:Nat} {s t:QS},dR ps user k s->iM s.2->dR ps user m t->¬k<m:=by
  intro k m s t h b a f
  obtain⟨u,i,j,d⟩:=a.wR f
  have e:=h.dW j
  subst e
  have:=d.1
  rw[b i]at this
  cases this
 have e:k=m:=by
  have l:=c h b a
  have n:=c a g h
  omega
 subst e
 exact⟨rfl,h.dW a⟩
theorem gd{q:List Bool}{i:Nat}:i∈jH q↔q.getD i false=true:=by
 unfold jH
 rw[adH,adL]
 constructor
 ·exact λh=>h.2
 ·intro h
  refine⟨?_,h⟩
  rcases adI i q.length with h1|h1
  ·exact h1
  ·rw[adD,adO h1]at h;cases h
theorem Qf{q:List Bool}(h:¬iM q):∃i,mN ps q i:=by
 have g:∀(l:List Nat),l≠[]->∃i∈l,∀j∈l,gb ps i<gb ps j\/(gb ps i=gb ps j/\i<=j):=by
  intro l
  induction l with
  |nil=>exact λh=>absurd rfl h
  |cons x l ih=>
   intro _
   by_cases c:l=[]
   ·subst c
    exact⟨x,adX,λj hj=>by rw[adJ]at hj;subst hj;exact .inr ⟨rfl,adN _⟩⟩
   ·obtain⟨i,b,a⟩:=ih c
    by_cases f:gb ps i<gb ps x\/(gb ps i=gb ps x/\i<=x)
    ·refine⟨i,List.mem_cons_of_mem _ b,λj hj=>?_⟩
     rcases adQ.1 hj with rfl|hj
     ·exact f
     ·exact a j hj
    ·refine⟨x,adX,λj hj=>?_⟩
     rcases adQ.1 hj with rfl|hj
     ·exact .inr ⟨rfl,adN _⟩
     ·have:=a j hj;omega
 have d:jH q≠[]:=by
  intro e
  refine h λi=>?_
  cases hq:q.getD i false with
  |false=>rfl
  |true=>
   have:=gd.2 hq
   rw[e]at this
   cases this
 obtain⟨i,b,a⟩:=g _ d
 exact⟨i,gd.1 b,λj hj=>a j (gd.2 hj)⟩
theorem pP(l:List Bool)(i j:Nat)(x:Bool)(h:i<l.length):(l.set i x).getD j false=if i=j then x else l.getD j false:=by
 rw[adD,adR,adD]
 split
 ·rename_i e;subst e;simp
 ·rfl
theorem xE(v:List Bool):∀(l:List Nat) (q:List Bool),(l.foldl (gS v) q).length=q.length
 |[],_=>rfl
 |k::l,q=>by
  rw[List.foldl_cons,xE v l,gS]
  split
  ·rfl
  ·exact List.length_set
theorem C2(v:List Bool)(x:Nat):∀(l:List Nat) (q:List Bool),(∀k∈l,k<q.length)->((l.foldl (gS v) q).getD x false=true↔q.getD x false=true\/(x∈l/\v.getD x false=false))
 |[],q,_=>by simp
 |k::l,q,h=>by
  have c:k<q.length:=h k adX
  have d:(gS v q k).length=q.length:=by unfold gS;split<;>simp
  rw[List.foldl_cons,C2 v x l _ (λy f=>by rw[d];exact h y (List.mem_cons_of_mem _ f)),adQ]
  have e:(gS v q k).getD x false=true↔q.getD x false=true\/(x=k/\v.getD x false=false):=by
   unfold gS
   by_cases b:v.getD k false=true
   ·rw[adC b]
    constructor
    ·exact .inl
    ·rintro(h1|⟨rfl,h1⟩)
     ·exact h1
     ·rw[b]at h1;cases h1
   ·rw[adB b,pP _ _ _ _ c]
    by_cases e:k=x
    ·subst e
     rw[adC rfl]
     exact⟨λ_=>.inr ⟨rfl,by simpa using b⟩,λ_=>rfl⟩
    ·rw[adB e]
     exact⟨.inl,λh1=>h1.elim id λa=>absurd a.1.symm e⟩
  rw[e]
  constructor
  ·rintro((h1|h1)|h1)
   ·exact .inl h1
   ·exact .inr ⟨.inl h1.1,h1.2⟩
   ·exact .inr ⟨.inr h1.1,h1.2⟩
  ·rintro(h1|⟨h1|h1,a⟩)
   ·exact .inl (.inl h1)
   ·exact .inl (.inr ⟨h1,a⟩)
   ·exact .inr ⟨h1,a⟩
theorem Qq(q:List Bool)(k:Nat):dQ (q.set k true)<=dQ q+1/\dQ q<=dQ (q.set k true):=by
 rcases adI k q.length with h|h
 ·cases hq:q.getD k false with
  |false=>rw[wA q k h hq];omega
  |true=>
   have:q.set k true=q:=by
    refine adK λi=>?_
    rw[adR]
    split
    ·rename_i e;subst e
     rw[adD,aZ h,adF]at hq
     simp[h,hq]
    ·rfl
   rw[this];omega
 ·rw[List.set_eq_of_length_le h];omega
theorem C3(v:List Bool):∀(l:List Nat) (q:List Bool),dQ (l.foldl (gS v) q)<=dQ q+l.length/\dQ q<=dQ (l.foldl (gS v) q)
 |[],q=>⟨adN _,adN _⟩
 |k::l,q=>by
  rw[List.foldl_cons]
  have b:=C3 v l (gS v q k)
  have a:dQ (gS v q k)<=dQ q+1/\dQ q<=dQ (gS v q k):=by
   unfold gS
   split
   ·omega
   ·exact Qq q k
  rw[List.length_cons]
  omega
theorem A9:∀(q:List Bool) (i:Nat),q.getD i false=true->dQ (q.set i false)+1=dQ q
 |[],i,h=>by simp at h
 |b::q,0,h=>by
  have:b=true:=by simpa using h
  subst this
  simp[dQ]
 |b::q,i+1,h=>by
  have a:=A9 q i (by simpa using h)
  unfold dQ at a⊢
  rw[List.set_cons_succ,List.countP_cons,List.countP_cons]
  omega
theorem Ba{q:List Bool}:dQ q=0↔iM q:=by
 unfold dQ iM
 rw[List.countP_eq_zero]
 constructor
 ·intro h i
  rw[adD]
  cases hq:q[i]? with
  |none=>rfl
  |some b=>have:=h b (ba hq);simpa using this
 ·intro h b c a
  obtain⟨i,d,e⟩:=adE.1 c
  have:=h i
  rw[adD,aZ d,e]at this
  simp only[adF]at this
  rw[this]at a
  cases a
structure ka(ps:List bO)(user:ByteArray):Prop where
 ok:(eF ps user).OK
 lt:∀p∈ps,∀x∈p.leads.flatten,x<ps.length
 nf:∀p∈ps,p.found=false->p.leads=[]
 ln:∀p∈ps,p.leads.length=p.nodes.length
theorem AQ{i j:Nat}:i∈fN ps j↔∃p,ps[i]? =some p/\j∈p.leads.flatten:=by
 unfold fN
 rw[adH,adL]
 constructor
 ·rintro⟨a,b⟩
  rw[aZ a,adM,adF]at b
  exact⟨_,aZ a,bT b⟩
 ·rintro⟨p,a,b⟩
  refine⟨(adS.1 a).1,?_⟩
  rw[a]
  simpa using b
theorem ka.back(h:ka ps user){i j:Nat}:i∈fN ps j↔(eF ps user).to i j:=by
 rw[AQ]
 constructor
 ·rintro⟨p,c,d⟩
  obtain⟨l,b,k⟩:=adY.1 d
  obtain⟨e,f,m⟩:=adE.1 b
  have g:e<p.nodes.length:=by rw[<-h.ln p (ba c)];exact f
  refine⟨p,c,e,p.nodes[e],aZ g,?_⟩
  rw[adD,aZ f,m]
  exact k
 ·rintro⟨p,c,e,n,d,a⟩
  refine⟨p,c,adY.2 ?_⟩
  rw[adD]at a
  cases b:p.leads[e]? with
  |none=>rw[b]at a;cases a
  |some l=>rw[b]at a;exact⟨l,ba b,a⟩
theorem ka.sJ(h:ka ps user){i j:Nat}(c:i∈fN ps j):i<ps.length/\(eF ps user).f i=true:=by
 obtain⟨p,a,b⟩:=AQ.1 c
 refine⟨(adS.1 a).1,?_⟩
 show((ps[i]?).map (·.found)).getD false=true
 rw[a]
 cases hf:p.found with
 |true=>simp[hf]
 |false=>rw[h.nf p (ba a) hf]at b;cases b
def ja(ps:List bO):Nat:=dQ (ps.map (·.found))
structure nA(ps:List bO)(user:ByteArray)(k:Nat)(s:QS):Prop where
 l1:s.1.length=ps.length
 l2:s.2.length=ps.length
 inv:jm (eF ps user) (λj=>s.1.getD j false) (jH s.2)
 up:k+dQ s.2<=ja ps+pQ ps.length (λj=>(fN ps j).length) (λj=>s.1.getD j false)
 lo:ja ps<=k+dQ s.2
theorem zW(n i:Nat):(List.replicate n false).getD i false=false:=by
 rw[adD,List.getElem?_replicate]
 split<;>rfl
theorem zV(i:Nat):(ps.map (·.found)).getD i false=(eF ps user).f i:=by
 show _=((ps[i]?).map (·.found)).getD false
 rw[adD,adW]
theorem nA.start:nA ps user 0 (List.replicate ps.length false,ps.map (·.found)):=by
 refine⟨by simp,by simp,?_,?_,?_⟩
 ·have e:(λj=>(List.replicate ps.length false).getD j false)=λ_=>false:=funext λj=>zW _ j
  show jm _ (λj=>(List.replicate ps.length false).getD j false) _
  rw[e]
  refine jm.start (λi a=>?_) λi a c=>?_
  ·have b:=gd.1 a
   rw[zV (user:=user)]at b
   refine⟨?_,b⟩
   unfold jH at a
   have:=adL.1 (adH.1 a).1
   rw[List.length_map]at this
   exact this
  ·exact gd.2 (by rw[zV (user:=user)];exact c)
 ·show 0+ja ps<=_;omega
 ·show ja ps<=0+ja ps;omega
theorem nA.step(ok:ka ps user){k:Nat}{s:QS}{i:Nat}(h:nA ps user k s)(c:mN ps s.2 i):nA ps user (k+1) (rS ps user s i):=by
 obtain⟨v,q⟩:=s
 obtain⟨g,d,f,E,D⟩:=h
 simp only at g d f E D c
 have G:=A9 q i c.1
 have z:=f.q i (gd.2 c.1)
 have m:i<ps.length:=z.1
 have r:∀x,(q.set i false).getD x false=true↔q.getD x false=true/\x≠i:=λx=>by
  rw[pP _ _ _ _ (by rw[d];exact m)]
  by_cases e:i=x
  ·rw[adC e];exact⟨λh=>(by cases h),λh=>absurd e.symm h.2⟩
  ·rw[adB e];exact⟨λh=>⟨h,λu=>e u.symm⟩,λh=>h.1⟩
 unfold rS
 simp only
 split
 ·rename_i b
  refine⟨g,by simpa using d,?_,?_,?_⟩
  ·refine f.skip (i:=i) (λx=>by rw[gd,gd];exact r x) ?_
   simp only[Bool.or_eq_true,Bool.not_eq_true']at b
   exact b
  ·simp only;omega
  ·simp only;omega
 ·rename_i b
  simp only[Bool.or_eq_true,Bool.not_eq_true',not_or,Bool.not_eq_true,Bool.not_eq_false]at b
  obtain⟨t,w⟩:=b
  have p:i<v.length:=by rw[g];exact m
  have o:=Cd v i p
  have F:=C3 (v.set i true) (fN ps i) (q.set i false)
  have l:∀x,((fN ps i).foldl (gS (v.set i true)) (q.set i false)).getD x false=true↔(q.getD x false=true/\x≠i)\/(x∈fN ps i/\(v.set i true).getD x false=false):=λx=>by
   rw[C2 _ _ _ _ λy C=>by rw[List.length_set,d];exact(ok.sJ C).1,r]
  refine⟨by simpa using g,by rw[xE];simpa using d,?_,?_,?_⟩
  ·show jm _ (λj=>(v.set i true).getD j false) _
   rw[o]
   refine f.take ok.ok (gd.2 c.1) (λx a=>?_) t w (λx a=>?_) (λx a n=>?_) (λx a H A B n=>?_)
   ·have:=c.2 x (gd.1 a)
    show gb ps i<=gb ps x
    omega
   ·rcases(l x).1 (gd.1 a)with h1|h1
    ·exact .inl ⟨gd.2 h1.1,h1.2⟩
    ·exact .inr ⟨(ok.sJ h1.1).1,(ok.sJ h1.1).2,ok.back.1 h1.1⟩
   ·exact gd.2 ((l x).2 (.inl ⟨gd.1 a,n⟩))
   ·refine gd.2 ((l x).2 (.inr ⟨ok.back.2 A,?_⟩))
    rw[pP _ _ _ _ p,adB λe=>n e.symm]
    exact B
  ·show k+1+dQ ((fN ps i).foldl (gS (v.set i true)) (q.set i false))<=ja ps+pQ ps.length (λj=>(fN ps j).length) (λj=>(v.set i true).getD j false)
   rw[o,DP m t]
   omega
  ·show ja ps<=k+1+dQ ((fN ps i).foldl (gS (v.set i true)) (q.set i false))
   omega
theorem dR.inv(ok:ka ps user):∀{k:Nat} {s:QS},dR ps user k s->nA ps user k s
 |0,_,.start=>.start
 |k+1,_,.step h n=>(dR.inv ok h).step ok n
def oN(ps:List bO):Nat:=dy (ps.map λp=>kJ p.leads.flatten)
theorem nA.li(ok:ka ps user){k:Nat}{s:QS}(h:nA ps user k s):k+dQ s.2<=ja ps+oN ps:=by
 have a:=h.up
 have c:=DQ (n:=ps.length) (b:=λj=>(fN ps j).length) (v:=λj=>s.1.getD j false)
 have d:=DB ok.lt
 unfold oN
 omega
theorem dR.ends(ok:ka ps user):∃K s,dR ps user K s/\iM s.2:=by
 have e:∀d k s,dR ps user k s->ja ps+oN ps-k=d->∃K s,dR ps user K s/\iM s.2:=by
  intro d
  induction d with
  |zero=>
   intro k s h b
   have f:=(h.inv ok).li ok
   refine⟨k,s,h,Ba.1 ?_⟩
   omega
  |succ d ih=>
   intro k s h b
   by_cases a:iM s.2
   ·exact⟨k,s,h,a⟩
   ·obtain⟨i,c⟩:=Qf (ps:=ps) a
    exact ih (k+1) _ (.step h c) (by omega)
 exact e _ 0 _ .start rfl
theorem dR.end_(ok:ka ps user){K:Nat}{s:QS}(h:dR ps user K s)(k:iM s.2):
  s.1.length=ps.length/\ja ps<=K/\K<=ja ps+oN ps/\(∀i,i<ps.length->s.1.getD i false=((eF ps user).f i&&(eF ps user).ex i λj=>s.1.getD j false))/\
  ∀li,(∀i,i<ps.length->gb ps i<=li)->s.1=nH (eF ps user) li:=by
 have a:=h.inv ok
 have p:=Ba.2 k
 have q:=a.li ok
 have r:=a.lo
 have n:jH s.2=[]:=List.eq_nil_iff_forall_not_mem.2 λi a=>by
  have:=gd.1 a
  rw[k i]at this
  cases this
 have c:=a.inv
 rw[n]at c
 refine⟨a.l1,by omega,by omega,λi o=>c.model ok.ok i o,λli g=>?_⟩
 have d:=(yP ok.ok g).1
 refine adK λj=>?_
 have b:=SY ok.ok g c j
 rw[adD,adD]at b
 by_cases e:j<ps.length
 ·have l:j<s.1.length:=by rw[a.l1];exact e
  have m:j<(nH (eF ps user) li).length:=by show j<(ke _ _ _ _).length;rw[d];exact e
  rw[aZ l,aZ m]at b⊢
  simp only[adF]at b
  rw[b]
 ·rw[adO (by rw[a.l1];omega),adO (by show(ke _ _ _ _).length<=j;rw[d];show ps.length<=j;omega)]
end
section
variable{W:ByteArray->Bool}{F:ByteArray->ByteArray->Bool}{c:Cf}{num:List Nat}{sub:bf->List Sub}{k:bf}{N:Nat}
theorem eN.gr(a:eN c num sub k N):su c num sub (opened c num sub k N).1 (opened c num sub k N).1.length:=by
 have h:=rI N a.2
 exact⟨h.one,λj p b d=>h.op j p (Nat.lt_of_lt_of_le b a.1) d⟩
theorem Bf{x:bf}(h:(one c num x).found=false):(one c num x).nodes=[]:=by
 unfold one at h⊢
 split at h
 ·rfl
 ·cases h
theorem kz.ps(h:kz W F c num)(j:eN c num sub k N)(user:ByteArray):ka (opened c num sub k N).1 user:=by
 have f:=j.gr
 refine⟨h.Qa j user,λp b x v=>?_,λp b n=>?_,λp b=>?_⟩
 ·obtain⟨i,a,e⟩:=adE.1 b
  have g:=(f.op i p a (by rw[aZ a,e])).1
  obtain⟨l,s,t⟩:=adY.1 v
  obtain⟨m,o,q⟩:=adE.1 s
  have u:m<p.nodes.length:=by rw[<-g.1];exact o
  have d:=g.2 m _ (aZ u)
  rw[adD,aZ o,adF,q]at d
  have r:((opened c num sub k N).1.map (·.k))[x]? ∈(ee c sub p.k p.nodes[m]).map some:=by rw[<-d];exact adP.2 ⟨x,t,rfl⟩
  obtain⟨y,_,w⟩:=adP.1 r
  have:=(adS.1 w.symm).1
  rwa [List.length_map]at this
 ·obtain⟨i,a,e⟩:=adE.1 b
  have g:=(f.op i p a (by rw[aZ a,e])).1
  obtain⟨z,A,_⟩:=f.one p b
  rw[z]at n
  have:=Bf n
  rw[<-A]at this
  have d:=g.1
  rw[this]at d
  exact List.eq_nil_of_length_eq_zero d
 ·obtain⟨i,a,e⟩:=adE.1 b
  exact(f.op i p a (by rw[aZ a,e])).1.1
theorem eN.yV(a:eN c num sub k N):oN (opened c num sub k N).1=(opened c num sub k N).2:=by
 rw[Bj N a.2,List.take_of_length_le a.1]
 rfl
end
namespace LTY
theorem ow(v:Value)(xs:List Ty)(R:ay)(h:RS R 2 Ty.enc v xs)(i:xs.length<=1000000):
  Spec prog 124 [v] R [] λv' H'=>∃T,H'=[T]/\OS 249 2 Ty.enc v' xs T:=by
 obtain⟨b,d,rfl⟩:=h.val
 have f:∀H,RS (Rx R H) 2 Ty.enc (.slice b xs.length d) xs:=λH=>h.rx
 refine Spec.gQ (H':=[[]]) (by simp)<|Spec.body func124 rfl results124 ntmps124 rfl<|.sr<|.ag rfl<|.zs<|.sr<|.mo rfl<|.q (.sR rfl rfl)<|.zn<|.cond rfl (λa=>?_) λa=>?_
 refine .sr<|.az rfl<|.ret (aJ (aY _ (.one (.tmp rfl)) (.one [0] _) ?_))
 ·obtain rfl:b=none:=by simpa using a
  have:=h.tC
  subst this
  exact⟨[],rfl,OS.nil⟩
 refine .kn<|.sr ?_
 refine .sL (λg=>?_)
 refine .mo rfl ?_
 refine .append (OS.empty (enc:=Ty.enc) (sz:=2)) (f _) (by simp;omega) (λv' c e=>?_)
 refine .az rfl<|.ret (aY _ (.one (.tmp rfl)) (.one [0] _) ?_)
 ·exact⟨c,by simp[take],by simpa using e⟩
theorem mM(f:FuncId)(caps:List Value) [e:aU prog f](p:Ty->Bool)(v:Value)(l:List Ty)(R:ay)(h:RS R 2 Ty.enc v l)(C:∀s∈l,∀R',(∀b o,R b o->R' b o)->Spec prog f ((λt:Ty=>Value.agg t.enc.toArray) s::caps) R' [] λu H'=>u=.bool (p s)/\H'=[]):
  Spec prog 227 [v,.func (.func f) #[] caps.toArray] R [] λu H'=>(∃k:Int,u=.int .i64 k/\((∃(i:Nat) (x:Ty),l[i]? =some x/\p x=true/\(∀j y,j<i->l[j]? =some y->p y=false)/\k=i)\/((∀y∈l,p y=false)/\k= -1)))/\H'=[]:=by
 have H:=h.le
 refine Spec.body func227 rfl results227 ntmps227 rfl<|.sr<|.ag rfl<|.zs<|.sr<|.mo rfl<|.q (.bI h)<|.mo rfl<|.zn<|.block<|.loop (X:=Nat) (λi=>i<=l.length/\∀j z,j<i->l[j]? =some z->p z=false) (λi=>[(0,v),(1,.func (.func f) #[] caps.toArray),(7,.int .i64 l.length),(8,iN i)]) (λ_=>[]) (λi=>l.length-i) 0 ⟨by omega,by omega⟩ kE.c.c.c.c rH ?_
 rintro i ⟨G,w⟩
 refine .sr<|.q .lss<|.zs<|.cond rfl (λg=>?_) λg=>?_
 have D:i<l.length:=by simp at g;omega
 obtain⟨z,d⟩:=bQ D
 have F:=ba d
 refine .kn<|.seq<|.block<|.sr<|.mo rfl<|.ag rfl<|.z<|.mo rfl<|.mo rfl<|.mo rfl ?_
 refine .bC i h d (λI=>?_)
 refine .q (.aM rfl)<|.gv (first:=[]) (captured:=caps) (vs:=[(λt:Ty=>Value.agg t.enc.toArray) z]) (C z F _ λb o A=>.inl A) (λu E=>?_)
 subst E
 refine .zn<|.cond rfl (λm=>?_) λm=>?_
 refine .sr<|.mo rfl<|.az rfl<|.ret (bw (aJ (cG (bw (aJ (aP rfl ?_))))))
 ·exact⟨⟨_,rfl,.inl ⟨i,z,d,m,w,rfl⟩⟩,rfl⟩
 refine .skip<|aS<|au<|.region<|.q (.inc (n:=i) (by omega))<|.mo rfl<|.nil ?_
 ·exact bd (i+1) ⟨by omega,λj y r a=>by
   rcases adI j i with hh|hh
   ·exact w j y hh a
   ·obtain rfl:j=i:=by omega
    rw[d]at a;cases a;exact m⟩ (by omega) kE.c.c.c.c rH
 refine .exit<|bo<|bq<|bp<|au<|.sr<|.az rfl<|.ret (aP rfl ?_)
 ·have B:i=l.length:=by simp at g;omega
  subst B
  refine⟨⟨_,rfl,.inr ⟨λy a=>?_,rfl⟩⟩,rfl⟩
  obtain⟨j,r,rfl⟩:=adE.1 a
  exact w j _ r (aZ r)
theorem kd(f:FuncId)(caps:List Value) [e:aU prog f](p:Ty->Bool)(v:Value)(l:List Ty)(R:ay)(h:RS R 2 Ty.enc v l)(j:∀s∈l,∀R',(∀b o,R b o->R' b o)->Spec prog f ((λt:Ty=>Value.agg t.enc.toArray) s::caps) R' [] λu H'=>u=.bool (p s)/\H'=[]):
  Spec prog 175 [v,.func (.func f) #[] caps.toArray] R [] λu H'=>u=.bool (l.any p)/\H'=[]:=by
 refine Spec.body func175 rfl results175 ntmps175 rfl<|.sr<|.ag rfl<|.z<|.mo rfl<|.mo rfl<|.aX (mM f caps p v l _ h.rx λs r R' d=>j s r R' λb o g=>d b o (.inl g)) (λu w=>?_)
 obtain⟨k,rfl,m⟩:=w
 have n:decide (0<=k)=l.any p:=by
  rcases m with⟨i,x,a,c,_,rfl⟩|⟨a,rfl⟩
  ·rw[adZ.2 ⟨x,ba a,c⟩];simp
  ·rw[ad0.2 λy A=>by rw[a y A];simp];rfl
 refine .q .geq<|.az rfl<|.ret (aP rfl ?_)
 ·exact⟨by simp only[n],rfl⟩
end LTY
namespace LSC
theorem ow(v:Value)(xs:List Sc)(R:ay)(h:RS R 4 Sc.enc v xs)(i:xs.length<=1000000):
  Spec prog 126 [v] R [] λv' H'=>∃T,H'=[T]/\OS 169 4 Sc.enc v' xs T:=by
 obtain⟨b,d,rfl⟩:=h.val
 have f:∀H,RS (Rx R H) 4 Sc.enc (.slice b xs.length d) xs:=λH=>h.rx
 refine Spec.gQ (H':=[[]]) (by simp)<|Spec.body func126 rfl results126 ntmps126 rfl<|.sr<|.ag rfl<|.zs<|.sr<|.mo rfl<|.q (.sR rfl rfl)<|.zn<|.cond rfl (λa=>?_) λa=>?_
 refine .sr<|.az rfl<|.ret (aJ (aY _ (.one (.tmp rfl)) (.one [0] _) ?_))
 ·obtain rfl:b=none:=by simpa using a
  have:=h.tC
  subst this
  exact⟨[],rfl,OS.nil⟩
 refine .kn<|.sr ?_
 refine .sL (λg=>?_)
 refine .mo rfl ?_
 refine .append (OS.empty (enc:=Sc.enc) (sz:=4)) (f _) (by simp;omega) (λv' c e=>?_)
 refine .az rfl<|.ret (aY _ (.one (.tmp rfl)) (.one [0] _) ?_)
 ·exact⟨c,by simp[take],by simpa using e⟩
theorem mM(f:FuncId)(caps:List Value) [e:aU prog f](p:Sc->Bool)(v:Value)(l:List Sc)(R:ay)(h:RS R 4 Sc.enc v l)(C:∀s∈l,∀R',(∀b o,R b o->R' b o)->Spec prog f ((λt:Sc=>Value.agg t.enc.toArray) s::caps) R' [] λu H'=>u=.bool (p s)/\H'=[]):
  Spec prog 228 [v,.func (.func f) #[] caps.toArray] R [] λu H'=>(∃k:Int,u=.int .i64 k/\((∃(i:Nat) (x:Sc),l[i]? =some x/\p x=true/\(∀j y,j<i->l[j]? =some y->p y=false)/\k=i)\/((∀y∈l,p y=false)/\k= -1)))/\H'=[]:=by
 have H:=h.le
 refine Spec.body func228 rfl results228 ntmps228 rfl<|.sr<|.ag rfl<|.zs<|.sr<|.mo rfl<|.q (.bI h)<|.mo rfl<|.zn<|.block<|.loop (X:=Nat) (λi=>i<=l.length/\∀j z,j<i->l[j]? =some z->p z=false) (λi=>[(0,v),(1,.func (.func f) #[] caps.toArray),(7,.int .i64 l.length),(8,iN i)]) (λ_=>[]) (λi=>l.length-i) 0 ⟨by omega,by omega⟩ kE.c.c.c.c rH ?_
 rintro i ⟨G,w⟩
 refine .sr<|.q .lss<|.zs<|.cond rfl (λg=>?_) λg=>?_
 have D:i<l.length:=by simp at g;omega
 obtain⟨z,d⟩:=bQ D
 have F:=ba d
 refine .kn<|.seq<|.block<|.sr<|.mo rfl<|.ag rfl<|.z<|.mo rfl<|.mo rfl<|.mo rfl ?_
 refine .bC i h d (λI=>?_)
 refine .q (.aM rfl)<|.gv (first:=[]) (captured:=caps) (vs:=[(λt:Sc=>Value.agg t.enc.toArray) z]) (C z F _ λb o A=>.inl A) (λu E=>?_)
 subst E
 refine .zn<|.cond rfl (λm=>?_) λm=>?_
 refine .sr<|.mo rfl<|.az rfl<|.ret (bw (aJ (cG (bw (aJ (aP rfl ?_))))))
 ·exact⟨⟨_,rfl,.inl ⟨i,z,d,m,w,rfl⟩⟩,rfl⟩
 refine .skip<|aS<|au<|.region<|.q (.inc (n:=i) (by omega))<|.mo rfl<|.nil ?_
 ·exact bd (i+1) ⟨by omega,λj y r a=>by
   rcases adI j i with hh|hh
   ·exact w j y hh a
   ·obtain rfl:j=i:=by omega
    rw[d]at a;cases a;exact m⟩ (by omega) kE.c.c.c.c rH
 refine .exit<|bo<|bq<|bp<|au<|.sr<|.az rfl<|.ret (aP rfl ?_)
 ·have B:i=l.length:=by simp at g;omega
  subst B
  refine⟨⟨_,rfl,.inr ⟨λy a=>?_,rfl⟩⟩,rfl⟩
  obtain⟨j,r,rfl⟩:=adE.1 a
  exact w j _ r (aZ r)
theorem kd(f:FuncId)(caps:List Value) [e:aU prog f](p:Sc->Bool)(v:Value)(l:List Sc)(R:ay)(h:RS R 4 Sc.enc v l)(j:∀s∈l,∀R',(∀b o,R b o->R' b o)->Spec prog f ((λt:Sc=>Value.agg t.enc.toArray) s::caps) R' [] λu H'=>u=.bool (p s)/\H'=[]):
  Spec prog 178 [v,.func (.func f) #[] caps.toArray] R [] λu H'=>u=.bool (l.any p)/\H'=[]:=by
 refine Spec.body func178 rfl results178 ntmps178 rfl<|.sr<|.ag rfl<|.z<|.mo rfl<|.mo rfl<|.aX (mM f caps p v l _ h.rx λs r R' d=>j s r R' λb o g=>d b o (.inl g)) (λu w=>?_)
 obtain⟨k,rfl,m⟩:=w
 have n:decide (0<=k)=l.any p:=by
  rcases m with⟨i,x,a,c,_,rfl⟩|⟨a,rfl⟩
  ·rw[adZ.2 ⟨x,ba a,c⟩];simp
  ·rw[ad0.2 λy A=>by rw[a y A];simp];rfl
 refine .q .geq<|.az rfl<|.ret (aP rfl ?_)
 ·exact⟨by simp only[n],rfl⟩
end LSC
namespace LRE
theorem mM(f:FuncId)(caps:List Value) [e:aU prog f](p:cj->Bool)(v:Value)(l:List cj)(R:ay)(h:RS R 3 cj.enc v l)(C:∀s∈l,∀R',(∀b o,R b o->R' b o)->Spec prog f ((λt:cj=>Value.agg t.enc.toArray) s::caps) R' [] λu H'=>u=.bool (p s)/\H'=[]):
  Spec prog 207 [v,.func (.func f) #[] caps.toArray] R [] λu H'=>(∃k:Int,u=.int .i64 k/\((∃(i:Nat) (x:cj),l[i]? =some x/\p x=true/\(∀j y,j<i->l[j]? =some y->p y=false)/\k=i)\/((∀y∈l,p y=false)/\k= -1)))/\H'=[]:=by
 have H:=h.le
 refine Spec.body func207 rfl results207 ntmps207 rfl<|.sr<|.ag rfl<|.zs<|.sr<|.mo rfl<|.q (.bI h)<|.mo rfl<|.zn<|.block<|.loop (X:=Nat) (λi=>i<=l.length/\∀j z,j<i->l[j]? =some z->p z=false) (λi=>[(0,v),(1,.func (.func f) #[] caps.toArray),(7,.int .i64 l.length),(8,iN i)]) (λ_=>[]) (λi=>l.length-i) 0 ⟨by omega,by omega⟩ kE.c.c.c.c rH ?_
 rintro i ⟨G,w⟩
 refine .sr<|.q .lss<|.zs<|.cond rfl (λg=>?_) λg=>?_
 have D:i<l.length:=by simp at g;omega
 obtain⟨z,d⟩:=bQ D
 have F:=ba d
 refine .kn<|.seq<|.block<|.sr<|.mo rfl<|.ag rfl<|.z<|.mo rfl<|.mo rfl<|.mo rfl ?_
 refine .bC i h d (λI=>?_)
 refine .q (.aM rfl)<|.gv (first:=[]) (captured:=caps) (vs:=[(λt:cj=>Value.agg t.enc.toArray) z]) (C z F _ λb o A=>.inl A) (λu E=>?_)
 subst E
 refine .zn<|.cond rfl (λm=>?_) λm=>?_
 refine .sr<|.mo rfl<|.az rfl<|.ret (bw (aJ (cG (bw (aJ (aP rfl ?_))))))
 ·exact⟨⟨_,rfl,.inl ⟨i,z,d,m,w,rfl⟩⟩,rfl⟩
 refine .skip<|aS<|au<|.region<|.q (.inc (n:=i) (by omega))<|.mo rfl<|.nil ?_
 ·exact bd (i+1) ⟨by omega,λj y r a=>by
   rcases adI j i with hh|hh
   ·exact w j y hh a
   ·obtain rfl:j=i:=by omega
    rw[d]at a;cases a;exact m⟩ (by omega) kE.c.c.c.c rH
 refine .exit<|bo<|bq<|bp<|au<|.sr<|.az rfl<|.ret (aP rfl ?_)
 ·have B:i=l.length:=by simp at g;omega
  subst B
  refine⟨⟨_,rfl,.inr ⟨λy a=>?_,rfl⟩⟩,rfl⟩
  obtain⟨j,r,rfl⟩:=adE.1 a
  exact w j _ r (aZ r)
theorem kd(f:FuncId)(caps:List Value) [e:aU prog f](p:cj->Bool)(v:Value)(l:List cj)(R:ay)(h:RS R 3 cj.enc v l)(j:∀s∈l,∀R',(∀b o,R b o->R' b o)->Spec prog f ((λt:cj=>Value.agg t.enc.toArray) s::caps) R' [] λu H'=>u=.bool (p s)/\H'=[]):
  Spec prog 160 [v,.func (.func f) #[] caps.toArray] R [] λu H'=>u=.bool (l.any p)/\H'=[]:=by
 refine Spec.body func160 rfl results160 ntmps160 rfl<|.sr<|.ag rfl<|.z<|.mo rfl<|.mo rfl<|.aX (mM f caps p v l _ h.rx λs r R' d=>j s r R' λb o g=>d b o (.inl g)) (λu w=>?_)
 obtain⟨k,rfl,m⟩:=w
 have n:decide (0<=k)=l.any p:=by
  rcases m with⟨i,x,a,c,_,rfl⟩|⟨a,rfl⟩
  ·rw[adZ.2 ⟨x,ba a,c⟩];simp
  ·rw[ad0.2 λy A=>by rw[a y A];simp];rfl
 refine .q .geq<|.az rfl<|.ret (aP rfl ?_)
 ·exact⟨by simp only[n],rfl⟩
end LRE
namespace LND
theorem ow(v:Value)(xs:List Nd)(R:ay)(h:RS R 5 Nd.enc v xs)(i:xs.length<=1000000):
  Spec prog 125 [v] R [] λv' H'=>∃T,H'=[T]/\OS 199 5 Nd.enc v' xs T:=by
 obtain⟨b,d,rfl⟩:=h.val
 have f:∀H,RS (Rx R H) 5 Nd.enc (.slice b xs.length d) xs:=λH=>h.rx
 refine Spec.gQ (H':=[[]]) (by simp)<|Spec.body func125 rfl results125 ntmps125 rfl<|.sr<|.ag rfl<|.zs<|.sr<|.mo rfl<|.q (.sR rfl rfl)<|.zn<|.cond rfl (λa=>?_) λa=>?_
 refine .sr<|.az rfl<|.ret (aJ (aY _ (.one (.tmp rfl)) (.one [0] _) ?_))
 ·obtain rfl:b=none:=by simpa using a
  have:=h.tC
  subst this
  exact⟨[],rfl,OS.nil⟩
 refine .kn<|.sr ?_
 refine .sL (λg=>?_)
 refine .mo rfl ?_
 refine .append (OS.empty (enc:=Nd.enc) (sz:=5)) (f _) (by simp;omega) (λv' c e=>?_)
 refine .az rfl<|.ret (aY _ (.one (.tmp rfl)) (.one [0] _) ?_)
 ·exact⟨c,by simp[take],by simpa using e⟩
end LND
section
variable{c:Cf}{num:List Nat}{sub:bf->List Sub}{k:bf}
theorem eN.ex{B:Nat}(h:∀i,(opened c num sub k i).1.length<=B):∃N,eN c num sub k N:=by
 have b:∀m,(∃N,N<=m/\eN c num sub k N)\/∀j,j<=m->j<(opened c num sub k j).1.length:=by
  intro m
  induction m with
  |zero=>
   refine .inr λj a=>?_
   obtain rfl:j=0:=by omega
   simp[opened]
  |succ m ih=>
   rcases ih with⟨N,h1,h2⟩|ih
   ·exact .inl ⟨N,by omega,h2⟩
   ·by_cases h1:m+1<(opened c num sub k (m+1)).1.length
    ·exact .inr λj a=>by
      rcases adI j (m+1)with h2|h2
      ·exact ih j (by omega)
      ·obtain rfl:j=m+1:=by omega
       exact h1
    ·exact .inl ⟨m+1,adN _,by omega,λj a=>ih j (by omega)⟩
 rcases b (B+1)with⟨N,_,h1⟩|h1
 ·exact⟨N,h1⟩
 ·have:=h1 (B+1) (adN _)
  have:=h (B+1)
  omega
def et(c:Cf)(num:List Nat)(sub:bf->List Sub)(k:bf)(b:Int)(can:Bool)(N:Nat):List bO×Nat×Int:=
 if b<1 then([],0,2)else if can=false then([],0,12)
 else if(((opened c num sub k N).1.length+(opened c num sub k N).2:Nat):Int)<=b then((opened c num sub k N).1,(opened c num sub k N).2,0)else([],0,16)
theorem O0{P:bf->Prop}{a b:List bO}(h:Grown c num P a b){i:Nat}(e:∀j p,i<=j->a[j]? =some p->p=one c num p.k):∀j p,i<=j->b[j]? =some p->p=one c num p.k:=by
 obtain⟨⟨l,rfl,g⟩,_⟩:=h
 intro j p f d
 rcases adI j a.length with h1|h1
 ·rw[List.getElem?_append_left h1]at d
  exact e j p f d
 ·rw[List.getElem?_append_right h1]at d
  exact(g p (ba d)).2
theorem wF:∀(i:Nat) (j:Nat) (p:bO),i<=j->(opened c num sub k i).1[j]? =some p->p=one c num p.k
 |0,j,p,_,a=>by
  have:=ba a
  simp only[opened,adJ]at this
  subst this
  rw[rG]
 |i+1,j,p,b,a=>by
  have d:=λj p b a=>wF i j p b a
  change (eL c num sub (opened c num sub k i).1 i).1[j]? =some p at a
  unfold eL at a
  split at a
  ·exact d j p (by omega) a
  ·rw[List.getElem?_set_ne (by omega)]at a
   exact O0 (lJ _ _ _) d j p (by omega) a
theorem Qz{ps:List bO}{i:Nat}{p:bO}(d:ps[i]? =some p)(a:p=one c num p.k)(b:p.found=false):eL c num sub ps i=(ps,0):=by
 have g:p.nodes=[]:=by rw[a];exact Bf (by rw[<-a];exact b)
 have q:p.fG=[]/\p.leads=[]:=by
  rw[a]
  unfold one
  split<;>exact⟨rfl,rfl⟩
 obtain⟨h,o⟩:=q
 obtain⟨k,f,n,m,u,l⟩:=p
 simp only at h o g b
 subst h o g b
 unfold eL
 rw[d]
 simp only[dj,Bool.false_eq_true,if_false]
 refine Prod.ext ?_ rfl
 refine adK λj=>?_
 rw[adR]
 split
 ·rename_i e;subst e
  have:=(adS.1 d).1
  rw[adC this,d]
 ·rfl
theorem xU:∀(ks:List bf) (ps:List bO) (x:bf),dq c num ps (ks++[x])=((eB c num (dq c num ps ks).1 x).1,(dq c num ps ks).2++[(eB c num (dq c num ps ks).1 x).2])
 |[],ps,x=>rfl
 |y::ks,ps,x=>by
  rw[adT,dq,xU ks _ x]
  rfl
theorem xZ(y:bf):∀(ns:List Nd) (ps:List bO) (n:Nd),dj c num sub y ps (ns++[n])=((dq c num (dj c num sub y ps ns).1 (ee c sub y n)).1,(dj c num sub y ps ns).2++[(dq c num (dj c num sub y ps ns).1 (ee c sub y n)).2])
 |[],ps,n=>rfl
 |m::ns,ps,n=>by
  rw[adT,dj,xZ y ns _ n]
  rfl
theorem xV{ks:List bf}{i:Nat}{x:bf}(h:ks[i]? =some x)(ps:List bO):dq c num ps (ks.take (i+1))=((eB c num (dq c num ps (ks.take i)).1 x).1,(dq c num ps (ks.take i)).2++[(eB c num (dq c num ps (ks.take i)).1 x).2]):=by
 rw[show ks.take (i+1)=ks.take i++[x] by rw[adG,h];rfl,xU]
theorem x1{a:List Nd}{i:Nat}{n:Nd}(h:a[i]? =some n)(y:bf)(ps:List bO):dj c num sub y ps (a.take (i+1))=((dq c num (dj c num sub y ps (a.take i)).1 (ee c sub y n)).1,(dj c num sub y ps (a.take i)).2++[(dq c num (dj c num sub y ps (a.take i)).1 (ee c sub y n)).2]):=by
 rw[show a.take (i+1)=a.take i++[n] by rw[adG,h];rfl,xZ]
theorem xR:∀(a b:List bf) (ps:List bO),(dq c num ps (a++b)).1=(dq c num (dq c num ps a).1 b).1
 |[],b,ps=>rfl
 |x::a,b,ps=>by rw[adT,dq,dq];exact xR a b _
theorem xW(y:bf):∀(a b:List Nd) (ps:List bO),(dj c num sub y ps (a++b)).1=(dj c num sub y (dj c num sub y ps a).1 b).1
 |[],b,ps=>rfl
 |x::a,b,ps=>by rw[adT,dj,dj];exact xW y a b _
theorem xT(ks:List bf)(i:Nat)(ps:List bO):(dq c num ps (ks.take i)).1.length<=(dq c num ps ks).1.length:=by
 have h:=xR (c:=c) (num:=num) (ks.take i) (ks.drop i) ps
 rw[List.take_append_drop]at h
 rw[h]
 exact(pM _ _).len
theorem xY(y:bf)(a:List Nd)(i:Nat)(ps:List bO):(dj c num sub y ps (a.take i)).1.length<=(dj c num sub y ps a).1.length:=by
 have h:=xW (c:=c) (num:=num) (sub:=sub) y (a.take i) (a.drop i) ps
 rw[List.take_append_drop]at h
 rw[h]
 exact(lJ _ _ _).len
theorem Dm(ks:List bf)(ps:List bO):ps.length<=(dq c num ps ks).1.length:=(pM _ _).len
theorem UC(y:bf)(a:List Nd)(ps:List bO):ps.length<=(dj c num sub y ps a).1.length:=(lJ _ _ _).len
def jJ(a:List Nat)(l:List Nat):List Nat:=l.foldl (λa x=>if x∈a then a else a++[x]) a
theorem rZ(a l m:List Nat):jJ a (l++m)=jJ (jJ a l) m:=List.foldl_append
theorem B9(a:List Nat)(x:Nat):jJ a [x]=if x∈a then a else a++[x]:=rfl
theorem So{l:List Nat}{i x:Nat}(h:l[i]? =some x)(a:List Nat):jJ a (l.take (i+1))=if x∈jJ a (l.take i)then jJ a (l.take i)else jJ a (l.take i)++[x]:=by
 rw[show l.take (i+1)=l.take i++[x] by rw[adG,h];rfl,rZ,B9]
theorem B8{l:List Nat}{n:Nat}(h:∀x∈l,x<n):(jJ [] l).length<=n:=A0 h
theorem Bh{ps:List bO}{i:Nat}{p:bO}(a:ps[i]? =some p):eL c num sub ps i=((dj c num sub p.k ps p.nodes).1.set i {p with fG:=if p.found then iA c sub p.k else [],leads:=(dj c num sub p.k ps p.nodes).2},kJ (dj c num sub p.k ps p.nodes).2.flatten):=by unfold eL;rw[a]
theorem Bl(i:Nat):opened c num sub k (i+1)=((eL c num sub (opened c num sub k i).1 i).1,(opened c num sub k i).2+(eL c num sub (opened c num sub k i).1 i).2):=rfl
end
abbrev dA:Type:=Nat×Nat
def mv(x y:dA):Bool:=decide (x.1<y.1)||(decide (x.1=y.1)&&decide (x.2<y.2))
theorem Al{x y:dA}:mv x y=true↔x.1<y.1\/(x.1=y.1/\x.2<y.2):=by
 unfold mv
 simp only[Bool.or_eq_true,Bool.and_eq_true,decide_eq_true_eq]
theorem vP{x y:dA}:mv x y=false↔y.1<x.1\/(x.1=y.1/\y.2<=x.2):=by
 rw[Bool.eq_false_iff,ne_eq,Al]
 omega
theorem vQ:SO mv:=⟨λx=>by rw[vP];omega,λx y z a b=>by rw[Al]at *;omega,λx y z a b=>by rw[vP]at *;omega⟩
def items(ps:List bO)(q:List Bool):List dA:=(jH q).map λi=>(gb ps i,i)
theorem tM(q:List Bool):(jH q).Nodup:=List.Pairwise.filter _ List.nodup_range
theorem uQ{q:List Bool}{i:Nat}{b:Bool}(h:q.getD i false=b)(a:i<q.length):q.set i b=q:=by
 refine adK λj=>?_
 rw[adR]
 split
 ·rename_i e
  subst e
  rw[adD,aZ a,adF]at h
  simp[a,h]
 ·rfl
theorem QZ{q:List Bool}{i:Nat}(f:i<q.length)(h:q.getD i false=false):(jH q++[i]).Perm (jH (q.set i true)):=by
 refine(List.perm_ext_iff_of_nodup ?_ (tM _)).2 λx=>?_
 ·rw[List.nodup_append]
  refine⟨tM q,by simp,λa d b c=>?_⟩
  rw[adJ]at c
  subst c
  intro e
  subst e
  rw[gd.1 d]at h
  cases h
 ·rw[List.mem_append,adJ,gd,gd,pP _ _ _ _ f]
  by_cases e:i=x
  ·subst e;simp
  ·rw[adB e]
   exact⟨λh=>h.elim id λh=>absurd h.symm e,.inl⟩
theorem QY{q:List Bool}{i:Nat}(h:q.getD i false=true)(a:i<q.length):(jH q).Perm (i::jH (q.set i false)):=by
 refine(List.perm_ext_iff_of_nodup (tM _) ?_).2 λx=>?_
 ·rw[List.nodup_cons]
  refine⟨λb=>?_,tM _⟩
  have:=gd.1 b
  rw[pP _ _ _ _ a,adC rfl]at this
  cases this
 ·rw[adQ,gd,gd,pP _ _ _ _ a]
  by_cases e:i=x
  ·subst e;rw[h];simp
  ·rw[adB e]
   exact⟨.inr,λh=>h.elim (λh=>absurd h.symm e) id⟩
theorem Pf{ps:List bO}{q:List Bool}{i:Nat}(a:i<q.length)(h:q.getD i false=false):(items ps q++[(gb ps i,i)]).Perm (items ps (q.set i true)):=by
 have:=(QZ a h).map λi=>(gb ps i,i)
 rw[List.map_append]at this
 exact this
theorem Ad{ps:List bO}{q:List Bool}{L:List dA}(c:L.Perm (items ps q))(f:fJ mv L L.length){x:dA}(d:L[0]? =some x):mN ps q x.2/\x.1=gb ps x.2/\x.2<q.length:=by
 have n:x∈items ps q:=c.mem_iff.1 (ba d)
 obtain⟨i,a,rfl⟩:=adP.1 n
 have m:i<q.length:=by
  unfold jH at a
  exact adL.1 (adH.1 a).1
 refine⟨⟨gd.1 a,λj g=>?_⟩,rfl,m⟩
 have h:(gb ps j,j)∈L:=c.mem_iff.2 (adP.2 ⟨j,gd.2 g,rfl⟩)
 obtain⟨k,l,e⟩:=adE.1 h
 have b:=fJ.least vQ f d k _ (aZ l)
 rw[e,vP]at b
 simp only at b⊢
 omega
theorem Pc{ps:List bO}{q:List Bool}{L a:List dA}(e:L.Perm (items ps q)){i:Nat}(d:i<q.length)(f:q.getD i false=true)(c:L.Perm ((gb ps i,i)::a)):a.Perm (items ps (q.set i false)):=by
 have b:=(QY f d).map λi=>(gb ps i,i)
 rw[List.map_cons]at b
 exact(List.Perm.cons_inv ((c.symm.trans e).trans b))
theorem Pe{ps:List bO}{q:List Bool}{L:List dA}(a:L.Perm (items ps q))(h:L=[]):iM q:=λi=>by
 cases hq:q.getD i false with
 |false=>rfl
 |true=>
  have:(gb ps i,i)∈L:=a.mem_iff.2 (adP.2 ⟨i,gd.2 hq,rfl⟩)
  rw[h]at this
  cases this
theorem Pd{ps:List bO}{q:List Bool}{L:List dA}(a:L.Perm (items ps q)):L.length<=q.length:=by
 rw[a.length_eq]
 unfold items jH
 rw[List.length_map]
 exact Nat.le_trans (List.length_filter_le _ _) (by simp)
def mi(ps:List bO)(n j:Nat):List Nat:=(List.range n).filter λi=>((ps[i]?).map λp=>decide (j∈p.leads.flatten)).getD false
theorem Dy(ps:List bO)(j:Nat):mi ps ps.length j=fN ps j:=rfl
theorem DA{ps:List bO}{i:Nat}{p:bO}(h:ps[i]? =some p)(j:Nat):mi ps (i+1) j=mi ps i j++if j∈p.leads.flatten then [i]else []:=by
 unfold mi
 rw[List.range_succ,List.filter_append]
 congr 1
 simp only[List.filter_cons,List.filter_nil,h,adM,adF]
 by_cases a:j∈p.leads.flatten
 ·rw[adC a,adC (decide_eq_true a)]
 ·rw[adB a,adB (by simpa using a)]
theorem Dz{ps:List bO}{i j x:Nat}(h:x∈mi ps i j):x<i:=by
 unfold mi at h
 exact adL.1 (adH.1 h).1
def gW(ps:List bO)(i:Nat)(seen:List Nat)(j:Nat):List Nat:=mi ps i j++if j∈seen then [i]else []
theorem DK(ps:List bO)(i:Nat)(a:List Nat)(j:Nat):((gW ps i a j).getLast? =some i)↔j∈a:=by
 unfold gW
 by_cases h:j∈a
 ·rw[adC h];simp[h]
 ·rw[adB h,List.append_nil]
  constructor
  ·intro c
   have d:=List.mem_of_getLast? c
   exact absurd (Dz d) (Nat.lt_irrefl _)
  ·exact λb=>absurd b h
theorem DM(ps:List bO)(i:Nat)(b:List Nat)(c j:Nat):gW ps i (b++[c]) j=if j=c/\¬c∈b then gW ps i b j++[i]else gW ps i b j:=by
 unfold gW
 by_cases d:j=c
 ·subst d
  by_cases a:j∈b
  ·rw[adC (by simp),adB (by simp[a]),adC a]
  ·rw[adC (by simp),adC ⟨rfl,a⟩,adB a,List.append_nil]
 ·rw[adB (λh:j=c/\¬c∈b=>d h.1)]
  by_cases a:j∈b
  ·rw[adC (List.mem_append_left _ a),adC a]
  ·rw[adB (λh=>(List.mem_append.1 h).elim a λh=>d (adJ.1 h)),adB a]
theorem DJ{ps:List bO}{i:Nat}{p:bO}(h:ps[i]? =some p)(j:Nat):gW ps i p.leads.flatten j=gW ps (i+1) [] j:=by
 unfold gW
 rw[DA h]
 simp
theorem PR{α:Type}{l:List α}{i:Nat}{x:α}(h:l[i]? =some x)(y:α):y∈l.take (i+1)↔y∈l.take i\/y=x:=by
 rw[adG,h];simp
theorem SK(v:Value)(l:List ByteArray)(s:ByteArray)(R:ay)(h:RS R 1 cr v l):
  Spec prog 191 [v,.string s] R [] λu H'=>(∃k:Int,u=.int .i64 k/\(0<=k↔s∈l))/\H'=[]:=by
 have m:=h.le
 refine Spec.body func191 rfl results191 ntmps191 rfl<|.sr<|.ag rfl<|.zs<|.sr<|.mo rfl<|.q (.bI h)<|.mo rfl<|.zn<|.block<|.loop (X:=Nat) (λi=>i<=l.length/\s∉l.take i) (λi=>[(0,v),(1,.string s),(7,.int .i64 l.length),(8,iN i)]) (λ_=>[]) (λi=>l.length-i) 0 ⟨by omega,by simp⟩ kE.c.c.c.c rH ?_
 rintro i ⟨j,e⟩
 refine .sr<|.q .lss<|.zs<|.cond rfl (λb=>?_) λb=>?_
 have g:i<l.length:=by simp at b;omega
 obtain⟨z,f⟩:=bQ g
 refine .kn<|.seq<|.block<|.sr<|.mo rfl<|.ag rfl<|.z<|.mo rfl<|.mo rfl<|.mo rfl ?_
 refine .bC i h f (λo=>?_)
 refine .lo rfl<|.q .dF<|.zn<|.cond rfl (λa=>?_) λa=>?_
 refine .sr<|.mo rfl<|.az rfl<|.ret (bw (aJ (cG (bw (aJ (aP rfl ?_))))))
 ·have d:s=z:=by simpa using a
  exact⟨⟨_,rfl,by rw[d];simp[ba f]⟩,rfl⟩
 refine .skip<|aS<|au<|.region<|.q (.inc (n:=i) (by omega))<|.mo rfl<|.nil ?_
 ·exact bd (i+1) ⟨by omega,by rw[PR f];simp at a;simp[e,a]⟩ (by omega) kE.c.c.c.c rH
 refine .exit<|bo<|bq<|bp<|au<|.sr<|.az rfl<|.ret (aP rfl ?_)
 ·have d:i=l.length:=by simp at b;omega
  rw[d,List.take_length]at e
  exact⟨⟨_,rfl,by simp[e]⟩,rfl⟩
theorem Sm(v:Value)(l:List ByteArray)(s:ByteArray)(R:ay)(h:RS R 1 cr v l):
  Spec prog 150 [v,.string s] R [] λu H'=>u=.bool (decide (s∈l))/\H'=[]:=by
 refine Spec.body func150 rfl results150 ntmps150 rfl<|.sr<|.ag rfl<|.z<|.mo rfl<|.mo rfl<|.aX (SK v l s _ h.rx) (λu b=>?_)
 obtain⟨k,rfl,a⟩:=b
 refine .q .geq<|.az rfl<|.ret (aP rfl ?_)
 ·exact⟨by simp only[a],rfl⟩
theorem gj.eC:gj ⟨[],0,0⟩:=⟨by simp,by simp,by simp,by simp,by simp,by simp⟩
inductive J where
 |mk (kind:Int) (b:Bool) (n:Int) (text:ByteArray) (list:List J) (keys:List ByteArray)
inductive sx(R:ay):List Value->J->Prop
 |mk {kind:Int} {b:Bool} {n:Int} {text:ByteArray} {vl vk:Value} {l:List (List Value×J)} {keys:List ByteArray} (hl:RS R 6 (λp:List Value×J=>p.1) vl l) (hk:RS R 1 cr vk keys) (h:∀p∈l,sx R p.1 p.2):
  sx R [.int .i64 kind,.bool b,.int .i64 n,.string text,vl,vk] (.mk kind b n text (l.map (·.2)) keys)
theorem Sd(v w:Value)(l m:List ByteArray)(R:ay)(h:RS R 1 cr v l)(k:RS R 1 cr w m):
  Spec prog 52 [v,w] R [] λu H'=>u=.bool (decide (l=m))/\H'=[]:=by
 have t:=h.le
 refine Spec.body func52 rfl results52 ntmps52 rfl<|.sr<|.ag rfl<|.zs<|.sr<|.mo rfl<|.q (.bI h)<|.mo rfl<|.q (.bI k)<|.q .eh<|.zn<|.cond rfl (λb=>?_) λb=>?_
 refine .sr<|.az rfl<|.ret (aJ (aP rfl ?_))
 ·exact⟨by rw[decide_eq_false (λe:l=m=>by simp[e]at b)],rfl⟩
 have x:l.length=m.length:=by simp at b;omega
 refine .kn<|.seq<|.sr<|.az rfl<|.block<|.loop (X:=Nat) (λi=>i<=l.length/\l.take i=m.take i) (λi=>[(0,v),(1,w),(5,iN i)]) (λ_=>[]) (λi=>l.length-i) 0 ⟨by omega,by simp⟩ kE.c.c.c rH ?_
 rintro i ⟨s,g⟩
 refine .seq<|.sr<|.mo rfl<|.mo rfl<|.q (.bI h)<|.q .lss<|.zn<|.cond rfl (λd=>?_) λd=>?_
 have p:i<l.length:=by simp at d;omega
 obtain⟨z,a⟩:=bQ p
 obtain⟨y,j⟩:∃y,m[i]? =some y:=⟨_,aZ (by omega)⟩
 refine .kn<|.seq<|.block<|.seq<|.fS mixed (by kernel_rfl)<|.mo rfl<|.mo rfl ?_
 refine .bC i h a (λB=>?_)
 refine .lo rfl<|.mo rfl<|.mo rfl ?_
 refine .bC i k j (λA=>?_)
 refine .lo rfl<|.q .fP<|.zn<|.cond rfl (λf=>?_) λf=>?_
 refine .sr<|.az rfl<|.ret (bw (aJ (cG (bw (aJ (aP rfl ?_))))))
 ·refine⟨?_,rfl⟩
  have r:z≠y:=by simpa using f
  rw[decide_eq_false (λe:l=m=>r (by rw[e,j]at a;cases a;rfl))]
 refine .skip<|aS<|au<|.region<|.mo rfl<|.q (.inc (n:=i) (by omega))<|.ag rfl<|.nil ?_
 ·exact bd (i+1) ⟨by omega,by
   have e:z=y:=by simpa using f
   rw[adG,adG,g,a,j,e]⟩ (by omega) kE.c.c.c rH
 refine .exit<|bo<|bq<|bp<|au<|.sr<|.az rfl<|.ret (aP rfl ?_)
 ·refine⟨?_,rfl⟩
  have o:i=l.length:=by simp at d;omega
  rw[o,List.take_length,List.take_of_length_le (by omega)]at g
  rw[decide_eq_true g]
end Go.Proofs.YtdljmchhecoakaaGreat

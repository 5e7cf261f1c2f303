/- What the law 'SolveA' uses. No condition. -/
import Derived.Test.YtdljmchhecoakaaGreatKSolveAF
import Derived.Test.YtdljmchhecoakaaGreatKSolveAI
import Derived.Test.YtdljmchhecoakaaGreatKSolveAQ
namespace Go.Proofs.YtdljmchhecoakaaGreat
open Tryz (prog)
set_option linter.unusedVariables false
set_option linter.unusedSimpArgs false
set_option maxRecDepth 4000
def gk(l:List aF):Nat:=l.foldl (λa p=>if a<p.number then p.number else a) 0
theorem AF:∀(l:List aF) (a:Nat),a<=l.foldl (λa p=>if a<p.number then p.number else a) a/\∀p∈l,p.number<=l.foldl (λa p=>if a<p.number then p.number else a) a
 |[],a=>⟨Nat.le_refl _,λp hp=>(by cases hp)⟩
 |x::l,a=>by
  obtain⟨b,c⟩:=AF l (if a<x.number then x.number else a)
  rw[List.foldl_cons]
  refine⟨?_,λp hp=>?_⟩
  ·refine Nat.le_trans ?_ b
   split<;>omega
  ·rcases List.mem_cons.1 hp with rfl|hp
   ·refine Nat.le_trans ?_ b
    split<;>omega
   ·exact c p hp
theorem AG{B:Nat}:∀(l:List aF) (a:Nat),a<=B->(∀p∈l,p.number<=B)->l.foldl (λa p=>if a<p.number then p.number else a) a<=B
 |[],a,h,_=>h
 |x::l,a,h,h2=>by
  rw[List.foldl_cons]
  refine AG l _ ?_ λp b=>h2 p (List.mem_cons_of_mem _ b)
  have:=h2 x List.mem_cons_self
  split<;>omega
theorem BM(V:Value)(e:Nat)(us:ByteArray)(ps:List aF)(R:aD)(w:RS R 8 aF.enc V ps)(a7:∀p∈ps,p.is R)(N:mi ps us)(b3:∀p∈ps,p.found=true->0<p.nodes.length)(c1:∀p∈ps,p.number<=1000000):
    Spec prog 41 [.agg [V,iN e].toArray,.string us] R [] λu H'=>∃T,H'=[T]/\OS 4 1 dH u (oC (eX (ps.map aF.plain) us) (gk ps)) T:=by
  have d9:=w.ap
  have d0:=N.n
  have c0:=N.ll
  have b7:=N.jl
  have c5:=N.tr
  have c2:=N.nl
  have c9:=w.le
  have d1:gk ps<=1000000:=AG ps 0 (Nat.zero_le _) c1
  have Q:(eX (ps.map aF.plain) us).n=ps.length:=by show(ps.map aF.plain).length=_;rw[List.length_map]
  have H:∀(k i:Nat) (v:List Bool) (p:aF),ps[i]? =some p->gV (eX (ps.map aF.plain) us) k v i=if p.found&&decide (p.number=k)&& !v.getD i false&&dm p.plain us (λj=>v.getD j false) p.nodes.length then v.set i true else v:=λk i v p s=>by
    have c3:(ps.map aF.plain)[i]? =some p.plain:=by rw[List.getElem?_map,s];rfl
    unfold gV eX
    simp only[c3,Option.map_some,Option.getD_some]
    rfl
  obtain⟨G,hG⟩:∃G,G=eX (ps.map aF.plain) us:=⟨_,rfl⟩
  rw[<-hG]at Q H⊢
  have b0:oC G (gk ps)=kk G (gk ps+1) 0 (List.replicate ps.length false):=by unfold oC;rw[Q]
  rw[b0]
  obtain⟨a0,a2⟩:∃a0,a0=kk G (gk ps+1) 0 (List.replicate ps.length false):=⟨_,rfl⟩
  rw[<-a2]
  refine Spec.body Tryz.func41 rfl Tryz.results41 Tryz.ntmps41 rfl ?_
  refine .sr ?_
  refine .bW rfl (λb2=>?_)
  refine .ag rfl<|.z<|.fa rfl<|.lo rfl<|.q (.bJ w) ?_
  refine .makeSlice (enc:=dH) ps.length false rfl rfl (by decide) (by simp[dH,ap]) rfl rfl (by omega) (by omega) (λW T5 a6=>?_)
  refine .ag rfl<|.z<|.ag rfl<|.zs<|.sr<|.az rfl<|.block ?_
  refine .cx [(1,_),(2,_),(5,_)] (X:=Nat) (λi=>i<=ps.length) (λi E=>(7,iN i)::(6,.int .i64 (gk (ps.take i):Nat))::E) (λ_ G=>G) (λi=>ps.length-i) 0 (Nat.zero_le _) kE.c.c.c.c.c rH ?_
  rintro i hi
  refine .seq<|.sr<|.mo rfl<|.fa rfl<|.lo rfl<|.q (.bJ w) ?_
  refine .q .lss<|.zn ?_
  refine .cond rfl (λY=>?_) λY=>?_
  have A:i<ps.length:=cr Y
  obtain⟨p,s⟩:=bR A
  have L:gk (ps.take (i+1))=if gk (ps.take i)<p.number then p.number else gk (ps.take i):=by
    unfold gk
    rw[dT s,List.foldl_append]
    rfl
  obtain⟨k0,fo,vn,e0,vu,e6,vl,ll,S⟩:=p
  simp only at L
  refine .kn<|.seq<|.block<|.sr<|.fa rfl<|.lo rfl<|.mo rfl ?_
  refine .bC i w s (λe1=>?_)
  refine .fa rfl<|.lo rfl<|.mo rfl<|.q .gtr<|.zn ?_
  refine bx.cL [(1,_),(2,_),(5,_),(7,_)] kE.c.c.c.c (X:=Unit) (λ_=>True) (λ_ E=>(6,.int .i64 (gk (ps.take (i+1)):Nat))::E) (λ_=>[T5,bl b2 [V,iN e] 86]) ?_ ?_
  refine .cond rfl (λI=>?_) λI=>?_
  refine .region<|.fa rfl<|.lo rfl<|.mo rfl ?_
  refine .bC i w s (λe2=>?_)
  refine .fa rfl<|.lo rfl<|.ag rfl<|.nil ?_
  ·first
      |exact ay () trivial (kE.c.c.c.c.jG rfl (by have J:(S:Int)>(gk (ps.take i):Nat):=cm I;rw[L,if_pos (by omega)])) rH
      |exact ay () trivial (kE.c.c.c.c.jG rfl (by have J:¬(S:Int)>(gk (ps.take i):Nat):=bA I;rw[L,if_neg (by omega)])) rH
  refine .skip ?_
  ·first
      |exact ay () trivial (kE.c.c.c.c.jG rfl (by have J:(S:Int)>(gk (ps.take i):Nat):=cm I;rw[L,if_pos (by omega)])) rH
      |exact ay () trivial (kE.c.c.c.c.jG rfl (by have J:¬(S:Int)>(gk (ps.take i):Nat):=bA I;rw[L,if_neg (by omega)])) rH
  intro x hx
  refine bf<|ax<|.region<|.mo rfl ?_
  refine .ia (i+1) .add ?_
  refine .ag rfl<|.nil ?_
  ·exact aP (i+1) A (by omega) kE.c.c.c.c.c rH
  rw[dx (gj Y)]
  refine .exit<|bq<|bz<|bs<|ax<|.seq<|.sr<|.az rfl<|.block ?_
  refine .cx [(1,_),(2,_),(5,_),(6,_)] (X:=Nat×List Bool×aB) (λy=>y.1<=gk ps+1/\OS 4 1 dH (.slice (some ⟨W,0,none⟩) ps.length ps.length) y.2.1 y.2.2/\y.2.1.length=ps.length/\kk G (gk ps+1-y.1) y.1 y.2.1=a0) (λy E=>(8,iN y.1)::E) (λy G=>y.2.2::G) (λy=>gk ps+1-y.1) (0,List.replicate ps.length false,T5) ⟨Nat.zero_le _,a6,by simp,a2.symm⟩ kE.c.c.c.c.c rH ?_
  rintro⟨k,v,T⟩ ⟨hk,f,h,B⟩
  simp only at hk f h B⊢
  refine .seq<|.sr<|.mo rfl<|.mo rfl<|.q .leq<|.zn ?_
  refine .cond rfl (λZ=>?_) λZ=>?_
  have c8:k<=gk ps:=by have:=cm Z;omega
  rw[show gk ps+1-k=(gk ps-k)+1 by omega,kk,Q]at B
  obtain⟨vr,a4⟩:∃vr,vr=fD G k (ps.length+1) v:=⟨_,rfl⟩
  rw[<-a4]at B
  refine .kn<|.seq<|.block<|.sr<|.az rfl<|.block ?_
  refine .cx [(1,_),(2,_),(5,_),(6,_),(8,_)] (X:=Nat×List Bool×aB) (λy=>y.1<=ps.length+1/\OS 4 1 dH (.slice (some ⟨W,0,none⟩) ps.length ps.length) y.2.1 y.2.2/\y.2.1.length=ps.length/\fD G k (ps.length+1-y.1) y.2.1=vr) (λy E=>(9,iN y.1)::E) (λy G=>y.2.2::G) (λy=>ps.length+1-y.1) (0,v,T) ⟨Nat.zero_le _,f,h,a4.symm⟩ kE.c.c.c.c.c.c rH ?_
  rintro⟨r,v,T⟩ ⟨hr,f,h,C⟩
  simp only at hr f h C⊢
  refine .seq<|.sr<|.mo rfl<|.fa rfl<|.lo rfl<|.q (.bJ w) ?_
  refine .q .leq<|.zn ?_
  refine .cond rfl (λh4=>?_) λh4=>?_
  have d4:r<=ps.length:=by have:=cm h4;omega
  rw[show ps.length+1-r=(ps.length-r)+1 by omega,fD]at C
  obtain⟨U,a3⟩:∃U,U=mP G k v:=⟨_,rfl⟩
  rw[<-a3]at C
  have c7:(List.range' 0 ps.length).foldl (gV G k) v=U:=by rw[a3];unfold mP;rw[Q]
  refine .kn<|.seq<|.block<|.sr<|.az rfl<|.block ?_
  refine .cx [(1,_),(2,_),(5,_),(6,_),(8,_),(9,_)] (X:=Nat×List Bool×aB) (λy=>y.1<=ps.length/\OS 4 1 dH (.slice (some ⟨W,0,none⟩) ps.length ps.length) y.2.1 y.2.2/\y.2.1.length=ps.length/\(List.range' y.1 (ps.length-y.1)).foldl (gV G k) y.2.1=U) (λy E=>(10,iN y.1)::E) (λy G=>y.2.2::G) (λy=>ps.length-y.1) (0,v,T) ⟨Nat.zero_le _,f,h,c7⟩ kE.c.c.c.c.c.c.c rH ?_
  rintro⟨i,v,T⟩ ⟨hi,f,h,d⟩
  simp only at hi f h d⊢
  refine .seq<|.sr<|.mo rfl<|.fa rfl<|.lo rfl<|.q (.bJ w) ?_
  refine .q .lss<|.zn ?_
  refine .cond rfl (λh5=>?_) λh5=>?_
  have A:i<ps.length:=cr h5
  obtain⟨p,s⟩:=bR A
  have F:=aZ s
  have O:=a7 p F
  have d8:bZ p.enc:=⟨O.cJ⟩
  rw[show ps.length-i=(ps.length-(i+1))+1 by omega,List.range'_succ,List.foldl_cons,H k i v p s]at d
  obtain⟨b,D⟩:∃b,v[i]? =some b:=⟨_,bu (by omega)⟩
  have c6:v.getD i false=b:=by rw[List.getD_eq_getElem?_getD,D];rfl
  rw[c6]at d
  have b4:=b3 p F
  have d3:=c2 p F
  have M:=λ(R':aD) (vv:Value)=>Bx us p vv v (c0 p F) (λq hq j hj=>by rw[h];exact b7 p F q hq j hj) (c5 p F)
  have n0:=O.n
  have d5:=n0.ap
  have d6:=O.u.ap
  have d7:=O.l.rs.ap
  obtain⟨c,K⟩:∃c,c=(p.found&&decide (p.number=k)&& !b&&dm p.plain us (λj=>v.getD j false) p.nodes.length):=⟨_,rfl⟩
  rw[<-K]at d
  refine .kn<|.seq<|.block<|.sr<|.fa rfl<|.lo rfl<|.mo rfl ?_
  refine .bC i w s (λe3=>?_)
  refine .q (.aL rfl) ?_
  refine .bN (λa5=>?_)
  refine .bH rfl rfl<|.zs ?_
  refine bx.cL [(1,_),(2,_),(5,_),(6,_),(8,_),(9,_),(10,_)] kE.c.c.c.c.c.c.c (X:=Unit) (λ_=>True) (λ_ E=>(85,.bool c)::E) (λ_=>[bl a5 p.enc 93,T,bl b2 [V,iN e] 86]) ?_ ?_
  refine .region<|.fa rfl<|.lo rfl<|.mo rfl ?_
  refine .split (t:=63) rfl (λm=>?_) (λm=>?_)
  refine .gT m<|.fa rfl<|.gT m<|.lo rfl<|.gT m<|.mo rfl<|.gT m<|.q .bK<|.q (.aO m) ?_
  refine .mo rfl ?_
  refine .split (t:=69) rfl (λg=>?_) (λg=>?_)
  have b9:p.number=k:=by
    have J:(p.number:Int)=(k:Nat):=by simpa using g
    omega
  refine .gT g<|.mo rfl<|.gT g<|.mo rfl<|.gT g ?_
  refine .bo i f D (λe4=>?_)
  refine .gT g<|.lo rfl<|.gT g<|.q .not<|.q (.aO g) ?_
  refine .mo rfl ?_
  refine .split (t:=76) rfl (λa=>?_) (λa=>?_)
  have b1:p.found=true:=by
    cases hpf:p.found with
    |true=>rfl
    |false=>simp_all
  have d2:=b4 b1
  refine .gT a<|.q (.aL rfl)<|.gT a<|.fa rfl<|.gT a<|.lo rfl<|.gT a<|.q (.bJ n0) ?_
  refine .gT a ?_
  refine .ia (p.nodes.length-1) .sub ?_
  refine .gT a<|.mo rfl<|.gT a<|.mo rfl<|.gT a ?_
  refine .ba ((M (λb o=>True) _ (p.nodes.length-1) (by omega) _ (O.mono λb o D=>.inl D) (f.sg.nt))) (λu hu=>?_)
  subst hu
  rw[show p.nodes.length-1+1=p.nodes.length by omega]
  refine .q (.aO a) ?_
  refine .nil ?_
  ·exact ay () trivial (kE.c.c.c.c.c.c.c.bP rfl (by rw[K];clear M H d;simp_all)) rH
  refine .gF a<|.gF a<|.gF a<|.gF a<|.gF a<|.gF a<|.gF a<|.gF a<|.q (.aN a) ?_
  refine .nil ?_
  ·exact ay () trivial (kE.c.c.c.c.c.c.c.bP rfl (by rw[K];clear M H d;simp_all)) rH
  have b9:¬p.number=k\/p.found=false:=by
    first
      |(right;simpa using m;done)
      |(left
        have J:¬(p.number:Int)=(k:Nat):=by simpa using g
        omega)
  refine .gF g<|.gF g<|.gF g<|.gF g<|.gF g<|.q (.aN g) ?_
  refine .mo rfl<|.gX<|.gX<|.gX<|.gX<|.gX<|.gX<|.gX<|.gX<|.q .cT<|.nil ?_
  ·exact ay () trivial (kE.c.c.c.c.c.c.c.bP rfl (by rw[K];clear M H d;simp_all)) rH
  refine .gF m<|.gF m<|.gF m<|.gF m<|.q (.aN m) ?_
  refine .mo rfl<|.gX<|.gX<|.gX<|.gX<|.gX<|.q .cT<|.mo rfl<|.gX<|.gX<|.gX<|.gX<|.gX<|.gX<|.gX<|.gX<|.q .cT<|.nil ?_
  ·exact ay () trivial (kE.c.c.c.c.c.c.c.bP rfl (by rw[K];clear M H d;simp_all)) rH
  intro y hy
  refine ax ?_
  refine .cond rfl (λh6=>?_) λh6=>?_
  have a9:c=true:=h6
  rw[a9]at d
  simp only[if_true]at d
  refine .region<|.mo rfl<|.mo rfl ?_
  refine .bo i f D (λe5=>?_)
  refine .gz i f D true (λTn a1=>?_)
  refine .nil<|bf<|ax<|.region<|.mo rfl ?_
  refine .ia (i+1) .add ?_
  refine .ag rfl<|.nil ?_
  ·first
      |exact aP (i+1,v.set i true,Tn) ⟨A,a1,by simp[h],d⟩ (by simp only;omega) kE.c.c.c.c.c.c.c (aH [1,1])
      |exact aP (i+1,v,T) ⟨A,f,h,d⟩ (by simp only;omega) kE.c.c.c.c.c.c.c (aH [1,1])
  have a8:c=false:=h6
  rw[a8]at d
  simp only[Bool.false_eq_true,if_false]at d
  refine .skip<|bf<|ax<|.region<|.mo rfl ?_
  refine .ia (i+1) .add ?_
  refine .ag rfl<|.nil ?_
  ·first
      |exact aP (i+1,v.set i true,Tn) ⟨A,a1,by simp[h],d⟩ (by simp only;omega) kE.c.c.c.c.c.c.c (aH [1,1])
      |exact aP (i+1,v,T) ⟨A,f,h,d⟩ (by simp only;omega) kE.c.c.c.c.c.c.c (aH [1,1])
  have b6:ps.length-i=0:=by have:=bA h5;omega
  rw[b6,List.range'_zero,List.foldl_nil]at d
  subst d
  refine .exit<|bq<|bz<|bs<|bf<|ax<|.region<|.mo rfl ?_
  refine .ia (r+1) .add ?_
  refine .ag rfl<|.nil ?_
  ·exact aP (r+1,v,T) ⟨by omega,f,h,by simp only;rw[show ps.length+1-(r+1)=ps.length-r by omega];exact C⟩ (by simp only;omega) kE.c.c.c.c.c.c rH
  have c4:ps.length+1-r=0:=by have:=bA h4;omega
  rw[c4,fD]at C
  subst C
  refine .exit<|bq<|bz<|bs<|bf<|ax<|.region<|.mo rfl ?_
  refine .ia (k+1) .add ?_
  refine .ag rfl<|.nil ?_
  ·exact aP (k+1,v,T) ⟨by omega,f,h,by simp only;rw[show gk ps+1-(k+1)=gk ps-k by omega];exact B⟩ (by simp only;omega) kE.c.c.c.c.c rH
  have b8:gk ps+1-k=0:=by have:=bA Z;omega
  rw[b8,kk]at B
  refine .exit<|bq<|bz<|bs<|ax<|.sr<|.mo rfl<|.az rfl ?_
  refine .ret (bk _ (.one (.tmp rfl)) (aH [0]) ?_)
  ·exact⟨T,rfl,by rw[<-B];exact f⟩
end Go.Proofs.YtdljmchhecoakaaGreat

/- What the law 'LookupFinds' uses. No condition. -/
import Derived.Test.YtdljmchhecoakaaGreatKLookupFindsE
import Derived.Test.YtdljmchhecoakaaGreatKLookupFindsF
import Derived.Test.YtdljmchhecoakaaGreatKLookupFindsI
import Derived.Test.YtdljmchhecoakaaGreatKLookupFindsM
import Derived.Test.YtdljmchhecoakaaGreatKLookupFindsS
namespace Go.Proofs.YtdljmchhecoakaaGreat
set_option linter.defProp false
def ahd:=@trivial
def ahe:=@Nat.zero_le
open Tryz
set_option linter.unusedVariables false
set_option linter.unusedSimpArgs false
set_option maxRecDepth 4000
def fZ(l:List aH):Nat:=l.foldl (λa p=>if a<p.number then p.number else a) 0
theorem AT:∀(l:List aH) (a:Nat),a<=l.foldl (λa p=>if a<p.number then p.number else a) a/\∀p∈l,p.number<=l.foldl (λa p=>if a<p.number then p.number else a) a
 |[],a=>⟨Nat.le_refl _,λp hp=>(by cases hp)⟩
 |x::l,a=>by
  obtain⟨b,c⟩:=AT l (if a<x.number then x.number else a)
  rw[List.foldl_cons]
  refine⟨?_,λp hp=>?_⟩
  ·refine Nat.le_trans ?_ b
   split<;>omega
  ·rcases List.mem_cons.1 hp with rfl|hp
   ·refine Nat.le_trans ?_ b
    split<;>omega
   ·exact c p hp
theorem AV{B:Nat}:∀(l:List aH) (a:Nat),a<=B->(∀p∈l,p.number<=B)->l.foldl (λa p=>if a<p.number then p.number else a) a<=B
 |[],a,h,_=>h
 |x::l,a,h,h2=>by
  rw[List.foldl_cons]
  refine AV l _ ?_ λp b=>h2 p (List.mem_cons_of_mem _ b)
  have:=h2 x List.mem_cons_self
  split<;>omega
theorem B6(S:Value)(e:Nat)(us:ByteArray)(ps:List aH)(R:ay)(w:RS R 8 aH.enc S ps)(a8:∀p∈ps,p.is R)(M:lG ps us)(b4:∀p∈ps,p.found=true->0<p.nodes.length)(c2:∀p∈ps,p.number<=1000000):
    Spec prog 41 [.agg [S,iN e].toArray,.string us] R [] λu H'=>∃T,H'=[T]/\OS 4 1 dE u (nH (eF (ps.map aH.plain) us) (fZ ps)) T:=by
  have d1:=M.n
  have c1:=M.ll
  have b8:=M.jl
  have c6:=M.tr
  have c3:=M.nl
  have d0:=w.le
  have d2:fZ ps<=1000000:=AV ps 0 (ahe _) c2
  have N:(eF (ps.map aH.plain) us).n=ps.length:=by show(ps.map aH.plain).length=_;rw[List.length_map]
  have F:∀(k i:Nat) (v:List Bool) (p:aH),ps[i]? =some p->gY (eF (ps.map aH.plain) us) k v i=if p.found&&decide (p.number=k)&& !v.getD i false&&di p.plain us (λj=>v.getD j false) p.nodes.length then v.set i true else v:=λk i v p m=>by
    have c4:(ps.map aH.plain)[i]? =some p.plain:=by rw[List.getElem?_map,m];rfl
    unfold gY eF
    simp only[c4,Option.map_some,Option.getD_some]
    rfl
  obtain⟨G,hG⟩:∃G,G=eF (ps.map aH.plain) us:=⟨_,rfl⟩
  rw[<-hG]at N F⊢
  have b1:nH G (fZ ps)=ke G (fZ ps+1) 0 (List.replicate ps.length false):=by unfold nH;rw[N]
  rw[b1]
  obtain⟨a1,a3⟩:∃a1,a1=ke G (fZ ps+1) 0 (List.replicate ps.length false):=⟨_,rfl⟩
  rw[<-a3]
  refine Spec.body func41 rfl results41 ntmps41 rfl ?_
  refine .sr ?_
  refine .cb rfl (λb2=>?_)
  refine .ag rfl<|.z<|.fa rfl<|.lo rfl<|.q (.bI w) ?_
  refine .makeSlice (enc:=dE) ps.length false rfl rfl (by decide) (by simp[dE,aE]) rfl rfl (by omega) (by omega) (λU T5 a7=>?_)
  refine .ag rfl<|.z<|.ag rfl<|.zs<|.sr<|.az rfl<|.block ?_
  refine .cy [(1,_),(2,_),(5,_)] (X:=Nat) (λi=>i<=ps.length) (λi E=>(7,iN i)::(6,.int .i64 (fZ (ps.take i):Nat))::E) (λ_ G=>G) (λi=>ps.length-i) 0 (ahe _) kE.c.c.c.c.c rH ?_
  rintro i hi
  refine .seq<|.sr<|.mo rfl<|.fa rfl<|.lo rfl<|.q (.bI w) ?_
  refine .q .lss<|.zn ?_
  refine .cond rfl (λV=>?_) λV=>?_
  have s:i<ps.length:=cg V
  obtain⟨p,m⟩:=bQ s
  have K:fZ (ps.take (i+1))=if fZ (ps.take i)<p.number then p.number else fZ (ps.take i):=by
    unfold fZ
    rw[dS m,List.foldl_append]
    rfl
  obtain⟨k0,fo,vn,d7,vu,e3,vl,ll,O⟩:=p
  simp only at K
  refine .kn<|.seq<|.block<|.sr<|.fa rfl<|.lo rfl<|.mo rfl ?_
  refine .bC i w m (λd8=>?_)
  refine .fa rfl<|.lo rfl<|.mo rfl<|.q .gtr<|.zn ?_
  refine bz.cO [(1,_),(2,_),(5,_),(7,_)] kE.c.c.c.c (X:=Unit) (λ_=>True) (λ_ E=>(6,.int .i64 (fZ (ps.take (i+1)):Nat))::E) (λ_=>[T5,bl b2 [S,iN e] 86]) ?_ ?_
  refine .cond rfl (λH=>?_) λH=>?_
  refine .region<|.fa rfl<|.lo rfl<|.mo rfl ?_
  refine .bC i w m (λd9=>?_)
  refine .fa rfl<|.lo rfl<|.ag rfl<|.nil ?_
  ·first
      |exact aF () ahd (kE.c.c.c.c.kW rfl (by have I:(O:Int)>(fZ (ps.take i):Nat):=bT H;rw[K,if_pos (by omega)])) rH
      |exact aF () ahd (kE.c.c.c.c.kW rfl (by have I:¬(O:Int)>(fZ (ps.take i):Nat):=bA H;rw[K,if_neg (by omega)])) rH
  refine .skip ?_
  ·first
      |exact aF () ahd (kE.c.c.c.c.kW rfl (by have I:(O:Int)>(fZ (ps.take i):Nat):=bT H;rw[K,if_pos (by omega)])) rH
      |exact aF () ahd (kE.c.c.c.c.kW rfl (by have I:¬(O:Int)>(fZ (ps.take i):Nat):=bA H;rw[K,if_neg (by omega)])) rH
  intro x hx
  refine aS<|au<|.region<|.mo rfl ?_
  refine .ia (i+1) .add ?_
  refine .ag rfl<|.nil ?_
  ·exact bd (i+1) s (by omega) kE.c.c.c.c.c rH
  rw[dB (il V)]
  refine .exit<|bo<|bq<|bp<|au<|.seq<|.sr<|.az rfl<|.block ?_
  refine .cy [(1,_),(2,_),(5,_),(6,_)] (X:=Nat×List Bool×aw) (λy=>y.1<=fZ ps+1/\OS 4 1 dE (.slice (some ⟨U,0,none⟩) ps.length ps.length) y.2.1 y.2.2/\y.2.1.length=ps.length/\ke G (fZ ps+1-y.1) y.1 y.2.1=a1) (λy E=>(8,iN y.1)::E) (λy G=>y.2.2::G) (λy=>fZ ps+1-y.1) (0,List.replicate ps.length false,T5) ⟨ahe _,a7,by simp,a3.symm⟩ kE.c.c.c.c.c rH ?_
  rintro⟨k,v,T⟩ ⟨hk,f,h,A⟩
  simp only at hk f h A⊢
  refine .seq<|.sr<|.mo rfl<|.mo rfl<|.q .leq<|.zn ?_
  refine .cond rfl (λW=>?_) λW=>?_
  have c9:k<=fZ ps:=by have:=bT W;omega
  rw[show fZ ps+1-k=(fZ ps-k)+1 by omega,ke,N]at A
  obtain⟨vr,a5⟩:∃vr,vr=fF G k (ps.length+1) v:=⟨_,rfl⟩
  rw[<-a5]at A
  refine .kn<|.seq<|.block<|.sr<|.az rfl<|.block ?_
  refine .cy [(1,_),(2,_),(5,_),(6,_),(8,_)] (X:=Nat×List Bool×aw) (λy=>y.1<=ps.length+1/\OS 4 1 dE (.slice (some ⟨U,0,none⟩) ps.length ps.length) y.2.1 y.2.2/\y.2.1.length=ps.length/\fF G k (ps.length+1-y.1) y.2.1=vr) (λy E=>(9,iN y.1)::E) (λy G=>y.2.2::G) (λy=>ps.length+1-y.1) (0,v,T) ⟨ahe _,f,h,a5.symm⟩ kE.c.c.c.c.c.c rH ?_
  rintro⟨r,v,T⟩ ⟨hr,f,h,B⟩
  simp only at hr f h B⊢
  refine .seq<|.sr<|.mo rfl<|.fa rfl<|.lo rfl<|.q (.bI w) ?_
  refine .q .leq<|.zn ?_
  refine .cond rfl (λY=>?_) λY=>?_
  have d5:r<=ps.length:=by have:=bT Y;omega
  rw[show ps.length+1-r=(ps.length-r)+1 by omega,fF]at B
  obtain⟨Q,a4⟩:∃Q,Q=mI G k v:=⟨_,rfl⟩
  rw[<-a4]at B
  have c8:(List.range' 0 ps.length).foldl (gY G k) v=Q:=by rw[a4];unfold mI;rw[N]
  refine .kn<|.seq<|.block<|.sr<|.az rfl<|.block ?_
  refine .cy [(1,_),(2,_),(5,_),(6,_),(8,_),(9,_)] (X:=Nat×List Bool×aw) (λy=>y.1<=ps.length/\OS 4 1 dE (.slice (some ⟨U,0,none⟩) ps.length ps.length) y.2.1 y.2.2/\y.2.1.length=ps.length/\(List.range' y.1 (ps.length-y.1)).foldl (gY G k) y.2.1=Q) (λy E=>(10,iN y.1)::E) (λy G=>y.2.2::G) (λy=>ps.length-y.1) (0,v,T) ⟨ahe _,f,h,c8⟩ kE.c.c.c.c.c.c.c rH ?_
  rintro⟨i,v,T⟩ ⟨hi,f,h,d⟩
  simp only at hi f h d⊢
  refine .seq<|.sr<|.mo rfl<|.fa rfl<|.lo rfl<|.q (.bI w) ?_
  refine .q .lss<|.zn ?_
  refine .cond rfl (λZ=>?_) λZ=>?_
  have s:i<ps.length:=cg Z
  obtain⟨p,m⟩:=bQ s
  have D:=ba m
  have a0:=a8 p D
  have d6:cB p.enc:=⟨a0.cV⟩
  rw[show ps.length-i=(ps.length-(i+1))+1 by omega,List.range'_succ,List.foldl_cons,F k i v p m]at d
  obtain⟨b,C⟩:∃b,v[i]? =some b:=⟨_,aZ (by omega)⟩
  have c7:v.getD i false=b:=by rw[List.getD_eq_getElem?_getD,C];rfl
  rw[c7]at d
  have b6:=b4 p D
  have d4:=c3 p D
  have L:=λ(R':ay) (vv:Value)=>RH us p vv v (c1 p D) (λq hq j hj=>by rw[h];exact b8 p D q hq j hj) (c6 p D)
  have n0:=a0.n
  obtain⟨c,J⟩:∃c,c=(p.found&&decide (p.number=k)&& !b&&di p.plain us (λj=>v.getD j false) p.nodes.length):=⟨_,rfl⟩
  rw[<-J]at d
  refine .kn<|.seq<|.block<|.sr<|.fa rfl<|.lo rfl<|.mo rfl ?_
  refine .bC i w m (λe0=>?_)
  refine .q (.aM rfl) ?_
  refine .bX (λa6=>?_)
  refine .bN rfl rfl<|.zs ?_
  refine bz.cO [(1,_),(2,_),(5,_),(6,_),(8,_),(9,_),(10,_)] kE.c.c.c.c.c.c.c (X:=Unit) (λ_=>True) (λ_ E=>(85,.bool c)::E) (λ_=>[bl a6 p.enc 93,T,bl b2 [S,iN e] 86]) ?_ ?_
  refine .region<|.fa rfl<|.lo rfl<|.mo rfl ?_
  refine .split (t:=63) rfl (λl=>?_) (λl=>?_)
  refine .gT l<|.fa rfl<|.gT l<|.lo rfl<|.gT l<|.mo rfl<|.gT l<|.q .bU<|.q (.aT l) ?_
  refine .mo rfl ?_
  refine .split (t:=69) rfl (λg=>?_) (λg=>?_)
  have c0:p.number=k:=by
    have I:(p.number:Int)=(k:Nat):=by simpa using g
    omega
  refine .gT g<|.mo rfl<|.gT g<|.mo rfl<|.gT g ?_
  refine .aK i f C (λe1=>?_)
  refine .gT g<|.lo rfl<|.gT g<|.q .not<|.q (.aT g) ?_
  refine .mo rfl ?_
  refine .split (t:=76) rfl (λa=>?_) (λa=>?_)
  have b3:p.found=true:=by
    cases hpf:p.found with
    |true=>rfl
    |false=>simp_all
  have d3:=b6 b3
  refine .gT a<|.q (.aM rfl)<|.gT a<|.fa rfl<|.gT a<|.lo rfl<|.gT a<|.q (.bI n0) ?_
  refine .gT a ?_
  refine .ia (p.nodes.length-1) .sub ?_
  refine .gT a<|.mo rfl<|.gT a<|.mo rfl<|.gT a ?_
  refine .aX ((L (λb o=>True) _ (p.nodes.length-1) (by omega) _ (a0.mono λb o C=>.inl C) (f.sg.nq))) (λu hu=>?_)
  subst hu
  rw[show p.nodes.length-1+1=p.nodes.length by omega]
  refine .q (.aT a) ?_
  refine .nil ?_
  ·exact aF () ahd (kE.c.c.c.c.c.c.c.bV rfl (by rw[J];clear L F d;simp_all)) rH
  refine .gF a<|.gF a<|.gF a<|.gF a<|.gF a<|.gF a<|.gF a<|.gF a<|.q (.aQ a) ?_
  refine .nil ?_
  ·exact aF () ahd (kE.c.c.c.c.c.c.c.bV rfl (by rw[J];clear L F d;simp_all)) rH
  have c0:¬p.number=k\/p.found=false:=by
    (left
     have I:¬(p.number:Int)=(k:Nat):=by simpa using g
     omega)
  refine .gF g<|.gF g<|.gF g<|.gF g<|.gF g<|.q (.aQ g) ?_
  refine .mo rfl<|.gX<|.gX<|.gX<|.gX<|.gX<|.gX<|.gX<|.gX<|.q .cR<|.nil ?_
  ·exact aF () ahd (kE.c.c.c.c.c.c.c.bV rfl (by rw[J];clear L F d;simp_all)) rH
  refine .gF l<|.gF l<|.gF l<|.gF l<|.q (.aQ l) ?_
  refine .mo rfl<|.gX<|.gX<|.gX<|.gX<|.gX<|.q .cR<|.mo rfl<|.gX<|.gX<|.gX<|.gX<|.gX<|.gX<|.gX<|.gX<|.q .cR<|.nil ?_
  ·exact aF () ahd (kE.c.c.c.c.c.c.c.bV rfl (by rw[J];clear L F d;simp_all)) rH
  intro y hy
  refine au ?_
  refine .cond rfl (λh6=>?_) λh6=>?_
  have b0:c=true:=h6
  rw[b0]at d
  simp only[if_true]at d
  refine .region<|.mo rfl<|.mo rfl ?_
  refine .aK i f C (λe2=>?_)
  refine .du i f C true (λTn a2=>?_)
  refine .nil<|aS<|au<|.region<|.mo rfl ?_
  refine .ia (i+1) .add ?_
  refine .ag rfl<|.nil ?_
  ·first
      |exact bd (i+1,v.set i true,Tn) ⟨s,a2,by simp[h],d⟩ (by simp only;omega) kE.c.c.c.c.c.c.c (aN [1,1])
      |exact bd (i+1,v,T) ⟨s,f,h,d⟩ (by simp only;omega) kE.c.c.c.c.c.c.c (aN [1,1])
  have a9:c=false:=h6
  rw[a9]at d
  simp only[Bool.false_eq_true,if_false]at d
  refine .skip<|aS<|au<|.region<|.mo rfl ?_
  refine .ia (i+1) .add ?_
  refine .ag rfl<|.nil ?_
  ·first
      |exact bd (i+1,v.set i true,Tn) ⟨s,a2,by simp[h],d⟩ (by simp only;omega) kE.c.c.c.c.c.c.c (aN [1,1])
      |exact bd (i+1,v,T) ⟨s,f,h,d⟩ (by simp only;omega) kE.c.c.c.c.c.c.c (aN [1,1])
  have b7:ps.length-i=0:=by have:=bA Z;omega
  rw[b7,List.range'_zero,List.foldl_nil]at d
  subst d
  refine .exit<|bo<|bq<|bp<|aS<|au<|.region<|.mo rfl ?_
  refine .ia (r+1) .add ?_
  refine .ag rfl<|.nil ?_
  ·exact bd (r+1,v,T) ⟨by omega,f,h,by simp only;rw[show ps.length+1-(r+1)=ps.length-r by omega];exact B⟩ (by simp only;omega) kE.c.c.c.c.c.c rH
  have c5:ps.length+1-r=0:=by have:=bA Y;omega
  rw[c5,fF]at B
  subst B
  refine .exit<|bo<|bq<|bp<|aS<|au<|.region<|.mo rfl ?_
  refine .ia (k+1) .add ?_
  refine .ag rfl<|.nil ?_
  ·exact bd (k+1,v,T) ⟨by omega,f,h,by simp only;rw[show fZ ps+1-(k+1)=fZ ps-k by omega];exact A⟩ (by simp only;omega) kE.c.c.c.c.c rH
  have b9:fZ ps+1-k=0:=by have:=bA W;omega
  rw[b9,ke]at A
  refine .exit<|bo<|bq<|bp<|au<|.sr<|.mo rfl<|.az rfl ?_
  refine .ret (aY _ (.one (.tmp rfl)) (aN [0]) ?_)
  ·exact⟨T,rfl,by rw[<-A];exact f⟩
def jb(b:Bool):List Value:=[.int .i64 1,.bool b,.int .i64 0,.string ⟨#[]⟩,sZ,sZ]
theorem sx.oY{R:ay}{cs:List Value}{j:J}(h:sx R cs j):cs.length=6:=by cases h;rfl
end Go.Proofs.YtdljmchhecoakaaGreat

/- What the law 'ExpA' uses. No condition. -/
import Derived.Test.YtdljmchhecoakaaGreatKExpAB
import Derived.Test.YtdljmchhecoakaaGreatKExpAF
import Derived.Test.YtdljmchhecoakaaGreatKExpAH
import Derived.Test.YtdljmchhecoakaaGreatKExpAK
namespace Go.Proofs.YtdljmchhecoakaaGreat
open Tryz (prog)
set_option linter.unusedVariables false
set_option maxRecDepth 4000
theorem xS:∀(f x:Nat),x<2^f->x≠0->2^Lib.bitLenAux f x<=2*x/\x<2^Lib.bitLenAux f x
 |0,x,h,h0=>by simp at h;omega
 |f+1,x,h,h0=>by
  unfold Lib.bitLenAux
  rw[if_neg h0]
  by_cases a:x/2=0
  ·have:x=1:=by omega
   subst this
   have:Lib.bitLenAux f (1/2)=0:=by cases f<;>simp[Lib.bitLenAux]
   rw[this];omega
  ·have b:=xS f (x/2) (by rw[Nat.pow_succ]at h;omega) a
   rw[Nat.add_comm,Nat.pow_succ]
   omega
theorem bitLen_le:∀(f x:Nat),Lib.bitLenAux f x<=f
 |0,x=>by simp[Lib.bitLenAux]
 |f+1,x=>by
  unfold Lib.bitLenAux
  split
  ·omega
  ·have:=bitLen_le f (x/2);omega
theorem u9(n:Nat)(h:n<2^63)(R:aB):Spec prog 167 [.int .u64 n] R [] λv H'=>v=.int .i64 (Lib.bitLen n:Nat)/\H'=[]:=by
 have:=Spec.Az (λw=>Tryz.CG (n:Int) w (by omega) (by omega)) R
 simpa using this
theorem Av(n:Nat)(b:n≠0)(h:n<=1000000000)(R:aB):Spec prog 251 [.int .i64 n] R [] λv H'=>(∃m:Nat,v=.int .u64 m/\n<m/\m<=2*n)/\H'=[]:=by
 have a:=xS 64 n (by omega) b
 have g:=bitLen_le 64 n
 refine Spec.body Tryz.func251 rfl Tryz.results251 Tryz.ntmps251 rfl<|.sr<|.ag rfl<|.z<|.mo rfl<|.q (bB.cast (v':=.int .u64 (n:Nat)) .oa (by rw[oV (by omega) (by omega)]))<|.aY (u9 n (by omega) _) (λv d=>?_)
 subst d
 refine .q (bB.cast (v':=.int .u64 ((2^Lib.bitLen n:Nat):Int)) (.wN) (by
  have e:min ((Lib.bitLen n:Nat):Int).toNat IntKind.u64.bits=Lib.bitLen n:=by
   unfold Lib.bitLen;simp[IntKind.bits];omega
  rw[e,Int.one_mul,oV]
  ·congr 1
  ·exact Int.le_of_lt (Int.pow_pos (by omega))
  ·have f:(2^Lib.bitLen n:Nat)<=2*n:=a.1
   have c:((2:Int)^Lib.bitLen n)=((2^Lib.bitLen n:Nat):Int):=by push_cast;rfl
   rw[c];omega)) ?_
 refine .az rfl<|.ret (aP rfl ?_)
 ·exact⟨⟨2^Lib.bitLen n,rfl,a.2,a.1⟩,rfl⟩
theorem A5(b:Nat)(z:Int)(R:aB):Spec prog 252 [pT b] R [bl b [.int .u64 z] 385] λv H'=>∃T',H'=[T']/\∃z',v=.int .u64 z'/\T'=(bl b [.int .u64 z'] 385):=by
 refine Spec.body Tryz.func252 rfl Tryz.results252 Tryz.ntmps252 rfl<|.sr<|.ag rfl<|.zs<|.dt 9 mixed (by kernel_rfl) ?_
 conv=>arg 6;dsimp only[List.take]
 refine .mo rfl<|.nc rfl<|.lo rfl<|.mo rfl<|.nc rfl<|.lo rfl<|.q .wN<|.q .xc<|.nc rfl<|.nil<|.dZ rfl rfl<|.zs<|.dt 9 mixed (by kernel_rfl) ?_
 conv=>arg 6;dsimp only[List.take]
 refine .mo rfl<|.nc rfl<|.lo rfl<|.mo rfl<|.nc rfl<|.lo rfl<|.q .QF<|.q .xc<|.nc rfl<|.nil<|.dZ rfl rfl<|.zs<|.dt 9 mixed (by kernel_rfl) ?_
 conv=>arg 6;dsimp only[List.take]
 refine .mo rfl<|.nc rfl<|.lo rfl<|.mo rfl<|.nc rfl<|.lo rfl<|.q .wN<|.q .xc<|.nc rfl<|.nil<|.dZ rfl rfl<|.z<|.mo rfl<|.nc rfl<|.lo rfl<|.az rfl<|.ret (bp _ (.one (.tmp rfl)) rH ?_)
 ·exact⟨_,rfl,_,rfl,rfl⟩
namespace SST
def iS(c:ByteArray->ByteArray->Int)(ok:ByteArray->Prop)(R:aB):Prop:=c=eO
theorem iS.mono{c:ByteArray->ByteArray->Int}{ok:ByteArray->Prop}{R R':aB}(h:iS c ok R)(a:∀b o,R b o->R' b o):iS c ok R':=h
theorem QK(a:ByteArray)(R:aB):Spec prog 255 [.string a] R [] λu H'=>u=.bool false/\H'=[]:=by
 refine Spec.body Tryz.func255 rfl Tryz.results255 Tryz.ntmps255 rfl<|.sr<|.ag rfl<|.z<|.mo rfl<|.mo rfl<|.q .fU<|.az rfl<|.ret (aP rfl ?_)
 ·exact⟨by simp,rfl⟩
theorem kj{c:ByteArray->ByteArray->Int}{ok:ByteArray->Prop}{e:aB}(g:iS c ok e)(a b:ByteArray)(R:aB):Spec prog 216 [.string a,.string b] R [] λu H'=>u=.bool (decide (c a b<0))/\H'=[]:=by
 have f:c=eO:=g
 subst f
 refine Spec.body Tryz.func216 rfl Tryz.results216 Tryz.ntmps216 rfl<|.sr<|.ag rfl<|.z<|.mo rfl<|.aY (QK a _) (λu h=>?_)
 subst h
 refine .mo rfl<|.split (t:=7) rfl (λd=>?_) (λd=>?_)
 ·simp at d
 refine .gF d<|.gF d<|.gF d<|.q (.aS d)<|.mo rfl<|.gt rfl<|.mo rfl<|.gt rfl<|.mo rfl<|.gt rfl<|.q .vj<|.q .db<|.az rfl<|.ret (aP rfl ?_)
 ·exact⟨congrArg _ (by rw[Bool.eq_iff_iff,mQ];simp),rfl⟩
end SST
namespace SST
section
variable{c:ByteArray->ByteArray->Int}{ok:ByteArray->Prop}
theorem uT(v:Value)(xs:List ByteArray)(T:ay)(a b:Nat)(R:aB)(h:OS 9 1 cg v xs T)(W:a<=b)(Y:b<=xs.length)(hl:xs.length<=1000000000)(K:iS c ok R)(F:∀x∈xs,ok x)(B:SO (br c)):
  Spec prog 210 [v,.int .i64 a,.int .i64 b] R [T] λu H'=>∃T',H'=[T']/\u=.tuple #[]/\∃ys,OS 9 1 cg v ys T'/\RP a b xs ys/\SR (br c) ys a b:=by
 have iv:=h.ap
 refine Spec.body Tryz.func210 rfl Tryz.results210 Tryz.ntmps210 rfl ?_
 refine .sr<|.mo rfl ?_
 refine .ia (a+1) .add ?_
 refine .az rfl<|.block ?_
 refine .loop (X:=Nat×List ByteArray×ay) (λy=>(a+1<=y.1/\(y.1<=b\/y.1=a+1))/\OS 9 1 cg v y.2.1 y.2.2/\RP a b xs y.2.1/\SR (br c) y.2.1 a y.1) (λy=>[(0,v),(1,iN a),(2,iN b),(6,iN y.1)]) (λy=>[y.2.2]) (λy=>b-y.1) (a+1,xs,T) ⟨⟨by simp only;omega,.inr rfl⟩,h,.refl _,λi j m n D=>by simp only at D;omega⟩ kE.c.c.c.c rH ?_
 rintro⟨i,ys,I⟩ ⟨⟨L,M⟩,z,r,A⟩
 simp only at L M z r A⊢
 have a1:=r.length
 refine .seq<|.sr<|.mo rfl<|.mo rfl<|.q .lss<|.zn ?_
 refine .cond rfl (λm=>?_) λm=>?_
 have a0:i<b:=by simp at m;omega
 refine .kn<|.seq<|.block<|.sr<|.mo rfl<|.az rfl<|.block ?_
 refine .loop (X:=Nat×List ByteArray×ay) (λy=>(a<=y.1/\y.1<=i)/\OS 9 1 cg v y.2.1 y.2.2/\RP a b xs y.2.1/\lu (br c) y.2.1 a y.1 (i+1)) (λy=>[(0,v),(1,iN a),(2,iN b),(6,iN i),(7,iN y.1)]) (λy=>[y.2.2]) (λy=>y.1) (i,ys,I) ⟨⟨by simp only;omega,Nat.le_refl _⟩,z,r,A.ins⟩ kE.c.c.c.c.c rH ?_
 rintro⟨j,o,C⟩ ⟨⟨N,O⟩,e,l,p⟩
 simp only at N O e l p⊢
 have a2:=l.length
 refine .seq<|.seq ?_
 refine .dt 13 mixed (by kernel_rfl) ?_
 conv=>arg 6;dsimp only[List.take]
 refine .mo rfl<|.mo rfl<|.q .gtr<|.mo rfl ?_
 refine .split (t:=19) rfl (λd=>?_) (λd=>?_)
 have E:a<j:=by have:=bS d;omega
 obtain⟨x,f⟩:∃x,o[j]? =some x:=⟨_,aX (by omega)⟩
 obtain⟨y,g⟩:∃x,o[j-1]? =some x:=⟨_,aX (by omega)⟩
 have a3:=F x (l.perm.mem_iff.1 (aO f))
 have a4:=F y (l.perm.mem_iff.1 (aO g))
 refine .gT d<|.mo rfl<|.gT d<|.mo rfl<|.gT d ?_
 refine .aL j e f (λa5=>?_)
 refine .gT d<|.lo rfl<|.gT d<|.mo rfl<|.gT d<|.mo rfl<|.gT d ?_
 refine .ia (j-1) .sub ?_
 refine .gT d ?_
 refine .aL (j-1) e g (λa6=>?_)
 refine .gT d<|.lo rfl<|.nil<|.gT d ?_
 refine .aY (kj K x y _) (λu s=>?_)
 subst s
 refine .q (.aT d) ?_
 refine .zn ?_
 refine .cond rfl (λn=>?_) λn=>?_
 refine .kn<|.seq<|.block<|.cL [15,17] mixed ?_
 refine .tO 0 rfl .move<|.tO 1 rfl .move<|.tK 2 rfl .move<|.tK 3 rfl .move ?_
 refine .take 4 rfl (.i64 ((j-1:Nat):Int) .sub ⟨by omega,by omega,by omega⟩) (by kernel_rfl) ?_
 refine .tO 5 rfl .move<|.tO 6 rfl .move ?_
 refine .fw 7 rfl (.i64 ((j-1:Nat):Int) .sub ⟨by omega,by omega,by omega⟩) (by kernel_rfl) ?_
 refine RA.aL 8 rfl (j-1) e g rfl rfl rfl (by kernel_rfl) (λa7=>?_)
 refine .tO 9 rfl (.bZ rfl)<|.tO 10 rfl .move<|.tO 11 rfl .move ?_
 refine RA.aL 12 rfl (j) e f rfl rfl rfl (by kernel_rfl) (λa8=>?_)
 refine .tO 13 rfl (.bZ rfl) ?_
 refine RA.aL 14 rfl (j) e f rfl rfl rfl (by kernel_rfl) (λa9=>?_)
 refine .sT 15 rfl ?_
 refine .dv (j) e f y (λV S=>?_)
 refine .nil (Next.mod rfl ?_)
 refine RA.aL 16 rfl (j-1) e g rfl rfl rfl (by kernel_rfl) (λb0=>?_)
 refine .sT 17 rfl ?_
 obtain⟨zz,U⟩:∃u,(o.set (j) y)[j-1]? =some u:=⟨_,aX (by rw[List.length_set];exact(List.getElem?_eq_some_iff.1 g).1)⟩
 refine .dv (j-1) S U x (λJ G=>?_)
 rw[<-eQ f g]at G
 refine .nil (Next.mod rfl ?_)
 refine RA.nil (by kernel_rfl) ?_
 refine aV<|av<|.region<|.mo rfl ?_
 refine .ia (j-1) .sub ?_
 refine .ag rfl<|.nil ?_
 ·have Q:br c x y=true:=n
  exact aW (j-1,cX o j (j-1),J) ⟨⟨by simp only;omega,by simp only;omega⟩,G,l.step (by omega) (by omega) (by omega) (by omega) (by omega),p.step B (by omega) (by omega) E f g Q⟩ (by simp only;omega) kE.c.c.c.c.c rH
 refine .exit<|bm<|bs<|bo<|aV<|av<|.region<|.mo rfl ?_
 refine .ia (i+1) .add ?_
 refine .ag rfl<|.nil ?_
 ·refine aW (i+1,o,C) ⟨⟨by simp only;omega,.inl (by simp only;omega)⟩,e,l,p.done B (by omega) (by omega) ?_⟩ (by simp only;omega) kE.c.c.c.c rH
  exact .inr ⟨E,λu w s H=>by
   rw[g]at s;rw[f]at H;cases s;cases H;exact n⟩
 refine .gF d<|.gF d<|.gF d<|.gF d<|.gF d<|.gF d<|.gF d<|.gF d<|.gF d<|.nil<|.gF d<|.q (.aS d) ?_
 refine .zn<|.cP<|.exit<|bm<|bs<|bo<|aV<|av<|.region<|.mo rfl ?_
 refine .ia (i+1) .add ?_
 refine .ag rfl<|.nil ?_
 ·refine aW (i+1,o,C) ⟨⟨by simp only;omega,.inl (by simp only;omega)⟩,e,l,p.done B (by omega) (by omega) ?_⟩ (by simp only;omega) kE.c.c.c.c rH
  exact .inl (by have:=bA d;omega)
 refine .exit<|bm<|bs<|bo<|gg _ .none rH ?_
 ·have Z:b<=i:=by simp at m;omega
  exact⟨_,rfl,rfl,ys,z,r,λj k m n D=>A j k m n (by omega)⟩
theorem rb(v:Value)(xs:List ByteArray)(T:ay)(lo g b:Nat)(R:aB)(h:OS 9 1 cg v xs T)(a7:lo<=g)(hb:b+g<=xs.length)(hl:xs.length<=1000000000)(hf:iS c ok R)(Y:∀x∈xs,ok x)(F:SO (br c)):
    Spec prog 250 [v,.int .i64 lo,.int .i64 g,.int .i64 b] R [T] λu H'=>∃T',H'=[T']/\u=.tuple #[]/\∃ys,OS 9 1 cg v ys T'/\RP b (b+g) xs ys/\
      (kp (λx y=>br c y x) (xs.drop b) g lo lo->jE (λx y=>br c y x) (ys.drop b) g lo):=by
  have iv:=h.ap
  have a4:=F.rev
  refine Spec.body Tryz.func250 rfl Tryz.results250 Tryz.ntmps250 rfl ?_
  refine .sr<|.mo rfl<|.az rfl<|.block ?_
  refine .loop (X:=Nat×List ByteArray×ay) (λy=>(lo<=y.1/\y.1<=g)/\OS 9 1 cg v y.2.1 y.2.2/\RP b (b+g) xs y.2.1/\(kp (λx y=>br c y x) (xs.drop b) g lo lo->kp (λx y=>br c y x) (y.2.1.drop b) g lo y.1)) (λy=>[(0,v),(2,iN g),(3,iN b),(8,iN y.1)]) (λy=>[y.2.2]) (λy=>g-y.1) (lo,xs,T) ⟨⟨Nat.le_refl _,a7⟩,h,.refl _,λh=>h⟩ kE.c.c.c.c rH ?_
  rintro⟨r,ys,T1⟩ ⟨⟨a2,a9⟩,m,s,N⟩
  simp only at a2 a9 m s N⊢
  have b7:=s.length
  have b6:(ys.drop b).length=ys.length-b:=List.length_drop
  refine .block<|.sr<|.mo rfl ?_
  refine .ia (2*r) .mul ?_
  refine .ia (2*r+1) .add ?_
  refine .ag rfl<|.zs<|.sr<|.mo rfl<|.mo rfl<|.q .geq<|.zn ?_
  refine .cond rfl (λK=>?_) λK=>?_
  have b4:g<=2*r+1:=by have:=bS K;omega
  refine .exit (bm (jI (bs (bo ?_))))
  refine gg _ .none rH ?_
  ·refine⟨_,rfl,rfl,ys,m,s,λM=>(N M).stop λa B D k u w e Z=>?_⟩
   (simp only[bV]at k;omega)
  have G:2*r+1<g:=by have:=bA K;omega
  obtain⟨J,A⟩:∃y,ys[b+r]? =some y:=⟨_,aX (by omega)⟩
  obtain⟨n,l⟩:∃y,ys[b+(2*r+1)]? =some y:=⟨_,aX (by omega)⟩
  have b8:=Y J (s.perm.mem_iff.1 (aO A))
  have H:=Y n (s.perm.mem_iff.1 (aO l))
  refine .kn<|.seq ?_
  refine bz.cut (X:=Nat×ByteArray) (λz=>0<z.1/\z.1<g/\bV z.1=r/\ys[b+z.1]? =some z.2/\ok z.2/\∀a u,0<a->a<g->bV a=r->ys[b+a]? =some u->br c z.2 u=false) (λz=>[(0,v),(2,iN g),(3,iN b),(8,iN r),(9,iN z.1)]) (λz=>[T1]) ?_ ?_
  refine .seq ?_
  refine .dt 18 mixed (by kernel_rfl) ?_
  conv=>arg 6;dsimp only[List.take]
  refine .mo rfl ?_
  refine .ia (2*r+2) .add ?_
  refine .mo rfl<|.q .lss<|.mo rfl ?_
  refine .split (t:=21) rfl (λd=>?_) (λd=>?_)
  have U:2*r+2<g:=by have:=bS d;omega
  obtain⟨I,p⟩:∃y,ys[b+(2*r+2)]? =some y:=⟨_,aX (by omega)⟩
  have a0:=Y I (s.perm.mem_iff.1 (aO p))
  refine .gT d<|.mo rfl<|.gT d<|.mo rfl<|.gT d<|.mo rfl<|.gT d ?_
  refine .ia (b+(2*r+1)) .add ?_
  refine .gT d ?_
  refine .aL (b+(2*r+1)) m l (λb9=>?_)
  refine .gT d<|.lo rfl<|.gT d<|.mo rfl<|.gT d<|.mo rfl<|.gT d<|.mo rfl<|.gT d ?_
  refine .ia (b+(2*r+1)) .add ?_
  refine .gT d ?_
  refine .ia (b+(2*r+2)) .add ?_
  refine .gT d ?_
  refine .aL (b+(2*r+2)) m p (λc0=>?_)
  refine .gT d<|.lo rfl<|.nil<|.gT d ?_
  refine .aY (kj hf n I _) (λu e=>?_)
  subst e
  refine .q (.aT d) ?_
  refine .zn ?_
  refine .cond rfl (λC=>?_) λC=>?_
  have W:∀a u,0<a->a<g->bV a=r->ys[b+a]? =some u->br c I u=false:=λa u B D k e=>by
    have:a=2*r+1\/a=2*r+2:=by simp only[bV]at k;omega
    rcases this with rfl|rfl
    ·rw[l]at e;cases e;exact F.lT C
    ·rw[p]at e;cases e;exact F.ig _
  refine .region<|.mo rfl ?_
  refine .ia (2*r+2) .add ?_
  refine .ag rfl<|.nil ?_
  ·first
      |exact aF (2*r+2,I) ⟨by simp only;omega,U,by simp only[bV];omega,p,a0,W⟩ kE.c.c.c.c.c rH
      |exact aF (2*r+1,n) ⟨by simp only;omega,G,by simp only[bV];omega,l,H,o⟩ kE.c.c.c.c.c rH
      |(have o:∀a u,0<a->a<g->bV a=r->ys[b+a]? =some u->br c n u=false:=λa u B D k e=>by
           have:a=2*r+1\/a=2*r+2:=by simp only[bV]at k;omega
           rcases this with rfl|rfl
           ·rw[l]at e;cases e;exact F.ig _
           ·rw[p]at e;cases e;exact C
        exact aF (2*r+1,n) ⟨by simp only;omega,G,by simp only[bV];omega,l,H,o⟩ kE.c.c.c.c.c rH)
  refine .skip ?_
  ·first
      |exact aF (2*r+2,I) ⟨by simp only;omega,U,by simp only[bV];omega,p,a0,W⟩ kE.c.c.c.c.c rH
      |exact aF (2*r+1,n) ⟨by simp only;omega,G,by simp only[bV];omega,l,H,o⟩ kE.c.c.c.c.c rH
      |(have o:∀a u,0<a->a<g->bV a=r->ys[b+a]? =some u->br c n u=false:=λa u B D k e=>by
           have:a=2*r+1\/a=2*r+2:=by simp only[bV]at k;omega
           rcases this with rfl|rfl
           ·rw[l]at e;cases e;exact F.ig _
           ·rw[p]at e;cases e;exact C
        exact aF (2*r+1,n) ⟨by simp only;omega,G,by simp only[bV];omega,l,H,o⟩ kE.c.c.c.c.c rH)
  have o:∀a u,0<a->a<g->bV a=r->ys[b+a]? =some u->br c n u=false:=λa u B D k e=>by
    have:a=2*r+1:=by have:=bA d;simp only[bV]at k;omega
    subst this
    rw[l]at e;cases e;exact F.ig _
  refine .gF d<|.gF d<|.gF d<|.gF d<|.gF d<|.gF d<|.gF d<|.gF d<|.gF d<|.gF d<|.gF d<|.gF d<|.gF d<|.nil<|.gF d<|.q (.aS d) ?_
  refine .zn<|.cP<|.skip ?_
  ·first
      |exact aF (2*r+2,I) ⟨by simp only;omega,U,by simp only[bV];omega,p,a0,W⟩ kE.c.c.c.c.c rH
      |exact aF (2*r+1,n) ⟨by simp only;omega,G,by simp only[bV];omega,l,H,o⟩ kE.c.c.c.c.c rH
      |(have o:∀a u,0<a->a<g->bV a=r->ys[b+a]? =some u->br c n u=false:=λa u B D k e=>by
           have:a=2*r+1\/a=2*r+2:=by simp only[bV]at k;omega
           rcases this with rfl|rfl
           ·rw[l]at e;cases e;exact F.ig _
           ·rw[p]at e;cases e;exact C
        exact aF (2*r+1,n) ⟨by simp only;omega,G,by simp only[bV];omega,l,H,o⟩ kE.c.c.c.c.c rH)
  intro y hy
  obtain⟨j,x⟩:=y
  obtain⟨Q,a1,S,E,b2,V⟩:=hy
  simp only at Q a1 S E b2 V⊢
  have b5:r<j:=S▸fP Q
  refine av<|.seq<|.seq ?_
  refine .dt 12 mixed (by kernel_rfl) ?_
  conv=>arg 6;dsimp only[List.take]
  refine .mo rfl<|.mo rfl<|.mo rfl ?_
  refine .ia (b+r) .add ?_
  refine .aL (b+r) m A (λc1=>?_)
  refine .lo rfl<|.mo rfl<|.mo rfl<|.mo rfl ?_
  refine .ia (b+j) .add ?_
  refine .aL (b+j) m E (λc2=>?_)
  refine .lo rfl<|.nil ?_
  refine .aY (kj hf J x _) (λu e=>?_)
  subst e
  refine .q .not<|.zn ?_
  refine .cond rfl (λL=>?_) λL=>?_
  refine .ret (aH (bh (cB (bh (bp _ .none rH ?_)))))
  ·refine⟨_,rfl,rfl,ys,m,s,λM=>(N M).stop λa B D k u w e Z=>?_⟩
   (rw[jq]at e Z
    rw[A]at e;cases e
    have O:(!br c J x)=true:=L
    exact a4.kD _ _ _ (V a w B D k Z) (by simpa using O))
  refine .kn<|.seq<|.cL [21,23] mixed ?_
  refine .tO 0 rfl .move<|.tO 1 rfl .move<|.tO 2 rfl .move ?_
  refine .fw 3 rfl (.i64 ((b+r:Nat):Int) .add ⟨by omega,by omega,by omega⟩) (by kernel_rfl) ?_
  refine .tK 4 rfl .move<|.tK 5 rfl .move<|.tK 6 rfl .move ?_
  refine .take 7 rfl (.i64 ((b+j:Nat):Int) .add ⟨by omega,by omega,by omega⟩) (by kernel_rfl) ?_
  refine .tO 8 rfl .move<|.tO 9 rfl .move<|.tO 10 rfl .move ?_
  refine .fw 11 rfl (.i64 ((b+j:Nat):Int) .add ⟨by omega,by omega,by omega⟩) (by kernel_rfl) ?_
  refine RA.aL 12 rfl (b+j) m E rfl rfl rfl (by kernel_rfl) (λc3=>?_)
  refine .tO 13 rfl (.bZ rfl)<|.tO 14 rfl .move<|.tO 15 rfl .move<|.tO 16 rfl .move ?_
  refine .fw 17 rfl (.i64 ((b+r:Nat):Int) .add ⟨by omega,by omega,by omega⟩) (by kernel_rfl) ?_
  refine RA.aL 18 rfl (b+r) m A rfl rfl rfl (by kernel_rfl) (λc4=>?_)
  refine .tO 19 rfl (.bZ rfl) ?_
  refine RA.aL 20 rfl (b+r) m A rfl rfl rfl (by kernel_rfl) (λc5=>?_)
  refine .sT 21 rfl ?_
  refine .dv (b+r) m A x (λb3 b0=>?_)
  refine .nil (Next.mod rfl ?_)
  refine RA.aL 22 rfl (b+j) m E rfl rfl rfl (by kernel_rfl) (λc6=>?_)
  refine .sT 23 rfl ?_
  obtain⟨zz,b1⟩:∃u,(ys.set (b+r) x)[b+j]? =some u:=⟨_,aX (by rw[List.length_set];exact(List.getElem?_eq_some_iff.1 E).1)⟩
  refine .dv (b+j) b0 b1 J (λa5 a3=>?_)
  rw[<-eQ A E]at a3
  refine .nil (Next.mod rfl ?_)
  refine RA.nil (by kernel_rfl) ?_
  refine av<|.region<|.mo rfl<|.ag rfl<|.nil<|aV ?_
  ·have a8:br c J x=true:=by
      have O:(!br c J x)=false:=L
      simpa using O
   have a6:=rS (xs:=ys) (f:=b) (i:=r) (j:=j) (by omega) (by omega)
   exact aW (j,cX ys (b+r) (b+j),a5) ⟨⟨by simp only;omega,by simp only;omega⟩,a3,s.step (by omega) (by omega) (by omega) (by omega) (by omega),λM=>by
     simp only
     rw[a6]
     exact(N M).step a4 a2 Q a1 (by omega) S (by rw[jq];exact E) (by rw[jq];exact A) a8 λa z K C L h4=>V a z K C L (by rw[<-jq];exact h4)⟩ (by simp only;omega) kE.c.c.c.c rH
end
end SST
namespace SST
section
variable{c:ByteArray->ByteArray->Int}{ok:ByteArray->Prop}
theorem uQ(v:Value)(xs:List ByteArray)(T:ay)(a b:Nat)(R:aB)(h:OS 9 1 cg v xs T)(a7:a<=b)(hb:b<=xs.length)(hl:xs.length<=1000000000)(L:iS c ok R)(M:∀x∈xs,ok x)(F:SO (br c)):
  Spec prog 211 [v,.int .i64 a,.int .i64 b] R [T] λu H'=>∃T',H'=[T']/\u=.tuple #[]/\∃ys,OS 9 1 cg v ys T'/\RP a b xs ys/\SR (br c) ys a b:=by
 have iv:=h.ap
 have a5:=F.rev
 obtain⟨n,hn⟩:∃n,b=a+n:=⟨b-a,by omega⟩
 subst hn
 refine Spec.body Tryz.func211 rfl Tryz.results211 Tryz.ntmps211 rfl<|.sr<|.mo rfl<|.ag rfl<|.z<|.ag rfl<|.z<|.mo rfl<|.mo rfl<|.ia (n) .sub<|.ag rfl<|.zs<|.sr<|.mo rfl<|.q (.i64 ((n:Int)-1) .sub ⟨rfl,by omega,by omega⟩)<|.q (.i64 (((n-1)/2:Nat):Int) .quo ⟨wW,by omega,by omega⟩)<|.az rfl<|.block<|.loop (X:=Nat×Int×List ByteArray×ay) (λy=>(y.2.1=(y.1:Int)-1/\y.1<=n+1)/\OS 9 1 cg v y.2.2.1 y.2.2.2/\RP a (a+n) xs y.2.2.1/\jE (λx y=>br c y x) (y.2.2.1.drop a) n y.1) (λy=>[(0,v),(6,iN a),(7,.int .i64 ((0:Nat):Int)),(8,iN n),(9,.int .i64 y.2.1)]) (λy=>[y.2.2.2]) (λy=>y.1) ((n-1)/2+1,(((n-1)/2:Nat):Int),xs,T) ⟨⟨by simp only;omega,by simp only;omega⟩,h,.refl _,λk U hk hp=>by simp only[bV]at hp;omega⟩ kE.c.c.c.c.c rH ?_
 rintro⟨m,z,ys,G⟩ ⟨⟨hz,hm⟩,B,r,A⟩
 simp only at hz hm B r A⊢
 have a8:=r.length
 refine .seq<|.sr<|.mo rfl<|.q .geq<|.zn<|.cond rfl (λo=>?_) λo=>?_
 have a2:0<=z:=bS o
 obtain⟨k,rfl⟩:∃k,m=k+1:=⟨m-1,by omega⟩
 obtain rfl:z=(k:Int):=by omega
 refine .kn<|.seq<|.block<|.region<|.mo rfl<|.mo rfl<|.mo rfl<|.mo rfl<|.dg (rb (c:=c) (ok:=ok) v ys G k n a _ B (by omega) (by omega) (by omega) L (λx d=>M x (r.perm.mem_iff.1 d)) F) (λu H E=>?_)
 obtain⟨rfl,g,e,l,p⟩:=E
 refine .nil<|aV<|av<|.region<|.mo rfl<|.q (.i64 ((k:Int)-1) .sub ⟨rfl,by omega,by omega⟩)<|.ag rfl<|.nil ?_
 ·exact aW (k,(k:Int)-1,g,H) ⟨⟨rfl,by simp only;omega⟩,e,r.trans l,p A.hole⟩ (by simp only;omega) kE.c.c.c.c.c rH
 have D:m=0:=by have:=bA o;omega
 subst D
 refine .exit<|bm<|bs<|bo<|av<|.sr<|.mo rfl<|.q (.i64 ((n:Int)-1) .sub ⟨rfl,by omega,by omega⟩)<|.az rfl<|.block<|.loop (X:=Nat×Int×List ByteArray×ay) (λy=>(y.2.1=(y.1:Int)-1/\y.1<=n)/\OS 9 1 cg v y.2.2.1 y.2.2.2/\RP a (a+n) xs y.2.2.1/\jE (λx y=>br c y x) (y.2.2.1.drop a) y.1 0/\OX (br c) y.2.2.1 a (a+n) a (a+y.1)) (λy=>[(0,v),(6,iN a),(7,.int .i64 ((0:Nat):Int)),(8,iN n),(10,.int .i64 y.2.1)]) (λy=>[y.2.2.2]) (λy=>y.1) (n,(n:Int)-1,ys,G) ⟨⟨rfl,Nat.le_refl _⟩,B,r,A,OX.start⟩ kE.c.c.c.c.c rH ?_
 rintro⟨m,O,g,H⟩ ⟨⟨a3,a0⟩,e,l,p,C⟩
 simp only at a3 a0 e l p C⊢
 have a9:=l.length
 refine .seq<|.sr<|.mo rfl<|.q .geq<|.zn<|.cond rfl (λs=>?_) λs=>?_
 have a2:0<=O:=bS s
 obtain⟨k,rfl⟩:∃k,m=k+1:=⟨m-1,by omega⟩
 obtain rfl:O=(k:Int):=by omega
 obtain⟨x,d⟩:∃x,g[a]? =some x:=⟨_,aX (by omega)⟩
 obtain⟨y,t⟩:∃x,g[a+k]? =some x:=⟨_,aX (by omega)⟩
 refine .kn<|.seq<|.block<|.seq<|.cL [17,19] mixed<|.tO 0 rfl .move<|.tO 1 rfl .move<|.tK 2 rfl .move<|.tK 3 rfl .move<|.tK 4 rfl .move<|.take 5 rfl (.i64 ((a+k:Nat):Int) .add ⟨by omega,by omega,by omega⟩) (by kernel_rfl)<|.tO 6 rfl .move<|.tO 7 rfl .move<|.tO 8 rfl .move<|.fw 9 rfl (.i64 ((a+k:Nat):Int) .add ⟨by omega,by omega,by omega⟩) (by kernel_rfl) ?_
 refine RA.aL 10 rfl (a+k) e t rfl rfl rfl (by kernel_rfl) (λb0=>?_)
 refine .tO 11 rfl (.bZ rfl)<|.tO 12 rfl .move<|.tO 13 rfl .move ?_
 refine RA.aL 14 rfl (a) e d rfl rfl rfl (by kernel_rfl) (λb1=>?_)
 refine .tO 15 rfl (.bZ rfl) ?_
 refine RA.aL 16 rfl (a) e d rfl rfl rfl (by kernel_rfl) (λb2=>?_)
 refine .sT 17 rfl ?_
 refine .dv (a) e d y (λa6 a1=>?_)
 refine .nil (Next.mod rfl ?_)
 refine RA.aL 18 rfl (a+k) e t rfl rfl rfl (by kernel_rfl) (λb3=>?_)
 refine .sT 19 rfl ?_
 obtain⟨zz,a4⟩:∃u,(g.set (a) y)[a+k]? =some u:=⟨_,aX (by rw[List.length_set];exact(List.getElem?_eq_some_iff.1 t).1)⟩
 refine .dv (a+k) a1 a4 x (λS N=>?_)
 rw[<-eQ d t]at N
 refine .nil<|Next.mod rfl<|RA.nil (by kernel_rfl)<|av<|.region<|.mo rfl<|.mo rfl<|.mo rfl<|.mo rfl ?_
 have K:=rS (xs:=g) (f:=a) (i:=0) (j:=k) (by omega) (by omega)
 have I:=l.step (i:=a) (j:=a+k) (by omega) (by omega) (by omega) (by omega) (by omega)
 have Z:=OX.last (m:=a+k) (x:=x) C (by omega) (by omega) (by omega) d (λj w o V hw=>jE.top a5 p (by rw[List.length_drop];omega) (x:=x) (by rw[jq];exact d) (j-a) w (by omega) (by rw[jq,show a+(j-a)=j by omega];exact hw))
 refine .dg (rb (c:=c) (ok:=ok) v (cX g a (a+k)) S 0 k a _ N (by omega) (by rw[mq];omega) (by rw[mq];omega) L (λx d=>M x (I.perm.mem_iff.1 d)) F) (λu Q E=>?_)
 obtain⟨rfl,ws,Y,J,W⟩:=E
 refine .nil<|aV<|av<|.region<|.mo rfl<|.q (.i64 ((k:Int)-1) .sub ⟨rfl,by omega,by omega⟩)<|.ag rfl<|.nil ?_
 ·exact aW (k,(k:Int)-1,ws,Q) ⟨⟨rfl,by simp only;omega⟩,Y,I.trans (J.mono (Nat.le_refl a) (by omega) (by rw[mq];omega)),W (p.zA λj U hj=>by
   rw[Nat.add_zero]at K
   rw[K,gh (by rw[List.length_drop];omega) (by rw[List.length_drop];omega),if_neg (by omega),if_neg (by omega)]),Z.rp J (Nat.le_refl _) (by omega)⟩ (by simp only;omega) kE.c.c.c.c.c rH
 refine .exit<|bm<|bs<|bo<|gg _ .none rH ?_
 ·have D:m=0:=by have:=bA s;omega
  subst D
  exact⟨_,rfl,rfl,g,e,l,C.nK λi j o s V=>by omega⟩
theorem wx(v:Value)(xs:List ByteArray)(T:ay)(a b:Nat)(R:aB)(h:OS 9 1 cg v xs T)(A:a<b)(B:b<=xs.length)(C:xs.length<=1000000000):
  Spec prog 214 [v,.int .i64 a,.int .i64 b] R [T] λu H'=>∃T',H'=[T']/\u=.tuple #[]/\∃ys,OS 9 1 cg v ys T'/\RP a b xs ys:=by
 have F:=h.ap
 refine Spec.body Tryz.func214 rfl Tryz.results214 Tryz.ntmps214 rfl<|.sr<|.mo rfl<|.ag rfl<|.z<|.mo rfl<|.ia (b-1) .sub<|.az rfl<|.block<|.loop (X:=Nat×Nat×List ByteArray×ay) (λy=>(a<=y.1/\y.1<=y.2.1+1/\y.2.1<b)/\OS 9 1 cg v y.2.2.1 y.2.2.2/\RP a b xs y.2.2.1) (λy=>[(0,v),(6,iN y.1),(7,iN y.2.1)]) (λy=>[y.2.2.2]) (λy=>b-y.1) (a,b-1,xs,T) ⟨⟨Nat.le_refl _,by simp only;omega,by simp only;omega⟩,h,.refl _⟩ kE.c.c.c rH ?_
 rintro⟨i,j,ys,t⟩ ⟨⟨n,o,p⟩,d,e⟩
 simp only at n o p d e⊢
 have D:=e.length
 refine .seq<|.sr<|.mo rfl<|.mo rfl<|.q .lss<|.zn<|.cond rfl (λk=>?_) λk=>?_
 have E:i<j:=cb k
 obtain⟨x,f⟩:∃x,ys[i]? =some x:=⟨_,aX (by omega)⟩
 obtain⟨y,g⟩:∃x,ys[j]? =some x:=⟨_,aX (by omega)⟩
 refine .kn<|.block<|.seq<|.cL [13,15] mixed<|.tO 0 rfl .move<|.tO 1 rfl .move<|.tK 2 rfl .move<|.tK 3 rfl .move<|.tO 4 rfl .move<|.tO 5 rfl .move ?_
 refine RA.aL 6 rfl (j) d g rfl rfl rfl (by kernel_rfl) (λG=>?_)
 refine .tO 7 rfl (.bZ rfl)<|.tO 8 rfl .move<|.tO 9 rfl .move ?_
 refine RA.aL 10 rfl (i) d f rfl rfl rfl (by kernel_rfl) (λH=>?_)
 refine .tO 11 rfl (.bZ rfl) ?_
 refine RA.aL 12 rfl (i) d f rfl rfl rfl (by kernel_rfl) (λI=>?_)
 refine .sT 13 rfl ?_
 refine .dv (i) d f y (λw r=>?_)
 refine .nil (Next.mod rfl ?_)
 refine RA.aL 14 rfl (j) d g rfl rfl rfl (by kernel_rfl) (λJ=>?_)
 refine .sT 15 rfl ?_
 obtain⟨K,s⟩:∃u,(ys.set (i) y)[j]? =some u:=⟨_,aX (by rw[List.length_set];exact(List.getElem?_eq_some_iff.1 g).1)⟩
 refine .dv (j) r s x (λm l=>?_)
 rw[<-eQ f g]at l
 refine .nil<|Next.mod rfl<|RA.nil (by kernel_rfl)<|av<|.sr<|.mo rfl<|.ia (i+1) .add<|.az rfl<|.region<|.mo rfl<|.ia (j-1) .sub<|.ag rfl<|.nil<|aV ?_
 ·exact aW (i+1,j-1,cX ys i j,m) ⟨⟨by simp only;omega,by simp only;omega,by simp only;omega⟩,l,e.step (by omega) (by omega) (by omega) (by omega) (by omega)⟩ (by simp only;omega) kE.c.c.c rH
 refine .exit<|bm<|bs<|bo<|gg _ .none rH ?_
 ·exact⟨_,rfl,rfl,ys,d,e⟩
theorem tV(v:Value)(xs:List ByteArray)(T:ay)(a b:Nat)(R:aB)(h:OS 9 1 cg v xs T)(Q:a<=b)(S:b<=xs.length)(V:xs.length<=1000000000):
  Spec prog 212 [v,.int .i64 a,.int .i64 b] R [T] λu H'=>∃T',H'=[T']/\u=.tuple #[]/\∃ys,OS 9 1 cg v ys T'/\RP a b xs ys:=by
 have iv:=h.ap
 obtain⟨n,I⟩:∃n,b=a+n:=⟨b-a,by omega⟩
 subst I
 refine Spec.body Tryz.func212 rfl Tryz.results212 Tryz.ntmps212 rfl ?_
 refine .sr<|.mo rfl<|.mo rfl ?_
 refine .ia (n) .sub ?_
 refine .ag rfl<|.z<|.mo rfl<|.q .geq<|.zn ?_
 refine .cond rfl (λs=>?_) λs=>?_
 have a0:8<=n:=by have:=bS s;omega
 obtain⟨q,C⟩:∃q,q=n/4:=⟨_,rfl⟩
 refine .sr<|.mo rfl<|.q .oa ?_
 refine .pe (λe=>?_)
 refine .dZ rfl rfl<|.z<|.mo rfl ?_
 refine .aY (Av n (by omega) (by omega) _) (λu r=>?_)
 obtain⟨f,rfl,Y,Z⟩:=r
 refine .ag rfl<|.z<|.mo rfl<|.mo rfl ?_
 refine .q (.i64 ((q:Nat):Int) .quo ⟨by rw[C,Int.tdiv_eq_ediv_of_nonneg (by omega)];omega,by omega,by omega⟩) ?_
 refine .ia (q*2) .mul ?_
 refine .ia (a+q*2) .add ?_
 refine .ia (a+q*2-1) .sub ?_
 refine .az rfl<|.block ?_
 refine .loop (X:=Nat×Int×List ByteArray×ay) (λy=>(a+q*2-1<=y.1/\y.1<=a+q*2+2)/\OS 9 1 cg v y.2.2.1 y.2.2.2/\RP a (a+n) xs y.2.2.1) (λy=>[(0,v),(1,iN a),(6,iN n),(7,pT e),(8,.int .u64 (f:Nat)),(9,iN y.1)]) (λy=>[bl e [.int .u64 y.2.1] 385,y.2.2.2]) (λy=>a+q*2+2-y.1) (a+q*2-1,_,xs,T) ⟨⟨Nat.le_refl _,by simp only;omega⟩,h,.refl _⟩ kE.c.c.c.c.c.c rH ?_
 rintro⟨i,z,ys,E⟩ ⟨⟨G,H⟩,d,g⟩
 simp only at G H d g⊢
 have W:=g.length
 refine .seq<|.sr<|.mo rfl<|.mo rfl<|.mo rfl ?_
 refine .q (.i64 ((q:Nat):Int) .quo ⟨by rw[C,Int.tdiv_eq_ediv_of_nonneg (by omega)];omega,by omega,by omega⟩) ?_
 refine .ia (q*2) .mul ?_
 refine .ia (a+q*2) .add ?_
 refine .ia (a+q*2+1) .add ?_
 refine .q .leq<|.zn ?_
 refine .cond rfl (λt=>?_) λt=>?_
 have U:i<=a+q*2+1:=by have:=bS t;omega
 refine .kn<|.seq<|.block<|.sr ?_
 refine .dg (A5 e z _) (λu N r=>?_)
 obtain⟨l,rfl,rfl⟩:=r
 refine .mo rfl ?_
 refine .q (bB.cast (v':=.int .u64 ((f-1:Nat):Int)) .sub (by rw[oV (by omega) (by omega)];congr 1;omega)) ?_
 have A:=xK (z:=l) (q:=((f-1:Nat):Int)) (by omega) (by omega)
 obtain⟨o,B⟩:∃o:Nat,IntKind.u64.wrap (BitVec.ofInt IntKind.u64.bits l&&&BitVec.ofInt IntKind.u64.bits ((f-1:Nat):Int)).toNat=(o:Int):=⟨_,(Int.toNat_of_nonneg A.1).symm⟩
 refine .q (bB.cast (v':=.int .u64 ((o:Nat):Int)) .xJ (by rw[B])) ?_
 rw[B]at A
 refine .q (bB.cast (v':=.int .i64 ((o:Nat):Int)) .oa (by rw[Cb (by omega) (by omega)])) ?_
 refine .ag rfl<|.zs ?_
 refine bz.cut (X:=Nat) (λp=>p<n) (λp=>[(0,v),(1,iN a),(6,iN n),(7,pT e),(8,.int .u64 (f:Nat)),(9,iN i),(10,iN p)]) (λ_=>[bl e [.int .u64 l] 385,E]) ?_ ?_
 refine .sr<|.mo rfl<|.mo rfl<|.q .geq<|.zn ?_
 refine .cond rfl (λm=>?_) λm=>?_
 have J:n<=o:=by have:=bS m;omega
 refine .region<|.mo rfl<|.mo rfl ?_
 refine .ia (o-n) .sub ?_
 refine .ag rfl<|.nil ?_
 ·exact aF (o-n) (by omega) kE.c.c.c.c.c.c.c rH
 have J:o<n:=by have:=bA m;omega
 refine .skip ?_
 ·exact aF o (by omega) kE.c.c.c.c.c.c.c rH
 intro y L
 have a1:y<n:=L
 obtain⟨p,rfl⟩:∃p,p=y:=⟨_,rfl⟩
 obtain⟨x,k⟩:∃x,ys[i]? =some x:=⟨_,aX (by omega)⟩
 obtain⟨w,j⟩:∃x,ys[a+p]? =some x:=⟨_,aX (by omega)⟩
 refine av<|.cL [17,19] mixed ?_
 refine .tO 0 rfl .move<|.tO 1 rfl .move<|.tK 2 rfl .move<|.tK 3 rfl .move<|.tK 4 rfl .move ?_
 refine .take 5 rfl (.i64 ((a+p:Nat):Int) .add ⟨by omega,by omega,by omega⟩) (by kernel_rfl) ?_
 refine .tO 6 rfl .move<|.tO 7 rfl .move<|.tO 8 rfl .move ?_
 refine .fw 9 rfl (.i64 ((a+p:Nat):Int) .add ⟨by omega,by omega,by omega⟩) (by kernel_rfl) ?_
 refine RA.aL 10 rfl (a+p) d j rfl rfl rfl (by kernel_rfl) (λa2=>?_)
 refine .tO 11 rfl (.bZ rfl)<|.tO 12 rfl .move<|.tO 13 rfl .move ?_
 refine RA.aL 14 rfl (i) d k rfl rfl rfl (by kernel_rfl) (λa3=>?_)
 refine .tO 15 rfl (.bZ rfl) ?_
 refine RA.aL 16 rfl (i) d k rfl rfl rfl (by kernel_rfl) (λa4=>?_)
 refine .sT 17 rfl ?_
 refine .dv (i) d k w (λO K=>?_)
 refine .nil (Next.mod rfl ?_)
 refine RA.aL 18 rfl (a+p) d j rfl rfl rfl (by kernel_rfl) (λa5=>?_)
 refine .sT 19 rfl ?_
 obtain⟨zz,M⟩:∃u,(ys.set (i) w)[a+p]? =some u:=⟨_,aX (by rw[List.length_set];exact(List.getElem?_eq_some_iff.1 j).1)⟩
 refine .dv (a+p) K M x (λF D=>?_)
 rw[<-eQ k j]at D
 refine .nil (Next.mod rfl ?_)
 refine RA.nil (by kernel_rfl) ?_
 refine aV<|av<|.region<|.mo rfl ?_
 refine .ia (i+1) .add ?_
 refine .ag rfl<|.nil ?_
 ·exact aW (i+1,l,cX ys i (a+p),F) ⟨⟨by simp only;omega,by simp only;omega⟩,D,g.step (by omega) (by omega) (by omega) (by omega) (by omega)⟩ (by simp only;omega) kE.c.c.c.c.c.c rH
 refine .exit<|bm<|bs<|bo<|gg _ .none (aQ [1]) ?_
 ·exact⟨_,rfl,rfl,ys,d,g⟩
 refine .skip<|gg _ .none rH ?_
 ·exact⟨_,rfl,rfl,xs,h,.refl _⟩
end
end SST
namespace SST
section
variable{c:ByteArray->ByteArray->Int}{ok:ByteArray->Prop}
theorem vW(v:Value)(xs:List ByteArray)(T:ay)(a b:Nat)(R:aB)(h:OS 9 1 cg v xs T)(b1:a<b)(hb:b<=xs.length)(hl:xs.length<=1000000000)(hf:iS c ok R)(M:∀x∈xs,ok x)(so:SO (br c))(c0:LB (br c) xs a b):
  Spec prog 215 [v,.int .i64 a,.int .i64 b] R [T] λu H'=>∃T',H'=[T']/\∃ys m,u=.bool m/\OS 9 1 cg v ys T'/\RP a b xs ys/\(m=true->SR (br c) ys a b):=by
 have iv:=h.ap
 refine Spec.body Tryz.func215 rfl Tryz.results215 Tryz.ntmps215 rfl ?_
 refine .sr<|.ag rfl<|.z<|.mo rfl ?_
 refine .ia (a+1) .add ?_
 refine .ag rfl<|.zs<|.sr<|.az rfl<|.block ?_
 refine .loop (X:=Nat×Nat×List ByteArray×ay) (λy=>(y.1<=5/\a+1<=y.2.1/\y.2.1<=b)/\OS 9 1 cg v y.2.2.1 y.2.2.2/\RP a b xs y.2.2.1/\SR (br c) y.2.2.1 a y.2.1) (λy=>[(0,v),(1,iN a),(2,iN b),(7,iN y.2.1),(8,iN y.1)]) (λy=>[y.2.2.2]) (λy=>5-y.1) (0,a+1,xs,T) ⟨⟨by omega,Nat.le_refl _,b1⟩,h,.refl _,λi j V W L=>by simp only at L;omega⟩ kE.c.c.c.c.c rH ?_
 rintro⟨n,i,ys,T1⟩ ⟨⟨hn,F,G⟩,A,I,o⟩
 simp only at hn F G A I o⊢
 have c4:=I.length
 refine .seq<|.sr<|.mo rfl<|.q .lss<|.zn ?_
 refine .cond rfl (λV=>?_) λV=>?_
 have c7:n<5:=cb V
 refine .kn<|.seq<|.block<|.seq ?_
 refine bz.cut (X:=Nat) (λi=>(a+1<=i/\i<=b)/\SR (br c) ys a i) (λi=>[(0,v),(1,iN a),(2,iN b),(7,iN i),(8,iN n)]) (λ_=>[T1]) ?_ ?_
 refine .block ?_
 refine .loop (X:=Nat) (λi=>(a+1<=i/\i<=b)/\SR (br c) ys a i) (λi=>[(0,v),(1,iN a),(2,iN b),(7,iN i),(8,iN n)]) (λ_=>[T1]) (λi=>b-i) i ⟨⟨F,G⟩,o⟩ kE.c.c.c.c.c rH ?_
 clear F G o
 rintro i ⟨⟨F,G⟩,o⟩
 refine .seq<|.seq ?_
 refine .dt 13 mixed (by kernel_rfl) ?_
 conv=>arg 6;dsimp only[List.take]
 refine .mo rfl<|.mo rfl<|.q .lss<|.mo rfl ?_
 refine .split (t:=20) rfl (λe=>?_) (λe=>?_)
 have b9:i<b:=by have:=bS e;omega
 obtain⟨x,C⟩:∃x,ys[i]? =some x:=⟨_,aX (by omega)⟩
 obtain⟨y,r⟩:∃x,ys[i-1]? =some x:=⟨_,aX (by omega)⟩
 have d0:=M x (I.perm.mem_iff.1 (aO C))
 have d1:=M y (I.perm.mem_iff.1 (aO r))
 refine .gT e<|.mo rfl<|.gT e<|.mo rfl<|.gT e ?_
 refine .aL i A C (λd8=>?_)
 refine .gT e<|.lo rfl<|.gT e<|.mo rfl<|.gT e<|.mo rfl<|.gT e ?_
 refine .ia (i-1) .sub ?_
 refine .gT e ?_
 refine .aL (i-1) A r (λd9=>?_)
 refine .gT e<|.lo rfl<|.nil<|.gT e ?_
 refine .aY (kj hf x y _) (λu B=>?_)
 subst B
 refine .gT e<|.q .not<|.q (.aT e) ?_
 refine .zn ?_
 refine .cond rfl (λW=>?_) λW=>?_
 refine .kn<|.block<|.region<|.mo rfl ?_
 refine .ia (i+1) .add ?_
 refine .ag rfl<|.nil<|aV ?_
 ·have c1:br c x y=false:=by
   have b4:(!br c x y)=true:=W
   simpa using b4
  exact aW (i+1) ⟨⟨by omega,by omega⟩,o.snoc so (by omega) (by omega) λu w B S=>by
   rw[r]at B;rw[C]at S;cases B;cases S;exact c1⟩ (by omega) kE.c.c.c.c.c rH
 refine .exit<|bm<|bs<|bo ?_
 exact aF i ⟨⟨F,G⟩,o⟩ kE.c.c.c.c.c rH
 refine .gF e<|.gF e<|.gF e<|.gF e<|.gF e<|.gF e<|.gF e<|.gF e<|.gF e<|.nil<|.gF e<|.gF e<|.q (.aS e) ?_
 refine .zn<|.cP<|.exit<|bm<|bs<|bo ?_
 exact aF i ⟨⟨F,G⟩,o⟩ kE.c.c.c.c.c rH
 intro x C
 obtain⟨d,b2⟩:∃d,d=x:=⟨_,rfl⟩
 rw[<-b2]at C⊢
 clear b2 x F G o
 obtain⟨⟨F,G⟩,o⟩:=C
 refine av<|.seq<|.sr<|.mo rfl<|.mo rfl<|.q .bQ<|.zn ?_
 refine .cond rfl (λL=>?_) λL=>?_
 refine .sr<|.az rfl ?_
 refine .ret (aH (bh (aH (cB (bh (aH (bp _ (.one (.tmp rfl)) rH ?_)))))))
 ·have b8:d=b:=by
   have b5:((d:Int)=b):=by simpa using L
   omega
  exact⟨_,rfl,ys,true,rfl,A,I,λ_=>b8▸o⟩
 have b9:d<b:=by
  have b5:¬((d:Int)=b):=by simpa using L
  omega
 obtain⟨x,C⟩:∃x,ys[d]? =some x:=⟨_,aX (by omega)⟩
 obtain⟨y,r⟩:∃x,ys[d-1]? =some x:=⟨_,aX (by omega)⟩
 refine .kn<|.seq<|.sr<|.mo rfl<|.mo rfl ?_
 refine .ia (b-a) .sub ?_
 refine .q .lss<|.zn ?_
 refine .cond rfl (λh4=>?_) λh4=>?_
 refine .sr<|.az rfl ?_
 refine .ret (aH (bh (aH (cB (bh (aH (bp _ (.one (.tmp rfl)) rH ?_)))))))
 ·exact⟨_,rfl,ys,false,rfl,A,I,λh=>by cases h⟩
 refine .kn<|.seq<|.cL [15,17] mixed ?_
 refine .tO 0 rfl .move<|.tO 1 rfl .move<|.tK 2 rfl .move<|.tK 3 rfl .move ?_
 refine .take 4 rfl (.i64 ((d-1:Nat):Int) .sub ⟨by omega,by omega,by omega⟩) (by kernel_rfl) ?_
 refine .tO 5 rfl .move<|.tO 6 rfl .move ?_
 refine .fw 7 rfl (.i64 ((d-1:Nat):Int) .sub ⟨by omega,by omega,by omega⟩) (by kernel_rfl) ?_
 refine RA.aL 8 rfl (d-1) A r rfl rfl rfl (by kernel_rfl) (λe0=>?_)
 refine .tO 9 rfl (.bZ rfl)<|.tO 10 rfl .move<|.tO 11 rfl .move ?_
 refine RA.aL 12 rfl (d) A C rfl rfl rfl (by kernel_rfl) (λe1=>?_)
 refine .tO 13 rfl (.bZ rfl) ?_
 refine RA.aL 14 rfl (d) A C rfl rfl rfl (by kernel_rfl) (λe2=>?_)
 refine .sT 15 rfl ?_
 refine .dv (d) A C y (λa6 Q=>?_)
 refine .nil (Next.mod rfl ?_)
 refine RA.aL 16 rfl (d-1) A r rfl rfl rfl (by kernel_rfl) (λe3=>?_)
 refine .sT 17 rfl ?_
 obtain⟨zz,U⟩:∃u,(ys.set (d) y)[d-1]? =some u:=⟨_,aX (by rw[List.length_set];exact(List.getElem?_eq_some_iff.1 r).1)⟩
 refine .dv (d-1) Q U x (λK H=>?_)
 rw[<-eQ C r]at H
 refine .nil (Next.mod rfl ?_)
 refine RA.nil (by kernel_rfl) ?_
 have a8:=I.step (i:=d) (j:=d-1) (by omega) (by omega) (by omega) (by omega) (by omega)
 have b6:=o.BK (by omega)
 clear o
 refine av<|.seq ?_
 refine bz.cut (X:=List ByteArray×ay) (λz=>OS 9 1 cg v z.1 z.2/\RP a b xs z.1/\SR (br c) z.1 a d) (λ_=>[(0,v),(1,iN a),(2,iN b),(7,iN d),(8,iN n)]) (λz=>[z.2]) ?_ ?_
 refine .sr<|.mo rfl<|.mo rfl ?_
 refine .ia (d-a) .sub ?_
 refine .q .geq<|.zn ?_
 refine .cond rfl (λh5=>?_) λh5=>?_
 refine .sr<|.mo rfl ?_
 refine .ia (d-1) .sub ?_
 refine .az rfl<|.block ?_
 refine .loop (X:=Nat×List ByteArray×ay) (λz=>(a<=z.1/\z.1<=d-1)/\OS 9 1 cg v z.2.1 z.2.2/\RP a b xs z.2.1/\lu (br c) z.2.1 a z.1 d) (λz=>[(0,v),(1,iN a),(2,iN b),(7,iN d),(8,iN n),(9,iN z.1)]) (λz=>[z.2.2]) (λz=>z.1) (d-1,cX ys d (d-1),K) ⟨⟨by simp only;omega,Nat.le_refl _⟩,H,a8,b6⟩ kE.c.c.c.c.c.c rH ?_
 rintro⟨q,D,O⟩ ⟨⟨a4,a5⟩,k,l,Y⟩
 simp only at a4 a5 k l Y⊢
 have c5:=l.length
 refine .seq<|.sr<|.mo rfl<|.q .geq<|.zn ?_
 refine .cond rfl (λh6=>?_) λh6=>?_
 have c8:1<=q:=by have:=bS h6;omega
 obtain⟨s,f⟩:∃x,D[q]? =some x:=⟨_,aX (by omega)⟩
 obtain⟨t,g⟩:∃x,D[q-1]? =some x:=⟨_,aX (by omega)⟩
 have c2:=M s (l.perm.mem_iff.1 (aO f))
 have c3:=M t (l.perm.mem_iff.1 (aO g))
 refine .kn<|.seq<|.block<|.seq<|.seq ?_
 refine .dt 9 mixed (by kernel_rfl) ?_
 conv=>arg 6;dsimp only[List.take]
 refine .mo rfl<|.mo rfl ?_
 refine .aL q k f (λe4=>?_)
 refine .lo rfl<|.mo rfl<|.mo rfl ?_
 refine .ia (q-1) .sub ?_
 refine .aL (q-1) k g (λe5=>?_)
 refine .lo rfl<|.nil ?_
 refine .aY (kj hf s t _) (λu B=>?_)
 subst B
 refine .q .not<|.zn ?_
 refine .cond rfl (λh7=>?_) λh7=>?_
 have a2:SR (br c) D a d:=Y.done so (by omega) (by omega) (by
  have a0:(!br c s t)=true:=h7
  rcases Nat.lt_or_ge a q with hh|hh
  ·exact .inr ⟨hh,λu w B S=>by rw[g]at B;rw[f]at S;cases B;cases S;simpa using a0⟩
  ·exact .inl (by omega))
 refine .exit (bm (jI (bm (bs (bo ?_)))))
 ·exact aF (D,O) ⟨k,l,a2⟩ kE.c.c.c.c.c rH
 have a3:br c s t=true:=by
  have a0:(!br c s t)=false:=h7
  simpa using a0
 have b7:a<q:=by
  rcases Nat.lt_or_ge a q with hh|hh
  ·exact hh
  ·have ea:q=a:=by omega
   subst ea
   have:=(c0.rp l) (by omega) q (Nat.le_refl _) b1 t s g f
   rw[this]at a3;cases a3
 refine .kn<|.cL [15,17] mixed ?_
 refine .tO 0 rfl .move<|.tO 1 rfl .move<|.tK 2 rfl .move<|.tK 3 rfl .move ?_
 refine .take 4 rfl (.i64 ((q-1:Nat):Int) .sub ⟨by omega,by omega,by omega⟩) (by kernel_rfl) ?_
 refine .tO 5 rfl .move<|.tO 6 rfl .move ?_
 refine .fw 7 rfl (.i64 ((q-1:Nat):Int) .sub ⟨by omega,by omega,by omega⟩) (by kernel_rfl) ?_
 refine RA.aL 8 rfl (q-1) k g rfl rfl rfl (by kernel_rfl) (λe6=>?_)
 refine .tO 9 rfl (.bZ rfl)<|.tO 10 rfl .move<|.tO 11 rfl .move ?_
 refine RA.aL 12 rfl (q) k f rfl rfl rfl (by kernel_rfl) (λe7=>?_)
 refine .tO 13 rfl (.bZ rfl) ?_
 refine RA.aL 14 rfl (q) k f rfl rfl rfl (by kernel_rfl) (λe8=>?_)
 refine .sT 15 rfl ?_
 refine .dv (q) k f t (λa6 Q=>?_)
 refine .nil (Next.mod rfl ?_)
 refine RA.aL 16 rfl (q-1) k g rfl rfl rfl (by kernel_rfl) (λe9=>?_)
 refine .sT 17 rfl ?_
 obtain⟨zz,U⟩:∃u,(D.set (q) t)[q-1]? =some u:=⟨_,aX (by rw[List.length_set];exact(List.getElem?_eq_some_iff.1 g).1)⟩
 refine .dv (q-1) Q U s (λK H=>?_)
 rw[<-eQ f g]at H
 refine .nil (Next.mod rfl ?_)
 refine RA.nil (by kernel_rfl) ?_
 refine aV<|av<|.region<|.mo rfl ?_
 refine .ia (q-1) .sub ?_
 refine .ag rfl<|.nil ?_
 ·exact aW (q-1,cX D q (q-1),K) ⟨⟨by simp only;omega,by simp only;omega⟩,H,l.step (by omega) (by omega) (by omega) (by omega) (by omega),Y.step so (by omega) (by omega) b7 f g a3⟩ (by simp only;omega) kE.c.c.c.c.c.c rH
 have a2:SR (br c) D a d:=Y.done so (by omega) (by omega) (.inl (by have:=bA h6;omega))
 refine .exit<|bm<|bs<|bo ?_
 ·exact aF (D,O) ⟨k,l,a2⟩ kE.c.c.c.c.c rH
 refine .skip ?_
 ·exact aF (cX ys d (d-1),K) ⟨H,a8,λp q V W L=>by have:=bA h5;omega⟩ kE.c.c.c.c.c rH
 intro y r
 obtain⟨D,O⟩:=y
 obtain⟨k,l,a1⟩:=r
 simp only at k l a1⊢
 refine av ?_
 refine bz.cut (X:=List ByteArray×ay) (λz=>OS 9 1 cg v z.1 z.2/\RP a b xs z.1/\SR (br c) z.1 a d) (λ_=>[(0,v),(1,iN a),(2,iN b),(7,iN d),(8,iN n)]) (λz=>[z.2]) ?_ ?_
 refine .sr<|.mo rfl<|.mo rfl ?_
 refine .ia (b-d) .sub ?_
 refine .q .geq<|.zn ?_
 refine .cond rfl (λh8=>?_) λh8=>?_
 refine .sr<|.mo rfl ?_
 refine .ia (d+1) .add ?_
 refine .az rfl<|.block ?_
 refine .loop (X:=Nat×List ByteArray×ay) (λz=>(d+1<=z.1/\z.1<=b)/\OS 9 1 cg v z.2.1 z.2.2/\RP a b xs z.2.1/\SR (br c) z.2.1 a d) (λz=>[(0,v),(1,iN a),(2,iN b),(7,iN d),(8,iN n),(10,iN z.1)]) (λz=>[z.2.2]) (λz=>b-z.1) (d+1,D,O) ⟨⟨Nat.le_refl _,by simp only;omega⟩,k,l,a1⟩ kE.c.c.c.c.c.c rH ?_
 rintro⟨q,N,T4⟩ ⟨⟨a4,a5⟩,E,J,Z⟩
 simp only at a4 a5 E J Z⊢
 have c6:=J.length
 refine .seq<|.sr<|.mo rfl<|.mo rfl<|.q .lss<|.zn ?_
 refine .cond rfl (λh9=>?_) λh9=>?_
 have c9:q<b:=cb h9
 obtain⟨s,f⟩:∃x,N[q]? =some x:=⟨_,aX (by omega)⟩
 obtain⟨t,g⟩:∃x,N[q-1]? =some x:=⟨_,aX (by omega)⟩
 have c2:=M s (J.perm.mem_iff.1 (aO f))
 have c3:=M t (J.perm.mem_iff.1 (aO g))
 refine .kn<|.seq<|.block<|.seq<|.seq ?_
 refine .dt 9 mixed (by kernel_rfl) ?_
 conv=>arg 6;dsimp only[List.take]
 refine .mo rfl<|.mo rfl ?_
 refine .aL q E f (λd2=>?_)
 refine .lo rfl<|.mo rfl<|.mo rfl ?_
 refine .ia (q-1) .sub ?_
 refine .aL (q-1) E g (λd3=>?_)
 refine .lo rfl<|.nil ?_
 refine .aY (kj hf s t _) (λu B=>?_)
 subst B
 refine .q .not<|.zn ?_
 refine .cond rfl (λb3=>?_) λb3=>?_
 refine .exit (bm (jI (bm (bs (bo ?_)))))
 ·exact aF (N,T4) ⟨E,J,Z⟩ kE.c.c.c.c.c rH
 refine .kn<|.cL [15,17] mixed ?_
 refine .tO 0 rfl .move<|.tO 1 rfl .move<|.tK 2 rfl .move<|.tK 3 rfl .move ?_
 refine .take 4 rfl (.i64 ((q-1:Nat):Int) .sub ⟨by omega,by omega,by omega⟩) (by kernel_rfl) ?_
 refine .tO 5 rfl .move<|.tO 6 rfl .move ?_
 refine .fw 7 rfl (.i64 ((q-1:Nat):Int) .sub ⟨by omega,by omega,by omega⟩) (by kernel_rfl) ?_
 refine RA.aL 8 rfl (q-1) E g rfl rfl rfl (by kernel_rfl) (λd4=>?_)
 refine .tO 9 rfl (.bZ rfl)<|.tO 10 rfl .move<|.tO 11 rfl .move ?_
 refine RA.aL 12 rfl (q) E f rfl rfl rfl (by kernel_rfl) (λd5=>?_)
 refine .tO 13 rfl (.bZ rfl) ?_
 refine RA.aL 14 rfl (q) E f rfl rfl rfl (by kernel_rfl) (λd6=>?_)
 refine .sT 15 rfl ?_
 refine .dv (q) E f t (λa6 Q=>?_)
 refine .nil (Next.mod rfl ?_)
 refine RA.aL 16 rfl (q-1) E g rfl rfl rfl (by kernel_rfl) (λd7=>?_)
 refine .sT 17 rfl ?_
 obtain⟨zz,U⟩:∃u,(N.set (q) t)[q-1]? =some u:=⟨_,aX (by rw[List.length_set];exact(List.getElem?_eq_some_iff.1 g).1)⟩
 refine .dv (q-1) Q U s (λK H=>?_)
 rw[<-eQ f g]at H
 refine .nil (Next.mod rfl ?_)
 refine RA.nil (by kernel_rfl) ?_
 refine aV<|av<|.region<|.mo rfl ?_
 refine .ia (q+1) .add ?_
 refine .ag rfl<|.nil ?_
 ·exact aW (q+1,cX N q (q-1),K) ⟨⟨by simp only;omega,by simp only;omega⟩,H,J.step (by omega) (by omega) (by omega) (by omega) (by omega),Z.BL (by omega) (by omega) (by omega) (by omega)⟩ (by simp only;omega) kE.c.c.c.c.c.c rH
 refine .exit<|bm<|bs<|bo ?_
 ·exact aF (N,T4) ⟨E,J,Z⟩ kE.c.c.c.c.c rH
 refine .skip ?_
 ·exact aF (D,O) ⟨k,l,a1⟩ kE.c.c.c.c.c rH
 intro y r
 obtain⟨us,T5⟩:=y
 obtain⟨a7,a9,b0⟩:=r
 simp only at a7 a9 b0⊢
 refine aV<|av<|.region<|.mo rfl ?_
 refine .ia (n+1) .add ?_
 refine .ag rfl<|.nil ?_
 ·exact aW (n+1,d,us,T5) ⟨⟨by simp only;omega,F,G⟩,a7,a9,b0⟩ (by simp only;omega) kE.c.c.c.c.c rH
 refine .exit<|bm<|bs<|bo<|av<|.sr<|.az rfl ?_
 refine .ret (bp _ (.one (.tmp rfl)) rH ?_)
 ·exact⟨_,rfl,ys,false,rfl,A,I,λh=>by cases h⟩
end
end SST
namespace SST
section
variable{c:ByteArray->ByteArray->Int}{ok:ByteArray->Prop}
theorem oE(v:Value)(xs:List ByteArray)(a b lo d e:Nat)(s:Int)(R:aB)(h:RS R 1 cg v xs)(f:lo<=a/\a<d)(g:lo<=b/\b<d)(o:d<=xs.length)(m:iS c ok R)(i:∀x∈xs,ok x):
  Spec prog 269 [v,.int .i64 a,.int .i64 b,pT e] R [bl e [.int .i64 s] 3] λu H'=>∃T',H'=[T']/\∃(s':Int) (p q:Nat),u=.tuple [.int .i64 p,.int .i64 q].toArray/\T'=(bl e [.int .i64 s'] 3)/\(lo<=p/\p<d)/\(lo<=q/\q<d):=by
 have r:=h.ap
 obtain⟨x,j⟩:∃x,xs[b]? =some x:=⟨_,aX (by omega)⟩
 obtain⟨y,k⟩:∃x,xs[a]? =some x:=⟨_,aX (by omega)⟩
 have t:=i x (aO j)
 have w:=i y (aO k)
 refine Spec.body Tryz.func269 rfl Tryz.results269 Tryz.ntmps269 rfl<|.sr<|.ag rfl<|.ag rfl<|.zs<|.seq<|.dt 8 mixed (by kernel_rfl) ?_
 conv=>arg 6;dsimp only[List.take]
 refine .mo rfl<|.mo rfl ?_
 refine .bx b h j (λA=>?_)
 refine .lo rfl<|.mo rfl<|.mo rfl ?_
 refine .bx a h k (λB=>?_)
 refine .lo rfl<|.nil<|.aY (kj m x y _) (λu n=>?_)
 subst n
 refine .zn<|.cond rfl (λl=>?_) λl=>?_
 refine .sr<|.mo rfl<|.nc rfl<|.lo rfl<|.q .add<|.nc rfl<|.dZ rfl rfl<|.z<|.mo rfl<|.mo rfl<|.ag rfl<|.az rfl<|.ret (aH (bp _ (.two (.tmp rfl) (.tmp rfl)) rH ?_))
 ·exact⟨_,rfl,_,b,a,rfl,rfl,g,f⟩
 refine .kn<|.sr<|.mo rfl<|.mo rfl<|.ag rfl<|.az rfl<|.ret (bp _ (.two (.tmp rfl) (.tmp rfl)) rH ?_)
 ·exact⟨_,rfl,_,a,b,rfl,rfl,f,g⟩
theorem qK(v:Value)(xs:List ByteArray)(a b d lo e f:Nat)(s:Int)(R:aB)(h:RS R 1 cg v xs)(l:lo<=a/\a<e)(m:lo<=b/\b<e)(n:lo<=d/\d<e)(j:e<=xs.length)(i:iS c ok R)(k:∀x∈xs,ok x):
  Spec prog 254 [v,.int .i64 a,.int .i64 b,.int .i64 d,pT f] R [bl f [.int .i64 s] 3] λu H'=>∃T',H'=[T']/\∃(s':Int) (p:Nat),u=.int .i64 p/\T'=(bl f [.int .i64 s'] 3)/\(lo<=p/\p<e):=by
 have L:=h.ap
 refine Spec.body Tryz.func254 rfl Tryz.results254 Tryz.ntmps254 rfl<|.sr<|.ag rfl<|.z<|.mo rfl<|.mo rfl<|.mo rfl<|.mo rfl<|.dg (oE v xs a b lo e f s _ h l m j i k) (λu G g=>?_)
 obtain⟨D,y,B,rfl,rfl,o,t⟩:=g
 refine .mo rfl<|.q .extract<|.q .extract<|.ag rfl<|.ag rfl<|.z<|.mo rfl<|.mo rfl<|.mo rfl<|.mo rfl<|.dg (oE v xs B d lo e f D _ h t n j i k) (λu H g=>?_)
 obtain⟨E,A,N,rfl,rfl,r,K⟩:=g
 refine .mo rfl<|.q .extract<|.q .extract<|.ag rfl<|.ag rfl<|.z<|.mo rfl<|.mo rfl<|.mo rfl<|.mo rfl<|.dg (oE v xs y A lo e f E _ h o r j i k) (λu I g=>?_)
 obtain⟨F,M,C,rfl,rfl,J,w⟩:=g
 refine .mo rfl<|.q .extract<|.q .extract<|.ag rfl<|.ag rfl<|.z<|.mo rfl<|.az rfl<|.ret (bp _ (.one (.tmp rfl)) rH ?_)
 ·exact⟨_,rfl,F,C,rfl,rfl,w⟩
theorem oy(v:Value)(xs:List ByteArray)(a lo d b:Nat)(s:Int)(R:aB)(h:RS R 1 cg v xs)(n:lo+1<=a/\a+1<d)(f:d<=xs.length)(o:xs.length<=1000000000)(e:iS c ok R)(g:∀x∈xs,ok x):
  Spec prog 253 [v,.int .i64 a,pT b] R [bl b [.int .i64 s] 3] λu H'=>∃T',H'=[T']/\∃(s':Int) (p:Nat),u=.int .i64 p/\T'=(bl b [.int .i64 s'] 3)/\(lo<=p/\p<d):=by
 have q:=h.ap
 refine Spec.body Tryz.func253 rfl Tryz.results253 Tryz.ntmps253 rfl<|.sr<|.ag rfl<|.z<|.mo rfl<|.mo rfl<|.ia (a-1) .sub<|.mo rfl<|.mo rfl<|.ia (a+1) .add<|.mo rfl<|.dg (qK v xs (a-1) a (a+1) lo d b s _ h (by omega) (by omega) (by omega) f e g) (λu m j=>?_)
 obtain⟨l,k,rfl,rfl,i⟩:=j
 refine .az rfl<|.ret (bp _ (.one (.tmp rfl)) rH ?_)
 ·exact⟨_,rfl,l,k,rfl,rfl,i⟩
theorem choose_spec(v:Value)(xs:List ByteArray)(a b:Nat)(R:aB)(h:RS R 1 cg v xs)(W:a<b)(g:b<=xs.length)(r:xs.length<=1000000000)(l:iS c ok R)(m:∀x∈xs,ok x):
  Spec prog 213 [v,.int .i64 a,.int .i64 b] R [] λu H'=>(∃(p:Nat) (t:Int),u=.tuple [.int .i64 p,.int .i64 t].toArray/\a<=p/\p<b)/\H'=[]:=by
 have iv:=h.ap
 obtain⟨n,H⟩:∃n,b=a+n:=⟨b-a,by omega⟩
 subst H
 obtain⟨q,w⟩:∃q,q=n/4:=⟨_,rfl⟩
 refine Spec.body Tryz.func213 rfl Tryz.results213 Tryz.ntmps213 rfl ?_
 refine .sr<|.ag rfl<|.ag rfl<|.z<|.mo rfl<|.mo rfl ?_
 refine .ia (n) .sub ?_
 refine .ag rfl<|.z ?_
 refine .pe (λe=>?_)
 refine .z<|.mo rfl<|.mo rfl ?_
 refine .q (.i64 ((q:Nat):Int) .quo ⟨by rw[w,Int.tdiv_eq_ediv_of_nonneg (by omega)];omega,by omega,by omega⟩) ?_
 refine .ia (q) .mul ?_
 refine .ia (a+q) .add ?_
 refine .ag rfl<|.z<|.mo rfl<|.mo rfl ?_
 refine .q (.i64 ((q:Nat):Int) .quo ⟨by rw[w,Int.tdiv_eq_ediv_of_nonneg (by omega)];omega,by omega,by omega⟩) ?_
 refine .ia (q*2) .mul ?_
 refine .ia (a+q*2) .add ?_
 refine .ag rfl<|.z<|.mo rfl<|.mo rfl ?_
 refine .q (.i64 ((q:Nat):Int) .quo ⟨by rw[w,Int.tdiv_eq_ediv_of_nonneg (by omega)];omega,by omega,by omega⟩) ?_
 refine .ia (q*3) .mul ?_
 refine .ia (a+q*3) .add ?_
 refine .ag rfl<|.zs ?_
 refine bz.cut (X:=Nat×Int) (λz=>a<=z.1/\z.1<a+n) (λz=>[(9,pT e),(11,iN z.1)]) (λz=>[bl e [.int .i64 z.2] 3]) ?_ ?_
 refine .sr<|.mo rfl<|.q .geq<|.zn ?_
 refine .cond rfl (λA=>?_) λA=>?_
 have Z:8<=n:=by have:=bS A;omega
 refine .seq ?_
 refine bz.cut (X:=Nat×Nat×Nat×Int) (λz=>(a<=z.1/\z.1<a+n)/\(a<=z.2.1/\z.2.1<a+n)/\(a<=z.2.2.1/\z.2.2.1<a+n)) (λz=>[(0,v),(9,pT e),(10,iN z.1),(11,iN z.2.1),(12,iN z.2.2.1)]) (λz=>[bl e [.int .i64 z.2.2.2] 3]) ?_ ?_
 refine .sr<|.mo rfl<|.q .geq<|.zn ?_
 refine .cond rfl (λB=>?_) λB=>?_
 have Y:50<=n:=by have:=bS B;omega
 refine .sr<|.mo rfl<|.mo rfl ?_
 refine .dg (oy v xs (a+q) a (a+n) e 0 _ h (by omega) g r l m) (λu o f=>?_)
 obtain⟨S,M,rfl,rfl,I⟩:=f
 refine .ag rfl<|.z<|.mo rfl<|.mo rfl ?_
 refine .dg (oy v xs (a+q*2) a (a+n) e S _ h (by omega) g r l m) (λu o f=>?_)
 obtain⟨T,N,rfl,rfl,J⟩:=f
 refine .az rfl<|.region<|.mo rfl<|.mo rfl ?_
 refine .dg (oy v xs (a+q*3) a (a+n) e T _ h (by omega) g r l m) (λu o f=>?_)
 obtain⟨U,O,rfl,rfl,K⟩:=f
 refine .ag rfl<|.nil ?_
 ·exact aF (M,N,O,U) ⟨I,J,K⟩ kE.c.c.c.c.c rH
 refine .skip ?_
 ·exact aF (a+q,a+q*2,a+q*3,0) ⟨by simp only;omega,by simp only;omega,by simp only;omega⟩ kE.c.c.c.c.c rH
 intro y d
 obtain⟨i,j,k,s⟩:=y
 obtain⟨C,D,E⟩:=d
 simp only at C D E⊢
 refine av<|.region<|.mo rfl<|.mo rfl<|.mo rfl<|.mo rfl ?_
 refine .dg (qK v xs i j k a (a+n) e s _ h C D E g l m) (λu o f=>?_)
 obtain⟨V,Q,rfl,rfl,L⟩:=f
 refine .ag rfl<|.nil ?_
 ·exact aF (Q,V) L kE.c.c rH
 refine .skip ?_
 ·exact aF (a+q*2,0) (by simp only;omega) kE.c.c rH
 intro y d
 obtain⟨p,s⟩:=y
 simp only at d⊢
 refine av<|.sr<|.lo rfl<|.zn<|.block<|.sr<|.q .bQ<|.az rfl ?_
 refine .cond rfl (λF=>?_) λF=>?_
 refine .sr<|.mo rfl<|.ag rfl<|.az rfl ?_
 refine .ret (bh (bp _ (.two (.tmp rfl) (.tmp rfl)) (.none _) ?_))
 ·exact⟨⟨p,_,rfl,d.1,d.2⟩,rfl⟩
 refine .sr<|.q .bQ<|.az rfl ?_
 refine .cond rfl (λG=>?_) λG=>?_
 refine .sr<|.mo rfl<|.ag rfl<|.az rfl ?_
 refine .ret (bh (bp _ (.two (.tmp rfl) (.tmp rfl)) (.none _) ?_))
 ·exact⟨⟨p,_,rfl,d.1,d.2⟩,rfl⟩
 refine .sr<|.mo rfl<|.ag rfl<|.az rfl ?_
 refine .ret (bh (bp _ (.two (.tmp rfl) (.tmp rfl)) (.none _) ?_))
 ·exact⟨⟨p,_,rfl,d.1,d.2⟩,rfl⟩
end
end SST
namespace SST
section
variable{c:ByteArray->ByteArray->Int}{ok:ByteArray->Prop}
theorem vU(v:Value)(xs:List ByteArray)(T:ay)(a b m:Nat)(p:ByteArray)(R:aB)(h:OS 9 1 cg v xs T)(a9:a<b)(hm:a<=m/\m<b)(w:xs[m]? =some p)(hb:b<=xs.length)(hl:xs.length<=1000000000)(hf:iS c ok R)(V:∀x∈xs,ok x)(so:SO (br c))
  (b5:∀(k:Nat) (x:ByteArray),a<=k->k<b->xs[k]? =some x->br c x p=false):
  Spec prog 217 [v,.int .i64 a,.int .i64 b,.int .i64 m] R [T] λu H'=>∃T',H'=[T']/\∃ys mid,u=iN mid/\OS 9 1 cg v ys T'/\RP a b xs ys/\rA (br c) ys a mid b p:=by
 have iv:=h.ap
 obtain⟨x0,D⟩:∃x,xs[a]? =some x:=⟨_,aX (by omega)⟩
 have c7:=V p (aO w)
 refine Spec.body Tryz.func217 rfl Tryz.results217 Tryz.ntmps217 rfl ?_
 refine .sr<|.ag rfl<|.zs<|.cL [13,15] mixed ?_
 refine .tO 0 rfl .move<|.tO 1 rfl .move<|.tK 2 rfl .move<|.tK 3 rfl .move<|.tO 4 rfl .move<|.tO 5 rfl .move ?_
 refine RA.aL 6 rfl (m) h w rfl rfl rfl (by kernel_rfl) (λd0=>?_)
 refine .tO 7 rfl (.bZ rfl)<|.tO 8 rfl .move<|.tO 9 rfl .move ?_
 refine RA.aL 10 rfl (a) h D rfl rfl rfl (by kernel_rfl) (λd1=>?_)
 refine .tO 11 rfl (.bZ rfl) ?_
 refine RA.aL 12 rfl (a) h D rfl rfl rfl (by kernel_rfl) (λd2=>?_)
 refine .sT 13 rfl ?_
 refine .dv (a) h D p (λa7 W=>?_)
 refine .nil (Next.mod rfl ?_)
 refine RA.aL 14 rfl (m) h w rfl rfl rfl (by kernel_rfl) (λd3=>?_)
 refine .sT 15 rfl ?_
 obtain⟨zz,Z⟩:∃u,(xs.set (a) p)[m]? =some u:=⟨_,aX (by rw[List.length_set];exact(List.getElem?_eq_some_iff.1 w).1)⟩
 refine .dv (m) W Z x0 (λL F=>?_)
 rw[<-eQ D w]at F
 refine .nil (Next.mod rfl ?_)
 refine RA.nil (by kernel_rfl) ?_
 have a8:RP a b xs (cX xs a m):=(RP.refl xs).step (by omega) (by omega) (by omega) (by omega) (by omega)
 have b0:(cX xs a m)[a]? =some p:=by
  rw[gh (by omega) (by omega)]
  by_cases U:a=m
  ·rw[if_pos U,D, <-w, <-U,D]
  ·rw[if_neg U,if_pos rfl,w]
 refine av<|.sr<|.mo rfl ?_
 refine .ia (a+1) .add ?_
 refine .mo rfl ?_
 refine .ia (b-1) .sub ?_
 refine .ag rfl<|.ag rfl<|.zs<|.block ?_
 refine .loop (X:=Nat×Nat×List ByteArray×ay) (λy=>OS 9 1 cg v y.2.2.1 y.2.2.2/\RP a b xs y.2.2.1/\PQ (λx=> !br c p x) y.2.2.1 a y.1 y.2.1 b p) (λy=>[(0,v),(1,iN a),(9,iN y.1),(10,iN y.2.1)]) (λy=>[y.2.2.2]) (λy=>y.2.1+1-y.1) (a+1,b-1,cX xs a m,L) ⟨F,a8,.start a9 b0⟩ kE.c.c.c.c rH ?_
 rintro⟨i,j,ys,G⟩ ⟨r,s,C⟩
 simp only at r s C⊢
 have c6:=s.length
 have c0:=C.i0
 have c2:=C.ij
 have c4:=C.jb
 have a6:=C.at_
 refine .block<|.seq ?_
 refine bz.cut (X:=Nat) (λl=>i<=l/\PQ (λx=> !br c p x) ys a l j b p/\∀x,l<=j->ys[l]? =some x->(!br c p x)=false) (λl=>[(0,v),(1,iN a),(9,.int .i64 (l:Nat)),(10,iN j)]) (λ_=>[G]) ?_ ?_
 refine .block ?_
 refine .loop (X:=Nat) (λl=>i<=l/\PQ (λx=> !br c p x) ys a l j b p) (λl=>[(0,v),(1,iN a),(9,.int .i64 (l:Nat)),(10,iN j)]) (λ_=>[G]) (λl=>j+1-l) i ⟨Nat.le_refl _,C⟩ kE.c.c.c.c rH ?_
 rintro A ⟨a1,Q⟩
 refine .seq<|.seq ?_
 refine .dt 12 mixed (by kernel_rfl) ?_
 conv=>arg 6;dsimp only[List.take]
 refine .mo rfl<|.mo rfl<|.q .leq<|.mo rfl ?_
 refine .split (t:=32) rfl (λd=>?_) (λd=>?_)
 have b3:A<=j:=by have:=bS d;omega
 obtain⟨x2,I⟩:∃x,ys[A]? =some x:=⟨_,aX (by omega)⟩
 have c8:=V x2 (s.perm.mem_iff.1 (aO I))
 refine .gT d<|.mo rfl<|.gT d<|.mo rfl<|.gT d ?_
 refine .aL a r a6 (λd4=>?_)
 refine .gT d<|.lo rfl<|.gT d<|.mo rfl<|.gT d<|.mo rfl<|.gT d ?_
 refine .aL A r I (λd5=>?_)
 refine .gT d<|.lo rfl<|.nil<|.gT d ?_
 refine .aY (kj hf p x2 _) (λu Y=>?_)
 subst Y
 refine .gT d<|.q .not<|.q (.aT d) ?_
 refine .zn ?_
 refine .cond rfl (λM=>?_) λM=>?_
 refine .kn<|.block<|.region<|.mo rfl ?_
 refine .ia (A+1) .add ?_
 refine .ag rfl<|.nil<|aV ?_
 ·exact aW (A+1) ⟨by omega,Q.inc b3 I M⟩ (by omega) kE.c.c.c.c rH
 refine .exit<|bm<|bs<|bo ?_
 exact aF A ⟨a1,Q,λx g z=>by rw[I]at z;cases z;exact M⟩ kE.c.c.c.c rH
 refine .gF d<|.gF d<|.gF d<|.gF d<|.gF d<|.gF d<|.gF d<|.gF d<|.nil<|.gF d<|.gF d<|.q (.aS d) ?_
 refine .zn<|.cP<|.exit<|bm<|bs<|bo ?_
 exact aF A ⟨a1,Q,λx g z=>by have:=bA d;omega⟩ kE.c.c.c.c rH
 intro x g
 obtain⟨f,a2⟩:∃f,f=x:=⟨_,rfl⟩
 rw[<-a2]at g⊢
 clear a2 x
 obtain⟨c1,a0,b8⟩:=g
 refine av<|.seq ?_
 refine bz.cut (X:=Nat) (λn=>n<=j/\PQ (λx=> !br c p x) ys a f n b p/\∀x,f<=n->ys[n]? =some x->(!br c p x)=true) (λn=>[(0,v),(1,iN a),(9,iN f),(10,.int .i64 (n:Nat))]) (λ_=>[G]) ?_ ?_
 refine .block ?_
 refine .loop (X:=Nat) (λn=>n<=j/\PQ (λx=> !br c p x) ys a f n b p) (λn=>[(0,v),(1,iN a),(9,iN f),(10,.int .i64 (n:Nat))]) (λ_=>[G]) (λn=>n) j ⟨Nat.le_refl _,a0⟩ kE.c.c.c.c rH ?_
 rintro B ⟨a3,S⟩
 have b2:=a0.i0
 refine .seq<|.seq ?_
 refine .dt 12 mixed (by kernel_rfl) ?_
 conv=>arg 6;dsimp only[List.take]
 refine .mo rfl<|.mo rfl<|.q .leq<|.mo rfl ?_
 refine .split (t:=49) rfl (λe=>?_) (λe=>?_)
 have b4:f<=B:=by have:=bS e;omega
 obtain⟨K,J⟩:∃x,ys[B]? =some x:=⟨_,aX (by omega)⟩
 have c9:=V K (s.perm.mem_iff.1 (aO J))
 refine .gT e<|.mo rfl<|.gT e<|.mo rfl<|.gT e ?_
 refine .aL a r a6 (λd6=>?_)
 refine .gT e<|.lo rfl<|.gT e<|.mo rfl<|.gT e<|.mo rfl<|.gT e ?_
 refine .aL B r J (λd7=>?_)
 refine .gT e<|.lo rfl<|.nil<|.gT e ?_
 refine .aY (kj hf p K _) (λu Y=>?_)
 subst Y
 refine .q (.aT e) ?_
 refine .zn ?_
 refine .cond rfl (λN=>?_) λN=>?_
 refine .kn<|.block<|.region<|.mo rfl ?_
 refine .ia (B-1) .sub ?_
 refine .ag rfl<|.nil<|aV ?_
 ·have b6:br c p K=true:=N
  exact aW (B-1) ⟨by omega,S.dec b4 J (by rw[b6];rfl)⟩ (by omega) kE.c.c.c.c rH
 refine .exit<|bm<|bs<|bo ?_
 exact aF B ⟨a3,S,λx g z=>by have hh:br c p K=false:=N;rw[J]at z;cases z;rw[hh];rfl⟩ kE.c.c.c.c rH
 refine .gF e<|.gF e<|.gF e<|.gF e<|.gF e<|.gF e<|.gF e<|.gF e<|.nil<|.gF e<|.q (.aS e) ?_
 refine .zn<|.cP<|.exit<|bm<|bs<|bo ?_
 exact aF B ⟨a3,S,λx g z=>by have:=bA e;omega⟩ kE.c.c.c.c rH
 intro x g
 obtain⟨o,a4⟩:∃o,o=x:=⟨_,rfl⟩
 rw[<-a4]at g⊢
 clear a4 x
 obtain⟨c5,H,b9⟩:=g
 have b2:=H.i0
 have c3:=H.ij
 refine av<|.seq<|.sr<|.mo rfl<|.mo rfl<|.q .gtr<|.zn ?_
 refine .cond rfl (λO=>?_) λO=>?_
 refine .exit (bm (jI (bs (bo ?_))))
 refine av<|.sr<|.mo rfl<|.az rfl ?_
 refine .ret (bp _ (.one (.tmp rfl)) rH ?_)
 ·have b1:o<f:=cb O
  exact⟨_,rfl,ys,f,rfl,r,s,H.y7 so b1 (s.all (p:=λx=>br c x p=false) b5)⟩
 have a5:f<=o:=by have:=bA O;omega
 obtain⟨x,g⟩:∃x,ys[f]? =some x:=⟨_,aX (by omega)⟩
 obtain⟨y,E⟩:∃x,ys[o]? =some x:=⟨_,aX (by omega)⟩
 have b7:=H.sw a5 (by omega) g E (b8 x (by omega) g) (b9 y a5 E)
 refine .kn<|.seq<|.cL [13,15] mixed ?_
 refine .tO 0 rfl .move<|.tO 1 rfl .move<|.tK 2 rfl .move<|.tK 3 rfl .move<|.tO 4 rfl .move<|.tO 5 rfl .move ?_
 refine RA.aL 6 rfl (o) r E rfl rfl rfl (by kernel_rfl) (λd8=>?_)
 refine .tO 7 rfl (.bZ rfl)<|.tO 8 rfl .move<|.tO 9 rfl .move ?_
 refine RA.aL 10 rfl (f) r g rfl rfl rfl (by kernel_rfl) (λd9=>?_)
 refine .tO 11 rfl (.bZ rfl) ?_
 refine RA.aL 12 rfl (f) r g rfl rfl rfl (by kernel_rfl) (λe0=>?_)
 refine .sT 13 rfl ?_
 refine .dv (f) r g y (λa7 W=>?_)
 refine .nil (Next.mod rfl ?_)
 refine RA.aL 14 rfl (o) r E rfl rfl rfl (by kernel_rfl) (λe1=>?_)
 refine .sT 15 rfl ?_
 obtain⟨zz,Z⟩:∃u,(ys.set (f) y)[o]? =some u:=⟨_,aX (by rw[List.length_set];exact(List.getElem?_eq_some_iff.1 E).1)⟩
 refine .dv (o) W Z x (λL F=>?_)
 rw[<-eQ g E]at F
 refine .nil (Next.mod rfl ?_)
 refine RA.nil (by kernel_rfl) ?_
 refine av<|.sr<|.mo rfl ?_
 refine .ia (f+1) .add ?_
 refine .az rfl<|.region<|.mo rfl ?_
 refine .ia (o-1) .sub ?_
 refine .ag rfl<|.nil<|aV ?_
 ·exact aW (f+1,o-1,cX ys f o,L) ⟨F,s.step (by omega) (by omega) (by omega) (by omega) (by omega),b7.2⟩ (by simp only;omega) kE.c.c.c.c rH
theorem qR(v:Value)(xs:List ByteArray)(T:ay)(a b m:Nat)(p:ByteArray)(R:aB)(h:OS 9 1 cg v xs T)(d7:a<b)(hm:a<=m/\m<b)(K:xs[m]? =some p)(hb:b<=xs.length)(hl:xs.length<=1000000000)(hf:iS c ok R)(a4:∀x∈xs,ok x)(so:SO (br c)):
  Spec prog 218 [v,.int .i64 a,.int .i64 b,.int .i64 m] R [T] λu H'=>∃T',H'=[T']/\∃ys mid z,u=.tuple [iN mid,.bool z].toArray/\OS 9 1 cg v ys T'/\RP a b xs ys/\Part (br c) ys a mid b p:=by
 have iv:=h.ap
 obtain⟨x0,a1⟩:∃x,xs[a]? =some x:=⟨_,aX (by omega)⟩
 have g7:=a4 p (aO K)
 refine Spec.body Tryz.func218 rfl Tryz.results218 Tryz.ntmps218 rfl ?_
 refine .sr<|.ag rfl<|.ag rfl<|.zs<|.cL [13,15] mixed ?_
 refine .tO 0 rfl .move<|.tO 1 rfl .move<|.tK 2 rfl .move<|.tK 3 rfl .move<|.tO 4 rfl .move<|.tO 5 rfl .move ?_
 refine RA.aL 6 rfl (m) h K rfl rfl rfl (by kernel_rfl) (λj6=>?_)
 refine .tO 7 rfl (.bZ rfl)<|.tO 8 rfl .move<|.tO 9 rfl .move ?_
 refine RA.aL 10 rfl (a) h a1 rfl rfl rfl (by kernel_rfl) (λj7=>?_)
 refine .tO 11 rfl (.bZ rfl) ?_
 refine RA.aL 12 rfl (a) h a1 rfl rfl rfl (by kernel_rfl) (λj8=>?_)
 refine .sT 13 rfl ?_
 refine .dv (a) h a1 p (λa5 G=>?_)
 refine .nil (Next.mod rfl ?_)
 refine RA.aL 14 rfl (m) h K rfl rfl rfl (by kernel_rfl) (λk0=>?_)
 refine .sT 15 rfl ?_
 obtain⟨zz,H⟩:∃u,(xs.set (a) p)[m]? =some u:=⟨_,aX (by rw[List.length_set];exact(List.getElem?_eq_some_iff.1 K).1)⟩
 refine .dv (m) G H x0 (λJ A=>?_)
 rw[<-eQ a1 K]at A
 refine .nil (Next.mod rfl ?_)
 refine RA.nil (by kernel_rfl) ?_
 have Z:RP a b xs (cX xs a m):=(RP.refl xs).step (by omega) (by omega) (by omega) (by omega) (by omega)
 have I:(cX xs a m)[a]? =some p:=by
  rw[gh (by omega) (by omega)]
  by_cases hk:a=m
  ·rw[if_pos hk,a1, <-K, <-hk,a1]
  ·rw[if_neg hk,if_pos rfl,K]
 obtain⟨w,d2⟩:∃w,w=cX xs a m:=⟨_,rfl⟩
 rw[<-d2]at A Z I
 obtain⟨U,d6⟩:∃U,U=J:=⟨_,rfl⟩
 rw[<-d6]at A⊢
 have g5:=Z.length
 have C:=A
 clear A
 have d5:PQ (λx=>br c x p) w a (a+1) (b-1) b p:=.start d7 I
 clear d2
 refine av<|.sr<|.mo rfl ?_
 refine .ia (a+1) .add ?_
 refine .mo rfl ?_
 refine .ia (b-1) .sub ?_
 refine .ag rfl<|.ag rfl<|.zs ?_
 refine bz.cut (X:=Nat) (λk=>PQ (λx=>br c x p) w a k (b-1) b p/\∀x,k<=b-1->w[k]? =some x->br c x p=false) (λk=>[(0,v),(1,iN a),(10,.int .i64 (k:Nat)),(11,.int .i64 ((b-1:Nat):Int))]) (λ_=>[U]) ?_ ?_
 refine .block ?_
 refine .loop (X:=Nat) (λk=>PQ (λx=>br c x p) w a k (b-1) b p) (λk=>[(0,v),(1,iN a),(10,.int .i64 (k:Nat)),(11,.int .i64 ((b-1:Nat):Int))]) (λ_=>[U]) (λk=>b-k) (a+1) d5 kE.c.c.c.c rH ?_
 rintro M b4
 refine .seq<|.seq ?_
 refine .dt 12 mixed (by kernel_rfl) ?_
 conv=>arg 6;dsimp only[List.take]
 refine .mo rfl<|.mo rfl<|.q .leq<|.mo rfl ?_
 refine .split (t:=33) rfl (λn=>?_) (λn=>?_)
 have e1:M<=b-1:=by have:=bS n;omega
 obtain⟨x2,a9⟩:∃x,w[M]? =some x:=⟨_,aX (by omega)⟩
 have g8:=a4 x2 (Z.perm.mem_iff.1 (aO a9))
 refine .gT n<|.mo rfl<|.gT n<|.mo rfl<|.gT n ?_
 refine .aL M C a9 (λk1=>?_)
 refine .gT n<|.lo rfl<|.gT n<|.mo rfl<|.gT n<|.mo rfl<|.gT n ?_
 refine .aL a C I (λk4=>?_)
 refine .gT n<|.lo rfl<|.nil<|.gT n ?_
 refine .aY (kj hf x2 p _) (λu L=>?_)
 subst L
 refine .q (.aT n) ?_
 refine .zn ?_
 refine .cond rfl (λh1=>?_) λh1=>?_
 refine .kn<|.block<|.region<|.mo rfl ?_
 refine .ia (M+1) .add ?_
 refine .ag rfl<|.nil<|aV ?_
 ·exact aW (M+1) (b4.inc e1 a9 h1) (by omega) kE.c.c.c.c rH
 refine .exit<|bm<|bs<|bo ?_
 exact aF M ⟨b4,λx d B=>by rw[a9]at B;cases B;exact h1⟩ kE.c.c.c.c rH
 refine .gF n<|.gF n<|.gF n<|.gF n<|.gF n<|.gF n<|.gF n<|.gF n<|.nil<|.gF n<|.q (.aS n) ?_
 refine .zn<|.cP<|.exit<|bm<|bs<|bo ?_
 exact aF M ⟨b4,λx d B=>by have:=bA n;omega⟩ kE.c.c.c.c rH
 intro x d
 obtain⟨r,c1⟩:∃r,r=x:=⟨_,rfl⟩
 rw[<-c1]at d⊢
 clear c1 x
 obtain⟨b9,e9⟩:=d
 refine av<|.seq ?_
 refine bz.cut (X:=Nat) (λe=>e<=b-1/\PQ (λx=>br c x p) w a r e b p/\∀x,r<=e->w[e]? =some x->br c x p=true) (λe=>[(0,v),(1,iN a),(10,iN r),(11,.int .i64 (e:Nat))]) (λ_=>[U]) ?_ ?_
 refine .block ?_
 refine .loop (X:=Nat) (λe=>e<=b-1/\PQ (λx=>br c x p) w a r e b p) (λe=>[(0,v),(1,iN a),(10,iN r),(11,.int .i64 (e:Nat))]) (λ_=>[U]) (λe=>e) (b-1) ⟨Nat.le_refl _,b9⟩ kE.c.c.c.c rH ?_
 rintro N ⟨c2,b5⟩
 have d9:=b9.i0
 refine .seq<|.seq ?_
 refine .dt 12 mixed (by kernel_rfl) ?_
 conv=>arg 6;dsimp only[List.take]
 refine .mo rfl<|.mo rfl<|.q .leq<|.mo rfl ?_
 refine .split (t:=49) rfl (λg=>?_) (λg=>?_)
 have e2:r<=N:=by have:=bS g;omega
 obtain⟨x4,b0⟩:∃x,w[N]? =some x:=⟨_,aX (by omega)⟩
 have g9:=a4 x4 (Z.perm.mem_iff.1 (aO b0))
 refine .gT g<|.mo rfl<|.gT g<|.mo rfl<|.gT g ?_
 refine .aL N C b0 (λk5=>?_)
 refine .gT g<|.lo rfl<|.gT g<|.mo rfl<|.gT g<|.mo rfl<|.gT g ?_
 refine .aL a C I (λk6=>?_)
 refine .gT g<|.lo rfl<|.nil<|.gT g ?_
 refine .aY (kj hf x4 p _) (λu L=>?_)
 subst L
 refine .gT g<|.q .not<|.q (.aT g) ?_
 refine .zn ?_
 refine .cond rfl (λh2=>?_) λh2=>?_
 refine .kn<|.block<|.region<|.mo rfl ?_
 refine .ia (N-1) .sub ?_
 refine .ag rfl<|.nil<|aV ?_
 ·have e5:br c x4 p=false:=by
   have d3:(!br c x4 p)=true:=h2
   simpa using d3
  exact aW (N-1) ⟨by omega,b5.dec e2 b0 e5⟩ (by omega) kE.c.c.c.c rH
 refine .exit<|bm<|bs<|bo ?_
 exact aF N ⟨c2,b5,λx d B=>by
  have hh:(!br c x4 p)=false:=h2
  rw[b0]at B;cases B
  simpa using hh⟩ kE.c.c.c.c rH
 refine .gF g<|.gF g<|.gF g<|.gF g<|.gF g<|.gF g<|.gF g<|.gF g<|.nil<|.gF g<|.gF g<|.q (.aS g) ?_
 refine .zn<|.cP<|.exit<|bm<|bs<|bo ?_
 exact aF N ⟨c2,b5,λx d B=>by have:=bA g;omega⟩ kE.c.c.c.c rH
 intro x d
 obtain⟨o,c3⟩:∃o,o=x:=⟨_,rfl⟩
 rw[<-c3]at d⊢
 clear c3 x
 obtain⟨g2,a6,f0⟩:=d
 have d9:=a6.i0
 have f6:=a6.ij
 refine av<|.seq<|.sr<|.mo rfl<|.mo rfl<|.q .gtr<|.zn ?_
 refine .cond rfl (λh3=>?_) λh3=>?_
 have d8:o<r:=cb h3
 obtain⟨y,F⟩:∃x,w[o]? =some x:=⟨_,aX (by omega)⟩
 refine .seq<|.cL [13,15] mixed ?_
 refine .tO 0 rfl .move<|.tO 1 rfl .move<|.tK 2 rfl .move<|.tK 3 rfl .move<|.tO 4 rfl .move<|.tO 5 rfl .move ?_
 refine RA.aL 6 rfl (a) C I rfl rfl rfl (by kernel_rfl) (λk7=>?_)
 refine .tO 7 rfl (.bZ rfl)<|.tO 8 rfl .move<|.tO 9 rfl .move ?_
 refine RA.aL 10 rfl (o) C F rfl rfl rfl (by kernel_rfl) (λk8=>?_)
 refine .tO 11 rfl (.bZ rfl) ?_
 refine RA.aL 12 rfl (o) C F rfl rfl rfl (by kernel_rfl) (λk9=>?_)
 refine .sT 13 rfl ?_
 refine .dv (o) C F p (λa5 G=>?_)
 refine .nil (Next.mod rfl ?_)
 refine RA.aL 14 rfl (a) C I rfl rfl rfl (by kernel_rfl) (λl0=>?_)
 refine .sT 15 rfl ?_
 obtain⟨zz,H⟩:∃u,(w.set (o) p)[a]? =some u:=⟨_,aX (by rw[List.length_set];exact(List.getElem?_eq_some_iff.1 I).1)⟩
 refine .dv (a) G H y (λJ A=>?_)
 rw[<-eQ F I]at A
 refine .nil (Next.mod rfl ?_)
 refine RA.nil (by kernel_rfl) ?_
 refine av<|.sr<|.mo rfl<|.ag rfl<|.az rfl ?_
 refine .ret (aH (bp _ (.two (.tmp rfl) (.tmp rfl)) rH ?_))
 ·exact⟨_,rfl,cX w o a,o,true,rfl,A,Z.step (by omega) (by omega) (by omega) (by omega) (by omega),a6.fin d8 (by omega)⟩
 have c7:r<=o:=by have:=bA h3;omega
 obtain⟨x,d⟩:∃x,w[r]? =some x:=⟨_,aX (by omega)⟩
 obtain⟨y,F⟩:∃x,w[o]? =some x:=⟨_,aX (by omega)⟩
 have e7:=a6.sw c7 (by omega) d F (e9 x (by omega) d) (f0 y c7 F)
 refine .kn<|.seq<|.cL [13,15] mixed ?_
 refine .tO 0 rfl .move<|.tO 1 rfl .move<|.tK 2 rfl .move<|.tK 3 rfl .move<|.tO 4 rfl .move<|.tO 5 rfl .move ?_
 refine RA.aL 6 rfl (o) C F rfl rfl rfl (by kernel_rfl) (λl1=>?_)
 refine .tO 7 rfl (.bZ rfl)<|.tO 8 rfl .move<|.tO 9 rfl .move ?_
 refine RA.aL 10 rfl (r) C d rfl rfl rfl (by kernel_rfl) (λl2=>?_)
 refine .tO 11 rfl (.bZ rfl) ?_
 refine RA.aL 12 rfl (r) C d rfl rfl rfl (by kernel_rfl) (λl3=>?_)
 refine .sT 13 rfl ?_
 refine .dv (r) C d y (λa5 G=>?_)
 refine .nil (Next.mod rfl ?_)
 refine RA.aL 14 rfl (o) C F rfl rfl rfl (by kernel_rfl) (λl4=>?_)
 refine .sT 15 rfl ?_
 obtain⟨zz,H⟩:∃u,(w.set (r) y)[o]? =some u:=⟨_,aX (by rw[List.length_set];exact(List.getElem?_eq_some_iff.1 F).1)⟩
 refine .dv (o) G H x (λJ A=>?_)
 rw[<-eQ d F]at A
 refine .nil (Next.mod rfl ?_)
 refine RA.nil (by kernel_rfl) ?_
 refine av<|.sr<|.mo rfl ?_
 refine .ia (r+1) .add ?_
 refine .ag rfl<|.z<|.mo rfl ?_
 refine .ia (o-1) .sub ?_
 refine .ag rfl<|.zs ?_
 refine bz.cut (X:=Nat×Nat×List ByteArray×ay) (λy=>OS 9 1 cg v y.2.2.1 y.2.2.2/\RP a b xs y.2.2.1/\PQ (λx=>br c x p) y.2.2.1 a y.1 y.2.1 b p/\y.2.1<y.1) (λy=>[(0,v),(1,iN a),(10,iN y.1),(11,iN y.2.1)]) (λy=>[y.2.2.2]) ?_ ?_
 refine .block ?_
 refine .loop (X:=Nat×Nat×List ByteArray×ay) (λy=>OS 9 1 cg v y.2.2.1 y.2.2.2/\RP a b xs y.2.2.1/\PQ (λx=>br c x p) y.2.2.1 a y.1 y.2.1 b p) (λy=>[(0,v),(1,iN a),(10,iN y.1),(11,iN y.2.1)]) (λy=>[y.2.2.2]) (λy=>y.2.1+1-y.1) (r+1,o-1,cX w r o,J) ⟨A,Z.step (by omega) (by omega) (by omega) (by omega) (by omega),e7.2⟩ kE.c.c.c.c rH ?_
 rintro⟨i,j,ys,T1⟩ ⟨E,a0,W⟩
 simp only at E a0 W⊢
 have g4:=a0.length
 have f3:=W.i0
 have f5:=W.ij
 have g0:=W.jb
 have d1:=W.at_
 refine .block<|.seq ?_
 refine bz.cut (X:=Nat) (λk=>i<=k/\PQ (λx=>br c x p) ys a k j b p/\∀x,k<=j->ys[k]? =some x->br c x p=false) (λk=>[(0,v),(1,iN a),(10,.int .i64 (k:Nat)),(11,iN j)]) (λ_=>[T1]) ?_ ?_
 refine .block ?_
 refine .loop (X:=Nat) (λk=>i<=k/\PQ (λx=>br c x p) ys a k j b p) (λk=>[(0,v),(1,iN a),(10,.int .i64 (k:Nat)),(11,iN j)]) (λ_=>[T1]) (λk=>j+1-k) i ⟨Nat.le_refl _,W⟩ kE.c.c.c.c rH ?_
 rintro Q ⟨c5,b7⟩
 refine .seq<|.seq ?_
 refine .dt 12 mixed (by kernel_rfl) ?_
 conv=>arg 6;dsimp only[List.take]
 refine .mo rfl<|.mo rfl<|.q .leq<|.mo rfl ?_
 refine .split (t:=102) rfl (λl=>?_) (λl=>?_)
 have e3:Q<=j:=by have:=bS l;omega
 obtain⟨x6,b1⟩:∃x,ys[Q]? =some x:=⟨_,aX (by omega)⟩
 have h0:=a4 x6 (a0.perm.mem_iff.1 (aO b1))
 refine .gT l<|.mo rfl<|.gT l<|.mo rfl<|.gT l ?_
 refine .aL Q E b1 (λh8=>?_)
 refine .gT l<|.lo rfl<|.gT l<|.mo rfl<|.gT l<|.mo rfl<|.gT l ?_
 refine .aL a E d1 (λh9=>?_)
 refine .gT l<|.lo rfl<|.nil<|.gT l ?_
 refine .aY (kj hf x6 p _) (λu L=>?_)
 subst L
 refine .q (.aT l) ?_
 refine .zn ?_
 refine .cond rfl (λh4=>?_) λh4=>?_
 refine .kn<|.block<|.region<|.mo rfl ?_
 refine .ia (Q+1) .add ?_
 refine .ag rfl<|.nil<|aV ?_
 ·exact aW (Q+1) ⟨by omega,b7.inc e3 b1 h4⟩ (by omega) kE.c.c.c.c rH
 refine .exit<|bm<|bs<|bo ?_
 exact aF Q ⟨c5,b7,λx d B=>by rw[b1]at B;cases B;exact h4⟩ kE.c.c.c.c rH
 refine .gF l<|.gF l<|.gF l<|.gF l<|.gF l<|.gF l<|.gF l<|.gF l<|.nil<|.gF l<|.q (.aS l) ?_
 refine .zn<|.cP<|.exit<|bm<|bs<|bo ?_
 exact aF Q ⟨c5,b7,λx d B=>by have:=bA l;omega⟩ kE.c.c.c.c rH
 intro x d
 obtain⟨s,c6⟩:∃s,s=x:=⟨_,rfl⟩
 rw[<-c6]at d⊢
 clear c6 x
 obtain⟨f9,c0,f1⟩:=d
 refine av<|.seq ?_
 refine bz.cut (X:=Nat) (λe=>e<=j/\PQ (λx=>br c x p) ys a s e b p/\∀x,s<=e->ys[e]? =some x->br c x p=true) (λe=>[(0,v),(1,iN a),(10,iN s),(11,.int .i64 (e:Nat))]) (λ_=>[T1]) ?_ ?_
 refine .block ?_
 refine .loop (X:=Nat) (λe=>e<=j/\PQ (λx=>br c x p) ys a s e b p) (λe=>[(0,v),(1,iN a),(10,iN s),(11,.int .i64 (e:Nat))]) (λ_=>[T1]) (λe=>e) j ⟨Nat.le_refl _,c0⟩ kE.c.c.c.c rH ?_
 rintro S ⟨c9,b8⟩
 have e0:=c0.i0
 refine .seq<|.seq ?_
 refine .dt 12 mixed (by kernel_rfl) ?_
 conv=>arg 6;dsimp only[List.take]
 refine .mo rfl<|.mo rfl<|.q .leq<|.mo rfl ?_
 refine .split (t:=118) rfl (λf=>?_) (λf=>?_)
 have e4:s<=S:=by have:=bS f;omega
 obtain⟨x7,b2⟩:∃x,ys[S]? =some x:=⟨_,aX (by omega)⟩
 have h7:=a4 x7 (a0.perm.mem_iff.1 (aO b2))
 refine .gT f<|.mo rfl<|.gT f<|.mo rfl<|.gT f ?_
 refine .aL S E b2 (λi1=>?_)
 refine .gT f<|.lo rfl<|.gT f<|.mo rfl<|.gT f<|.mo rfl<|.gT f ?_
 refine .aL a E d1 (λi4=>?_)
 refine .gT f<|.lo rfl<|.nil<|.gT f ?_
 refine .aY (kj hf x7 p _) (λu L=>?_)
 subst L
 refine .gT f<|.q .not<|.q (.aT f) ?_
 refine .zn ?_
 refine .cond rfl (λh5=>?_) λh5=>?_
 refine .kn<|.block<|.region<|.mo rfl ?_
 refine .ia (S-1) .sub ?_
 refine .ag rfl<|.nil<|aV ?_
 ·have e6:br c x7 p=false:=by
   have d4:(!br c x7 p)=true:=h5
   simpa using d4
  exact aW (S-1) ⟨by omega,b8.dec e4 b2 e6⟩ (by omega) kE.c.c.c.c rH
 refine .exit<|bm<|bs<|bo ?_
 exact aF S ⟨c9,b8,λx d B=>by
  have hh:(!br c x7 p)=false:=h5
  rw[b2]at B;cases B
  simpa using hh⟩ kE.c.c.c.c rH
 refine .gF f<|.gF f<|.gF f<|.gF f<|.gF f<|.gF f<|.gF f<|.gF f<|.nil<|.gF f<|.gF f<|.q (.aS f) ?_
 refine .zn<|.cP<|.exit<|bm<|bs<|bo ?_
 exact aF S ⟨c9,b8,λx d B=>by have:=bA f;omega⟩ kE.c.c.c.c rH
 intro x d
 obtain⟨D,d0⟩:∃D,D=x:=⟨_,rfl⟩
 rw[<-d0]at d⊢
 clear d0 x
 obtain⟨g3,a7,f2⟩:=d
 have e0:=a7.i0
 have f7:=a7.ij
 refine av<|.seq<|.sr<|.mo rfl<|.mo rfl<|.q .gtr<|.zn ?_
 refine .cond rfl (λh6=>?_) λh6=>?_
 refine .exit (bm (jI (bs (bo ?_))))
 exact aF (s,D,ys,T1) ⟨E,a0,a7,by have:=bS h6;simp only;omega⟩ kE.c.c.c.c rH
 have c8:s<=D:=by have:=bA h6;omega
 obtain⟨x8,a2⟩:∃x,ys[s]? =some x:=⟨_,aX (by omega)⟩
 obtain⟨y8,a3⟩:∃x,ys[D]? =some x:=⟨_,aX (by omega)⟩
 have e8:=a7.sw c8 (by omega) a2 a3 (f1 x8 (by omega) a2) (f2 y8 c8 a3)
 refine .kn<|.seq<|.cL [13,15] mixed ?_
 refine .tO 0 rfl .move<|.tO 1 rfl .move<|.tK 2 rfl .move<|.tK 3 rfl .move<|.tO 4 rfl .move<|.tO 5 rfl .move ?_
 refine RA.aL 6 rfl (D) E a3 rfl rfl rfl (by kernel_rfl) (λi5=>?_)
 refine .tO 7 rfl (.bZ rfl)<|.tO 8 rfl .move<|.tO 9 rfl .move ?_
 refine RA.aL 10 rfl (s) E a2 rfl rfl rfl (by kernel_rfl) (λi6=>?_)
 refine .tO 11 rfl (.bZ rfl) ?_
 refine RA.aL 12 rfl (s) E a2 rfl rfl rfl (by kernel_rfl) (λi7=>?_)
 refine .sT 13 rfl ?_
 refine .dv (s) E a2 y8 (λa5 G=>?_)
 refine .nil (Next.mod rfl ?_)
 refine RA.aL 14 rfl (D) E a3 rfl rfl rfl (by kernel_rfl) (λi8=>?_)
 refine .sT 15 rfl ?_
 obtain⟨zz,H⟩:∃u,(ys.set (s) y8)[D]? =some u:=⟨_,aX (by rw[List.length_set];exact(List.getElem?_eq_some_iff.1 a3).1)⟩
 refine .dv (D) G H x8 (λJ A=>?_)
 rw[<-eQ a2 a3]at A
 refine .nil (Next.mod rfl ?_)
 refine RA.nil (by kernel_rfl) ?_
 refine av<|.sr<|.mo rfl ?_
 refine .ia (s+1) .add ?_
 refine .az rfl<|.region<|.mo rfl ?_
 refine .ia (D-1) .sub ?_
 refine .ag rfl<|.nil<|aV ?_
 ·exact aW (s+1,D-1,cX ys s D,J) ⟨A,a0.step (by omega) (by omega) (by omega) (by omega) (by omega),e8.2⟩ (by simp only;omega) kE.c.c.c.c rH
 intro x d
 obtain⟨i9,O,zs,T9⟩:=x
 obtain⟨V,b6,Y,c4⟩:=d
 simp only at V b6 Y c4⊢
 have g6:=b6.length
 have f8:=Y.ij
 have f4:=Y.i0
 have g1:=Y.jb
 have a8:=Y.at_
 obtain⟨y9,b3⟩:∃x,zs[O]? =some x:=⟨_,aX (by omega)⟩
 refine av<|.seq<|.cL [13,15] mixed ?_
 refine .tO 0 rfl .move<|.tO 1 rfl .move<|.tK 2 rfl .move<|.tK 3 rfl .move<|.tO 4 rfl .move<|.tO 5 rfl .move ?_
 refine RA.aL 6 rfl (a) V a8 rfl rfl rfl (by kernel_rfl) (λj0=>?_)
 refine .tO 7 rfl (.bZ rfl)<|.tO 8 rfl .move<|.tO 9 rfl .move ?_
 refine RA.aL 10 rfl (O) V b3 rfl rfl rfl (by kernel_rfl) (λj1=>?_)
 refine .tO 11 rfl (.bZ rfl) ?_
 refine RA.aL 12 rfl (O) V b3 rfl rfl rfl (by kernel_rfl) (λj4=>?_)
 refine .sT 13 rfl ?_
 refine .dv (O) V b3 p (λa5 G=>?_)
 refine .nil (Next.mod rfl ?_)
 refine RA.aL 14 rfl (a) V a8 rfl rfl rfl (by kernel_rfl) (λj5=>?_)
 refine .sT 15 rfl ?_
 obtain⟨zz,H⟩:∃u,(zs.set (O) p)[a]? =some u:=⟨_,aX (by rw[List.length_set];exact(List.getElem?_eq_some_iff.1 a8).1)⟩
 refine .dv (a) G H y9 (λJ A=>?_)
 rw[<-eQ b3 a8]at A
 refine .nil (Next.mod rfl ?_)
 refine RA.nil (by kernel_rfl) ?_
 refine av<|.sr<|.mo rfl<|.ag rfl<|.az rfl ?_
 refine .ret (bp _ (.two (.tmp rfl) (.tmp rfl)) rH ?_)
 ·exact⟨_,rfl,cX zs O a,O,false,rfl,A,b6.step (by omega) (by omega) (by omega) (by omega) (by omega),Y.fin c4 (by omega)⟩
end
end SST
namespace SST
section
variable{c:ByteArray->ByteArray->Int}{ok:ByteArray->Prop}
def qj(c:ByteArray->ByteArray->Int)(ok:ByteArray->Prop)(n:Nat):Prop:=∀(v:Value) (xs:List ByteArray) (T:ay) (a b kz:Nat) (R:aB),OS 9 1 cg v xs T->a<=b->b<=xs.length->xs.length<=1000000000->kz<=1000000000->iS c ok R->(∀x∈xs,ok x)->LB (br c) xs a b->b-a<n->
  Spec prog 166 [v,.int .i64 a,.int .i64 b,.int .i64 kz] R [T] λu H'=>∃T',H'=[T']/\u=.tuple #[]/\∃ys,OS 9 1 cg v ys T'/\RP a b xs ys/\SR (br c) ys a b
theorem wi(n:Nat)(ih:qj c ok n)(C:SO (br c))(v:Value)(xs:List ByteArray)(T:ay)(s m c4:Nat)(R:aB)(h:OS 9 1 cg v xs T)(d2:s<=m)(hb:m<=xs.length)(hl:xs.length<=1000000000)(d7:c4<=1000000000)(B:iS c ok R)(d9:∀x∈xs,ok x)(d5:LB (br c) xs s m)(hn:m-s<n+1):
  Spec prog 166 [v,.int .i64 s,.int .i64 m,.int .i64 c4] R [T] λu H'=>∃T',H'=[T']/\u=.tuple #[]/\∃ys,OS 9 1 cg v ys T'/\RP s m xs ys/\SR (br c) ys s m:=by
 have iv:=h.ap
 refine Spec.body Tryz.func166 rfl Tryz.results166 Tryz.ntmps166 rfl ?_
 refine .sr<|.ag rfl<|.z<|.az rfl<|.block ?_
 refine .loop (X:=Nat×Nat×Nat×Bool×Bool×List ByteArray×ay) (λy=>(s<=y.1/\y.1<=y.2.1/\y.2.1<=m/\y.2.2.1<=1000000000)/\OS 9 1 cg v y.2.2.2.2.2.1 y.2.2.2.2.2.2/\RP s m xs y.2.2.2.2.2.1/\OX (br c) y.2.2.2.2.2.1 s m y.1 y.2.1) (λy=>[(0,v),(1,iN y.1),(2,iN y.2.1),(3,iN y.2.2.1),(8,.bool y.2.2.2.1),(9,.bool y.2.2.2.2.1)]) (λy=>[y.2.2.2.2.2.2]) (λy=>y.2.1-y.1) (s,m,c4,true,true,xs,T) ⟨⟨Nat.le_refl _,d2,Nat.le_refl _,d7⟩,h,.refl _,.start⟩ kE.c.c.c.c.c.c rH ?_
 rintro⟨a,b,l,wb,wp,ys,T1⟩ ⟨⟨g,b3,i,d4⟩,a6,L,a4⟩
 simp only at g b3 i d4 a6 L a4⊢
 have e7:=L.length
 have b1:∀x∈ys,ok x:=λx E=>d9 x (L.perm.mem_iff.1 E)
 have c6:=a4.lb (d5.rp L) g i
 refine .block<|.sr<|.mo rfl<|.mo rfl ?_
 refine .ia (b-a) .sub ?_
 refine .ag rfl<|.zs<|.sr<|.mo rfl<|.q .leq<|.zn ?_
 refine .cond rfl (λh1=>?_) λh1=>?_
 refine .sr<|.mo rfl<|.mo rfl<|.mo rfl ?_
 refine .dg (uT v ys T1 a b _ a6 b3 (by omega) (by omega) B b1 C) (λu T2 e=>?_)
 obtain⟨rfl,K,H,A,b9⟩:=e
 refine .zn ?_
 refine .ret (aH (bh (cB (bh (bp _ .none rH ?_)))))
 ·exact⟨_,rfl,rfl,K,H,L.trans (A.mono g i (by omega)),(a4.rp A g i).nK b9⟩
 have f1:12<b-a:=by have:=bA h1;omega
 refine .kn<|.seq<|.sr<|.mo rfl<|.q .bQ<|.zn ?_
 refine .cond rfl (λh2=>?_) λh2=>?_
 refine .sr<|.mo rfl<|.mo rfl<|.mo rfl ?_
 refine .dg (uQ v ys T1 a b _ a6 b3 (by omega) (by omega) B b1 C) (λu T2 e=>?_)
 obtain⟨rfl,K,H,A,b9⟩:=e
 refine .zn ?_
 refine .ret (aH (bh (cB (bh (bp _ .none rH ?_)))))
 ·exact⟨_,rfl,rfl,K,H,L.trans (A.mono g i (by omega)),(a4.rp A g i).nK b9⟩
 have e6:0<l:=by
  have e5:¬((l:Int)=0):=by simpa using h2
  omega
 refine .kn<|.seq ?_
 refine bz.cut (X:=Nat×List ByteArray×ay) (λz=>z.1<=1000000000/\OS 9 1 cg v z.2.1 z.2.2/\RP a b ys z.2.1) (λz=>[(0,v),(1,iN a),(2,iN b),(3,iN z.1),(8,.bool wb),(9,.bool wp),(10,.int .i64 ((b-a:Nat):Int))]) (λz=>[z.2.2]) ?_ ?_
 refine .sr<|.mo rfl<|.q .not<|.zn ?_
 refine .cond rfl (λh3=>?_) λh3=>?_
 refine .sr<|.mo rfl<|.mo rfl<|.mo rfl ?_
 refine .dg (tV v ys T1 a b _ a6 b3 (by omega) (by omega)) (λu T2 e=>?_)
 obtain⟨rfl,K,H,A⟩:=e
 refine .zn<|.region<|.mo rfl ?_
 refine .ia (l-1) .sub ?_
 refine .ag rfl<|.nil ?_
 ·exact aF (l-1,K,T2) ⟨by simp only;omega,H,A⟩ kE.c.c.c.c.c.c.c rH
 refine .skip ?_
 ·exact aF (l,ys,T1) ⟨by simp only;omega,a6,.refl _⟩ kE.c.c.c.c.c.c.c rH
 intro y hy
 obtain⟨F,K,T2⟩:=y
 obtain⟨J,H,A⟩:=hy
 simp only at J H A⊢
 have e8:=A.length
 have e0:∀x∈K,ok x:=λx E=>b1 x (A.perm.mem_iff.1 E)
 refine av<|.sr<|.mo rfl<|.mo rfl<|.mo rfl ?_
 refine .aY (choose_spec v K a b _ (H.rs λp Z=>.inr (by simpa using Z)) (by omega) (by omega) (by omega) (B.mono λb o hb=>.inl hb) e0) (λu e=>?_)
 obtain⟨pv,d3,rfl,e2,e3⟩:=e
 refine .mo rfl<|.q .extract<|.q .extract<|.ag rfl<|.ag rfl<|.zs ?_
 refine bz.cut (X:=Nat×Int×List ByteArray×ay) (λz=>(a<=z.1/\z.1<b)/\OS 9 1 cg v z.2.2.1 z.2.2.2/\RP a b ys z.2.2.1) (λz=>[(0,v),(1,iN a),(2,iN b),(3,iN F),(8,.bool wb),(9,.bool wp),(10,.int .i64 ((b-a:Nat):Int)),(11,iN z.1),(12,.int .i64 z.2.1)]) (λz=>[z.2.2.2]) ?_ ?_
 refine .sr<|.mo rfl<|.q .bQ<|.zn ?_
 refine .cond rfl (λh4=>?_) λh4=>?_
 refine .sr<|.mo rfl<|.mo rfl<|.mo rfl ?_
 refine .dg (wx v K T2 a b _ H (by omega) (by omega) (by omega)) (λu T3 e=>?_)
 obtain⟨rfl,ws,c8,c9⟩:=e
 refine .z<|.mo rfl ?_
 refine .ia (b-1) .sub ?_
 refine .mo rfl<|.mo rfl ?_
 refine .ia (pv-a) .sub ?_
 refine .ia ((b-1)-(pv-a)) .sub ?_
 refine .az rfl<|.region<|.ag rfl<|.nil ?_
 ·exact aF ((b-1)-(pv-a),1,ws,T3) ⟨by simp only;omega,c8,A.trans c9⟩ kE.c.c.c.c.c.c.c.c.c rH
 refine .skip ?_
 ·exact aF (pv,d3,K,T2) ⟨⟨e2,e3⟩,H,A⟩ kE.c.c.c.c.c.c.c.c.c rH
 intro y hy
 obtain⟨q,f2,us,T4⟩:=y
 obtain⟨⟨b5,b6⟩,a7,I⟩:=hy
 simp only at b5 b6 a7 I⊢
 have e9:=I.length
 have e1:∀x∈us,ok x:=λx E=>b1 x (I.perm.mem_iff.1 E)
 refine av<|.seq ?_
 refine bz.cut (X:=List ByteArray×ay) (λz=>OS 9 1 cg v z.1 z.2/\RP a b ys z.1) (λz=>[(0,v),(1,iN a),(2,iN b),(3,iN F),(8,.bool wb),(9,.bool wp),(10,.int .i64 ((b-a:Nat):Int)),(11,iN q)]) (λz=>[z.2]) ?_ ?_
 refine .sr<|.mo rfl<|.mo rfl ?_
 refine .split (t:=62) rfl (λa5=>?_) (λa5=>?_)
 refine .gT a5<|.mo rfl<|.q (.aT a5) ?_
 refine .mo rfl ?_
 refine .split (t:=65) rfl (λO=>?_) (λO=>?_)
 refine .gT O<|.mo rfl<|.gT O<|.q .bQ<|.q (.aT O) ?_
 refine .zn ?_
 refine .cond rfl (λh5=>?_) λh5=>?_
 refine .sr<|.mo rfl<|.mo rfl<|.mo rfl ?_
 refine .dg (vW v us T4 a b _ a7 (by omega) (by omega) (by omega) B e1 C (c6.rp I)) (λu T5 e=>?_)
 obtain⟨ms,mb,rfl,c5,b8,d0⟩:=e
 refine .zn ?_
 refine .cond rfl (λh6=>?_) λh6=>?_
 refine .ret (iZ (aH (bh (cB (bh (bp _ .none rH ?_))))))
 ·exact⟨_,rfl,rfl,ms,c5,L.trans ((I.trans b8).mono g i (by omega)),(a4.rp (I.trans b8) g i).nK (d0 (by assumption))⟩
 refine .skip ?_
 ·exact aF (ms,T5) ⟨c5,I.trans b8⟩ kE.c.c.c.c.c.c.c.c rH
 refine .skip ?_
 ·exact aF (us,T4) ⟨a7,I⟩ kE.c.c.c.c.c.c.c.c rH
 refine .gF O<|.gF O<|.q (.aS O) ?_
 refine .zn<|.cP<|.skip ?_
 ·exact aF (us,T4) ⟨a7,I⟩ kE.c.c.c.c.c.c.c.c rH
 refine .gF a5<|.q (.aS a5) ?_
 refine .mo rfl<|.gX<|.gX<|.q .db<|.zn<|.cP<|.skip ?_
 ·exact aF (us,T4) ⟨a7,I⟩ kE.c.c.c.c.c.c.c.c rH
 intro y hy
 obtain⟨a1,T6⟩:=y
 obtain⟨a2,a3⟩:=hy
 simp only at a2 a3⊢
 have f0:=a3.length
 have Y:∀x∈a1,ok x:=λx E=>b1 x (a3.perm.mem_iff.1 E)
 have b7:RP s m xs a1:=L.trans (a3.mono g i (by omega))
 have c0:=a4.rp a3 g i
 have c1:=c6.rp a3
 obtain⟨p,Z⟩:∃x,a1[q]? =some x:=⟨_,aX (by omega)⟩
 have f3:=Y p (aO Z)
 refine av<|.seq<|.seq ?_
 refine .dt 12 mixed (by kernel_rfl) ?_
 conv=>arg 6;dsimp only[List.take]
 refine .mo rfl<|.q .gtr<|.mo rfl ?_
 refine .split (t:=75) rfl (λf=>?_) (λf=>?_)
 have d1:0<a:=by have:=bS f;omega
 obtain⟨w,hw⟩:∃x,a1[a-1]? =some x:=⟨_,aX (by omega)⟩
 have f4:=Y w (aO hw)
 refine .gT f<|.mo rfl<|.gT f<|.mo rfl<|.gT f ?_
 refine .ia (a-1) .sub ?_
 refine .gT f ?_
 refine .aL (a-1) a2 hw (λf5=>?_)
 refine .gT f<|.lo rfl<|.gT f<|.mo rfl<|.gT f<|.mo rfl<|.gT f ?_
 refine .aL q a2 Z (λf6=>?_)
 refine .gT f<|.lo rfl<|.nil<|.gT f ?_
 refine .aY (kj B w p _) (λu e=>?_)
 subst e
 refine .gT f<|.q .not<|.q (.aT f) ?_
 refine .zn ?_
 refine .cond rfl (λh7=>?_) λh7=>?_
 have d8:br c w p=false:=by
  have c7:(!br c w p)=true:=h7
  simpa using c7
 refine .sr<|.mo rfl<|.mo rfl<|.mo rfl<|.mo rfl ?_
 refine .dg (vU v a1 T6 a b q p _ a2 (by omega) ⟨b5,b6⟩ Z (by omega) (by omega) B Y C (c1.Au C d1 hw d8)) (λu M e=>?_)
 obtain⟨G,j,rfl,Q,r,k⟩:=e
 have b4:=k.lo
 have c3:=k.hi
 refine .ag rfl<|.z<|.mo rfl<|.az rfl<|.exit<|bm<|bo ?_
 ·exact aW (j,b,F,_,_,G,M) ⟨⟨by simp only;omega,c3,i,J⟩,Q,b7.trans (r.mono g i (by omega)),(c0.rp r g i).yy C k⟩ (by simp only;omega) ((((((kE.d rfl).d rfl).d rfl).d rfl).d rfl).d rfl) rH
 refine .kn<|.sr<|.mo rfl<|.mo rfl<|.mo rfl<|.mo rfl ?_
 refine .dg (qR v a1 T6 a b q p _ a2 (by omega) ⟨b5,b6⟩ Z (by omega) (by omega) B Y C) (λu M e=>?_)
 obtain⟨G,j,e4,rfl,Q,r,k⟩:=e
 have b4:=k.lo
 have c3:=k.hi
 have d6:=r.length
 have b2:∀x∈G,ok x:=λx E=>Y x (r.perm.mem_iff.1 E)
 have a9:=c0.rp r g i
 have a8:RP s m xs G:=b7.trans (r.mono g i (by omega))
 have c2:=c1.rp r
 refine .mo rfl<|.q .extract<|.q .extract<|.ag rfl<|.ag rfl<|.z<|.mo rfl<|.ag rfl<|.z<|.mo rfl<|.mo rfl ?_
 refine .ia (j-a) .sub ?_
 refine .mo rfl<|.mo rfl ?_
 refine .ia (b-j) .sub ?_
 refine .ag rfl<|.ag rfl<|.z<|.mo rfl ?_
 refine .q (.i64 (((b-a)/8:Nat):Int) .quo ⟨by rw[Int.tdiv_eq_ediv_of_nonneg (by omega)];omega,by omega,by omega⟩) ?_
 refine .ag rfl<|.z<|.mo rfl<|.mo rfl<|.q .lss<|.zn ?_
 refine .cond rfl (λh8=>?_) λh8=>?_
 refine .sr<|.mo rfl<|.mo rfl<|.q .geq<|.ag rfl<|.z<|.mo rfl<|.mo rfl<|.mo rfl<|.mo rfl ?_
 refine .dg (ih v G M a j F _ Q (by omega) (by omega) (by omega) J B b2 (c2.less (by omega)) (by omega)) (λu N e=>?_)
 obtain⟨rfl,rs,S,D,V⟩:=e
 have W:=a9.left C k D V g i (by omega)
 have U:=a8.trans (D.mono g (by omega) (by omega))
 refine .zn<|.region<|.mo rfl ?_
 refine .ia (j+1) .add ?_
 refine .ag rfl<|.nil<|aV ?_
 ·exact aW (j+1,b,F,_,_,rs,N) ⟨⟨by simp only;omega,by simp only;omega,by simp only;omega,J⟩,S,U,W⟩ (by simp only;omega) ((((((kE.d rfl).d rfl).d rfl).d rfl).d rfl).d rfl) rH
 refine .sr<|.mo rfl<|.mo rfl<|.q .geq<|.ag rfl<|.z<|.mo rfl<|.mo rfl ?_
 refine .ia (j+1) .add ?_
 refine .mo rfl<|.mo rfl ?_
 refine .dg (ih v G M (j+1) b F _ Q (by omega) (by omega) (by omega) J B b2 k.lb (by omega)) (λu N e=>?_)
 obtain⟨rfl,rs,S,D,V⟩:=e
 have W:=a9.right C k D V g i (by omega)
 have U:=a8.trans (D.mono (by omega) i (by omega))
 refine .zn<|.region<|.mo rfl<|.ag rfl<|.nil<|aV ?_
 ·exact aW (a,j,F,_,_,rs,N) ⟨⟨g,b4,by simp only;omega,J⟩,S,U,W⟩ (by simp only;omega) ((((((kE.d rfl).d rfl).d rfl).d rfl).d rfl).d rfl) rH
 refine .gF f<|.gF f<|.gF f<|.gF f<|.gF f<|.gF f<|.gF f<|.gF f<|.gF f<|.nil<|.gF f<|.gF f<|.q (.aS f) ?_
 refine .zn<|.cP<|.kn<|.sr<|.mo rfl<|.mo rfl<|.mo rfl<|.mo rfl ?_
 refine .dg (qR v a1 T6 a b q p _ a2 (by omega) ⟨b5,b6⟩ Z (by omega) (by omega) B Y C) (λu M e=>?_)
 obtain⟨G,j,e4,rfl,Q,r,k⟩:=e
 have b4:=k.lo
 have c3:=k.hi
 have d6:=r.length
 have b2:∀x∈G,ok x:=λx E=>Y x (r.perm.mem_iff.1 E)
 have a9:=c0.rp r g i
 have a8:RP s m xs G:=b7.trans (r.mono g i (by omega))
 have c2:=c1.rp r
 refine .mo rfl<|.q .extract<|.q .extract<|.ag rfl<|.ag rfl<|.z<|.mo rfl<|.ag rfl<|.z<|.mo rfl<|.mo rfl ?_
 refine .ia (j-a) .sub ?_
 refine .mo rfl<|.mo rfl ?_
 refine .ia (b-j) .sub ?_
 refine .ag rfl<|.ag rfl<|.z<|.mo rfl ?_
 refine .q (.i64 (((b-a)/8:Nat):Int) .quo ⟨by rw[Int.tdiv_eq_ediv_of_nonneg (by omega)];omega,by omega,by omega⟩) ?_
 refine .ag rfl<|.z<|.mo rfl<|.mo rfl<|.q .lss<|.zn ?_
 refine .cond rfl (λh8=>?_) λh8=>?_
 refine .sr<|.mo rfl<|.mo rfl<|.q .geq<|.ag rfl<|.z<|.mo rfl<|.mo rfl<|.mo rfl<|.mo rfl ?_
 refine .dg (ih v G M a j F _ Q (by omega) (by omega) (by omega) J B b2 (c2.less (by omega)) (by omega)) (λu N e=>?_)
 obtain⟨rfl,rs,S,D,V⟩:=e
 have W:=a9.left C k D V g i (by omega)
 have U:=a8.trans (D.mono g (by omega) (by omega))
 refine .zn<|.region<|.mo rfl ?_
 refine .ia (j+1) .add ?_
 refine .ag rfl<|.nil<|aV ?_
 ·exact aW (j+1,b,F,_,_,rs,N) ⟨⟨by simp only;omega,by simp only;omega,by simp only;omega,J⟩,S,U,W⟩ (by simp only;omega) ((((((kE.d rfl).d rfl).d rfl).d rfl).d rfl).d rfl) rH
 refine .sr<|.mo rfl<|.mo rfl<|.q .geq<|.ag rfl<|.z<|.mo rfl<|.mo rfl ?_
 refine .ia (j+1) .add ?_
 refine .mo rfl<|.mo rfl ?_
 refine .dg (ih v G M (j+1) b F _ Q (by omega) (by omega) (by omega) J B b2 k.lb (by omega)) (λu N e=>?_)
 obtain⟨rfl,rs,S,D,V⟩:=e
 have W:=a9.right C k D V g i (by omega)
 have U:=a8.trans (D.mono (by omega) i (by omega))
 refine .zn<|.region<|.mo rfl<|.ag rfl<|.nil<|aV ?_
 ·exact aW (a,j,F,_,_,rs,N) ⟨⟨g,b4,by simp only;omega,J⟩,S,U,W⟩ (by simp only;omega) ((((((kE.d rfl).d rfl).d rfl).d rfl).d rfl).d rfl) rH
theorem wh(p:SO (br c))(n:Nat):qj c ok n:=by
 induction n with
 |zero=>exact λv e T a b d R _ _ _ _ _ _ _ _ q=>by omega
 |succ n ih=>exact λv e T a b d R f g h i j k l m o=>wi n ih p v e T a b d R f g h i j k l m o
end
end SST
namespace SST
section
variable{c:ByteArray->ByteArray->Int}{ok:ByteArray->Prop}
theorem tx(v:Value)(xs:List ByteArray)(T:ay)(R:aB)(h:OS 9 1 cg v xs T)(j:xs.length<=1000000000)(i:iS c ok R)(k:∀x∈xs,ok x)(l:SO (br c)):
  Spec prog 102 [v] R [T] λu H'=>∃T',H'=[T']/\u=.tuple #[]/\∃ys,OS 9 1 cg v ys T'/\ys.Perm xs/\SR (br c) ys 0 ys.length:=by
 have p:=h.ap
 have g:Lib.bitLen xs.length<=1000000000:=by
  have o:=bitLen_le 64 xs.length
  have n:Lib.bitLen xs.length=Lib.bitLenAux 64 xs.length:=rfl
  omega
 refine Spec.body Tryz.func102 rfl Tryz.results102 Tryz.ntmps102 rfl<|.sr<|.mo rfl<|.q (.dK h)<|.az rfl<|.region<|.mo rfl<|.mo rfl<|.mo rfl<|.q (bB.cast (v':=.int .u64 ((xs.length:Nat):Int)) .oa (by rw[oV (by omega) (by omega)]))<|.aY (u9 xs.length (by omega) _) (λu a=>?_)
 subst a
 refine .dg (wh l (xs.length+1) v xs T 0 xs.length (Lib.bitLen xs.length) _ h (Nat.zero_le _) (Nat.le_refl _) j g i k (λd=>absurd d (by omega)) (by omega)) (λu m a=>?_)
 obtain⟨rfl,ys,e,b,f⟩:=a
 refine .nil<|gg _ .none rH ?_
 ·exact⟨_,rfl,rfl,ys,e,b.perm,b.length▸f⟩
end
end SST
namespace STP
section
variable{c:aE->aE->Int}{ok:aE->Prop}{f:FuncId}{caps:List Value} [e:aZ prog f]
theorem uT(v:Value)(xs:List aE)(T:ay)(a b:Nat)(R:aB)(h:OS 119 7 aE.enc v xs T)(a2:a<=b)(H:b<=xs.length)(hl:xs.length<=1000000000)(N:iR prog f caps R (λt:aE=>Value.agg t.enc.toArray) c ok)(I:∀x∈xs,ok x)(D:SO (br c)):
  Spec prog 233 [v,.int .i64 a,.int .i64 b,.func (.func f) #[] caps.toArray] R [T] λu H'=>∃T',H'=[T']/\u=.tuple #[]/\∃ys,OS 119 7 aE.enc v ys T'/\RP a b xs ys/\SR (br c) ys a b:=by
 have iv:=h.ap
 refine Spec.body Tryz.func233 rfl Tryz.results233 Tryz.ntmps233 rfl ?_
 refine .sr<|.mo rfl ?_
 refine .ia (a+1) .add ?_
 refine .az rfl<|.block ?_
 refine .loop (X:=Nat×List aE×ay) (λy=>(a+1<=y.1/\(y.1<=b\/y.1=a+1))/\OS 119 7 aE.enc v y.2.1 y.2.2/\RP a b xs y.2.1/\SR (br c) y.2.1 a y.1) (λy=>[(0,v),(1,iN a),(2,iN b),(3,.func (.func f) #[] caps.toArray),(8,iN y.1)]) (λy=>[y.2.2]) (λy=>b-y.1) (a+1,xs,T) ⟨⟨by simp only;omega,.inr rfl⟩,h,.refl _,λi j n p F=>by simp only at F;omega⟩ kE.c.c.c.c.c rH ?_
 rintro⟨i,ys,L⟩ ⟨⟨O,Q⟩,B,z,C⟩
 simp only at O Q B z C⊢
 have a5:=z.length
 refine .seq<|.sr<|.mo rfl<|.mo rfl<|.q .lss<|.zn ?_
 refine .cond rfl (λn=>?_) λn=>?_
 have a4:i<b:=by simp at n;omega
 refine .kn<|.seq<|.block<|.sr<|.mo rfl<|.az rfl<|.block ?_
 refine .loop (X:=Nat×List aE×ay) (λy=>(a<=y.1/\y.1<=i)/\OS 119 7 aE.enc v y.2.1 y.2.2/\RP a b xs y.2.1/\lu (br c) y.2.1 a y.1 (i+1)) (λy=>[(0,v),(1,iN a),(2,iN b),(3,.func (.func f) #[] caps.toArray),(8,iN i),(9,iN y.1)]) (λy=>[y.2.2]) (λy=>y.1) (i,ys,L) ⟨⟨by simp only;omega,Nat.le_refl _⟩,B,z,C.ins⟩ kE.c.c.c.c.c.c rH ?_
 rintro⟨j,r,E⟩ ⟨⟨S,U⟩,e,m,s⟩
 simp only at S U e m s⊢
 have a6:=m.length
 refine .seq<|.seq ?_
 refine .dt 14 mixed (by kernel_rfl) ?_
 conv=>arg 6;dsimp only[List.take]
 refine .mo rfl<|.mo rfl<|.q .gtr<|.mo rfl ?_
 refine .split (t:=21) rfl (λd=>?_) (λd=>?_)
 have G:a<j:=by have:=bS d;omega
 obtain⟨x,g⟩:∃x,r[j]? =some x:=⟨_,aX (by omega)⟩
 obtain⟨y,l⟩:∃x,r[j-1]? =some x:=⟨_,aX (by omega)⟩
 have Z:=I x (m.perm.mem_iff.1 (aO g))
 have a0:=I y (m.perm.mem_iff.1 (aO l))
 refine .gT d<|.mo rfl<|.gT d<|.mo rfl<|.gT d<|.mo rfl<|.gT d ?_
 refine .aL j e g (λa7=>?_)
 refine .gT d<|.q (.aM rfl)<|.gT d<|.mo rfl<|.gT d<|.mo rfl<|.gT d ?_
 refine .ia (j-1) .sub ?_
 refine .gT d ?_
 refine .aL (j-1) e l (λa8=>?_)
 refine .gT d<|.q (.aM rfl)<|.nil<|.gT d ?_
 refine .gy (first:=[]) (captured:=caps) (vs:=[(λt:aE=>Value.agg t.enc.toArray) x,(λt:aE=>Value.agg t.enc.toArray) y]) (N x y Z a0 _ (λb o H=>.inl H)) (λu A=>?_)
 subst A
 refine .gT d<|.q .lss<|.q (.aT d) ?_
 refine .zn ?_
 refine .cond rfl (λp=>?_) λp=>?_
 refine .kn<|.seq<|.block<|.cL [15,17] mixed ?_
 refine .tO 0 rfl .move<|.tO 1 rfl .move<|.tK 2 rfl .move<|.tK 3 rfl .move ?_
 refine .take 4 rfl (.i64 ((j-1:Nat):Int) .sub ⟨by omega,by omega,by omega⟩) (by kernel_rfl) ?_
 refine .tO 5 rfl .move<|.tO 6 rfl .move ?_
 refine .fw 7 rfl (.i64 ((j-1:Nat):Int) .sub ⟨by omega,by omega,by omega⟩) (by kernel_rfl) ?_
 refine RA.aL 8 rfl (j-1) e l rfl rfl rfl (by kernel_rfl) (λa9=>?_)
 refine .tO 9 rfl (.aM rfl)<|.tO 10 rfl .move<|.tO 11 rfl .move ?_
 refine RA.aL 12 rfl (j) e g rfl rfl rfl (by kernel_rfl) (λb0=>?_)
 refine .tO 13 rfl (.aM rfl) ?_
 refine RA.aL 14 rfl (j) e g rfl rfl rfl (by kernel_rfl) (λb1=>?_)
 refine .sT 15 rfl ?_
 refine .eD (j) e g y (λa1 W=>?_) (e.one _ (aO l))
 refine .nil (Next.mod rfl ?_)
 refine RA.aL 16 rfl (j-1) e l rfl rfl rfl (by kernel_rfl) (λb2=>?_)
 refine .sT 17 rfl ?_
 obtain⟨zz,Y⟩:∃u,(r.set (j) y)[j-1]? =some u:=⟨_,aX (by rw[List.length_set];exact(List.getElem?_eq_some_iff.1 l).1)⟩
 refine .eD (j-1) W Y x (λM J=>?_) (e.one _ (aO g))
 rw[<-eQ g l]at J
 refine .nil (Next.mod rfl ?_)
 refine RA.nil (by kernel_rfl) ?_
 refine aV<|av<|.region<|.mo rfl ?_
 refine .ia (j-1) .sub ?_
 refine .ag rfl<|.nil ?_
 ·have V:br c x y=true:=p
  exact aW (j-1,cX r j (j-1),M) ⟨⟨by simp only;omega,by simp only;omega⟩,J,m.step (by omega) (by omega) (by omega) (by omega) (by omega),s.step D (by omega) (by omega) G g l V⟩ (by simp only;omega) kE.c.c.c.c.c.c rH
 refine .exit<|bm<|bs<|bo<|aV<|av<|.region<|.mo rfl ?_
 refine .ia (i+1) .add ?_
 refine .ag rfl<|.nil ?_
 ·refine aW (i+1,r,E) ⟨⟨by simp only;omega,.inl (by simp only;omega)⟩,e,m,s.done D (by omega) (by omega) ?_⟩ (by simp only;omega) kE.c.c.c.c.c rH
  exact .inr ⟨G,λu w A K=>by
   rw[l]at A;rw[g]at K;cases A;cases K;exact p⟩
 refine .gF d<|.gF d<|.gF d<|.gF d<|.gF d<|.gF d<|.gF d<|.gF d<|.gF d<|.gF d<|.nil<|.gF d<|.gF d<|.q (.aS d) ?_
 refine .zn<|.cP<|.exit<|bm<|bs<|bo<|aV<|av<|.region<|.mo rfl ?_
 refine .ia (i+1) .add ?_
 refine .ag rfl<|.nil ?_
 ·refine aW (i+1,r,E) ⟨⟨by simp only;omega,.inl (by simp only;omega)⟩,e,m,s.done D (by omega) (by omega) ?_⟩ (by simp only;omega) kE.c.c.c.c.c rH
  exact .inl (by have:=bA d;omega)
 refine .exit<|bm<|bs<|bo<|gg _ .none rH ?_
 ·have a3:b<=i:=by simp at n;omega
  exact⟨_,rfl,rfl,ys,B,z,λj k n p F=>C j k n p (by omega)⟩
theorem rb(v:Value)(xs:List aE)(T:ay)(lo k d:Nat)(R:aB)(h:OS 119 7 aE.enc v xs T)(b0:lo<=k)(S:d+k<=xs.length)(hl:xs.length<=1000000000)(hf:iR prog f caps R (λt:aE=>Value.agg t.enc.toArray) c ok)(a2:∀x∈xs,ok x)(I:SO (br c)):
    Spec prog 257 [v,.int .i64 lo,.int .i64 k,.int .i64 d,.func (.func f) #[] caps.toArray] R [T] λu H'=>∃T',H'=[T']/\u=.tuple #[]/\∃ys,OS 119 7 aE.enc v ys T'/\RP d (d+k) xs ys/\
      (kp (λx y=>br c y x) (xs.drop d) k lo lo->jE (λx y=>br c y x) (ys.drop d) k lo):=by
  have iv:=h.ap
  have a7:=I.rev
  refine Spec.body Tryz.func257 rfl Tryz.results257 Tryz.ntmps257 rfl ?_
  refine .sr<|.mo rfl<|.az rfl<|.block ?_
  refine .loop (X:=Nat×List aE×ay) (λy=>(lo<=y.1/\y.1<=k)/\OS 119 7 aE.enc v y.2.1 y.2.2/\RP d (d+k) xs y.2.1/\(kp (λx y=>br c y x) (xs.drop d) k lo lo->kp (λx y=>br c y x) (y.2.1.drop d) k lo y.1)) (λy=>[(0,v),(2,iN k),(3,iN d),(4,.func (.func f) #[] caps.toArray),(10,iN y.1)]) (λy=>[y.2.2]) (λy=>k-y.1) (lo,xs,T) ⟨⟨Nat.le_refl _,b0⟩,h,.refl _,λh=>h⟩ kE.c.c.c.c.c rH ?_
  rintro⟨r,ys,T1⟩ ⟨⟨a4,b2⟩,l,C,Q⟩
  simp only at a4 b2 l C Q⊢
  have c0:=C.length
  have b9:(ys.drop d).length=ys.length-d:=List.length_drop
  refine .block<|.sr<|.mo rfl ?_
  refine .ia (2*r) .mul ?_
  refine .ia (2*r+1) .add ?_
  refine .ag rfl<|.zs<|.sr<|.mo rfl<|.mo rfl<|.q .geq<|.zn ?_
  refine .cond rfl (λM=>?_) λM=>?_
  have b7:k<=2*r+1:=by have:=bS M;omega
  refine .exit (bm (jI (bs (bo ?_))))
  refine gg _ .none rH ?_
  ·refine⟨_,rfl,rfl,ys,l,C,λO=>(Q O).stop λa E G m u w g hw=>?_⟩
   (simp only[bV]at m;omega)
  have L:2*r+1<k:=by have:=bA M;omega
  obtain⟨K,B⟩:∃y,ys[d+r]? =some y:=⟨_,aX (by omega)⟩
  obtain⟨p,n⟩:∃y,ys[d+(2*r+1)]? =some y:=⟨_,aX (by omega)⟩
  have b5:=a2 K (C.perm.mem_iff.1 (aO B))
  have H:=a2 p (C.perm.mem_iff.1 (aO n))
  refine .kn<|.seq ?_
  refine bz.cut (X:=Nat×aE) (λz=>0<z.1/\z.1<k/\bV z.1=r/\ys[d+z.1]? =some z.2/\ok z.2/\∀a u,0<a->a<k->bV a=r->ys[d+a]? =some u->br c z.2 u=false) (λz=>[(0,v),(2,iN k),(3,iN d),(4,.func (.func f) #[] caps.toArray),(10,iN r),(11,iN z.1)]) (λz=>[T1]) ?_ ?_
  refine .seq ?_
  refine .dt 19 mixed (by kernel_rfl) ?_
  conv=>arg 6;dsimp only[List.take]
  refine .mo rfl ?_
  refine .ia (2*r+2) .add ?_
  refine .mo rfl<|.q .lss<|.mo rfl ?_
  refine .split (t:=23) rfl (λe=>?_) (λe=>?_)
  have Z:2*r+2<k:=by have:=bS e;omega
  obtain⟨J,A⟩:∃y,ys[d+(2*r+2)]? =some y:=⟨_,aX (by omega)⟩
  have U:=a2 J (C.perm.mem_iff.1 (aO A))
  refine .gT e<|.mo rfl<|.gT e<|.mo rfl<|.gT e<|.mo rfl<|.gT e<|.mo rfl<|.gT e ?_
  refine .ia (d+(2*r+1)) .add ?_
  refine .gT e ?_
  refine .aL (d+(2*r+1)) l n (λc1=>?_)
  refine .gT e<|.q (.aM rfl)<|.gT e<|.mo rfl<|.gT e<|.mo rfl<|.gT e<|.mo rfl<|.gT e ?_
  refine .ia (d+(2*r+1)) .add ?_
  refine .gT e ?_
  refine .ia (d+(2*r+2)) .add ?_
  refine .gT e ?_
  refine .aL (d+(2*r+2)) l A (λc2=>?_)
  refine .gT e<|.q (.aM rfl)<|.nil<|.gT e ?_
  refine .gy (first:=[]) (captured:=caps) (vs:=[(λt:aE=>Value.agg t.enc.toArray) p,(λt:aE=>Value.agg t.enc.toArray) J]) (hf p J H U _ (λb o S=>.inl S)) (λu g=>?_)
  subst g
  refine .gT e<|.q .lss<|.q (.aT e) ?_
  refine .zn ?_
  refine .cond rfl (λF=>?_) λF=>?_
  have a1:∀a u,0<a->a<k->bV a=r->ys[d+a]? =some u->br c J u=false:=λa u E G m g=>by
    have:a=2*r+1\/a=2*r+2:=by simp only[bV]at m;omega
    rcases this with rfl|rfl
    ·rw[n]at g;cases g;exact I.lT F
    ·rw[A]at g;cases g;exact I.ig _
  refine .region<|.mo rfl ?_
  refine .ia (2*r+2) .add ?_
  refine .ag rfl<|.nil ?_
  ·first
      |exact aF (2*r+2,J) ⟨by simp only;omega,Z,by simp only[bV];omega,A,U,a1⟩ kE.c.c.c.c.c.c rH
      |exact aF (2*r+1,p) ⟨by simp only;omega,L,by simp only[bV];omega,n,H,s⟩ kE.c.c.c.c.c.c rH
      |(have s:∀a u,0<a->a<k->bV a=r->ys[d+a]? =some u->br c p u=false:=λa u E G m g=>by
           have:a=2*r+1\/a=2*r+2:=by simp only[bV]at m;omega
           rcases this with rfl|rfl
           ·rw[n]at g;cases g;exact I.ig _
           ·rw[A]at g;cases g;exact F
        exact aF (2*r+1,p) ⟨by simp only;omega,L,by simp only[bV];omega,n,H,s⟩ kE.c.c.c.c.c.c rH)
  refine .skip ?_
  ·first
      |exact aF (2*r+2,J) ⟨by simp only;omega,Z,by simp only[bV];omega,A,U,a1⟩ kE.c.c.c.c.c.c rH
      |exact aF (2*r+1,p) ⟨by simp only;omega,L,by simp only[bV];omega,n,H,s⟩ kE.c.c.c.c.c.c rH
      |(have s:∀a u,0<a->a<k->bV a=r->ys[d+a]? =some u->br c p u=false:=λa u E G m g=>by
           have:a=2*r+1\/a=2*r+2:=by simp only[bV]at m;omega
           rcases this with rfl|rfl
           ·rw[n]at g;cases g;exact I.ig _
           ·rw[A]at g;cases g;exact F
        exact aF (2*r+1,p) ⟨by simp only;omega,L,by simp only[bV];omega,n,H,s⟩ kE.c.c.c.c.c.c rH)
  have s:∀a u,0<a->a<k->bV a=r->ys[d+a]? =some u->br c p u=false:=λa u E G m g=>by
    have:a=2*r+1:=by have:=bA e;simp only[bV]at m;omega
    subst this
    rw[n]at g;cases g;exact I.ig _
  refine .gF e<|.gF e<|.gF e<|.gF e<|.gF e<|.gF e<|.gF e<|.gF e<|.gF e<|.gF e<|.gF e<|.gF e<|.gF e<|.gF e<|.nil<|.gF e<|.gF e<|.q (.aS e) ?_
  refine .zn<|.cP<|.skip ?_
  ·first
      |exact aF (2*r+2,J) ⟨by simp only;omega,Z,by simp only[bV];omega,A,U,a1⟩ kE.c.c.c.c.c.c rH
      |exact aF (2*r+1,p) ⟨by simp only;omega,L,by simp only[bV];omega,n,H,s⟩ kE.c.c.c.c.c.c rH
      |(have s:∀a u,0<a->a<k->bV a=r->ys[d+a]? =some u->br c p u=false:=λa u E G m g=>by
           have:a=2*r+1\/a=2*r+2:=by simp only[bV]at m;omega
           rcases this with rfl|rfl
           ·rw[n]at g;cases g;exact I.ig _
           ·rw[A]at g;cases g;exact F
        exact aF (2*r+1,p) ⟨by simp only;omega,L,by simp only[bV];omega,n,H,s⟩ kE.c.c.c.c.c.c rH)
  intro y hy
  obtain⟨j,x⟩:=y
  obtain⟨W,a3,Y,D,a6,a0⟩:=hy
  simp only at W a3 Y D a6 a0⊢
  have b8:r<j:=Y▸fP W
  refine av<|.seq<|.seq ?_
  refine .dt 13 mixed (by kernel_rfl) ?_
  conv=>arg 6;dsimp only[List.take]
  refine .mo rfl<|.mo rfl<|.mo rfl<|.mo rfl ?_
  refine .ia (d+r) .add ?_
  refine .aL (d+r) l B (λc3=>?_)
  refine .q (.aM rfl)<|.mo rfl<|.mo rfl<|.mo rfl ?_
  refine .ia (d+j) .add ?_
  refine .aL (d+j) l D (λc4=>?_)
  refine .q (.aM rfl)<|.nil ?_
  refine .gy (first:=[]) (captured:=caps) (vs:=[(λt:aE=>Value.agg t.enc.toArray) K,(λt:aE=>Value.agg t.enc.toArray) x]) (hf K x b5 a6 _ (λb o S=>.inl S)) (λu g=>?_)
  subst g
  refine .q .lss<|.q .not<|.zn ?_
  refine .cond rfl (λN=>?_) λN=>?_
  refine .ret (aH (bh (cB (bh (bp _ .none rH ?_)))))
  ·refine⟨_,rfl,rfl,ys,l,C,λO=>(Q O).stop λa E G m u w g hw=>?_⟩
   (rw[jq]at g hw
    rw[B]at g;cases g
    have V:(!br c K x)=true:=N
    exact a7.kD _ _ _ (a0 a w E G m hw) (by simpa using V))
  refine .kn<|.seq<|.cL [21,23] mixed ?_
  refine .tO 0 rfl .move<|.tO 1 rfl .move<|.tO 2 rfl .move ?_
  refine .fw 3 rfl (.i64 ((d+r:Nat):Int) .add ⟨by omega,by omega,by omega⟩) (by kernel_rfl) ?_
  refine .tK 4 rfl .move<|.tK 5 rfl .move<|.tK 6 rfl .move ?_
  refine .take 7 rfl (.i64 ((d+j:Nat):Int) .add ⟨by omega,by omega,by omega⟩) (by kernel_rfl) ?_
  refine .tO 8 rfl .move<|.tO 9 rfl .move<|.tO 10 rfl .move ?_
  refine .fw 11 rfl (.i64 ((d+j:Nat):Int) .add ⟨by omega,by omega,by omega⟩) (by kernel_rfl) ?_
  refine RA.aL 12 rfl (d+j) l D rfl rfl rfl (by kernel_rfl) (λc5=>?_)
  refine .tO 13 rfl (.aM rfl)<|.tO 14 rfl .move<|.tO 15 rfl .move<|.tO 16 rfl .move ?_
  refine .fw 17 rfl (.i64 ((d+r:Nat):Int) .add ⟨by omega,by omega,by omega⟩) (by kernel_rfl) ?_
  refine RA.aL 18 rfl (d+r) l B rfl rfl rfl (by kernel_rfl) (λc6=>?_)
  refine .tO 19 rfl (.aM rfl) ?_
  refine RA.aL 20 rfl (d+r) l B rfl rfl rfl (by kernel_rfl) (λc7=>?_)
  refine .sT 21 rfl ?_
  refine .eD (d+r) l B x (λb6 b3=>?_) (l.one _ (aO D))
  refine .nil (Next.mod rfl ?_)
  refine RA.aL 22 rfl (d+j) l D rfl rfl rfl (by kernel_rfl) (λc8=>?_)
  refine .sT 23 rfl ?_
  obtain⟨zz,b4⟩:∃u,(ys.set (d+r) x)[d+j]? =some u:=⟨_,aX (by rw[List.length_set];exact(List.getElem?_eq_some_iff.1 D).1)⟩
  refine .eD (d+j) b3 b4 K (λa8 a5=>?_) (l.one _ (aO B))
  rw[<-eQ B D]at a5
  refine .nil (Next.mod rfl ?_)
  refine RA.nil (by kernel_rfl) ?_
  refine av<|.region<|.mo rfl<|.ag rfl<|.nil<|aV ?_
  ·have b1:br c K x=true:=by
      have V:(!br c K x)=false:=N
      simpa using V
   have a9:=rS (xs:=ys) (f:=d) (i:=r) (j:=j) (by omega) (by omega)
   exact aW (j,cX ys (d+r) (d+j),a8) ⟨⟨by simp only;omega,by simp only;omega⟩,a5,C.step (by omega) (by omega) (by omega) (by omega) (by omega),λO=>by
     simp only
     rw[a9]
     exact(Q O).step a7 a4 W a3 (by omega) Y (by rw[jq];exact D) (by rw[jq];exact B) b1 λa z M F N h4=>a0 a z M F N (by rw[<-jq];exact h4)⟩ (by simp only;omega) kE.c.c.c.c.c rH
end
end STP
namespace STP
section
variable{c:aE->aE->Int}{ok:aE->Prop}{f:FuncId}{caps:List Value} [e:aZ prog f]
theorem uQ(v:Value)(xs:List aE)(T:ay)(a b:Nat)(R:aB)(h:OS 119 7 aE.enc v xs T)(a8:a<=b)(hb:b<=xs.length)(hl:xs.length<=1000000000)(M:iR prog f caps R (λt:aE=>Value.agg t.enc.toArray) c ok)(N:∀x∈xs,ok x)(G:SO (br c)):
  Spec prog 234 [v,.int .i64 a,.int .i64 b,.func (.func f) #[] caps.toArray] R [T] λu H'=>∃T',H'=[T']/\u=.tuple #[]/\∃ys,OS 119 7 aE.enc v ys T'/\RP a b xs ys/\SR (br c) ys a b:=by
 have iv:=h.ap
 have a6:=G.rev
 obtain⟨n,hn⟩:∃n,b=a+n:=⟨b-a,by omega⟩
 subst hn
 refine Spec.body Tryz.func234 rfl Tryz.results234 Tryz.ntmps234 rfl<|.sr<|.mo rfl<|.ag rfl<|.z<|.ag rfl<|.z<|.mo rfl<|.mo rfl<|.ia (n) .sub<|.ag rfl<|.zs<|.sr<|.mo rfl<|.q (.i64 ((n:Int)-1) .sub ⟨rfl,by omega,by omega⟩)<|.q (.i64 (((n-1)/2:Nat):Int) .quo ⟨wW,by omega,by omega⟩)<|.az rfl<|.block<|.loop (X:=Nat×Int×List aE×ay) (λy=>(y.2.1=(y.1:Int)-1/\y.1<=n+1)/\OS 119 7 aE.enc v y.2.2.1 y.2.2.2/\RP a (a+n) xs y.2.2.1/\jE (λx y=>br c y x) (y.2.2.1.drop a) n y.1) (λy=>[(0,v),(3,.func (.func f) #[] caps.toArray),(8,iN a),(9,.int .i64 ((0:Nat):Int)),(10,iN n),(11,.int .i64 y.2.1)]) (λy=>[y.2.2.2]) (λy=>y.1) ((n-1)/2+1,(((n-1)/2:Nat):Int),xs,T) ⟨⟨by simp only;omega,by simp only;omega⟩,h,.refl _,λk V hk hp=>by simp only[bV]at hp;omega⟩ kE.c.c.c.c.c.c rH ?_
 rintro⟨m,z,ys,H⟩ ⟨⟨hz,hm⟩,C,r,B⟩
 simp only at hz hm C r B⊢
 have a9:=r.length
 refine .seq<|.sr<|.mo rfl<|.q .geq<|.zn<|.cond rfl (λo=>?_) λo=>?_
 have a3:0<=z:=bS o
 obtain⟨k,rfl⟩:∃k,m=k+1:=⟨m-1,by omega⟩
 obtain rfl:z=(k:Int):=by omega
 refine .kn<|.seq<|.block<|.region<|.mo rfl<|.mo rfl<|.mo rfl<|.mo rfl<|.mo rfl<|.dg (rb (c:=c) (ok:=ok) v ys H k n a _ C (by omega) (by omega) (by omega) M (λx e=>N x (r.perm.mem_iff.1 e)) G) (λu I F=>?_)
 obtain⟨rfl,g,d,l,p⟩:=F
 refine .nil<|aV<|av<|.region<|.mo rfl<|.q (.i64 ((k:Int)-1) .sub ⟨rfl,by omega,by omega⟩)<|.ag rfl<|.nil ?_
 ·exact aW (k,(k:Int)-1,g,I) ⟨⟨rfl,by simp only;omega⟩,d,r.trans l,p B.hole⟩ (by simp only;omega) kE.c.c.c.c.c.c rH
 have E:m=0:=by have:=bA o;omega
 subst E
 refine .exit<|bm<|bs<|bo<|av<|.sr<|.mo rfl<|.q (.i64 ((n:Int)-1) .sub ⟨rfl,by omega,by omega⟩)<|.az rfl<|.block<|.loop (X:=Nat×Int×List aE×ay) (λy=>(y.2.1=(y.1:Int)-1/\y.1<=n)/\OS 119 7 aE.enc v y.2.2.1 y.2.2.2/\RP a (a+n) xs y.2.2.1/\jE (λx y=>br c y x) (y.2.2.1.drop a) y.1 0/\OX (br c) y.2.2.1 a (a+n) a (a+y.1)) (λy=>[(0,v),(3,.func (.func f) #[] caps.toArray),(8,iN a),(9,.int .i64 ((0:Nat):Int)),(10,iN n),(12,.int .i64 y.2.1)]) (λy=>[y.2.2.2]) (λy=>y.1) (n,(n:Int)-1,ys,H) ⟨⟨rfl,Nat.le_refl _⟩,C,r,B,OX.start⟩ kE.c.c.c.c.c.c rH ?_
 rintro⟨m,Q,g,I⟩ ⟨⟨a4,a1⟩,d,l,p,D⟩
 simp only at a4 a1 d l p D⊢
 have b0:=l.length
 refine .seq<|.sr<|.mo rfl<|.q .geq<|.zn<|.cond rfl (λA=>?_) λA=>?_
 have a3:0<=Q:=bS A
 obtain⟨k,rfl⟩:∃k,m=k+1:=⟨m-1,by omega⟩
 obtain rfl:Q=(k:Int):=by omega
 obtain⟨x,e⟩:∃x,g[a]? =some x:=⟨_,aX (by omega)⟩
 obtain⟨y,s⟩:∃x,g[a+k]? =some x:=⟨_,aX (by omega)⟩
 refine .kn<|.seq<|.block<|.seq<|.cL [17,19] mixed<|.tO 0 rfl .move<|.tO 1 rfl .move<|.tK 2 rfl .move<|.tK 3 rfl .move<|.tK 4 rfl .move<|.take 5 rfl (.i64 ((a+k:Nat):Int) .add ⟨by omega,by omega,by omega⟩) (by kernel_rfl)<|.tO 6 rfl .move<|.tO 7 rfl .move<|.tO 8 rfl .move<|.fw 9 rfl (.i64 ((a+k:Nat):Int) .add ⟨by omega,by omega,by omega⟩) (by kernel_rfl) ?_
 refine RA.aL 10 rfl (a+k) d s rfl rfl rfl (by kernel_rfl) (λb1=>?_)
 refine .tO 11 rfl (.aM rfl)<|.tO 12 rfl .move<|.tO 13 rfl .move ?_
 refine RA.aL 14 rfl (a) d e rfl rfl rfl (by kernel_rfl) (λb2=>?_)
 refine .tO 15 rfl (.aM rfl) ?_
 refine RA.aL 16 rfl (a) d e rfl rfl rfl (by kernel_rfl) (λb3=>?_)
 refine .sT 17 rfl<|.eD (a) d e y (λa7 a2=>?_) (d.one _ (aO s))
 refine .nil (Next.mod rfl ?_)
 refine RA.aL 18 rfl (a+k) d s rfl rfl rfl (by kernel_rfl) (λb4=>?_)
 refine .sT 19 rfl ?_
 obtain⟨zz,a5⟩:∃u,(g.set (a) y)[a+k]? =some u:=⟨_,aX (by rw[List.length_set];exact(List.getElem?_eq_some_iff.1 s).1)⟩
 refine .eD (a+k) a2 a5 x (λU O=>?_) (d.one _ (aO e))
 rw[<-eQ e s]at O
 refine .nil<|Next.mod rfl<|RA.nil (by kernel_rfl)<|av<|.region<|.mo rfl<|.mo rfl<|.mo rfl<|.mo rfl<|.mo rfl ?_
 have L:=rS (xs:=g) (f:=a) (i:=0) (j:=k) (by omega) (by omega)
 have J:=l.step (i:=a) (j:=a+k) (by omega) (by omega) (by omega) (by omega) (by omega)
 have a0:=OX.last (m:=a+k) (x:=x) D (by omega) (by omega) (by omega) e (λj w o W hw=>jE.top a6 p (by rw[List.length_drop];omega) (x:=x) (by rw[jq];exact e) (j-a) w (by omega) (by rw[jq,show a+(j-a)=j by omega];exact hw))
 refine .dg (rb (c:=c) (ok:=ok) v (cX g a (a+k)) U 0 k a _ O (by omega) (by rw[mq];omega) (by rw[mq];omega) M (λx e=>N x (J.perm.mem_iff.1 e)) G) (λu S F=>?_)
 obtain⟨rfl,ws,Z,K,Y⟩:=F
 refine .nil<|aV<|av<|.region<|.mo rfl<|.q (.i64 ((k:Int)-1) .sub ⟨rfl,by omega,by omega⟩)<|.ag rfl<|.nil ?_
 ·exact aW (k,(k:Int)-1,ws,S) ⟨⟨rfl,by simp only;omega⟩,Z,J.trans (K.mono (Nat.le_refl a) (by omega) (by rw[mq];omega)),Y (p.zA λj V hj=>by
   rw[Nat.add_zero]at L
   rw[L,gh (by rw[List.length_drop];omega) (by rw[List.length_drop];omega),if_neg (by omega),if_neg (by omega)]),a0.rp K (Nat.le_refl _) (by omega)⟩ (by simp only;omega) kE.c.c.c.c.c.c rH
 refine .exit<|bm<|bs<|bo<|gg _ .none rH ?_
 ·have E:m=0:=by have:=bA A;omega
  subst E
  exact⟨_,rfl,rfl,g,d,l,D.nK λi j o A W=>by omega⟩
theorem wx(v:Value)(xs:List aE)(T:ay)(a b:Nat)(R:aB)(k:Value)(D:One k)(h:OS 119 7 aE.enc v xs T)(B:a<b)(C:b<=xs.length)(E:xs.length<=1000000000):
  Spec prog 237 [v,.int .i64 a,.int .i64 b,k] R [T] λu H'=>∃T',H'=[T']/\u=.tuple #[]/\∃ys,OS 119 7 aE.enc v ys T'/\RP a b xs ys:=by
 have H:=h.ap
 refine Spec.body Tryz.func237 rfl Tryz.results237 Tryz.ntmps237 rfl<|.sr<|.mo rfl<|.ag rfl<|.z<|.mo rfl<|.ia (b-1) .sub<|.az rfl<|.block<|.loop (X:=Nat×Nat×List aE×ay) (λy=>(a<=y.1/\y.1<=y.2.1+1/\y.2.1<b)/\OS 119 7 aE.enc v y.2.2.1 y.2.2.2/\RP a b xs y.2.2.1) (λy=>[(0,v),(8,iN y.1),(9,iN y.2.1)]) (λy=>[y.2.2.2]) (λy=>b-y.1) (a,b-1,xs,T) ⟨⟨Nat.le_refl _,by simp only;omega,by simp only;omega⟩,h,.refl _⟩ kE.c.c.c rH ?_
 rintro⟨i,j,ys,w⟩ ⟨⟨o,p,r⟩,d,g⟩
 simp only at o p r d g⊢
 have F:=g.length
 refine .seq<|.sr<|.mo rfl<|.mo rfl<|.q .lss<|.zn<|.cond rfl (λl=>?_) λl=>?_
 have G:i<j:=cb l
 obtain⟨x,e⟩:∃x,ys[i]? =some x:=⟨_,aX (by omega)⟩
 obtain⟨y,f⟩:∃x,ys[j]? =some x:=⟨_,aX (by omega)⟩
 refine .kn<|.block<|.seq<|.cL [13,15] mixed<|.tO 0 rfl .move<|.tO 1 rfl .move<|.tK 2 rfl .move<|.tK 3 rfl .move<|.tO 4 rfl .move<|.tO 5 rfl .move ?_
 refine RA.aL 6 rfl (j) d f rfl rfl rfl (by kernel_rfl) (λI=>?_)
 refine .tO 7 rfl (.aM rfl)<|.tO 8 rfl .move<|.tO 9 rfl .move ?_
 refine RA.aL 10 rfl (i) d e rfl rfl rfl (by kernel_rfl) (λJ=>?_)
 refine .tO 11 rfl (.aM rfl) ?_
 refine RA.aL 12 rfl (i) d e rfl rfl rfl (by kernel_rfl) (λK=>?_)
 refine .sT 13 rfl<|.eD (i) d e y (λA s=>?_) (d.one _ (aO f))
 refine .nil (Next.mod rfl ?_)
 refine RA.aL 14 rfl (j) d f rfl rfl rfl (by kernel_rfl) (λL=>?_)
 refine .sT 15 rfl ?_
 obtain⟨M,t⟩:∃u,(ys.set (i) y)[j]? =some u:=⟨_,aX (by rw[List.length_set];exact(List.getElem?_eq_some_iff.1 f).1)⟩
 refine .eD (j) s t x (λn m=>?_) (d.one _ (aO e))
 rw[<-eQ e f]at m
 refine .nil<|Next.mod rfl<|RA.nil (by kernel_rfl)<|av<|.sr<|.mo rfl<|.ia (i+1) .add<|.az rfl<|.region<|.mo rfl<|.ia (j-1) .sub<|.ag rfl<|.nil<|aV ?_
 ·exact aW (i+1,j-1,cX ys i j,n) ⟨⟨by simp only;omega,by simp only;omega,by simp only;omega⟩,m,g.step (by omega) (by omega) (by omega) (by omega) (by omega)⟩ (by simp only;omega) kE.c.c.c rH
 refine .exit<|bm<|bs<|bo<|gg _ .none rH ?_
 ·exact⟨_,rfl,rfl,ys,d,g⟩
theorem tV(v:Value)(xs:List aE)(T:ay)(a b:Nat)(R:aB)(s:Value)(V:One s)(h:OS 119 7 aE.enc v xs T)(S:a<=b)(U:b<=xs.length)(Y:xs.length<=1000000000):
  Spec prog 235 [v,.int .i64 a,.int .i64 b,s] R [T] λu H'=>∃T',H'=[T']/\u=.tuple #[]/\∃ys,OS 119 7 aE.enc v ys T'/\RP a b xs ys:=by
 have iv:=h.ap
 obtain⟨n,J⟩:∃n,b=a+n:=⟨b-a,by omega⟩
 subst J
 refine Spec.body Tryz.func235 rfl Tryz.results235 Tryz.ntmps235 rfl ?_
 refine .sr<|.mo rfl<|.mo rfl ?_
 refine .ia (n) .sub ?_
 refine .ag rfl<|.z<|.mo rfl<|.q .geq<|.zn ?_
 refine .cond rfl (λt=>?_) λt=>?_
 have a2:8<=n:=by have:=bS t;omega
 obtain⟨q,D⟩:∃q,q=n/4:=⟨_,rfl⟩
 refine .sr<|.mo rfl<|.q .oa ?_
 refine .pe (λe=>?_)
 refine .dZ rfl rfl<|.z<|.mo rfl ?_
 refine .aY (Av n (by omega) (by omega) _) (λu r=>?_)
 obtain⟨j,rfl,a0,a1⟩:=r
 refine .ag rfl<|.z<|.mo rfl<|.mo rfl ?_
 refine .q (.i64 ((q:Nat):Int) .quo ⟨by rw[D,Int.tdiv_eq_ediv_of_nonneg (by omega)];omega,by omega,by omega⟩) ?_
 refine .ia (q*2) .mul ?_
 refine .ia (a+q*2) .add ?_
 refine .ia (a+q*2-1) .sub ?_
 refine .az rfl<|.block ?_
 refine .loop (X:=Nat×Int×List aE×ay) (λy=>(a+q*2-1<=y.1/\y.1<=a+q*2+2)/\OS 119 7 aE.enc v y.2.2.1 y.2.2.2/\RP a (a+n) xs y.2.2.1) (λy=>[(0,v),(1,iN a),(8,iN n),(9,pT e),(10,.int .u64 (j:Nat)),(11,iN y.1)]) (λy=>[bl e [.int .u64 y.2.1] 385,y.2.2.2]) (λy=>a+q*2+2-y.1) (a+q*2-1,_,xs,T) ⟨⟨Nat.le_refl _,by simp only;omega⟩,h,.refl _⟩ kE.c.c.c.c.c.c rH ?_
 rintro⟨i,z,ys,F⟩ ⟨⟨H,I⟩,d,k⟩
 simp only at H I d k⊢
 have Z:=k.length
 refine .seq<|.sr<|.mo rfl<|.mo rfl<|.mo rfl ?_
 refine .q (.i64 ((q:Nat):Int) .quo ⟨by rw[D,Int.tdiv_eq_ediv_of_nonneg (by omega)];omega,by omega,by omega⟩) ?_
 refine .ia (q*2) .mul ?_
 refine .ia (a+q*2) .add ?_
 refine .ia (a+q*2+1) .add ?_
 refine .q .leq<|.zn ?_
 refine .cond rfl (λA=>?_) λA=>?_
 have W:i<=a+q*2+1:=by have:=bS A;omega
 refine .kn<|.seq<|.block<|.sr ?_
 refine .dg (A5 e z _) (λu O r=>?_)
 obtain⟨l,rfl,rfl⟩:=r
 refine .mo rfl ?_
 refine .q (bB.cast (v':=.int .u64 ((j-1:Nat):Int)) .sub (by rw[oV (by omega) (by omega)];congr 1;omega)) ?_
 have B:=xK (z:=l) (q:=((j-1:Nat):Int)) (by omega) (by omega)
 obtain⟨o,C⟩:∃o:Nat,IntKind.u64.wrap (BitVec.ofInt IntKind.u64.bits l&&&BitVec.ofInt IntKind.u64.bits ((j-1:Nat):Int)).toNat=(o:Int):=⟨_,(Int.toNat_of_nonneg B.1).symm⟩
 refine .q (bB.cast (v':=.int .u64 ((o:Nat):Int)) .xJ (by rw[C])) ?_
 rw[C]at B
 refine .q (bB.cast (v':=.int .i64 ((o:Nat):Int)) .oa (by rw[Cb (by omega) (by omega)])) ?_
 refine .ag rfl<|.zs ?_
 refine bz.cut (X:=Nat) (λp=>p<n) (λp=>[(0,v),(1,iN a),(8,iN n),(9,pT e),(10,.int .u64 (j:Nat)),(11,iN i),(12,iN p)]) (λ_=>[bl e [.int .u64 l] 385,F]) ?_ ?_
 refine .sr<|.mo rfl<|.mo rfl<|.q .geq<|.zn ?_
 refine .cond rfl (λm=>?_) λm=>?_
 have K:n<=o:=by have:=bS m;omega
 refine .region<|.mo rfl<|.mo rfl ?_
 refine .ia (o-n) .sub ?_
 refine .ag rfl<|.nil ?_
 ·exact aF (o-n) (by omega) kE.c.c.c.c.c.c.c rH
 have K:o<n:=by have:=bA m;omega
 refine .skip ?_
 ·exact aF o (by omega) kE.c.c.c.c.c.c.c rH
 intro y M
 have a3:y<n:=M
 obtain⟨p,rfl⟩:∃p,p=y:=⟨_,rfl⟩
 obtain⟨x,g⟩:∃x,ys[i]? =some x:=⟨_,aX (by omega)⟩
 obtain⟨w,f⟩:∃x,ys[a+p]? =some x:=⟨_,aX (by omega)⟩
 refine av<|.cL [17,19] mixed ?_
 refine .tO 0 rfl .move<|.tO 1 rfl .move<|.tK 2 rfl .move<|.tK 3 rfl .move<|.tK 4 rfl .move ?_
 refine .take 5 rfl (.i64 ((a+p:Nat):Int) .add ⟨by omega,by omega,by omega⟩) (by kernel_rfl) ?_
 refine .tO 6 rfl .move<|.tO 7 rfl .move<|.tO 8 rfl .move ?_
 refine .fw 9 rfl (.i64 ((a+p:Nat):Int) .add ⟨by omega,by omega,by omega⟩) (by kernel_rfl) ?_
 refine RA.aL 10 rfl (a+p) d f rfl rfl rfl (by kernel_rfl) (λa4=>?_)
 refine .tO 11 rfl (.aM rfl)<|.tO 12 rfl .move<|.tO 13 rfl .move ?_
 refine RA.aL 14 rfl (i) d g rfl rfl rfl (by kernel_rfl) (λa5=>?_)
 refine .tO 15 rfl (.aM rfl) ?_
 refine RA.aL 16 rfl (i) d g rfl rfl rfl (by kernel_rfl) (λa6=>?_)
 refine .sT 17 rfl ?_
 refine .eD (i) d g w (λQ L=>?_) (d.one _ (aO f))
 refine .nil (Next.mod rfl ?_)
 refine RA.aL 18 rfl (a+p) d f rfl rfl rfl (by kernel_rfl) (λa7=>?_)
 refine .sT 19 rfl ?_
 obtain⟨zz,N⟩:∃u,(ys.set (i) w)[a+p]? =some u:=⟨_,aX (by rw[List.length_set];exact(List.getElem?_eq_some_iff.1 f).1)⟩
 refine .eD (a+p) L N x (λG E=>?_) (d.one _ (aO g))
 rw[<-eQ g f]at E
 refine .nil (Next.mod rfl ?_)
 refine RA.nil (by kernel_rfl) ?_
 refine aV<|av<|.region<|.mo rfl ?_
 refine .ia (i+1) .add ?_
 refine .ag rfl<|.nil ?_
 ·exact aW (i+1,l,cX ys i (a+p),G) ⟨⟨by simp only;omega,by simp only;omega⟩,E,k.step (by omega) (by omega) (by omega) (by omega) (by omega)⟩ (by simp only;omega) kE.c.c.c.c.c.c rH
 refine .exit<|bm<|bs<|bo<|gg _ .none (aQ [1]) ?_
 ·exact⟨_,rfl,rfl,ys,d,k⟩
 refine .skip<|gg _ .none rH ?_
 ·exact⟨_,rfl,rfl,xs,h,.refl _⟩
end
end STP
namespace STP
section
variable{c:aE->aE->Int}{ok:aE->Prop}{f:FuncId}{caps:List Value} [e:aZ prog f]
theorem vW(v:Value)(xs:List aE)(T:ay)(a b:Nat)(R:aB)(h:OS 119 7 aE.enc v xs T)(b5:a<b)(O:b<=xs.length)(hl:xs.length<=1000000000)(hf:iR prog f caps R (λt:aE=>Value.agg t.enc.toArray) c ok)(Q:∀x∈xs,ok x)(so:SO (br c))(c4:LB (br c) xs a b):
  Spec prog 238 [v,.int .i64 a,.int .i64 b,.func (.func f) #[] caps.toArray] R [T] λu H'=>∃T',H'=[T']/\∃ys m,u=.bool m/\OS 119 7 aE.enc v ys T'/\RP a b xs ys/\(m=true->SR (br c) ys a b):=by
 have iv:=h.ap
 refine Spec.body Tryz.func238 rfl Tryz.results238 Tryz.ntmps238 rfl ?_
 refine .sr<|.ag rfl<|.z<|.mo rfl ?_
 refine .ia (a+1) .add ?_
 refine .ag rfl<|.zs<|.sr<|.az rfl<|.block ?_
 refine .loop (X:=Nat×Nat×List aE×ay) (λy=>(y.1<=5/\a+1<=y.2.1/\y.2.1<=b)/\OS 119 7 aE.enc v y.2.2.1 y.2.2.2/\RP a b xs y.2.2.1/\SR (br c) y.2.2.1 a y.2.1) (λy=>[(0,v),(1,iN a),(2,iN b),(3,.func (.func f) #[] caps.toArray),(9,iN y.2.1),(10,iN y.1)]) (λy=>[y.2.2.2]) (λy=>5-y.1) (0,a+1,xs,T) ⟨⟨by omega,Nat.le_refl _,b5⟩,h,.refl _,λi j Z h2 N=>by simp only at N;omega⟩ kE.c.c.c.c.c.c rH ?_
 rintro⟨n,i,ys,T1⟩ ⟨⟨hn,H,I⟩,r,K,D⟩
 simp only at hn H I r K D⊢
 have c8:=K.length
 refine .seq<|.sr<|.mo rfl<|.q .lss<|.zn ?_
 refine .cond rfl (λZ=>?_) λZ=>?_
 have d1:n<5:=cb Z
 refine .kn<|.seq<|.block<|.seq ?_
 refine bz.cut (X:=Nat) (λi=>(a+1<=i/\i<=b)/\SR (br c) ys a i) (λi=>[(0,v),(1,iN a),(2,iN b),(3,.func (.func f) #[] caps.toArray),(9,iN i),(10,iN n)]) (λ_=>[T1]) ?_ ?_
 refine .block ?_
 refine .loop (X:=Nat) (λi=>(a+1<=i/\i<=b)/\SR (br c) ys a i) (λi=>[(0,v),(1,iN a),(2,iN b),(3,.func (.func f) #[] caps.toArray),(9,iN i),(10,iN n)]) (λ_=>[T1]) (λi=>b-i) i ⟨⟨H,I⟩,D⟩ kE.c.c.c.c.c.c rH ?_
 clear H I D
 rintro i ⟨⟨H,I⟩,D⟩
 refine .seq<|.seq ?_
 refine .dt 14 mixed (by kernel_rfl) ?_
 conv=>arg 6;dsimp only[List.take]
 refine .mo rfl<|.mo rfl<|.q .lss<|.mo rfl ?_
 refine .split (t:=22) rfl (λe=>?_) (λe=>?_)
 have c3:i<b:=by have:=bS e;omega
 obtain⟨x,E⟩:∃x,ys[i]? =some x:=⟨_,aX (by omega)⟩
 obtain⟨y,A⟩:∃x,ys[i-1]? =some x:=⟨_,aX (by omega)⟩
 have c6:=Q x (K.perm.mem_iff.1 (aO E))
 have c7:=Q y (K.perm.mem_iff.1 (aO A))
 refine .gT e<|.mo rfl<|.gT e<|.mo rfl<|.gT e<|.mo rfl<|.gT e ?_
 refine .aL i r E (λe1=>?_)
 refine .gT e<|.q (.aM rfl)<|.gT e<|.mo rfl<|.gT e<|.mo rfl<|.gT e ?_
 refine .ia (i-1) .sub ?_
 refine .gT e ?_
 refine .aL (i-1) r A (λe2=>?_)
 refine .gT e<|.q (.aM rfl)<|.nil<|.gT e ?_
 refine .gy (first:=[]) (captured:=caps) (vs:=[(λt:aE=>Value.agg t.enc.toArray) x,(λt:aE=>Value.agg t.enc.toArray) y]) (hf x y c6 c7 _ (λb o O=>.inl O)) (λu F=>?_)
 subst F
 refine .gT e<|.q .lss<|.gT e<|.q .not<|.q (.aT e) ?_
 refine .zn ?_
 refine .cond rfl (λh2=>?_) λh2=>?_
 refine .kn<|.block<|.region<|.mo rfl ?_
 refine .ia (i+1) .add ?_
 refine .ag rfl<|.nil<|aV ?_
 ·have c5:br c x y=false:=by
   have b8:(!br c x y)=true:=h2
   simpa using b8
  exact aW (i+1) ⟨⟨by omega,by omega⟩,D.snoc so (by omega) (by omega) λu w F W=>by
   rw[A]at F;rw[E]at W;cases F;cases W;exact c5⟩ (by omega) kE.c.c.c.c.c.c rH
 refine .exit<|bm<|bs<|bo ?_
 exact aF i ⟨⟨H,I⟩,D⟩ kE.c.c.c.c.c.c rH
 refine .gF e<|.gF e<|.gF e<|.gF e<|.gF e<|.gF e<|.gF e<|.gF e<|.gF e<|.gF e<|.nil<|.gF e<|.gF e<|.gF e<|.q (.aS e) ?_
 refine .zn<|.cP<|.exit<|bm<|bs<|bo ?_
 exact aF i ⟨⟨H,I⟩,D⟩ kE.c.c.c.c.c.c rH
 intro x E
 obtain⟨d,b6⟩:∃d,d=x:=⟨_,rfl⟩
 rw[<-b6]at E⊢
 clear b6 x H I D
 obtain⟨⟨H,I⟩,D⟩:=E
 refine av<|.seq<|.sr<|.mo rfl<|.mo rfl<|.q .bQ<|.zn ?_
 refine .cond rfl (λN=>?_) λN=>?_
 refine .sr<|.az rfl ?_
 refine .ret (aH (bh (aH (cB (bh (aH (bp _ (.one (.tmp rfl)) rH ?_)))))))
 ·have c2:d=b:=by
   have b9:((d:Int)=b):=by simpa using N
   omega
  exact⟨_,rfl,ys,true,rfl,r,K,λ_=>c2▸D⟩
 have c3:d<b:=by
  have b9:¬((d:Int)=b):=by simpa using N
  omega
 obtain⟨x,E⟩:∃x,ys[d]? =some x:=⟨_,aX (by omega)⟩
 obtain⟨y,A⟩:∃x,ys[d-1]? =some x:=⟨_,aX (by omega)⟩
 refine .kn<|.seq<|.sr<|.mo rfl<|.mo rfl ?_
 refine .ia (b-a) .sub ?_
 refine .q .lss<|.zn ?_
 refine .cond rfl (λh4=>?_) λh4=>?_
 refine .sr<|.az rfl ?_
 refine .ret (aH (bh (aH (cB (bh (aH (bp _ (.one (.tmp rfl)) rH ?_)))))))
 ·exact⟨_,rfl,ys,false,rfl,r,K,λh=>by cases h⟩
 refine .kn<|.seq<|.cL [15,17] mixed ?_
 refine .tO 0 rfl .move<|.tO 1 rfl .move<|.tK 2 rfl .move<|.tK 3 rfl .move ?_
 refine .take 4 rfl (.i64 ((d-1:Nat):Int) .sub ⟨by omega,by omega,by omega⟩) (by kernel_rfl) ?_
 refine .tO 5 rfl .move<|.tO 6 rfl .move ?_
 refine .fw 7 rfl (.i64 ((d-1:Nat):Int) .sub ⟨by omega,by omega,by omega⟩) (by kernel_rfl) ?_
 refine RA.aL 8 rfl (d-1) r A rfl rfl rfl (by kernel_rfl) (λe3=>?_)
 refine .tO 9 rfl (.aM rfl)<|.tO 10 rfl .move<|.tO 11 rfl .move ?_
 refine RA.aL 12 rfl (d) r E rfl rfl rfl (by kernel_rfl) (λe4=>?_)
 refine .tO 13 rfl (.aM rfl) ?_
 refine RA.aL 14 rfl (d) r E rfl rfl rfl (by kernel_rfl) (λe5=>?_)
 refine .sT 15 rfl ?_
 refine .eD (d) r E y (λb0 V=>?_) (r.one _ (aO A))
 refine .nil (Next.mod rfl ?_)
 refine RA.aL 16 rfl (d-1) r A rfl rfl rfl (by kernel_rfl) (λe6=>?_)
 refine .sT 17 rfl ?_
 obtain⟨zz,Y⟩:∃u,(ys.set (d) y)[d-1]? =some u:=⟨_,aX (by rw[List.length_set];exact(List.getElem?_eq_some_iff.1 A).1)⟩
 refine .eD (d-1) V Y x (λM J=>?_) (r.one _ (aO E))
 rw[<-eQ E A]at J
 refine .nil (Next.mod rfl ?_)
 refine RA.nil (by kernel_rfl) ?_
 have b2:=K.step (i:=d) (j:=d-1) (by omega) (by omega) (by omega) (by omega) (by omega)
 have c0:=D.BK (by omega)
 clear D
 refine av<|.seq ?_
 refine bz.cut (X:=List aE×ay) (λz=>OS 119 7 aE.enc v z.1 z.2/\RP a b xs z.1/\SR (br c) z.1 a d) (λ_=>[(0,v),(1,iN a),(2,iN b),(3,.func (.func f) #[] caps.toArray),(9,iN d),(10,iN n)]) (λz=>[z.2]) ?_ ?_
 refine .sr<|.mo rfl<|.mo rfl ?_
 refine .ia (d-a) .sub ?_
 refine .q .geq<|.zn ?_
 refine .cond rfl (λh5=>?_) λh5=>?_
 refine .sr<|.mo rfl ?_
 refine .ia (d-1) .sub ?_
 refine .az rfl<|.block ?_
 refine .loop (X:=Nat×List aE×ay) (λz=>(a<=z.1/\z.1<=d-1)/\OS 119 7 aE.enc v z.2.1 z.2.2/\RP a b xs z.2.1/\lu (br c) z.2.1 a z.1 d) (λz=>[(0,v),(1,iN a),(2,iN b),(3,.func (.func f) #[] caps.toArray),(9,iN d),(10,iN n),(11,iN z.1)]) (λz=>[z.2.2]) (λz=>z.1) (d-1,cX ys d (d-1),M) ⟨⟨by simp only;omega,Nat.le_refl _⟩,J,b2,c0⟩ kE.c.c.c.c.c.c.c rH ?_
 rintro⟨q,G,U⟩ ⟨⟨a6,a7⟩,l,C,a0⟩
 simp only at a6 a7 l C a0⊢
 have c9:=C.length
 refine .seq<|.sr<|.mo rfl<|.q .geq<|.zn ?_
 refine .cond rfl (λh6=>?_) λh6=>?_
 have d2:1<=q:=by have:=bS h6;omega
 obtain⟨s,g⟩:∃x,G[q]? =some x:=⟨_,aX (by omega)⟩
 obtain⟨t,k⟩:∃x,G[q-1]? =some x:=⟨_,aX (by omega)⟩
 have a8:=Q s (C.perm.mem_iff.1 (aO g))
 have a9:=Q t (C.perm.mem_iff.1 (aO k))
 refine .kn<|.seq<|.block<|.seq<|.seq ?_
 refine .dt 10 mixed (by kernel_rfl) ?_
 conv=>arg 6;dsimp only[List.take]
 refine .mo rfl<|.mo rfl<|.mo rfl ?_
 refine .aL q l g (λe7=>?_)
 refine .q (.aM rfl)<|.mo rfl<|.mo rfl ?_
 refine .ia (q-1) .sub ?_
 refine .aL (q-1) l k (λe8=>?_)
 refine .q (.aM rfl)<|.nil ?_
 refine .gy (first:=[]) (captured:=caps) (vs:=[(λt:aE=>Value.agg t.enc.toArray) s,(λt:aE=>Value.agg t.enc.toArray) t]) (hf s t a8 a9 _ (λb o O=>.inl O)) (λu F=>?_)
 subst F
 refine .q .lss<|.q .not<|.zn ?_
 refine .cond rfl (λh7=>?_) λh7=>?_
 have a4:SR (br c) G a d:=a0.done so (by omega) (by omega) (by
  have a2:(!br c s t)=true:=h7
  rcases Nat.lt_or_ge a q with hh|hh
  ·exact .inr ⟨hh,λu w F W=>by rw[k]at F;rw[g]at W;cases F;cases W;simpa using a2⟩
  ·exact .inl (by omega))
 refine .exit (bm (jI (bm (bs (bo ?_)))))
 ·exact aF (G,U) ⟨l,C,a4⟩ kE.c.c.c.c.c.c rH
 have a5:br c s t=true:=by
  have a2:(!br c s t)=false:=h7
  simpa using a2
 have c1:a<q:=by
  rcases Nat.lt_or_ge a q with hh|hh
  ·exact hh
  ·have ea:q=a:=by omega
   subst ea
   have:=(c4.rp C) (by omega) q (Nat.le_refl _) b5 t s k g
   rw[this]at a5;cases a5
 refine .kn<|.cL [15,17] mixed ?_
 refine .tO 0 rfl .move<|.tO 1 rfl .move<|.tK 2 rfl .move<|.tK 3 rfl .move ?_
 refine .take 4 rfl (.i64 ((q-1:Nat):Int) .sub ⟨by omega,by omega,by omega⟩) (by kernel_rfl) ?_
 refine .tO 5 rfl .move<|.tO 6 rfl .move ?_
 refine .fw 7 rfl (.i64 ((q-1:Nat):Int) .sub ⟨by omega,by omega,by omega⟩) (by kernel_rfl) ?_
 refine RA.aL 8 rfl (q-1) l k rfl rfl rfl (by kernel_rfl) (λe9=>?_)
 refine .tO 9 rfl (.aM rfl)<|.tO 10 rfl .move<|.tO 11 rfl .move ?_
 refine RA.aL 12 rfl (q) l g rfl rfl rfl (by kernel_rfl) (λf0=>?_)
 refine .tO 13 rfl (.aM rfl) ?_
 refine RA.aL 14 rfl (q) l g rfl rfl rfl (by kernel_rfl) (λf1=>?_)
 refine .sT 15 rfl ?_
 refine .eD (q) l g t (λb0 V=>?_) (l.one _ (aO k))
 refine .nil (Next.mod rfl ?_)
 refine RA.aL 16 rfl (q-1) l k rfl rfl rfl (by kernel_rfl) (λd4=>?_)
 refine .sT 17 rfl ?_
 obtain⟨zz,Y⟩:∃u,(G.set (q) t)[q-1]? =some u:=⟨_,aX (by rw[List.length_set];exact(List.getElem?_eq_some_iff.1 k).1)⟩
 refine .eD (q-1) V Y s (λM J=>?_) (l.one _ (aO g))
 rw[<-eQ g k]at J
 refine .nil (Next.mod rfl ?_)
 refine RA.nil (by kernel_rfl) ?_
 refine aV<|av<|.region<|.mo rfl ?_
 refine .ia (q-1) .sub ?_
 refine .ag rfl<|.nil ?_
 ·exact aW (q-1,cX G q (q-1),M) ⟨⟨by simp only;omega,by simp only;omega⟩,J,C.step (by omega) (by omega) (by omega) (by omega) (by omega),a0.step so (by omega) (by omega) c1 g k a5⟩ (by simp only;omega) kE.c.c.c.c.c.c.c rH
 have a4:SR (br c) G a d:=a0.done so (by omega) (by omega) (.inl (by have:=bA h6;omega))
 refine .exit<|bm<|bs<|bo ?_
 ·exact aF (G,U) ⟨l,C,a4⟩ kE.c.c.c.c.c.c rH
 refine .skip ?_
 ·exact aF (cX ys d (d-1),M) ⟨J,b2,λp q Z h2 N=>by have:=bA h5;omega⟩ kE.c.c.c.c.c.c rH
 intro y A
 obtain⟨G,U⟩:=y
 obtain⟨l,C,a3⟩:=A
 simp only at l C a3⊢
 refine av ?_
 refine bz.cut (X:=List aE×ay) (λz=>OS 119 7 aE.enc v z.1 z.2/\RP a b xs z.1/\SR (br c) z.1 a d) (λ_=>[(0,v),(1,iN a),(2,iN b),(3,.func (.func f) #[] caps.toArray),(9,iN d),(10,iN n)]) (λz=>[z.2]) ?_ ?_
 refine .sr<|.mo rfl<|.mo rfl ?_
 refine .ia (b-d) .sub ?_
 refine .q .geq<|.zn ?_
 refine .cond rfl (λh8=>?_) λh8=>?_
 refine .sr<|.mo rfl ?_
 refine .ia (d+1) .add ?_
 refine .az rfl<|.block ?_
 refine .loop (X:=Nat×List aE×ay) (λz=>(d+1<=z.1/\z.1<=b)/\OS 119 7 aE.enc v z.2.1 z.2.2/\RP a b xs z.2.1/\SR (br c) z.2.1 a d) (λz=>[(0,v),(1,iN a),(2,iN b),(3,.func (.func f) #[] caps.toArray),(9,iN d),(10,iN n),(12,iN z.1)]) (λz=>[z.2.2]) (λz=>b-z.1) (d+1,G,U) ⟨⟨Nat.le_refl _,by simp only;omega⟩,l,C,a3⟩ kE.c.c.c.c.c.c.c rH ?_
 rintro⟨q,S,T4⟩ ⟨⟨a6,a7⟩,B,L,a1⟩
 simp only at a6 a7 B L a1⊢
 have d0:=L.length
 refine .seq<|.sr<|.mo rfl<|.mo rfl<|.q .lss<|.zn ?_
 refine .cond rfl (λh9=>?_) λh9=>?_
 have d3:q<b:=cb h9
 obtain⟨s,g⟩:∃x,S[q]? =some x:=⟨_,aX (by omega)⟩
 obtain⟨t,k⟩:∃x,S[q-1]? =some x:=⟨_,aX (by omega)⟩
 have a8:=Q s (L.perm.mem_iff.1 (aO g))
 have a9:=Q t (L.perm.mem_iff.1 (aO k))
 refine .kn<|.seq<|.block<|.seq<|.seq ?_
 refine .dt 10 mixed (by kernel_rfl) ?_
 conv=>arg 6;dsimp only[List.take]
 refine .mo rfl<|.mo rfl<|.mo rfl ?_
 refine .aL q B g (λd5=>?_)
 refine .q (.aM rfl)<|.mo rfl<|.mo rfl ?_
 refine .ia (q-1) .sub ?_
 refine .aL (q-1) B k (λd6=>?_)
 refine .q (.aM rfl)<|.nil ?_
 refine .gy (first:=[]) (captured:=caps) (vs:=[(λt:aE=>Value.agg t.enc.toArray) s,(λt:aE=>Value.agg t.enc.toArray) t]) (hf s t a8 a9 _ (λb o O=>.inl O)) (λu F=>?_)
 subst F
 refine .q .lss<|.q .not<|.zn ?_
 refine .cond rfl (λb7=>?_) λb7=>?_
 refine .exit (bm (jI (bm (bs (bo ?_)))))
 ·exact aF (S,T4) ⟨B,L,a1⟩ kE.c.c.c.c.c.c rH
 refine .kn<|.cL [15,17] mixed ?_
 refine .tO 0 rfl .move<|.tO 1 rfl .move<|.tK 2 rfl .move<|.tK 3 rfl .move ?_
 refine .take 4 rfl (.i64 ((q-1:Nat):Int) .sub ⟨by omega,by omega,by omega⟩) (by kernel_rfl) ?_
 refine .tO 5 rfl .move<|.tO 6 rfl .move ?_
 refine .fw 7 rfl (.i64 ((q-1:Nat):Int) .sub ⟨by omega,by omega,by omega⟩) (by kernel_rfl) ?_
 refine RA.aL 8 rfl (q-1) B k rfl rfl rfl (by kernel_rfl) (λd7=>?_)
 refine .tO 9 rfl (.aM rfl)<|.tO 10 rfl .move<|.tO 11 rfl .move ?_
 refine RA.aL 12 rfl (q) B g rfl rfl rfl (by kernel_rfl) (λd8=>?_)
 refine .tO 13 rfl (.aM rfl) ?_
 refine RA.aL 14 rfl (q) B g rfl rfl rfl (by kernel_rfl) (λd9=>?_)
 refine .sT 15 rfl ?_
 refine .eD (q) B g t (λb0 V=>?_) (B.one _ (aO k))
 refine .nil (Next.mod rfl ?_)
 refine RA.aL 16 rfl (q-1) B k rfl rfl rfl (by kernel_rfl) (λe0=>?_)
 refine .sT 17 rfl ?_
 obtain⟨zz,Y⟩:∃u,(S.set (q) t)[q-1]? =some u:=⟨_,aX (by rw[List.length_set];exact(List.getElem?_eq_some_iff.1 k).1)⟩
 refine .eD (q-1) V Y s (λM J=>?_) (B.one _ (aO g))
 rw[<-eQ g k]at J
 refine .nil (Next.mod rfl ?_)
 refine RA.nil (by kernel_rfl) ?_
 refine aV<|av<|.region<|.mo rfl ?_
 refine .ia (q+1) .add ?_
 refine .ag rfl<|.nil ?_
 ·exact aW (q+1,cX S q (q-1),M) ⟨⟨by simp only;omega,by simp only;omega⟩,J,L.step (by omega) (by omega) (by omega) (by omega) (by omega),a1.BL (by omega) (by omega) (by omega) (by omega)⟩ (by simp only;omega) kE.c.c.c.c.c.c.c rH
 refine .exit<|bm<|bs<|bo ?_
 ·exact aF (S,T4) ⟨B,L,a1⟩ kE.c.c.c.c.c.c rH
 refine .skip ?_
 ·exact aF (G,U) ⟨l,C,a3⟩ kE.c.c.c.c.c.c rH
 intro y A
 obtain⟨us,T5⟩:=y
 obtain⟨b1,b3,b4⟩:=A
 simp only at b1 b3 b4⊢
 refine aV<|av<|.region<|.mo rfl ?_
 refine .ia (n+1) .add ?_
 refine .ag rfl<|.nil ?_
 ·exact aW (n+1,d,us,T5) ⟨⟨by simp only;omega,H,I⟩,b1,b3,b4⟩ (by simp only;omega) kE.c.c.c.c.c.c rH
 refine .exit<|bm<|bs<|bo<|av<|.sr<|.az rfl ?_
 refine .ret (bp _ (.one (.tmp rfl)) rH ?_)
 ·exact⟨_,rfl,ys,false,rfl,r,K,λh=>by cases h⟩
end
end STP
namespace STP
section
variable{c:aE->aE->Int}{ok:aE->Prop}{f:FuncId}{caps:List Value} [e:aZ prog f]
theorem oE(v:Value)(xs:List aE)(a b lo d g:Nat)(s:Int)(R:aB)(h:RS R 7 aE.enc v xs)(i:lo<=a/\a<d)(e:lo<=b/\b<d)(B:d<=xs.length)(n:iR prog f caps R (λt:aE=>Value.agg t.enc.toArray) c ok)(j:∀x∈xs,ok x):
  Spec prog 270 [v,.int .i64 a,.int .i64 b,pT g,.func (.func f) #[] caps.toArray] R [bl g [.int .i64 s] 3] λu H'=>∃T',H'=[T']/\∃(s':Int) (p q:Nat),u=.tuple [.int .i64 p,.int .i64 q].toArray/\T'=(bl g [.int .i64 s'] 3)/\(lo<=p/\p<d)/\(lo<=q/\q<d):=by
 have C:=h.ap
 obtain⟨x,k⟩:∃x,xs[b]? =some x:=⟨_,aX (by omega)⟩
 obtain⟨y,l⟩:∃x,xs[a]? =some x:=⟨_,aX (by omega)⟩
 have w:=j x (aO k)
 have A:=j y (aO l)
 refine Spec.body Tryz.func270 rfl Tryz.results270 Tryz.ntmps270 rfl<|.sr<|.ag rfl<|.ag rfl<|.zs<|.seq<|.dt 9 mixed (by kernel_rfl) ?_
 conv=>arg 6;dsimp only[List.take]
 refine .mo rfl<|.mo rfl<|.mo rfl ?_
 refine .bx b h k (λD=>?_)
 refine .q (.aM rfl)<|.mo rfl<|.mo rfl ?_
 refine .bx a h l (λE=>?_)
 refine .q (.aM rfl)<|.nil<|.gy (first:=[]) (captured:=caps) (vs:=[(λt:aE=>Value.agg t.enc.toArray) x,(λt:aE=>Value.agg t.enc.toArray) y]) (n x y w A _ (λb o e=>.inl e)) (λu r=>?_)
 subst r
 refine .q .lss<|.zn<|.cond rfl (λm=>?_) λm=>?_
 refine .sr<|.mo rfl<|.nc rfl<|.lo rfl<|.q .add<|.nc rfl<|.dZ rfl rfl<|.z<|.mo rfl<|.mo rfl<|.ag rfl<|.az rfl<|.ret (aH (bp _ (.two (.tmp rfl) (.tmp rfl)) rH ?_))
 ·exact⟨_,rfl,_,b,a,rfl,rfl,e,i⟩
 refine .kn<|.sr<|.mo rfl<|.mo rfl<|.ag rfl<|.az rfl<|.ret (bp _ (.two (.tmp rfl) (.tmp rfl)) rH ?_)
 ·exact⟨_,rfl,_,a,b,rfl,rfl,i,e⟩
theorem qK(v:Value)(xs:List aE)(a b d lo e g:Nat)(s:Int)(R:aB)(h:RS R 7 aE.enc v xs)(m:lo<=a/\a<e)(n:lo<=b/\b<e)(o:lo<=d/\d<e)(k:e<=xs.length)(j:iR prog f caps R (λt:aE=>Value.agg t.enc.toArray) c ok)(l:∀x∈xs,ok x):
  Spec prog 259 [v,.int .i64 a,.int .i64 b,.int .i64 d,pT g,.func (.func f) #[] caps.toArray] R [bl g [.int .i64 s] 3] λu H'=>∃T',H'=[T']/\∃(s':Int) (p:Nat),u=.int .i64 p/\T'=(bl g [.int .i64 s'] 3)/\(lo<=p/\p<e):=by
 have N:=h.ap
 refine Spec.body Tryz.func259 rfl Tryz.results259 Tryz.ntmps259 rfl<|.sr<|.ag rfl<|.z<|.mo rfl<|.mo rfl<|.mo rfl<|.mo rfl<|.mo rfl<|.dg (oE v xs a b lo e g s _ h m n k j l) (λu I i=>?_)
 obtain⟨F,B,D,rfl,rfl,r,y⟩:=i
 refine .mo rfl<|.q .extract<|.q .extract<|.ag rfl<|.ag rfl<|.z<|.mo rfl<|.mo rfl<|.mo rfl<|.mo rfl<|.mo rfl<|.dg (oE v xs D d lo e g F _ h y o k j l) (λu J i=>?_)
 obtain⟨G,C,Q,rfl,rfl,w,M⟩:=i
 refine .mo rfl<|.q .extract<|.q .extract<|.ag rfl<|.ag rfl<|.z<|.mo rfl<|.mo rfl<|.mo rfl<|.mo rfl<|.mo rfl<|.dg (oE v xs B C lo e g G _ h r w k j l) (λu K i=>?_)
 obtain⟨H,O,E,rfl,rfl,L,A⟩:=i
 refine .mo rfl<|.q .extract<|.q .extract<|.ag rfl<|.ag rfl<|.z<|.mo rfl<|.az rfl<|.ret (bp _ (.one (.tmp rfl)) rH ?_)
 ·exact⟨_,rfl,H,E,rfl,rfl,A⟩
theorem oy(v:Value)(xs:List aE)(a lo d b:Nat)(s:Int)(R:aB)(h:RS R 7 aE.enc v xs)(o:lo+1<=a/\a+1<d)(g:d<=xs.length)(q:xs.length<=1000000000)(e:iR prog f caps R (λt:aE=>Value.agg t.enc.toArray) c ok)(i:∀x∈xs,ok x):
  Spec prog 258 [v,.int .i64 a,pT b,.func (.func f) #[] caps.toArray] R [bl b [.int .i64 s] 3] λu H'=>∃T',H'=[T']/\∃(s':Int) (p:Nat),u=.int .i64 p/\T'=(bl b [.int .i64 s'] 3)/\(lo<=p/\p<d):=by
 have r:=h.ap
 refine Spec.body Tryz.func258 rfl Tryz.results258 Tryz.ntmps258 rfl<|.sr<|.ag rfl<|.z<|.mo rfl<|.mo rfl<|.ia (a-1) .sub<|.mo rfl<|.mo rfl<|.ia (a+1) .add<|.mo rfl<|.mo rfl<|.dg (qK v xs (a-1) a (a+1) lo d b s _ h (by omega) (by omega) (by omega) g e i) (λu n k=>?_)
 obtain⟨m,l,rfl,rfl,j⟩:=k
 refine .az rfl<|.ret (bp _ (.one (.tmp rfl)) rH ?_)
 ·exact⟨_,rfl,m,l,rfl,rfl,j⟩
theorem choose_spec(v:Value)(xs:List aE)(a b:Nat)(R:aB)(h:RS R 7 aE.enc v xs)(Y:a<b)(l:b<=xs.length)(w:xs.length<=1000000000)(m:iR prog f caps R (λt:aE=>Value.agg t.enc.toArray) c ok)(o:∀x∈xs,ok x):
  Spec prog 236 [v,.int .i64 a,.int .i64 b,.func (.func f) #[] caps.toArray] R [] λu H'=>(∃(p:Nat) (t:Int),u=.tuple [.int .i64 p,.int .i64 t].toArray/\a<=p/\p<b)/\H'=[]:=by
 have iv:=h.ap
 obtain⟨n,I⟩:∃n,b=a+n:=⟨b-a,by omega⟩
 subst I
 obtain⟨q,A⟩:∃q,q=n/4:=⟨_,rfl⟩
 refine Spec.body Tryz.func236 rfl Tryz.results236 Tryz.ntmps236 rfl ?_
 refine .sr<|.ag rfl<|.ag rfl<|.z<|.mo rfl<|.mo rfl ?_
 refine .ia (n) .sub ?_
 refine .ag rfl<|.z ?_
 refine .pe (λe=>?_)
 refine .z<|.mo rfl<|.mo rfl ?_
 refine .q (.i64 ((q:Nat):Int) .quo ⟨by rw[A,Int.tdiv_eq_ediv_of_nonneg (by omega)];omega,by omega,by omega⟩) ?_
 refine .ia (q) .mul ?_
 refine .ia (a+q) .add ?_
 refine .ag rfl<|.z<|.mo rfl<|.mo rfl ?_
 refine .q (.i64 ((q:Nat):Int) .quo ⟨by rw[A,Int.tdiv_eq_ediv_of_nonneg (by omega)];omega,by omega,by omega⟩) ?_
 refine .ia (q*2) .mul ?_
 refine .ia (a+q*2) .add ?_
 refine .ag rfl<|.z<|.mo rfl<|.mo rfl ?_
 refine .q (.i64 ((q:Nat):Int) .quo ⟨by rw[A,Int.tdiv_eq_ediv_of_nonneg (by omega)];omega,by omega,by omega⟩) ?_
 refine .ia (q*3) .mul ?_
 refine .ia (a+q*3) .add ?_
 refine .ag rfl<|.zs ?_
 refine bz.cut (X:=Nat×Int) (λz=>a<=z.1/\z.1<a+n) (λz=>[(11,pT e),(13,iN z.1)]) (λz=>[bl e [.int .i64 z.2] 3]) ?_ ?_
 refine .sr<|.mo rfl<|.q .geq<|.zn ?_
 refine .cond rfl (λB=>?_) λB=>?_
 have a0:8<=n:=by have:=bS B;omega
 refine .seq ?_
 refine bz.cut (X:=Nat×Nat×Nat×Int) (λz=>(a<=z.1/\z.1<a+n)/\(a<=z.2.1/\z.2.1<a+n)/\(a<=z.2.2.1/\z.2.2.1<a+n)) (λz=>[(0,v),(3,.func (.func f) #[] caps.toArray),(11,pT e),(12,iN z.1),(13,iN z.2.1),(14,iN z.2.2.1)]) (λz=>[bl e [.int .i64 z.2.2.2] 3]) ?_ ?_
 refine .sr<|.mo rfl<|.q .geq<|.zn ?_
 refine .cond rfl (λC=>?_) λC=>?_
 have Z:50<=n:=by have:=bS C;omega
 refine .sr<|.mo rfl<|.mo rfl<|.mo rfl ?_
 refine .dg (oy v xs (a+q) a (a+n) e 0 _ h (by omega) l w m o) (λu r g=>?_)
 obtain⟨T,N,rfl,rfl,J⟩:=g
 refine .ag rfl<|.z<|.mo rfl<|.mo rfl<|.mo rfl ?_
 refine .dg (oy v xs (a+q*2) a (a+n) e T _ h (by omega) l w m o) (λu r g=>?_)
 obtain⟨U,O,rfl,rfl,K⟩:=g
 refine .az rfl<|.region<|.mo rfl<|.mo rfl<|.mo rfl ?_
 refine .dg (oy v xs (a+q*3) a (a+n) e U _ h (by omega) l w m o) (λu r g=>?_)
 obtain⟨V,Q,rfl,rfl,L⟩:=g
 refine .ag rfl<|.nil ?_
 ·exact aF (N,O,Q,V) ⟨J,K,L⟩ kE.c.c.c.c.c.c rH
 refine .skip ?_
 ·exact aF (a+q,a+q*2,a+q*3,0) ⟨by simp only;omega,by simp only;omega,by simp only;omega⟩ kE.c.c.c.c.c.c rH
 intro y d
 obtain⟨i,j,k,s⟩:=y
 obtain⟨D,E,F⟩:=d
 simp only at D E F⊢
 refine av<|.region<|.mo rfl<|.mo rfl<|.mo rfl<|.mo rfl<|.mo rfl ?_
 refine .dg (qK v xs i j k a (a+n) e s _ h D E F l m o) (λu r g=>?_)
 obtain⟨W,S,rfl,rfl,M⟩:=g
 refine .ag rfl<|.nil ?_
 ·exact aF (S,W) M kE.c.c rH
 refine .skip ?_
 ·exact aF (a+q*2,0) (by simp only;omega) kE.c.c rH
 intro y d
 obtain⟨p,s⟩:=y
 simp only at d⊢
 refine av<|.sr<|.lo rfl<|.zn<|.block<|.sr<|.q .bQ<|.az rfl ?_
 refine .cond rfl (λG=>?_) λG=>?_
 refine .sr<|.mo rfl<|.ag rfl<|.az rfl ?_
 refine .ret (bh (bp _ (.two (.tmp rfl) (.tmp rfl)) (.none _) ?_))
 ·exact⟨⟨p,_,rfl,d.1,d.2⟩,rfl⟩
 refine .sr<|.q .bQ<|.az rfl ?_
 refine .cond rfl (λH=>?_) λH=>?_
 refine .sr<|.mo rfl<|.ag rfl<|.az rfl ?_
 refine .ret (bh (bp _ (.two (.tmp rfl) (.tmp rfl)) (.none _) ?_))
 ·exact⟨⟨p,_,rfl,d.1,d.2⟩,rfl⟩
 refine .sr<|.mo rfl<|.ag rfl<|.az rfl ?_
 refine .ret (bh (bp _ (.two (.tmp rfl) (.tmp rfl)) (.none _) ?_))
 ·exact⟨⟨p,_,rfl,d.1,d.2⟩,rfl⟩
end
end STP
namespace STP
section
variable{c:aE->aE->Int}{ok:aE->Prop}{f:FuncId}{caps:List Value} [e:aZ prog f]
theorem vU(v:Value)(xs:List aE)(T:ay)(a b m:Nat)(p:aE)(R:aB)(h:OS 119 7 aE.enc v xs T)(b2:a<b)(hm:a<=m/\m<b)(z:xs[m]? =some p)(L:b<=xs.length)(hl:xs.length<=1000000000)(hf:iR prog f caps R (λt:aE=>Value.agg t.enc.toArray) c ok)(Z:∀x∈xs,ok x)(so:SO (br c))
  (b8:∀(k:Nat) (x:aE),a<=k->k<b->xs[k]? =some x->br c x p=false):
  Spec prog 239 [v,.int .i64 a,.int .i64 b,.int .i64 m,.func (.func f) #[] caps.toArray] R [T] λu H'=>∃T',H'=[T']/\∃ys mid,u=iN mid/\OS 119 7 aE.enc v ys T'/\RP a b xs ys/\rA (br c) ys a mid b p:=by
 have iv:=h.ap
 obtain⟨x0,B⟩:∃x,xs[a]? =some x:=⟨_,aX (by omega)⟩
 have a9:=Z p (aO z)
 refine Spec.body Tryz.func239 rfl Tryz.results239 Tryz.ntmps239 rfl ?_
 refine .sr<|.ag rfl<|.zs<|.cL [13,15] mixed ?_
 refine .tO 0 rfl .move<|.tO 1 rfl .move<|.tK 2 rfl .move<|.tK 3 rfl .move<|.tO 4 rfl .move<|.tO 5 rfl .move ?_
 refine RA.aL 6 rfl (m) h z rfl rfl rfl (by kernel_rfl) (λd2=>?_)
 refine .tO 7 rfl (.aM rfl)<|.tO 8 rfl .move<|.tO 9 rfl .move ?_
 refine RA.aL 10 rfl (a) h B rfl rfl rfl (by kernel_rfl) (λd3=>?_)
 refine .tO 11 rfl (.aM rfl) ?_
 refine RA.aL 12 rfl (a) h B rfl rfl rfl (by kernel_rfl) (λd4=>?_)
 refine .sT 13 rfl ?_
 refine .eD (a) h B p (λb0 a0=>?_) (h.one _ (aO z))
 refine .nil (Next.mod rfl ?_)
 refine RA.aL 14 rfl (m) h z rfl rfl rfl (by kernel_rfl) (λd5=>?_)
 refine .sT 15 rfl ?_
 obtain⟨zz,a1⟩:∃u,(xs.set (a) p)[m]? =some u:=⟨_,aX (by rw[List.length_set];exact(List.getElem?_eq_some_iff.1 z).1)⟩
 refine .eD (m) a0 a1 x0 (λO H=>?_) (h.one _ (aO B))
 rw[<-eQ B z]at H
 refine .nil (Next.mod rfl ?_)
 refine RA.nil (by kernel_rfl) ?_
 have b1:RP a b xs (cX xs a m):=(RP.refl xs).step (by omega) (by omega) (by omega) (by omega) (by omega)
 have b3:(cX xs a m)[a]? =some p:=by
  rw[gh (by omega) (by omega)]
  by_cases Y:a=m
  ·rw[if_pos Y,B, <-z, <-Y,B]
  ·rw[if_neg Y,if_pos rfl,z]
 refine av<|.sr<|.mo rfl ?_
 refine .ia (a+1) .add ?_
 refine .mo rfl ?_
 refine .ia (b-1) .sub ?_
 refine .ag rfl<|.ag rfl<|.zs<|.block ?_
 refine .loop (X:=Nat×Nat×List aE×ay) (λy=>OS 119 7 aE.enc v y.2.2.1 y.2.2.2/\RP a b xs y.2.2.1/\PQ (λx=> !br c p x) y.2.2.1 a y.1 y.2.1 b p) (λy=>[(0,v),(1,iN a),(4,.func (.func f) #[] caps.toArray),(11,iN y.1),(12,iN y.2.1)]) (λy=>[y.2.2.2]) (λy=>y.2.1+1-y.1) (a+1,b-1,cX xs a m,O) ⟨H,b1,.start b2 b3⟩ kE.c.c.c.c.c rH ?_
 rintro⟨i,j,ys,J⟩ ⟨n,A,G⟩
 simp only at n A G⊢
 have d1:=A.length
 have c5:=G.i0
 have c7:=G.ij
 have c9:=G.jb
 have a8:=G.at_
 refine .block<|.seq ?_
 refine bz.cut (X:=Nat) (λr=>i<=r/\PQ (λx=> !br c p x) ys a r j b p/\∀x,r<=j->ys[r]? =some x->(!br c p x)=false) (λr=>[(0,v),(1,iN a),(4,.func (.func f) #[] caps.toArray),(11,.int .i64 (r:Nat)),(12,iN j)]) (λ_=>[J]) ?_ ?_
 refine .block ?_
 refine .loop (X:=Nat) (λr=>i<=r/\PQ (λx=> !br c p x) ys a r j b p) (λr=>[(0,v),(1,iN a),(4,.func (.func f) #[] caps.toArray),(11,.int .i64 (r:Nat)),(12,iN j)]) (λ_=>[J]) (λr=>j+1-r) i ⟨Nat.le_refl _,G⟩ kE.c.c.c.c.c rH ?_
 rintro E ⟨a3,V⟩
 refine .seq<|.seq ?_
 refine .dt 13 mixed (by kernel_rfl) ?_
 conv=>arg 6;dsimp only[List.take]
 refine .mo rfl<|.mo rfl<|.q .leq<|.mo rfl ?_
 refine .split (t:=34) rfl (λd=>?_) (λd=>?_)
 have b6:E<=j:=by have:=bS d;omega
 obtain⟨x2,M⟩:∃x,ys[E]? =some x:=⟨_,aX (by omega)⟩
 have c3:=Z x2 (A.perm.mem_iff.1 (aO M))
 refine .gT d<|.mo rfl<|.gT d<|.mo rfl<|.gT d<|.mo rfl<|.gT d ?_
 refine .aL a n a8 (λd6=>?_)
 refine .gT d<|.q (.aM rfl)<|.gT d<|.mo rfl<|.gT d<|.mo rfl<|.gT d ?_
 refine .aL E n M (λd7=>?_)
 refine .gT d<|.q (.aM rfl)<|.nil<|.gT d ?_
 refine .gy (first:=[]) (captured:=caps) (vs:=[(λt:aE=>Value.agg t.enc.toArray) p,(λt:aE=>Value.agg t.enc.toArray) x2]) (hf p x2 a9 c3 _ (λb o L=>.inl L)) (λu hu=>?_)
 subst hu
 refine .gT d<|.q .lss<|.gT d<|.q .not<|.q (.aT d) ?_
 refine .zn ?_
 refine .cond rfl (λQ=>?_) λQ=>?_
 refine .kn<|.block<|.region<|.mo rfl ?_
 refine .ia (E+1) .add ?_
 refine .ag rfl<|.nil<|aV ?_
 ·exact aW (E+1) ⟨by omega,V.inc b6 M Q⟩ (by omega) kE.c.c.c.c.c rH
 refine .exit<|bm<|bs<|bo ?_
 exact aF E ⟨a3,V,λx l C=>by rw[M]at C;cases C;exact Q⟩ kE.c.c.c.c.c rH
 refine .gF d<|.gF d<|.gF d<|.gF d<|.gF d<|.gF d<|.gF d<|.gF d<|.gF d<|.nil<|.gF d<|.gF d<|.gF d<|.q (.aS d) ?_
 refine .zn<|.cP<|.exit<|bm<|bs<|bo ?_
 exact aF E ⟨a3,V,λx l C=>by have:=bA d;omega⟩ kE.c.c.c.c.c rH
 intro x l
 obtain⟨g,a4⟩:∃g,g=x:=⟨_,rfl⟩
 rw[<-a4]at l⊢
 clear a4 x
 obtain⟨c6,a2,c1⟩:=l
 refine av<|.seq ?_
 refine bz.cut (X:=Nat) (λs=>s<=j/\PQ (λx=> !br c p x) ys a g s b p/\∀x,g<=s->ys[s]? =some x->(!br c p x)=true) (λs=>[(0,v),(1,iN a),(4,.func (.func f) #[] caps.toArray),(11,iN g),(12,.int .i64 (s:Nat))]) (λ_=>[J]) ?_ ?_
 refine .block ?_
 refine .loop (X:=Nat) (λs=>s<=j/\PQ (λx=> !br c p x) ys a g s b p) (λs=>[(0,v),(1,iN a),(4,.func (.func f) #[] caps.toArray),(11,iN g),(12,.int .i64 (s:Nat))]) (λ_=>[J]) (λs=>s) j ⟨Nat.le_refl _,a2⟩ kE.c.c.c.c.c rH ?_
 rintro F ⟨a5,W⟩
 have b5:=a2.i0
 refine .seq<|.seq ?_
 refine .dt 13 mixed (by kernel_rfl) ?_
 conv=>arg 6;dsimp only[List.take]
 refine .mo rfl<|.mo rfl<|.q .leq<|.mo rfl ?_
 refine .split (t:=53) rfl (λe=>?_) (λe=>?_)
 have b7:g<=F:=by have:=bS e;omega
 obtain⟨I,N⟩:∃x,ys[F]? =some x:=⟨_,aX (by omega)⟩
 have c4:=Z I (A.perm.mem_iff.1 (aO N))
 refine .gT e<|.mo rfl<|.gT e<|.mo rfl<|.gT e<|.mo rfl<|.gT e ?_
 refine .aL a n a8 (λd8=>?_)
 refine .gT e<|.q (.aM rfl)<|.gT e<|.mo rfl<|.gT e<|.mo rfl<|.gT e ?_
 refine .aL F n N (λd9=>?_)
 refine .gT e<|.q (.aM rfl)<|.nil<|.gT e ?_
 refine .gy (first:=[]) (captured:=caps) (vs:=[(λt:aE=>Value.agg t.enc.toArray) p,(λt:aE=>Value.agg t.enc.toArray) I]) (hf p I a9 c4 _ (λb o L=>.inl L)) (λu hu=>?_)
 subst hu
 refine .gT e<|.q .lss<|.q (.aT e) ?_
 refine .zn ?_
 refine .cond rfl (λS=>?_) λS=>?_
 refine .kn<|.block<|.region<|.mo rfl ?_
 refine .ia (F-1) .sub ?_
 refine .ag rfl<|.nil<|aV ?_
 ·have b9:br c p I=true:=S
  exact aW (F-1) ⟨by omega,W.dec b7 N (by rw[b9];rfl)⟩ (by omega) kE.c.c.c.c.c rH
 refine .exit<|bm<|bs<|bo ?_
 exact aF F ⟨a5,W,λx l C=>by have hh:br c p I=false:=S;rw[N]at C;cases C;rw[hh];rfl⟩ kE.c.c.c.c.c rH
 refine .gF e<|.gF e<|.gF e<|.gF e<|.gF e<|.gF e<|.gF e<|.gF e<|.gF e<|.nil<|.gF e<|.gF e<|.q (.aS e) ?_
 refine .zn<|.cP<|.exit<|bm<|bs<|bo ?_
 exact aF F ⟨a5,W,λx l C=>by have:=bA e;omega⟩ kE.c.c.c.c.c rH
 intro x l
 obtain⟨w,a6⟩:∃w,w=x:=⟨_,rfl⟩
 rw[<-a6]at l⊢
 clear a6 x
 obtain⟨d0,K,c2⟩:=l
 have b5:=K.i0
 have c8:=K.ij
 refine av<|.seq<|.sr<|.mo rfl<|.mo rfl<|.q .gtr<|.zn ?_
 refine .cond rfl (λU=>?_) λU=>?_
 refine .exit (bm (jI (bs (bo ?_))))
 refine av<|.sr<|.mo rfl<|.az rfl ?_
 refine .ret (bp _ (.one (.tmp rfl)) rH ?_)
 ·have b4:w<g:=cb U
  exact⟨_,rfl,ys,g,rfl,n,A,K.y7 so b4 (A.all (p:=λx=>br c x p=false) b8)⟩
 have a7:g<=w:=by have:=bA U;omega
 obtain⟨x,l⟩:∃x,ys[g]? =some x:=⟨_,aX (by omega)⟩
 obtain⟨y,D⟩:∃x,ys[w]? =some x:=⟨_,aX (by omega)⟩
 have c0:=K.sw a7 (by omega) l D (c1 x (by omega) l) (c2 y a7 D)
 refine .kn<|.seq<|.cL [13,15] mixed ?_
 refine .tO 0 rfl .move<|.tO 1 rfl .move<|.tK 2 rfl .move<|.tK 3 rfl .move<|.tO 4 rfl .move<|.tO 5 rfl .move ?_
 refine RA.aL 6 rfl (w) n D rfl rfl rfl (by kernel_rfl) (λe0=>?_)
 refine .tO 7 rfl (.aM rfl)<|.tO 8 rfl .move<|.tO 9 rfl .move ?_
 refine RA.aL 10 rfl (g) n l rfl rfl rfl (by kernel_rfl) (λe1=>?_)
 refine .tO 11 rfl (.aM rfl) ?_
 refine RA.aL 12 rfl (g) n l rfl rfl rfl (by kernel_rfl) (λe2=>?_)
 refine .sT 13 rfl ?_
 refine .eD (g) n l y (λb0 a0=>?_) (n.one _ (aO D))
 refine .nil (Next.mod rfl ?_)
 refine RA.aL 14 rfl (w) n D rfl rfl rfl (by kernel_rfl) (λe3=>?_)
 refine .sT 15 rfl ?_
 obtain⟨zz,a1⟩:∃u,(ys.set (g) y)[w]? =some u:=⟨_,aX (by rw[List.length_set];exact(List.getElem?_eq_some_iff.1 D).1)⟩
 refine .eD (w) a0 a1 x (λO H=>?_) (n.one _ (aO l))
 rw[<-eQ l D]at H
 refine .nil (Next.mod rfl ?_)
 refine RA.nil (by kernel_rfl) ?_
 refine av<|.sr<|.mo rfl ?_
 refine .ia (g+1) .add ?_
 refine .az rfl<|.region<|.mo rfl ?_
 refine .ia (w-1) .sub ?_
 refine .ag rfl<|.nil<|aV ?_
 ·exact aW (g+1,w-1,cX ys g w,O) ⟨H,A.step (by omega) (by omega) (by omega) (by omega) (by omega),c0.2⟩ (by simp only;omega) kE.c.c.c.c.c rH
theorem qR(v:Value)(xs:List aE)(T:ay)(a b m:Nat)(p:aE)(R:aB)(h:OS 119 7 aE.enc v xs T)(d8:a<b)(hm:a<=m/\m<b)(N:xs[m]? =some p)(M:b<=xs.length)(hl:xs.length<=1000000000)(hf:iR prog f caps R (λt:aE=>Value.agg t.enc.toArray) c ok)(a4:∀x∈xs,ok x)(so:SO (br c)):
  Spec prog 240 [v,.int .i64 a,.int .i64 b,.int .i64 m,.func (.func f) #[] caps.toArray] R [T] λu H'=>∃T',H'=[T']/\∃ys mid z,u=.tuple [iN mid,.bool z].toArray/\OS 119 7 aE.enc v ys T'/\RP a b xs ys/\Part (br c) ys a mid b p:=by
 have iv:=h.ap
 obtain⟨x0,S⟩:∃x,xs[a]? =some x:=⟨_,aX (by omega)⟩
 have b4:=a4 p (aO N)
 refine Spec.body Tryz.func240 rfl Tryz.results240 Tryz.ntmps240 rfl ?_
 refine .sr<|.ag rfl<|.ag rfl<|.zs<|.cL [13,15] mixed ?_
 refine .tO 0 rfl .move<|.tO 1 rfl .move<|.tK 2 rfl .move<|.tK 3 rfl .move<|.tO 4 rfl .move<|.tO 5 rfl .move ?_
 refine RA.aL 6 rfl (m) h N rfl rfl rfl (by kernel_rfl) (λj7=>?_)
 refine .tO 7 rfl (.aM rfl)<|.tO 8 rfl .move<|.tO 9 rfl .move ?_
 refine RA.aL 10 rfl (a) h S rfl rfl rfl (by kernel_rfl) (λj8=>?_)
 refine .tO 11 rfl (.aM rfl) ?_
 refine RA.aL 12 rfl (a) h S rfl rfl rfl (by kernel_rfl) (λk0=>?_)
 refine .sT 13 rfl ?_
 refine .eD (a) h S p (λa7 J=>?_) (h.one _ (aO N))
 refine .nil (Next.mod rfl ?_)
 refine RA.aL 14 rfl (m) h N rfl rfl rfl (by kernel_rfl) (λk1=>?_)
 refine .sT 15 rfl ?_
 obtain⟨zz,K⟩:∃u,(xs.set (a) p)[m]? =some u:=⟨_,aX (by rw[List.length_set];exact(List.getElem?_eq_some_iff.1 N).1)⟩
 refine .eD (m) J K x0 (λO D=>?_) (h.one _ (aO S))
 rw[<-eQ S N]at D
 refine .nil (Next.mod rfl ?_)
 refine RA.nil (by kernel_rfl) ?_
 have a2:RP a b xs (cX xs a m):=(RP.refl xs).step (by omega) (by omega) (by omega) (by omega) (by omega)
 have I:(cX xs a m)[a]? =some p:=by
  rw[gh (by omega) (by omega)]
  by_cases hk:a=m
  ·rw[if_pos hk,S, <-N, <-hk,S]
  ·rw[if_neg hk,if_pos rfl,N]
 obtain⟨C,d3⟩:∃C,C=cX xs a m:=⟨_,rfl⟩
 rw[<-d3]at D a2 I
 obtain⟨T0,d7⟩:∃T0,T0=O:=⟨_,rfl⟩
 rw[<-d7]at D⊢
 have h0:=a2.length
 have w:=D
 clear D
 have d6:PQ (λx=>br c x p) C a (a+1) (b-1) b p:=.start d8 I
 clear d3
 refine av<|.sr<|.mo rfl ?_
 refine .ia (a+1) .add ?_
 refine .mo rfl ?_
 refine .ia (b-1) .sub ?_
 refine .ag rfl<|.ag rfl<|.zs ?_
 refine bz.cut (X:=Nat) (λr=>PQ (λx=>br c x p) C a r (b-1) b p/\∀x,r<=b-1->C[r]? =some x->br c x p=false) (λr=>[(0,v),(1,iN a),(4,.func (.func f) #[] caps.toArray),(12,.int .i64 (r:Nat)),(13,.int .i64 ((b-1:Nat):Int))]) (λ_=>[T0]) ?_ ?_
 refine .block ?_
 refine .loop (X:=Nat) (λr=>PQ (λx=>br c x p) C a r (b-1) b p) (λr=>[(0,v),(1,iN a),(4,.func (.func f) #[] caps.toArray),(12,.int .i64 (r:Nat)),(13,.int .i64 ((b-1:Nat):Int))]) (λ_=>[T0]) (λr=>b-r) (a+1) d6 kE.c.c.c.c.c rH ?_
 rintro W b5
 refine .seq<|.seq ?_
 refine .dt 13 mixed (by kernel_rfl) ?_
 conv=>arg 6;dsimp only[List.take]
 refine .mo rfl<|.mo rfl<|.q .leq<|.mo rfl ?_
 refine .split (t:=35) rfl (λl=>?_) (λl=>?_)
 have e2:W<=b-1:=by have:=bS l;omega
 obtain⟨x2,b0⟩:∃x,C[W]? =some x:=⟨_,aX (by omega)⟩
 have f4:=a4 x2 (a2.perm.mem_iff.1 (aO b0))
 refine .gT l<|.mo rfl<|.gT l<|.mo rfl<|.gT l<|.mo rfl<|.gT l ?_
 refine .aL W w b0 (λk4=>?_)
 refine .gT l<|.q (.aM rfl)<|.gT l<|.mo rfl<|.gT l<|.mo rfl<|.gT l ?_
 refine .aL a w I (λk5=>?_)
 refine .gT l<|.q (.aM rfl)<|.nil<|.gT l ?_
 refine .gy (first:=[]) (captured:=caps) (vs:=[(λt:aE=>Value.agg t.enc.toArray) x2,(λt:aE=>Value.agg t.enc.toArray) p]) (hf x2 p f4 b4 _ (λb o M=>.inl M)) (λu Q=>?_)
 subst Q
 refine .gT l<|.q .lss<|.q (.aT l) ?_
 refine .zn ?_
 refine .cond rfl (λh1=>?_) λh1=>?_
 refine .kn<|.block<|.region<|.mo rfl ?_
 refine .ia (W+1) .add ?_
 refine .ag rfl<|.nil<|aV ?_
 ·exact aW (W+1) (b5.inc e2 b0 h1) (by omega) kE.c.c.c.c.c rH
 refine .exit<|bm<|bs<|bo ?_
 exact aF W ⟨b5,λx g E=>by rw[b0]at E;cases E;exact h1⟩ kE.c.c.c.c.c rH
 refine .gF l<|.gF l<|.gF l<|.gF l<|.gF l<|.gF l<|.gF l<|.gF l<|.gF l<|.nil<|.gF l<|.gF l<|.q (.aS l) ?_
 refine .zn<|.cP<|.exit<|bm<|bs<|bo ?_
 exact aF W ⟨b5,λx g E=>by have:=bA l;omega⟩ kE.c.c.c.c.c rH
 intro x g
 obtain⟨A,c2⟩:∃A,A=x:=⟨_,rfl⟩
 rw[<-c2]at g⊢
 clear c2 x
 obtain⟨c0,f0⟩:=g
 refine av<|.seq ?_
 refine bz.cut (X:=Nat) (λn=>n<=b-1/\PQ (λx=>br c x p) C a A n b p/\∀x,A<=n->C[n]? =some x->br c x p=true) (λn=>[(0,v),(1,iN a),(4,.func (.func f) #[] caps.toArray),(12,iN A),(13,.int .i64 (n:Nat))]) (λ_=>[T0]) ?_ ?_
 refine .block ?_
 refine .loop (X:=Nat) (λn=>n<=b-1/\PQ (λx=>br c x p) C a A n b p) (λn=>[(0,v),(1,iN a),(4,.func (.func f) #[] caps.toArray),(12,iN A),(13,.int .i64 (n:Nat))]) (λ_=>[T0]) (λn=>n) (b-1) ⟨Nat.le_refl _,c0⟩ kE.c.c.c.c.c rH ?_
 rintro Y ⟨c3,b6⟩
 have e0:=c0.i0
 refine .seq<|.seq ?_
 refine .dt 13 mixed (by kernel_rfl) ?_
 conv=>arg 6;dsimp only[List.take]
 refine .mo rfl<|.mo rfl<|.q .leq<|.mo rfl ?_
 refine .split (t:=53) rfl (λe=>?_) (λe=>?_)
 have e3:A<=Y:=by have:=bS e;omega
 obtain⟨x4,b1⟩:∃x,C[Y]? =some x:=⟨_,aX (by omega)⟩
 have f5:=a4 x4 (a2.perm.mem_iff.1 (aO b1))
 refine .gT e<|.mo rfl<|.gT e<|.mo rfl<|.gT e<|.mo rfl<|.gT e ?_
 refine .aL Y w b1 (λk6=>?_)
 refine .gT e<|.q (.aM rfl)<|.gT e<|.mo rfl<|.gT e<|.mo rfl<|.gT e ?_
 refine .aL a w I (λk7=>?_)
 refine .gT e<|.q (.aM rfl)<|.nil<|.gT e ?_
 refine .gy (first:=[]) (captured:=caps) (vs:=[(λt:aE=>Value.agg t.enc.toArray) x4,(λt:aE=>Value.agg t.enc.toArray) p]) (hf x4 p f5 b4 _ (λb o M=>.inl M)) (λu Q=>?_)
 subst Q
 refine .gT e<|.q .lss<|.gT e<|.q .not<|.q (.aT e) ?_
 refine .zn ?_
 refine .cond rfl (λh2=>?_) λh2=>?_
 refine .kn<|.block<|.region<|.mo rfl ?_
 refine .ia (Y-1) .sub ?_
 refine .ag rfl<|.nil<|aV ?_
 ·have e6:br c x4 p=false:=by
   have d4:(!br c x4 p)=true:=h2
   simpa using d4
  exact aW (Y-1) ⟨by omega,b6.dec e3 b1 e6⟩ (by omega) kE.c.c.c.c.c rH
 refine .exit<|bm<|bs<|bo ?_
 exact aF Y ⟨c3,b6,λx g E=>by
  have hh:(!br c x4 p)=false:=h2
  rw[b1]at E;cases E
  simpa using hh⟩ kE.c.c.c.c.c rH
 refine .gF e<|.gF e<|.gF e<|.gF e<|.gF e<|.gF e<|.gF e<|.gF e<|.gF e<|.nil<|.gF e<|.gF e<|.gF e<|.q (.aS e) ?_
 refine .zn<|.cP<|.exit<|bm<|bs<|bo ?_
 exact aF Y ⟨c3,b6,λx g E=>by have:=bA e;omega⟩ kE.c.c.c.c.c rH
 intro x g
 obtain⟨s,c4⟩:∃s,s=x:=⟨_,rfl⟩
 rw[<-c4]at g⊢
 clear c4 x
 obtain⟨g7,a8,f1⟩:=g
 have e0:=a8.i0
 have g1:=a8.ij
 refine av<|.seq<|.sr<|.mo rfl<|.mo rfl<|.q .gtr<|.zn ?_
 refine .cond rfl (λh3=>?_) λh3=>?_
 have d9:s<A:=cb h3
 obtain⟨y,G⟩:∃x,C[s]? =some x:=⟨_,aX (by omega)⟩
 refine .seq<|.cL [13,15] mixed ?_
 refine .tO 0 rfl .move<|.tO 1 rfl .move<|.tK 2 rfl .move<|.tK 3 rfl .move<|.tO 4 rfl .move<|.tO 5 rfl .move ?_
 refine RA.aL 6 rfl (a) w I rfl rfl rfl (by kernel_rfl) (λk8=>?_)
 refine .tO 7 rfl (.aM rfl)<|.tO 8 rfl .move<|.tO 9 rfl .move ?_
 refine RA.aL 10 rfl (s) w G rfl rfl rfl (by kernel_rfl) (λk9=>?_)
 refine .tO 11 rfl (.aM rfl) ?_
 refine RA.aL 12 rfl (s) w G rfl rfl rfl (by kernel_rfl) (λl0=>?_)
 refine .sT 13 rfl ?_
 refine .eD (s) w G p (λa7 J=>?_) (w.one _ (aO I))
 refine .nil (Next.mod rfl ?_)
 refine RA.aL 14 rfl (a) w I rfl rfl rfl (by kernel_rfl) (λl1=>?_)
 refine .sT 15 rfl ?_
 obtain⟨zz,K⟩:∃u,(C.set (s) p)[a]? =some u:=⟨_,aX (by rw[List.length_set];exact(List.getElem?_eq_some_iff.1 I).1)⟩
 refine .eD (a) J K y (λO D=>?_) (w.one _ (aO G))
 rw[<-eQ G I]at D
 refine .nil (Next.mod rfl ?_)
 refine RA.nil (by kernel_rfl) ?_
 refine av<|.sr<|.mo rfl<|.ag rfl<|.az rfl ?_
 refine .ret (aH (bp _ (.two (.tmp rfl) (.tmp rfl)) rH ?_))
 ·exact⟨_,rfl,cX C s a,s,true,rfl,D,a2.step (by omega) (by omega) (by omega) (by omega) (by omega),a8.fin d9 (by omega)⟩
 have c8:A<=s:=by have:=bA h3;omega
 obtain⟨x,g⟩:∃x,C[A]? =some x:=⟨_,aX (by omega)⟩
 obtain⟨y,G⟩:∃x,C[s]? =some x:=⟨_,aX (by omega)⟩
 have e8:=a8.sw c8 (by omega) g G (f0 x (by omega) g) (f1 y c8 G)
 refine .kn<|.seq<|.cL [13,15] mixed ?_
 refine .tO 0 rfl .move<|.tO 1 rfl .move<|.tK 2 rfl .move<|.tK 3 rfl .move<|.tO 4 rfl .move<|.tO 5 rfl .move ?_
 refine RA.aL 6 rfl (s) w G rfl rfl rfl (by kernel_rfl) (λl2=>?_)
 refine .tO 7 rfl (.aM rfl)<|.tO 8 rfl .move<|.tO 9 rfl .move ?_
 refine RA.aL 10 rfl (A) w g rfl rfl rfl (by kernel_rfl) (λl3=>?_)
 refine .tO 11 rfl (.aM rfl) ?_
 refine RA.aL 12 rfl (A) w g rfl rfl rfl (by kernel_rfl) (λl4=>?_)
 refine .sT 13 rfl ?_
 refine .eD (A) w g y (λa7 J=>?_) (w.one _ (aO G))
 refine .nil (Next.mod rfl ?_)
 refine RA.aL 14 rfl (s) w G rfl rfl rfl (by kernel_rfl) (λh8=>?_)
 refine .sT 15 rfl ?_
 obtain⟨zz,K⟩:∃u,(C.set (A) y)[s]? =some u:=⟨_,aX (by rw[List.length_set];exact(List.getElem?_eq_some_iff.1 G).1)⟩
 refine .eD (s) J K x (λO D=>?_) (w.one _ (aO g))
 rw[<-eQ g G]at D
 refine .nil (Next.mod rfl ?_)
 refine RA.nil (by kernel_rfl) ?_
 refine av<|.sr<|.mo rfl ?_
 refine .ia (A+1) .add ?_
 refine .ag rfl<|.z<|.mo rfl ?_
 refine .ia (s-1) .sub ?_
 refine .ag rfl<|.zs ?_
 refine bz.cut (X:=Nat×Nat×List aE×ay) (λy=>OS 119 7 aE.enc v y.2.2.1 y.2.2.2/\RP a b xs y.2.2.1/\PQ (λx=>br c x p) y.2.2.1 a y.1 y.2.1 b p/\y.2.1<y.1) (λy=>[(0,v),(1,iN a),(4,.func (.func f) #[] caps.toArray),(12,iN y.1),(13,iN y.2.1)]) (λy=>[y.2.2.2]) ?_ ?_
 refine .block ?_
 refine .loop (X:=Nat×Nat×List aE×ay) (λy=>OS 119 7 aE.enc v y.2.2.1 y.2.2.2/\RP a b xs y.2.2.1/\PQ (λx=>br c x p) y.2.2.1 a y.1 y.2.1 b p) (λy=>[(0,v),(1,iN a),(4,.func (.func f) #[] caps.toArray),(12,iN y.1),(13,iN y.2.1)]) (λy=>[y.2.2.2]) (λy=>y.2.1+1-y.1) (A+1,s-1,cX C A s,O) ⟨D,a2.step (by omega) (by omega) (by omega) (by omega) (by omega),e8.2⟩ kE.c.c.c.c.c rH ?_
 rintro⟨i,j,ys,T1⟩ ⟨F,a3,a0⟩
 simp only at F a3 a0⊢
 have g9:=a3.length
 have f8:=a0.i0
 have g0:=a0.ij
 have g5:=a0.jb
 have d2:=a0.at_
 refine .block<|.seq ?_
 refine bz.cut (X:=Nat) (λr=>i<=r/\PQ (λx=>br c x p) ys a r j b p/\∀x,r<=j->ys[r]? =some x->br c x p=false) (λr=>[(0,v),(1,iN a),(4,.func (.func f) #[] caps.toArray),(12,.int .i64 (r:Nat)),(13,iN j)]) (λ_=>[T1]) ?_ ?_
 refine .block ?_
 refine .loop (X:=Nat) (λr=>i<=r/\PQ (λx=>br c x p) ys a r j b p) (λr=>[(0,v),(1,iN a),(4,.func (.func f) #[] caps.toArray),(12,.int .i64 (r:Nat)),(13,iN j)]) (λ_=>[T1]) (λr=>j+1-r) i ⟨Nat.le_refl _,a0⟩ kE.c.c.c.c.c rH ?_
 rintro k2 ⟨c6,b8⟩
 refine .seq<|.seq ?_
 refine .dt 13 mixed (by kernel_rfl) ?_
 conv=>arg 6;dsimp only[List.take]
 refine .mo rfl<|.mo rfl<|.q .leq<|.mo rfl ?_
 refine .split (t:=108) rfl (λk=>?_) (λk=>?_)
 have e4:k2<=j:=by have:=bS k;omega
 obtain⟨x6,b2⟩:∃x,ys[k2]? =some x:=⟨_,aX (by omega)⟩
 have f6:=a4 x6 (a3.perm.mem_iff.1 (aO b2))
 refine .gT k<|.mo rfl<|.gT k<|.mo rfl<|.gT k<|.mo rfl<|.gT k ?_
 refine .aL k2 F b2 (λh9=>?_)
 refine .gT k<|.q (.aM rfl)<|.gT k<|.mo rfl<|.gT k<|.mo rfl<|.gT k ?_
 refine .aL a F d2 (λi1=>?_)
 refine .gT k<|.q (.aM rfl)<|.nil<|.gT k ?_
 refine .gy (first:=[]) (captured:=caps) (vs:=[(λt:aE=>Value.agg t.enc.toArray) x6,(λt:aE=>Value.agg t.enc.toArray) p]) (hf x6 p f6 b4 _ (λb o M=>.inl M)) (λu Q=>?_)
 subst Q
 refine .gT k<|.q .lss<|.q (.aT k) ?_
 refine .zn ?_
 refine .cond rfl (λh4=>?_) λh4=>?_
 refine .kn<|.block<|.region<|.mo rfl ?_
 refine .ia (k2+1) .add ?_
 refine .ag rfl<|.nil<|aV ?_
 ·exact aW (k2+1) ⟨by omega,b8.inc e4 b2 h4⟩ (by omega) kE.c.c.c.c.c rH
 refine .exit<|bm<|bs<|bo ?_
 exact aF k2 ⟨c6,b8,λx g E=>by rw[b2]at E;cases E;exact h4⟩ kE.c.c.c.c.c rH
 refine .gF k<|.gF k<|.gF k<|.gF k<|.gF k<|.gF k<|.gF k<|.gF k<|.gF k<|.nil<|.gF k<|.gF k<|.q (.aS k) ?_
 refine .zn<|.cP<|.exit<|bm<|bs<|bo ?_
 exact aF k2 ⟨c6,b8,λx g E=>by have:=bA k;omega⟩ kE.c.c.c.c.c rH
 intro x g
 obtain⟨B,c7⟩:∃B,B=x:=⟨_,rfl⟩
 rw[<-c7]at g⊢
 clear c7 x
 obtain⟨g4,c1,f2⟩:=g
 refine av<|.seq ?_
 refine bz.cut (X:=Nat) (λn=>n<=j/\PQ (λx=>br c x p) ys a B n b p/\∀x,B<=n->ys[n]? =some x->br c x p=true) (λn=>[(0,v),(1,iN a),(4,.func (.func f) #[] caps.toArray),(12,iN B),(13,.int .i64 (n:Nat))]) (λ_=>[T1]) ?_ ?_
 refine .block ?_
 refine .loop (X:=Nat) (λn=>n<=j/\PQ (λx=>br c x p) ys a B n b p) (λn=>[(0,v),(1,iN a),(4,.func (.func f) #[] caps.toArray),(12,iN B),(13,.int .i64 (n:Nat))]) (λ_=>[T1]) (λn=>n) j ⟨Nat.le_refl _,c1⟩ kE.c.c.c.c.c rH ?_
 rintro m2 ⟨d0,b9⟩
 have e1:=c1.i0
 refine .seq<|.seq ?_
 refine .dt 13 mixed (by kernel_rfl) ?_
 conv=>arg 6;dsimp only[List.take]
 refine .mo rfl<|.mo rfl<|.q .leq<|.mo rfl ?_
 refine .split (t:=126) rfl (λd=>?_) (λd=>?_)
 have e5:B<=m2:=by have:=bS d;omega
 obtain⟨x7,b3⟩:∃x,ys[m2]? =some x:=⟨_,aX (by omega)⟩
 have f7:=a4 x7 (a3.perm.mem_iff.1 (aO b3))
 refine .gT d<|.mo rfl<|.gT d<|.mo rfl<|.gT d<|.mo rfl<|.gT d ?_
 refine .aL m2 F b3 (λi4=>?_)
 refine .gT d<|.q (.aM rfl)<|.gT d<|.mo rfl<|.gT d<|.mo rfl<|.gT d ?_
 refine .aL a F d2 (λi5=>?_)
 refine .gT d<|.q (.aM rfl)<|.nil<|.gT d ?_
 refine .gy (first:=[]) (captured:=caps) (vs:=[(λt:aE=>Value.agg t.enc.toArray) x7,(λt:aE=>Value.agg t.enc.toArray) p]) (hf x7 p f7 b4 _ (λb o M=>.inl M)) (λu Q=>?_)
 subst Q
 refine .gT d<|.q .lss<|.gT d<|.q .not<|.q (.aT d) ?_
 refine .zn ?_
 refine .cond rfl (λh5=>?_) λh5=>?_
 refine .kn<|.block<|.region<|.mo rfl ?_
 refine .ia (m2-1) .sub ?_
 refine .ag rfl<|.nil<|aV ?_
 ·have e7:br c x7 p=false:=by
   have d5:(!br c x7 p)=true:=h5
   simpa using d5
  exact aW (m2-1) ⟨by omega,b9.dec e5 b3 e7⟩ (by omega) kE.c.c.c.c.c rH
 refine .exit<|bm<|bs<|bo ?_
 exact aF m2 ⟨d0,b9,λx g E=>by
  have hh:(!br c x7 p)=false:=h5
  rw[b3]at E;cases E
  simpa using hh⟩ kE.c.c.c.c.c rH
 refine .gF d<|.gF d<|.gF d<|.gF d<|.gF d<|.gF d<|.gF d<|.gF d<|.gF d<|.nil<|.gF d<|.gF d<|.gF d<|.q (.aS d) ?_
 refine .zn<|.cP<|.exit<|bm<|bs<|bo ?_
 exact aF m2 ⟨d0,b9,λx g E=>by have:=bA d;omega⟩ kE.c.c.c.c.c rH
 intro x g
 obtain⟨H,d1⟩:∃H,H=x:=⟨_,rfl⟩
 rw[<-d1]at g⊢
 clear d1 x
 obtain⟨g8,a9,f3⟩:=g
 have e1:=a9.i0
 have g2:=a9.ij
 refine av<|.seq<|.sr<|.mo rfl<|.mo rfl<|.q .gtr<|.zn ?_
 refine .cond rfl (λh6=>?_) λh6=>?_
 refine .exit (bm (jI (bs (bo ?_))))
 exact aF (B,H,ys,T1) ⟨F,a3,a9,by have:=bS h6;simp only;omega⟩ kE.c.c.c.c.c rH
 have c9:B<=H:=by have:=bA h6;omega
 obtain⟨x8,U⟩:∃x,ys[B]? =some x:=⟨_,aX (by omega)⟩
 obtain⟨y8,V⟩:∃x,ys[H]? =some x:=⟨_,aX (by omega)⟩
 have e9:=a9.sw c9 (by omega) U V (f2 x8 (by omega) U) (f3 y8 c9 V)
 refine .kn<|.seq<|.cL [13,15] mixed ?_
 refine .tO 0 rfl .move<|.tO 1 rfl .move<|.tK 2 rfl .move<|.tK 3 rfl .move<|.tO 4 rfl .move<|.tO 5 rfl .move ?_
 refine RA.aL 6 rfl (H) F V rfl rfl rfl (by kernel_rfl) (λi6=>?_)
 refine .tO 7 rfl (.aM rfl)<|.tO 8 rfl .move<|.tO 9 rfl .move ?_
 refine RA.aL 10 rfl (B) F U rfl rfl rfl (by kernel_rfl) (λi7=>?_)
 refine .tO 11 rfl (.aM rfl) ?_
 refine RA.aL 12 rfl (B) F U rfl rfl rfl (by kernel_rfl) (λi8=>?_)
 refine .sT 13 rfl ?_
 refine .eD (B) F U y8 (λa7 J=>?_) (F.one _ (aO V))
 refine .nil (Next.mod rfl ?_)
 refine RA.aL 14 rfl (H) F V rfl rfl rfl (by kernel_rfl) (λj0=>?_)
 refine .sT 15 rfl ?_
 obtain⟨zz,K⟩:∃u,(ys.set (B) y8)[H]? =some u:=⟨_,aX (by rw[List.length_set];exact(List.getElem?_eq_some_iff.1 V).1)⟩
 refine .eD (H) J K x8 (λO D=>?_) (F.one _ (aO U))
 rw[<-eQ U V]at D
 refine .nil (Next.mod rfl ?_)
 refine RA.nil (by kernel_rfl) ?_
 refine av<|.sr<|.mo rfl ?_
 refine .ia (B+1) .add ?_
 refine .az rfl<|.region<|.mo rfl ?_
 refine .ia (H-1) .sub ?_
 refine .ag rfl<|.nil<|aV ?_
 ·exact aW (B+1,H-1,cX ys B H,O) ⟨D,a3.step (by omega) (by omega) (by omega) (by omega) (by omega),e9.2⟩ (by simp only;omega) kE.c.c.c.c.c rH
 intro x g
 obtain⟨i9,Z,zs,T9⟩:=x
 obtain⟨L,b7,a1,c5⟩:=g
 simp only at L b7 a1 c5⊢
 have h7:=b7.length
 have g3:=a1.ij
 have f9:=a1.i0
 have g6:=a1.jb
 have a5:=a1.at_
 obtain⟨y9,a6⟩:∃x,zs[Z]? =some x:=⟨_,aX (by omega)⟩
 refine av<|.seq<|.cL [13,15] mixed ?_
 refine .tO 0 rfl .move<|.tO 1 rfl .move<|.tK 2 rfl .move<|.tK 3 rfl .move<|.tO 4 rfl .move<|.tO 5 rfl .move ?_
 refine RA.aL 6 rfl (a) L a5 rfl rfl rfl (by kernel_rfl) (λj1=>?_)
 refine .tO 7 rfl (.aM rfl)<|.tO 8 rfl .move<|.tO 9 rfl .move ?_
 refine RA.aL 10 rfl (Z) L a6 rfl rfl rfl (by kernel_rfl) (λj4=>?_)
 refine .tO 11 rfl (.aM rfl) ?_
 refine RA.aL 12 rfl (Z) L a6 rfl rfl rfl (by kernel_rfl) (λj5=>?_)
 refine .sT 13 rfl ?_
 refine .eD (Z) L a6 p (λa7 J=>?_) (L.one _ (aO a5))
 refine .nil (Next.mod rfl ?_)
 refine RA.aL 14 rfl (a) L a5 rfl rfl rfl (by kernel_rfl) (λj6=>?_)
 refine .sT 15 rfl ?_
 obtain⟨zz,K⟩:∃u,(zs.set (Z) p)[a]? =some u:=⟨_,aX (by rw[List.length_set];exact(List.getElem?_eq_some_iff.1 a5).1)⟩
 refine .eD (a) J K y9 (λO D=>?_) (L.one _ (aO a6))
 rw[<-eQ a6 a5]at D
 refine .nil (Next.mod rfl ?_)
 refine RA.nil (by kernel_rfl) ?_
 refine av<|.sr<|.mo rfl<|.ag rfl<|.az rfl ?_
 refine .ret (bp _ (.two (.tmp rfl) (.tmp rfl)) rH ?_)
 ·exact⟨_,rfl,cX zs Z a,Z,false,rfl,D,b7.step (by omega) (by omega) (by omega) (by omega) (by omega),a1.fin c5 (by omega)⟩
end
end STP
namespace STP
section
variable{c:aE->aE->Int}{ok:aE->Prop}{f:FuncId}{caps:List Value} [e:aZ prog f]
def qj(c:aE->aE->Int)(ok:aE->Prop)(f:FuncId)(caps:List Value)(n:Nat):Prop:=∀(v:Value) (xs:List aE) (T:ay) (a b kz:Nat) (R:aB),OS 119 7 aE.enc v xs T->a<=b->b<=xs.length->xs.length<=1000000000->kz<=1000000000->iR prog f caps R (λt:aE=>Value.agg t.enc.toArray) c ok->(∀x∈xs,ok x)->LB (br c) xs a b->b-a<n->
  Spec prog 185 [v,.int .i64 a,.int .i64 b,.int .i64 kz,.func (.func f) #[] caps.toArray] R [T] λu H'=>∃T',H'=[T']/\u=.tuple #[]/\∃ys,OS 119 7 aE.enc v ys T'/\RP a b xs ys/\SR (br c) ys a b
theorem wi(n:Nat)(ih:qj c ok f caps n)(D:SO (br c))(v:Value)(xs:List aE)(T:ay)(A r c4:Nat)(R:aB)(h:OS 119 7 aE.enc v xs T)(d2:A<=r)(hb:r<=xs.length)(hl:xs.length<=1000000000)(d7:c4<=1000000000)(C:iR prog f caps R (λt:aE=>Value.agg t.enc.toArray) c ok)(d9:∀x∈xs,ok x)(d5:LB (br c) xs A r)(hn:r-A<n+1):
  Spec prog 185 [v,.int .i64 A,.int .i64 r,.int .i64 c4,.func (.func f) #[] caps.toArray] R [T] λu H'=>∃T',H'=[T']/\u=.tuple #[]/\∃ys,OS 119 7 aE.enc v ys T'/\RP A r xs ys/\SR (br c) ys A r:=by
 have iv:=h.ap
 refine Spec.body Tryz.func185 rfl Tryz.results185 Tryz.ntmps185 rfl ?_
 refine .sr<|.ag rfl<|.z<|.az rfl<|.block ?_
 refine .loop (X:=Nat×Nat×Nat×Bool×Bool×List aE×ay) (λy=>(A<=y.1/\y.1<=y.2.1/\y.2.1<=r/\y.2.2.1<=1000000000)/\OS 119 7 aE.enc v y.2.2.2.2.2.1 y.2.2.2.2.2.2/\RP A r xs y.2.2.2.2.2.1/\OX (br c) y.2.2.2.2.2.1 A r y.1 y.2.1) (λy=>[(0,v),(1,iN y.1),(2,iN y.2.1),(3,iN y.2.2.1),(4,.func (.func f) #[] caps.toArray),(10,.bool y.2.2.2.1),(11,.bool y.2.2.2.2.1)]) (λy=>[y.2.2.2.2.2.2]) (λy=>y.2.1-y.1) (A,r,c4,true,true,xs,T) ⟨⟨Nat.le_refl _,d2,Nat.le_refl _,d7⟩,h,.refl _,.start⟩ kE.c.c.c.c.c.c.c rH ?_
 rintro⟨a,b,l,wb,wp,ys,T1⟩ ⟨⟨i,b3,j,d4⟩,a6,M,a4⟩
 simp only at i b3 j d4 a6 M a4⊢
 have e9:=M.length
 have b1:∀x∈ys,ok x:=λx F=>d9 x (M.perm.mem_iff.1 F)
 have c6:=a4.lb (d5.rp M) i j
 refine .block<|.sr<|.mo rfl<|.mo rfl ?_
 refine .ia (b-a) .sub ?_
 refine .ag rfl<|.zs<|.sr<|.mo rfl<|.q .leq<|.zn ?_
 refine .cond rfl (λh1=>?_) λh1=>?_
 refine .sr<|.mo rfl<|.mo rfl<|.mo rfl<|.mo rfl ?_
 refine .dg (uT v ys T1 a b _ a6 b3 (by omega) (by omega) C b1 D) (λu T2 g=>?_)
 obtain⟨rfl,L,I,B,b9⟩:=g
 refine .zn ?_
 refine .ret (aH (bh (cB (bh (bp _ .none rH ?_)))))
 ·exact⟨_,rfl,rfl,L,I,M.trans (B.mono i j (by omega)),(a4.rp B i j).nK b9⟩
 have f3:12<b-a:=by have:=bA h1;omega
 refine .kn<|.seq<|.sr<|.mo rfl<|.q .bQ<|.zn ?_
 refine .cond rfl (λh2=>?_) λh2=>?_
 refine .sr<|.mo rfl<|.mo rfl<|.mo rfl<|.mo rfl ?_
 refine .dg (uQ v ys T1 a b _ a6 b3 (by omega) (by omega) C b1 D) (λu T2 g=>?_)
 obtain⟨rfl,L,I,B,b9⟩:=g
 refine .zn ?_
 refine .ret (aH (bh (cB (bh (bp _ .none rH ?_)))))
 ·exact⟨_,rfl,rfl,L,I,M.trans (B.mono i j (by omega)),(a4.rp B i j).nK b9⟩
 have e8:0<l:=by
  have e7:¬((l:Int)=0):=by simpa using h2
  omega
 refine .kn<|.seq ?_
 refine bz.cut (X:=Nat×List aE×ay) (λz=>z.1<=1000000000/\OS 119 7 aE.enc v z.2.1 z.2.2/\RP a b ys z.2.1) (λz=>[(0,v),(1,iN a),(2,iN b),(3,iN z.1),(4,.func (.func f) #[] caps.toArray),(10,.bool wb),(11,.bool wp),(12,.int .i64 ((b-a:Nat):Int))]) (λz=>[z.2.2]) ?_ ?_
 refine .sr<|.mo rfl<|.q .not<|.zn ?_
 refine .cond rfl (λh3=>?_) λh3=>?_
 refine .sr<|.mo rfl<|.mo rfl<|.mo rfl<|.mo rfl ?_
 refine .dg (tV v ys T1 a b _ (.func (.func f) #[] caps.toArray) inferInstance a6 b3 (by omega) (by omega)) (λu T2 g=>?_)
 obtain⟨rfl,L,I,B⟩:=g
 refine .zn<|.region<|.mo rfl ?_
 refine .ia (l-1) .sub ?_
 refine .ag rfl<|.nil ?_
 ·exact aF (l-1,L,T2) ⟨by simp only;omega,I,B⟩ kE.c.c.c.c.c.c.c.c rH
 refine .skip ?_
 ·exact aF (l,ys,T1) ⟨by simp only;omega,a6,.refl _⟩ kE.c.c.c.c.c.c.c.c rH
 intro y hy
 obtain⟨G,L,T2⟩:=y
 obtain⟨K,I,B⟩:=hy
 simp only at K I B⊢
 have f0:=B.length
 have e0:∀x∈L,ok x:=λx F=>b1 x (B.perm.mem_iff.1 F)
 refine av<|.sr<|.mo rfl<|.mo rfl<|.mo rfl<|.mo rfl ?_
 refine .aY (choose_spec v L a b _ (I.rs λp hp=>.inr (by simpa using hp)) (by omega) (by omega) (by omega) (C.mono λb o hb=>.inl hb) e0) (λu g=>?_)
 obtain⟨pv,d3,rfl,e2,e3⟩:=g
 refine .mo rfl<|.q .extract<|.q .extract<|.ag rfl<|.ag rfl<|.zs ?_
 refine bz.cut (X:=Nat×Int×List aE×ay) (λz=>(a<=z.1/\z.1<b)/\OS 119 7 aE.enc v z.2.2.1 z.2.2.2/\RP a b ys z.2.2.1) (λz=>[(0,v),(1,iN a),(2,iN b),(3,iN G),(4,.func (.func f) #[] caps.toArray),(10,.bool wb),(11,.bool wp),(12,.int .i64 ((b-a:Nat):Int)),(13,iN z.1),(14,.int .i64 z.2.1)]) (λz=>[z.2.2.2]) ?_ ?_
 refine .sr<|.mo rfl<|.q .bQ<|.zn ?_
 refine .cond rfl (λh4=>?_) λh4=>?_
 refine .sr<|.mo rfl<|.mo rfl<|.mo rfl<|.mo rfl ?_
 refine .dg (wx v L T2 a b _ (.func (.func f) #[] caps.toArray) inferInstance I (by omega) (by omega) (by omega)) (λu T3 g=>?_)
 obtain⟨rfl,ws,c8,c9⟩:=g
 refine .z<|.mo rfl ?_
 refine .ia (b-1) .sub ?_
 refine .mo rfl<|.mo rfl ?_
 refine .ia (pv-a) .sub ?_
 refine .ia ((b-1)-(pv-a)) .sub ?_
 refine .az rfl<|.region<|.ag rfl<|.nil ?_
 ·exact aF ((b-1)-(pv-a),1,ws,T3) ⟨by simp only;omega,c8,B.trans c9⟩ kE.c.c.c.c.c.c.c.c.c.c rH
 refine .skip ?_
 ·exact aF (pv,d3,L,T2) ⟨⟨e2,e3⟩,I,B⟩ kE.c.c.c.c.c.c.c.c.c.c rH
 intro y hy
 obtain⟨q,f4,us,T4⟩:=y
 obtain⟨⟨b5,b6⟩,a7,J⟩:=hy
 simp only at b5 b6 a7 J⊢
 have f1:=J.length
 have e1:∀x∈us,ok x:=λx F=>b1 x (J.perm.mem_iff.1 F)
 refine av<|.seq ?_
 refine bz.cut (X:=List aE×ay) (λz=>OS 119 7 aE.enc v z.1 z.2/\RP a b ys z.1) (λz=>[(0,v),(1,iN a),(2,iN b),(3,iN G),(4,.func (.func f) #[] caps.toArray),(10,.bool wb),(11,.bool wp),(12,.int .i64 ((b-a:Nat):Int)),(13,iN q)]) (λz=>[z.2]) ?_ ?_
 refine .sr<|.mo rfl<|.mo rfl ?_
 refine .split (t:=69) rfl (λa5=>?_) (λa5=>?_)
 refine .gT a5<|.mo rfl<|.q (.aT a5) ?_
 refine .mo rfl ?_
 refine .split (t:=72) rfl (λQ=>?_) (λQ=>?_)
 refine .gT Q<|.mo rfl<|.gT Q<|.q .bQ<|.q (.aT Q) ?_
 refine .zn ?_
 refine .cond rfl (λh5=>?_) λh5=>?_
 refine .sr<|.mo rfl<|.mo rfl<|.mo rfl<|.mo rfl ?_
 refine .dg (vW v us T4 a b _ a7 (by omega) (by omega) (by omega) C e1 D (c6.rp J)) (λu T5 g=>?_)
 obtain⟨ms,mb,rfl,c5,b8,d0⟩:=g
 refine .zn ?_
 refine .cond rfl (λh6=>?_) λh6=>?_
 refine .ret (iZ (aH (bh (cB (bh (bp _ .none rH ?_))))))
 ·exact⟨_,rfl,rfl,ms,c5,M.trans ((J.trans b8).mono i j (by omega)),(a4.rp (J.trans b8) i j).nK (d0 (by assumption))⟩
 refine .skip ?_
 ·exact aF (ms,T5) ⟨c5,J.trans b8⟩ kE.c.c.c.c.c.c.c.c.c rH
 refine .skip ?_
 ·exact aF (us,T4) ⟨a7,J⟩ kE.c.c.c.c.c.c.c.c.c rH
 refine .gF Q<|.gF Q<|.q (.aS Q) ?_
 refine .zn<|.cP<|.skip ?_
 ·exact aF (us,T4) ⟨a7,J⟩ kE.c.c.c.c.c.c.c.c.c rH
 refine .gF a5<|.q (.aS a5) ?_
 refine .mo rfl<|.gX<|.gX<|.q .db<|.zn<|.cP<|.skip ?_
 ·exact aF (us,T4) ⟨a7,J⟩ kE.c.c.c.c.c.c.c.c.c rH
 intro y hy
 obtain⟨a1,T6⟩:=y
 obtain⟨a2,a3⟩:=hy
 simp only at a2 a3⊢
 have f2:=a3.length
 have Z:∀x∈a1,ok x:=λx F=>b1 x (a3.perm.mem_iff.1 F)
 have b7:RP A r xs a1:=M.trans (a3.mono i j (by omega))
 have c0:=a4.rp a3 i j
 have c1:=c6.rp a3
 obtain⟨p,hp⟩:∃x,a1[q]? =some x:=⟨_,aX (by omega)⟩
 have e4:=Z p (aO hp)
 refine av<|.seq<|.seq ?_
 refine .dt 13 mixed (by kernel_rfl) ?_
 conv=>arg 6;dsimp only[List.take]
 refine .mo rfl<|.q .gtr<|.mo rfl ?_
 refine .split (t:=83) rfl (λe=>?_) (λe=>?_)
 have d1:0<a:=by have:=bS e;omega
 obtain⟨w,hw⟩:∃x,a1[a-1]? =some x:=⟨_,aX (by omega)⟩
 have e5:=Z w (aO hw)
 refine .gT e<|.mo rfl<|.gT e<|.mo rfl<|.gT e<|.mo rfl<|.gT e ?_
 refine .ia (a-1) .sub ?_
 refine .gT e ?_
 refine .aL (a-1) a2 hw (λf5=>?_)
 refine .gT e<|.q (.aM rfl)<|.gT e<|.mo rfl<|.gT e<|.mo rfl<|.gT e ?_
 refine .aL q a2 hp (λf6=>?_)
 refine .gT e<|.q (.aM rfl)<|.nil<|.gT e ?_
 refine .gy (first:=[]) (captured:=caps) (vs:=[(λt:aE=>Value.agg t.enc.toArray) w,(λt:aE=>Value.agg t.enc.toArray) p]) (C w p e5 e4 _ (λb o hb=>.inl hb)) (λu g=>?_)
 subst g
 refine .gT e<|.q .lss<|.gT e<|.q .not<|.q (.aT e) ?_
 refine .zn ?_
 refine .cond rfl (λh7=>?_) λh7=>?_
 have d8:br c w p=false:=by
  have c7:(!br c w p)=true:=h7
  simpa using c7
 refine .sr<|.mo rfl<|.mo rfl<|.mo rfl<|.mo rfl<|.mo rfl ?_
 refine .dg (vU v a1 T6 a b q p _ a2 (by omega) ⟨b5,b6⟩ hp (by omega) (by omega) C Z D (c1.Au D d1 hw d8)) (λu N g=>?_)
 obtain⟨H,k,rfl,S,s,m⟩:=g
 have b4:=m.lo
 have c3:=m.hi
 refine .ag rfl<|.z<|.mo rfl<|.az rfl<|.exit<|bm<|bo ?_
 ·exact aW (k,b,G,_,_,H,N) ⟨⟨by simp only;omega,c3,j,K⟩,S,b7.trans (s.mono i j (by omega)),(c0.rp s i j).yy D m⟩ (by simp only;omega) (((((((kE.d rfl).d rfl).d rfl).d rfl).d rfl).d rfl).d rfl) rH
 refine .kn<|.sr<|.mo rfl<|.mo rfl<|.mo rfl<|.mo rfl<|.mo rfl ?_
 refine .dg (qR v a1 T6 a b q p _ a2 (by omega) ⟨b5,b6⟩ hp (by omega) (by omega) C Z D) (λu N g=>?_)
 obtain⟨H,k,e6,rfl,S,s,m⟩:=g
 have b4:=m.lo
 have c3:=m.hi
 have d6:=s.length
 have b2:∀x∈H,ok x:=λx F=>Z x (s.perm.mem_iff.1 F)
 have a9:=c0.rp s i j
 have a8:RP A r xs H:=b7.trans (s.mono i j (by omega))
 have c2:=c1.rp s
 refine .mo rfl<|.q .extract<|.q .extract<|.ag rfl<|.ag rfl<|.z<|.mo rfl<|.ag rfl<|.z<|.mo rfl<|.mo rfl ?_
 refine .ia (k-a) .sub ?_
 refine .mo rfl<|.mo rfl ?_
 refine .ia (b-k) .sub ?_
 refine .ag rfl<|.ag rfl<|.z<|.mo rfl ?_
 refine .q (.i64 (((b-a)/8:Nat):Int) .quo ⟨by rw[Int.tdiv_eq_ediv_of_nonneg (by omega)];omega,by omega,by omega⟩) ?_
 refine .ag rfl<|.z<|.mo rfl<|.mo rfl<|.q .lss<|.zn ?_
 refine .cond rfl (λh8=>?_) λh8=>?_
 refine .sr<|.mo rfl<|.mo rfl<|.q .geq<|.ag rfl<|.z<|.mo rfl<|.mo rfl<|.mo rfl<|.mo rfl<|.mo rfl ?_
 refine .dg (ih v H N a k G _ S (by omega) (by omega) (by omega) K C b2 (c2.less (by omega)) (by omega)) (λu O g=>?_)
 obtain⟨rfl,rs,U,E,W⟩:=g
 have Y:=a9.left D m E W i j (by omega)
 have V:=a8.trans (E.mono i (by omega) (by omega))
 refine .zn<|.region<|.mo rfl ?_
 refine .ia (k+1) .add ?_
 refine .ag rfl<|.nil<|aV ?_
 ·exact aW (k+1,b,G,_,_,rs,O) ⟨⟨by simp only;omega,by simp only;omega,by simp only;omega,K⟩,U,V,Y⟩ (by simp only;omega) (((((((kE.d rfl).d rfl).d rfl).d rfl).d rfl).d rfl).d rfl) rH
 refine .sr<|.mo rfl<|.mo rfl<|.q .geq<|.ag rfl<|.z<|.mo rfl<|.mo rfl ?_
 refine .ia (k+1) .add ?_
 refine .mo rfl<|.mo rfl<|.mo rfl ?_
 refine .dg (ih v H N (k+1) b G _ S (by omega) (by omega) (by omega) K C b2 m.lb (by omega)) (λu O g=>?_)
 obtain⟨rfl,rs,U,E,W⟩:=g
 have Y:=a9.right D m E W i j (by omega)
 have V:=a8.trans (E.mono (by omega) j (by omega))
 refine .zn<|.region<|.mo rfl<|.ag rfl<|.nil<|aV ?_
 ·exact aW (a,k,G,_,_,rs,O) ⟨⟨i,b4,by simp only;omega,K⟩,U,V,Y⟩ (by simp only;omega) (((((((kE.d rfl).d rfl).d rfl).d rfl).d rfl).d rfl).d rfl) rH
 refine .gF e<|.gF e<|.gF e<|.gF e<|.gF e<|.gF e<|.gF e<|.gF e<|.gF e<|.gF e<|.nil<|.gF e<|.gF e<|.gF e<|.q (.aS e) ?_
 refine .zn<|.cP<|.kn<|.sr<|.mo rfl<|.mo rfl<|.mo rfl<|.mo rfl<|.mo rfl ?_
 refine .dg (qR v a1 T6 a b q p _ a2 (by omega) ⟨b5,b6⟩ hp (by omega) (by omega) C Z D) (λu N g=>?_)
 obtain⟨H,k,e6,rfl,S,s,m⟩:=g
 have b4:=m.lo
 have c3:=m.hi
 have d6:=s.length
 have b2:∀x∈H,ok x:=λx F=>Z x (s.perm.mem_iff.1 F)
 have a9:=c0.rp s i j
 have a8:RP A r xs H:=b7.trans (s.mono i j (by omega))
 have c2:=c1.rp s
 refine .mo rfl<|.q .extract<|.q .extract<|.ag rfl<|.ag rfl<|.z<|.mo rfl<|.ag rfl<|.z<|.mo rfl<|.mo rfl ?_
 refine .ia (k-a) .sub ?_
 refine .mo rfl<|.mo rfl ?_
 refine .ia (b-k) .sub ?_
 refine .ag rfl<|.ag rfl<|.z<|.mo rfl ?_
 refine .q (.i64 (((b-a)/8:Nat):Int) .quo ⟨by rw[Int.tdiv_eq_ediv_of_nonneg (by omega)];omega,by omega,by omega⟩) ?_
 refine .ag rfl<|.z<|.mo rfl<|.mo rfl<|.q .lss<|.zn ?_
 refine .cond rfl (λh8=>?_) λh8=>?_
 refine .sr<|.mo rfl<|.mo rfl<|.q .geq<|.ag rfl<|.z<|.mo rfl<|.mo rfl<|.mo rfl<|.mo rfl<|.mo rfl ?_
 refine .dg (ih v H N a k G _ S (by omega) (by omega) (by omega) K C b2 (c2.less (by omega)) (by omega)) (λu O g=>?_)
 obtain⟨rfl,rs,U,E,W⟩:=g
 have Y:=a9.left D m E W i j (by omega)
 have V:=a8.trans (E.mono i (by omega) (by omega))
 refine .zn<|.region<|.mo rfl ?_
 refine .ia (k+1) .add ?_
 refine .ag rfl<|.nil<|aV ?_
 ·exact aW (k+1,b,G,_,_,rs,O) ⟨⟨by simp only;omega,by simp only;omega,by simp only;omega,K⟩,U,V,Y⟩ (by simp only;omega) (((((((kE.d rfl).d rfl).d rfl).d rfl).d rfl).d rfl).d rfl) rH
 refine .sr<|.mo rfl<|.mo rfl<|.q .geq<|.ag rfl<|.z<|.mo rfl<|.mo rfl ?_
 refine .ia (k+1) .add ?_
 refine .mo rfl<|.mo rfl<|.mo rfl ?_
 refine .dg (ih v H N (k+1) b G _ S (by omega) (by omega) (by omega) K C b2 m.lb (by omega)) (λu O g=>?_)
 obtain⟨rfl,rs,U,E,W⟩:=g
 have Y:=a9.right D m E W i j (by omega)
 have V:=a8.trans (E.mono (by omega) j (by omega))
 refine .zn<|.region<|.mo rfl<|.ag rfl<|.nil<|aV ?_
 ·exact aW (a,k,G,_,_,rs,O) ⟨⟨i,b4,by simp only;omega,K⟩,U,V,Y⟩ (by simp only;omega) (((((((kE.d rfl).d rfl).d rfl).d rfl).d rfl).d rfl).d rfl) rH
theorem wh(q:SO (br c))(n:Nat):qj c ok f caps n:=by
 induction n with
 |zero=>exact λv e T a b d R _ _ _ _ _ _ _ _ r=>by omega
 |succ n ih=>exact λv e T a b d R g h i j k l m o p=>wi n ih q v e T a b d R g h i j k l m o p
end
end STP
namespace STP
section
variable{c:aE->aE->Int}{ok:aE->Prop}{f:FuncId}{caps:List Value} [e:aZ prog f]
theorem tx(v:Value)(xs:List aE)(T:ay)(R:aB)(h:OS 119 7 aE.enc v xs T)(k:xs.length<=1000000000)(j:iR prog f caps R (λt:aE=>Value.agg t.enc.toArray) c ok)(l:∀x∈xs,ok x)(m:SO (br c)):
  Spec prog 131 [v,.func (.func f) #[] caps.toArray] R [T] λu H'=>∃T',H'=[T']/\u=.tuple #[]/\∃ys,OS 119 7 aE.enc v ys T'/\ys.Perm xs/\SR (br c) ys 0 ys.length:=by
 have r:=h.ap
 have i:Lib.bitLen xs.length<=1000000000:=by
  have p:=bitLen_le 64 xs.length
  have o:Lib.bitLen xs.length=Lib.bitLenAux 64 xs.length:=rfl
  omega
 refine Spec.body Tryz.func131 rfl Tryz.results131 Tryz.ntmps131 rfl<|.sr<|.mo rfl<|.q (.dK h)<|.az rfl<|.region<|.mo rfl<|.mo rfl<|.mo rfl<|.q (bB.cast (v':=.int .u64 ((xs.length:Nat):Int)) .oa (by rw[oV (by omega) (by omega)]))<|.aY (u9 xs.length (by omega) _) (λu a=>?_)
 subst a
 refine .mo rfl<|.dg (wh m (xs.length+1) v xs T 0 xs.length (Lib.bitLen xs.length) _ h (Nat.zero_le _) (Nat.le_refl _) k i j l (λd=>absurd d (by omega)) (by omega)) (λu n a=>?_)
 obtain⟨rfl,ys,e,b,g⟩:=a
 refine .nil<|gg _ .none rH ?_
 ·exact⟨_,rfl,rfl,ys,e,b.perm,b.length▸g⟩
end
end STP
set_option linter.unusedSimpArgs false
def gY(a b:aE):Int:=if gC a b then-1 else if gC b a then 1 else 0
theorem sK:br gY=br kN:=by
 funext a b
 unfold br gY
 by_cases c:gC a b=true
 ·rw[if_pos c];unfold gC at c;rw[c];rfl
 ·rw[if_neg c]
  unfold gC at c
  have d:decide (kN a b<0)=false:=by simpa using c
  rw[d]
  split<;>rfl
theorem OO(a b:aE)(R:aB):Spec prog 132 [.agg a.enc.toArray,.agg b.enc.toArray] R [] λv H'=>v=.int .i64 (gY a b)/\H'=[]:=by
 refine Spec.body Tryz.func132 rfl Tryz.results132 Tryz.ntmps132 rfl<|.sr ?_
 refine .bY rfl (λf=>?_)
 refine .bY rfl (λg=>?_)
 refine .ag rfl<|.zs<|.block<|.sr<|.q (.aM rfl)<|.q (.aM rfl)<|.aY (BS a b _) (λv e=>?_)
 subst e
 refine .az rfl<|.cond rfl (λc=>?_) λc=>?_
 refine .sr<|.az rfl<|.ret (bh (aH (aP rfl ?_)))
 ·exact⟨by unfold gY;rw[if_pos c],rfl⟩
 refine .sr<|.q (.aM rfl)<|.q (.aM rfl)<|.aY (BS b a _) (λv e=>?_)
 subst e
 refine .az rfl<|.cond rfl (λd=>?_) λd=>?_
 refine .sr<|.az rfl<|.ret (bh (aH (aP rfl ?_)))
 ·exact⟨by unfold gY;rw[if_neg (by rw[c];simp),if_pos d],rfl⟩
 refine .skip<|aV<|av<|.sr<|.az rfl<|.ret (aP rfl ?_)
 ·exact⟨by unfold gY;rw[if_neg (by rw[c];simp),if_neg (by rw[d];simp)],rfl⟩
abbrev nt(ys:List aE):Prop:=ys.Pairwise λp q=>br kN q p=false
theorem AN(R:aB):iR prog 132 [] R (λt:aE=>Value.agg t.enc.toArray) gY (λ_=>True):=λx y _ _ a _=>OO x y a
theorem AM:SO (br gY):=by rw[sK];exact je.so
theorem xN(v:Value)(F:List RB)(r:Int)(R:aB)(f:RS R 1 uj v F)(l:∀p∈F,PC R (.pointer (some ⟨p.1,0,none⟩)) p.2.enc)(M:F.length<=5000):
  Spec prog 129 [v,.int .u64 r] R [] λu H'=>∃T,H'=[T]/\∃ys,OS 119 7 aE.enc u ys T/\ys.Perm ((F.filter λp=>p.2.there r).map (·.2.t))/\nt ys:=by
 obtain⟨J,I,rfl⟩:=f.val
 refine Spec.gu (H':=[[]]) (by simp) ?_
 refine Spec.body Tryz.func129 rfl Tryz.results129 Tryz.ntmps129 rfl ?_
 refine .sr<|.ag rfl<|.z<|.ag rfl<|.zs<|.sr<|.mo rfl<|.q (.bH f) ?_
 refine .mo rfl<|.zn<|.block ?_
 refine .loop (X:=Nat×Value×ay) (λy=>y.1<=F.length/\OS 119 7 aE.enc y.2.1 (((F.take y.1).filter λp=>p.2.there r).map (·.2.t)) y.2.2) (λy=>[(1,.int .u64 r),(5,y.2.1),(8,.slice J F.length I),(9,iN F.length),(10,iN y.1)]) (λy=>[y.2.2]) (λy=>F.length-y.1) (0,sZ,[]) ⟨Nat.zero_le _,OS.nil⟩ kE.c.c.c.c.c rH ?_
 rintro⟨i,n,j⟩ ⟨A,a⟩
 simp only at A a⊢
 have O:=a.ap
 have C:(((F.take i).filter λp=>p.2.there r).map (·.2.t)).length<=5000:=by
  rw[List.length_map]
  exact Nat.le_trans (List.length_filter_le _ _) (by rw[List.length_take];omega)
 refine .sr<|.q .lss<|.zs ?_
 refine .cond rfl (λd=>?_) λd=>?_
 have g:i<F.length:=cb d
 obtain⟨⟨b,x⟩,h⟩:=bL g
 have S:PC R (pT b) x.enc:=l _ (aO h)
 have m:F.take (i+1)=F.take i++[(b,x)]:=by rw[List.take_add_one,h];rfl
 refine .kn<|.seq<|.block<|.sr ?_
 refine .bx i f h (λQ=>?_)
 refine .lo rfl<|.ag rfl<|.z<|.mo rfl ?_
 refine .nc rfl<|.q (.aM rfl)<|.mo rfl ?_
 refine .aY (Ru x r _) (λv H=>?_)
 subst H
 refine .zn ?_
 refine .cond rfl (λe=>?_) λe=>?_
 refine .region<|.mo rfl<|.mo rfl<|.nc rfl<|.fa rfl<|.q (.loadT rfl) ?_
 refine .ej (λL=>?_)
 refine .append a (RS.lits (xs:=[x.t]) rfl (by simp[aE.enc]) (by simp[aE.enc,ap])) (by simp only[List.length_singleton];omega) (λK s w=>?_)
 refine .ag rfl<|.nil<|aV<|av<|.region ?_
 refine .ia (i+1) .add ?_
 refine .mo rfl<|.nil ?_
 ·exact aW (i+1,K,s) ⟨g,by simp only;rw[m,List.filter_append,List.map_append,List.filter_cons,if_pos e];exact w⟩ (by simp only;omega) kE.c.c.c.c.c (aQ [1])
 refine .skip<|aV<|av<|.region ?_
 refine .ia (i+1) .add ?_
 refine .mo rfl<|.nil ?_
 ·exact aW (i+1,n,j) ⟨g,by simp only;rw[m,List.filter_append,List.map_append,List.filter_cons,if_neg (by rw[e];simp)];simpa using a⟩ (by simp only;omega) kE.c.c.c.c.c rH
 have B:i=F.length:=by have:=bA d;omega
 subst B
 rw[List.take_length]at a C
 refine .exit<|bm<|bs<|bo<|av<|.sr<|.mo rfl ?_
 refine .dg (STP.tx (caps:=[]) n _ j _ a (by omega) (AN _) (λp l=>trivial) AM) (λu o G=>?_)
 obtain⟨rfl,ys,k,D,E⟩:=G
 have N:=k.ap
 refine .z<|.mo rfl<|.az rfl ?_
 refine .ret (bp _ (.one (.tmp rfl)) (.one [0] _) ?_)
 ·exact⟨o,by simp[take],ys,k,D,by have:=E.ordered;rw[sK]at this;exact this⟩
theorem yZ{α:Type} [DecidableEq α]{k:α}:∀{l:List α},l.Nodup->k∈l->l.Perm (k::l.filter λk'=>decide (k'≠k))
 |[],_,h=>by cases h
 |x::l,hn,h=>by
  have b:=List.nodup_cons.1 hn
  by_cases a:x=k
  ·subst a
   have:l.filter (λk'=>decide (k'≠x))=l:=List.filter_eq_self.2 λy f=>by
    have:y≠x:=λe=>b.1 (e▸f)
    simp[this]
   rw[List.filter_cons]
   simp only[ne_eq,not_true_eq_false,decide_false,Bool.false_eq_true,if_false]
   have c:l.filter (λk'=> !decide (k'=x))=l:=by simpa using this
   simp only[decide_not,c]
   exact .refl _
  ·have d:k∈l:=by
    rcases List.mem_cons.1 h with e|h
    ·exact absurd e.symm a
    ·exact h
   have:=(yZ b.2 d).cons x
   rw[List.filter_cons,if_pos (by simp[a])]
   exact this.trans (List.Perm.swap k x _)
theorem y6{α:Type}{a b c:α->Bool}:∀L:List α,(∀x∈L,c x=(a x||b x)/\¬(a x=true/\b x=true))->(L.filter c).Perm (L.filter a++L.filter b)
 |[],_=>by simp
 |x::L,h=>by
  obtain⟨e,f⟩:=h x (by simp)
  have d:=y6 L λy g=>h y (by simp[g])
  rw[List.filter_cons,List.filter_cons,List.filter_cons,e]
  cases ha:a x<;>cases hb:b x
  ·simpa using d
  ·simpa using(d.cons x).trans List.perm_middle.symm
  ·simpa using d.cons x
  ·exact absurd ⟨ha,hb⟩ f
def AY(S:cW)(f:aE)(r:Int)(ys:List aE):Prop:=ys.Perm (if scan S r then tz S f r else [])/\nt ys
theorem Pg{R:aB}{g:Nat}{S:cW}{ps:List RB}{vf vr:Value}{C:List (bc×(Value×ay))}{Mr:List (Sub×(Value×ay))}(h:SV R g S ps vf vr C Mr)(hl:S.rows.length<=4096)(f:aE)(r:Int):
  Spec prog 73 [pT g,.agg f.enc.toArray,.int .u64 r] R [] λu H'=>∃T,H'=[T]/\∃w ys,u=.tuple [w,.int .i64 (if scan S r then 0 else 12)].toArray/\OS 119 7 aE.enc w ys T/\AY S f r ys:=by
 have pc:=h.pc
 have c4:=h.of
 have c5:=h.or
 have a1:ps.length<=4096:=by rw[<-h.eq,List.length_map]at hl;exact hl
 refine Spec.gu (H':=[[],[]]) (by simp) ?_
 refine Spec.body Tryz.func73 rfl Tryz.results73 Tryz.ntmps73 rfl ?_
 refine .sr ?_
 refine .bY rfl (λm=>?_)
 refine .ag rfl<|.ag rfl<|.zs<|.block<|.sr<|.mo rfl ?_
 refine .aY (h.mono λb o e=>.inl e).ok (λv l=>?_)
 subst l
 refine .q .not<|.az rfl<|.cP<|.sr<|.mo rfl<|.mo rfl ?_
 refine .aY ((h.mono λb o e=>.inl e).can r) (λv l=>?_)
 subst l
 refine .q .not<|.az rfl ?_
 refine .cond rfl (λD=>?_) λD=>?_
 refine .sr<|.ag rfl<|.az rfl ?_
 refine .ret (bh (aH (bp _ (.two (.tmp rfl) (.tmp rfl)) ((aQ [1])) ?_)))
 ·have i:scan S r=false:=by simpa using D
  exact⟨[],by simp[take],_,[],by rw[i];rfl,OS.nil,by rw[i];exact .refl _,List.Pairwise.nil⟩
 have i:scan S r=true:=by simpa using D
 refine .skip<|aV<|av<|.sr<|.ag rfl<|.zs<|.sr<|.mo rfl<|.nc rfl<|.fa rfl<|.lo rfl ?_
 refine .range h.mf (λ_ _=>.inl) rfl (λM a5 a9=>?_)
 refine .zn<|.block ?_
 refine .loop (X:=List aE×List bc×Value×ay×ay) (λy=>y.2.1.Nodup/\y.1.Perm ((ps.filter λp=>(p.2.there r&&jd f p.2.t)&&decide (p.2.t.cJ∉y.2.1)).map (·.2.t))/\OS 119 7 aE.enc y.2.2.1 y.1 y.2.2.2.1/\It R (λk:bc=>.agg k.enc.toArray) (λp:Value×ay=>p.1) vf C M y.2.1 y.2.2.2.2) (λy=>[(2,.int .u64 r),(4,pT m),(8,y.2.2.1),(26,M)]) (λy=>[bl m f.enc 49,y.2.2.2.1,y.2.2.2.2]) (λy=>y.2.1.length) ([],C.map (·.1),sZ,[],a5) ⟨h.nf,by
  rw[List.filter_eq_nil_iff.2 λp s=>by simp[h.af p s]];exact .refl _,OS.nil,a9⟩ kE.c.c.c.c ((aQ [1,1,0])) ?_
 rintro⟨B,O,vo,U,Ti⟩ ⟨K,A,n,Z⟩
 simp only at K A n Z⊢
 have io:=n.ap
 have c2:B.length<=4096:=by
  rw[A.length_eq,List.length_map]
  exact Nat.le_trans (List.length_filter_le _ _) a1
 refine .sr ?_
 refine .Og Z (λ_ _=>.inl) rfl (λb rest Q hf ht=>?_)
 refine .q .extract<|.zs ?_
 refine .cond rfl (λE=>?_) λE=>?_
 obtain⟨k,⟨v0,T0⟩,hk,b1,a0⟩:=ht E
 obtain⟨pf,cf,I,b5⟩:=h.lf k
 rw[b1]at I
 simp only[Option.map_some,Option.getD_some]at I
 subst I
 have a8:=yZ K hk
 have hF:RS R 1 uj (.slice pf (ids (λx=>x.t.cJ) k ps).length cf) (kV (λx=>x.t.cJ) k ps):=RS.of_map (enc:=jV) (f:=λp:RB=>p.1) b5
 have a6:(kV (λx=>x.t.cJ) k ps).length<=4096:=Nat.le_trans (List.length_filter_le _ _) a1
 refine .kn<|.block<|.sr ?_
 refine .q (.entry a0 (λ_ _=>.inl) rfl) ?_
 refine .q .extract<|.ag rfl<|.z<|.mo rfl<|.mo rfl ?_
 refine .cO (xN _ (kV (λx=>x.t.cJ) k ps) r _ hF.rx (λp s=>(h.pr p (List.mem_filter.1 s).1).mono λb o e=>.inl e) (by omega)) (λu T1 L=>?_)
 obtain⟨ys,H,a4,_⟩:=L
 have iu:=H.ap
 have c1:ys.length<=4096:=by
  rw[a4.length_eq,List.length_map]
  exact Nat.le_trans (List.length_filter_le _ _) a6
 refine .q (.dK H) ?_
 refine .mo rfl<|.zn<|.block ?_
 refine .loop (X:=Nat×Value×ay) (λy=>y.1<=ys.length/\OS 119 7 aE.enc y.2.1 (B++(ys.take y.1).filter λt=>jd f t) y.2.2) (λy=>[(2,.int .u64 r),(4,pT m),(8,y.2.1),(26,M),(33,u),(34,iN ys.length),(35,iN y.1)]) (λy=>[T1,bl m f.enc 49,y.2.2,Q]) (λy=>ys.length-y.1) (0,vo,U) ⟨Nat.zero_le _,by simpa using n⟩ kE.c.c.c.c.c.c.c rH ?_
 rintro⟨j,v1,V⟩ ⟨hj,d⟩
 simp only at hj d⊢
 have c3:=d.ap
 have c0:((ys.take j).filter λt=>jd f t).length<=4096:=Nat.le_trans (List.length_filter_le _ _) (by rw[List.length_take];omega)
 refine .sr<|.q .lss<|.zs ?_
 refine .cond rfl (λF=>?_) λF=>?_
 have J:j<ys.length:=cb F
 obtain⟨t,a2⟩:=bL J
 have a3:ys.take (j+1)=ys.take j++[t]:=by rw[List.take_add_one,a2];rfl
 refine .kn<|.seq<|.block<|.sr ?_
 refine .aL j H a2 (λc6=>?_)
 refine .q (.aM rfl) ?_
 refine .bX (λb8=>?_)
 refine .bP rfl rfl<|.z<|.q (.aM rfl)<|.q (.aM rfl) ?_
 refine .aY (RE f t _) (λv l=>?_)
 subst l
 refine .zn ?_
 refine .cond rfl (λG=>?_) λG=>?_
 refine .region<|.mo rfl<|.q (.aM rfl) ?_
 refine .ej (λb9=>?_)
 refine .append d (RS.lits (xs:=[t]) rfl (by simp[aE.enc]) (by simp[aE.enc,ap])) (by simp;omega) (λv5 T5 a7=>?_)
 refine .ag rfl<|.nil<|aV<|av<|.region ?_
 refine .ia (j+1) .add ?_
 refine .mo rfl<|.nil ?_
 ·exact aW (j+1,v5,T5) ⟨J,by simp only;rw[a3,List.filter_append,List.filter_cons,if_pos G, <-List.append_assoc];exact a7⟩ (by simp only;omega) kE.c.c.c.c.c.c.c (aQ [2,2,2,2])
 refine .skip<|aV<|av<|.region ?_
 refine .ia (j+1) .add ?_
 refine .mo rfl<|.nil ?_
 ·exact aW (j+1,v1,V) ⟨J,by simp only;rw[a3,List.filter_append,List.filter_cons,if_neg (by rw[G];simp)];simpa using d⟩ (by simp only;omega) kE.c.c.c.c.c.c.c (aQ [1,1,1,1])
 have b0:j=ys.length:=by have:=bA F;omega
 subst b0
 rw[List.take_length]at d
 refine .exit<|bm<|bs<|bo<|aV ?_
 ·refine aW (B++ys.filter (λt=>jd f t),O.filter λN=>decide (N≠k),v1,V,Q) ⟨K.sublist List.filter_sublist,?_,d,a0.it⟩ ?_ kE.c.c.c.c (aQ [1,1,1])
  ·simp only
   have h9:=y6 (a:=λp:RB=>(p.2.there r&&jd f p.2.t)&&decide (p.2.t.cJ∉O)) (b:=λp:RB=>decide (p.2.t.cJ=k)&&(p.2.there r&&jd f p.2.t)) (c:=λp:RB=>(p.2.there r&&jd f p.2.t)&&decide (p.2.t.cJ∉O.filter λN=>decide (N≠k))) ps λp _=>by
    by_cases W:p.2.t.cJ=k
    ·rw[W];simp[hk]
    ·simp[W]
   refine List.Perm.trans ?_ (h9.map _).symm
   rw[List.map_append]
   refine A.append ?_
   refine(a4.filter _).trans (.of_eq ?_)
   rw[List.filter_map,List.filter_filter]
   unfold kV
   rw[List.filter_filter]
   congr 1
   refine List.filter_congr λp _=>?_
   simp only[Function.comp]
   cases decide (p.2.t.cJ=k)<;>cases p.2.there r<;>cases jd f p.2.t<;>rfl
  ·have:=a8.length_eq
   simp only[List.length_cons]at this
   simp only;omega
 have b7:=hf E
 subst b7
 have b2:B.Perm (tz S f r):=by
  refine A.trans (.of_eq ?_)
  unfold tz
  rw[<-h.eq,List.filter_map,List.map_map]
  congr 1
  refine List.filter_congr λp _=>by simp
 refine .exit<|bm<|bs<|bo<|av<|.sr<|.mo rfl ?_
 refine .dg (STP.tx (caps:=[]) vo _ U _ n (by omega) (AN _) (λp s=>trivial) AM) (λu T3 L=>?_)
 obtain⟨rfl,ys,Y,b3,b6⟩:=L
 have i5:=Y.ap
 refine .z<|.mo rfl<|.ag rfl<|.az rfl ?_
 refine .ret (bp _ (.two (.tmp rfl) (.tmp rfl)) ((aQ [1])) ?_)
 ·exact⟨T3,by simp[take,bJ],_,ys,by rw[i];rfl,Y,by rw[i];exact b3.trans b2,by have:=b6.ordered;rw[sK]at this;exact this⟩
abbrev strict(ys:List aE):Prop:=ys.Pairwise λp q=>gC p q=true
theorem Rz{a b:aE}:br kN a b=gC a b:=rfl
theorem BT{a b:aE}(h:a≠b):gC a b=true\/gC b a=true:=by
 unfold gC
 have d:=je.sw a b
 have f:=je.sw b a
 have c:kN a b≠0:=λe=>h (BW e)
 rcases Int.lt_or_lt_of_ne c with h4|h4
 ·exact .inl (decide_eq_true h4)
 ·exact .inr (decide_eq_true (by omega))
theorem tF{a b:aE}(h:gC a b=true):gC b a=false:=by
 unfold gC at *
 have c:=je.sw a b
 have d:=je.sw b a
 have h:=bS h
 exact decide_eq_false (by omega)
theorem tG(a:aE):gC a a=false:=by
 unfold gC
 have:=je.refl a
 exact decide_eq_false (by omega)
theorem strict.order{ys:List aE}(h:strict ys):nt ys:=h.imp λ{p q} a=>tF a
theorem AK{xs ys:List aE}(a:ys.Perm xs)(b:nt xs)(c:nt ys):ys=xs:=De je (λ_ _=>BW) a b c
theorem Ql{S:cW}{r:Int}:scan S r=true↔S.dT<=r/\r<=S.head:=by unfold scan;simp
structure WI(S:cW)(cs:List cD)(i:Nat)(W:List aE):Prop where
 pm:W.Perm (tz ⟨(cs.take i).foldl (eZ (S.head+1)) S.rows,S.head+1,S.dT⟩ ⟨⟨#[]⟩,⟨#[]⟩,⟨#[]⟩,⟨#[]⟩,⟨#[]⟩,⟨#[]⟩,⟨#[]⟩⟩ (S.head+1))
 st:strict W
theorem WI.done{S:cW}(d:gj S){bF no:List aE}{cs:List cD}(e:gq S bF no cs=0){W Z:List aE}(h:WI S cs cs.length W)(a:AY (iO S bF no cs) (⟨⟨#[]⟩,⟨#[]⟩,⟨#[]⟩,⟨#[]⟩,⟨#[]⟩,⟨#[]⟩,⟨#[]⟩⟩:aE) (S.head+1) Z):Z=W:=by
 have g:iO S bF no cs=⟨cs.foldl (eZ (S.head+1)) S.rows,S.head+1,S.dT⟩:=by unfold iO;rw[if_pos e]
 rw[g]at a
 have f:scan ⟨cs.foldl (eZ (S.head+1)) S.rows,S.head+1,S.dT⟩ (S.head+1)=true:=Ql.2 ⟨by have:=d.h1;simp only;omega,Int.le_refl _⟩
 have b:=a.1
 rw[if_pos f]at b
 have c:=h.pm
 rw[List.take_length]at c
 exact AK (b.trans c.symm) h.st.order a.2
theorem sV{a b:aE}:gY a b<0↔kN a b<0:=by
 have h:=congrFun (congrFun sK a) b
 unfold br at h
 exact decide_eq_decide.1 h
theorem qQ(a b:aE):0<gY a b↔gY b a<0:=by
 unfold gY
 have c:= @tF a b
 have d:= @tF b a
 cases ha:gC a b<;>cases hb:gC b a<;>simp_all
theorem AL:gv gY where
 sw x y:=by rw[qQ]
 tr x y z h1 h2:=by
  have d:¬gY y x<0:=λe=>by have:=(qQ x y).2 e;omega
  have a:¬gY z y<0:=λe=>by have:=(qQ y z).2 e;omega
  rw[sV]at d a
  have f:=je.sw y x
  have g:=je.sw x y
  have b:=je.sw y z
  have c:=je.sw z y
  have h:=je.tr x y z (by omega) (by omega)
  have i:=je.sw x z
  have j:=je.sw z x
  have k:¬gY z x<0:=by rw[sV];omega
  have:=qQ x z
  omega
 tl x y z h1 h2:=by
  have a:¬gY z y<0:=λe=>by have:=(qQ y z).2 e;omega
  rw[sV]at a h1⊢
  have b:=je.sw y z
  have c:=je.sw z y
  exact je.tl x y z h1 (by omega)
theorem ON{a b:aE}(h:gY a b=0):a=b:=by
 unfold gY at h
 split at h
 ·omega
 ·split at h
  ·omega
  ·rename_i d e
   exact Classical.byContradiction λc=>by rcases BT c with h3|h3<;>contradiction
def s9(a b:bC):Int:=gI [gY a.t b.t,kx a.fr b.fr]
theorem wq:gv s9:=(AL.map bC.t).cons ((zB.map bC.fr).cons .nil)
def eI(a b:bC):Bool:=gC a.t b.t||decide (a.t=b.t)&&decide (a.fr<b.fr)
theorem vx(a b:bC):br s9 a b=eI a b:=by
 unfold br s9 eI
 rw[nz,nz]
 rw[Bool.eq_iff_iff]
 simp only[decide_eq_true_eq,Bool.or_eq_true,Bool.and_eq_true]
 by_cases h:a.t=b.t
 ·rw[if_pos (by rw[h];exact AL.refl _)]
  rw[h,tG]
  unfold kx gI
  simp
  split
  ·split<;>omega
  ·split
   ·split<;>omega
   ·split<;>omega
 ·rw[if_neg λe=>h (ON e),sV]
  unfold gC
  simp[h]
abbrev PM(ys:List bC):Prop:=ys.Pairwise λp q=>br s9 q p=false
abbrev tg(ys:List bC):Prop:=ys.Pairwise λp q=>eI p q=true
theorem PE{a b:bC}(h:eI a b=true):eI b a=false:=by
 rw[<-vx]at *
 unfold br at *
 have c:=wq.sw a b
 have d:=wq.sw b a
 have h:=bS h
 exact decide_eq_false (by omega)
theorem tg.order{ys:List bC}(h:tg ys):PM ys:=h.imp λ{p q} a=>by rw[vx];exact PE a
theorem gj.two{S:cW}(c:gj S){ys:List bC}(d:ys.Perm S.rows):ys.Pairwise λx y=>x.t=y.t->(x.to≠0/\x.to<=y.fr)\/(y.to≠0/\y.to<=x.fr):=by
 have h:S.rows.Pairwise λx y=>x.t=y.t->(x.to≠0/\x.to<=y.fr)\/(y.to≠0/\y.to<=x.fr):=c.pw.imp λ{x y} b a=>.inl (b a)
 exact d.symm.pairwise h λ{x y} b a=>(b a.symm).symm
end Go.Proofs.YtdljmchhecoakaaGreat

/- What the law 'CoreErrors' uses. No condition. -/
import Derived.Test.YtkkmbiojicgobaaGreatDoorKCoreErrorsB
import Derived.Test.YtkkmbiojicgobaaGreatDoorKCoreErrorsF
import Derived.Test.YtkkmbiojicgobaaGreatDoorKCoreErrorsH
import Derived.Test.YtkkmbiojicgobaaGreatDoorKCoreErrorsI
import Derived.Test.YtkkmbiojicgobaaGreatDoorKCoreErrorsM
set_option linter.unusedSimpArgs false
set_option linter.unusedVariables false
namespace Go.Proofs.YtkkmbiojicgobaaGreatDoor
set_option linter.defProp false
def adI:=@List.getElem?_eq_some_iff
def adJ:=@Nat.le_refl
def adK:=@if_neg
def adL:=@List.length_set
def adM:=@List.mem_map
def adN:=@Int.tdiv_eq_ediv_of_nonneg
def adO:=@List.pairwise_map
def adP:=@List.map_map
def adQ:=@List.mem_cons
def adR:=@List.length_drop
def adS:=@List.map_cons
def adT:=@List.take_append_drop
def adU:=@List.drop_eq_getElem_cons
def adV:=@Bool.false_eq_true
def adW:=@List.filter_eq_self
def adX:=@List.filter_append
def adY:=@List.filter_cons
def adZ:=@Option.isSome_none
open Tryz
set_option linter.unusedVariables false
set_option maxRecDepth 4000
namespace SST
def iR(c:ByteArray->ByteArray->Int)(ok:ByteArray->Prop)(R:av):Prop:=c=fT
theorem iR.mono{c:ByteArray->ByteArray->Int}{ok:ByteArray->Prop}{R R':av}(h:iR c ok R)(a:∀b o,R b o->R' b o):iR c ok R':=h
theorem NG(a:ByteArray)(R:av):Spec prog 284 [.string a] R [] λu H'=>u=.bool false/\H'=[]:=by
 refine Spec.body func284 rfl results284 ntmps284 rfl ?_
 refine .sr<|.ag rfl<|.z<|.mo rfl<|.mo rfl<|.q .fj<|.az rfl ?_
 refine .ret (aO rfl ?_)
 ·exact⟨by simp,rfl⟩
theorem jV{c:ByteArray->ByteArray->Int}{ok:ByteArray->Prop}{e:av}(g:iR c ok e)(a b:ByteArray)(R:av):Spec prog 257 [.string a,.string b] R [] λu H'=>u=.bool (decide (c a b<0))/\H'=[]:=by
 have f:c=fT:=g
 subst f
 refine Spec.body func257 rfl results257 ntmps257 rfl ?_
 refine .sr<|.ag rfl<|.z<|.mo rfl ?_
 refine .aM (NG a _) (λu h=>?_)
 subst h
 refine .mo rfl ?_
 refine .split (t:=7) rfl (λd=>?_) (λd=>?_)
 ·simp at d
 refine .gF d<|.gF d<|.gF d<|.q (.aS d) ?_
 refine .mo rfl<|.gt rfl ?_
 refine .mo rfl<|.gt rfl ?_
 refine .mo rfl<|.gt rfl ?_
 refine .q .m9<|.q .bY<|.az rfl ?_
 refine .ret (aO rfl ?_)
 ·exact⟨congrArg _ (by rw[Bool.eq_iff_iff,jI];simp),rfl⟩
end SST
namespace SST
section
variable{c:ByteArray->ByteArray->Int}{ok:ByteArray->Prop}
theorem r4(v:Value)(xs:List ByteArray)(T:ax)(a b:Nat)(R:av)(h:OS 9 1 bB v xs T)(W:a<=b)(Y:b<=xs.length)(hl:xs.length<=1000000000)(K:iR c ok R)(G:∀x∈xs,ok x)(D:SO (aA c)):
  Spec prog 251 [v,.int .i64 a,.int .i64 b] R [T] λu H'=>∃T',H'=[T']/\u=.tuple #[]/\∃ys,OS 9 1 bB v ys T'/\RP a b xs ys/\SR (aA c) ys a b:=by
 have iv:=h.aw
 refine Spec.body func251 rfl results251 ntmps251 rfl ?_
 refine .sr<|.mo rfl ?_
 refine .ia (a+1) .add ?_
 refine .az rfl<|.block ?_
 refine .loop (X:=Nat×List ByteArray×ax) (λy=>(a+1<=y.1/\(y.1<=b\/y.1=a+1))/\OS 9 1 bB v y.2.1 y.2.2/\RP a b xs y.2.1/\SR (aA c) y.2.1 a y.1) (λy=>[(0,v),(1,iN a),(2,iN b),(6,iN y.1)]) (λy=>[y.2.2]) (λy=>b-y.1) (a+1,xs,T) ⟨⟨by simp only;omega,.inr rfl⟩,h,.refl _,λi j o l F=>by simp only at F;omega⟩ kE.c.c.c.c rH ?_
 rintro⟨i,ys,I⟩ ⟨⟨L,M⟩,A,z,B⟩
 simp only at L M A z B⊢
 have a1:=z.length
 refine .seq<|.sr<|.mo rfl<|.mo rfl<|.q .lss<|.zn ?_
 refine .cond rfl (λo=>?_) λo=>?_
 have a0:i<b:=by simp at o;omega
 refine .kn<|.seq<|.block<|.sr<|.mo rfl<|.az rfl<|.block ?_
 refine .loop (X:=Nat×List ByteArray×ax) (λy=>(a<=y.1/\y.1<=i)/\OS 9 1 bB v y.2.1 y.2.2/\RP a b xs y.2.1/\kZ (aA c) y.2.1 a y.1 (i+1)) (λy=>[(0,v),(1,iN a),(2,iN b),(6,iN i),(7,iN y.1)]) (λy=>[y.2.2]) (λy=>y.1) (i,ys,I) ⟨⟨by simp only;omega,adJ _⟩,A,z,B.ins⟩ kE.c.c.c.c.c rH ?_
 rintro⟨j,p,E⟩ ⟨⟨N,O⟩,e,m,s⟩
 simp only at N O e m s⊢
 have a2:=m.length
 refine .seq<|.seq ?_
 refine .df 13 mixed (by kernel_rfl) ?_
 conv=>arg 6;dsimp only[List.take]
 refine .mo rfl<|.mo rfl<|.q .gtr<|.mo rfl ?_
 refine .split (t:=19) rfl (λd=>?_) (λd=>?_)
 have C:a<j:=by have:=bx d;omega
 obtain⟨x,f⟩:∃x,p[j]? =some x:=⟨_,bC (by omega)⟩
 obtain⟨y,g⟩:∃x,p[j-1]? =some x:=⟨_,bC (by omega)⟩
 have a3:=G x (m.perm.mem_iff.1 (bU f))
 have a4:=G y (m.perm.mem_iff.1 (bU g))
 refine .gT d<|.mo rfl<|.gT d<|.mo rfl<|.gT d ?_
 refine .bb j e f (λa5=>?_)
 refine .gT d<|.lo rfl<|.gT d<|.mo rfl<|.gT d<|.mo rfl<|.gT d ?_
 refine .ia (j-1) .sub ?_
 refine .gT d ?_
 refine .bb (j-1) e g (λa6=>?_)
 refine .gT d<|.lo rfl<|.nil<|.gT d ?_
 refine .aM (jV K x y _) (λu n=>?_)
 subst n
 refine .q (.aY d) ?_
 refine .zn ?_
 refine .cond rfl (λl=>?_) λl=>?_
 refine .kn<|.seq<|.block<|.cW [15,17] mixed ?_
 refine .tO 0 rfl .move<|.tO 1 rfl .move<|.tK 2 rfl .move<|.tK 3 rfl .move ?_
 refine .take 4 rfl (.i64 ((j-1:Nat):Int) .sub ⟨by omega,by omega,by omega⟩) (by kernel_rfl) ?_
 refine .tO 5 rfl .move<|.tO 6 rfl .move ?_
 refine .eE 7 rfl (.i64 ((j-1:Nat):Int) .sub ⟨by omega,by omega,by omega⟩) (by kernel_rfl) ?_
 refine RA.bb 8 rfl (j-1) e g rfl rfl rfl (by kernel_rfl) (λa7=>?_)
 refine .tO 9 rfl (.bN rfl)<|.tO 10 rfl .move<|.tO 11 rfl .move ?_
 refine RA.bb 12 rfl (j) e f rfl rfl rfl (by kernel_rfl) (λa8=>?_)
 refine .tO 13 rfl (.bN rfl) ?_
 refine RA.bb 14 rfl (j) e f rfl rfl rfl (by kernel_rfl) (λa9=>?_)
 refine .sT 15 rfl ?_
 refine .eM (j) e f y (λV S=>?_)
 refine .nil (Next.mod rfl ?_)
 refine RA.bb 16 rfl (j-1) e g rfl rfl rfl (by kernel_rfl) (λb0=>?_)
 refine .sT 17 rfl ?_
 obtain⟨zz,U⟩:∃u,(p.set (j) y)[j-1]? =some u:=⟨_,bC (by rw[adL];exact(adI.1 g).1)⟩
 refine .eM (j-1) S U x (λJ H=>?_)
 rw[<-fk f g]at H
 refine .nil (Next.mod rfl ?_)
 refine RA.nil (by kernel_rfl) ?_
 refine bz<|aD<|.region<|.mo rfl ?_
 refine .ia (j-1) .sub ?_
 refine .ag rfl<|.nil ?_
 ·have Q:aA c x y=true:=l
  exact bf (j-1,swp p j (j-1),J) ⟨⟨by simp only;omega,by simp only;omega⟩,H,m.step (by omega) (by omega) (by omega) (by omega) (by omega),s.step D (by omega) (by omega) C f g Q⟩ (by simp only;omega) kE.c.c.c.c.c rH
 refine .exit<|bD<|bH<|bF<|bz<|aD<|.region<|.mo rfl ?_
 refine .ia (i+1) .add ?_
 refine .ag rfl<|.nil ?_
 ·refine bf (i+1,p,E) ⟨⟨by simp only;omega,.inl (by simp only;omega)⟩,e,m,s.done D (by omega) (by omega) ?_⟩ (by simp only;omega) kE.c.c.c.c rH
  first
   |exact .inr ⟨C,λu w n r=>by
     rw[g]at n;rw[f]at r;cases n;cases r;exact l⟩
   |exact .inl (by have:=bo d;omega)
 refine .gF d<|.gF d<|.gF d<|.gF d<|.gF d<|.gF d<|.gF d<|.gF d<|.gF d<|.nil<|.gF d<|.q (.aS d) ?_
 refine .zn<|.bZ<|.exit<|bD<|bH<|bF<|bz<|aD<|.region<|.mo rfl ?_
 refine .ia (i+1) .add ?_
 refine .ag rfl<|.nil ?_
 ·refine bf (i+1,p,E) ⟨⟨by simp only;omega,.inl (by simp only;omega)⟩,e,m,s.done D (by omega) (by omega) ?_⟩ (by simp only;omega) kE.c.c.c.c rH
  first
   |exact .inr ⟨C,λu w n r=>by
     rw[g]at n;rw[f]at r;cases n;cases r;exact l⟩
   |exact .inl (by have:=bo d;omega)
 refine .exit<|bD<|bH<|bF<|eh _ .none rH ?_
 ·have Z:b<=i:=by simp at o;omega
  exact⟨_,rfl,rfl,ys,A,z,λj k o l F=>B j k o l (by omega)⟩
theorem pw(v:Value)(xs:List ByteArray)(T:ax)(lo g b:Nat)(R:av)(h:OS 9 1 bB v xs T)(a7:lo<=g)(hb:b+g<=xs.length)(hl:xs.length<=1000000000)(hf:iR c ok R)(Z:∀x∈xs,ok x)(F:SO (aA c)):
    Spec prog 281 [v,.int .i64 lo,.int .i64 g,.int .i64 b] R [T] λu H'=>∃T',H'=[T']/\u=.tuple #[]/\∃ys,OS 9 1 bB v ys T'/\RP b (b+g) xs ys/\
      (kk (λx y=>aA c y x) (xs.drop b) g lo lo->jt (λx y=>aA c y x) (ys.drop b) g lo):=by
  have iv:=h.aw
  have a1:=F.rev
  refine Spec.body func281 rfl results281 ntmps281 rfl ?_
  refine .sr<|.mo rfl<|.az rfl<|.block ?_
  refine .loop (X:=Nat×List ByteArray×ax) (λy=>(lo<=y.1/\y.1<=g)/\OS 9 1 bB v y.2.1 y.2.2/\RP b (b+g) xs y.2.1/\(kk (λx y=>aA c y x) (xs.drop b) g lo lo->kk (λx y=>aA c y x) (y.2.1.drop b) g lo y.1)) (λy=>[(0,v),(2,iN g),(3,iN b),(8,iN y.1)]) (λy=>[y.2.2]) (λy=>g-y.1) (lo,xs,T) ⟨⟨adJ _,a7⟩,h,.refl _,λh=>h⟩ kE.c.c.c.c rH ?_
  rintro⟨r,ys,T1⟩ ⟨⟨a3,a9⟩,m,B,Q⟩
  simp only at a3 a9 m B Q⊢
  have b7:=B.length
  have b6:(ys.drop b).length=ys.length-b:=adR
  refine .block<|.sr<|.mo rfl ?_
  refine .ia (2*r) .mul ?_
  refine .ia (2*r+1) .add ?_
  refine .ag rfl<|.zs<|.sr<|.mo rfl<|.mo rfl<|.q .geq<|.zn ?_
  refine .cond rfl (λL=>?_) λL=>?_
  have b4:g<=2*r+1:=by have:=bx L;omega
  refine .exit (bD (jy (bH (bF ?_))))
  refine eh _ .none rH ?_
  ·refine⟨_,rfl,rfl,ys,m,B,λN=>(Q N).stop λa A C k u w d O=>?_⟩
   first
     |(simp only[bR]at k;omega)
     |(rw[iH]at d O
       rw[s]at d;cases d
       have M:(!aA c G x)=true:=H
       exact a1.gU _ _ _ (S a w A C k O) (by simpa using M))
  have I:2*r+1<g:=by have:=bo L;omega
  obtain⟨G,s⟩:∃y,ys[b+r]? =some y:=⟨_,bC (by omega)⟩
  obtain⟨n,l⟩:∃y,ys[b+(2*r+1)]? =some y:=⟨_,bC (by omega)⟩
  have b8:=Z G (B.perm.mem_iff.1 (bU s))
  have J:=Z n (B.perm.mem_iff.1 (bU l))
  refine .kn<|.seq ?_
  refine bQ.cut (X:=Nat×ByteArray) (λz=>0<z.1/\z.1<g/\bR z.1=r/\ys[b+z.1]? =some z.2/\ok z.2/\∀a u,0<a->a<g->bR a=r->ys[b+a]? =some u->aA c z.2 u=false) (λz=>[(0,v),(2,iN g),(3,iN b),(8,iN r),(9,iN z.1)]) (λz=>[T1]) ?_ ?_
  refine .seq ?_
  refine .df 18 mixed (by kernel_rfl) ?_
  conv=>arg 6;dsimp only[List.take]
  refine .mo rfl ?_
  refine .ia (2*r+2) .add ?_
  refine .mo rfl<|.q .lss<|.mo rfl ?_
  refine .split (t:=21) rfl (λe=>?_) (λe=>?_)
  have W:2*r+2<g:=by have:=bx e;omega
  obtain⟨K,p⟩:∃y,ys[b+(2*r+2)]? =some y:=⟨_,bC (by omega)⟩
  have a0:=Z K (B.perm.mem_iff.1 (bU p))
  refine .gT e<|.mo rfl<|.gT e<|.mo rfl<|.gT e<|.mo rfl<|.gT e ?_
  refine .ia (b+(2*r+1)) .add ?_
  refine .gT e ?_
  refine .bb (b+(2*r+1)) m l (λb9=>?_)
  refine .gT e<|.lo rfl<|.gT e<|.mo rfl<|.gT e<|.mo rfl<|.gT e<|.mo rfl<|.gT e ?_
  refine .ia (b+(2*r+1)) .add ?_
  refine .gT e ?_
  refine .ia (b+(2*r+2)) .add ?_
  refine .gT e ?_
  refine .bb (b+(2*r+2)) m p (λc0=>?_)
  refine .gT e<|.lo rfl<|.nil<|.gT e ?_
  refine .aM (jV hf n K _) (λu d=>?_)
  subst d
  refine .q (.aY e) ?_
  refine .zn ?_
  refine .cond rfl (λD=>?_) λD=>?_
  have Y:∀a u,0<a->a<g->bR a=r->ys[b+a]? =some u->aA c K u=false:=λa u A C k d=>by
    have:a=2*r+1\/a=2*r+2:=by simp only[bR]at k;omega
    rcases this with rfl|rfl
    ·rw[l]at d;cases d;exact F.kH D
    ·rw[p]at d;cases d;exact F.fK _
  refine .region<|.mo rfl ?_
  refine .ia (2*r+2) .add ?_
  refine .ag rfl<|.nil ?_
  ·first
      |exact aB (2*r+2,K) ⟨by simp only;omega,W,by simp only[bR];omega,p,a0,Y⟩ kE.c.c.c.c.c rH
      |exact aB (2*r+1,n) ⟨by simp only;omega,I,by simp only[bR];omega,l,J,o⟩ kE.c.c.c.c.c rH
      |(have o:∀a u,0<a->a<g->bR a=r->ys[b+a]? =some u->aA c n u=false:=λa u A C k d=>by
           have:a=2*r+1\/a=2*r+2:=by simp only[bR]at k;omega
           rcases this with rfl|rfl
           ·rw[l]at d;cases d;exact F.fK _
           ·rw[p]at d;cases d;exact D
        exact aB (2*r+1,n) ⟨by simp only;omega,I,by simp only[bR];omega,l,J,o⟩ kE.c.c.c.c.c rH)
  refine .skip ?_
  ·first
      |exact aB (2*r+2,K) ⟨by simp only;omega,W,by simp only[bR];omega,p,a0,Y⟩ kE.c.c.c.c.c rH
      |exact aB (2*r+1,n) ⟨by simp only;omega,I,by simp only[bR];omega,l,J,o⟩ kE.c.c.c.c.c rH
      |(have o:∀a u,0<a->a<g->bR a=r->ys[b+a]? =some u->aA c n u=false:=λa u A C k d=>by
           have:a=2*r+1\/a=2*r+2:=by simp only[bR]at k;omega
           rcases this with rfl|rfl
           ·rw[l]at d;cases d;exact F.fK _
           ·rw[p]at d;cases d;exact D
        exact aB (2*r+1,n) ⟨by simp only;omega,I,by simp only[bR];omega,l,J,o⟩ kE.c.c.c.c.c rH)
  have o:∀a u,0<a->a<g->bR a=r->ys[b+a]? =some u->aA c n u=false:=λa u A C k d=>by
    have:a=2*r+1:=by have:=bo e;simp only[bR]at k;omega
    subst this
    rw[l]at d;cases d;exact F.fK _
  refine .gF e<|.gF e<|.gF e<|.gF e<|.gF e<|.gF e<|.gF e<|.gF e<|.gF e<|.gF e<|.gF e<|.gF e<|.gF e<|.nil<|.gF e<|.q (.aS e) ?_
  refine .zn<|.bZ<|.skip ?_
  ·first
      |exact aB (2*r+2,K) ⟨by simp only;omega,W,by simp only[bR];omega,p,a0,Y⟩ kE.c.c.c.c.c rH
      |exact aB (2*r+1,n) ⟨by simp only;omega,I,by simp only[bR];omega,l,J,o⟩ kE.c.c.c.c.c rH
      |(have o:∀a u,0<a->a<g->bR a=r->ys[b+a]? =some u->aA c n u=false:=λa u A C k d=>by
           have:a=2*r+1\/a=2*r+2:=by simp only[bR]at k;omega
           rcases this with rfl|rfl
           ·rw[l]at d;cases d;exact F.fK _
           ·rw[p]at d;cases d;exact D
        exact aB (2*r+1,n) ⟨by simp only;omega,I,by simp only[bR];omega,l,J,o⟩ kE.c.c.c.c.c rH)
  intro y hy
  obtain⟨j,x⟩:=y
  obtain⟨U,a2,V,E,b2,S⟩:=hy
  simp only at U a2 V E b2 S⊢
  have b5:r<j:=V▸fQ U
  refine aD<|.seq<|.seq ?_
  refine .df 12 mixed (by kernel_rfl) ?_
  conv=>arg 6;dsimp only[List.take]
  refine .mo rfl<|.mo rfl<|.mo rfl ?_
  refine .ia (b+r) .add ?_
  refine .bb (b+r) m s (λc1=>?_)
  refine .lo rfl<|.mo rfl<|.mo rfl<|.mo rfl ?_
  refine .ia (b+j) .add ?_
  refine .bb (b+j) m E (λc2=>?_)
  refine .lo rfl<|.nil ?_
  refine .aM (jV hf G x _) (λu d=>?_)
  subst d
  refine .q .not<|.zn ?_
  refine .cond rfl (λH=>?_) λH=>?_
  refine .ret (aL (br (dn (br (aR _ .none rH ?_)))))
  ·refine⟨_,rfl,rfl,ys,m,B,λN=>(Q N).stop λa A C k u w d O=>?_⟩
   first
     |(simp only[bR]at k;omega)
     |(rw[iH]at d O
       rw[s]at d;cases d
       have M:(!aA c G x)=true:=H
       exact a1.gU _ _ _ (S a w A C k O) (by simpa using M))
  refine .kn<|.seq<|.cW [21,23] mixed ?_
  refine .tO 0 rfl .move<|.tO 1 rfl .move<|.tO 2 rfl .move ?_
  refine .eE 3 rfl (.i64 ((b+r:Nat):Int) .add ⟨by omega,by omega,by omega⟩) (by kernel_rfl) ?_
  refine .tK 4 rfl .move<|.tK 5 rfl .move<|.tK 6 rfl .move ?_
  refine .take 7 rfl (.i64 ((b+j:Nat):Int) .add ⟨by omega,by omega,by omega⟩) (by kernel_rfl) ?_
  refine .tO 8 rfl .move<|.tO 9 rfl .move<|.tO 10 rfl .move ?_
  refine .eE 11 rfl (.i64 ((b+j:Nat):Int) .add ⟨by omega,by omega,by omega⟩) (by kernel_rfl) ?_
  refine RA.bb 12 rfl (b+j) m E rfl rfl rfl (by kernel_rfl) (λc3=>?_)
  refine .tO 13 rfl (.bN rfl)<|.tO 14 rfl .move<|.tO 15 rfl .move<|.tO 16 rfl .move ?_
  refine .eE 17 rfl (.i64 ((b+r:Nat):Int) .add ⟨by omega,by omega,by omega⟩) (by kernel_rfl) ?_
  refine RA.bb 18 rfl (b+r) m s rfl rfl rfl (by kernel_rfl) (λc4=>?_)
  refine .tO 19 rfl (.bN rfl) ?_
  refine RA.bb 20 rfl (b+r) m s rfl rfl rfl (by kernel_rfl) (λc5=>?_)
  refine .sT 21 rfl ?_
  refine .eM (b+r) m s x (λb3 b0=>?_)
  refine .nil (Next.mod rfl ?_)
  refine RA.bb 22 rfl (b+j) m E rfl rfl rfl (by kernel_rfl) (λc6=>?_)
  refine .sT 23 rfl ?_
  obtain⟨zz,b1⟩:∃u,(ys.set (b+r) x)[b+j]? =some u:=⟨_,bC (by rw[adL];exact(adI.1 E).1)⟩
  refine .eM (b+j) b0 b1 G (λa5 a4=>?_)
  rw[<-fk s E]at a4
  refine .nil (Next.mod rfl ?_)
  refine RA.nil (by kernel_rfl) ?_
  refine aD<|.region<|.mo rfl<|.ag rfl<|.nil<|bz ?_
  ·have a8:aA c G x=true:=by
      have M:(!aA c G x)=false:=H
      simpa using M
   have a6:=qk (xs:=ys) (f:=b) (i:=r) (j:=j) (by omega) (by omega)
   exact bf (j,swp ys (b+r) (b+j),a5) ⟨⟨by simp only;omega,by simp only;omega⟩,a4,B.step (by omega) (by omega) (by omega) (by omega) (by omega),λN=>by
     simp only
     rw[a6]
     exact(Q N).step a1 a3 U a2 (by omega) V (by rw[iH];exact E) (by rw[iH];exact s) a8 λa z L D H h4=>S a z L D H (by rw[<-iH];exact h4)⟩ (by simp only;omega) kE.c.c.c.c rH
end
end SST
namespace SST
section
variable{c:ByteArray->ByteArray->Int}{ok:ByteArray->Prop}
theorem r0(v:Value)(xs:List ByteArray)(T:ax)(a b:Nat)(R:av)(h:OS 9 1 bB v xs T)(a7:a<=b)(hb:b<=xs.length)(hl:xs.length<=1000000000)(L:iR c ok R)(M:∀x∈xs,ok x)(F:SO (aA c)):
  Spec prog 252 [v,.int .i64 a,.int .i64 b] R [T] λu H'=>∃T',H'=[T']/\u=.tuple #[]/\∃ys,OS 9 1 bB v ys T'/\RP a b xs ys/\SR (aA c) ys a b:=by
 have iv:=h.aw
 have a5:=F.rev
 obtain⟨n,hn⟩:∃n,b=a+n:=⟨b-a,by omega⟩
 subst hn
 refine Spec.body func252 rfl results252 ntmps252 rfl ?_
 refine .sr<|.mo rfl<|.ag rfl<|.z<|.ag rfl<|.z<|.mo rfl<|.mo rfl ?_
 refine .ia (n) .sub ?_
 refine .ag rfl<|.zs<|.sr<|.mo rfl ?_
 refine .q (.i64 ((n:Int)-1) .sub ⟨rfl,by omega,by omega⟩) ?_
 refine .q (.i64 (((n-1)/2:Nat):Int) .quo ⟨s0,by omega,by omega⟩) ?_
 refine .az rfl<|.block ?_
 refine .loop (X:=Nat×Int×List ByteArray×ax) (λy=>(y.2.1=(y.1:Int)-1/\y.1<=n+1)/\OS 9 1 bB v y.2.2.1 y.2.2.2/\RP a (a+n) xs y.2.2.1/\jt (λx y=>aA c y x) (y.2.2.1.drop a) n y.1) (λy=>[(0,v),(6,iN a),(7,.int .i64 ((0:Nat):Int)),(8,iN n),(9,.int .i64 y.2.1)]) (λy=>[y.2.2.2]) (λy=>y.1) ((n-1)/2+1,(((n-1)/2:Nat):Int),xs,T) ⟨⟨by simp only;omega,by simp only;omega⟩,h,.refl _,λk U hk hp=>by simp only[bR]at hp;omega⟩ kE.c.c.c.c.c rH ?_
 rintro⟨m,z,ys,G⟩ ⟨⟨hz,hm⟩,B,r,A⟩
 simp only at hz hm B r A⊢
 have a8:=r.length
 refine .seq<|.sr<|.mo rfl<|.q .geq<|.zn ?_
 refine .cond rfl (λo=>?_) λo=>?_
 have a2:0<=z:=bx o
 obtain⟨k,rfl⟩:∃k,m=k+1:=⟨m-1,by omega⟩
 obtain rfl:z=(k:Int):=by omega
 refine .kn<|.seq<|.block<|.region<|.mo rfl<|.mo rfl<|.mo rfl<|.mo rfl ?_
 refine .bW (pw (c:=c) (ok:=ok) v ys G k n a _ B (by omega) (by omega) (by omega) L (λx d=>M x (r.perm.mem_iff.1 d)) F) (λu H E=>?_)
 obtain⟨rfl,g,e,l,p⟩:=E
 refine .nil<|bz<|aD<|.region<|.mo rfl ?_
 refine .q (.i64 ((k:Int)-1) .sub ⟨rfl,by omega,by omega⟩) ?_
 refine .ag rfl<|.nil ?_
 ·exact bf (k,(k:Int)-1,g,H) ⟨⟨rfl,by simp only;omega⟩,e,r.trans l,p A.hole⟩ (by simp only;omega) kE.c.c.c.c.c rH
 have D:m=0:=by have:=bo o;omega
 subst D
 refine .exit<|bD<|bH<|bF<|aD<|.sr<|.mo rfl ?_
 refine .q (.i64 ((n:Int)-1) .sub ⟨rfl,by omega,by omega⟩) ?_
 refine .az rfl<|.block ?_
 refine .loop (X:=Nat×Int×List ByteArray×ax) (λy=>(y.2.1=(y.1:Int)-1/\y.1<=n)/\OS 9 1 bB v y.2.2.1 y.2.2.2/\RP a (a+n) xs y.2.2.1/\jt (λx y=>aA c y x) (y.2.2.1.drop a) y.1 0/\OX (aA c) y.2.2.1 a (a+n) a (a+y.1)) (λy=>[(0,v),(6,iN a),(7,.int .i64 ((0:Nat):Int)),(8,iN n),(10,.int .i64 y.2.1)]) (λy=>[y.2.2.2]) (λy=>y.1) (n,(n:Int)-1,ys,G) ⟨⟨rfl,adJ _⟩,B,r,A,OX.start⟩ kE.c.c.c.c.c rH ?_
 rintro⟨m,O,g,H⟩ ⟨⟨a3,a0⟩,e,l,p,C⟩
 simp only at a3 a0 e l p C⊢
 have a9:=l.length
 refine .seq<|.sr<|.mo rfl<|.q .geq<|.zn ?_
 refine .cond rfl (λs=>?_) λs=>?_
 have a2:0<=O:=bx s
 obtain⟨k,rfl⟩:∃k,m=k+1:=⟨m-1,by omega⟩
 obtain rfl:O=(k:Int):=by omega
 obtain⟨x,d⟩:∃x,g[a]? =some x:=⟨_,bC (by omega)⟩
 obtain⟨y,t⟩:∃x,g[a+k]? =some x:=⟨_,bC (by omega)⟩
 refine .kn<|.seq<|.block<|.seq<|.cW [17,19] mixed ?_
 refine .tO 0 rfl .move<|.tO 1 rfl .move<|.tK 2 rfl .move<|.tK 3 rfl .move<|.tK 4 rfl .move ?_
 refine .take 5 rfl (.i64 ((a+k:Nat):Int) .add ⟨by omega,by omega,by omega⟩) (by kernel_rfl) ?_
 refine .tO 6 rfl .move<|.tO 7 rfl .move<|.tO 8 rfl .move ?_
 refine .eE 9 rfl (.i64 ((a+k:Nat):Int) .add ⟨by omega,by omega,by omega⟩) (by kernel_rfl) ?_
 refine RA.bb 10 rfl (a+k) e t rfl rfl rfl (by kernel_rfl) (λb0=>?_)
 refine .tO 11 rfl (.bN rfl)<|.tO 12 rfl .move<|.tO 13 rfl .move ?_
 refine RA.bb 14 rfl (a) e d rfl rfl rfl (by kernel_rfl) (λb1=>?_)
 refine .tO 15 rfl (.bN rfl) ?_
 refine RA.bb 16 rfl (a) e d rfl rfl rfl (by kernel_rfl) (λb2=>?_)
 refine .sT 17 rfl ?_
 refine .eM (a) e d y (λa6 a1=>?_)
 refine .nil (Next.mod rfl ?_)
 refine RA.bb 18 rfl (a+k) e t rfl rfl rfl (by kernel_rfl) (λb3=>?_)
 refine .sT 19 rfl ?_
 obtain⟨zz,a4⟩:∃u,(g.set (a) y)[a+k]? =some u:=⟨_,bC (by rw[adL];exact(adI.1 t).1)⟩
 refine .eM (a+k) a1 a4 x (λS N=>?_)
 rw[<-fk d t]at N
 refine .nil (Next.mod rfl ?_)
 refine RA.nil (by kernel_rfl) ?_
 refine aD<|.region<|.mo rfl<|.mo rfl<|.mo rfl<|.mo rfl ?_
 have K:=qk (xs:=g) (f:=a) (i:=0) (j:=k) (by omega) (by omega)
 have I:=l.step (i:=a) (j:=a+k) (by omega) (by omega) (by omega) (by omega) (by omega)
 have Z:=OX.last (m:=a+k) (x:=x) C (by omega) (by omega) (by omega) d (λj w o V hw=>jt.top a5 p (by rw[adR];omega) (x:=x) (by rw[iH];exact d) (j-a) w (by omega) (by rw[iH,show a+(j-a)=j by omega];exact hw))
 refine .bW (pw (c:=c) (ok:=ok) v (swp g a (a+k)) S 0 k a _ N (by omega) (by rw[jZ];omega) (by rw[jZ];omega) L (λx d=>M x (I.perm.mem_iff.1 d)) F) (λu Q E=>?_)
 obtain⟨rfl,ws,Y,J,W⟩:=E
 refine .nil<|bz<|aD<|.region<|.mo rfl ?_
 refine .q (.i64 ((k:Int)-1) .sub ⟨rfl,by omega,by omega⟩) ?_
 refine .ag rfl<|.nil ?_
 ·exact bf (k,(k:Int)-1,ws,Q) ⟨⟨rfl,by simp only;omega⟩,Y,I.trans (J.mono (adJ a) (by omega) (by rw[jZ];omega)),W (p.vL λj U hj=>by
   rw[Nat.add_zero]at K
   rw[K,fc (by rw[adR];omega) (by rw[adR];omega),adK (by omega),adK (by omega)]),Z.rp J (adJ _) (by omega)⟩ (by simp only;omega) kE.c.c.c.c.c rH
 refine .exit<|bD<|bH<|bF<|eh _ .none rH ?_
 ·have D:m=0:=by have:=bo s;omega
  subst D
  exact⟨_,rfl,rfl,g,e,l,C.jX λi j o s V=>by omega⟩
theorem sF(v:Value)(xs:List ByteArray)(T:ax)(a b:Nat)(R:av)(h:OS 9 1 bB v xs T)(A:a<b)(B:b<=xs.length)(C:xs.length<=1000000000):
  Spec prog 255 [v,.int .i64 a,.int .i64 b] R [T] λu H'=>∃T',H'=[T']/\u=.tuple #[]/\∃ys,OS 9 1 bB v ys T'/\RP a b xs ys:=by
 have F:=h.aw
 refine Spec.body func255 rfl results255 ntmps255 rfl ?_
 refine .sr<|.mo rfl<|.ag rfl<|.z<|.mo rfl ?_
 refine .ia (b-1) .sub ?_
 refine .az rfl<|.block ?_
 refine .loop (X:=Nat×Nat×List ByteArray×ax) (λy=>(a<=y.1/\y.1<=y.2.1+1/\y.2.1<b)/\OS 9 1 bB v y.2.2.1 y.2.2.2/\RP a b xs y.2.2.1) (λy=>[(0,v),(6,iN y.1),(7,iN y.2.1)]) (λy=>[y.2.2.2]) (λy=>b-y.1) (a,b-1,xs,T) ⟨⟨adJ _,by simp only;omega,by simp only;omega⟩,h,.refl _⟩ kE.c.c.c rH ?_
 rintro⟨i,j,ys,t⟩ ⟨⟨n,o,p⟩,d,e⟩
 simp only at n o p d e⊢
 have D:=e.length
 refine .seq<|.sr<|.mo rfl<|.mo rfl<|.q .lss<|.zn ?_
 refine .cond rfl (λk=>?_) λk=>?_
 have E:i<j:=dQ k
 obtain⟨x,f⟩:∃x,ys[i]? =some x:=⟨_,bC (by omega)⟩
 obtain⟨y,g⟩:∃x,ys[j]? =some x:=⟨_,bC (by omega)⟩
 refine .kn<|.block<|.seq<|.cW [13,15] mixed ?_
 refine .tO 0 rfl .move<|.tO 1 rfl .move<|.tK 2 rfl .move<|.tK 3 rfl .move<|.tO 4 rfl .move<|.tO 5 rfl .move ?_
 refine RA.bb 6 rfl (j) d g rfl rfl rfl (by kernel_rfl) (λG=>?_)
 refine .tO 7 rfl (.bN rfl)<|.tO 8 rfl .move<|.tO 9 rfl .move ?_
 refine RA.bb 10 rfl (i) d f rfl rfl rfl (by kernel_rfl) (λH=>?_)
 refine .tO 11 rfl (.bN rfl) ?_
 refine RA.bb 12 rfl (i) d f rfl rfl rfl (by kernel_rfl) (λI=>?_)
 refine .sT 13 rfl ?_
 refine .eM (i) d f y (λw r=>?_)
 refine .nil (Next.mod rfl ?_)
 refine RA.bb 14 rfl (j) d g rfl rfl rfl (by kernel_rfl) (λJ=>?_)
 refine .sT 15 rfl ?_
 obtain⟨K,s⟩:∃u,(ys.set (i) y)[j]? =some u:=⟨_,bC (by rw[adL];exact(adI.1 g).1)⟩
 refine .eM (j) r s x (λm l=>?_)
 rw[<-fk f g]at l
 refine .nil (Next.mod rfl ?_)
 refine RA.nil (by kernel_rfl) ?_
 refine aD<|.sr<|.mo rfl ?_
 refine .ia (i+1) .add ?_
 refine .az rfl<|.region<|.mo rfl ?_
 refine .ia (j-1) .sub ?_
 refine .ag rfl<|.nil<|bz ?_
 ·exact bf (i+1,j-1,swp ys i j,m) ⟨⟨by simp only;omega,by simp only;omega,by simp only;omega⟩,l,e.step (by omega) (by omega) (by omega) (by omega) (by omega)⟩ (by simp only;omega) kE.c.c.c rH
 refine .exit<|bD<|bH<|bF<|eh _ .none rH ?_
 ·exact⟨_,rfl,rfl,ys,d,e⟩
theorem rr(v:Value)(xs:List ByteArray)(T:ax)(a b:Nat)(R:av)(h:OS 9 1 bB v xs T)(Q:a<=b)(S:b<=xs.length)(V:xs.length<=1000000000):
  Spec prog 253 [v,.int .i64 a,.int .i64 b] R [T] λu H'=>∃T',H'=[T']/\u=.tuple #[]/\∃ys,OS 9 1 bB v ys T'/\RP a b xs ys:=by
 have iv:=h.aw
 obtain⟨n,I⟩:∃n,b=a+n:=⟨b-a,by omega⟩
 subst I
 refine Spec.body func253 rfl results253 ntmps253 rfl ?_
 refine .sr<|.mo rfl<|.mo rfl ?_
 refine .ia (n) .sub ?_
 refine .ag rfl<|.z<|.mo rfl<|.q .geq<|.zn ?_
 refine .cond rfl (λs=>?_) λs=>?_
 have a0:8<=n:=by have:=bx s;omega
 obtain⟨q,C⟩:∃q,q=n/4:=⟨_,rfl⟩
 refine .sr<|.mo rfl<|.q .hE ?_
 refine .p6 (λe=>?_)
 refine .cJ rfl rfl<|.z<|.mo rfl ?_
 refine .aM (wC n (by omega) (by omega) _) (λu r=>?_)
 obtain⟨f,rfl,Y,Z⟩:=r
 refine .ag rfl<|.z<|.mo rfl<|.mo rfl ?_
 refine .q (.i64 ((q:Nat):Int) .quo ⟨by rw[C,adN (by omega)];omega,by omega,by omega⟩) ?_
 refine .ia (q*2) .mul ?_
 refine .ia (a+q*2) .add ?_
 refine .ia (a+q*2-1) .sub ?_
 refine .az rfl<|.block ?_
 refine .loop (X:=Nat×Int×List ByteArray×ax) (λy=>(a+q*2-1<=y.1/\y.1<=a+q*2+2)/\OS 9 1 bB v y.2.2.1 y.2.2.2/\RP a (a+n) xs y.2.2.1) (λy=>[(0,v),(1,iN a),(6,iN n),(7,pT e),(8,.int .u64 (f:Nat)),(9,iN y.1)]) (λy=>[bl e [.int .u64 y.2.1] 247,y.2.2.2]) (λy=>a+q*2+2-y.1) (a+q*2-1,_,xs,T) ⟨⟨adJ _,by simp only;omega⟩,h,.refl _⟩ kE.c.c.c.c.c.c rH ?_
 rintro⟨i,z,ys,E⟩ ⟨⟨G,H⟩,d,g⟩
 simp only at G H d g⊢
 have W:=g.length
 refine .seq<|.sr<|.mo rfl<|.mo rfl<|.mo rfl ?_
 refine .q (.i64 ((q:Nat):Int) .quo ⟨by rw[C,adN (by omega)];omega,by omega,by omega⟩) ?_
 refine .ia (q*2) .mul ?_
 refine .ia (a+q*2) .add ?_
 refine .ia (a+q*2+1) .add ?_
 refine .q .leq<|.zn ?_
 refine .cond rfl (λt=>?_) λt=>?_
 have U:i<=a+q*2+1:=by have:=bx t;omega
 refine .kn<|.seq<|.block<|.sr ?_
 refine .bW (xN e z _) (λu N r=>?_)
 obtain⟨l,rfl,rfl⟩:=r
 refine .mo rfl ?_
 refine .q (aP.cast (v':=.int .u64 ((f-1:Nat):Int)) .sub (by rw[nn (by omega) (by omega)];congr 1;omega)) ?_
 have A:=tL (z:=l) (q:=((f-1:Nat):Int)) (by omega) (by omega)
 obtain⟨o,B⟩:∃o:Nat,IntKind.u64.wrap (BitVec.ofInt IntKind.u64.bits l&&&BitVec.ofInt IntKind.u64.bits ((f-1:Nat):Int)).toNat=(o:Int):=⟨_,(Int.toNat_of_nonneg A.1).symm⟩
 refine .q (aP.cast (v':=.int .u64 ((o:Nat):Int)) .ox (by rw[B])) ?_
 rw[B]at A
 refine .q (aP.cast (v':=.int .i64 ((o:Nat):Int)) .hE (by rw[yK (by omega) (by omega)])) ?_
 refine .ag rfl<|.zs ?_
 refine bQ.cut (X:=Nat) (λp=>p<n) (λp=>[(0,v),(1,iN a),(6,iN n),(7,pT e),(8,.int .u64 (f:Nat)),(9,iN i),(10,iN p)]) (λ_=>[bl e [.int .u64 l] 247,E]) ?_ ?_
 refine .sr<|.mo rfl<|.mo rfl<|.q .geq<|.zn ?_
 refine .cond rfl (λm=>?_) λm=>?_
 have J:n<=o:=by have:=bx m;omega
 refine .region<|.mo rfl<|.mo rfl ?_
 refine .ia (o-n) .sub ?_
 refine .ag rfl<|.nil ?_
 ·first
   |exact aB (o-n) (by omega) kE.c.c.c.c.c.c.c rH
   |exact aB o (by omega) kE.c.c.c.c.c.c.c rH
 have J:o<n:=by have:=bo m;omega
 refine .skip ?_
 ·first
   |exact aB (o-n) (by omega) kE.c.c.c.c.c.c.c rH
   |exact aB o (by omega) kE.c.c.c.c.c.c.c rH
 intro y L
 have a1:y<n:=L
 obtain⟨p,rfl⟩:∃p,p=y:=⟨_,rfl⟩
 obtain⟨x,k⟩:∃x,ys[i]? =some x:=⟨_,bC (by omega)⟩
 obtain⟨w,j⟩:∃x,ys[a+p]? =some x:=⟨_,bC (by omega)⟩
 refine aD<|.cW [17,19] mixed ?_
 refine .tO 0 rfl .move<|.tO 1 rfl .move<|.tK 2 rfl .move<|.tK 3 rfl .move<|.tK 4 rfl .move ?_
 refine .take 5 rfl (.i64 ((a+p:Nat):Int) .add ⟨by omega,by omega,by omega⟩) (by kernel_rfl) ?_
 refine .tO 6 rfl .move<|.tO 7 rfl .move<|.tO 8 rfl .move ?_
 refine .eE 9 rfl (.i64 ((a+p:Nat):Int) .add ⟨by omega,by omega,by omega⟩) (by kernel_rfl) ?_
 refine RA.bb 10 rfl (a+p) d j rfl rfl rfl (by kernel_rfl) (λa2=>?_)
 refine .tO 11 rfl (.bN rfl)<|.tO 12 rfl .move<|.tO 13 rfl .move ?_
 refine RA.bb 14 rfl (i) d k rfl rfl rfl (by kernel_rfl) (λa3=>?_)
 refine .tO 15 rfl (.bN rfl) ?_
 refine RA.bb 16 rfl (i) d k rfl rfl rfl (by kernel_rfl) (λa4=>?_)
 refine .sT 17 rfl ?_
 refine .eM (i) d k w (λO K=>?_)
 refine .nil (Next.mod rfl ?_)
 refine RA.bb 18 rfl (a+p) d j rfl rfl rfl (by kernel_rfl) (λa5=>?_)
 refine .sT 19 rfl ?_
 obtain⟨zz,M⟩:∃u,(ys.set (i) w)[a+p]? =some u:=⟨_,bC (by rw[adL];exact(adI.1 j).1)⟩
 refine .eM (a+p) K M x (λF D=>?_)
 rw[<-fk k j]at D
 refine .nil (Next.mod rfl ?_)
 refine RA.nil (by kernel_rfl) ?_
 refine bz<|aD<|.region<|.mo rfl ?_
 refine .ia (i+1) .add ?_
 refine .ag rfl<|.nil ?_
 ·exact bf (i+1,l,swp ys i (a+p),F) ⟨⟨by simp only;omega,by simp only;omega⟩,D,g.step (by omega) (by omega) (by omega) (by omega) (by omega)⟩ (by simp only;omega) kE.c.c.c.c.c.c rH
 refine .exit<|bD<|bH<|bF<|eh _ .none (aI [1]) ?_
 ·exact⟨_,rfl,rfl,ys,d,g⟩
 refine .skip<|eh _ .none rH ?_
 ·exact⟨_,rfl,rfl,xs,h,.refl _⟩
end
end SST
namespace SST
section
variable{c:ByteArray->ByteArray->Int}{ok:ByteArray->Prop}
theorem sy(v:Value)(xs:List ByteArray)(T:ax)(a b:Nat)(R:av)(h:OS 9 1 bB v xs T)(b1:a<b)(hb:b<=xs.length)(hl:xs.length<=1000000000)(hf:iR c ok R)(S:∀x∈xs,ok x)(so:SO (aA c))(c0:LB (aA c) xs a b):
  Spec prog 256 [v,.int .i64 a,.int .i64 b] R [T] λu H'=>∃T',H'=[T']/\∃ys m,u=.bool m/\OS 9 1 bB v ys T'/\RP a b xs ys/\(m=true->SR (aA c) ys a b):=by
 have iv:=h.aw
 refine Spec.body func256 rfl results256 ntmps256 rfl ?_
 refine .sr<|.ag rfl<|.z<|.mo rfl ?_
 refine .ia (a+1) .add ?_
 refine .ag rfl<|.zs<|.sr<|.az rfl<|.block ?_
 refine .loop (X:=Nat×Nat×List ByteArray×ax) (λy=>(y.1<=5/\a+1<=y.2.1/\y.2.1<=b)/\OS 9 1 bB v y.2.2.1 y.2.2.2/\RP a b xs y.2.2.1/\SR (aA c) y.2.2.1 a y.2.1) (λy=>[(0,v),(1,iN a),(2,iN b),(7,iN y.2.1),(8,iN y.1)]) (λy=>[y.2.2.2]) (λy=>5-y.1) (0,a+1,xs,T) ⟨⟨by omega,adJ _,b1⟩,h,.refl _,λi j O Q K=>by simp only at K;omega⟩ kE.c.c.c.c.c rH ?_
 rintro⟨n,i,ys,T1⟩ ⟨⟨hn,G,H⟩,B,L,r⟩
 simp only at hn G H B L r⊢
 have c4:=L.length
 refine .seq<|.sr<|.mo rfl<|.q .lss<|.zn ?_
 refine .cond rfl (λO=>?_) λO=>?_
 have c7:n<5:=dQ O
 refine .kn<|.seq<|.block<|.seq ?_
 refine bQ.cut (X:=Nat) (λi=>(a+1<=i/\i<=b)/\SR (aA c) ys a i) (λi=>[(0,v),(1,iN a),(2,iN b),(7,iN i),(8,iN n)]) (λ_=>[T1]) ?_ ?_
 refine .block ?_
 refine .loop (X:=Nat) (λi=>(a+1<=i/\i<=b)/\SR (aA c) ys a i) (λi=>[(0,v),(1,iN a),(2,iN b),(7,iN i),(8,iN n)]) (λ_=>[T1]) (λi=>b-i) i ⟨⟨G,H⟩,r⟩ kE.c.c.c.c.c rH ?_
 clear G H r
 rintro i ⟨⟨G,H⟩,r⟩
 refine .seq<|.seq ?_
 refine .df 13 mixed (by kernel_rfl) ?_
 conv=>arg 6;dsimp only[List.take]
 refine .mo rfl<|.mo rfl<|.q .lss<|.mo rfl ?_
 refine .split (t:=20) rfl (λe=>?_) (λe=>?_)
 have b9:i<b:=by have:=bx e;omega
 obtain⟨x,F⟩:∃x,ys[i]? =some x:=⟨_,bC (by omega)⟩
 obtain⟨y,A⟩:∃x,ys[i-1]? =some x:=⟨_,bC (by omega)⟩
 have d0:=S x (L.perm.mem_iff.1 (bU F))
 have d1:=S y (L.perm.mem_iff.1 (bU A))
 refine .gT e<|.mo rfl<|.gT e<|.mo rfl<|.gT e ?_
 refine .bb i B F (λd8=>?_)
 refine .gT e<|.lo rfl<|.gT e<|.mo rfl<|.gT e<|.mo rfl<|.gT e ?_
 refine .ia (i-1) .sub ?_
 refine .gT e ?_
 refine .bb (i-1) B A (λd9=>?_)
 refine .gT e<|.lo rfl<|.nil<|.gT e ?_
 refine .aM (jV hf x y _) (λu E=>?_)
 subst E
 refine .gT e<|.q .not<|.q (.aY e) ?_
 refine .zn ?_
 refine .cond rfl (λQ=>?_) λQ=>?_
 refine .kn<|.block<|.region<|.mo rfl ?_
 refine .ia (i+1) .add ?_
 refine .ag rfl<|.nil<|bz ?_
 ·have c1:aA c x y=false:=by
   have b4:(!aA c x y)=true:=Q
   simpa using b4
  exact bf (i+1) ⟨⟨by omega,by omega⟩,r.snoc so (by omega) (by omega) λu w E Y=>by
   rw[A]at E;rw[F]at Y;cases E;cases Y;exact c1⟩ (by omega) kE.c.c.c.c.c rH
 refine .exit<|bD<|bH<|bF ?_
 exact aB i ⟨⟨G,H⟩,r⟩ kE.c.c.c.c.c rH
 refine .gF e<|.gF e<|.gF e<|.gF e<|.gF e<|.gF e<|.gF e<|.gF e<|.gF e<|.nil<|.gF e<|.gF e<|.q (.aS e) ?_
 refine .zn<|.bZ<|.exit<|bD<|bH<|bF ?_
 exact aB i ⟨⟨G,H⟩,r⟩ kE.c.c.c.c.c rH
 intro x F
 obtain⟨d,b2⟩:∃d,d=x:=⟨_,rfl⟩
 rw[<-b2]at F⊢
 clear b2 x G H r
 obtain⟨⟨G,H⟩,r⟩:=F
 refine aD<|.seq<|.sr<|.mo rfl<|.mo rfl<|.q .bS<|.zn ?_
 refine .cond rfl (λK=>?_) λK=>?_
 refine .sr<|.az rfl ?_
 refine .ret (aL (br (aL (dn (br (aL (aR _ (.one (.tmp rfl)) rH ?_)))))))
 ·have b8:d=b:=by
   have b5:((d:Int)=b):=by simpa using K
   omega
  exact⟨_,rfl,ys,true,rfl,B,L,λ_=>b8▸r⟩
 have b9:d<b:=by
  have b5:¬((d:Int)=b):=by simpa using K
  omega
 obtain⟨x,F⟩:∃x,ys[d]? =some x:=⟨_,bC (by omega)⟩
 obtain⟨y,A⟩:∃x,ys[d-1]? =some x:=⟨_,bC (by omega)⟩
 refine .kn<|.seq<|.sr<|.mo rfl<|.mo rfl ?_
 refine .ia (b-a) .sub ?_
 refine .q .lss<|.zn ?_
 refine .cond rfl (λh4=>?_) λh4=>?_
 refine .sr<|.az rfl ?_
 refine .ret (aL (br (aL (dn (br (aL (aR _ (.one (.tmp rfl)) rH ?_)))))))
 ·exact⟨_,rfl,ys,false,rfl,B,L,λh=>by cases h⟩
 refine .kn<|.seq<|.cW [15,17] mixed ?_
 refine .tO 0 rfl .move<|.tO 1 rfl .move<|.tK 2 rfl .move<|.tK 3 rfl .move ?_
 refine .take 4 rfl (.i64 ((d-1:Nat):Int) .sub ⟨by omega,by omega,by omega⟩) (by kernel_rfl) ?_
 refine .tO 5 rfl .move<|.tO 6 rfl .move ?_
 refine .eE 7 rfl (.i64 ((d-1:Nat):Int) .sub ⟨by omega,by omega,by omega⟩) (by kernel_rfl) ?_
 refine RA.bb 8 rfl (d-1) B A rfl rfl rfl (by kernel_rfl) (λe0=>?_)
 refine .tO 9 rfl (.bN rfl)<|.tO 10 rfl .move<|.tO 11 rfl .move ?_
 refine RA.bb 12 rfl (d) B F rfl rfl rfl (by kernel_rfl) (λe1=>?_)
 refine .tO 13 rfl (.bN rfl) ?_
 refine RA.bb 14 rfl (d) B F rfl rfl rfl (by kernel_rfl) (λe2=>?_)
 refine .sT 15 rfl ?_
 refine .eM (d) B F y (λa7 W=>?_)
 refine .nil (Next.mod rfl ?_)
 refine RA.bb 16 rfl (d-1) B A rfl rfl rfl (by kernel_rfl) (λe3=>?_)
 refine .sT 17 rfl ?_
 obtain⟨zz,Z⟩:∃u,(ys.set (d) y)[d-1]? =some u:=⟨_,bC (by rw[adL];exact(adI.1 A).1)⟩
 refine .eM (d-1) W Z x (λJ D=>?_)
 rw[<-fk F A]at D
 refine .nil (Next.mod rfl ?_)
 refine RA.nil (by kernel_rfl) ?_
 have a1:=L.step (i:=d) (j:=d-1) (by omega) (by omega) (by omega) (by omega) (by omega)
 have b6:=r.yj (by omega)
 clear r
 refine aD<|.seq ?_
 refine bQ.cut (X:=List ByteArray×ax) (λz=>OS 9 1 bB v z.1 z.2/\RP a b xs z.1/\SR (aA c) z.1 a d) (λ_=>[(0,v),(1,iN a),(2,iN b),(7,iN d),(8,iN n)]) (λz=>[z.2]) ?_ ?_
 refine .sr<|.mo rfl<|.mo rfl ?_
 refine .ia (d-a) .sub ?_
 refine .q .geq<|.zn ?_
 refine .cond rfl (λh5=>?_) λh5=>?_
 refine .sr<|.mo rfl ?_
 refine .ia (d-1) .sub ?_
 refine .az rfl<|.block ?_
 refine .loop (X:=Nat×List ByteArray×ax) (λz=>(a<=z.1/\z.1<=d-1)/\OS 9 1 bB v z.2.1 z.2.2/\RP a b xs z.2.1/\kZ (aA c) z.2.1 a z.1 d) (λz=>[(0,v),(1,iN a),(2,iN b),(7,iN d),(8,iN n),(9,iN z.1)]) (λz=>[z.2.2]) (λz=>z.1) (d-1,swp ys d (d-1),J) ⟨⟨by simp only;omega,adJ _⟩,D,a1,b6⟩ kE.c.c.c.c.c.c rH ?_
 rintro⟨q,o,I⟩ ⟨⟨a5,a6⟩,f,l,a0⟩
 simp only at a5 a6 f l a0⊢
 have c5:=l.length
 refine .seq<|.sr<|.mo rfl<|.q .geq<|.zn ?_
 refine .cond rfl (λh6=>?_) λh6=>?_
 have c8:1<=q:=by have:=bx h6;omega
 obtain⟨s,g⟩:∃x,o[q]? =some x:=⟨_,bC (by omega)⟩
 obtain⟨t,k⟩:∃x,o[q-1]? =some x:=⟨_,bC (by omega)⟩
 have c2:=S s (l.perm.mem_iff.1 (bU g))
 have c3:=S t (l.perm.mem_iff.1 (bU k))
 refine .kn<|.seq<|.block<|.seq<|.seq ?_
 refine .df 9 mixed (by kernel_rfl) ?_
 conv=>arg 6;dsimp only[List.take]
 refine .mo rfl<|.mo rfl ?_
 refine .bb q f g (λe4=>?_)
 refine .lo rfl<|.mo rfl<|.mo rfl ?_
 refine .ia (q-1) .sub ?_
 refine .bb (q-1) f k (λe5=>?_)
 refine .lo rfl<|.nil ?_
 refine .aM (jV hf s t _) (λu E=>?_)
 subst E
 refine .q .not<|.zn ?_
 refine .cond rfl (λh7=>?_) λh7=>?_
 have a2:SR (aA c) o a d:=a0.done so (by omega) (by omega) (by
  have a3:(!aA c s t)=true:=h7
  rcases Nat.lt_or_ge a q with hh|hh
  ·exact .inr ⟨hh,λu w E Y=>by rw[k]at E;rw[g]at Y;cases E;cases Y;simpa using a3⟩
  ·exact .inl (by omega))
 refine .exit (bD (jy (bD (bH (bF ?_)))))
 ·first
   |exact aB (o,I) ⟨f,l,a2⟩ kE.c.c.c.c.c rH
   |exact aB (swp ys d (d-1),J) ⟨D,a1,λp q O Q K=>by have:=bo h5;omega⟩ kE.c.c.c.c.c rH
 have a4:aA c s t=true:=by
  have a3:(!aA c s t)=false:=h7
  simpa using a3
 have b7:a<q:=by
  rcases Nat.lt_or_ge a q with hh|hh
  ·exact hh
  ·have ea:q=a:=by omega
   subst ea
   have:=(c0.rp l) (by omega) q (adJ _) b1 t s k g
   rw[this]at a4;cases a4
 refine .kn<|.cW [15,17] mixed ?_
 refine .tO 0 rfl .move<|.tO 1 rfl .move<|.tK 2 rfl .move<|.tK 3 rfl .move ?_
 refine .take 4 rfl (.i64 ((q-1:Nat):Int) .sub ⟨by omega,by omega,by omega⟩) (by kernel_rfl) ?_
 refine .tO 5 rfl .move<|.tO 6 rfl .move ?_
 refine .eE 7 rfl (.i64 ((q-1:Nat):Int) .sub ⟨by omega,by omega,by omega⟩) (by kernel_rfl) ?_
 refine RA.bb 8 rfl (q-1) f k rfl rfl rfl (by kernel_rfl) (λe6=>?_)
 refine .tO 9 rfl (.bN rfl)<|.tO 10 rfl .move<|.tO 11 rfl .move ?_
 refine RA.bb 12 rfl (q) f g rfl rfl rfl (by kernel_rfl) (λe7=>?_)
 refine .tO 13 rfl (.bN rfl) ?_
 refine RA.bb 14 rfl (q) f g rfl rfl rfl (by kernel_rfl) (λe8=>?_)
 refine .sT 15 rfl ?_
 refine .eM (q) f g t (λa7 W=>?_)
 refine .nil (Next.mod rfl ?_)
 refine RA.bb 16 rfl (q-1) f k rfl rfl rfl (by kernel_rfl) (λe9=>?_)
 refine .sT 17 rfl ?_
 obtain⟨zz,Z⟩:∃u,(o.set (q) t)[q-1]? =some u:=⟨_,bC (by rw[adL];exact(adI.1 k).1)⟩
 refine .eM (q-1) W Z s (λJ D=>?_)
 rw[<-fk g k]at D
 refine .nil (Next.mod rfl ?_)
 refine RA.nil (by kernel_rfl) ?_
 refine bz<|aD<|.region<|.mo rfl ?_
 refine .ia (q-1) .sub ?_
 refine .ag rfl<|.nil ?_
 ·exact bf (q-1,swp o q (q-1),J) ⟨⟨by simp only;omega,by simp only;omega⟩,D,l.step (by omega) (by omega) (by omega) (by omega) (by omega),a0.step so (by omega) (by omega) b7 g k a4⟩ (by simp only;omega) kE.c.c.c.c.c.c rH
 have a2:SR (aA c) o a d:=a0.done so (by omega) (by omega) (.inl (by have:=bo h6;omega))
 refine .exit<|bD<|bH<|bF ?_
 ·first
   |exact aB (o,I) ⟨f,l,a2⟩ kE.c.c.c.c.c rH
   |exact aB (swp ys d (d-1),J) ⟨D,a1,λp q O Q K=>by have:=bo h5;omega⟩ kE.c.c.c.c.c rH
 refine .skip ?_
 ·first
   |exact aB (o,I) ⟨f,l,a2⟩ kE.c.c.c.c.c rH
   |exact aB (swp ys d (d-1),J) ⟨D,a1,λp q O Q K=>by have:=bo h5;omega⟩ kE.c.c.c.c.c rH
 intro y A
 obtain⟨o,I⟩:=y
 obtain⟨f,l,U⟩:=A
 simp only at f l U⊢
 refine aD ?_
 refine bQ.cut (X:=List ByteArray×ax) (λz=>OS 9 1 bB v z.1 z.2/\RP a b xs z.1/\SR (aA c) z.1 a d) (λ_=>[(0,v),(1,iN a),(2,iN b),(7,iN d),(8,iN n)]) (λz=>[z.2]) ?_ ?_
 refine .sr<|.mo rfl<|.mo rfl ?_
 refine .ia (b-d) .sub ?_
 refine .q .geq<|.zn ?_
 refine .cond rfl (λh8=>?_) λh8=>?_
 refine .sr<|.mo rfl ?_
 refine .ia (d+1) .add ?_
 refine .az rfl<|.block ?_
 refine .loop (X:=Nat×List ByteArray×ax) (λz=>(d+1<=z.1/\z.1<=b)/\OS 9 1 bB v z.2.1 z.2.2/\RP a b xs z.2.1/\SR (aA c) z.2.1 a d) (λz=>[(0,v),(1,iN a),(2,iN b),(7,iN d),(8,iN n),(10,iN z.1)]) (λz=>[z.2.2]) (λz=>b-z.1) (d+1,o,I) ⟨⟨adJ _,by simp only;omega⟩,f,l,U⟩ kE.c.c.c.c.c.c rH ?_
 rintro⟨q,N,T4⟩ ⟨⟨a5,a6⟩,C,M,V⟩
 simp only at a5 a6 C M V⊢
 have c6:=M.length
 refine .seq<|.sr<|.mo rfl<|.mo rfl<|.q .lss<|.zn ?_
 refine .cond rfl (λh9=>?_) λh9=>?_
 have c9:q<b:=dQ h9
 obtain⟨s,g⟩:∃x,N[q]? =some x:=⟨_,bC (by omega)⟩
 obtain⟨t,k⟩:∃x,N[q-1]? =some x:=⟨_,bC (by omega)⟩
 have c2:=S s (M.perm.mem_iff.1 (bU g))
 have c3:=S t (M.perm.mem_iff.1 (bU k))
 refine .kn<|.seq<|.block<|.seq<|.seq ?_
 refine .df 9 mixed (by kernel_rfl) ?_
 conv=>arg 6;dsimp only[List.take]
 refine .mo rfl<|.mo rfl ?_
 refine .bb q C g (λd2=>?_)
 refine .lo rfl<|.mo rfl<|.mo rfl ?_
 refine .ia (q-1) .sub ?_
 refine .bb (q-1) C k (λd3=>?_)
 refine .lo rfl<|.nil ?_
 refine .aM (jV hf s t _) (λu E=>?_)
 subst E
 refine .q .not<|.zn ?_
 refine .cond rfl (λb3=>?_) λb3=>?_
 refine .exit (bD (jy (bD (bH (bF ?_)))))
 ·first
   |exact aB (N,T4) ⟨C,M,V⟩ kE.c.c.c.c.c rH
   |exact aB (o,I) ⟨f,l,U⟩ kE.c.c.c.c.c rH
 refine .kn<|.cW [15,17] mixed ?_
 refine .tO 0 rfl .move<|.tO 1 rfl .move<|.tK 2 rfl .move<|.tK 3 rfl .move ?_
 refine .take 4 rfl (.i64 ((q-1:Nat):Int) .sub ⟨by omega,by omega,by omega⟩) (by kernel_rfl) ?_
 refine .tO 5 rfl .move<|.tO 6 rfl .move ?_
 refine .eE 7 rfl (.i64 ((q-1:Nat):Int) .sub ⟨by omega,by omega,by omega⟩) (by kernel_rfl) ?_
 refine RA.bb 8 rfl (q-1) C k rfl rfl rfl (by kernel_rfl) (λd4=>?_)
 refine .tO 9 rfl (.bN rfl)<|.tO 10 rfl .move<|.tO 11 rfl .move ?_
 refine RA.bb 12 rfl (q) C g rfl rfl rfl (by kernel_rfl) (λd5=>?_)
 refine .tO 13 rfl (.bN rfl) ?_
 refine RA.bb 14 rfl (q) C g rfl rfl rfl (by kernel_rfl) (λd6=>?_)
 refine .sT 15 rfl ?_
 refine .eM (q) C g t (λa7 W=>?_)
 refine .nil (Next.mod rfl ?_)
 refine RA.bb 16 rfl (q-1) C k rfl rfl rfl (by kernel_rfl) (λd7=>?_)
 refine .sT 17 rfl ?_
 obtain⟨zz,Z⟩:∃u,(N.set (q) t)[q-1]? =some u:=⟨_,bC (by rw[adL];exact(adI.1 k).1)⟩
 refine .eM (q-1) W Z s (λJ D=>?_)
 rw[<-fk g k]at D
 refine .nil (Next.mod rfl ?_)
 refine RA.nil (by kernel_rfl) ?_
 refine bz<|aD<|.region<|.mo rfl ?_
 refine .ia (q+1) .add ?_
 refine .ag rfl<|.nil ?_
 ·exact bf (q+1,swp N q (q-1),J) ⟨⟨by simp only;omega,by simp only;omega⟩,D,M.step (by omega) (by omega) (by omega) (by omega) (by omega),V.yk (by omega) (by omega) (by omega) (by omega)⟩ (by simp only;omega) kE.c.c.c.c.c.c rH
 refine .exit<|bD<|bH<|bF ?_
 ·first
   |exact aB (N,T4) ⟨C,M,V⟩ kE.c.c.c.c.c rH
   |exact aB (o,I) ⟨f,l,U⟩ kE.c.c.c.c.c rH
 refine .skip ?_
 ·first
   |exact aB (N,T4) ⟨C,M,V⟩ kE.c.c.c.c.c rH
   |exact aB (o,I) ⟨f,l,U⟩ kE.c.c.c.c.c rH
 intro y A
 obtain⟨us,T5⟩:=y
 obtain⟨a8,a9,b0⟩:=A
 simp only at a8 a9 b0⊢
 refine bz<|aD<|.region<|.mo rfl ?_
 refine .ia (n+1) .add ?_
 refine .ag rfl<|.nil ?_
 ·exact bf (n+1,d,us,T5) ⟨⟨by simp only;omega,G,H⟩,a8,a9,b0⟩ (by simp only;omega) kE.c.c.c.c.c rH
 refine .exit<|bD<|bH<|bF<|aD<|.sr<|.az rfl ?_
 refine .ret (aR _ (.one (.tmp rfl)) rH ?_)
 ·exact⟨_,rfl,ys,false,rfl,B,L,λh=>by cases h⟩
end
end SST
namespace SST
section
variable{c:ByteArray->ByteArray->Int}{ok:ByteArray->Prop}
theorem ng(v:Value)(xs:List ByteArray)(a b lo d e:Nat)(s:Int)(R:av)(h:RS R 1 bB v xs)(f:lo<=a/\a<d)(g:lo<=b/\b<d)(o:d<=xs.length)(m:iR c ok R)(i:∀x∈xs,ok x):
  Spec prog 295 [v,.int .i64 a,.int .i64 b,pT e] R [bl e [.int .i64 s] 3] λu H'=>∃T',H'=[T']/\∃(s':Int) (p q:Nat),u=.tuple [.int .i64 p,.int .i64 q].toArray/\T'=(bl e [.int .i64 s'] 3)/\(lo<=p/\p<d)/\(lo<=q/\q<d):=by
 have r:=h.aw
 obtain⟨x,j⟩:∃x,xs[b]? =some x:=⟨_,bC (by omega)⟩
 obtain⟨y,k⟩:∃x,xs[a]? =some x:=⟨_,bC (by omega)⟩
 have t:=i x (bU j)
 have w:=i y (bU k)
 refine Spec.body func295 rfl results295 ntmps295 rfl ?_
 refine .sr<|.ag rfl<|.ag rfl<|.zs<|.seq ?_
 refine .df 8 mixed (by kernel_rfl) ?_
 conv=>arg 6;dsimp only[List.take]
 refine .mo rfl<|.mo rfl ?_
 refine .cu b h j (λA=>?_)
 refine .lo rfl<|.mo rfl<|.mo rfl ?_
 refine .cu a h k (λB=>?_)
 refine .lo rfl<|.nil ?_
 refine .aM (jV m x y _) (λu n=>?_)
 subst n
 refine .zn ?_
 refine .cond rfl (λl=>?_) λl=>?_
 refine .sr<|.mo rfl<|.nc rfl<|.lo rfl<|.q .add ?_
 refine .nc rfl<|.cJ rfl rfl<|.z<|.mo rfl<|.mo rfl<|.ag rfl<|.az rfl ?_
 refine .ret (aL (aR _ (.two (.tmp rfl) (.tmp rfl)) rH ?_))
 ·exact⟨_,rfl,_,b,a,rfl,rfl,g,f⟩
 refine .kn<|.sr<|.mo rfl<|.mo rfl<|.ag rfl<|.az rfl ?_
 refine .ret (aR _ (.two (.tmp rfl) (.tmp rfl)) rH ?_)
 ·exact⟨_,rfl,_,a,b,rfl,rfl,f,g⟩
theorem o0(v:Value)(xs:List ByteArray)(a b d lo e f:Nat)(s:Int)(R:av)(h:RS R 1 bB v xs)(l:lo<=a/\a<e)(m:lo<=b/\b<e)(n:lo<=d/\d<e)(j:e<=xs.length)(i:iR c ok R)(k:∀x∈xs,ok x):
  Spec prog 283 [v,.int .i64 a,.int .i64 b,.int .i64 d,pT f] R [bl f [.int .i64 s] 3] λu H'=>∃T',H'=[T']/\∃(s':Int) (p:Nat),u=.int .i64 p/\T'=(bl f [.int .i64 s'] 3)/\(lo<=p/\p<e):=by
 have L:=h.aw
 refine Spec.body func283 rfl results283 ntmps283 rfl ?_
 refine .sr<|.ag rfl<|.z<|.mo rfl<|.mo rfl<|.mo rfl<|.mo rfl ?_
 refine .bW (ng v xs a b lo e f s _ h l m j i k) (λu G g=>?_)
 obtain⟨D,y,B,rfl,rfl,o,t⟩:=g
 refine .mo rfl<|.q .extract<|.q .extract<|.ag rfl<|.ag rfl<|.z<|.mo rfl<|.mo rfl<|.mo rfl<|.mo rfl ?_
 refine .bW (ng v xs B d lo e f D _ h t n j i k) (λu H g=>?_)
 obtain⟨E,A,N,rfl,rfl,r,K⟩:=g
 refine .mo rfl<|.q .extract<|.q .extract<|.ag rfl<|.ag rfl<|.z<|.mo rfl<|.mo rfl<|.mo rfl<|.mo rfl ?_
 refine .bW (ng v xs y A lo e f E _ h o r j i k) (λu I g=>?_)
 obtain⟨F,M,C,rfl,rfl,J,w⟩:=g
 refine .mo rfl<|.q .extract<|.q .extract<|.ag rfl<|.ag rfl<|.z<|.mo rfl<|.az rfl ?_
 refine .ret (aR _ (.one (.tmp rfl)) rH ?_)
 ·exact⟨_,rfl,F,C,rfl,rfl,w⟩
theorem na(v:Value)(xs:List ByteArray)(a lo d b:Nat)(s:Int)(R:av)(h:RS R 1 bB v xs)(n:lo+1<=a/\a+1<d)(f:d<=xs.length)(o:xs.length<=1000000000)(e:iR c ok R)(g:∀x∈xs,ok x):
  Spec prog 282 [v,.int .i64 a,pT b] R [bl b [.int .i64 s] 3] λu H'=>∃T',H'=[T']/\∃(s':Int) (p:Nat),u=.int .i64 p/\T'=(bl b [.int .i64 s'] 3)/\(lo<=p/\p<d):=by
 have q:=h.aw
 refine Spec.body func282 rfl results282 ntmps282 rfl ?_
 refine .sr<|.ag rfl<|.z<|.mo rfl<|.mo rfl ?_
 refine .ia (a-1) .sub ?_
 refine .mo rfl<|.mo rfl ?_
 refine .ia (a+1) .add ?_
 refine .mo rfl ?_
 refine .bW (o0 v xs (a-1) a (a+1) lo d b s _ h (by omega) (by omega) (by omega) f e g) (λu m j=>?_)
 obtain⟨l,k,rfl,rfl,i⟩:=j
 refine .az rfl ?_
 refine .ret (aR _ (.one (.tmp rfl)) rH ?_)
 ·exact⟨_,rfl,l,k,rfl,rfl,i⟩
theorem choose_spec(v:Value)(xs:List ByteArray)(a b:Nat)(R:av)(h:RS R 1 bB v xs)(W:a<b)(g:b<=xs.length)(r:xs.length<=1000000000)(l:iR c ok R)(m:∀x∈xs,ok x):
  Spec prog 254 [v,.int .i64 a,.int .i64 b] R [] λu H'=>(∃(p:Nat) (t:Int),u=.tuple [.int .i64 p,.int .i64 t].toArray/\a<=p/\p<b)/\H'=[]:=by
 have iv:=h.aw
 obtain⟨n,T⟩:∃n,b=a+n:=⟨b-a,by omega⟩
 subst T
 obtain⟨q,w⟩:∃q,q=n/4:=⟨_,rfl⟩
 refine Spec.body func254 rfl results254 ntmps254 rfl ?_
 refine .sr<|.ag rfl<|.ag rfl<|.z<|.mo rfl<|.mo rfl ?_
 refine .ia (n) .sub ?_
 refine .ag rfl<|.z ?_
 refine .p6 (λe=>?_)
 refine .z<|.mo rfl<|.mo rfl ?_
 refine .q (.i64 ((q:Nat):Int) .quo ⟨by rw[w,adN (by omega)];omega,by omega,by omega⟩) ?_
 refine .ia (q) .mul ?_
 refine .ia (a+q) .add ?_
 refine .ag rfl<|.z<|.mo rfl<|.mo rfl ?_
 refine .q (.i64 ((q:Nat):Int) .quo ⟨by rw[w,adN (by omega)];omega,by omega,by omega⟩) ?_
 refine .ia (q*2) .mul ?_
 refine .ia (a+q*2) .add ?_
 refine .ag rfl<|.z<|.mo rfl<|.mo rfl ?_
 refine .q (.i64 ((q:Nat):Int) .quo ⟨by rw[w,adN (by omega)];omega,by omega,by omega⟩) ?_
 refine .ia (q*3) .mul ?_
 refine .ia (a+q*3) .add ?_
 refine .ag rfl<|.zs ?_
 refine bQ.cut (X:=Nat×Int) (λz=>a<=z.1/\z.1<a+n) (λz=>[(9,pT e),(11,iN z.1)]) (λz=>[bl e [.int .i64 z.2] 3]) ?_ ?_
 refine .sr<|.mo rfl<|.q .geq<|.zn ?_
 refine .cond rfl (λA=>?_) λA=>?_
 have Z:8<=n:=by have:=bx A;omega
 refine .seq ?_
 refine bQ.cut (X:=Nat×Nat×Nat×Int) (λz=>(a<=z.1/\z.1<a+n)/\(a<=z.2.1/\z.2.1<a+n)/\(a<=z.2.2.1/\z.2.2.1<a+n)) (λz=>[(0,v),(9,pT e),(10,iN z.1),(11,iN z.2.1),(12,iN z.2.2.1)]) (λz=>[bl e [.int .i64 z.2.2.2] 3]) ?_ ?_
 refine .sr<|.mo rfl<|.q .geq<|.zn ?_
 refine .cond rfl (λB=>?_) λB=>?_
 have Y:50<=n:=by have:=bx B;omega
 refine .sr<|.mo rfl<|.mo rfl ?_
 refine .bW (na v xs (a+q) a (a+n) e 0 _ h (by omega) g r l m) (λu o f=>?_)
 obtain⟨U,J,rfl,rfl,F⟩:=f
 refine .ag rfl<|.z<|.mo rfl<|.mo rfl ?_
 refine .bW (na v xs (a+q*2) a (a+n) e U _ h (by omega) g r l m) (λu o f=>?_)
 obtain⟨V,K,rfl,rfl,G⟩:=f
 refine .az rfl<|.region<|.mo rfl<|.mo rfl ?_
 refine .bW (na v xs (a+q*3) a (a+n) e V _ h (by omega) g r l m) (λu o f=>?_)
 obtain⟨N,L,rfl,rfl,H⟩:=f
 refine .ag rfl<|.nil ?_
 ·first
   |exact aB (J,K,L,N) ⟨F,G,H⟩ kE.c.c.c.c.c rH
   |exact aB (a+q,a+q*2,a+q*3,0) ⟨by simp only;omega,by simp only;omega,by simp only;omega⟩ kE.c.c.c.c.c rH
 refine .skip ?_
 ·first
   |exact aB (J,K,L,N) ⟨F,G,H⟩ kE.c.c.c.c.c rH
   |exact aB (a+q,a+q*2,a+q*3,0) ⟨by simp only;omega,by simp only;omega,by simp only;omega⟩ kE.c.c.c.c.c rH
 intro y d
 obtain⟨i,j,k,s⟩:=y
 obtain⟨C,D,E⟩:=d
 simp only at C D E⊢
 refine aD<|.region<|.mo rfl<|.mo rfl<|.mo rfl<|.mo rfl ?_
 refine .bW (o0 v xs i j k a (a+n) e s _ h C D E g l m) (λu o f=>?_)
 obtain⟨O,M,rfl,rfl,I⟩:=f
 refine .ag rfl<|.nil ?_
 ·first
   |exact aB (M,O) I kE.c.c rH
   |exact aB (a+q*2,0) (by simp only;omega) kE.c.c rH
 refine .skip ?_
 ·first
   |exact aB (M,O) I kE.c.c rH
   |exact aB (a+q*2,0) (by simp only;omega) kE.c.c rH
 intro y d
 obtain⟨p,s⟩:=y
 simp only at d⊢
 refine aD<|.sr<|.lo rfl<|.zn<|.block<|.sr<|.q .bS<|.az rfl ?_
 refine .cond rfl (λQ=>?_) λQ=>?_
 refine .sr<|.mo rfl<|.ag rfl<|.az rfl ?_
 refine .ret (br (aR _ (.two (.tmp rfl) (.tmp rfl)) (.none _) ?_))
 ·exact⟨⟨p,_,rfl,d.1,d.2⟩,rfl⟩
 refine .sr<|.q .bS<|.az rfl ?_
 refine .cond rfl (λS=>?_) λS=>?_
 refine .sr<|.mo rfl<|.ag rfl<|.az rfl ?_
 refine .ret (br (aR _ (.two (.tmp rfl) (.tmp rfl)) (.none _) ?_))
 ·exact⟨⟨p,_,rfl,d.1,d.2⟩,rfl⟩
 refine .sr<|.mo rfl<|.ag rfl<|.az rfl ?_
 refine .ret (br (aR _ (.two (.tmp rfl) (.tmp rfl)) (.none _) ?_))
 ·exact⟨⟨p,_,rfl,d.1,d.2⟩,rfl⟩
end
end SST
namespace SST
section
variable{c:ByteArray->ByteArray->Int}{ok:ByteArray->Prop}
theorem sv(v:Value)(xs:List ByteArray)(T:ax)(a b m:Nat)(p:ByteArray)(R:av)(h:OS 9 1 bB v xs T)(a9:a<b)(hm:a<=m/\m<b)(B:xs[m]? =some p)(hb:b<=xs.length)(hl:xs.length<=1000000000)(hf:iR c ok R)(Z:∀x∈xs,ok x)(so:SO (aA c))
  (b5:∀(k:Nat) (x:ByteArray),a<=k->k<b->xs[k]? =some x->aA c x p=false):
  Spec prog 258 [v,.int .i64 a,.int .i64 b,.int .i64 m] R [T] λu H'=>∃T',H'=[T']/\∃ys mid,u=iN mid/\OS 9 1 bB v ys T'/\RP a b xs ys/\p3 (aA c) ys a mid b p:=by
 have iv:=h.aw
 obtain⟨x0,D⟩:∃x,xs[a]? =some x:=⟨_,bC (by omega)⟩
 have c7:=Z p (bU B)
 refine Spec.body func258 rfl results258 ntmps258 rfl ?_
 refine .sr<|.ag rfl<|.zs<|.cW [13,15] mixed ?_
 refine .tO 0 rfl .move<|.tO 1 rfl .move<|.tK 2 rfl .move<|.tK 3 rfl .move<|.tO 4 rfl .move<|.tO 5 rfl .move ?_
 refine RA.bb 6 rfl (m) h B rfl rfl rfl (by kernel_rfl) (λd0=>?_)
 refine .tO 7 rfl (.bN rfl)<|.tO 8 rfl .move<|.tO 9 rfl .move ?_
 refine RA.bb 10 rfl (a) h D rfl rfl rfl (by kernel_rfl) (λd1=>?_)
 refine .tO 11 rfl (.bN rfl) ?_
 refine RA.bb 12 rfl (a) h D rfl rfl rfl (by kernel_rfl) (λd2=>?_)
 refine .sT 13 rfl ?_
 refine .eM (a) h D p (λa7 a0=>?_)
 refine .nil (Next.mod rfl ?_)
 refine RA.bb 14 rfl (m) h B rfl rfl rfl (by kernel_rfl) (λd3=>?_)
 refine .sT 15 rfl ?_
 obtain⟨zz,a1⟩:∃u,(xs.set (a) p)[m]? =some u:=⟨_,bC (by rw[adL];exact(adI.1 B).1)⟩
 refine .eM (m) a0 a1 x0 (λU H=>?_)
 rw[<-fk D B]at H
 refine .nil (Next.mod rfl ?_)
 refine RA.nil (by kernel_rfl) ?_
 have a8:RP a b xs (swp xs a m):=(RP.refl xs).step (by omega) (by omega) (by omega) (by omega) (by omega)
 have b0:(swp xs a m)[a]? =some p:=by
  rw[fc (by omega) (by omega)]
  by_cases Y:a=m
  ·rw[if_pos Y,D, <-B, <-Y,D]
  ·rw[adK Y,if_pos rfl,B]
 refine aD<|.sr<|.mo rfl ?_
 refine .ia (a+1) .add ?_
 refine .mo rfl ?_
 refine .ia (b-1) .sub ?_
 refine .ag rfl<|.ag rfl<|.zs<|.block ?_
 refine .loop (X:=Nat×Nat×List ByteArray×ax) (λy=>OS 9 1 bB v y.2.2.1 y.2.2.2/\RP a b xs y.2.2.1/\PQ (λx=> !aA c p x) y.2.2.1 a y.1 y.2.1 b p) (λy=>[(0,v),(1,iN a),(9,iN y.1),(10,iN y.2.1)]) (λy=>[y.2.2.2]) (λy=>y.2.1+1-y.1) (a+1,b-1,swp xs a m,U) ⟨H,a8,.start a9 b0⟩ kE.c.c.c.c rH ?_
 rintro⟨i,j,ys,L⟩ ⟨s,A,C⟩
 simp only at s A C⊢
 have c6:=A.length
 have c0:=C.i0
 have c2:=C.ij
 have c4:=C.jb
 have a6:=C.at_
 refine .block<|.seq ?_
 refine bQ.cut (X:=Nat) (λn=>i<=n/\PQ (λx=> !aA c p x) ys a n j b p/\∀x,n<=j->ys[n]? =some x->(!aA c p x)=false) (λn=>[(0,v),(1,iN a),(9,.int .i64 (n:Nat)),(10,iN j)]) (λ_=>[L]) ?_ ?_
 refine .block ?_
 refine .loop (X:=Nat) (λn=>i<=n/\PQ (λx=> !aA c p x) ys a n j b p) (λn=>[(0,v),(1,iN a),(9,.int .i64 (n:Nat)),(10,iN j)]) (λ_=>[L]) (λn=>j+1-n) i ⟨adJ _,C⟩ kE.c.c.c.c rH ?_
 rintro w ⟨Q,F⟩
 refine .seq<|.seq ?_
 refine .df 12 mixed (by kernel_rfl) ?_
 conv=>arg 6;dsimp only[List.take]
 refine .mo rfl<|.mo rfl<|.q .leq<|.mo rfl ?_
 refine .split (t:=32) rfl (λd=>?_) (λd=>?_)
 have b3:w<=j:=by have:=bx d;omega
 obtain⟨x2,I⟩:∃x,ys[w]? =some x:=⟨_,bC (by omega)⟩
 have c8:=Z x2 (A.perm.mem_iff.1 (bU I))
 refine .gT d<|.mo rfl<|.gT d<|.mo rfl<|.gT d ?_
 refine .bb a s a6 (λd4=>?_)
 refine .gT d<|.lo rfl<|.gT d<|.mo rfl<|.gT d<|.mo rfl<|.gT d ?_
 refine .bb w s I (λd5=>?_)
 refine .gT d<|.lo rfl<|.nil<|.gT d ?_
 refine .aM (jV hf p x2 _) (λu hu=>?_)
 subst hu
 refine .gT d<|.q .not<|.q (.aY d) ?_
 refine .zn ?_
 refine .cond rfl (λM=>?_) λM=>?_
 refine .kn<|.block<|.region<|.mo rfl ?_
 refine .ia (w+1) .add ?_
 refine .ag rfl<|.nil<|bz ?_
 ·exact bf (w+1) ⟨by omega,F.inc b3 I M⟩ (by omega) kE.c.c.c.c rH
 refine .exit<|bD<|bH<|bF ?_
 first
  |exact aB w ⟨Q,F,λx f l=>by rw[I]at l;cases l;exact M⟩ kE.c.c.c.c rH
  |exact aB w ⟨Q,F,λx f l=>by have:=bo d;omega⟩ kE.c.c.c.c rH
 refine .gF d<|.gF d<|.gF d<|.gF d<|.gF d<|.gF d<|.gF d<|.gF d<|.nil<|.gF d<|.gF d<|.q (.aS d) ?_
 refine .zn<|.bZ<|.exit<|bD<|bH<|bF ?_
 first
  |exact aB w ⟨Q,F,λx f l=>by rw[I]at l;cases l;exact M⟩ kE.c.c.c.c rH
  |exact aB w ⟨Q,F,λx f l=>by have:=bo d;omega⟩ kE.c.c.c.c rH
 intro x f
 obtain⟨g,a3⟩:∃g,g=x:=⟨_,rfl⟩
 rw[<-a3]at f⊢
 clear a3 x
 obtain⟨c1,a2,b8⟩:=f
 refine aD<|.seq ?_
 refine bQ.cut (X:=Nat) (λo=>o<=j/\PQ (λx=> !aA c p x) ys a g o b p/\∀x,g<=o->ys[o]? =some x->(!aA c p x)=true) (λo=>[(0,v),(1,iN a),(9,iN g),(10,.int .i64 (o:Nat))]) (λ_=>[L]) ?_ ?_
 refine .block ?_
 refine .loop (X:=Nat) (λo=>o<=j/\PQ (λx=> !aA c p x) ys a g o b p) (λo=>[(0,v),(1,iN a),(9,iN g),(10,.int .i64 (o:Nat))]) (λ_=>[L]) (λo=>o) j ⟨adJ _,a2⟩ kE.c.c.c.c rH ?_
 rintro z ⟨S,G⟩
 have b2:=a2.i0
 refine .seq<|.seq ?_
 refine .df 12 mixed (by kernel_rfl) ?_
 conv=>arg 6;dsimp only[List.take]
 refine .mo rfl<|.mo rfl<|.q .leq<|.mo rfl ?_
 refine .split (t:=49) rfl (λe=>?_) (λe=>?_)
 have b4:g<=z:=by have:=bx e;omega
 obtain⟨K,J⟩:∃x,ys[z]? =some x:=⟨_,bC (by omega)⟩
 have c9:=Z K (A.perm.mem_iff.1 (bU J))
 refine .gT e<|.mo rfl<|.gT e<|.mo rfl<|.gT e ?_
 refine .bb a s a6 (λd6=>?_)
 refine .gT e<|.lo rfl<|.gT e<|.mo rfl<|.gT e<|.mo rfl<|.gT e ?_
 refine .bb z s J (λd7=>?_)
 refine .gT e<|.lo rfl<|.nil<|.gT e ?_
 refine .aM (jV hf p K _) (λu hu=>?_)
 subst hu
 refine .q (.aY e) ?_
 refine .zn ?_
 refine .cond rfl (λN=>?_) λN=>?_
 refine .kn<|.block<|.region<|.mo rfl ?_
 refine .ia (z-1) .sub ?_
 refine .ag rfl<|.nil<|bz ?_
 ·have b6:aA c p K=true:=N
  exact bf (z-1) ⟨by omega,G.dec b4 J (by rw[b6];rfl)⟩ (by omega) kE.c.c.c.c rH
 refine .exit<|bD<|bH<|bF ?_
 first
  |exact aB z ⟨S,G,λx f l=>by have W:aA c p K=false:=N;rw[J]at l;cases l;rw[W];rfl⟩ kE.c.c.c.c rH
  |exact aB z ⟨S,G,λx f l=>by have:=bo e;omega⟩ kE.c.c.c.c rH
 refine .gF e<|.gF e<|.gF e<|.gF e<|.gF e<|.gF e<|.gF e<|.gF e<|.nil<|.gF e<|.q (.aS e) ?_
 refine .zn<|.bZ<|.exit<|bD<|bH<|bF ?_
 first
  |exact aB z ⟨S,G,λx f l=>by have W:aA c p K=false:=N;rw[J]at l;cases l;rw[W];rfl⟩ kE.c.c.c.c rH
  |exact aB z ⟨S,G,λx f l=>by have:=bo e;omega⟩ kE.c.c.c.c rH
 intro x f
 obtain⟨r,a4⟩:∃r,r=x:=⟨_,rfl⟩
 rw[<-a4]at f⊢
 clear a4 x
 obtain⟨c5,O,b9⟩:=f
 have b2:=O.i0
 have c3:=O.ij
 refine aD<|.seq<|.sr<|.mo rfl<|.mo rfl<|.q .gtr<|.zn ?_
 refine .cond rfl (λV=>?_) λV=>?_
 refine .exit (bD (jy (bH (bF ?_))))
 refine aD<|.sr<|.mo rfl<|.az rfl ?_
 refine .ret (aR _ (.one (.tmp rfl)) rH ?_)
 ·have b1:r<g:=dQ V
  exact⟨_,rfl,ys,g,rfl,s,A,O.vl so b1 (A.all (p:=λx=>aA c x p=false) b5)⟩
 have a5:g<=r:=by have:=bo V;omega
 obtain⟨x,f⟩:∃x,ys[g]? =some x:=⟨_,bC (by omega)⟩
 obtain⟨y,E⟩:∃x,ys[r]? =some x:=⟨_,bC (by omega)⟩
 have b7:=O.sw a5 (by omega) f E (b8 x (by omega) f) (b9 y a5 E)
 refine .kn<|.seq<|.cW [13,15] mixed ?_
 refine .tO 0 rfl .move<|.tO 1 rfl .move<|.tK 2 rfl .move<|.tK 3 rfl .move<|.tO 4 rfl .move<|.tO 5 rfl .move ?_
 refine RA.bb 6 rfl (r) s E rfl rfl rfl (by kernel_rfl) (λd8=>?_)
 refine .tO 7 rfl (.bN rfl)<|.tO 8 rfl .move<|.tO 9 rfl .move ?_
 refine RA.bb 10 rfl (g) s f rfl rfl rfl (by kernel_rfl) (λd9=>?_)
 refine .tO 11 rfl (.bN rfl) ?_
 refine RA.bb 12 rfl (g) s f rfl rfl rfl (by kernel_rfl) (λe0=>?_)
 refine .sT 13 rfl ?_
 refine .eM (g) s f y (λa7 a0=>?_)
 refine .nil (Next.mod rfl ?_)
 refine RA.bb 14 rfl (r) s E rfl rfl rfl (by kernel_rfl) (λe1=>?_)
 refine .sT 15 rfl ?_
 obtain⟨zz,a1⟩:∃u,(ys.set (g) y)[r]? =some u:=⟨_,bC (by rw[adL];exact(adI.1 E).1)⟩
 refine .eM (r) a0 a1 x (λU H=>?_)
 rw[<-fk f E]at H
 refine .nil (Next.mod rfl ?_)
 refine RA.nil (by kernel_rfl) ?_
 refine aD<|.sr<|.mo rfl ?_
 refine .ia (g+1) .add ?_
 refine .az rfl<|.region<|.mo rfl ?_
 refine .ia (r-1) .sub ?_
 refine .ag rfl<|.nil<|bz ?_
 ·exact bf (g+1,r-1,swp ys g r,U) ⟨H,A.step (by omega) (by omega) (by omega) (by omega) (by omega),b7.2⟩ (by simp only;omega) kE.c.c.c.c rH
theorem o7(v:Value)(xs:List ByteArray)(T:ax)(a b m:Nat)(p:ByteArray)(R:av)(h:OS 9 1 bB v xs T)(d8:a<b)(hm:a<=m/\m<b)(Q:xs[m]? =some p)(hb:b<=xs.length)(hl:xs.length<=1000000000)(hf:iR c ok R)(a9:∀x∈xs,ok x)(so:SO (aA c)):
  Spec prog 259 [v,.int .i64 a,.int .i64 b,.int .i64 m] R [T] λu H'=>∃T',H'=[T']/\∃ys mid z,u=.tuple [iN mid,.bool z].toArray/\OS 9 1 bB v ys T'/\RP a b xs ys/\Part (aA c) ys a mid b p:=by
 have iv:=h.aw
 obtain⟨x0,a2⟩:∃x,xs[a]? =some x:=⟨_,bC (by omega)⟩
 have g8:=a9 p (bU Q)
 refine Spec.body func259 rfl results259 ntmps259 rfl ?_
 refine .sr<|.ag rfl<|.ag rfl<|.zs<|.cW [13,15] mixed ?_
 refine .tO 0 rfl .move<|.tO 1 rfl .move<|.tK 2 rfl .move<|.tK 3 rfl .move<|.tO 4 rfl .move<|.tO 5 rfl .move ?_
 refine RA.bb 6 rfl (m) h Q rfl rfl rfl (by kernel_rfl) (λj7=>?_)
 refine .tO 7 rfl (.bN rfl)<|.tO 8 rfl .move<|.tO 9 rfl .move ?_
 refine RA.bb 10 rfl (a) h a2 rfl rfl rfl (by kernel_rfl) (λj8=>?_)
 refine .tO 11 rfl (.bN rfl) ?_
 refine RA.bb 12 rfl (a) h a2 rfl rfl rfl (by kernel_rfl) (λk0=>?_)
 refine .sT 13 rfl ?_
 refine .eM (a) h a2 p (λb4 G=>?_)
 refine .nil (Next.mod rfl ?_)
 refine RA.bb 14 rfl (m) h Q rfl rfl rfl (by kernel_rfl) (λk1=>?_)
 refine .sT 15 rfl ?_
 obtain⟨zz,H⟩:∃u,(xs.set (a) p)[m]? =some u:=⟨_,bC (by rw[adL];exact(adI.1 Q).1)⟩
 refine .eM (m) G H x0 (λN B=>?_)
 rw[<-fk a2 Q]at B
 refine .nil (Next.mod rfl ?_)
 refine RA.nil (by kernel_rfl) ?_
 have a0:RP a b xs (swp xs a m):=(RP.refl xs).step (by omega) (by omega) (by omega) (by omega) (by omega)
 have M:(swp xs a m)[a]? =some p:=by
  rw[fc (by omega) (by omega)]
  by_cases hk:a=m
  ·rw[if_pos hk,a2, <-Q, <-hk,a2]
  ·rw[adK hk,if_pos rfl,Q]
 obtain⟨A,d3⟩:∃A,A=swp xs a m:=⟨_,rfl⟩
 rw[<-d3]at B a0 M
 obtain⟨V,d7⟩:∃V,V=N:=⟨_,rfl⟩
 rw[<-d7]at B⊢
 have g6:=a0.length
 have C:=B
 clear B
 have d6:PQ (λx=>aA c x p) A a (a+1) (b-1) b p:=.start d8 M
 clear d3
 refine aD<|.sr<|.mo rfl ?_
 refine .ia (a+1) .add ?_
 refine .mo rfl ?_
 refine .ia (b-1) .sub ?_
 refine .ag rfl<|.ag rfl<|.zs ?_
 refine bQ.cut (X:=Nat) (λl=>PQ (λx=>aA c x p) A a l (b-1) b p/\∀x,l<=b-1->A[l]? =some x->aA c x p=false) (λl=>[(0,v),(1,iN a),(10,.int .i64 (l:Nat)),(11,.int .i64 ((b-1:Nat):Int))]) (λ_=>[V]) ?_ ?_
 refine .block ?_
 refine .loop (X:=Nat) (λl=>PQ (λx=>aA c x p) A a l (b-1) b p) (λl=>[(0,v),(1,iN a),(10,.int .i64 (l:Nat)),(11,.int .i64 ((b-1:Nat):Int))]) (λ_=>[V]) (λl=>b-l) (a+1) d6 kE.c.c.c.c rH ?_
 rintro I a5
 refine .seq<|.seq ?_
 refine .df 12 mixed (by kernel_rfl) ?_
 conv=>arg 6;dsimp only[List.take]
 refine .mo rfl<|.mo rfl<|.q .leq<|.mo rfl ?_
 refine .split (t:=33) rfl (λo=>?_) (λo=>?_)
 have e2:I<=b-1:=by have:=bx o;omega
 obtain⟨x2,b0⟩:∃x,A[I]? =some x:=⟨_,bC (by omega)⟩
 have g9:=a9 x2 (a0.perm.mem_iff.1 (bU b0))
 refine .gT o<|.mo rfl<|.gT o<|.mo rfl<|.gT o ?_
 refine .bb I C b0 (λk4=>?_)
 refine .gT o<|.lo rfl<|.gT o<|.mo rfl<|.gT o<|.mo rfl<|.gT o ?_
 refine .bb a C M (λk5=>?_)
 refine .gT o<|.lo rfl<|.nil<|.gT o ?_
 refine .aM (jV hf x2 p _) (λu S=>?_)
 subst S
 refine .q (.aY o) ?_
 refine .zn ?_
 refine .cond rfl (λh1=>?_) λh1=>?_
 refine .kn<|.block<|.region<|.mo rfl ?_
 refine .ia (I+1) .add ?_
 refine .ag rfl<|.nil<|bz ?_
 ·exact bf (I+1) (a5.inc e2 b0 h1) (by omega) kE.c.c.c.c rH
 refine .exit<|bD<|bH<|bF ?_
 first
  |exact aB I ⟨a5,λx d e=>by rw[b0]at e;cases e;exact h1⟩ kE.c.c.c.c rH
  |exact aB I ⟨a5,λx d e=>by have:=bo o;omega⟩ kE.c.c.c.c rH
 refine .gF o<|.gF o<|.gF o<|.gF o<|.gF o<|.gF o<|.gF o<|.gF o<|.nil<|.gF o<|.q (.aS o) ?_
 refine .zn<|.bZ<|.exit<|bD<|bH<|bF ?_
 first
  |exact aB I ⟨a5,λx d e=>by rw[b0]at e;cases e;exact h1⟩ kE.c.c.c.c rH
  |exact aB I ⟨a5,λx d e=>by have:=bo o;omega⟩ kE.c.c.c.c rH
 intro x d
 obtain⟨s,c5⟩:∃s,s=x:=⟨_,rfl⟩
 rw[<-c5]at d⊢
 clear c5 x
 obtain⟨c3,f0⟩:=d
 refine aD<|.seq ?_
 refine bQ.cut (X:=Nat) (λf=>f<=b-1/\PQ (λx=>aA c x p) A a s f b p/\∀x,s<=f->A[f]? =some x->aA c x p=true) (λf=>[(0,v),(1,iN a),(10,iN s),(11,.int .i64 (f:Nat))]) (λ_=>[V]) ?_ ?_
 refine .block ?_
 refine .loop (X:=Nat) (λf=>f<=b-1/\PQ (λx=>aA c x p) A a s f b p) (λf=>[(0,v),(1,iN a),(10,iN s),(11,.int .i64 (f:Nat))]) (λ_=>[V]) (λf=>f) (b-1) ⟨adJ _,c3⟩ kE.c.c.c.c rH ?_
 rintro J ⟨b7,a6⟩
 have e0:=c3.i0
 refine .seq<|.seq ?_
 refine .df 12 mixed (by kernel_rfl) ?_
 conv=>arg 6;dsimp only[List.take]
 refine .mo rfl<|.mo rfl<|.q .leq<|.mo rfl ?_
 refine .split (t:=49) rfl (λk=>?_) (λk=>?_)
 have e3:s<=J:=by have:=bx k;omega
 obtain⟨x4,b1⟩:∃x,A[J]? =some x:=⟨_,bC (by omega)⟩
 have h0:=a9 x4 (a0.perm.mem_iff.1 (bU b1))
 refine .gT k<|.mo rfl<|.gT k<|.mo rfl<|.gT k ?_
 refine .bb J C b1 (λk6=>?_)
 refine .gT k<|.lo rfl<|.gT k<|.mo rfl<|.gT k<|.mo rfl<|.gT k ?_
 refine .bb a C M (λk7=>?_)
 refine .gT k<|.lo rfl<|.nil<|.gT k ?_
 refine .aM (jV hf x4 p _) (λu S=>?_)
 subst S
 refine .gT k<|.q .not<|.q (.aY k) ?_
 refine .zn ?_
 refine .cond rfl (λh2=>?_) λh2=>?_
 refine .kn<|.block<|.region<|.mo rfl ?_
 refine .ia (J-1) .sub ?_
 refine .ag rfl<|.nil<|bz ?_
 ·have e6:aA c x4 p=false:=by
   have d4:(!aA c x4 p)=true:=h2
   simpa using d4
  exact bf (J-1) ⟨by omega,a6.dec e3 b1 e6⟩ (by omega) kE.c.c.c.c rH
 refine .exit<|bD<|bH<|bF ?_
 first
  |exact aB J ⟨b7,a6,λx d e=>by
    have O:(!aA c x4 p)=false:=h2
    rw[b1]at e;cases e
    simpa using O⟩ kE.c.c.c.c rH
  |exact aB J ⟨b7,a6,λx d e=>by have:=bo k;omega⟩ kE.c.c.c.c rH
 refine .gF k<|.gF k<|.gF k<|.gF k<|.gF k<|.gF k<|.gF k<|.gF k<|.nil<|.gF k<|.gF k<|.q (.aS k) ?_
 refine .zn<|.bZ<|.exit<|bD<|bH<|bF ?_
 first
  |exact aB J ⟨b7,a6,λx d e=>by
    have O:(!aA c x4 p)=false:=h2
    rw[b1]at e;cases e
    simpa using O⟩ kE.c.c.c.c rH
  |exact aB J ⟨b7,a6,λx d e=>by have:=bo k;omega⟩ kE.c.c.c.c rH
 intro x d
 obtain⟨r,c6⟩:∃r,r=x:=⟨_,rfl⟩
 rw[<-c6]at d⊢
 clear c6 x
 obtain⟨g3,b5,f1⟩:=d
 have e0:=b5.i0
 have f7:=b5.ij
 refine aD<|.seq<|.sr<|.mo rfl<|.mo rfl<|.q .gtr<|.zn ?_
 refine .cond rfl (λh3=>?_) λh3=>?_
 have d9:r<s:=dQ h3
 obtain⟨y,F⟩:∃x,A[r]? =some x:=⟨_,bC (by omega)⟩
 refine .seq<|.cW [13,15] mixed ?_
 refine .tO 0 rfl .move<|.tO 1 rfl .move<|.tK 2 rfl .move<|.tK 3 rfl .move<|.tO 4 rfl .move<|.tO 5 rfl .move ?_
 refine RA.bb 6 rfl (a) C M rfl rfl rfl (by kernel_rfl) (λk8=>?_)
 refine .tO 7 rfl (.bN rfl)<|.tO 8 rfl .move<|.tO 9 rfl .move ?_
 refine RA.bb 10 rfl (r) C F rfl rfl rfl (by kernel_rfl) (λk9=>?_)
 refine .tO 11 rfl (.bN rfl) ?_
 refine RA.bb 12 rfl (r) C F rfl rfl rfl (by kernel_rfl) (λl0=>?_)
 refine .sT 13 rfl ?_
 refine .eM (r) C F p (λb4 G=>?_)
 refine .nil (Next.mod rfl ?_)
 refine RA.bb 14 rfl (a) C M rfl rfl rfl (by kernel_rfl) (λl1=>?_)
 refine .sT 15 rfl ?_
 obtain⟨zz,H⟩:∃u,(A.set (r) p)[a]? =some u:=⟨_,bC (by rw[adL];exact(adI.1 M).1)⟩
 refine .eM (a) G H y (λN B=>?_)
 rw[<-fk F M]at B
 refine .nil (Next.mod rfl ?_)
 refine RA.nil (by kernel_rfl) ?_
 refine aD<|.sr<|.mo rfl<|.ag rfl<|.az rfl ?_
 refine .ret (aL (aR _ (.two (.tmp rfl) (.tmp rfl)) rH ?_))
 ·exact⟨_,rfl,swp A r a,r,true,rfl,B,a0.step (by omega) (by omega) (by omega) (by omega) (by omega),b5.fin d9 (by omega)⟩
 have c9:s<=r:=by have:=bo h3;omega
 obtain⟨x,d⟩:∃x,A[s]? =some x:=⟨_,bC (by omega)⟩
 obtain⟨y,F⟩:∃x,A[r]? =some x:=⟨_,bC (by omega)⟩
 have e8:=b5.sw c9 (by omega) d F (f0 x (by omega) d) (f1 y c9 F)
 refine .kn<|.seq<|.cW [13,15] mixed ?_
 refine .tO 0 rfl .move<|.tO 1 rfl .move<|.tK 2 rfl .move<|.tK 3 rfl .move<|.tO 4 rfl .move<|.tO 5 rfl .move ?_
 refine RA.bb 6 rfl (r) C F rfl rfl rfl (by kernel_rfl) (λl2=>?_)
 refine .tO 7 rfl (.bN rfl)<|.tO 8 rfl .move<|.tO 9 rfl .move ?_
 refine RA.bb 10 rfl (s) C d rfl rfl rfl (by kernel_rfl) (λl3=>?_)
 refine .tO 11 rfl (.bN rfl) ?_
 refine RA.bb 12 rfl (s) C d rfl rfl rfl (by kernel_rfl) (λl4=>?_)
 refine .sT 13 rfl ?_
 refine .eM (s) C d y (λb4 G=>?_)
 refine .nil (Next.mod rfl ?_)
 refine RA.bb 14 rfl (r) C F rfl rfl rfl (by kernel_rfl) (λl5=>?_)
 refine .sT 15 rfl ?_
 obtain⟨zz,H⟩:∃u,(A.set (s) y)[r]? =some u:=⟨_,bC (by rw[adL];exact(adI.1 F).1)⟩
 refine .eM (r) G H x (λN B=>?_)
 rw[<-fk d F]at B
 refine .nil (Next.mod rfl ?_)
 refine RA.nil (by kernel_rfl) ?_
 refine aD<|.sr<|.mo rfl ?_
 refine .ia (s+1) .add ?_
 refine .ag rfl<|.z<|.mo rfl ?_
 refine .ia (r-1) .sub ?_
 refine .ag rfl<|.zs ?_
 refine bQ.cut (X:=Nat×Nat×List ByteArray×ax) (λy=>OS 9 1 bB v y.2.2.1 y.2.2.2/\RP a b xs y.2.2.1/\PQ (λx=>aA c x p) y.2.2.1 a y.1 y.2.1 b p/\y.2.1<y.1) (λy=>[(0,v),(1,iN a),(10,iN y.1),(11,iN y.2.1)]) (λy=>[y.2.2.2]) ?_ ?_
 refine .block ?_
 refine .loop (X:=Nat×Nat×List ByteArray×ax) (λy=>OS 9 1 bB v y.2.2.1 y.2.2.2/\RP a b xs y.2.2.1/\PQ (λx=>aA c x p) y.2.2.1 a y.1 y.2.1 b p) (λy=>[(0,v),(1,iN a),(10,iN y.1),(11,iN y.2.1)]) (λy=>[y.2.2.2]) (λy=>y.2.1+1-y.1) (s+1,r-1,swp A s r,N) ⟨B,a0.step (by omega) (by omega) (by omega) (by omega) (by omega),e8.2⟩ kE.c.c.c.c rH ?_
 rintro⟨i,j,ys,T1⟩ ⟨E,a1,Y⟩
 simp only at E a1 Y⊢
 have g5:=a1.length
 have f4:=Y.i0
 have f6:=Y.ij
 have g1:=Y.jb
 have d2:=Y.at_
 refine .block<|.seq ?_
 refine bQ.cut (X:=Nat) (λl=>i<=l/\PQ (λx=>aA c x p) ys a l j b p/\∀x,l<=j->ys[l]? =some x->aA c x p=false) (λl=>[(0,v),(1,iN a),(10,.int .i64 (l:Nat)),(11,iN j)]) (λ_=>[T1]) ?_ ?_
 refine .block ?_
 refine .loop (X:=Nat) (λl=>i<=l/\PQ (λx=>aA c x p) ys a l j b p) (λl=>[(0,v),(1,iN a),(10,.int .i64 (l:Nat)),(11,iN j)]) (λ_=>[T1]) (λl=>j+1-l) i ⟨adJ _,Y⟩ kE.c.c.c.c rH ?_
 rintro K ⟨b8,a7⟩
 refine .seq<|.seq ?_
 refine .df 12 mixed (by kernel_rfl) ?_
 conv=>arg 6;dsimp only[List.take]
 refine .mo rfl<|.mo rfl<|.q .leq<|.mo rfl ?_
 refine .split (t:=102) rfl (λn=>?_) (λn=>?_)
 have e4:K<=j:=by have:=bx n;omega
 obtain⟨x6,b2⟩:∃x,ys[K]? =some x:=⟨_,bC (by omega)⟩
 have h7:=a9 x6 (a1.perm.mem_iff.1 (bU b2))
 refine .gT n<|.mo rfl<|.gT n<|.mo rfl<|.gT n ?_
 refine .bb K E b2 (λh9=>?_)
 refine .gT n<|.lo rfl<|.gT n<|.mo rfl<|.gT n<|.mo rfl<|.gT n ?_
 refine .bb a E d2 (λi1=>?_)
 refine .gT n<|.lo rfl<|.nil<|.gT n ?_
 refine .aM (jV hf x6 p _) (λu S=>?_)
 subst S
 refine .q (.aY n) ?_
 refine .zn ?_
 refine .cond rfl (λh4=>?_) λh4=>?_
 refine .kn<|.block<|.region<|.mo rfl ?_
 refine .ia (K+1) .add ?_
 refine .ag rfl<|.nil<|bz ?_
 ·exact bf (K+1) ⟨by omega,a7.inc e4 b2 h4⟩ (by omega) kE.c.c.c.c rH
 refine .exit<|bD<|bH<|bF ?_
 first
  |exact aB K ⟨b8,a7,λx d e=>by rw[b2]at e;cases e;exact h4⟩ kE.c.c.c.c rH
  |exact aB K ⟨b8,a7,λx d e=>by have:=bo n;omega⟩ kE.c.c.c.c rH
 refine .gF n<|.gF n<|.gF n<|.gF n<|.gF n<|.gF n<|.gF n<|.gF n<|.nil<|.gF n<|.q (.aS n) ?_
 refine .zn<|.bZ<|.exit<|bD<|bH<|bF ?_
 first
  |exact aB K ⟨b8,a7,λx d e=>by rw[b2]at e;cases e;exact h4⟩ kE.c.c.c.c rH
  |exact aB K ⟨b8,a7,λx d e=>by have:=bo n;omega⟩ kE.c.c.c.c rH
 intro x d
 obtain⟨w,c8⟩:∃w,w=x:=⟨_,rfl⟩
 rw[<-c8]at d⊢
 clear c8 x
 obtain⟨g0,c4,f2⟩:=d
 refine aD<|.seq ?_
 refine bQ.cut (X:=Nat) (λf=>f<=j/\PQ (λx=>aA c x p) ys a w f b p/\∀x,w<=f->ys[f]? =some x->aA c x p=true) (λf=>[(0,v),(1,iN a),(10,iN w),(11,.int .i64 (f:Nat))]) (λ_=>[T1]) ?_ ?_
 refine .block ?_
 refine .loop (X:=Nat) (λf=>f<=j/\PQ (λx=>aA c x p) ys a w f b p) (λf=>[(0,v),(1,iN a),(10,iN w),(11,.int .i64 (f:Nat))]) (λ_=>[T1]) (λf=>f) j ⟨adJ _,c4⟩ kE.c.c.c.c rH ?_
 rintro L ⟨b9,a8⟩
 have e1:=c4.i0
 refine .seq<|.seq ?_
 refine .df 12 mixed (by kernel_rfl) ?_
 conv=>arg 6;dsimp only[List.take]
 refine .mo rfl<|.mo rfl<|.q .leq<|.mo rfl ?_
 refine .split (t:=118) rfl (λg=>?_) (λg=>?_)
 have e5:w<=L:=by have:=bx g;omega
 obtain⟨x7,b3⟩:∃x,ys[L]? =some x:=⟨_,bC (by omega)⟩
 have h8:=a9 x7 (a1.perm.mem_iff.1 (bU b3))
 refine .gT g<|.mo rfl<|.gT g<|.mo rfl<|.gT g ?_
 refine .bb L E b3 (λi4=>?_)
 refine .gT g<|.lo rfl<|.gT g<|.mo rfl<|.gT g<|.mo rfl<|.gT g ?_
 refine .bb a E d2 (λi5=>?_)
 refine .gT g<|.lo rfl<|.nil<|.gT g ?_
 refine .aM (jV hf x7 p _) (λu S=>?_)
 subst S
 refine .gT g<|.q .not<|.q (.aY g) ?_
 refine .zn ?_
 refine .cond rfl (λh5=>?_) λh5=>?_
 refine .kn<|.block<|.region<|.mo rfl ?_
 refine .ia (L-1) .sub ?_
 refine .ag rfl<|.nil<|bz ?_
 ·have e7:aA c x7 p=false:=by
   have d5:(!aA c x7 p)=true:=h5
   simpa using d5
  exact bf (L-1) ⟨by omega,a8.dec e5 b3 e7⟩ (by omega) kE.c.c.c.c rH
 refine .exit<|bD<|bH<|bF ?_
 first
  |exact aB L ⟨b9,a8,λx d e=>by
    have O:(!aA c x7 p)=false:=h5
    rw[b3]at e;cases e
    simpa using O⟩ kE.c.c.c.c rH
  |exact aB L ⟨b9,a8,λx d e=>by have:=bo g;omega⟩ kE.c.c.c.c rH
 refine .gF g<|.gF g<|.gF g<|.gF g<|.gF g<|.gF g<|.gF g<|.gF g<|.nil<|.gF g<|.gF g<|.q (.aS g) ?_
 refine .zn<|.bZ<|.exit<|bD<|bH<|bF ?_
 first
  |exact aB L ⟨b9,a8,λx d e=>by
    have O:(!aA c x7 p)=false:=h5
    rw[b3]at e;cases e
    simpa using O⟩ kE.c.c.c.c rH
  |exact aB L ⟨b9,a8,λx d e=>by have:=bo g;omega⟩ kE.c.c.c.c rH
 intro x d
 obtain⟨D,d1⟩:∃D,D=x:=⟨_,rfl⟩
 rw[<-d1]at d⊢
 clear d1 x
 obtain⟨g4,b6,f3⟩:=d
 have e1:=b6.i0
 have f8:=b6.ij
 refine aD<|.seq<|.sr<|.mo rfl<|.mo rfl<|.q .gtr<|.zn ?_
 refine .cond rfl (λh6=>?_) λh6=>?_
 refine .exit (bD (jy (bH (bF ?_))))
 exact aB (w,D,ys,T1) ⟨E,a1,b6,by have:=bx h6;simp only;omega⟩ kE.c.c.c.c rH
 have d0:w<=D:=by have:=bo h6;omega
 obtain⟨x8,a3⟩:∃x,ys[w]? =some x:=⟨_,bC (by omega)⟩
 obtain⟨y8,a4⟩:∃x,ys[D]? =some x:=⟨_,bC (by omega)⟩
 have e9:=b6.sw d0 (by omega) a3 a4 (f2 x8 (by omega) a3) (f3 y8 d0 a4)
 refine .kn<|.seq<|.cW [13,15] mixed ?_
 refine .tO 0 rfl .move<|.tO 1 rfl .move<|.tK 2 rfl .move<|.tK 3 rfl .move<|.tO 4 rfl .move<|.tO 5 rfl .move ?_
 refine RA.bb 6 rfl (D) E a4 rfl rfl rfl (by kernel_rfl) (λi6=>?_)
 refine .tO 7 rfl (.bN rfl)<|.tO 8 rfl .move<|.tO 9 rfl .move ?_
 refine RA.bb 10 rfl (w) E a3 rfl rfl rfl (by kernel_rfl) (λi7=>?_)
 refine .tO 11 rfl (.bN rfl) ?_
 refine RA.bb 12 rfl (w) E a3 rfl rfl rfl (by kernel_rfl) (λi8=>?_)
 refine .sT 13 rfl ?_
 refine .eM (w) E a3 y8 (λb4 G=>?_)
 refine .nil (Next.mod rfl ?_)
 refine RA.bb 14 rfl (D) E a4 rfl rfl rfl (by kernel_rfl) (λj0=>?_)
 refine .sT 15 rfl ?_
 obtain⟨zz,H⟩:∃u,(ys.set (w) y8)[D]? =some u:=⟨_,bC (by rw[adL];exact(adI.1 a4).1)⟩
 refine .eM (D) G H x8 (λN B=>?_)
 rw[<-fk a3 a4]at B
 refine .nil (Next.mod rfl ?_)
 refine RA.nil (by kernel_rfl) ?_
 refine aD<|.sr<|.mo rfl ?_
 refine .ia (w+1) .add ?_
 refine .az rfl<|.region<|.mo rfl ?_
 refine .ia (D-1) .sub ?_
 refine .ag rfl<|.nil<|bz ?_
 ·exact bf (w+1,D-1,swp ys w D,N) ⟨B,a1.step (by omega) (by omega) (by omega) (by omega) (by omega),e9.2⟩ (by simp only;omega) kE.c.c.c.c rH
 intro x d
 obtain⟨i9,U,zs,T9⟩:=x
 obtain⟨W,c2,Z,c7⟩:=d
 simp only at W c2 Z c7⊢
 have g7:=c2.length
 have f9:=Z.ij
 have f5:=Z.i0
 have g2:=Z.jb
 have c0:=Z.at_
 obtain⟨y9,c1⟩:∃x,zs[U]? =some x:=⟨_,bC (by omega)⟩
 refine aD<|.seq<|.cW [13,15] mixed ?_
 refine .tO 0 rfl .move<|.tO 1 rfl .move<|.tK 2 rfl .move<|.tK 3 rfl .move<|.tO 4 rfl .move<|.tO 5 rfl .move ?_
 refine RA.bb 6 rfl (a) W c0 rfl rfl rfl (by kernel_rfl) (λj1=>?_)
 refine .tO 7 rfl (.bN rfl)<|.tO 8 rfl .move<|.tO 9 rfl .move ?_
 refine RA.bb 10 rfl (U) W c1 rfl rfl rfl (by kernel_rfl) (λj4=>?_)
 refine .tO 11 rfl (.bN rfl) ?_
 refine RA.bb 12 rfl (U) W c1 rfl rfl rfl (by kernel_rfl) (λj5=>?_)
 refine .sT 13 rfl ?_
 refine .eM (U) W c1 p (λb4 G=>?_)
 refine .nil (Next.mod rfl ?_)
 refine RA.bb 14 rfl (a) W c0 rfl rfl rfl (by kernel_rfl) (λj6=>?_)
 refine .sT 15 rfl ?_
 obtain⟨zz,H⟩:∃u,(zs.set (U) p)[a]? =some u:=⟨_,bC (by rw[adL];exact(adI.1 c0).1)⟩
 refine .eM (a) G H y9 (λN B=>?_)
 rw[<-fk c1 c0]at B
 refine .nil (Next.mod rfl ?_)
 refine RA.nil (by kernel_rfl) ?_
 refine aD<|.sr<|.mo rfl<|.ag rfl<|.az rfl ?_
 refine .ret (aR _ (.two (.tmp rfl) (.tmp rfl)) rH ?_)
 ·exact⟨_,rfl,swp zs U a,U,false,rfl,B,c2.step (by omega) (by omega) (by omega) (by omega) (by omega),Z.fin c7 (by omega)⟩
end
end SST
namespace SST
section
variable{c:ByteArray->ByteArray->Int}{ok:ByteArray->Prop}
def ot(c:ByteArray->ByteArray->Int)(ok:ByteArray->Prop)(n:Nat):Prop:=∀(v:Value) (xs:List ByteArray) (T:ax) (a b lim:Nat) (R:av),OS 9 1 bB v xs T->a<=b->b<=xs.length->xs.length<=1000000000->lim<=1000000000->iR c ok R->(∀x∈xs,ok x)->LB (aA c) xs a b->b-a<n->
  Spec prog 199 [v,.int .i64 a,.int .i64 b,.int .i64 lim] R [T] λu H'=>∃T',H'=[T']/\u=.tuple #[]/\∃ys,OS 9 1 bB v ys T'/\RP a b xs ys/\SR (aA c) ys a b
theorem sB(n:Nat)(ih:ot c ok n)(C:SO (aA c))(v:Value)(xs:List ByteArray)(T:ax)(G E c7:Nat)(R:av)(h:OS 9 1 bB v xs T)(d6:G<=E)(hb:E<=xs.length)(hl:xs.length<=1000000000)(e0:c7<=1000000000)(N:iR c ok R)(e2:∀x∈xs,ok x)(d8:LB (aA c) xs G E)(hn:E-G<n+1):
  Spec prog 199 [v,.int .i64 G,.int .i64 E,.int .i64 c7] R [T] λu H'=>∃T',H'=[T']/\u=.tuple #[]/\∃ys,OS 9 1 bB v ys T'/\RP G E xs ys/\SR (aA c) ys G E:=by
 have iv:=h.aw
 refine Spec.body func199 rfl results199 ntmps199 rfl ?_
 refine .sr<|.ag rfl<|.z<|.az rfl<|.block ?_
 refine .loop (X:=Nat×Nat×Nat×Bool×Bool×List ByteArray×ax) (λy=>(G<=y.1/\y.1<=y.2.1/\y.2.1<=E/\y.2.2.1<=1000000000)/\OS 9 1 bB v y.2.2.2.2.2.1 y.2.2.2.2.2.2/\RP G E xs y.2.2.2.2.2.1/\OX (aA c) y.2.2.2.2.2.1 G E y.1 y.2.1) (λy=>[(0,v),(1,iN y.1),(2,iN y.2.1),(3,iN y.2.2.1),(8,.bool y.2.2.2.1),(9,.bool y.2.2.2.2.1)]) (λy=>[y.2.2.2.2.2.2]) (λy=>y.2.1-y.1) (G,E,c7,true,true,xs,T) ⟨⟨adJ _,d6,adJ _,e0⟩,h,.refl _,.start⟩ kE.c.c.c.c.c.c rH ?_
 rintro⟨a,b,l,wb,wp,ys,T1⟩ ⟨⟨e,c1,f,d7⟩,b1,S,Y⟩
 simp only at e c1 f d7 b1 S Y⊢
 have e8:=S.length
 have b8:∀x∈ys,ok x:=λx V=>e2 x (S.perm.mem_iff.1 V)
 have d1:=Y.lb (d8.rp S) e f
 refine .block<|.sr<|.mo rfl<|.mo rfl ?_
 refine .ia (b-a) .sub ?_
 refine .ag rfl<|.zs<|.sr<|.mo rfl<|.q .leq<|.zn ?_
 refine .cond rfl (λh1=>?_) λh1=>?_
 refine .sr<|.mo rfl<|.mo rfl<|.mo rfl ?_
 refine .bW (r4 v ys T1 a b _ b1 c1 (by omega) (by omega) N b8 C) (λu Z i=>?_)
 obtain⟨rfl,M,H,A,c0⟩:=i
 refine .zn ?_
 refine .ret (aL (br (dn (br (aR _ .none rH ?_)))))
 ·first
   |exact⟨_,rfl,rfl,M,H,S.trans (A.mono e f (by omega)),(Y.rp A e f).jX c0⟩
   |exact⟨_,rfl,rfl,ms,a2,S.trans ((B.trans W).mono e f (by omega)),(Y.rp (B.trans W) e f).jX (c4 (by assumption))⟩
 have f2:12<b-a:=by have:=bo h1;omega
 refine .kn<|.seq<|.sr<|.mo rfl<|.q .bS<|.zn ?_
 refine .cond rfl (λh2=>?_) λh2=>?_
 refine .sr<|.mo rfl<|.mo rfl<|.mo rfl ?_
 refine .bW (r0 v ys T1 a b _ b1 c1 (by omega) (by omega) N b8 C) (λu Z i=>?_)
 obtain⟨rfl,M,H,A,c0⟩:=i
 refine .zn ?_
 refine .ret (aL (br (dn (br (aR _ .none rH ?_)))))
 ·first
   |exact⟨_,rfl,rfl,M,H,S.trans (A.mono e f (by omega)),(Y.rp A e f).jX c0⟩
   |exact⟨_,rfl,rfl,ms,a2,S.trans ((B.trans W).mono e f (by omega)),(Y.rp (B.trans W) e f).jX (c4 (by assumption))⟩
 have e7:0<l:=by
  have e6:¬((l:Int)=0):=by simpa using h2
  omega
 refine .kn<|.seq ?_
 refine bQ.cut (X:=Nat×List ByteArray×ax) (λz=>z.1<=1000000000/\OS 9 1 bB v z.2.1 z.2.2/\RP a b ys z.2.1) (λz=>[(0,v),(1,iN a),(2,iN b),(3,iN z.1),(8,.bool wb),(9,.bool wp),(10,.int .i64 ((b-a:Nat):Int))]) (λz=>[z.2.2]) ?_ ?_
 refine .sr<|.mo rfl<|.q .not<|.zn ?_
 refine .cond rfl (λh3=>?_) λh3=>?_
 refine .sr<|.mo rfl<|.mo rfl<|.mo rfl ?_
 refine .bW (rr v ys T1 a b _ b1 c1 (by omega) (by omega)) (λu Z i=>?_)
 obtain⟨rfl,M,H,A⟩:=i
 refine .zn<|.region<|.mo rfl ?_
 refine .ia (l-1) .sub ?_
 refine .ag rfl<|.nil ?_
 ·first
   |exact aB (l-1,M,Z) ⟨by simp only;omega,H,A⟩ kE.c.c.c.c.c.c.c rH
   |exact aB (l,ys,T1) ⟨by simp only;omega,b1,.refl _⟩ kE.c.c.c.c.c.c.c rH
 refine .skip ?_
 ·first
   |exact aB (l-1,M,Z) ⟨by simp only;omega,H,A⟩ kE.c.c.c.c.c.c.c rH
   |exact aB (l,ys,T1) ⟨by simp only;omega,b1,.refl _⟩ kE.c.c.c.c.c.c.c rH
 intro y hy
 obtain⟨m,M,Z⟩:=y
 obtain⟨r,H,A⟩:=hy
 simp only at r H A⊢
 have e9:=A.length
 have e3:∀x∈M,ok x:=λx V=>b8 x (A.perm.mem_iff.1 V)
 refine aD<|.sr<|.mo rfl<|.mo rfl<|.mo rfl ?_
 refine .aM (choose_spec v M a b _ (H.rs λp hp=>.inr (by simpa using hp)) (by omega) (by omega) (by omega) (N.mono λb o hb=>.inl hb) e3) (λu i=>?_)
 obtain⟨pv,d0,rfl,d2,d3⟩:=i
 refine .mo rfl<|.q .extract<|.q .extract<|.ag rfl<|.ag rfl<|.zs ?_
 refine bQ.cut (X:=Nat×Int×List ByteArray×ax) (λz=>(a<=z.1/\z.1<b)/\OS 9 1 bB v z.2.2.1 z.2.2.2/\RP a b ys z.2.2.1) (λz=>[(0,v),(1,iN a),(2,iN b),(3,iN m),(8,.bool wb),(9,.bool wp),(10,.int .i64 ((b-a:Nat):Int)),(11,iN z.1),(12,.int .i64 z.2.1)]) (λz=>[z.2.2.2]) ?_ ?_
 refine .sr<|.mo rfl<|.q .bS<|.zn ?_
 refine .cond rfl (λh4=>?_) λh4=>?_
 refine .sr<|.mo rfl<|.mo rfl<|.mo rfl ?_
 refine .bW (sF v M Z a b _ H (by omega) (by omega) (by omega)) (λu T3 i=>?_)
 obtain⟨rfl,ws,c8,c9⟩:=i
 refine .z<|.mo rfl ?_
 refine .ia (b-1) .sub ?_
 refine .mo rfl<|.mo rfl ?_
 refine .ia (pv-a) .sub ?_
 refine .ia ((b-1)-(pv-a)) .sub ?_
 refine .az rfl<|.region<|.ag rfl<|.nil ?_
 ·first
   |exact aB ((b-1)-(pv-a),1,ws,T3) ⟨by simp only;omega,c8,A.trans c9⟩ kE.c.c.c.c.c.c.c.c.c rH
   |exact aB (pv,d0,M,Z) ⟨⟨d2,d3⟩,H,A⟩ kE.c.c.c.c.c.c.c.c.c rH
 refine .skip ?_
 ·first
   |exact aB ((b-1)-(pv-a),1,ws,T3) ⟨by simp only;omega,c8,A.trans c9⟩ kE.c.c.c.c.c.c.c.c.c rH
   |exact aB (pv,d0,M,Z) ⟨⟨d2,d3⟩,H,A⟩ kE.c.c.c.c.c.c.c.c.c rH
 intro y hy
 obtain⟨q,f3,us,T4⟩:=y
 obtain⟨⟨c2,c3⟩,b2,B⟩:=hy
 simp only at c2 c3 b2 B⊢
 have f0:=B.length
 have e4:∀x∈us,ok x:=λx V=>b8 x (B.perm.mem_iff.1 V)
 refine aD<|.seq ?_
 refine bQ.cut (X:=List ByteArray×ax) (λz=>OS 9 1 bB v z.1 z.2/\RP a b ys z.1) (λz=>[(0,v),(1,iN a),(2,iN b),(3,iN m),(8,.bool wb),(9,.bool wp),(10,.int .i64 ((b-a:Nat):Int)),(11,iN q)]) (λz=>[z.2]) ?_ ?_
 refine .sr<|.mo rfl<|.mo rfl ?_
 refine .split (t:=62) rfl (λb5=>?_) (λb5=>?_)
 refine .gT b5<|.mo rfl<|.q (.aY b5) ?_
 refine .mo rfl ?_
 refine .split (t:=65) rfl (λa1=>?_) (λa1=>?_)
 refine .gT a1<|.mo rfl<|.gT a1<|.q .bS<|.q (.aY a1) ?_
 refine .zn ?_
 refine .cond rfl (λh5=>?_) λh5=>?_
 refine .sr<|.mo rfl<|.mo rfl<|.mo rfl ?_
 refine .bW (sy v us T4 a b _ b2 (by omega) (by omega) (by omega) N e4 C (d1.rp B)) (λu T5 i=>?_)
 obtain⟨ms,mb,rfl,a2,W,c4⟩:=i
 refine .zn ?_
 refine .cond rfl (λh6=>?_) λh6=>?_
 refine .ret (iW (aL (br (dn (br (aR _ .none rH ?_))))))
 ·first
   |exact⟨_,rfl,rfl,M,H,S.trans (A.mono e f (by omega)),(Y.rp A e f).jX c0⟩
   |exact⟨_,rfl,rfl,ms,a2,S.trans ((B.trans W).mono e f (by omega)),(Y.rp (B.trans W) e f).jX (c4 (by assumption))⟩
 refine .skip ?_
 ·first
   |exact aB (ms,T5) ⟨a2,B.trans W⟩ kE.c.c.c.c.c.c.c.c rH
   |exact aB (us,T4) ⟨b2,B⟩ kE.c.c.c.c.c.c.c.c rH
 refine .skip ?_
 ·first
   |exact aB (ms,T5) ⟨a2,B.trans W⟩ kE.c.c.c.c.c.c.c.c rH
   |exact aB (us,T4) ⟨b2,B⟩ kE.c.c.c.c.c.c.c.c rH
 refine .gF a1<|.gF a1<|.q (.aS a1) ?_
 refine .zn<|.bZ<|.skip ?_
 ·first
   |exact aB (ms,T5) ⟨a2,B.trans W⟩ kE.c.c.c.c.c.c.c.c rH
   |exact aB (us,T4) ⟨b2,B⟩ kE.c.c.c.c.c.c.c.c rH
 refine .gF b5<|.q (.aS b5) ?_
 refine .mo rfl<|.gX<|.gX<|.q .bY<|.zn<|.bZ<|.skip ?_
 ·first
   |exact aB (ms,T5) ⟨a2,B.trans W⟩ kE.c.c.c.c.c.c.c.c rH
   |exact aB (us,T4) ⟨b2,B⟩ kE.c.c.c.c.c.c.c.c rH
 intro y hy
 obtain⟨a9,T6⟩:=y
 obtain⟨b3,b4⟩:=hy
 simp only at b3 b4⊢
 have f1:=b4.length
 have a8:∀x∈a9,ok x:=λx V=>b8 x (b4.perm.mem_iff.1 V)
 have a3:RP G E xs a9:=S.trans (b4.mono e f (by omega))
 have a5:=Y.rp b4 e f
 have c5:=d1.rp b4
 obtain⟨p,hp⟩:∃x,a9[q]? =some x:=⟨_,bC (by omega)⟩
 have f4:=a8 p (bU hp)
 refine aD<|.seq<|.seq ?_
 refine .df 12 mixed (by kernel_rfl) ?_
 conv=>arg 6;dsimp only[List.take]
 refine .mo rfl<|.q .gtr<|.mo rfl ?_
 refine .split (t:=75) rfl (λj=>?_) (λj=>?_)
 have d5:0<a:=by have:=bx j;omega
 obtain⟨w,hw⟩:∃x,a9[a-1]? =some x:=⟨_,bC (by omega)⟩
 have f5:=a8 w (bU hw)
 refine .gT j<|.mo rfl<|.gT j<|.mo rfl<|.gT j ?_
 refine .ia (a-1) .sub ?_
 refine .gT j ?_
 refine .bb (a-1) b3 hw (λf6=>?_)
 refine .gT j<|.lo rfl<|.gT j<|.mo rfl<|.gT j<|.mo rfl<|.gT j ?_
 refine .bb q b3 hp (λf7=>?_)
 refine .gT j<|.lo rfl<|.nil<|.gT j ?_
 refine .aM (jV N w p _) (λu i=>?_)
 subst i
 refine .gT j<|.q .not<|.q (.aY j) ?_
 refine .zn ?_
 refine .cond rfl (λh7=>?_) λh7=>?_
 have e1:aA c w p=false:=by
  have d4:(!aA c w p)=true:=h7
  simpa using d4
 refine .sr<|.mo rfl<|.mo rfl<|.mo rfl<|.mo rfl ?_
 refine .bW (sv v a9 T6 a b q p _ b3 (by omega) ⟨c2,c3⟩ hp (by omega) (by omega) N a8 C (c5.wB C d5 hw e1)) (λu O i=>?_)
 obtain⟨D,g,rfl,Q,k,s⟩:=i
 have a7:=s.lo
 have a6:=s.hi
 refine .ag rfl<|.z<|.mo rfl<|.az rfl<|.exit<|bD<|bF ?_
 ·first
   |exact bf (g+1,b,m,_,_,L,F) ⟨⟨by simp only;omega,by simp only;omega,by simp only;omega,r⟩,I,J,K⟩ (by simp only;omega) ((((((kE.d rfl).d rfl).d rfl).d rfl).d rfl).d rfl) rH
   |exact bf (a,g,m,_,_,L,F) ⟨⟨e,a7,by simp only;omega,r⟩,I,J,K⟩ (by simp only;omega) ((((((kE.d rfl).d rfl).d rfl).d rfl).d rfl).d rfl) rH
   |exact bf (g,b,m,_,_,D,O) ⟨⟨by simp only;omega,a6,f,r⟩,Q,a3.trans (k.mono e f (by omega)),(a5.rp k e f).eqs C s⟩ (by simp only;omega) ((((((kE.d rfl).d rfl).d rfl).d rfl).d rfl).d rfl) rH
 refine .kn<|.sr<|.mo rfl<|.mo rfl<|.mo rfl<|.mo rfl ?_
 refine .bW (o7 v a9 T6 a b q p _ b3 (by omega) ⟨c2,c3⟩ hp (by omega) (by omega) N a8 C) (λu O i=>?_)
 obtain⟨D,g,e5,rfl,Q,k,s⟩:=i
 have a7:=s.lo
 have a6:=s.hi
 have d9:=k.length
 have b9:∀x∈D,ok x:=λx V=>a8 x (k.perm.mem_iff.1 V)
 have b7:=a5.rp k e f
 have b6:RP G E xs D:=a3.trans (k.mono e f (by omega))
 have c6:=c5.rp k
 refine .mo rfl<|.q .extract<|.q .extract<|.ag rfl<|.ag rfl<|.z<|.mo rfl<|.ag rfl<|.z<|.mo rfl<|.mo rfl ?_
 refine .ia (g-a) .sub ?_
 refine .mo rfl<|.mo rfl ?_
 refine .ia (b-g) .sub ?_
 refine .ag rfl<|.ag rfl<|.z<|.mo rfl ?_
 refine .q (.i64 (((b-a)/8:Nat):Int) .quo ⟨by rw[adN (by omega)];omega,by omega,by omega⟩) ?_
 refine .ag rfl<|.z<|.mo rfl<|.mo rfl<|.q .lss<|.zn ?_
 refine .cond rfl (λh8=>?_) λh8=>?_
 refine .sr<|.mo rfl<|.mo rfl<|.q .geq<|.ag rfl<|.z<|.mo rfl<|.mo rfl<|.mo rfl<|.mo rfl ?_
 refine .bW (ih v D O a g m _ Q (by omega) (by omega) (by omega) r N b9 (c6.less (by omega)) (by omega)) (λu F i=>?_)
 obtain⟨rfl,L,I,U,a4⟩:=i
 have K:=b7.left C s U a4 e f (by omega)
 have J:=b6.trans (U.mono e (by omega) (by omega))
 refine .zn<|.region<|.mo rfl ?_
 refine .ia (g+1) .add ?_
 refine .ag rfl<|.nil<|bz ?_
 ·first
   |exact bf (g+1,b,m,_,_,L,F) ⟨⟨by simp only;omega,by simp only;omega,by simp only;omega,r⟩,I,J,K⟩ (by simp only;omega) ((((((kE.d rfl).d rfl).d rfl).d rfl).d rfl).d rfl) rH
   |exact bf (a,g,m,_,_,L,F) ⟨⟨e,a7,by simp only;omega,r⟩,I,J,K⟩ (by simp only;omega) ((((((kE.d rfl).d rfl).d rfl).d rfl).d rfl).d rfl) rH
   |exact bf (g,b,m,_,_,D,O) ⟨⟨by simp only;omega,a6,f,r⟩,Q,a3.trans (k.mono e f (by omega)),(a5.rp k e f).eqs C s⟩ (by simp only;omega) ((((((kE.d rfl).d rfl).d rfl).d rfl).d rfl).d rfl) rH
 refine .sr<|.mo rfl<|.mo rfl<|.q .geq<|.ag rfl<|.z<|.mo rfl<|.mo rfl ?_
 refine .ia (g+1) .add ?_
 refine .mo rfl<|.mo rfl ?_
 refine .bW (ih v D O (g+1) b m _ Q (by omega) (by omega) (by omega) r N b9 s.lb (by omega)) (λu F i=>?_)
 obtain⟨rfl,L,I,U,a4⟩:=i
 have K:=b7.right C s U a4 e f (by omega)
 have J:=b6.trans (U.mono (by omega) f (by omega))
 refine .zn<|.region<|.mo rfl<|.ag rfl<|.nil<|bz ?_
 ·first
   |exact bf (g+1,b,m,_,_,L,F) ⟨⟨by simp only;omega,by simp only;omega,by simp only;omega,r⟩,I,J,K⟩ (by simp only;omega) ((((((kE.d rfl).d rfl).d rfl).d rfl).d rfl).d rfl) rH
   |exact bf (a,g,m,_,_,L,F) ⟨⟨e,a7,by simp only;omega,r⟩,I,J,K⟩ (by simp only;omega) ((((((kE.d rfl).d rfl).d rfl).d rfl).d rfl).d rfl) rH
   |exact bf (g,b,m,_,_,D,O) ⟨⟨by simp only;omega,a6,f,r⟩,Q,a3.trans (k.mono e f (by omega)),(a5.rp k e f).eqs C s⟩ (by simp only;omega) ((((((kE.d rfl).d rfl).d rfl).d rfl).d rfl).d rfl) rH
 refine .gF j<|.gF j<|.gF j<|.gF j<|.gF j<|.gF j<|.gF j<|.gF j<|.gF j<|.nil<|.gF j<|.gF j<|.q (.aS j) ?_
 refine .zn<|.bZ<|.kn<|.sr<|.mo rfl<|.mo rfl<|.mo rfl<|.mo rfl ?_
 refine .bW (o7 v a9 T6 a b q p _ b3 (by omega) ⟨c2,c3⟩ hp (by omega) (by omega) N a8 C) (λu O i=>?_)
 obtain⟨D,g,e5,rfl,Q,k,s⟩:=i
 have a7:=s.lo
 have a6:=s.hi
 have d9:=k.length
 have b9:∀x∈D,ok x:=λx V=>a8 x (k.perm.mem_iff.1 V)
 have b7:=a5.rp k e f
 have b6:RP G E xs D:=a3.trans (k.mono e f (by omega))
 have c6:=c5.rp k
 refine .mo rfl<|.q .extract<|.q .extract<|.ag rfl<|.ag rfl<|.z<|.mo rfl<|.ag rfl<|.z<|.mo rfl<|.mo rfl ?_
 refine .ia (g-a) .sub ?_
 refine .mo rfl<|.mo rfl ?_
 refine .ia (b-g) .sub ?_
 refine .ag rfl<|.ag rfl<|.z<|.mo rfl ?_
 refine .q (.i64 (((b-a)/8:Nat):Int) .quo ⟨by rw[adN (by omega)];omega,by omega,by omega⟩) ?_
 refine .ag rfl<|.z<|.mo rfl<|.mo rfl<|.q .lss<|.zn ?_
 refine .cond rfl (λh8=>?_) λh8=>?_
 refine .sr<|.mo rfl<|.mo rfl<|.q .geq<|.ag rfl<|.z<|.mo rfl<|.mo rfl<|.mo rfl<|.mo rfl ?_
 refine .bW (ih v D O a g m _ Q (by omega) (by omega) (by omega) r N b9 (c6.less (by omega)) (by omega)) (λu F i=>?_)
 obtain⟨rfl,L,I,U,a4⟩:=i
 have K:=b7.left C s U a4 e f (by omega)
 have J:=b6.trans (U.mono e (by omega) (by omega))
 refine .zn<|.region<|.mo rfl ?_
 refine .ia (g+1) .add ?_
 refine .ag rfl<|.nil<|bz ?_
 ·first
   |exact bf (g+1,b,m,_,_,L,F) ⟨⟨by simp only;omega,by simp only;omega,by simp only;omega,r⟩,I,J,K⟩ (by simp only;omega) ((((((kE.d rfl).d rfl).d rfl).d rfl).d rfl).d rfl) rH
   |exact bf (a,g,m,_,_,L,F) ⟨⟨e,a7,by simp only;omega,r⟩,I,J,K⟩ (by simp only;omega) ((((((kE.d rfl).d rfl).d rfl).d rfl).d rfl).d rfl) rH
   |exact bf (g,b,m,_,_,D,O) ⟨⟨by simp only;omega,a6,f,r⟩,Q,a3.trans (k.mono e f (by omega)),(a5.rp k e f).eqs C s⟩ (by simp only;omega) ((((((kE.d rfl).d rfl).d rfl).d rfl).d rfl).d rfl) rH
 refine .sr<|.mo rfl<|.mo rfl<|.q .geq<|.ag rfl<|.z<|.mo rfl<|.mo rfl ?_
 refine .ia (g+1) .add ?_
 refine .mo rfl<|.mo rfl ?_
 refine .bW (ih v D O (g+1) b m _ Q (by omega) (by omega) (by omega) r N b9 s.lb (by omega)) (λu F i=>?_)
 obtain⟨rfl,L,I,U,a4⟩:=i
 have K:=b7.right C s U a4 e f (by omega)
 have J:=b6.trans (U.mono (by omega) f (by omega))
 refine .zn<|.region<|.mo rfl<|.ag rfl<|.nil<|bz ?_
 ·first
   |exact bf (g+1,b,m,_,_,L,F) ⟨⟨by simp only;omega,by simp only;omega,by simp only;omega,r⟩,I,J,K⟩ (by simp only;omega) ((((((kE.d rfl).d rfl).d rfl).d rfl).d rfl).d rfl) rH
   |exact bf (a,g,m,_,_,L,F) ⟨⟨e,a7,by simp only;omega,r⟩,I,J,K⟩ (by simp only;omega) ((((((kE.d rfl).d rfl).d rfl).d rfl).d rfl).d rfl) rH
   |exact bf (g,b,m,_,_,D,O) ⟨⟨by simp only;omega,a6,f,r⟩,Q,a3.trans (k.mono e f (by omega)),(a5.rp k e f).eqs C s⟩ (by simp only;omega) ((((((kE.d rfl).d rfl).d rfl).d rfl).d rfl).d rfl) rH
theorem sA(p:SO (aA c))(n:Nat):ot c ok n:=by
 induction n with
 |zero=>exact λv e T a b d R _ _ _ _ _ _ _ _ q=>by omega
 |succ n ih=>exact λv e T a b d R f g h i j k l m o=>sB n ih p v e T a b d R f g h i j k l m o
end
end SST
namespace SST
section
variable{c:ByteArray->ByteArray->Int}{ok:ByteArray->Prop}
theorem jK(v:Value)(xs:List ByteArray)(T:ax)(R:av)(h:OS 9 1 bB v xs T)(j:xs.length<=1000000000)(i:iR c ok R)(k:∀x∈xs,ok x)(l:SO (aA c)):
  Spec prog 145 [v] R [T] λu H'=>∃T',H'=[T']/\u=.tuple #[]/\∃ys,OS 9 1 bB v ys T'/\ys.Perm xs/\SR (aA c) ys 0 ys.length:=by
 have p:=h.aw
 have g:Lib.bitLen xs.length<=1000000000:=by
  have o:=bitLen_le 64 xs.length
  have n:Lib.bitLen xs.length=Lib.bitLenAux 64 xs.length:=rfl
  omega
 refine Spec.body func145 rfl results145 ntmps145 rfl ?_
 refine .sr<|.mo rfl<|.q (.ec h) ?_
 refine .az rfl<|.region<|.mo rfl<|.mo rfl<|.mo rfl ?_
 refine .q (aP.cast (v':=.int .u64 ((xs.length:Nat):Int)) .hE (by rw[nn (by omega) (by omega)])) ?_
 refine .aM (sb xs.length (by omega) _) (λu a=>?_)
 subst a
 refine .bW (sA l (xs.length+1) v xs T 0 xs.length (Lib.bitLen xs.length) _ h (Nat.zero_le _) (adJ _) j g i k (λd=>absurd d (by omega)) (by omega)) (λu m a=>?_)
 obtain⟨rfl,ys,e,b,f⟩:=a
 refine .nil<|eh _ .none rH ?_
 ·exact⟨_,rfl,rfl,ys,e,b.perm,b.length▸f⟩
end
end SST
namespace SGC
def kd:KD where
 t:=λx=>cond (Nat.beq x 51) 111<|cond (Nat.beq x 60) 123<|cond (Nat.beq x 105) 174<|x
 p:=λx=>cond (Nat.beq x 46) 125<|cond (Nat.beq x 176) 230<|cond (Nat.beq x 177) 231<|cond (Nat.beq x 175) 229<|cond (Nat.beq x 174) 228<|cond (Nat.beq x 218) 273<|cond (Nat.beq x 219) 274<|cond (Nat.beq x 268) 292<|cond (Nat.beq x 179) 233<|cond (Nat.beq x 181) 235<|cond (Nat.beq x 180) 234<|cond (Nat.beq x 118) 187<|cond (Nat.beq x 178) 232<|cond (Nat.beq x 215) 272<|x
 sz:=9
 u1:=(inferInstance:bP prog 111 (.slice 123))
 u2:=(inferInstance:Sz prog 123 9)
 u3:=(inferInstance:dj prog 123 true)
 t0:=rfl
 t3:=rfl
 t4:=rfl
 t27:=rfl
 t143:=rfl
 t167:=rfl
 t210:=rfl
 t211:=rfl
 t247:=rfl
 t251:=rfl
 t290:=rfl
 iM:=rfl
 iO:=rfl
 iP:=rfl
 oD:=(inferInstance:ay prog 230)
 oE:=(inferInstance:ay prog 231)
 oC:=(inferInstance:ay prog 229)
 oB:=(inferInstance:ay prog 228)
 oK:=(inferInstance:ay prog 273)
 oL:=(inferInstance:ay prog 274)
 oM:=(inferInstance:ay prog 292)
 oG:=(inferInstance:ay prog 233)
 oI:=(inferInstance:ay prog 235)
 oH:=(inferInstance:ay prog 234)
 oA:=(inferInstance:ay prog 187)
 oF:=(inferInstance:ay prog 232)
 oJ:=(inferInstance:ay prog 272)
 pW:=⟨f125,func125,by kernel_rfl,by kernel_rfl,by kernel_rfl⟩
 pL:=⟨f230,func230,by kernel_rfl,by kernel_rfl,by kernel_rfl⟩
 pM:=⟨f231,func231,by kernel_rfl,by kernel_rfl,by kernel_rfl⟩
 pK:=⟨f229,func229,by kernel_rfl,by kernel_rfl,by kernel_rfl⟩
 pJ:=⟨f228,func228,by kernel_rfl,by kernel_rfl,by kernel_rfl⟩
 pS:=⟨f273,func273,by kernel_rfl,by kernel_rfl,by kernel_rfl⟩
 pU:=⟨f274,func274,by kernel_rfl,by kernel_rfl,by kernel_rfl⟩
 pV:=⟨f292,func292,by kernel_rfl,by kernel_rfl,by kernel_rfl⟩
 pO:=⟨f233,func233,by kernel_rfl,by kernel_rfl,by kernel_rfl⟩
 pQ:=⟨f235,func235,by kernel_rfl,by kernel_rfl,by kernel_rfl⟩
 pP:=⟨f234,func234,by kernel_rfl,by kernel_rfl,by kernel_rfl⟩
 pI:=⟨f187,func187,by kernel_rfl,by kernel_rfl,by kernel_rfl⟩
 pN:=⟨f232,func232,by kernel_rfl,by kernel_rfl,by kernel_rfl⟩
 pR:=⟨f272,func272,by kernel_rfl,by kernel_rfl,by kernel_rfl⟩
instance:cj bO kd.sz:=⟨λ_=>rfl⟩
section
variable{c:GP->GP->Int}{ok:GP->Prop}{f:FuncId}{caps:List Value} [e:ay prog f]
theorem jK(v:Value)(xs:List GP)(T:ax)(R:av)(h:OS 123 9 bO v xs T)(b:xs.length<=1000000000)(a:gi prog f caps R (λp:GP=>Value.agg (bO p).toArray) c ok)(d:∀x∈xs,ok x)(e:SO (aA c)):
  Spec prog 125 [v,.func (.func f) #[] caps.toArray] R [T] λu H'=>∃T',H'=[T']/\u=.tuple #[]/\∃ys,OS 123 9 bO v ys T'/\ys.Perm xs/\SR (aA c) ys 0 ys.length:=by
 exact SG.jK (κ:=kd) (enc:=bO) v xs T R h b a d e
end
end SGC
namespace SGN
def kd:KD where
 t:=λx=>cond (Nat.beq x 51) 109<|cond (Nat.beq x 60) 118<|cond (Nat.beq x 105) 171<|x
 p:=λx=>cond (Nat.beq x 46) 122<|cond (Nat.beq x 176) 222<|cond (Nat.beq x 177) 223<|cond (Nat.beq x 175) 221<|cond (Nat.beq x 174) 220<|cond (Nat.beq x 218) 270<|cond (Nat.beq x 219) 271<|cond (Nat.beq x 268) 291<|cond (Nat.beq x 179) 225<|cond (Nat.beq x 181) 227<|cond (Nat.beq x 180) 226<|cond (Nat.beq x 118) 185<|cond (Nat.beq x 178) 224<|cond (Nat.beq x 215) 269<|x
 sz:=3
 u1:=(inferInstance:bP prog 109 (.slice 118))
 u2:=(inferInstance:Sz prog 118 3)
 u3:=(inferInstance:dj prog 118 true)
 t0:=rfl
 t3:=rfl
 t4:=rfl
 t27:=rfl
 t143:=rfl
 t167:=rfl
 t210:=rfl
 t211:=rfl
 t247:=rfl
 t251:=rfl
 t290:=rfl
 iM:=rfl
 iO:=rfl
 iP:=rfl
 oD:=(inferInstance:ay prog 222)
 oE:=(inferInstance:ay prog 223)
 oC:=(inferInstance:ay prog 221)
 oB:=(inferInstance:ay prog 220)
 oK:=(inferInstance:ay prog 270)
 oL:=(inferInstance:ay prog 271)
 oM:=(inferInstance:ay prog 291)
 oG:=(inferInstance:ay prog 225)
 oI:=(inferInstance:ay prog 227)
 oH:=(inferInstance:ay prog 226)
 oA:=(inferInstance:ay prog 185)
 oF:=(inferInstance:ay prog 224)
 oJ:=(inferInstance:ay prog 269)
 pW:=⟨f122,func122,by kernel_rfl,by kernel_rfl,by kernel_rfl⟩
 pL:=⟨f222,func222,by kernel_rfl,by kernel_rfl,by kernel_rfl⟩
 pM:=⟨f223,func223,by kernel_rfl,by kernel_rfl,by kernel_rfl⟩
 pK:=⟨f221,func221,by kernel_rfl,by kernel_rfl,by kernel_rfl⟩
 pJ:=⟨f220,func220,by kernel_rfl,by kernel_rfl,by kernel_rfl⟩
 pS:=⟨f270,func270,by kernel_rfl,by kernel_rfl,by kernel_rfl⟩
 pU:=⟨f271,func271,by kernel_rfl,by kernel_rfl,by kernel_rfl⟩
 pV:=⟨f291,func291,by kernel_rfl,by kernel_rfl,by kernel_rfl⟩
 pO:=⟨f225,func225,by kernel_rfl,by kernel_rfl,by kernel_rfl⟩
 pQ:=⟨f227,func227,by kernel_rfl,by kernel_rfl,by kernel_rfl⟩
 pP:=⟨f226,func226,by kernel_rfl,by kernel_rfl,by kernel_rfl⟩
 pI:=⟨f185,func185,by kernel_rfl,by kernel_rfl,by kernel_rfl⟩
 pN:=⟨f224,func224,by kernel_rfl,by kernel_rfl,by kernel_rfl⟩
 pR:=⟨f269,func269,by kernel_rfl,by kernel_rfl,by kernel_rfl⟩
instance:cj ee kd.sz:=⟨λ_=>rfl⟩
section
variable{c:NP->NP->Int}{ok:NP->Prop}{f:FuncId}{caps:List Value} [e:ay prog f]
theorem jK(v:Value)(xs:List NP)(T:ax)(R:av)(h:OS 118 3 ee v xs T)(b:xs.length<=1000000000)(a:gi prog f caps R (λp:NP=>Value.agg (ee p).toArray) c ok)(d:∀x∈xs,ok x)(e:SO (aA c)):
  Spec prog 122 [v,.func (.func f) #[] caps.toArray] R [T] λu H'=>∃T',H'=[T']/\u=.tuple #[]/\∃ys,OS 118 3 ee v ys T'/\ys.Perm xs/\SR (aA c) ys 0 ys.length:=by
 exact SG.jK (κ:=kd) (enc:=ee) v xs T R h b a d e
end
end SGN
namespace STK
def kd:KD where
 t:=λx=>cond (Nat.beq x 51) 51<|cond (Nat.beq x 60) 60<|cond (Nat.beq x 105) 105<|x
 p:=λx=>cond (Nat.beq x 46) 46<|cond (Nat.beq x 176) 176<|cond (Nat.beq x 177) 177<|cond (Nat.beq x 175) 175<|cond (Nat.beq x 174) 174<|cond (Nat.beq x 218) 218<|cond (Nat.beq x 219) 219<|cond (Nat.beq x 268) 268<|cond (Nat.beq x 179) 179<|cond (Nat.beq x 181) 181<|cond (Nat.beq x 180) 180<|cond (Nat.beq x 118) 118<|cond (Nat.beq x 178) 178<|cond (Nat.beq x 215) 215<|x
 sz:=9
 u1:=(inferInstance:bP prog 51 (.slice 60))
 u2:=(inferInstance:Sz prog 60 9)
 u3:=(inferInstance:dj prog 60 true)
 t0:=rfl
 t3:=rfl
 t4:=rfl
 t27:=rfl
 t143:=rfl
 t167:=rfl
 t210:=rfl
 t211:=rfl
 t247:=rfl
 t251:=rfl
 t290:=rfl
 iM:=rfl
 iO:=rfl
 iP:=rfl
 oD:=(inferInstance:ay prog 176)
 oE:=(inferInstance:ay prog 177)
 oC:=(inferInstance:ay prog 175)
 oB:=(inferInstance:ay prog 174)
 oK:=(inferInstance:ay prog 218)
 oL:=(inferInstance:ay prog 219)
 oM:=(inferInstance:ay prog 268)
 oG:=(inferInstance:ay prog 179)
 oI:=(inferInstance:ay prog 181)
 oH:=(inferInstance:ay prog 180)
 oA:=(inferInstance:ay prog 118)
 oF:=(inferInstance:ay prog 178)
 oJ:=(inferInstance:ay prog 215)
 pW:=⟨f46,func46,by kernel_rfl,by kernel_rfl,by kernel_rfl⟩
 pL:=⟨f176,func176,by kernel_rfl,by kernel_rfl,by kernel_rfl⟩
 pM:=⟨f177,func177,by kernel_rfl,by kernel_rfl,by kernel_rfl⟩
 pK:=⟨f175,func175,by kernel_rfl,by kernel_rfl,by kernel_rfl⟩
 pJ:=⟨f174,func174,by kernel_rfl,by kernel_rfl,by kernel_rfl⟩
 pS:=⟨f218,func218,by kernel_rfl,by kernel_rfl,by kernel_rfl⟩
 pU:=⟨f219,func219,by kernel_rfl,by kernel_rfl,by kernel_rfl⟩
 pV:=⟨f268,func268,by kernel_rfl,by kernel_rfl,by kernel_rfl⟩
 pO:=⟨f179,func179,by kernel_rfl,by kernel_rfl,by kernel_rfl⟩
 pQ:=⟨f181,func181,by kernel_rfl,by kernel_rfl,by kernel_rfl⟩
 pP:=⟨f180,func180,by kernel_rfl,by kernel_rfl,by kernel_rfl⟩
 pI:=⟨f118,func118,by kernel_rfl,by kernel_rfl,by kernel_rfl⟩
 pN:=⟨f178,func178,by kernel_rfl,by kernel_rfl,by kernel_rfl⟩
 pR:=⟨f215,func215,by kernel_rfl,by kernel_rfl,by kernel_rfl⟩
instance:cj bE kd.sz:=⟨λ_=>rfl⟩
section
variable{c:TP->TP->Int}{ok:TP->Prop}{f:FuncId}{caps:List Value} [e:ay prog f]
theorem jK(v:Value)(xs:List TP)(T:ax)(R:av)(h:OS 60 9 bE v xs T)(b:xs.length<=1000000000)(a:gi prog f caps R (λp:TP=>Value.agg (bE p).toArray) c ok)(d:∀x∈xs,ok x)(e:SO (aA c)):
  Spec prog 46 [v,.func (.func f) #[] caps.toArray] R [T] λu H'=>∃T',H'=[T']/\u=.tuple #[]/\∃ys,OS 60 9 bE v ys T'/\ys.Perm xs/\SR (aA c) ys 0 ys.length:=by
 exact SG.jK (κ:=kd) (enc:=bE) v xs T R h b a d e
end
end STK
def nC(M:List (ByteArray×TP))(k:ByteArray):Tok:=((aU k M).map (·.2)).getD Tok.zero
theorem Kr{M:List (ByteArray×TP)}(a:(M.map (·.1)).Nodup):(M.map (·.1)).map (nC M)=M.map (·.2.2):=by
 rw[adP]
 refine List.map_congr_left λp b=>?_
 have:aU p.1 M=some p.2:=gC a (by exact b)
 simp[nC,this]
abbrev db(ps:List TP):List Tok:=ps.map (·.2)
def kv(L:List Tok):List (ByteArray×Tok):=L.map λt=>(t.text,t)
theorem KZ{A:List (ByteArray×Tok)}(h:∀p∈A,p.1=p.2.text):kv (A.map (·.2))=A:=by
 unfold kv
 rw[adP]
 conv=>rhs;rw[<-List.map_id A]
 exact List.map_congr_left λp a=>by rw[Function.comp, <-h p a];rfl
theorem og(g:Nat)(A:List (ByteArray×Tok))(last:Int)(T:ax)(h:VI g A last T)(hl:A.length<=1000000)(R:av)(C:∀p∈T,R p.1 p.2):
  Spec prog 10 [pT g] R [] λv H'=>∃T',H'=[T']/\∃ps To Ti,T'=To++Ti/\OS 60 9 bE v ps To/\(∀p∈ps,dS (eg Ti) p)/\(kv (db ps)).Perm A/\ps.Pairwise (λp q=>cp q.2.text p.2.text=false):=by
 have a7:=h.keys
 obtain⟨I,_,rfl,vm,M,q,Tm,Tq,rfl,j,hI,hA,hQ⟩:=h
 obtain⟨f,rfl⟩:∃b,vm=.map (some b):=by obtain⟨b,es,clock,h1,_⟩:=j;exact⟨b,h1⟩
 have pq:PC R (pT g) [.map (some f),pT q,.int .i64 last]:=PC.of (E:=102) (fr:=(0,0)) (C (g,.cells [.map (some f),pT q,.int .i64 last].toArray 102 (0,0)) (by simp))
 have rm:RM R (λs:ByteArray=>.string s) (λp:TP=>.agg (bE p).toArray) (.map (some f)) M:=j.rm λp hp=>C p (by simp[hp])
 have hT:∀b o,eg I b o->R b o:=λb o d=>C (b,o) (by have:(b,o)∈I:=d.1;simp[this])
 have L:(M.map (·.2.2)).Perm (A.map (·.2)):=by
  have:=hA.map (·.2)
  unfold dP at this
  rw[adP]at this
  exact this
 have b2:M.length=A.length:=by simpa using L.length_eq
 refine Spec.dg (H':=[[],[]]) (by simp) ?_
 refine Spec.body func10 rfl results10 ntmps10 rfl ?_
 refine .sr<|.ag rfl<|.zs<|.sr<|.mo rfl ?_
 refine .aM (lV g f _ _ _) (λv D=>?_)
 subst D
 refine .q .not<|.zn<|.bZ<|.kn<|.sr<|.ag rfl<|.zs<|.sr<|.mo rfl<|.nc rfl<|.fa rfl<|.lo rfl ?_
 refine .range rm (λ_ _=>.inl) rfl (λit a0 a6=>?_)
 refine .zn<|.block ?_
 refine .loop (X:=List TP×List ByteArray×Value×ax×ax×ax) (λy=>(∀p∈y.1,dS (eg y.2.2.2.2.1) p)/\y.2.1.Nodup/\(db y.1++y.2.1.map (nC M)).Perm (A.map (·.2))/\OS 60 9 bE y.2.2.1 y.1 y.2.2.2.1/\It R (λs:ByteArray=>.string s) (λp:TP=>.agg (bE p).toArray) (.map (some f)) M it y.2.1 y.2.2.2.2.2) (λy=>[(0,pT g),(3,y.2.2.1),(13,it)]) (λy=>[y.2.2.2.2.2,y.2.2.2.1,y.2.2.2.2.1]) (λy=>y.2.1.length) ([],M.map (·.1),sZ,[],[],a0) ⟨by simp,j.nd,by rw[Kr j.nd];exact L,OS.nil,a6⟩ kE.c.c.c rH ?_
 rintro⟨ps,b0,vo,To,n,Ti⟩ ⟨m,B,i,l,U⟩
 simp only at m B i l U⊢
 have i2:=l.aw
 have Y:=i.length_eq
 simp only[List.length_append,List.length_map]at Y
 refine .sr ?_
 refine .nf U (λ_ _=>.inl) rfl (λb rest a1 hf ht=>?_)
 refine .q .extract<|.zs ?_
 refine .cond rfl (λr=>?_) λr=>?_
 obtain⟨k,⟨F,e⟩,hk,W,V⟩:=ht r
 obtain⟨_,Q,a3⟩:=hI (k,(F,e)) (fH W)
 have i3:bJ (bE (F,e)):=⟨Q.bG⟩
 have a5:nC M k=e:=by simp[nC,W]
 have S:=filter_one B hk
 refine .kn<|.block<|.sr ?_
 refine .q (.entry V (λ_ _=>.inl) rfl) ?_
 refine .q .extract ?_
 refine .cN (λb5=>?_)
 refine .ct rfl rfl<|.zn<|.region<|.mo rfl<|.q (.bK rfl) ?_
 refine .da (pB F e _ (Q.mono λb o d=>.inl (hT b o d)) a3) (λv T1 D=>?_)
 obtain⟨G,rfl,w⟩:=D
 have i4:bJ (bE (G,e)):=⟨w.bG⟩
 refine .fP (λb1=>?_)
 refine .append l (RS.lits (xs:=[((G,e):TP)]) rfl (by simp[bE]) (by have:=w.bG;simpa using this)) (by simp;omega) (λv5 T5 a2=>?_)
 refine .ag rfl<|.nil<|bz ?_
 ·refine bf (ps++[(G,e)],b0.filter λk'=>decide (k'≠k),v5,T5,T1++n,a1) ⟨λp hp=>?_,B.sublist List.filter_sublist,?_,a2,V.it⟩ ?_ kE.c.c.c ((aI [3,3,1,2]).trans (aT.bu (by simp[take,aZ])))
  ·simp only
   rcases List.mem_append.1 hp with hp|hp
   ·exact(m p hp).mono λb o d=>oa d
   ·simp only[List.mem_singleton]at hp;subst hp
    exact w.mono λb o d=>mO d
  ·simp only
   refine List.Perm.trans ?_ i
   rw[db,List.map_append,List.append_assoc]
   refine List.Perm.append_left _ ?_
   have:=(S.map (nC M)).symm
   rw[adS,a5]at this
   exact this
  ·have:=S.length_eq
   simp only[List.length_cons]at this
   simp only;omega
 have a9:=hf r
 subst a9
 simp only[List.map_nil,List.append_nil]at i
 have a4:gi prog 47 [] R (λp:TP=>Value.agg (bE p).toArray) ed rj:=λx y hx hy R2 _=>NY x y R2 hx hy
 refine .exit<|bD<|bH<|bF<|aD<|.sr<|.mo rfl ?_
 refine .bW (STK.jK (caps:=[]) vo ps To _ l (by simp at Y;omega) a4 (λp hp=>(m p hp).bG) yn) (λu H hu=>?_)
 obtain⟨rfl,ys,N,Z,a8⟩:=hu
 have i5:=N.aw
 refine .z<|.mo rfl<|.az rfl ?_
 refine .ret (aR _ (.one (.tmp rfl)) ((aI [1,1]).trans (aT.bu (H':=[H++n]) (by simp[take,aZ]))) ?_)
 ·refine⟨_,rfl,ys,H,n,rfl,N,λp hp=>m p (Z.mem_iff.1 hp),?_,a8.ordered.imp λ{a b} O=>by rw[lq]at O;exact O⟩
  have J:=((Z.map (·.2)).trans i).map λt:Tok=>(t.text,t)
  have K:=KZ a7
  unfold kv at K
  rw[K]at J
  exact J
theorem VI.ps{g:Nat}{A:List (ByteArray×Tok)}{last:Int}{T:ax}(h:VI g A last T):∃bm q,PS T (pT g) [.map (some bm),pT q,.int .i64 last]:=by
 obtain⟨d,_,rfl,c,M,q,e,f,rfl,a,j,i,k⟩:=h
 obtain⟨bm,rfl⟩:∃b,c=.map (some b):=by obtain⟨b,es,clock,h1,_⟩:=a;exact⟨b,h1⟩
 exact⟨bm,q,PS.of (E:=102) (fr:=(0,0)) (by simp)⟩
theorem yv{A:List (ByteArray×Tok)}{last:Int}{t:Tok}:(fu A last t).2.length<=A.length+1:=by
 by_cases a:(fu A last t).1=0
 ·rw[(Of a).1];exact oX
 ·rw[Od a];omega
structure eQ(A:List (ByteArray×Tok))(ps:List TP):Prop where
 pm:(kv (db ps)).Perm A
 fU:(db ps).Pairwise λc d=>cp c.text d.text=true
theorem vT{L:List Tok}(h:L.Pairwise λc d=>cp c.text d.text=true):((kv L).map (·.1)).Nodup:=by
 unfold kv;rw[adP];exact rl (λt:Tok=>t.text) h
theorem eQ.get{A:List (ByteArray×Tok)}{ps:List TP}(h:eQ A ps)(k:ByteArray):aU k (kv (db ps))=aU k A:=nP h.pm (vT h.fU)
theorem eQ.len{A:List (ByteArray×Tok)}{ps:List TP}(h:eQ A ps):A.length=ps.length:=by have:=h.pm.length_eq;simpa[kv]using this.symm
theorem KY{L:List Tok}{q:Tok->Bool}:(kv L).filter (λx=>q x.2)=kv (L.filter q):=by unfold kv;rw[List.filter_map];rfl
theorem yt{ps:List TP}{q:Tok->Bool}:db (ps.filter λp=>q p.2)=(db ps).filter q:=by unfold db;rw[List.filter_map];rfl
theorem eQ.filter{A:List (ByteArray×Tok)}{ps:List TP}(h:eQ A ps)(q:Tok->Bool):eQ (A.filter λx=>q x.2) (ps.filter λp=>q p.2):=by
 refine⟨?_,?_⟩
 ·rw[yt, <-KY];exact h.pm.filter _
 ·rw[yt];exact h.fU.filter _
theorem eQ.add{A:List (ByteArray×Tok)}{ps:List TP}(h:eQ A ps){w:Value}{t:Tok}(f:aU t.text A=none):eQ (cT t.text t A) (dh (aA ed) (w,t) ps):=by
 refine⟨?_,?_⟩
 ·have d:(dh (aA ed) ((w,t):TP) ps).Perm ((w,t)::ps):=eT
  have e:(kv (db (dh (aA ed) ((w,t):TP) ps))).Perm ((t.text,t)::kv (db ps)):=(d.map (λp:TP=>p.2)).map λu:Tok=>(u.text,u)
  refine e.trans ?_
  unfold cT
  rw[m8 (iA.1 f)]
  exact(h.pm.cons _).trans (List.perm_append_singleton _ _).symm
 ·have g:(dh (aA ed) ((w,t):TP) ps).Pairwise λp q=>aA ed p q=true:=by
   refine nE yn.tr ?_ λq j=>?_
   ·have:=h.fU
    rw[db,adO]at this
    exact this.imp λ{a b} c=>by rw[lq];exact c
   ·rw[lq,lq]
    simp only
    cases d:cp t.text q.2.text with
    |true=>exact .inl rfl
    |false=>
     right
     cases e:cp q.2.text t.text with
     |true=>rfl
     |false=>
      have i:=lx d e
      have:(t.text,q.2)∈A:=h.pm.mem_iff.1 (by rw[i];exact adM.2 ⟨q.2,adM.2 ⟨q,j,rfl⟩,rfl⟩)
      exact absurd (adM.2 ⟨_,this,rfl⟩) (iA.1 f)
  rw[db,adO]
  exact g.imp λ{a b} c=>by rw[lq]at c;exact c
theorem x9{α:Type}{ps:List α}{i:Nat}{z:α}(b:ps[i]? =some z):∃X Y,ps=X++z::Y/\∀u,ps.set i u=X++u::Y:=by
 have c:=(adI.1 b).1
 refine⟨ps.take i,ps.drop (i+1),?_,λu=>by rw[List.set_eq_take_append_cons_drop,if_pos c]⟩
 have a:=adT i ps
 rw[adU c,(adI.1 b).2]at a
 exact a.symm
theorem eQ.set{A:List (ByteArray×Tok)}{ps:List TP}(h:eQ A ps){i:Nat}{w w':Value}{t u:Tok}(g:ps[i]? =some (w,t))(c:u.text=t.text):eQ (cT t.text u A) (ps.set i (w',u)):=by
 obtain⟨X,Y,e,f⟩:=x9 g
 rw[f]
 clear f g
 subst e
 refine⟨?_,?_⟩
 ·have j:=vT h.fU
  refine List.Perm.trans ?_ (mL h.pm)
  have n:kv (db (X++(w,t)::Y))=kv (db X)++(t.text,t)::kv (db Y):=by simp[kv]
  have o:kv (db (X++(w',u)::Y))=kv (db X)++(t.text,u)::kv (db Y):=by simp[kv,c]
  rw[n]at j⊢
  rw[o]
  exact r6 j
 ·have b:=h.fU
  rw[db,adO]at b⊢
  rw[List.pairwise_append,List.pairwise_cons]at b⊢
  obtain⟨k,⟨l,m⟩,d⟩:=b
  refine⟨k,⟨λp a=>by simp only[c];exact l p a,m⟩,λp a q hq=>?_⟩
  rcases adQ.1 hq with rfl|hq
  ·simp only[c];exact d p a (w,t) (by simp)
  ·exact d p a q (List.mem_cons_of_mem _ hq)
def mB(k:ByteArray)(ps:List TP)(z:Int):Prop:=(z= -1/\aU k (kv (db ps))=none)\/∃(i:Nat) (w:Value) (t:Tok),z=(i:Int)/\ps[i]? =some (w,t)/\t.text=k/\aU k (kv (db ps))=some t
theorem mB.neg{k:ByteArray}{ps:List TP}{z:Int}(h:mB k ps z)(b:z<0):aU k (kv (db ps))=none:=by
 rcases h with⟨_,a⟩|⟨i,w,t,a,_⟩
 ·exact a
 ·omega
theorem mB.pos{k:ByteArray}{ps:List TP}{z:Int}(h:mB k ps z)(a:¬z<0):∃(i:Nat) (w:Value) (t:Tok),z=(i:Int)/\ps[i]? =some (w,t)/\t.text=k/\aU k (kv (db ps))=some t:=by
 rcases h with⟨h1,_⟩|h1
 ·omega
 ·exact h1
theorem rU{ps:List TP}{i:Nat}{z:TP}(q:Tok->Bool)(a:ps[i]? =some z):((ps.take (i+1)).filter λp=>q p.2)=((ps.take i).filter λp=>q p.2)++if q z.2 then [z]else []:=by
 rw[List.take_add_one,a,adX,Option.toList_some,adY,List.filter_nil]
set_option linter.unusedSimpArgs false
abbrev lT(p:TP)(ps:List TP):List TP:=dh (aA ed) p ps
theorem pD{A:List (ByteArray×Tok)}{last:Int}{t:Tok}(h:hU t last=false):fu A last t=(2,A):=by unfold fu;rw[if_pos h]
theorem pE{A:List (ByteArray×Tok)}{last:Int}{t u:Tok}(h:hU t last=true)(a:aU t.text A=some u):fu A last t=(22,A):=by unfold fu;rw[adK (by simp[h]),a];rfl
theorem Oe{A:List (ByteArray×Tok)}{last:Int}{t:Tok}(h:hU t last=true)(a:aU t.text A=none)(b:¬4096<=A.length):fu A last t=(0,cT t.text t.fresh A):=by
 unfold fu;rw[adK (by simp[h]),a];simp only[adZ,adV,if_false];rw[adK b]
theorem mB.at{A:List (ByteArray×Tok)}{ps:List TP}(f:eQ A ps){k:ByteArray}{z:Int}(h:mB k ps z)(b:¬z<0):∃(i:Nat) (w:Value) (t:Tok),z=(i:Int)/\ps[i]? =some (w,t)/\t.text=k/\aU k A=some t:=by
 obtain⟨i,w,t,c,d,e,a⟩:=h.pos b
 rw[f.get]at a
 exact⟨i,w,t,c,d,e,a⟩
theorem Ap{ps:List TP}{k:ByteArray}{i:Nat}{w:Value}{t:Tok}(n:(db ps).Pairwise λc d=>cp c.text d.text=true)(j:ps[i]? =some (w,t))(b:t.text=k):(ps.filter λp=> !decide (p.2.text=k))=ps.take i++ps.drop (i+1):=by
 have f:=rl (λt:Tok=>t.text) n
 have o:=(adI.1 j).1
 have e:ps=ps.take i++(w,t)::ps.drop (i+1):=by
  have h:=adT i ps
  rw[adU o,(adI.1 j).2]at h
  exact h.symm
 generalize q:ps.take i=X at e⊢
 generalize r:ps.drop (i+1)=Y at e⊢
 rw[e]at f⊢
 rw[db,adP,List.map_append,adS,List.nodup_append,List.nodup_cons]at f
 obtain⟨_,⟨l,_⟩,m⟩:=f
 rw[adX,adY]
 simp only[b,decide_true,Bool.not_true,adV,if_false]
 congr 1
 ·rw[adW]
  intro p g
  have:p.2.text≠k:=λa=>m p.2.text (adM.2 ⟨p,g,rfl⟩) t.text (List.mem_cons_self) (a.trans b.symm)
  simp[this]
 ·rw[adW]
  intro p g
  have:p.2.text≠k:=λa=>l (adM.2 ⟨p,g,a.trans b.symm⟩)
  simp[this]
def RL(g:Nat)(ps:List CP)(T:ax):Prop:=∃vt Tt,T=(g,.cells [vt].toArray 35 (0,0))::Tt/\OS 25 4 eb vt ps Tt/\ps.length<=64
def pZ(id:ByteArray)(L:List bA)(z:Int):Prop:=(z= -1/\cw id L=none)\/∃(i:Nat) (c:bA),z=(i:Int)/\L[i]? =some c/\c.id=id/\cw id L=some c
theorem z3{id:ByteArray}{L:List bA}{i:Nat}{c:bA}(b:L[i]? =some c)(a:cw id (L.take i)=none)(d:c.id≠id):cw id (L.take (i+1))=none:=by
 unfold cw at a⊢
 rw[List.take_add_one,b,List.find?_append,a]
 simp[d]
theorem zY{id:ByteArray}{L:List bA}{i:Nat}{c:bA}(b:L[i]? =some c)(d:cw id (L.take i)=none)(f:c.id=id):cw id L=some c:=by
 unfold cw at d⊢
 have g:=(adI.1 b).1
 have e:L=L.take i++c::L.drop (i+1):=by
  have a:=adT i L
  rw[adU g,(adI.1 b).2]at a
  exact a.symm
 rw[e,List.find?_append,d]
 simp[f]
theorem Lq{b:Bool}(h:(!b)=true):b=false:=by simpa using h
theorem ru{id:ByteArray}{l:List ByteArray}{A:List bA}(h:(!decide l.Nodup)=true):eL id l A=false:=by
 unfold eL;rw[Lq h,Bool.false_and,Bool.and_false,Bool.and_false]
theorem qJ{g:Nat}{ps:List CP}{R:av}(b:CL R ps){id:ByteArray}{z:Int}(f:pZ id (cQ ps) z)(h:¬z<0):∃(i:Nat) (y:CP),z=(i:Int)/\ps[i]? =some y/\eV R y.1 y.2/\y.2.id=id/\cw id (cQ ps)=some y.2:=by
 rcases f with⟨j,_⟩|⟨i,c,rfl,a,e,d⟩
 ·omega
 ·simp only[cQ,List.getElem?_map]at a
  cases hp:ps[i]? with
  |none=>rw[hp]at a;cases a
  |some y=>
   rw[hp]at a
   simp only[Option.map_some,Option.some.injEq]at a
   subst a
   exact⟨i,y,rfl,hp,b y (bU hp),e,d⟩
theorem qI{ps:List CP}{id:ByteArray}{z:Int}(b:pZ id (cQ ps) z)(d:z<0):cw id (cQ ps)=none:=by
 rcases b with⟨_,a⟩|⟨i,c,a,_⟩
 ·exact a
 ·omega
abbrev nq(p:CP)(ps:List CP):List CP:=dh (aA fV) p ps
theorem zx{A:List bA}{c:bA}(h:c.check≠0):(dT A c).1=c.check:=by unfold dT;rw[if_pos h]
theorem zD{A:List bA}{c d:bA}(h:c.check=0)(a:cw c.id A=some d):(dT A c).1=10:=by unfold dT;rw[adK (by simp[h]),a];rfl
theorem zy{A:List bA}{c:bA}(h:c.check=0)(a:cw c.id A=none)(b:64<=A.length):(dT A c).1=8:=by
 unfold dT;rw[adK (by simp[h]),a];simp only[adZ,adV,if_false];rw[if_pos b]
theorem zA{A:List bA}{c:bA}(h:c.check=0)(a:cw c.id A=none)(b:¬64<=A.length):dT A c=(0,A++[c]):=by
 unfold dT;rw[adK (by simp[h]),a];simp only[adZ,adV,if_false];rw[adK b]
def lO(id:ByteArray)(ps:List CP):List CP:=ps.filter λp=>decide (p.2.id≠id)
theorem ME{id:ByteArray}{ps:List CP}{i:Nat}{y:CP}(b:((cQ ps).map (·.id)).Nodup)(f:ps[i]? =some y)(a:y.2.id=id):lO id ps=ps.take i++ps.drop (i+1):=by
 have k:=(adI.1 f).1
 have e:ps=ps.take i++y::ps.drop (i+1):=by
  have d:=adT i ps
  rw[adU k,(adI.1 f).2]at d
  exact d.symm
 generalize l:ps.take i=X at e⊢
 generalize m:ps.drop (i+1)=Y at e⊢
 rw[e]at b⊢
 simp only[cQ,List.map_append,adS,List.nodup_append,List.nodup_cons]at b
 obtain⟨_,⟨g,_⟩,j⟩:=b
 unfold lO
 rw[adX,adY,adK (by simp[a])]
 congr 1
 ·refine adW.2 λp c=>?_
  have:=j p.2.id (adM.2 ⟨p.2,adM.2 ⟨p,c,rfl⟩,rfl⟩) y.2.id (by simp)
  simpa[a]using this
 ·refine adW.2 λp c=>?_
  have:p.2.id≠y.2.id:=λh=>g (by rw[<-h];exact adM.2 ⟨p.2,adM.2 ⟨p,c,rfl⟩,rfl⟩)
  simpa[a]using this
structure kg(A:List bA)(ps:List CP):Prop where
 pm:A.Perm (cQ ps)
 fU:(cQ ps).Pairwise λc d=>cp c.id d.id=true
 ok:∀c∈cQ ps,c.check=0
 eo:A.length<=64
theorem kg.nd{A:List bA}{ps:List CP}(h:kg A ps):((cQ ps).map (·.id)).Nodup:=by
 rw[List.Nodup,adO]
 exact h.fU.imp λ{a b} c d=>by rw[d,ly]at c;cases c
theorem zZ{A B:List bA}(h:A.Perm B)(d:(B.map (·.id)).Nodup)(id:ByteArray):cw id A=cw id B:=by
 have b:∀(L:List bA),(L.map (·.id)).Nodup->∀c,cw id L=some c↔c∈L/\c.id=id:=by
  intro L g c
  constructor
  ·intro a
   unfold cw at a
   exact⟨List.mem_of_find?_eq_some a,by simpa using List.find?_some a⟩
  ·rintro⟨a,i⟩
   unfold cw
   induction L with
   |nil=>cases a
   |cons x L ih=>
    rw[adS,List.nodup_cons]at g
    rw[List.find?_cons]
    by_cases e:x.id=id
    ·rw[decide_eq_true e]
     rcases adQ.1 a with rfl|hm
     ·rfl
     ·exact absurd (adM.2 ⟨c,hm,i.trans e.symm⟩) g.1
    ·rw[decide_eq_false e]
     rcases adQ.1 a with rfl|hm
     ·exact absurd i e
     ·exact ih g.2 hm
 have f:(A.map (·.id)).Nodup:=(h.map _).nodup_iff.2 d
 cases hb:cw id B with
 |some c=>exact(b A f c).2 ⟨h.mem_iff.2 ((b B d c).1 hb).1,((b B d c).1 hb).2⟩
 |none=>
  cases ha:cw id A with
  |none=>rfl
  |some c=>
   have:=(b B d c).2 ⟨h.mem_iff.1 ((b A f c).1 ha).1,((b A f c).1 ha).2⟩
   rw[hb]at this;cases this
theorem kg.get{A:List bA}{ps:List CP}(h:kg A ps)(id:ByteArray):cw id A=cw id (cQ ps):=zZ h.pm h.nd id
theorem kg.code{A:List bA}{ps:List CP}(h:kg A ps)(c:bA):(dT A c).1=(dT (cQ ps) c).1:=by
 unfold dT
 rw[h.get,h.pm.length_eq]
 split<;>(try rfl)
 split<;>(try rfl)
 split<;>rfl
theorem zF{A:List bA}{c:bA}(h:(dT A c).1=0):cw c.id A=none:=by
 unfold dT at h
 split at h
 ·rename_i b;exact absurd h b
 ·split at h
  ·simp at h
  ·rename_i a
   cases hg:cw c.id A with
   |none=>rfl
   |some _=>rw[hg]at a;simp at a
theorem uA{p:CP}{ps:List CP}:(cQ (nq p ps)).Perm (p.2::cQ ps):=eT.map _
theorem kg.add{A:List bA}{ps:List CP}(h:kg A ps){r:CR}{c:bA}{R:av}(i:CL R ps)(t:r.id=c.id):kg (dT A c).2 (if(dT (cQ ps) c).1=0 then nq (r,c) ps else ps):=by
 have n:=h.code c
 by_cases f:(dT A c).1=0
 ·obtain⟨u,v,D⟩:=zE f
  rw[u,if_pos (n▸f)]
  have z:cw c.id (cQ ps)=none:=zF (n▸f)
  refine⟨?_,?_,λd x=>?_,by simp;omega⟩
  ·exact(List.perm_append_comm.trans (h.pm.cons c)).trans uA.symm
  ·have C:(nq (r,c) ps).Pairwise λp q=>aA fV p q=true:=by
    refine nE (lt:=aA fV) uw.tr ?_ λq s=>?_
    ·have:=h.fU
     rw[cQ,adO]at this
     exact this.imp_of_mem λ{a b} l m g=>by rw[mM,(i a l).id,(i b m).id];exact g
    ·have y:q.2.id≠c.id:=λe=>by
      have:=List.find?_eq_none.1 z q.2 (adM.2 ⟨q,s,rfl⟩)
      simp[e]at this
     rw[mM,mM,(i q s).id]
     simp only[t]
     cases j:cp c.id q.2.id with
     |true=>exact .inl rfl
     |false=>
      right
      cases k:cp q.2.id c.id with
      |true=>rfl
      |false=>exact absurd (lx k j) y
   rw[cQ,adO]
   refine C.imp_of_mem λ{a b} l m g=>?_
   have o:∀p∈nq (r,c) ps,p.1.id=p.2.id:=λp B=>by
    rcases adQ.1 (eT.mem_iff.1 B)with rfl|hm
    ·exact t
    ·exact(i p hm).id
   rw[mM,o a l,o b m]at g
   exact g
  ·rcases adQ.1 (uA.mem_iff.1 x)with rfl|hm
   ·exact v
   ·exact h.ok d hm
 ·have e:(dT A c).2=A:=by
   unfold dT at f⊢
   split
   ·rfl
   ·split
    ·rfl
    ·split
     ·rfl
     ·rename_i j k w
      rw[adK j,adK k,adK w]at f
      exact absurd rfl f
  rw[e,adK (n▸f)]
  exact h
theorem rA{id:ByteArray}{ps:List CP}:cQ (lO id ps)=iV id (cQ ps):=by
 unfold lO iV cQ
 rw[List.filter_map];rfl
theorem kg.del{A:List bA}{ps:List CP}(h:kg A ps)(id:ByteArray):kg (iV id A) (lO id ps):=by
 refine⟨?_,?_,λc a=>?_,Nat.le_trans (List.length_filter_le _ _) h.eo⟩
 ·rw[rA];exact h.pm.filter _
 ·rw[rA];exact h.fU.sublist List.filter_sublist
 ·rw[rA]at a;exact h.ok c (List.mem_filter.1 a).1
theorem zd{cs f:List bA}(e:cs.Pairwise λc d=>cp c.id d.id=true)(m:f.Perm cs)(r:f.Pairwise λc d=>cp d.id c.id=false):f=cs:=by
 refine List.Perm.eq_of_pairwise (le:=λc d:bA=>cp d.id c.id=false) (λa b g q n o=>?_) r (e.imp λ{a b} p=>?_) m
 ·have h:a.id=b.id:=lx o n
  have g:=m.mem_iff.1 g
  obtain⟨i,k,rfl⟩:=List.mem_iff_getElem.1 g
  obtain⟨j,l,rfl⟩:=List.mem_iff_getElem.1 q
  rw[List.pairwise_iff_getElem]at e
  rcases Nat.lt_trichotomy i j with hij|hij|hij
  ·have:=e i j k l hij
   rw[h,ly]at this;cases this
  ·subst hij;rfl
  ·have:=e j i l k hij
   rw[h,ly]at this;cases this
 ·exact kB.kH p
theorem RL.ps{g:Nat}{ps:List CP}{T:ax}(h:RL g ps T):∃vt,One vt/\PS T (pT g) [vt]/\RS (sg T) 4 eb vt ps:=by
 obtain⟨vt,c,rfl,a,d⟩:=h
 exact⟨vt,a.aw,PS.of (E:=35) (fr:=(0,0)) (by simp),a.rs λp b=>by simp[sg,b]⟩
end Go.Proofs.YtkkmbiojicgobaaGreatDoor

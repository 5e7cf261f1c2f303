/- What the law 'ExpandRight' uses. No condition. -/
import Derived.Test.YtenilfmlfldogaaGreatDoorKExpandRightE
import Derived.Test.YtenilfmlfldogaaGreatDoorKExpandRightF
namespace Go.Proofs.YtenilfmlfldogaaGreatDoor
open Tryz
set_option linter.unusedVariables false
set_option maxRecDepth 4000
instance QO:bS prog 270 .unsafePointer:=⟨underlying270⟩
def BI(b:Nat)(xs:List UInt8)(T:aH):Prop:=∃a vs Tb,T=(b,.cells [a,vs].toArray 86 (0,0))::Tb/\(a=.pointer none\/a=pT b)/\OS 5 1 jE vs xs Tb/\(xs=[]->vs=sZ)
theorem BI.new{b:Nat}:BI b [] (bl b [.pointer none,sZ] 86):=⟨_,_,[],rfl,.inl rfl,OS.nil,λ_=>rfl⟩
theorem A7(b:Nat)(a vs:Value)(R:aw)(d:a=.pointer none\/a=pT b)(e:One vs):
  Spec prog 111 [pT b] R [bl b [a,vs] 86] λu H'=>∃T',H'=[T']/\u=.tuple #[]/\T'=(bl b [pT b,vs] 86):=by
 rcases d with rfl|rfl
 ·skip
  refine Spec.body func111 rfl results111 ntmps111 rfl ?_
  refine .sr<|.mo rfl<|.nc rfl<|.fa rfl<|.lo rfl<|.q (.po rfl rfl) ?_
  refine .zn<|.eQ<|.region<|.mo rfl<|.mo rfl ?_
  refine .q (.Al (b:=b) (E:=86) (c:=[.pointer none,vs].toArray) (fr:=(0,0)) (by simp) (by simp) (by kernel_rfl) rfl) ?_
  refine .q (.yJ func146 (by kernel_rfl) (by kernel_rfl) (by kernel_rfl) (by kernel_rfl) rfl) ?_
  refine .q (.xA (b:=b) (E:=86) (n:=2) (c:=[.pointer none,vs].toArray) (fr:=(0,0)) (by simp) rfl (by kernel_rfl) (by kernel_rfl) rfl) ?_
  refine .nc rfl<|.fa rfl<|.dH rfl rfl<|.nil<|gg _ .none (.one [0] _) ?_
  ·exact⟨_,by simp[take];rfl,rfl,rfl⟩
 ·skip
  refine Spec.body func111 rfl results111 ntmps111 rfl ?_
  refine .sr<|.mo rfl<|.nc rfl<|.fa rfl<|.lo rfl<|.q (.po rfl rfl) ?_
  refine .zn<|.bQ<|.sr<|.mo rfl<|.nc rfl<|.fa rfl<|.lo rfl<|.mo rfl ?_
  refine .q (.yF rfl rfl (by kernel_rfl)) ?_
  refine .zn<|.bQ<|.skip<|gg _ .none (.one [0] _) ?_
  ·exact⟨_,by simp[take],rfl,rfl⟩
theorem qL(b:Nat)(xs:List UInt8)(T:aH)(c:UInt8)(R:aw)(h:BI b xs T)(p:xs.length<=1000000000):
  Spec prog 114 [pT b,.int .u8 (c.toNat:Int)] R [T] λu H'=>∃T',H'=[T']/\BI b (xs++[c]) T':=by
 obtain⟨a,j,k,rfl,g,e,q⟩:=h
 have m:=e.aq
 have s:One a:=⟨by rcases g with rfl|rfl<;>rfl⟩
 refine Spec.fP (H':=[bl b [a,j] 86,k]) (by simp) ?_
 refine Spec.body func114 rfl results114 ntmps114 rfl ?_
 refine .sr<|.ag rfl<|.z<|.mo rfl ?_
 refine .cr (A7 b a j _ g m) (λu n l=>?_)
 obtain⟨rfl,rfl⟩:=l
 refine .z<|.mo rfl<|.mo rfl<|.nc rfl<|.fa rfl<|.lo rfl<|.mo rfl ?_
 refine .jB (λo=>?_)
 refine .append e (RS.lits (xs:=[c]) rfl (by simp[jE]) (by simp[jE,aq])) (by simp;omega) (λi d f=>?_)
 have r:=f.aq
 refine .nc rfl<|.fa rfl<|.dH rfl rfl<|.z<|.az rfl ?_
 refine .ret (bu _ (.one (.tmp rfl)) ((aQ [1,1]).trans (bp.eu (H':=[(b,.cells [pT b,i].toArray 86 (0,0))::d]) (by simp[take,bK];exact .refl _))) ?_)
 ·exact⟨_,rfl,_,i,d,rfl,.inr rfl,f,by simp⟩
theorem vZ(b:Nat)(xs:List UInt8)(T:aH)(R:aw)(h:BI b xs T):
  Spec prog 26 [pT b] R [T] λu H'=>u=.string ⟨xs.toArray⟩/\H'=[]:=by
 obtain⟨a,p,f,rfl,j,e,m⟩:=h
 have B:=e.aq
 have A:One a:=⟨by rcases j with rfl|rfl<;>rfl⟩
 have l:=e.le
 refine Spec.fP (H':=[bl b [a,p] 86,f]) (by simp) ?_
 by_cases d:xs=[]
 ·subst d
  have o:=m rfl
  subst o
  refine Spec.body func26 rfl results26 ntmps26 rfl ?_
  refine .sr<|.ag rfl<|.zs<|.dg [] mixed ?_
  refine .tO 0 rfl .move<|.tO 1 rfl (.nilCheck rfl)<|.tO 2 rfl (.fieldAddr rfl)<|.tO 3 rfl (.cO rfl)<|.tO 5 rfl .move<|.tO 6 rfl (.nilCheck rfl)<|.tO 7 rfl (.fieldAddr rfl)<|.tO 8 rfl (.cO rfl) ?_
  refine .tO 9 rfl (.pP rfl) ?_
  refine .sT 4 rfl ?_
  refine .q (.zX rfl) ?_
  refine .nil (Next.sub ?_)
  refine .sT 10 rfl ?_
  refine .q (.As rfl rfl) ?_
  refine .nil (Next.sub ?_)
  refine .tO 11 rfl .assign ?_
  refine RA.nil (by kernel_rfl) ?_
  refine ay ?_
  refine .ret (aM rfl ?_)
  ·exact⟨rfl,rfl⟩
 ·obtain⟨y,z,k⟩:=e
  rcases k with⟨_,i,_⟩|⟨g,off,c,r,rfl,rfl,t,v,w,n⟩
  ·exact absurd i d
  ·have x:0<xs.length:=List.length_pos_iff.2 d
   refine Spec.body func26 rfl results26 ntmps26 rfl ?_
   refine .sr<|.ag rfl<|.zs<|.dg [10] mixed ?_
   refine .tO 0 rfl .move<|.tO 1 rfl (.nilCheck rfl)<|.tO 2 rfl (.fieldAddr rfl)<|.tO 3 rfl (.cO rfl)<|.tO 5 rfl .move<|.tO 6 rfl (.nilCheck rfl)<|.tO 7 rfl (.fieldAddr rfl)<|.tO 8 rfl (.cO rfl) ?_
   refine .tO 9 rfl (.pP rfl) ?_
   refine .sT 4 rfl ?_
   refine .q (.zW (by omega) rfl) ?_
   refine .nil (Next.sub ?_)
   refine .sT 10 rfl ?_
   refine .Ar (b:=g) (off:=off) (c:=c) (xs:=xs) d n (by omega) (by kernel_rfl) l rfl rfl (λs=>?_)
   refine .nil (Next.mod rfl ?_)
   refine .tK 11 rfl .assign ?_
   refine RA.nil (by kernel_rfl) ?_
   refine ay ?_
   refine .ret (aM rfl ?_)
   ·exact⟨rfl,rfl⟩
end Go.Proofs.YtenilfmlfldogaaGreatDoor

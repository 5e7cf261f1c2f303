/- What the law 'KeepOpens' uses. No condition. -/
import Derived.Test.YtocjmmbldeljnaaGreatDoorKKeepOpensH
import Derived.Test.YtocjmmbldeljnaaGreatDoorKKeepOpensJ
import Derived.Test.YtocjmmbldeljnaaGreatDoorKKeepOpensN
import Derived.Test.YtocjmmbldeljnaaGreatDoorKKeepOpensQ
set_option linter.unusedSimpArgs false
set_option linter.unusedVariables false
namespace Go.Proofs.YtocjmmbldeljnaaGreatDoor
open Tryz
set_option linter.unusedVariables false
set_option maxRecDepth 4000
theorem NO(pc c pv:Nat)(now:Int)(R:ao):Spec prog 221 [pT pc,pT c,pT pv,.int .i64 now] R [] λv H'=>((now<0\/now>1125899906842624)/\v=.tuple [.pointer none,.int .i64 4].toArray/\H'=[[]])\/(0<=now/\now<=1125899906842624/\∃q,v=.tuple [pT q,.int .i64 0].toArray/\H'=[bl q [pT pc,pT c,pT pv,.int .i64 now] 194]):=by
 refine Spec.du (H':=[[]]) (by simp) ?_
 refine Spec.body func221 rfl results221 ntmps221 rfl ?_
 refine .sr<|.ag rfl<|.ag rfl<|.zs<|.block<|.sr<|.mo rfl<|.q (.nG rfl rfl) ?_
 refine .mo rfl<|.gt rfl ?_
 refine .mo rfl<|.gt rfl ?_
 refine .q (.nG rfl rfl) ?_
 refine .q .cd<|.mo rfl<|.gt rfl ?_
 refine .mo rfl<|.gt rfl ?_
 refine .q (.nG rfl rfl) ?_
 refine .q .cd<|.az rfl<|.bB<|.sr<|.mo rfl<|.q .lss<|.mo rfl ?_
 refine .split (t:=24) rfl (λa=>?_) (λa=>?_)
 refine .gF a<|.gF a<|.q (.bA a) ?_
 refine .az rfl<|.cW<|.sr<|.ag rfl<|.az rfl ?_
 refine .ret (bi (aR (aO _ (.two (.tmp rfl) (.tmp rfl)) (.one [0] _) ?_)))
 ·refine .inl ⟨?_,rfl,rfl⟩
  first
   |(exact .inl (by simpa using a))
   |(exact .inr (by simpa using b))
 refine .gT a<|.mo rfl<|.gT a<|.q .gtr<|.q (.bg a) ?_
 refine .az rfl ?_
 refine .cond rfl (λb=>?_) λb=>?_
 refine .sr<|.ag rfl<|.az rfl ?_
 refine .ret (bi (aR (aO _ (.two (.tmp rfl) (.tmp rfl)) (.one [0] _) ?_)))
 ·refine .inl ⟨?_,rfl,rfl⟩
  first
   |(exact .inl (by simpa using a))
   |(exact .inr (by simpa using b))
 refine .skip<|bz<|aG<|.sr<|.mo rfl<|.mo rfl<|.mo rfl<|.mo rfl ?_
 refine .q .cC ?_
 refine .cc rfl (λd=>?_)
 refine .ag rfl<|.az rfl ?_
 refine .ret (aO _ (.two (.tmp rfl) (.tmp rfl)) (.one [0] _) ?_)
 ·exact .inr ⟨by simpa using a,by simpa using b,_,rfl,rfl⟩
def CI(q:Nat)(cs:List bP)(C:List (dl×List ByteArray))(A:List (ByteArray×cZ))(V:List (ByteArray×Tok))(last now:Int)(T:au):Prop:=
 ∃gc gb gv Tc Tb Tv,T=(q,.cells [pT gc,pT gb,pT gv,.int .i64 now].toArray 194 (0,0))::(Tc++(Tb++Tv))/\RI gc cs Tc/\GI gb C A Tb/\VI gv V last Tv
theorem NQ(R:ao):Spec prog 110 [] R [] λv H'=>∃T,H'=[T]/\∃q,v=pT q/\CI q [] [] [] [] 0 0 T:=by
 refine Spec.body func110 rfl results110 ntmps110 rfl ?_
 refine .sr<|.ag rfl<|.z ?_
 refine .bM (uS _) (λu b a=>?_)
 obtain⟨e,rfl,h⟩:=a
 refine .bM (wF _) (λu c a=>?_)
 obtain⟨f,rfl,i⟩:=a
 refine .bM (yO _) (λu d a=>?_)
 obtain⟨g,rfl,j⟩:=a
 refine .q .cC ?_
 refine .cc rfl (λk=>?_)
 refine .az rfl ?_
 refine .ret (aO _ (.one (.tmp rfl)) (.one [0,2,1,0] _) ?_)
 ·exact⟨_,rfl,_,rfl,e,f,g,b,c,d,by simp[take,bf,bT],h,i,j⟩
theorem po(q a:Nat)(b c d:Value)(R:ao) [pc:PC R (pT q) [pT a,b,c,d]]:Spec prog 106 [pT q] R [] λv H'=>v=.bool true/\H'=[]:=by
 refine Spec.body func106 rfl results106 ntmps106 rfl ?_
 refine .sr<|.ag rfl<|.z<|.mo rfl<|.q (.jm rfl rfl) ?_
 refine .mo rfl<|.gt rfl ?_
 refine .mo rfl<|.gt rfl ?_
 refine .nc rfl<|.gt rfl ?_
 refine .fa rfl<|.gt rfl ?_
 refine .lo rfl<|.gt rfl ?_
 refine .q (.jm rfl rfl) ?_
 refine .q .dh<|.az rfl ?_
 refine .ret (aW rfl ?_)
 ·exact⟨rfl,rfl⟩
theorem xA(q a:Nat)(b c:Value)(now:Int)(R:ao) [pc:PC R (pT q) [pT a,b,c,.int .i64 now]]:Spec prog 36 [pT q] R [] λv H'=>v=.int .i64 now/\H'=[]:=by
 refine Spec.body func36 rfl results36 ntmps36 rfl ?_
 refine .sr<|.ag rfl<|.zs<|.sr<|.mo rfl ?_
 refine .aH (po q a b c _ _) (λv d=>?_)
 subst d
 refine .q .not<|.zn<|.bB<|.kn<|.sr<|.mo rfl<|.nc rfl<|.fa rfl<|.lo rfl<|.az rfl ?_
 refine .ret (aW rfl ?_)
 ·exact⟨rfl,rfl⟩
theorem xw(q a g:Nat)(c d:Value)(R:ao) [pc:PC R (pT q) [pT a,pT g,c,d]]:Spec prog 75 [pT q] R [] λv H'=>v=pT g/\H'=[]:=by
 refine Spec.body func75 rfl results75 ntmps75 rfl ?_
 refine .sr<|.ag rfl<|.zs<|.sr<|.mo rfl ?_
 refine .aH (po q a _ c d _) (λv b=>?_)
 subst b
 refine .q .not<|.zn<|.bB<|.kn<|.sr<|.mo rfl<|.nc rfl<|.fa rfl<|.lo rfl<|.az rfl ?_
 refine .ret (aW rfl ?_)
 ·exact⟨rfl,rfl⟩
theorem Mx(g:Nat)(C:List (dl×List ByteArray))(A:List (ByteArray×cZ))(T:au)(h:GI g C A T)(now:Int)(R:ao):
  Spec prog 126 [pT g,.int .i64 now] R [T] λv H'=>∃T',H'=[T']/\v=.tuple #[]/\GI g C (A.filter λx=>decide (now<x.2.dP)) T':=by
 have O:=h.nd
 obtain⟨j,_,rfl,d,MC,vm,M,q,e,r,K,rfl,Q,U,hI,N,hQ⟩:=h
 obtain⟨a,rfl⟩:∃b,vm=.map (some b):=by obtain⟨b,es,a2,w,_⟩:=U;exact⟨b,w⟩
 have ic:One d:=⟨by obtain⟨b,es,a2,w,_⟩:=Q.1;subst w;rfl⟩
 refine Spec.du (H':=[bl g [d,.map (some a),pT q] 275,e,r,K,j]) (by simp) ?_
 refine Spec.body func126 rfl results126 ntmps126 rfl ?_
 refine .seq<|.sr<|.mo rfl ?_
 refine .aH (qk g a _ _ _) (λv hv=>?_)
 subst hv
 refine .q .not<|.zn<|.bB<|.kn<|.sr<|.mo rfl<|.nc rfl<|.fa rfl<|.lo rfl<|.mo rfl ?_
 refine .call [3] (xK q _ K hQ now _) (λu H' hu=>?_)
 obtain⟨l,J,B,A',rfl,G,a4,E,S⟩:=hu
 show aB _ _ _ _ _ _ _ [l,J,bl g [d,.map (some a),pT q] 275,e,r,j] _
 have a8:=G.le
 refine .q (.kD G) ?_
 refine .mo rfl<|.zn<|.block ?_
 refine .loop (X:=Nat×List (ByteArray×GP)×au) (λy=>(y.1<=B.length/\y.2.1=M.filter λx=>decide (x.1∉(B.map (·.1)).take y.1))/\MS (λs:ByteArray=>.string s) (λp:GP=>.agg (dZ p).toArray) (.map (some a)) y.2.1 y.2.2) (λy=>[(0,pT g),(14,u),(15,.int .i64 ((B.map (·.1)).length:Nat)),(16,iN y.1)]) (λy=>[l,J,bl g [d,.map (some a),pT q] 275,e,y.2.2,j]) (λy=>B.length-y.1) (0,M,r) ⟨⟨by omega,by simp only[List.take_zero];exact(List.filter_eq_self.2 λx _=>by simp).symm⟩,U⟩ kE.c.c.c.c rH ?_
 rintro⟨i,o,I⟩ ⟨⟨hi,F⟩,m⟩
 simp only at hi F m⊢
 refine .sr<|.q .lss<|.zs ?_
 refine .cond rfl (λD=>?_) λD=>?_
 have Y:i<(B.map (·.1)).length:=by have:=bp D;omega
 obtain⟨k,W⟩:=dM Y
 have a9:i<B.length:=by simpa using Y
 refine .kn<|.seq<|.block<|.sr ?_
 refine .aU i G W (λb0=>?_)
 refine .lo rfl<|.az rfl<|.region<|.mo rfl ?_
 refine .nc rfl<|.fa rfl<|.lo rfl<|.mo rfl ?_
 refine .delete m rfl (show _=some (Value.string k)from rfl) (λa1 a3 _=>?_)
 refine .nil<|bz<|aG<|.region ?_
 refine .ia (i+1) .add ?_
 refine .mo rfl<|.nil ?_
 ·exact br (i+1,fT k o,a1) ⟨⟨by simp only;omega,by simp only;rw[qy m.nd,F,yB,List.take_add_one,W];rfl⟩,a3⟩ (by simp only;omega) kE.c.c.c.c rH
 have a5:i=B.length:=by have:=ba D;simp at this;omega
 have V:o=M.filter λx=>decide (now<x.2.2.dP):=by
  rw[F,a5,List.take_of_length_le (by simp)]
  refine List.filter_congr λx hx=>?_
  have Z:=E.pm
  have a7:(x.1,x.2.2)∈A:=N.mem_iff.1 (o8 hx)
  have a0:(x.1,x.2.2.dP)∈dr (λt:cZ=>t.dP) A:=o8 a7
  by_cases H:now<x.2.2.dP
  ·have:x.1∉B.map (·.1):=λhm=>by
    obtain⟨p,n,a6⟩:=List.mem_map.1 hm
    have h5:p∈dr (λt:cZ=>t.dP) A:=Z.mem_iff.2 (List.mem_append_left _ n)
    have h6:bO x.1 (dr (λt:cZ=>t.dP) A)=some p.2:=jl (by rw[mc];exact O) (by rw[<-a6];exact h5)
    have L:bO x.1 (dr (λt:cZ=>t.dP) A)=some x.2.2.dP:=jl (by rw[mc];exact O) a0
    rw[h6]at L
    have h8:=E.le p n
    simp only[Option.some.injEq]at L
    omega
   rw[decide_eq_true this,decide_eq_true H]
  ·have:x.1∈B.map (·.1):=by
    rcases List.mem_append.1 (Z.mem_iff.1 a0)with h5|h5
    ·exact List.mem_map.2 ⟨_,h5,rfl⟩
    ·exact absurd (S _ h5) H
   rw[decide_eq_false H,decide_eq_false (λhh=>hh this)]
 refine .exit<|bk<|bw<|bq ?_
 refine dc _ .none ((bG [2,2,2,0,1]).trans (bu.cu (H':=[((g,.cells [d,.map (some a),pT q].toArray 275 (0,0))::(e++(I++l)))++j]) (by simp[take,bf]))) ?_
 ·refine⟨_,rfl,rfl,j,_,rfl,d,MC,_,o,q,e,I,l,rfl,Q,m,λp n=>hI p (List.mem_filter.1 (V▸n)).1,?_,?_⟩
  ·rw[V, <-qp (q:=λt:cZ=>decide (now<t.dP))]
   exact N.filter _
  ·refine a4.perm ((E.filter S).trans (List.Perm.of_eq ?_))
   exact qp (f:=λt:cZ=>t.dP) (q:=λz:Int=>decide (now<z))
def jZ(n now:Int):Int:=if n<0\/n>1073741824 then 2 else if now>1125899906842624-n then 8 else 0
theorem N7(q:Nat)(cs:List bP)(C:List (dl×List ByteArray))(A:List (ByteArray×cZ))(V:List (ByteArray×Tok))(last now:Int)(T:au)(h:CI q cs C A V last now T)(G:0<=now)(H:now<=1125899906842624)(n:Int)(R:ao):
  Spec prog 55 [pT q,.int .i64 n] R [T] λv H'=>∃T',H'=[T']/\v=.int .i64 (jZ n now)/\(jZ n now≠0->CI q cs C A V last now T')/\(jZ n now=0->(0<=now+n/\now+n<=1125899906842624)/\CI q cs C (A.filter λx=>decide (now+n<x.2.dP)) (V.filter λx=>decide (now+n<x.2.dP)) last (now+n) T'):=by
 obtain⟨d,c,f,i,g,j,rfl,m,l,o⟩:=h
 refine Spec.du (H':=[bl q [pT d,pT c,pT f,.int .i64 now] 194,i,g,j]) (by simp) ?_
 refine Spec.body func55 rfl results55 ntmps55 rfl ?_
 refine .sr<|.ag rfl<|.zs<|.block<|.sr<|.mo rfl ?_
 refine .aH (po q d _ _ _ _) (λv E=>?_)
 subst E
 refine .q .not<|.az rfl<|.bB<|.sr<|.mo rfl<|.q .lss<|.mo rfl ?_
 refine .split (t:=12) rfl (λa=>?_) (λa=>?_)
 refine .gF a<|.gF a<|.q (.bA a) ?_
 refine .az rfl<|.cW<|.sr<|.az rfl ?_
 refine .ret (bi (aR (aO _ (.one (.tmp rfl)) (.one [0,0,0,0] _) ?_)))
 ·have e:jZ n now=2:=by
   unfold jZ
   rw[if_pos (by first|(exact .inl (by simpa using a))|(exact .inr (by simpa using k)))]
  rw[e]
  exact⟨_,rfl,rfl,λ_=>⟨d,c,f,i,g,j,by simp[take,bf],m,l,o⟩,λb=>by simp at b⟩
 refine .gT a<|.mo rfl<|.gT a<|.q .gtr<|.q (.bg a) ?_
 refine .az rfl ?_
 refine .cond rfl (λk=>?_) λk=>?_
 refine .sr<|.az rfl ?_
 refine .ret (bi (aR (aO _ (.one (.tmp rfl)) (.one [0,0,0,0] _) ?_)))
 ·have e:jZ n now=2:=by
   unfold jZ
   rw[if_pos (by first|(exact .inl (by simpa using a))|(exact .inr (by simpa using k)))]
  rw[e]
  exact⟨_,rfl,rfl,λ_=>⟨d,c,f,i,g,j,by simp[take,bf],m,l,o⟩,λb=>by simp at b⟩
 have F:0<=n/\n<=1073741824:=by simp at a k;omega
 refine .sr<|.mo rfl<|.nc rfl<|.fa rfl<|.lo rfl<|.mo rfl ?_
 refine .q (.i64 (1125899906842624-n) .sub ⟨by omega,by omega,by omega⟩) ?_
 refine .q .gtr<|.az rfl ?_
 refine .cond rfl (λp=>?_) λp=>?_
 refine .sr<|.az rfl ?_
 refine .ret (bi (aR (aO _ (.one (.tmp rfl)) (.one [0,0,0,0] _) ?_)))
 ·have e:jZ n now=8:=by unfold jZ;rw[if_neg (by omega),if_pos (by simpa using p)]
  rw[e]
  exact⟨_,rfl,rfl,λ_=>⟨d,c,f,i,g,j,by simp[take,bf],m,l,o⟩,λb=>by simp at b⟩
 have D:¬now>1125899906842624-n:=by simpa using p
 refine .skip<|bz<|aG<|.sr<|.mo rfl<|.nc rfl<|.fa rfl<|.lo rfl<|.mo rfl ?_
 refine .q (.i64 (now+n) .add ⟨by omega,by omega,by omega⟩) ?_
 refine .nc rfl<|.fa rfl<|.ca rfl rfl<|.zs ?_
 refine .cM 8 mixed (by kernel_rfl) ?_
 conv=>arg 6;dsimp only[List.take]
 refine .mo rfl<|.nc rfl<|.fa rfl<|.lo rfl<|.mo rfl ?_
 refine .nc rfl<|.fa rfl<|.lo rfl<|.nil ?_
 refine .aT (Mx c C A g l (now+n) R) (λu s r=>?_)
 obtain⟨rfl,y⟩:=r
 refine .zs ?_
 refine .cM 8 mixed (by kernel_rfl) ?_
 conv=>arg 6;dsimp only[List.take]
 refine .mo rfl<|.nc rfl<|.fa rfl<|.lo rfl<|.mo rfl ?_
 refine .nc rfl<|.fa rfl<|.lo rfl<|.nil ?_
 refine .aT (Qs f V last j o (now+n) R) (λu w r=>?_)
 obtain⟨rfl,B⟩:=r
 refine .z<|.az rfl ?_
 refine .ret (aO _ (.one (.tmp rfl)) (.one [0,0,0,0] _) ?_)
 ·have e:jZ n now=0:=by unfold jZ;rw[if_neg (by omega),if_neg D]
  rw[e]
  exact⟨_,rfl,rfl,λb=>absurd rfl b,λ_=>⟨by omega,d,c,f,i,s,w,by simp[take,bf,bT],m,y,B⟩⟩
end Go.Proofs.YtocjmmbldeljnaaGreatDoor

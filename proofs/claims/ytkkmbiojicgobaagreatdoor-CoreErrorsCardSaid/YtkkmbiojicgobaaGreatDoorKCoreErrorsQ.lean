/- What the law 'CoreErrors' uses. No condition. -/
import Derived.Test.YtkkmbiojicgobaaGreatDoorKCoreErrorsH
import Derived.Test.YtkkmbiojicgobaaGreatDoorKCoreErrorsI
import Derived.Test.YtkkmbiojicgobaaGreatDoorKCoreErrorsK
import Derived.Test.YtkkmbiojicgobaaGreatDoorKCoreErrorsM
import Derived.Test.YtkkmbiojicgobaaGreatDoorKCoreErrorsN
import Derived.Test.YtkkmbiojicgobaaGreatDoorKCoreErrorsP
set_option linter.unusedSimpArgs false
set_option linter.unusedVariables false
namespace Go.Proofs.YtkkmbiojicgobaaGreatDoor
set_option linter.defProp false
def ad8:=@if_neg
def ad9:=@if_pos
def aea:=@congrArg
def aeb:=@List.mem_filter
def aec:=@Nat.le_trans
def aed:=@List.mem_map
def aee:=@List.length_filter_le
def aef:=@List.filter_congr
def aeg:=@List.getD_cons_zero
def aeh:=@List.getD_cons_succ
def aei:=@decide_eq_true
def aej:=@List.filter_sublist
def aek:=@List.filter_eq_self
def ael:=@List.mem_cons
def aem:=@decide_eq_true_eq
def aen:=@Option.isSome_iff_exists
def aeo:=@List.Perm.append_left
def aep:=@Option.some.injEq
def aeq:=@List.pairwise_cons
def aer:=@List.getD_eq_getElem?_getD
def aes:=@List.find?_cons_of_neg
def aet:=@Option.filter_eq_some_iff
def aeu:=@Bool.and_eq_true
open Tryz
set_option linter.unusedVariables false
set_option maxRecDepth 4000
theorem qB(w:Value)(t:Tok)(R:av){R':av}(h:dS R' (w,t)):Spec prog 13 [.agg (bE (w,t)).toArray] R [] λv H'=>v=.agg (bE (w,t)).toArray/\H'=[]:=by
 have d:bJ (bE (w,t)):=⟨h.bG⟩
 have a:RS R' 1 bB w t.scopes:=h
 obtain⟨f,e,rfl⟩:=a.val
 refine Spec.body func13 rfl results13 ntmps13 rfl ?_
 refine .sr ?_
 refine .dv rfl (λb=>?_)
 refine .cN (λc=>?_)
 refine .z<|.fa rfl<|.lo rfl<|.fa rfl<|.lo rfl<|.fa rfl<|.lo rfl<|.fa rfl<|.lo rfl<|.fa rfl<|.lo rfl<|.fa rfl<|.lo rfl<|.fa rfl<|.lo rfl<|.fa rfl<|.lo rfl<|.fa rfl<|.lo rfl ?_
 refine .q .dI ?_
 refine .ct rfl rfl<|.zn ?_
 refine .ret (aR _ (.one (.ey rfl rfl)) (.none _) ?_)
 ·exact⟨rfl,rfl⟩
def CI(q:Nat)(cs:List bA)(C:List (cB×List ByteArray))(A:List (ByteArray×bL))(V:List (ByteArray×Tok))(last now:Int)(T:ax):Prop:=
 ∃gc gb gv Tc Tb Tv,T=(q,.cells [pT gc,pT gb,pT gv,.int .i64 now].toArray 74 (0,0))::(Tc++(Tb++Tv))/\RI gc cs Tc/\GI gb C A Tb/\VI gv V last Tv
theorem wN(R:av):Spec prog 5 [] R [] λv H'=>∃T,H'=[T]/\∃q,v=pT q/\CI q [] [] [] [] 0 0 T:=by
 refine Spec.body func5 rfl results5 ntmps5 rfl ?_
 refine .sr<|.ag rfl<|.z ?_
 refine .da (Ad _) (λu b a=>?_)
 obtain⟨e,rfl,h⟩:=a
 refine .da (KB _) (λu c a=>?_)
 obtain⟨f,rfl,i⟩:=a
 refine .da (OL _) (λu d a=>?_)
 obtain⟨g,rfl,j⟩:=a
 refine .q .dI ?_
 refine .dv rfl (λk=>?_)
 refine .az rfl ?_
 refine .ret (aR _ (.one (.tmp rfl)) (.one [0,2,1,0] _) ?_)
 ·exact⟨_,rfl,_,rfl,e,f,g,b,c,d,by simp[take,aZ,cc],h,i,j⟩
theorem kQ(q a:Nat)(b c d:Value)(R:av) [pc:PC R (pT q) [pT a,b,c,d]]:Spec prog 43 [pT q] R [] λv H'=>v=.bool true/\H'=[]:=by
 refine Spec.body func43 rfl results43 ntmps43 rfl ?_
 refine .sr<|.ag rfl<|.z<|.mo rfl<|.q (.wA rfl rfl) ?_
 refine .mo rfl<|.gt rfl ?_
 refine .mo rfl<|.gt rfl ?_
 refine .nc rfl<|.gt rfl ?_
 refine .fa rfl<|.gt rfl ?_
 refine .lo rfl<|.gt rfl ?_
 refine .q (.wA rfl rfl) ?_
 refine .q .ca<|.az rfl ?_
 refine .ret (aO rfl ?_)
 ·exact⟨rfl,rfl⟩
theorem wO(q a:Nat)(b c:Value)(now:Int)(R:av) [pc:PC R (pT q) [pT a,b,c,.int .i64 now]]:Spec prog 51 [pT q] R [] λv H'=>v=.int .i64 now/\H'=[]:=by
 refine Spec.body func51 rfl results51 ntmps51 rfl ?_
 refine .sr<|.ag rfl<|.zs<|.sr<|.mo rfl ?_
 refine .aM (kQ q a b c _ _) (λv d=>?_)
 subst d
 refine .q .not<|.zn<|.bZ<|.kn<|.sr<|.mo rfl<|.nc rfl<|.fa rfl<|.lo rfl<|.az rfl ?_
 refine .ret (aO rfl ?_)
 ·exact⟨rfl,rfl⟩
theorem sm(q a g:Nat)(c d:Value)(R:av) [pc:PC R (pT q) [pT a,pT g,c,d]]:Spec prog 49 [pT q] R [] λv H'=>v=pT g/\H'=[]:=by
 refine Spec.body func49 rfl results49 ntmps49 rfl ?_
 refine .sr<|.ag rfl<|.zs<|.sr<|.mo rfl ?_
 refine .aM (kQ q a _ c d _) (λv b=>?_)
 subst b
 refine .q .not<|.zn<|.bZ<|.kn<|.sr<|.mo rfl<|.nc rfl<|.fa rfl<|.lo rfl<|.az rfl ?_
 refine .ret (aO rfl ?_)
 ·exact⟨rfl,rfl⟩
theorem wD(q:Nat)(cs:List bA)(C:List (cB×List ByteArray))(A:List (ByteArray×bL))(V:List (ByteArray×Tok))(last now:Int)(T:ax)(h:CI q cs C A V last now T)(r:CR)(c:bA)(R:av)(i:eV R r c)(o:c.fits)(t:c.eo):
  Spec prog 22 [pT q,.agg r.cells.toArray] R [T] λv H'=>∃T',H'=[T']/\v=.int .i64 (dT cs c).1/\CI q (dT cs c).2 C A V last now T':=by
 obtain⟨a,f,g,d,b,e,rfl,l,k,n⟩:=h
 have x:bJ r.cells:=⟨i.bG⟩
 refine Spec.dg (H':=[bl q [pT a,pT f,pT g,.int .i64 now] 74,d,b,e]) (by simp) ?_
 refine Spec.body func22 rfl results22 ntmps22 rfl ?_
 refine .sr ?_
 refine .dv rfl (λw=>?_)
 refine .ag rfl<|.zs<|.sr<|.mo rfl ?_
 refine .aM (kQ q a _ _ _ _) (λv s=>?_)
 subst s
 refine .q .not<|.zn<|.bZ<|.kn<|.seq ?_
 refine .df 5 mixed (by kernel_rfl) ?_
 conv=>arg 6;dsimp only[List.take]
 refine .mo rfl<|.nc rfl<|.fa rfl<|.lo rfl<|.q (.bK rfl)<|.nil ?_
 refine .bW (zC a cs d l r c R i o t) (λu j p=>?_)
 obtain⟨rfl,m⟩:=p
 refine .az rfl ?_
 refine .ret (aR _ (.one (.tmp rfl)) (.one [1,1,1,1] _) ?_)
 ·exact⟨_,rfl,rfl,a,f,g,j,b,e,by simp[take,aZ],m,k,n⟩
theorem wL(q e:Nat)(b c d:Value)(cs:List bA)(a:ax)(f:RI e cs a)(id:ByteArray)(R:av)(i:∀p∈a,R p.1 p.2) [pc:PC R (pT q) [pT e,b,c,d]]:Spec prog 70 [pT q,.string id] R [] λv H'=>v=.bool (cw id cs).isSome/\H'=[]:=by
 refine Spec.body func70 rfl results70 ntmps70 rfl ?_
 refine .sr<|.ag rfl<|.z<|.mo rfl<|.nc rfl<|.fa rfl<|.lo rfl<|.mo rfl ?_
 refine .da (qh e cs a f id _ λp h=>.inl (i p h)) (λu l j=>?_)
 obtain⟨k,rfl,g⟩:=j
 have n:bJ k.cells:=⟨g.bG⟩
 refine .mo rfl<|.q .extract<|.q .extract ?_
 refine .cN (λm=>?_)
 refine .ct rfl rfl<|.ag rfl<|.z<|.mo rfl<|.az rfl ?_
 refine .ret (aO rfl ?_)
 ·exact⟨rfl,rfl⟩
def dJ(cs:List bA)(user id:ByteArray)(scopes:List ByteArray):Int:=if dt user=false then 9 else if(cw id cs).isSome=false then 17 else if eL id scopes cs=false then 19 else 0
theorem wH(q:Nat)(cs:List bA)(C:List (cB×List ByteArray))(A:List (ByteArray×bL))(V:List (ByteArray×Tok))(last now:Int)(T:ax)(h:CI q cs C A V last now T)(user id:ByteArray)(B:user.size<=9223372036854775807)(vs:Value)(b:List ByteArray)(R:av)(y:RS R 1 bB vs b)(J:b.length<=100000)(F:∀p∈C,p.2.length<=1000000):
  Spec prog 24 [pT q,.string user,.string id,vs] R [T] λv H'=>∃T',H'=[T']/\v=.int .i64 (dJ cs user id b)/\∃C',(dJ cs user id b≠0->C'=C)/\(dJ cs user id b=0->∃l,gR l/\(∀s,s∈l↔s∈(aU (user,id) C).getD []\/s∈b)/\l.length<=((aU (user,id) C).getD []).length+b.length/\C'=if l=[]then C else cT (user,id) l C)/\CI q cs C' A V last now T':=by
 obtain⟨c,g,m,d,j,k,rfl,i,r,t⟩:=h
 have K:=y.aw
 refine Spec.dg (H':=[bl q [pT c,pT g,pT m,.int .i64 now] 74,d,j,k]) (by simp) ?_
 refine Spec.body func24 rfl results24 ntmps24 rfl ?_
 refine .sr<|.ag rfl<|.zs<|.block<|.sr<|.mo rfl ?_
 refine .aM (kQ q c _ _ _ _) (λv f=>?_)
 subst f
 refine .q .not<|.az rfl<|.bZ<|.sr<|.mo rfl ?_
 refine .aM (r3 user B _) (λv f=>?_)
 subst f
 refine .q .not<|.az rfl ?_
 refine .cond rfl (λn=>?_) λn=>?_
 refine .sr<|.az rfl ?_
 refine .ret (br (aL (aR _ (.one (.tmp rfl)) (.one [0,0,0,0] _) ?_)))
 ·have e:dJ cs user id b=9:=by unfold dJ;rw[ad9 (by simpa using n)]
  rw[e]
  exact⟨_,rfl,rfl,C,λ_=>rfl,λa=>by simp at a,c,g,m,d,j,k,by simp[take,aZ],i,r,t⟩
 refine .sr<|.mo rfl<|.mo rfl ?_
 refine .aM (wL q c _ _ _ cs d i id _ (λp x=>.inr (by simp[x]))) (λv f=>?_)
 subst f
 refine .q .not<|.az rfl ?_
 refine .cond rfl (λo=>?_) λo=>?_
 refine .sr<|.az rfl ?_
 refine .ret (br (aL (aR _ (.one (.tmp rfl)) (.one [0,0,0,0] _) ?_)))
 ·have e:dJ cs user id b=17:=by unfold dJ;rw[ad8 (by simpa using n),ad9 (by simpa using o)]
  rw[e]
  exact⟨_,rfl,rfl,C,λ_=>rfl,λa=>by simp at a,c,g,m,d,j,k,by simp[take,aZ],i,r,t⟩
 refine .sr<|.mo rfl<|.nc rfl<|.fa rfl<|.lo rfl<|.mo rfl<|.mo rfl ?_
 refine .aM (ui c cs d i id vs b _ (λp x=>.inr (by simp[x])) y.rx) (λv f=>?_)
 subst f
 refine .q .not<|.az rfl ?_
 refine .cond rfl (λw=>?_) λw=>?_
 refine .sr<|.az rfl ?_
 refine .ret (br (aL (aR _ (.one (.tmp rfl)) (.one [0,0,0,0] _) ?_)))
 ·have e:dJ cs user id b=19:=by unfold dJ;rw[ad8 (by simpa using n),ad8 (λa=>by rw[show(cw id cs).isSome=true by simpa using o]at a;cases a),ad9 (by simpa using w)]
  rw[e]
  exact⟨_,rfl,rfl,C,λ_=>rfl,λa=>by simp at a,c,g,m,d,j,k,by simp[take,aZ],i,r,t⟩
 refine .skip<|bz<|aD<|.sr<|.mo rfl<|.nc rfl<|.fa rfl<|.lo rfl<|.mo rfl<|.mo rfl<|.mo rfl ?_
 refine .bW (Ku g C A j r user id vs b R y J F) (λu D B=>?_)
 obtain⟨rfl,l,G,H,I,E⟩:=B
 refine .z<|.az rfl ?_
 refine .ret (aR _ (.one (.tmp rfl)) (.one [0,0,0,0] _) ?_)
 ·have e:dJ cs user id b=0:=by unfold dJ;rw[ad8 (by simpa using n),ad8 (λa=>by rw[show(cw id cs).isSome=true by simpa using o]at a;cases a),ad8 (by simpa using w)]
  rw[e]
  exact⟨_,rfl,rfl,_,λa=>absurd rfl a,λ_=>⟨l,G,H,I,rfl⟩,c,g,m,d,D,k,by simp[take,aZ],i,E,t⟩
theorem KI(g:Nat)(C:List (cB×List ByteArray))(A:List (ByteArray×bL))(T:ax)(h:GI g C A T)(now:Int)(R:av):
  Spec prog 64 [pT g,.int .i64 now] R [T] λv H'=>∃T',H'=[T']/\v=.tuple #[]/\GI g C (A.filter λx=>decide (now<x.2.cq)) T':=by
 have O:=h.nd
 obtain⟨j,_,rfl,d,MC,vm,M,q,e,r,K,rfl,Q,U,hI,N,hQ⟩:=h
 obtain⟨a,rfl⟩:∃b,vm=.map (some b):=by obtain⟨b,es,a2,w,_⟩:=U;exact⟨b,w⟩
 have ic:One d:=⟨by obtain⟨b,es,a2,w,_⟩:=Q.1;subst w;rfl⟩
 refine Spec.dg (H':=[bl g [d,.map (some a),pT q] 132,e,r,K,j]) (by simp) ?_
 refine Spec.body func64 rfl results64 ntmps64 rfl ?_
 refine .seq<|.sr<|.mo rfl ?_
 refine .aM (mc g a _ _ _) (λv hv=>?_)
 subst hv
 refine .q .not<|.zn<|.bZ<|.kn<|.sr<|.mo rfl<|.nc rfl<|.fa rfl<|.lo rfl<|.mo rfl ?_
 refine .call [3] (xu q _ K hQ now _) (λu H' hu=>?_)
 obtain⟨l,J,B,A',rfl,G,a4,E,S⟩:=hu
 show aG _ _ _ _ _ _ _ [l,J,bl g [d,.map (some a),pT q] 132,e,r,j] _
 have a8:=G.le
 refine .q (.ec G) ?_
 refine .mo rfl<|.zn<|.block ?_
 refine .loop (X:=Nat×List (ByteArray×GP)×ax) (λy=>(y.1<=B.length/\y.2.1=M.filter λx=>decide (x.1∉(B.map (·.1)).take y.1))/\MS (λs:ByteArray=>.string s) (λp:GP=>.agg (bO p).toArray) (.map (some a)) y.2.1 y.2.2) (λy=>[(0,pT g),(14,u),(15,.int .i64 ((B.map (·.1)).length:Nat)),(16,iN y.1)]) (λy=>[l,J,bl g [d,.map (some a),pT q] 132,e,y.2.2,j]) (λy=>B.length-y.1) (0,M,r) ⟨⟨by omega,by simp only[List.take_zero];exact(aek.2 λx _=>by simp).symm⟩,U⟩ kE.c.c.c.c rH ?_
 rintro⟨i,o,I⟩ ⟨⟨hi,F⟩,m⟩
 simp only at hi F m⊢
 refine .sr<|.q .lss<|.zs ?_
 refine .cond rfl (λD=>?_) λD=>?_
 have Y:i<(B.map (·.1)).length:=by have:=bx D;omega
 obtain⟨k,W⟩:=dN Y
 have a9:i<B.length:=by simpa using Y
 refine .kn<|.seq<|.block<|.sr ?_
 refine .bb i G W (λb0=>?_)
 refine .lo rfl<|.az rfl<|.region<|.mo rfl ?_
 refine .nc rfl<|.fa rfl<|.lo rfl<|.mo rfl ?_
 refine .delete m rfl (show _=some (Value.string k)from rfl) (λa1 a3 _=>?_)
 refine .nil<|bz<|aD<|.region ?_
 refine .ia (i+1) .add ?_
 refine .mo rfl<|.nil ?_
 ·exact bf (i+1,eG k o,a1) ⟨⟨by simp only;omega,by simp only;rw[mm m.nd,F,yi,List.take_add_one,W];rfl⟩,a3⟩ (by simp only;omega) kE.c.c.c.c rH
 have a5:i=B.length:=by have:=bo D;simp at this;omega
 have V:o=M.filter λx=>decide (now<x.2.2.cq):=by
  rw[F,a5,List.take_of_length_le (by simp)]
  refine aef λx hx=>?_
  have Z:=E.pm
  have a7:(x.1,x.2.2)∈A:=N.mem_iff.1 (oW hx)
  have a0:(x.1,x.2.2.cq)∈dP (λt:bL=>t.cq) A:=oW a7
  by_cases H:now<x.2.2.cq
  ·have:x.1∉B.map (·.1):=λhm=>by
    obtain⟨p,n,a6⟩:=aed.1 hm
    have h5:p∈dP (λt:bL=>t.cq) A:=Z.mem_iff.2 (List.mem_append_left _ n)
    have h6:aU x.1 (dP (λt:bL=>t.cq) A)=some p.2:=gC (by rw[kO];exact O) (by rw[<-a6];exact h5)
    have L:aU x.1 (dP (λt:bL=>t.cq) A)=some x.2.2.cq:=gC (by rw[kO];exact O) a0
    rw[h6]at L
    have h8:=E.le p n
    simp only[aep]at L
    omega
   rw[aei this,aei H]
  ·have:x.1∈B.map (·.1):=by
    rcases List.mem_append.1 (Z.mem_iff.1 a0)with h5|h5
    ·exact aed.2 ⟨_,h5,rfl⟩
    ·exact absurd (S _ h5) H
   rw[decide_eq_false H,decide_eq_false (λhh=>hh this)]
 refine .exit<|bD<|bH<|bF ?_
 refine eh _ .none ((aI [2,2,2,0,1]).trans (aT.bu (H':=[((g,.cells [d,.map (some a),pT q].toArray 132 (0,0))::(e++(I++l)))++j]) (by simp[take,aZ]))) ?_
 ·refine⟨_,rfl,rfl,j,_,rfl,d,MC,_,o,q,e,I,l,rfl,Q,m,λp n=>hI p (aeb.1 (V▸n)).1,?_,?_⟩
  ·rw[V, <-mf (q:=λt:bL=>decide (now<t.cq))]
   exact N.filter _
  ·refine a4.perm ((E.filter S).trans (List.Perm.of_eq ?_))
   exact mf (f:=λt:bL=>t.cq) (q:=λz:Int=>decide (now<z))
def er(n now:Int):Int:=if n<0\/n>1073741824 then 2 else if now>1125899906842624-n then 8 else 0
theorem wY(q:Nat)(cs:List bA)(C:List (cB×List ByteArray))(A:List (ByteArray×bL))(V:List (ByteArray×Tok))(last now:Int)(T:ax)(h:CI q cs C A V last now T)(G:0<=now)(H:now<=1125899906842624)(n:Int)(R:av):
  Spec prog 21 [pT q,.int .i64 n] R [T] λv H'=>∃T',H'=[T']/\v=.int .i64 (er n now)/\(er n now≠0->CI q cs C A V last now T')/\(er n now=0->(0<=now+n/\now+n<=1125899906842624)/\CI q cs C (A.filter λx=>decide (now+n<x.2.cq)) (V.filter λx=>decide (now+n<x.2.cq)) last (now+n) T'):=by
 obtain⟨d,c,f,i,g,j,rfl,m,l,o⟩:=h
 refine Spec.dg (H':=[bl q [pT d,pT c,pT f,.int .i64 now] 74,i,g,j]) (by simp) ?_
 refine Spec.body func21 rfl results21 ntmps21 rfl ?_
 refine .sr<|.ag rfl<|.zs<|.block<|.sr<|.mo rfl ?_
 refine .aM (kQ q d _ _ _ _) (λv E=>?_)
 subst E
 refine .q .not<|.az rfl<|.bZ<|.sr<|.mo rfl<|.q .lss<|.mo rfl ?_
 refine .split (t:=12) rfl (λa=>?_) (λa=>?_)
 refine .gF a<|.gF a<|.q (.aY a) ?_
 refine .az rfl<|.dF<|.sr<|.az rfl ?_
 refine .ret (br (aL (aR _ (.one (.tmp rfl)) (.one [0,0,0,0] _) ?_)))
 ·have e:er n now=2:=by
   unfold er
   rw[ad9 (by first|(exact .inl (by simpa using a))|(exact .inr (by simpa using k)))]
  rw[e]
  exact⟨_,rfl,rfl,λ_=>⟨d,c,f,i,g,j,by simp[take,aZ],m,l,o⟩,λb=>by simp at b⟩
 refine .gT a<|.mo rfl<|.gT a<|.q .gtr<|.q (.aS a) ?_
 refine .az rfl ?_
 refine .cond rfl (λk=>?_) λk=>?_
 refine .sr<|.az rfl ?_
 refine .ret (br (aL (aR _ (.one (.tmp rfl)) (.one [0,0,0,0] _) ?_)))
 ·have e:er n now=2:=by
   unfold er
   rw[ad9 (by first|(exact .inl (by simpa using a))|(exact .inr (by simpa using k)))]
  rw[e]
  exact⟨_,rfl,rfl,λ_=>⟨d,c,f,i,g,j,by simp[take,aZ],m,l,o⟩,λb=>by simp at b⟩
 have F:0<=n/\n<=1073741824:=by simp at a k;omega
 refine .sr<|.mo rfl<|.nc rfl<|.fa rfl<|.lo rfl<|.mo rfl ?_
 refine .q (.i64 (1125899906842624-n) .sub ⟨by omega,by omega,by omega⟩) ?_
 refine .q .gtr<|.az rfl ?_
 refine .cond rfl (λp=>?_) λp=>?_
 refine .sr<|.az rfl ?_
 refine .ret (br (aL (aR _ (.one (.tmp rfl)) (.one [0,0,0,0] _) ?_)))
 ·have e:er n now=8:=by unfold er;rw[ad8 (by omega),ad9 (by simpa using p)]
  rw[e]
  exact⟨_,rfl,rfl,λ_=>⟨d,c,f,i,g,j,by simp[take,aZ],m,l,o⟩,λb=>by simp at b⟩
 have D:¬now>1125899906842624-n:=by simpa using p
 refine .skip<|bz<|aD<|.sr<|.mo rfl<|.nc rfl<|.fa rfl<|.lo rfl<|.mo rfl ?_
 refine .q (.i64 (now+n) .add ⟨by omega,by omega,by omega⟩) ?_
 refine .nc rfl<|.fa rfl<|.cJ rfl rfl<|.zs ?_
 refine .df 8 mixed (by kernel_rfl) ?_
 conv=>arg 6;dsimp only[List.take]
 refine .mo rfl<|.nc rfl<|.fa rfl<|.lo rfl<|.mo rfl ?_
 refine .nc rfl<|.fa rfl<|.lo rfl<|.nil ?_
 refine .bW (KI c C A g l (now+n) R) (λu s r=>?_)
 obtain⟨rfl,y⟩:=r
 refine .zs ?_
 refine .df 8 mixed (by kernel_rfl) ?_
 conv=>arg 6;dsimp only[List.take]
 refine .mo rfl<|.nc rfl<|.fa rfl<|.lo rfl<|.mo rfl ?_
 refine .nc rfl<|.fa rfl<|.lo rfl<|.nil ?_
 refine .bW (OQ f V last j o (now+n) R) (λu w r=>?_)
 obtain⟨rfl,B⟩:=r
 refine .z<|.az rfl ?_
 refine .ret (aR _ (.one (.tmp rfl)) (.one [0,0,0,0] _) ?_)
 ·have e:er n now=0:=by unfold er;rw[ad8 (by omega),ad8 D]
  rw[e]
  exact⟨_,rfl,rfl,λb=>absurd rfl b,λ_=>⟨by omega,d,c,f,i,s,w,by simp[take,aZ,cc],m,y,B⟩⟩
def jJ(s:ByteArray):List ByteArray->List ByteArray
 |[]=>[s]
 |t::l=>if s=t then t::l else if cp s t=true then s::t::l else t::jJ s l
theorem si{s x:ByteArray}:∀{l:List ByteArray},x∈jJ s l↔x=s\/x∈l
 |[]=>by simp[jJ]
 |t::l=>by
  unfold jJ
  split
  ·rename_i h;subst h;simp
  ·split
   ·simp
   ·rw[ael,si (l:=l),ael]
    constructor<;>(rintro(h|h|h)<;>simp[h])
theorem xI{s:ByteArray}:∀{l:List ByteArray},gR l->gR (jJ s l)
 |[],_=>by simp[jJ,gR]
 |t::l,h=>by
  have b:=aeq.1 h
  unfold jJ
  split
  ·exact h
  ·rename_i d
   split
   ·rename_i a
    refine aeq.2 ⟨λx hx=>?_,h⟩
    rcases ael.1 hx with rfl|hx
    ·exact a
    ·exact nk a (b.1 x hx)
   ·rename_i a
    refine aeq.2 ⟨λx hx=>?_,xI b.2⟩
    rcases si.1 hx with rfl|hx
    ·by_cases c:cp t x=true
     ·exact c
     ·exact absurd (lx (by simpa using a) (by simpa using c)) d
    ·exact b.1 x hx
def jo(a b:List ByteArray):List ByteArray:=(a++b).foldl (λl s=>jJ s l) []
theorem wk{x:ByteArray}:∀{l m:List ByteArray},x∈l.foldl (λl s=>jJ s l) m↔x∈m\/x∈l
 |[],m=>by simp
 |s::l,m=>by
  rw[List.foldl_cons,wk (l:=l),si,ael]
  constructor
  ·rintro((h|h)|h)<;>simp[h]
  ·rintro(h|h|h)<;>simp[h]
theorem xK:∀{l m:List ByteArray},gR m->gR (l.foldl (λl s=>jJ s l) m)
 |[],m,h=>h
 |s::l,m,h=>xK (l:=l) (xI h)
theorem wj{a b:List ByteArray}{x:ByteArray}:x∈jo a b↔x∈a\/x∈b:=by
 unfold jo
 rw[wk,List.mem_append]
 simp
theorem xJ(a b:List ByteArray):gR (jo a b):=xK (by simp[gR])
theorem yd{s:ByteArray}:∀{l:List ByteArray},(jJ s l).length<=l.length+1
 |[]=>by simp[jJ]
 |t::l=>by
  unfold jJ
  split
  ·simp
  ·split
   ·simp
   ·simp only[List.length_cons];have:=yd (s:=s) (l:=l);omega
theorem yB:∀{l m:List ByteArray},(l.foldl (λl s=>jJ s l) m).length<=m.length+l.length
 |[],m=>by simp
 |s::l,m=>by
  rw[List.foldl_cons]
  have a:=yB (l:=l) (m:=jJ s m)
  have b:=yd (s:=s) (l:=m)
  simp only[List.length_cons]
  omega
theorem Oq{a b:List ByteArray}:(jo a b).length<=a.length+b.length:=by
 have:=yB (l:=a++b) (m:=[])
 rw[List.length_append]at this
 simpa[jo]using this
theorem yA{l a b:List ByteArray}(h:gR l)(c:∀s,s∈l↔s∈a\/s∈b):l=jo a b:=
 sI h (xJ a b) λs=>by rw[c,wj]
structure cd where
 cs:List bA
 C:List (cB×List ByteArray)
 A:List (ByteArray×bL)
 V:List (ByteArray×Tok)
 last:Int
 now:Int
def fe(q:Nat)(s:cd)(T:ax):Prop:=CI q s.cs s.C s.A s.V s.last s.now T
def cd.zero:cd:=⟨[],[],[],[],0,0⟩
def gp(aE user:ByteArray)(t:bL):Bool:=decide (t.aE=aE)&&(decide (user=⟨#[]⟩)||decide (t.user=user))
def fA(aE user:ByteArray)(k:cB):Bool:=decide (k.2=aE)&&(decide (user=⟨#[]⟩)||decide (k.1=user))
def cd.drop(s:cd)(id user:ByteArray):cd:={s with C:=s.C.filter λx=> !fA id user x.1,A:=s.A.filter λx=> !gp id user x.2,V:=s.V.filter λx=> !gD id user x.2}
abbrev e0:ByteArray:=⟨#[]⟩
def bj(k:UInt8)(d:List UInt8):ByteArray:=⟨(k::46::dw d).toArray⟩
def jH(l all:List ByteArray):Bool:=l.all λs=>decide (s∈all)
def dD(C:List (cB×List ByteArray))(user id:ByteArray):List ByteArray:=(aU (user,id) C).getD []
def jA(id sec:ByteArray)(cs:List bA):Int:=if(cw id cs).map (·.cD)=some sec then 0 else 17
def eH(s:cd)(n:Int):Int×cd:=
 if er n s.now≠0 then(er n s.now,s)else(0,{s with now:=s.now+n,A:=s.A.filter λx=>decide (s.now+n<x.2.cq),V:=s.V.filter λx=>decide (s.now+n<x.2.cq)})
def mq(s:cd)(c:bA):Int×cd:=((dT s.cs c).1,{s with cs:=(dT s.cs c).2})
def fY(s:cd)(id:ByteArray):Int×cd:=if(cw id s.cs).isSome then(0,({s with cs:=iV id s.cs}:cd).drop id e0)else(11,s)
def dV(s:cd)(user id:ByteArray)(scopes:List ByteArray):Int×cd:=
 if dJ s.cs user id scopes≠0 then(dJ s.cs user id scopes,s)else(0,{s with C:=cT (user,id) (jo (dD s.C user id) scopes) s.C})
def ga(s:cd)(user id:ByteArray):Int×cd:=if(aU (user,id) s.C).isSome then(0,({s with C:=dO (user,id) s.C}:cd).drop id user)else(11,s)
def fx(c:UInt8):Int:=Lib.indexByte tx c
def ll(l:List UInt8):Nat->Nat
 |0=>0
 |j+1=>(fx (l.getD j 0)).toNat
def fX(l:List UInt8):Bool:=(l.all λc=>decide (0<=fx c))&&(decide (6*l.length % 8<6)&&(ll l l.length % 2^(6*l.length % 8)==0))
def lN(s:ByteArray):Bool:=fX s.data.toList&&decide (6*s.size/8=32)
def bX(s:cd)(user id uri:ByteArray)(scopes:List ByteArray)(ch:ByteArray):Int:=
 if(cw id s.cs).isSome=false then 17 else if kp id uri s.cs=false then 21 else if eL id scopes s.cs=false then 19 else if lN ch=false then 21 else if dt user=false then 9 else if jH scopes (dD s.C user id)=false then 20 else 0
def jk(s:cd)(user id uri:ByteArray)(scopes:List ByteArray)(ch:ByteArray)(d:List UInt8):bL:=⟨bj 99 d,id,user,uri,scopes,ch,s.now+60,s.last+1,false⟩
def bp(s:cd)(user id uri:ByteArray)(scopes:List ByteArray)(ch:ByteArray)(d:List UInt8):ByteArray×Int×cd:=
 if d.length≠24 then(e0,2,s)else if bX s user id uri scopes ch≠0 then(e0,bX s user id uri scopes ch,s)
 else if(dr s.A (jk s user id uri scopes ch d)).1≠0 then(e0,(dr s.A (jk s user id uri scopes ch d)).1,s)
 else(bj 99 d,0,{s with A:=(dr s.A (jk s user id uri scopes ch d)).2,last:=s.last+1})
def dG(s:cd)(a r:ByteArray):Int:=if(aU a s.V).isSome\/(aU r s.V).isSome then 22 else if 4094<s.V.length then 8 else 0
def eA(s:cd)(id sec:ByteArray)(a r:List UInt8):Int:=if a.length≠24\/r.length≠24 then 2 else jA id sec s.cs
def hP(text:ByteArray)(kind:Int)(ends:Int)(t:Tok):Tok:=⟨text,kind,t.aE,t.user,t.scopes,t.family,ends,t.rev,t.used⟩
def gO(V:List (ByteArray×Tok))(last now:Int)(a r:ByteArray)(t:Tok):List (ByteArray×Tok):=
 (fu (fu V last (hP a 1 (now+600) t)).2 last (hP r 2 (now+100000) t)).2
def jl(A:List (ByteArray×bL))(code id:ByteArray):Option bL:=(aU code A).filter λc=>decide (c.aE=id)&&c.used
def bM(s:cd)(id sec code uri ver:ByteArray)(a r:List UInt8)(rev:Int):ByteArray×ByteArray×Int×cd:=
 if eA s id sec a r≠0 then(e0,e0,eA s id sec a r,s)else
 match jl s.A code id with
 |some c=>(e0,e0,18,{s with V:=s.V.filter λx=> !(x.2.family==c.family)})
 |none=>
  if dG s (bj 97 a) (bj 114 r)≠0 then(e0,e0,dG s (bj 97 a) (bj 114 r),s)
  else if(bi s.A code id uri ver s.now).2.1≠0 then(e0,e0,18,{s with A:=(bi s.A code id uri ver s.now).2.2})
  else(bj 97 a,bj 114 r,0,{s with A:=(bi s.A code id uri ver s.now).2.2,V:=gO s.V s.last s.now (bj 97 a) (bj 114 r) ⟨e0,0,id,(bi s.A code id uri ver s.now).1.user,(bi s.A code id uri ver s.now).1.scopes,(bi s.A code id uri ver s.now).1.family,0,rev,false⟩})
def fq(V:List (ByteArray×Tok))(text id:ByteArray):Option Tok:=(aU text V).filter λt=>(t.kind==2)&&decide (t.aE=id)
def dC(s:cd)(id sec text:ByteArray)(scopes:List ByteArray)(a r:List UInt8)(rev:Int):ByteArray×ByteArray×Int×cd:=
 if eA s id sec a r≠0 then(e0,e0,eA s id sec a r,s)else
 match fq s.V text id with
 |none=>if dG s (bj 97 a) (bj 114 r)≠0 then(e0,e0,dG s (bj 97 a) (bj 114 r),s)else(e0,e0,18,s)
 |some t=>
  if t.used then(e0,e0,18,{s with V:=s.V.filter λx=> !(x.2.family==t.family)})
  else if dG s (bj 97 a) (bj 114 r)≠0 then(e0,e0,dG s (bj 97 a) (bj 114 r),s)
  else if t.cq<=s.now then(e0,e0,18,s)
  else if jH scopes t.scopes=false\/¬scopes.Nodup then(e0,e0,19,s)
  else(bj 97 a,bj 114 r,0,{s with V:=gO (cT text t.mark s.V) s.last s.now (bj 97 a) (bj 114 r) ⟨e0,0,id,t.user,if scopes=[]then t.scopes else scopes,t.family,0,rev,false⟩})
def fZ(s:cd)(id sec text:ByteArray):Int×cd:=
 if jA id sec s.cs≠0 then(jA id sec s.cs,s)else((eU s.V text id).1,{s with V:=(eU s.V text id).2})
def eB(s:cd)(x:OC):ByteArray×ByteArray×Int×cd:=
 if x.kind=0 then(e0,e0,eH s x.n)
 else if x.kind=1 then(e0,e0,mq s x.cl)
 else if x.kind=2 then(e0,e0,fY s x.id)
 else if x.kind=3 then(e0,e0,dV s x.user x.id x.scopes)
 else if x.kind=4 then(e0,e0,ga s x.user x.id)
 else if x.kind=5 then((bp s x.user x.id x.uri x.scopes x.word x.a).1,e0,(bp s x.user x.id x.uri x.scopes x.word x.a).2)
 else if x.kind=6 then bM s x.id x.cD x.text x.uri x.word x.a x.r x.rev
 else if x.kind=7 then dC s x.id x.cD x.text x.scopes x.a x.r x.rev
 else if x.kind=8 then(e0,e0,fZ s x.id x.cD x.text)
 else(e0,e0,0,s)
theorem KJ(g:Nat)(C:List (cB×List ByteArray))(A:List (ByteArray×bL))(T:ax)(h:GI g C A T)(user aE:ByteArray)(R:av):
  Spec prog 73 [pT g,.string user,.string aE] R [T] λv H'=>∃T',H'=[T']/\v=.bool (aU (user,aE) C).isSome/\GI g (dO (user,aE) C) A T':=by
 obtain⟨d,_,rfl,c,o,F,M,q,r,e,f,rfl,⟨a,m,l⟩,n,w,u,y⟩:=h
 obtain⟨i,rfl⟩:∃b,F=.map (some b):=by obtain⟨b,t,s,j,_⟩:=n;exact⟨b,j⟩
 have J:One c:=⟨by obtain⟨b,t,s,j,_⟩:=a;subst j;rfl⟩
 obtain⟨L,K,I,H,G,D⟩:=rW a.nd m l (user,aE)
 refine Spec.dg (H':=[bl g [c,.map (some i),pT q] 132,r,e++f,d]) (by simp) ?_
 refine Spec.body func73 rfl results73 ntmps73 rfl ?_
 refine .sr<|.ag rfl<|.zs<|.sr<|.mo rfl ?_
 refine .aM (mc g i _ _ _) (λv E=>?_)
 subst E
 refine .q .not<|.zn<|.bZ<|.kn<|.sr<|.mo rfl<|.nc rfl<|.fa rfl<|.lo rfl<|.mo rfl<|.mo rfl ?_
 refine .q .dI ?_
 refine .q (.kP (key:=((user,aE):cB)) a.rx rfl rfl) ?_
 refine .mo rfl<|.q .extract<|.q .extract<|.ag rfl<|.ag rfl<|.z<|.mo rfl<|.nc rfl<|.fa rfl<|.lo rfl<|.mo rfl<|.mo rfl ?_
 refine .q .dI ?_
 refine .delete a rfl (show _=some (Value.agg (hK (user,aE)).toArray)from rfl) (λk x _=>?_)
 refine .z<|.mo rfl<|.az rfl ?_
 refine .ret (aR _ (.one (.tmp rfl)) ((aI [0,0,0,0]).trans (aT.bu (H':=[((g,.cells [c,.map (some i),pT q].toArray 132 (0,0))::(k++(e++f)))++d]) (by simp[take,aZ]))) ?_)
 ·refine⟨_,rfl,by rw[D],d,_,rfl,c,eG (user,aE) o,_,M,q,k,e,f,rfl,⟨x,λp B=>m p (sh p B),?_⟩,n,w,u,y⟩
  rw[mm a.nd,nI]
  exact qv l
theorem vE(aE user c u:ByteArray)(b e:Nat)(R:av) [pc:PC R (pT b) [.string aE]] [f:PC R (.pointer (some ⟨e,0,none⟩)) [.string user]]:
  Spec prog 194 [.string c,.string u,pT b,.pointer (some ⟨e,0,none⟩)] R [] λv H'=>v=.bool (decide (c=aE)&&(decide (user=⟨#[]⟩)||decide (u=user)))/\H'=[]:=by
 refine Spec.body func194 rfl results194 ntmps194 rfl ?_
 refine .sr<|.ag rfl<|.z<|.mo rfl<|.lo rfl<|.q .ek<|.mo rfl ?_
 refine .split (t:=10) rfl (λa=>?_) (λa=>?_)
 refine .gT a<|.lo rfl<|.gT a<|.q .ek<|.gT a<|.mo rfl ?_
 refine .split (t:=13) rfl (λd=>?_) (λd=>?_)
 refine .gF d<|.gF d<|.gF d<|.gT a<|.q (.aY d) ?_
 refine .q (.aY a) ?_
 refine .az rfl ?_
 refine .ret (aO rfl ?_)
 ·refine⟨aea _ ?_,rfl⟩
  simp_all
 refine .gT d<|.mo rfl<|.gT d<|.lo rfl<|.gT d<|.q .ek<|.gT a<|.q (.aS d) ?_
 refine .q (.aY a) ?_
 refine .az rfl ?_
 refine .ret (aO rfl ?_)
 ·refine⟨aea _ ?_,rfl⟩
  simp_all
 refine .gF a<|.gF a<|.gF a<|.cX rfl ?_
 refine .cX rfl ?_
 refine .cX rfl ?_
 refine .gF a<|.q (.aS a) ?_
 refine .az rfl ?_
 refine .ret (aO rfl ?_)
 ·refine⟨aea _ ?_,rfl⟩
  simp_all
instance Pg(k:cB)(l:List cB):Decidable (k∈l):=decidable_of_iff (l.any (λx=>decide (x=k))=true) (by simp)
section
variable{κ β:Type} [DecidableEq κ] [dm:∀(k:κ) (l:List κ),Decidable (k∈l)]
theorem xL{M:List (κ×β)}(b:(M.map (·.1)).Nodup){todo:List κ}{q:κ×β->Bool}{k:κ}{x:β}(i:k∈todo)(f:(k,x)∈M)(d:q (k,x)=true):
  dO k (M.filter λy=>decide (y.1∈todo)|| !q y)=M.filter λy=>decide (y.1∈todo.filter λk'=>decide (k'≠k))|| !q y:=by
 unfold dO
 rw[List.filter_filter]
 refine aef λy g=>?_
 by_cases h:y.1=k
 ·have c:aU k M=some y.2:=gC b (by rw[<-h];exact g)
  have a:aU k M=some x:=gC b f
  rw[c]at a
  simp only[aep]at a
  have e:y=(k,x):=by rw[<-h, <-a]
  rw[e]
  simp[d]
 ·simp[h,aeb]
theorem xM{M:List (κ×β)}(b:(M.map (·.1)).Nodup){todo:List κ}{q:κ×β->Bool}{k:κ}{x:β}(i:k∈todo)(f:(k,x)∈M)(d:q (k,x)=false):
  (M.filter λy=>decide (y.1∈todo)|| !q y)=M.filter λy=>decide (y.1∈todo.filter λk'=>decide (k'≠k))|| !q y:=by
 refine aef λy g=>?_
 by_cases h:y.1=k
 ·have c:aU k M=some y.2:=gC b (by rw[<-h];exact g)
  have a:aU k M=some x:=gC b f
  rw[c]at a
  simp only[aep]at a
  have e:y=(k,x):=by rw[<-h, <-a]
  rw[e]
  simp[d]
 ·simp[h,aeb]
omit dm
theorem Km{l:List κ}{k:κ}:((l.filter λk'=>decide (k'≠k)).filter λk'=>decide (k'≠k))=l.filter λk'=>decide (k'≠k):=by
 rw[List.filter_filter]
 exact aef λx _=>by simp
theorem Kl{l:List κ}{k:κ}(h:k∈l):(l.filter λk'=>decide (k'≠k)).length<l.length:=by
 refine List.length_filter_lt_length_iff_exists.2 ⟨k,h,by simp⟩
omit [DecidableEq κ] in
theorem KU{γ:Type}{f:β->γ}{q:κ->Bool}{A:List (κ×β)}:(dP f A).filter (λx=>q x.1)=dP f (A.filter λx=>q x.1):=by
 unfold dP
 rw[List.filter_map]
 rfl
end
theorem Kw(g:Nat)(C:List (cB×List ByteArray))(A:List (ByteArray×bL))(T:ax)(h:GI g C A T)(aE user:ByteArray)(R:av):
  Spec prog 134 [pT g,.string aE,.string user] R [T] λv H'=>∃T',H'=[T']/\v=.tuple #[]/\GI g (C.filter λx=> !fA aE user x.1) (A.filter λx=> !gp aE user x.2) T':=by
 obtain⟨S,_,rfl,D,E,vm,M,q,Tc,W,Tq,rfl,⟨O,c9,hC⟩,L,hI,hA,hQ⟩:=h
 obtain⟨G,rfl⟩:∃b,vm=.map (some b):=by obtain⟨b,es,c8,h1,_⟩:=L;exact⟨b,h1⟩
 have ic:One D:=⟨by obtain⟨b,es,c8,h1,_⟩:=O;subst h1;rfl⟩
 have d0:=hQ.perm (mg hA.symm)
 refine Spec.dg (H':=[bl g [D,.map (some G),pT q] 132,Tc,W,Tq,S]) (by simp) ?_
 refine Spec.body func134 rfl results134 ntmps134 rfl ?_
 refine .sr ?_
 refine .ko rfl (λw=>?_)
 refine .ko rfl (λB=>?_)
 refine .zs<|.sr<|.mo rfl ?_
 refine .aM (mc g G _ _ _) (λv hv=>?_)
 subst hv
 refine .q .not<|.zn<|.bZ<|.kn<|.sr<|.q .makeFunc<|.ag rfl<|.zs<|.sr<|.mo rfl<|.nc rfl<|.fa rfl<|.lo rfl ?_
 refine .range (O.rm (R:=sg Tc) λp I=>I) (λb o d=>.inr (by have e:(b,o)∈Tc:=d;simp[e])) rfl (λit c6 d2=>?_)
 refine .zn<|.block ?_
 refine .loop (X:=List cB×List (cB×WS)×ax×ax) (λy=>y.1.Nodup/\(y.2.1=E.filter λx=>decide (x.1∈y.1)|| !fA aE user x.1)/\MS (λk:cB=>.agg (hK k).toArray) (λp:WS=>p.1) D y.2.1 y.2.2.1/\It (sg y.2.2.1) (λk:cB=>.agg (hK k).toArray) (λp:WS=>p.1) D y.2.1 it y.1 y.2.2.2) (λy=>[(0,pT g),(6,.func (.func 194) #[] [pT w,pT B].toArray),(18,it)]) (λy=>[y.2.2.2,bl B [.string user] 9,bl w [.string aE] 9,bl g [D,.map (some G),pT q] 132,y.2.2.1,W,Tq,S]) (λy=>y.1.length) (E.map (·.1),E,Tc,c6) ⟨O.nd,(aek.2 λx hx=>by
  have b8:x.1∈E.map (·.1):=aed.2 ⟨x,hx,rfl⟩
  show(decide (x.1∈E.map (·.1))||_)=true
  rw[aei b8];rfl).symm,O,d2⟩ kE.c.c.c rH ?_
 rintro⟨a4,n,F,d7⟩ ⟨a3,Z,N,a1⟩
 simp only at a3 Z N a1⊢
 refine .sr ?_
 refine .nf a1 (λb o d=>.inr (by have e:(b,o)∈F:=d;simp[e])) rfl (λb rest U b2 ht=>?_)
 refine .q .extract<|.zs ?_
 refine .cond rfl (λh2=>?_) λh2=>?_
 obtain⟨k,w0,H,b6,j⟩:=ht h2
 have Q:(k,w0)∈E:=(aeb.1 (Z▸fH b6)).1
 have m:(a4.filter λa=>decide (a≠k)).Nodup:=a3.sublist aej
 have l:=Kl H
 have ik:bJ (hK k):=inferInstance
 refine .kn<|.block<|.sr ?_
 refine .q (.entry j (λb o d=>.inr (by have e:(b,o)∈F:=d;simp[e])) rfl) ?_
 refine .q .extract ?_
 refine .cN (λb7=>?_)
 refine .ct (cs:=hK k) rfl rfl ?_
 refine .z<|.mo rfl<|.fa rfl<|.lo rfl<|.fa rfl<|.lo rfl ?_
 refine .gK (first:=[]) (captured:=[pT w,pT B]) (vs:=[.string k.2,.string k.1]) (vE aE user k.2 k.1 w B _) (λu hu=>?_)
 subst hu
 refine .zn ?_
 refine .cond rfl (λh3=>?_) λh3=>?_
 refine .df 5 mixed (by kernel_rfl) ?_
 conv=>arg 6;dsimp only[List.take]
 refine .mo rfl<|.nc rfl<|.fa rfl<|.lo rfl<|.q (.bK rfl)<|.nil ?_
 refine .delete N rfl (show _=some (Value.agg (hK k).toArray)from rfl) (λc1 f d3=>?_)
 have a2:=d3 it _ U j.it
 rw[Km]at a2
 have a6:eG k n=dO k n:=mm N.nd
 have i:=xL (q:=λx:cB×WS=>fA aE user x.1) O.nd H Q h3
 rw[<-Z, <-a6]at i
 refine .nil<|bz ?_
 ·first
   |exact bf (a4.filter λa=>decide (a≠k),eG k n,c1,U) ⟨m,i,f,a2⟩ l kE.c.c.c (aI [1,1,1,1,1,1,1,1])
   |exact bf (a4.filter λa=>decide (a≠k),n,F,U) ⟨m,a7,N,j.it⟩ l kE.c.c.c (aI [1,1,1,1,1,1,1,1])
 have a7:=xM (q:=λx:cB×WS=>fA aE user x.1) O.nd H Q h3
 rw[<-Z]at a7
 refine .skip<|bz ?_
 ·first
   |exact bf (a4.filter λa=>decide (a≠k),eG k n,c1,U) ⟨m,i,f,a2⟩ l kE.c.c.c (aI [1,1,1,1,1,1,1,1])
   |exact bf (a4.filter λa=>decide (a≠k),n,F,U) ⟨m,a7,N,j.it⟩ l kE.c.c.c (aI [1,1,1,1,1,1,1,1])
 have d5:=b2 h2
 subst d5
 have c4:n=E.filter λx=> !fA aE user x.1:=by rw[Z];exact aef λx _=>by simp
 refine .exit<|bD<|bH<|bF<|aD<|.sr<|.mo rfl<|.nc rfl<|.fa rfl<|.lo rfl ?_
 refine .range (L.rm (R:=sg W) λp I=>I) (λb o d=>.inr (by have e:(b,o)∈W:=d;simp[e])) rfl (λc0 c7 a2=>?_)
 refine .zn<|.block ?_
 refine .loop (X:=List ByteArray×List (ByteArray×GP)×ax×ax×ax) (λy=>y.1.Nodup/\(y.2.1=M.filter λx=>decide (x.1∈y.1)|| !gp aE user x.2.2)/\MS (λs:ByteArray=>.string s) (λp:GP=>.agg (bO p).toArray) (.map (some G)) y.2.1 y.2.2.1/\It (sg y.2.2.1) (λs:ByteArray=>.string s) (λp:GP=>.agg (bO p).toArray) (.map (some G)) y.2.1 c0 y.1 y.2.2.2.2/\QI q (dP (λt:bL=>t.cq) (dP (λp:GP=>p.2) y.2.1)) y.2.2.2.1) (λy=>[(0,pT g),(6,.func (.func 194) #[] [pT w,pT B].toArray),(38,c0)]) (λy=>[y.2.2.2.2,bl B [.string user] 9,bl w [.string aE] 9,bl g [D,.map (some G),pT q] 132,F,y.2.2.1,y.2.2.2.1,S]) (λy=>y.1.length) (M.map (·.1),M,W,Tq,c7) ⟨L.nd,(aek.2 λx hx=>by
  have b8:x.1∈M.map (·.1):=aed.2 ⟨x,hx,rfl⟩
  show(decide (x.1∈M.map (·.1))||_)=true
  rw[aei b8];rfl).symm,L,a2,d0⟩ kE.c.c.c (aI [0,1,1,1,1,1,1,1]) ?_
 rintro⟨a5,r,K,Y,d8⟩ ⟨a3,i,f,a1,a0⟩
 simp only at a3 i f a1 a0⊢
 refine .sr ?_
 refine .nf a1 (λb o d=>.inr (by have e:(b,o)∈K:=d;simp[e])) rfl (λb rest V b2 ht=>?_)
 refine .q .extract<|.zs ?_
 refine .cond rfl (λh4=>?_) λh4=>?_
 obtain⟨k,⟨w0,J⟩,H,b6,j⟩:=ht h4
 have Q:(k,((w0,J):GP))∈M:=(aeb.1 (i▸fH b6)).1
 obtain⟨_,d1,d9⟩:=hI _ Q
 have i0:bJ (bO (w0,J)):=⟨d1.bG⟩
 have m:(a5.filter λa=>decide (a≠k)).Nodup:=a3.sublist aej
 have l:=vh H
 refine .kn<|.block<|.sr ?_
 refine .q (.entry j (λb o d=>.inr (by have e:(b,o)∈K:=d;simp[e])) rfl) ?_
 refine .q .extract<|.q .extract ?_
 refine .cN (λb9=>?_)
 refine .ag rfl<|.ct (cs:=bO (w0,J)) rfl rfl ?_
 refine .z<|.mo rfl<|.fa rfl<|.lo rfl<|.fa rfl<|.lo rfl ?_
 refine .gK (first:=[]) (captured:=[pT w,pT B]) (vs:=[.string J.aE,.string J.user]) (vE aE user J.aE J.user w B _) (λu hu=>?_)
 subst hu
 refine .zn ?_
 refine .cond rfl (λh5=>?_) λh5=>?_
 refine .sr<|.mo rfl<|.nc rfl<|.fa rfl<|.lo rfl<|.mo rfl ?_
 refine .delete f rfl (show _=some (Value.string k)from rfl) (λc2 c5 d4=>?_)
 have b3:=d4 c0 _ V j.it
 rw[vi]at b3
 have a6:eG k r=dO k r:=mm f.nd
 have b0:=xL (q:=λx:ByteArray×GP=>gp aE user x.2.2) L.nd H Q h5
 rw[<-i, <-a6]at b0
 refine .zn<|.region<|.mo rfl<|.nc rfl<|.fa rfl<|.lo rfl<|.mo rfl ?_
 refine .bW (xt q _ Y a0 k _) (λv c3 hv=>?_)
 obtain⟨rfl,b1⟩:=hv
 rw[<-nI, <-nI, <-a6]at b1
 refine .nil<|bz ?_
 ·first
   |exact bf (a5.filter λa=>decide (a≠k),eG k r,c2,c3,V) ⟨m,b0,c5,b3,b1⟩ l kE.c.c.c (aI [1,1,1,1,1,1,1,1])
   |exact bf (a5.filter λa=>decide (a≠k),r,K,Y,V) ⟨m,a8,f,j.it,a0⟩ l kE.c.c.c (aI [1,1,1,1,1,1,1,1])
 have a8:=xM (q:=λx:ByteArray×GP=>gp aE user x.2.2) L.nd H Q h5
 rw[<-i]at a8
 refine .skip<|bz ?_
 ·first
   |exact bf (a5.filter λa=>decide (a≠k),eG k r,c2,c3,V) ⟨m,b0,c5,b3,b1⟩ l kE.c.c.c (aI [1,1,1,1,1,1,1,1])
   |exact bf (a5.filter λa=>decide (a≠k),r,K,Y,V) ⟨m,a8,f,j.it,a0⟩ l kE.c.c.c (aI [1,1,1,1,1,1,1,1])
 have d6:=b2 h4
 subst d6
 have a9:r=M.filter λx=> !gp aE user x.2.2:=by rw[i];exact aef λx _=>by simp
 refine .exit<|bD<|bH<|bF ?_
 refine eh _ .none ((aI [3,3,3,3,3]).trans (aT.bu (H':=[((g,.cells [D,.map (some G),pT q].toArray 132 (0,0))::(F++(K++Y)))++S]) (by simp[take,aZ]))) ?_
 ·refine⟨_,rfl,rfl,S,_,rfl,D,n,_,r,q,F,K,Y,rfl,⟨N,λp I=>c9 p (aeb.1 (c4▸I)).1,?_⟩,f,λp I=>hI p (aeb.1 (a9▸I)).1,?_,?_⟩
  ·rw[c4, <-KU (q:=λk:cB=> !fA aE user k)]
   exact hC.filter _
  ·rw[a9, <-mf (q:=λt:bL=> !gp aE user t)]
   exact hA.filter _
  ·refine a0.perm (mg ?_)
   rw[a9, <-mf (q:=λt:bL=> !gp aE user t)]
   exact hA.filter _
theorem wz(c:UInt8):fx c<64:=by
 have e:∀k:Fin 256,fx (UInt8.ofNat k.val)<64:=by decide+kernel
 have:=e ⟨c.toNat,c.toNat_lt⟩
 simpa using this
theorem tH{l:List UInt8}:(l.all λc=>decide (0<=fx c))=true↔∀j,j<l.length->0<=fx (l.getD j 0):=by
 rw[List.all_eq_true]
 constructor
 ·intro h j a
  have:=h (l.getD j 0) (by rw[aer,bC a];exact List.getElem_mem a)
  simpa using this
 ·intro h c b
  obtain⟨j,a,rfl⟩:=List.getElem_of_mem b
  have:=h j a
  rw[aer,bC a]at this
  simpa using this
theorem zj(s:ByteArray)(hs:s.size<=1000000)(R:av):Spec prog 200 [.string s] R [] λv H'=>∃T,H'=[T]/\∃w xs,v=.tuple [w,.int .i64 (if fX s.data.toList then 0 else 4)].toArray/\OS 5 1 cO w xs T/\(fX s.data.toList=true->xs.length=6*s.size/8):=by
 have H:s.data.toList.length=s.size:=rfl
 obtain⟨l,M⟩:∃l,l=s.data.toList:=⟨_,rfl⟩
 rw[<-M]at H⊢
 refine Spec.body func200 rfl results200 ntmps200 rfl ?_
 refine .sr<|.ag rfl<|.ag rfl<|.z<|.ag rfl<|.z<|.ag rfl<|.ag rfl<|.zs<|.sr<|.mo rfl<|.q .fG<|.mo rfl<|.zn<|.block ?_
 refine .loop (X:=Nat×Nat×List UInt8×Value×ax) (λy=>y.1<=s.size/\(∀j,j<y.1->0<=fx (l.getD j 0))/\(y.2.1<eI/\y.2.1 % 64=ll l y.1)/\OS 5 1 cO y.2.2.2.1 y.2.2.1 y.2.2.2.2/\y.2.2.1.length=6*y.1/8) (λy=>[(0,.string s),(4,y.2.2.2.1),(5,.int .u64 (y.2.1:Nat)),(6,.int .i64 ((6*y.1 % 8:Nat):Int)),(10,iN s.size),(11,iN y.1)]) (λy=>[y.2.2.2.2]) (λy=>s.size-y.1) (0,0,[],sZ,[]) ⟨Nat.zero_le _,λj G=>absurd G (by simp),⟨by decide,rfl⟩,OS.nil,rfl⟩ kE.c.c.c.c.c.c (aT.bu (by simp)) ?_
 rintro⟨i,h,xs,S,T⟩ ⟨Z,F,⟨L,N⟩,g,O⟩
 simp only at Z F L N g O⊢
 have io:=g.aw
 refine .sr<|.q .lss<|.zs ?_
 refine .cond rfl (λB=>?_) λB=>?_
 have d:i<s.size:=dQ B
 have W:s[i]'d=l.getD i 0:=by
  subst M
  rw[aer,bC (by rw[H];exact d)]
  rfl
 refine .kn<|.seq<|.block<|.sr<|.mo rfl<|.ag rfl<|.z<|.mo rfl<|.mo rfl<|.q (.iJ (p:=s) i d) ?_
 refine .aM (yc k3 _ _) (λv hv=>?_)
 subst hv
 have V:((s[i]'d).toNat:Int).toNat.toUInt8=s[i]'d:=by simp
 rw[V,W]
 have A:Lib.indexByte k3.data.toList (l.getD i 0)=fx (l.getD i 0):=rfl
 rw[A]
 refine .ag rfl<|.zs<|.sr<|.mo rfl<|.q .lss<|.zn ?_
 refine .cond rfl (λC=>?_) λC=>?_
 have f:fX l=false:=by
  have I:fx (l.getD i 0)<0:=by simpa using C
  unfold fX
  rw[show(l.all λc=>decide (0<=fx c))=false from Bool.eq_false_iff.2 (λh9=>by have:=tH.1 h9 i (by omega);omega),Bool.false_and]
 refine .sr<|.ag rfl<|.az rfl ?_
 refine .ret (aL (br (aL (dn (br (aL (aR _ (.two (.tmp rfl) (.tmp rfl)) (.one [] _) ?_)))))))
 ·exact⟨_,rfl,_,[],by rw[f];rfl,OS.nil,λh9=>by rw[f]at h9;cases h9⟩
 have I:0<=fx (l.getD i 0):=by simpa using C
 have a3:=wz (l.getD i 0)
 obtain⟨x,A⟩:∃x:Nat,fx (l.getD i 0)=(x:Int):=⟨_,(Int.toNat_of_nonneg I).symm⟩
 rw[A]at a3⊢
 have a5:h*2^6 % eI|||x=(h % 2^58)*2^6+x:=by
  rw[show h*2^6 % eI=(h % 2^58)*2^6 from by simp only[eI];omega,wU (by omega)]
 have u:((h % 2^58)*2^6+x) % 64=ll l (i+1):=by
  show _=(fx (l.getD i 0)).toNat
  rw[A]
  simp;omega
 have r:(h % 2^58)*2^6+x<eI:=by simp only[eI];omega
 have o:∀j,j<i+1->0<=fx (l.getD j 0):=λj G=>by
  rcases Nat.lt_or_ge j i with h9|h9
  ·exact F j h9
  ·obtain rfl:j=i:=by omega
   exact I
 refine .kn<|.sr<|.mo rfl ?_
 refine .q (.qS (a:=h) (n:=6) rfl rfl (by decide)) ?_
 refine .mo rfl ?_
 refine .q (.qX (a:=x) rfl (by simp only[eI];omega)) ?_
 refine .q (.wT rfl rfl (Nat.mod_lt _ (by decide)) (by simp only[eI];omega)) ?_
 rw[a5]
 refine .ag rfl<|.z<|.mo rfl ?_
 refine .ia (6*i % 8+6) .add ?_
 refine .ag rfl<|.z<|.mo rfl<|.q .geq<|.zn ?_
 refine .cond rfl (λD=>?_) λD=>?_
 have U:8<=6*i % 8+6:=by simp at D;omega
 refine .sr<|.mo rfl ?_
 refine .ia (6*(i+1) % 8) .sub ?_
 refine .az rfl<|.region<|.mo rfl<|.mo rfl<|.mo rfl ?_
 refine .q (.yb rfl rfl (by omega)) ?_
 refine .q (.s7 rfl) ?_
 refine .ig (λa6=>?_)
 refine .append g (RS.lits (xs:=[UInt8.ofNat (((h % 2^58)*2^6+x)/2^(6*(i+1) % 8))]) rfl (by simp[cO]) (by simp[cO,aw])) (by simp;omega) (λQ J K=>?_)
 refine .ag rfl<|.nil<|bz<|aD<|.region ?_
 refine .ia (i+1) .add ?_
 refine .mo rfl<|.nil ?_
 ·first
   |exact bf (i+1,(h % 2^58)*2^6+x,xs++[UInt8.ofNat (((h % 2^58)*2^6+x)/2^(6*(i+1) % 8))],Q,J) ⟨d,o,⟨r,u⟩,K,by simp;omega⟩ (by simp only;omega) kE.c.c.c.c.c.c (aI [1])
   |exact bf (i+1,(h % 2^58)*2^6+x,xs,S,T) ⟨d,o,⟨r,u⟩,g,by simp only;omega⟩ (by simp only;omega) kE.c.c.c.c.c.c rH
 have U:¬8<=6*i % 8+6:=by simp at D;omega
 rw[show 6*i % 8+6=6*(i+1) % 8 from by omega]
 refine .skip<|bz<|aD<|.region ?_
 refine .ia (i+1) .add ?_
 refine .mo rfl<|.nil ?_
 ·first
   |exact bf (i+1,(h % 2^58)*2^6+x,xs++[UInt8.ofNat (((h % 2^58)*2^6+x)/2^(6*(i+1) % 8))],Q,J) ⟨d,o,⟨r,u⟩,K,by simp;omega⟩ (by simp only;omega) kE.c.c.c.c.c.c (aI [1])
   |exact bf (i+1,(h % 2^58)*2^6+x,xs,S,T) ⟨d,o,⟨r,u⟩,g,by simp only;omega⟩ (by simp only;omega) kE.c.c.c.c.c.c rH
 have a0:i=s.size:=by have:=bo B;omega
 subst a0
 have Y:(l.all λc=>decide (0<=fx c))=true:=tH.2 λj G=>F j (by omega)
 have E:fX l=(decide (6*s.size % 8<6)&&(ll l s.size % 2^(6*s.size % 8)==0)):=by unfold fX;rw[Y,H,Bool.true_and]
 refine .exit<|bD<|bH<|bF<|aD<|.seq<|.sr<|.mo rfl<|.q .geq<|.mo rfl ?_
 refine .split (t:=41) rfl (λb=>?_) (λb=>?_)
 refine .gF b<|.gF b<|.gF b<|.gF b<|.gF b<|.gF b<|.q (.aY b) ?_
 refine .zn<|.dF<|.sr<|.ag rfl<|.az rfl ?_
 refine .ret (aL (aR _ (.two (.tmp rfl) (.tmp rfl)) (.one [] _) ?_))
 ·have f:fX l=false:=by
   rw[E,decide_eq_false (by simp at b;omega),Bool.false_and]
  exact⟨_,rfl,_,[],by rw[f];rfl,OS.nil,λh9=>by rw[f]at h9;cases h9⟩
 have a1:6*s.size % 8<6:=by simp at b;omega
 have a8:2^(6*s.size % 8)<=32:=aec (Nat.pow_le_pow_right (by decide) (show 6*s.size % 8<=5 by omega)) (by decide)
 have a7:1<=2^(6*s.size % 8):=Nat.one_le_two_pow
 refine .gT b<|.mo rfl<|.gT b<|.mo rfl<|.gT b ?_
 refine .q (.qS (a:=1) (n:=6*s.size % 8) rfl rfl (by omega)) ?_
 rw[show 1*2^(6*s.size % 8) % eI=2^(6*s.size % 8)from by rw[Nat.one_mul];exact Nat.mod_eq_of_lt (by simp only[eI];omega)]
 refine .gT b ?_
 refine .q (.u64 (((2^(6*s.size % 8)-1:Nat)):Int) .sub ⟨by omega,by omega,by omega⟩) ?_
 refine .gT b ?_
 refine .q (.rk rfl rfl L (by simp only[eI];omega)) ?_
 rw[Nat.and_two_pow_sub_one_eq_mod, <-Nat.mod_mod_of_dvd h (Nat.pow_dvd_pow 2 (show 6*s.size % 8<=6 by omega)),show h % 2^6=ll l s.size from N]
 refine .gT b<|.q .dL<|.q (.aS b) ?_
 refine .zn ?_
 refine .cond rfl (λk=>?_) λk=>?_
 refine .sr<|.ag rfl<|.az rfl ?_
 refine .ret (aL (aR _ (.two (.tmp rfl) (.tmp rfl)) (.one [] _) ?_))
 ·have f:fX l=false:=by
   rw[E]
   have:¬ll l s.size % 2^(6*s.size % 8)=0:=λe=>by rw[e]at k;simp at k
   simp[this]
  exact⟨_,rfl,_,[],by rw[f];rfl,OS.nil,λh9=>by rw[f]at h9;cases h9⟩
 refine .kn<|.sr<|.mo rfl<|.ag rfl<|.az rfl ?_
 refine .ret (aR _ (.two (.tmp rfl) (.tmp rfl)) (.one [0] _) ?_)
 ·have a4:fX l=true:=by
   rw[E,aei a1]
   obtain⟨m,a2⟩:∃m,ll l s.size % 2^(6*s.size % 8)=m:=⟨_,rfl⟩
   rw[a2]at k⊢
   simp at k⊢
   omega
  exact⟨_,rfl,_,xs,by rw[a4];rfl,by simpa[take]using g,λ_=>O⟩
theorem LW(s:ByteArray)(f:s.size<=1000000)(R:av):Spec prog 148 [.string s] R [] λv H'=>v=.bool (lN s)/\H'=[]:=by
  refine Spec.body func148 rfl results148 ntmps148 rfl ?_
  refine .sr<|.ag rfl<|.z<|.mo rfl ?_
  refine .da (zj s f _) (λv T g=>?_)
  obtain⟨w,i,rfl,b,c⟩:=g
  have h:=b.aw
  refine .mo rfl<|.q .extract<|.q .extract<|.ag rfl<|.ag rfl<|.z<|.mo rfl<|.q .bS<|.mo rfl ?_
  refine .split (t:=12) rfl (λa=>?_) (λa=>?_)
  refine .gT a<|.mo rfl<|.gT a<|.q (.ec b) ?_
  refine .gT a<|.q .bS<|.q (.aY a) ?_
  refine .az rfl ?_
  refine .ret (aO rfl ?_)
  ·refine⟨aea Value.bool ?_,rfl⟩
   unfold lN
   cases e:fX s.data.toList
   ·simp_all
   ·have d:=c e
    first
      |(rw[e]at a;simp at a;done)
      |(rw[Bool.true_and,Bool.eq_iff_iff]
        simp
        omega)
  refine .gF a<|.gF a<|.gF a<|.q (.aS a) ?_
  refine .az rfl ?_
  refine .ret (aO rfl ?_)
  ·refine⟨aea Value.bool ?_,rfl⟩
   unfold lN
   cases e:fX s.data.toList
   ·simp_all
   ·have d:=c e
    first
      |(rw[e]at a;simp at a;done)
      |(rw[Bool.true_and,Bool.eq_iff_iff]
        simp
        omega)
theorem qC(k:UInt8)(v:Value)(d:List UInt8)(R:av)(h:RS R 1 cO v d)(c:d.length<=1000):Spec prog 75 [.string ⟨#[k]⟩,v] R [] λu H'=>u=.string (bj k d)/\H'=[]:=by
 have e:=h.aw
 have b:=mF d
 refine Spec.body func75 rfl results75 ntmps75 rfl ?_
 refine .sr<|.ag rfl<|.z<|.mo rfl<|.q (.gI (p:=⟨#[k]⟩) (q:=⟨#[46]⟩) (Nat.le_of_ble_eq_true rfl) rfl rfl) ?_
 refine .mo rfl ?_
 refine .aM (tV v d _ h.rx (by omega)) (λu a=>?_)
 subst a
 refine .q (.gI (p:=⟨#[k]⟩++⟨#[46]⟩) (q:=⟨(dw d).toArray⟩) (by rw[ByteArray.size_append,fz (dw d)];show 1+1+_<=_;omega) rfl rfl) ?_
 refine .az rfl ?_
 refine .ret (aO rfl ?_)
 ·refine⟨aea Value.string ?_,rfl⟩
  rw[show(⟨#[k]⟩:ByteArray)=⟨[k].toArray⟩from rfl,show(⟨#[46]⟩:ByteArray)=⟨[46].toArray⟩from rfl,lc,lc]
  rfl
theorem LH(a:Value)(l:List ByteArray)(s:ByteArray)(b:Nat)(R:av)(h:RS R 1 bB a l) [pc:PC R (pT b) [a]]:Spec prog 159 [.string s,pT b] R [] λu H'=>u=.bool (!decide (s∈l))/\H'=[]:=by
 have d:=h.aw
 refine Spec.body func159 rfl results159 ntmps159 rfl ?_
 refine .sr<|.ag rfl<|.z<|.lo rfl<|.mo rfl ?_
 refine .aM (qR a l s _ h.rx) (λu c=>?_)
 subst c
 refine .q .not<|.az rfl ?_
 refine .ret (aO rfl ?_)
 ·exact⟨rfl,rfl⟩
theorem wZ(v a:Value)(l m:List ByteArray)(R:av)(h:RS R 1 bB v l)(e:RS R 1 bB a m):Spec prog 87 [v,a] R [] λu H'=>u=.bool (jH l m)/\H'=[]:=by
 have k:=h.aw
 have n:=e.aw
 refine Spec.body func87 rfl results87 ntmps87 rfl ?_
 refine .sr ?_
 refine .ko rfl (λc=>?_)
 refine .ag rfl<|.z<|.mo rfl<|.q .makeFunc ?_
 refine .aM (sL 159 [pT c] (λs=> !decide (s∈m)) v l _ h.rx λs j d f=>by
  have:PC d (pT c) [a]:=PC.of (E:=23) (fr:=(0,0)) (f _ _ (.inr (by simp)))
  exact LH a m s c d (e.mono λb o g=>f b o (.inl g))) (λu i=>?_)
 subst i
 refine .q .not<|.az rfl ?_
 refine .ret (aO rfl ?_)
 ·exact⟨by unfold jH;rw[List.all_eq_not_any_not],rfl⟩
theorem KQ:dt e0=false:=by decide+kernel
theorem KR{s:ByteArray}(h:dt s=true):s≠e0:=λe=>by rw[e,KQ]at h;cases h
theorem wm{κ β:Type} [DecidableEq κ]{q:κ->Bool}{k:κ}:∀{A:List (κ×β)},aU k (A.filter λx=>q x.1)=if q k=true then aU k A else none
 |[]=>by simp[aU]
 |(k',x)::A=>by
  have b:=wm (q:=q) (k:=k) (A:=A)
  by_cases a:q k'=true
  ·rw[List.filter_cons_of_pos (by exact a)]
   unfold aU
   rw[b]
   by_cases e:k=k'
   ·subst e;simp[a]
   ·simp[e]
  ·rw[List.filter_cons_of_neg (by simpa using a),b]
   by_cases e:k=k'
   ·subst e;simp[a]
   ·rw[show aU k ((k',x)::A)=aU k A from by rw[aU,ad8 e]]
theorem uy{id k:ByteArray}(b:k≠id):∀{A:List bA},cw k (iV id A)=cw k A
 |[]=>rfl
 |c::A=>by
  have d:=uy b (A:=A)
  unfold cw iV at *
  by_cases h:c.id=id
  ·rw[List.filter_cons_of_neg (by simp[h]),d,aes (by simp only[aem];exact λe=>b (by rw[<-e,h]))]
  ·rw[List.filter_cons_of_pos (by simp[h])]
   by_cases a:c.id=k
   ·rw[List.find?_cons_of_pos (by simp[a]),List.find?_cons_of_pos (by simp[a])]
   ·rw[aes (by simp[a]),aes (by simp[a]),d]
theorem yw{A:List (ByteArray×Tok)}{last:Int}{t:Tok}{p:ByteArray×Tok}(h:p∈(fu A last t).2):p∈A\/p=(t.text,t.fresh):=by
 unfold fu at h
 split at h
 ·exact .inl h
 ·split at h
  ·exact .inl h
  ·split at h
   ·exact .inl h
   ·exact(nK h).imp (λh=>h.1) id
theorem LN{V:List (ByteArray×Tok)}{last now:Int}{a r:ByteArray}{t:Tok}{p:ByteArray×Tok}(h:p∈gO V last now a r t):
  p∈V\/p=(a,(hP a 1 (now+600) t).fresh)\/p=(r,(hP r 2 (now+100000) t).fresh):=by
 rcases yw h with h|h
 ·exact(yw h).imp id .inl
 ·exact .inr (.inr h)
theorem rY(A:List (ByteArray×bL))(t:bL):(dr A t).1≠0/\(dr A t).2=A\/(dr A t).1=0/\(dr A t).2=cT t.text t.fresh A/\aU t.text A=none/\A.length<4096:=by
 unfold dr
 split
 ·exact .inl ⟨by simp,rfl⟩
 ·rename_i h
  split
  ·exact .inl ⟨by simp,rfl⟩
  ·exact .inr ⟨rfl,rfl,by simpa using h,by omega⟩
theorem rZ(A:List (ByteArray×bL))(k aE a b:ByteArray)(now:Int):((bi A k aE a b now).2.1≠0/\(bi A k aE a b now).2.2=A)\/
  ((bi A k aE a b now).2.1=0/\∃t,aU k A=some t/\t.aE=aE/\t.used=false/\now<t.cq/\(bi A k aE a b now).1=t.mark/\(bi A k aE a b now).2.2=cT k t.mark A):=by
 unfold bi
 split
 ·exact .inl ⟨by simp,rfl⟩
 ·rename_i t d
  split
  ·exact .inl ⟨by simp,rfl⟩
  ·rename_i c
   split
   ·exact .inl ⟨by simp,rfl⟩
   ·rename_i e
    split
    ·exact .inl ⟨by simp,rfl⟩
    ·rename_i f
     exact .inr ⟨rfl,t,d,by simpa using c,by simpa using e,by omega,rfl,rfl⟩
theorem Oj{A:List (ByteArray×Tok)}{k aE:ByteArray}{p:ByteArray×Tok}(h:p∈(eU A k aE).2):p∈A:=by
 unfold eU at h
 split at h
 ·exact h
 ·split at h
  ·exact h
  ·split at h
   ·exact(aeb.1 h).1
   ·exact(aeb.1 h).1
theorem su{V:List (ByteArray×Tok)}{b id:ByteArray}{t:Tok}(h:fq V b id=some t):aU b V=some t/\t.kind=2/\t.aE=id:=by
 unfold fq at h
 obtain⟨c,a⟩:=aet.1 h
 simp at a
 exact⟨c,a⟩
def kD(cs:List bA)(C:List (cB×List ByteArray))(cl us:ByteArray)(l:List ByteArray):Prop:=∃c,cw cl cs=some c/\(∀x∈l,x∈c.scopes)/\∀x∈l,x∈dD C us cl
theorem kD.mono{cs e:List bA}{C d:List (cB×List ByteArray)}{a us:ByteArray}{l g:List ByteArray}(h:kD cs C a us l)(i:∀c,cw a cs=some c->cw a e=some c)(j:∀x∈dD C us a,x∈dD d us a)(f:∀x∈g,x∈l):kD e d a us g:=by
 obtain⟨c,n,k,m⟩:=h
 exact⟨c,i c n,λx b=>k x (f x b),λx b=>j x (m x (f x b))⟩
structure WI(s:cd):Prop where
 cn:∀p∈s.C,p.1.1≠e0
 v:∀p∈s.V,kD s.cs s.C p.2.aE p.2.user p.2.scopes/\s.now<p.2.cq
 a:∀p∈s.A,kD s.cs s.C p.2.aE p.2.user p.2.scopes
section
variable{s:cd}
theorem WI.tick(h:WI s)(n:Int):WI (eH s n).2:=by
 unfold eH
 split
 ·exact h
 ·exact⟨h.cn,λp b=>⟨(h.v p (aeb.1 b).1).1,by simpa using(aeb.1 b).2⟩,λp b=>h.a p (aeb.1 b).1⟩
theorem uM{C:List (cB×List ByteArray)}{id user us a:ByteArray}(h:fA id user (us,a)=false):dD (C.filter λx=> !fA id user x.1) us a=dD C us a:=by
 unfold dD
 rw[wm (q:=λk=> !fA id user k),ad9 (by simp[h])]
theorem WI.remove(h:WI s)(id:ByteArray):WI (fY s id).2:=by
 unfold fY
 split
 ·have i:∀d g l,d≠id->kD s.cs s.C d g l->kD (iV id s.cs) (s.C.filter λx=> !fA id e0 x.1) d g l:=λd g l j m=>
   m.mono (λc k=>by rw[uy j];exact k) (λx n=>by rw[uM (by simp[fA,j])];exact n) (λ_ h=>h)
  refine⟨λp b=>h.cn p (aeb.1 b).1,λp b=>?_,λp b=>?_⟩
  ·obtain⟨e,f⟩:=aeb.1 b
   exact⟨i _ _ _ (by simpa[gD,e0]using f) (h.v p e).1,(h.v p e).2⟩
  ·obtain⟨e,f⟩:=aeb.1 b
   exact i _ _ _ (by simpa[gp,e0]using f) (h.a p e)
 ·exact h
theorem wG{cs:List bA}{user id:ByteArray}{a:List ByteArray}(h:dJ cs user id a=0):dt user=true/\(cw id cs).isSome=true/\eL id a cs=true:=by
 unfold dJ at h
 split at h
 ·cases h
 ·split at h
  ·cases h
  ·split at h
   ·cases h
   ·rename_i b c d
    exact⟨by simpa using b,by cases h9:(cw id cs).isSome with
     |true=>rfl
     |false=>exact absurd h9 c,by simpa using d⟩
theorem Nk{C:List (cB×List ByteArray)}{k:cB}{l:List ByteArray}{us a:ByteArray}:dD (cT k l C) us a=if(us,a)=k then l else dD C us a:=by
 unfold dD
 rw[K9]
 split<;>rfl
theorem WI.m2(h:WI s)(user id:ByteArray)(f:List ByteArray):WI (dV s user id f).2:=by
 unfold dV
 split
 ·exact h
 ·rename_i d
  have d:dJ s.cs user id f=0:=by simpa using d
  have i:∀g c,∀x∈dD s.C g c,x∈dD (cT (user,id) (jo (dD s.C user id) f) s.C) g c:=λg c x j=>by
   rw[Nk]
   split
   ·rename_i e
    cases e
    exact wj.2 (.inl j)
   ·exact j
  refine⟨λp b=>?_,λp b=>⟨(h.v p b).1.mono (λ_ h=>h) (i _ _) (λ_ h=>h),(h.v p b).2⟩,λp b=>(h.a p b).mono (λ_ h=>h) (i _ _) (λ_ h=>h)⟩
  rcases nK b with h1|h1
  ·exact h.cn p h1.1
  ·rw[h1];exact KR (wG d).1
theorem WI.yI(h:WI s)(user id:ByteArray):WI (ga s user id).2:=by
 unfold ga
 split
 ·rename_i m
  obtain⟨t,n⟩:=aen.1 m
  have o:user≠e0:=h.cn _ (fH n)
  have i:∀b f l,¬(b=id/\f=user)->kD s.cs s.C b f l->kD s.cs ((dO (user,id) s.C).filter λx=> !fA id user x.1) b f l:=λb f l j q=>
   q.mono (λ_ h=>h) (λx r=>by
    rw[uM (by simp only[fA,Bool.and_eq_false_iff,Bool.or_eq_false_iff,decide_eq_false_iff_not];by_cases e:b=id;exact .inr ⟨o,λk=>j ⟨e,k⟩⟩;exact .inl e)]
    unfold dD
    rw[wo,ad8 (λe=>by cases e;exact j ⟨rfl,rfl⟩)]
    exact r) (λ_ h=>h)
  refine⟨λp c=>h.cn p (aeb.1 (aeb.1 c).1).1,λp c=>?_,λp c=>?_⟩
  ·obtain⟨d,g⟩:=aeb.1 c
   refine⟨i _ _ _ (λe=>?_) (h.v p d).1,(h.v p d).2⟩
   simp[gD,e.1,e.2]at g
  ·obtain⟨d,g⟩:=aeb.1 c
   refine i _ _ _ (λe=>?_) (h.a p d)
   simp[gp,e.1,e.2]at g
 ·exact h
theorem zU{cs:List bA}{id:ByteArray}{l:List ByteArray}(h:eL id l cs=true):∃c,cw id cs=some c/\∀x∈l,x∈c.scopes:=by
 unfold eL at h
 simp only[aeu,List.all_eq_true,aem]at h
 obtain⟨c,a⟩:=aen.1 h.1
 rw[a]at h
 exact⟨c,a,λx b=>h.2.2.2 x b⟩
theorem nT{l a:List ByteArray}:jH l a=true↔∀x∈l,x∈a:=by simp[jH]
theorem LL{user id e b:ByteArray}{a:List ByteArray}(h:bX s user id e a b=0):eL id a s.cs=true/\jH a (dD s.C user id)=true:=by
 unfold bX at h
 split at h
 ·cases h
 ·split at h
  ·cases h
  ·split at h
   ·cases h
   ·split at h
    ·cases h
    ·split at h
     ·cases h
     ·split at h
      ·cases h
      ·rename_i f g c i j d
       exact⟨by simpa using c,by simpa using d⟩
theorem WI.tT(h:WI s)(user id i:ByteArray)(g:List ByteArray)(b:ByteArray)(d:List UInt8):WI (bp s user id i g b d).2.2:=by
 unfold bp
 split
 ·exact h
 ·split
  ·exact h
  ·rename_i j
   have j:bX s user id i g b=0:=by simpa using j
   split
   ·exact h
   ·rcases rY s.A (jk s user id i g b d)with⟨_,e⟩|⟨_,e,_⟩
    ·exact⟨h.cn,h.v,λp f=>h.a p (e▸f)⟩
    ·refine⟨h.cn,h.v,λp f=>?_⟩
     have f:p∈cT (jk s user id i g b d).text (jk s user id i g b d).fresh s.A:=e▸f
     rcases nK f with h1|h1
     ·exact h.a p h1.1
     ·rw[h1]
      obtain⟨m,n⟩:=LL j
      obtain⟨c,k,l⟩:=zU m
      exact⟨c,k,l,nT.1 n⟩
theorem WI.put(h:WI s){V:List (ByteArray×Tok)}(d:∀p∈V,kD s.cs s.C p.2.aE p.2.user p.2.scopes/\s.now<p.2.cq){A:List (ByteArray×bL)}(c:∀p∈A,kD s.cs s.C p.2.aE p.2.user p.2.scopes){a r:ByteArray}{t:Tok}(b:kD s.cs s.C t.aE t.user t.scopes):WI {s with A:=A,V:=gO V s.last s.now a r t}:=by
 refine⟨h.cn,λp e=>?_,c⟩
 rcases LN e with h1|h1|h1
 ·exact d p h1
 ·rw[h1];exact⟨b,by show s.now<s.now+600;omega⟩
 ·rw[h1];exact⟨b,by show s.now<s.now+100000;omega⟩
theorem WI.uX(h:WI s)(id n d g i:ByteArray)(a r:List UInt8)(rev:Int):WI (bM s id n d g i a r rev).2.2.2:=by
 unfold bM
 split
 ·exact h
 ·split
  ·exact⟨h.cn,λp b=>h.v p (aeb.1 b).1,h.a⟩
  ·split
   ·exact h
   ·rcases rZ s.A d id g i s.now with⟨c,e⟩|⟨c,t,m,l,o,q,j,k⟩
    ·rw[ad9 c];exact⟨h.cn,h.v,λp b=>h.a p (e▸b)⟩
    ·rw[ad8 (by simp[c])]
     have f:=h.a _ (fH m)
     refine h.put h.v (λp b=>?_) ?_
     ·rw[k]at b
      rcases nK b with h2|h2
      ·exact h.a p h2.1
      ·rw[h2];exact f
     ·rw[j]
      subst l
      exact f
theorem WI.xE(h:WI s)(id k l:ByteArray)(b:List ByteArray)(a r:List UInt8)(rev:Int):WI (dC s id k l b a r rev).2.2.2:=by
 unfold dC
 split
 ·exact h
 ·split
  ·split<;>exact h
  ·rename_i t i
   obtain⟨f,m,g⟩:=su i
   split
   ·exact⟨h.cn,λp c=>h.v p (aeb.1 c).1,h.a⟩
   ·split
    ·exact h
    ·split
     ·exact h
     ·split
      ·exact h
      ·rename_i n j
       have e:=h.v _ (fH f)
       refine h.put (λp c=>?_) h.a ?_
       ·rcases nK c with h4|h4
        ·exact h.v p h4.1
        ·rw[h4];exact e
       ·subst g
        refine e.1.mono (λ_ h=>h) (λ_ h=>h) ?_
        show ∀x∈(if b=[]then t.scopes else b),x∈t.scopes
        split
        ·exact λ_ h=>h
        ·refine nT.1 ?_
         by_cases d:jH b t.scopes=true
         ·exact d
         ·exact absurd (.inl (by simpa using d)) j
theorem WI.xG(h:WI s)(id c d:ByteArray):WI (fZ s id c d).2:=by
 unfold fZ
 split
 ·exact h
 ·exact⟨h.cn,λp b=>h.v p (Oj b),h.a⟩
end
def vP(k:ByteArray):Prop:=∃d,k=bj 97 d\/k=bj 114 d
section
variable{s:cd}
theorem tU(s:cd)(user id c:ByteArray)(b:List ByteArray)(a:ByteArray)(d:List UInt8):
  ((bp s user id c b a d).1=e0/\(bp s user id c b a d).2.1≠0/\(bp s user id c b a d).2.2=s)\/
  ((bp s user id c b a d).1=bj 99 d/\(bp s user id c b a d).2.1=0/\(bp s user id c b a d).2.2={s with A:=cT (bj 99 d) (jk s user id c b a d) s.A,last:=s.last+1}):=by
 unfold bp
 split
 ·exact .inl ⟨rfl,by simp,rfl⟩
 ·split
  ·rename_i h;exact .inl ⟨rfl,h,rfl⟩
  ·rcases rY s.A (jk s user id c b a d)with⟨f,e⟩|⟨f,e,_⟩
   ·rw[ad9 f];exact .inl ⟨rfl,f,rfl⟩
   ·rw[ad8 (by simp[f])];exact .inr ⟨rfl,rfl,by rw[e];rfl⟩
structure yR(s s':cd):Prop where
 v:∀p∈s'.V,p∈s.V
 a:∀p∈s'.A,p∈s.A
structure tw(s:cd)(x:OC)(a b:ByteArray)(e:Int)(s':cd):Prop where
 err:e≠0->a=e0/\b=e0
 kv:∀p∈s'.V,(∃q∈s.V,q.1=p.1)\/((p.1=a\/p.1=b)/\vP p.1)
 ka:∀p∈s'.A,(∃q∈s.A,q.1=p.1)\/p.1=a
 new:∀p∈s.V,vP p.1->(a≠e0->p.1≠a)/\(b≠e0->p.1≠b)
 opens:e=0->x.kind=6\/x.kind=7->(∃q∈s.A,q.1=x.text)\/∃q∈s.V,q.1=x.text
theorem tw.less{x:OC}{e:Int}{c:cd}(h:yR s c)(d:x.kind≠6/\x.kind≠7):tw s x e0 e0 e c:=
 ⟨λ_=>⟨rfl,rfl⟩,λp b=>.inl ⟨p,h.v p b,rfl⟩,λp b=>.inl ⟨p,h.a p b,rfl⟩,λp _ _=>⟨λh=>absurd rfl h,λh=>absurd rfl h⟩,λ_ h=>absurd h (by omega)⟩
end
structure OB(s:cd)(k:Nat):Prop where
 n0:0<=s.now
 n1:s.now<=1125899906842624
 l0:0<=s.last
 l1:s.last<=k
 A:s.A.length<=k
 V:s.V.length<=3*k
 C:s.C.length<=k
 cl:∀p∈s.C,p.2.length<=6*k
 cs:s.cs.length<=64
theorem OB.zero:OB cd.zero 0:=⟨by decide,by decide,by decide,by decide,by decide,by decide,by decide,by simp[cd.zero],by decide⟩
section
variable{s:cd}{k:Nat}
theorem OB.up(h:OB s k):OB s (k+1):=⟨h.n0,h.n1,h.l0,by have:=h.l1;omega,by have:=h.A;omega,by have:=h.V;omega,by have:=h.C;omega,λp a=>by have:=h.cl p a;omega,h.cs⟩
theorem OB.less(h:OB s k){A:List (ByteArray×bL)}{V:List (ByteArray×Tok)}{C:List (cB×List ByteArray)}{cs:List bA}(b:A.length<=s.A.length)(c:V.length<=s.V.length)(a:C.Sublist s.C)(d:cs.length<=64):OB ⟨cs,C,A,V,s.last,s.now⟩ k:=
 ⟨h.n0,h.n1,h.l0,h.l1,aec b h.A,aec c h.V,aec a.length_le h.C,λp e=>h.cl p (a.subset e),d⟩
theorem LA{n now:Int}(h:er n now=0):0<=n/\n<=1073741824/\now+n<=1125899906842624:=by
 unfold er at h
 split at h
 ·cases h
 ·split at h
  ·cases h
  ·omega
theorem OB.tick(h:OB s k)(n:Int):OB (eH s n).2 k:=by
 unfold eH
 split
 ·exact h
 ·rename_i a
  have a:=LA (by simpa using a)
  have:=h.n0
  exact⟨by show 0<=s.now+n;omega,a.2.2,h.l0,h.l1,aec (aee _ _) h.A,aec (aee _ _) h.V,h.C,h.cl,h.cs⟩
theorem OB.add(h:OB s k)(c:bA):OB (mq s c).2 k:=by
 refine⟨h.n0,h.n1,h.l0,h.l1,h.A,h.V,h.C,h.cl,?_⟩
 show(dT s.cs c).2.length<=64
 have:=h.cs
 unfold dT
 split
 ·exact this
 ·split
  ·exact this
  ·split
   ·exact this
   ·simp;omega
theorem OB.remove(h:OB s k)(id:ByteArray):OB (fY s id).2 k:=by
 unfold fY
 split
 ·exact h.less (aee _ _) (aee _ _) aej (aec (aee _ _) h.cs)
 ·exact h
theorem Nj(h:OB s k)(us a:ByteArray):(dD s.C us a).length<=6*k:=by
 unfold dD
 cases e:aU (us,a) s.C with
 |none=>simp
 |some l=>exact h.cl _ (fH e)
theorem OB.m2(h:OB s k)(user id:ByteArray)(l:List ByteArray)(e:l.length<=6):OB (dV s user id l).2 (k+1):=by
 unfold dV
 split
 ·exact h.up
 ·have c:=h.up
  refine⟨c.n0,c.n1,c.l0,c.l1,c.A,c.V,aec oX (by have:=h.C;omega),λp d=>?_,c.cs⟩
  rcases nK d with h1|h1
  ·exact c.cl p h1.1
  ·rw[h1]
   have:=Nj h user id
   have:=Oq (a:=dD s.C user id) (b:=l)
   show(jo (dD s.C user id) l).length<=6*(k+1)
   omega
theorem OB.yI(h:OB s k)(user id:ByteArray):OB (ga s user id).2 k:=by
 unfold ga
 split
 ·exact h.less (aee _ _) (aee _ _) (aej.trans aej) h.cs
 ·exact h
theorem OB.tT(h:OB s k)(user id f:ByteArray)(c:List ByteArray)(b:ByteArray)(d:List UInt8):OB (bp s user id f c b d).2.2 (k+1):=by
 have a:=h.up
 rcases tU s user id f c b d with⟨_,_,e⟩|⟨_,_,e⟩
 ·rw[e];exact a
 ·rw[e]
  exact⟨a.n0,a.n1,by show 0<=s.last+1;have:=h.l0;omega,by show s.last+1<=_;have:=h.l1;omega,aec oX (by have:=h.A;omega),a.V,a.C,a.cl,a.cs⟩
theorem xj{V:List (ByteArray×Tok)}{last now:Int}{a r:ByteArray}{t:Tok}:(gO V last now a r t).length<=V.length+2:=by
 unfold gO
 have b:=yv (A:=(fu V last (hP a 1 (now+600) t)).2) (last:=last) (t:=hP r 2 (now+100000) t)
 have c:=yv (A:=V) (last:=last) (t:=hP a 1 (now+600) t)
 omega
theorem OB.uX(h:OB s k)(id i c d f:ByteArray)(a r:List UInt8)(rev:Int):OB (bM s id i c d f a r rev).2.2.2 (k+1):=by
 have b:=h.up
 have g:(bi s.A c id d f s.now).2.2.length<=s.A.length+1:=by
  rcases rZ s.A c id d f s.now with⟨_,e⟩|⟨_,t,_,_,_,_,_,e⟩
  ·rw[e];omega
  ·rw[e];exact oX
 unfold bM
 split
 ·exact b
 ·split
  ·exact⟨b.n0,b.n1,b.l0,b.l1,b.A,aec (aee _ _) b.V,b.C,b.cl,b.cs⟩
  ·split
   ·exact b
   ·split
    ·exact⟨b.n0,b.n1,b.l0,b.l1,aec g (by have:=h.A;omega),b.V,b.C,b.cl,b.cs⟩
    ·exact⟨b.n0,b.n1,b.l0,b.l1,aec g (by have:=h.A;omega),aec xj (by have:=h.V;omega),b.C,b.cl,b.cs⟩
theorem OB.xE(h:OB s k)(id e c:ByteArray)(d:List ByteArray)(a r:List UInt8)(rev:Int):OB (dC s id e c d a r rev).2.2.2 (k+1):=by
 have b:=h.up
 unfold dC
 split
 ·exact b
 ·split
  ·split<;>exact b
  ·split
   ·exact⟨b.n0,b.n1,b.l0,b.l1,b.A,aec (aee _ _) b.V,b.C,b.cl,b.cs⟩
   ·split
    ·exact b
    ·split
     ·exact b
     ·split
      ·exact b
      ·refine⟨b.n0,b.n1,b.l0,b.l1,b.A,aec xj ?_,b.C,b.cl,b.cs⟩
       rename_i t _ _ _ _ _
       have f:=oX (k:=c) (x:=t.mark) (A:=s.V)
       have:=h.V
       omega
theorem Oi{A:List (ByteArray×Tok)}{k aE:ByteArray}:(eU A k aE).2.length<=A.length:=by
 unfold eU
 split
 ·exact Nat.le_refl _
 ·split
  ·exact Nat.le_refl _
  ·split<;>exact aee _ _
theorem OB.xG(h:OB s k)(id a b:ByteArray):OB (fZ s id a b).2 k:=by
 unfold fZ
 split
 ·exact h
 ·exact h.less (Nat.le_refl _) Oi (List.Sublist.refl _) h.cs
theorem OB.step(h:OB s k)(x:OC)(a:x.scopes.length<=6):OB (eB s x).2.2.2 (k+1):=by
 unfold eB
 split
 ·exact(h.tick _).up
 split
 ·exact(h.add _).up
 split
 ·exact(h.remove _).up
 split
 ·exact h.m2 _ _ _ a
 split
 ·exact(h.yI _ _).up
 split
 ·exact h.tT _ _ _ _ _ _
 split
 ·exact h.uX _ _ _ _ _ _ _ _
 split
 ·exact h.xE _ _ _ _ _ _ _
 split
 ·exact(h.xG _ _ _).up
 ·exact h.up
end
theorem wJ(q:Nat)(s:cd)(T:ax)(h:fe q s T)(id user:ByteArray)(R:av):
  Spec prog 68 [pT q,.string id,.string user] R [T] λv H'=>∃T',H'=[T']/\fe q (s.drop id user) T':=by
 obtain⟨g,a,b,e,d,f,rfl,m,k,n⟩:=h
 refine Spec.dg (H':=[bl q [pT g,pT a,pT b,.int .i64 s.now] 74,e,d,f]) (by simp) ?_
 refine Spec.body func68 rfl results68 ntmps68 rfl ?_
 refine .sr<|.mo rfl<|.nc rfl<|.fa rfl<|.lo rfl<|.mo rfl<|.mo rfl ?_
 refine .bW (Kw a s.C s.A d k id user R) (λu i c=>?_)
 obtain⟨rfl,l⟩:=c
 refine .zn<|.region<|.mo rfl<|.nc rfl<|.fa rfl<|.lo rfl<|.mo rfl<|.mo rfl ?_
 refine .bW (OI b s.V s.last f n id user R) (λu j c=>?_)
 obtain⟨rfl,o⟩:=c
 refine .nil<|eh _ .none (.one [0,0,0,0] _) ?_
 ·exact⟨_,rfl,g,a,b,e,i,j,by simp[take,aZ,cd.drop],m,l,o⟩
theorem Lu(q:Nat)(s:cd)(T:ax)(h:fe q s T)(id:ByteArray)(R:av):
  Spec prog 23 [pT q,.string id] R [T] λv H'=>∃T',H'=[T']/\v=.int .i64 (fY s id).1/\fe q (fY s id).2 T':=by
 obtain⟨a,i,j,n,f,g,rfl,t,o,p⟩:=h
 refine Spec.dg (H':=[bl q [pT a,pT i,pT j,.int .i64 s.now] 74,n,f++g]) (by simp) ?_
 refine Spec.body func23 rfl results23 ntmps23 rfl ?_
 refine .sr<|.ag rfl<|.zs<|.sr<|.mo rfl ?_
 refine .aM (kQ q a _ _ _ _) (λv y=>?_)
 subst y
 refine .q .not<|.zn<|.bZ<|.kn<|.seq<|.sr<|.mo rfl<|.nc rfl<|.fa rfl<|.lo rfl<|.mo rfl ?_
 refine .bW (Am a s.cs n t id R) (λu k m=>?_)
 obtain⟨rfl,l⟩:=m
 refine .ag rfl<|.z<|.mo rfl<|.q .dL<|.zn ?_
 refine .cond rfl (λd=>?_) λd=>?_
 refine .sr<|.mo rfl<|.az rfl ?_
 refine .ret (aL (aR _ (.one (.tmp rfl)) (.one [0,0,0] _) ?_))
 ·have b:(cw id s.cs).isSome=false:=by
   cases e:(cw id s.cs).isSome
   ·rfl
   ·rw[e]at d;simp at d
  have e:fY s id=(11,s):=by unfold fY;rw[ad8 (by simp[b])]
  have x:iV id s.cs=s.cs:=aek.2 λc w=>by
   have:¬(c.id=id):=λr=>by
    have:(s.cs.find? λc=>decide (c.id=id)).isSome=true:=List.find?_isSome.2 ⟨c,w,by simpa using r⟩
    rw[show(cw id s.cs).isSome=true from this]at b;cases b
   simpa using this
  rw[e]
  rw[x]at l
  exact⟨_,rfl,by rw[b];rfl,a,i,j,k,f,g,by simp[take,aZ],l,o,p⟩
 have b:(cw id s.cs).isSome=true:=by
  cases e:(cw id s.cs).isSome
  ·rw[e]at d;simp at d
  ·rfl
 refine bQ.le (bh.refl _) (aT.bu (H':=[(q,.cells [pT a,pT i,pT j,.int .i64 s.now].toArray 74 (0,0))::(k++(f++g))]) (by simp)) ?_
 refine .kn<|.sr<|.mo rfl<|.mo rfl ?_
 refine .bW (wJ q {s with cs:=iV id s.cs} _ ⟨a,i,j,k,f,g,rfl,l,o,p⟩ id ⟨#[]⟩ R) (λu A m=>?_)
 refine .z<|.az rfl ?_
 refine .ret (aR _ (.one (.tmp rfl)) (.one [0] _) ?_)
 ·have e:fY s id=(0,({s with cs:=iV id s.cs}:cd).drop id e0):=by unfold fY;rw[ad9 b]
  rw[e]
  exact⟨_,rfl,rfl,by simpa[take]using m⟩
theorem LG(q:Nat)(s:cd)(T:ax)(h:fe q s T)(user id:ByteArray)(R:av):
  Spec prog 25 [pT q,.string user,.string id] R [T] λv H'=>∃T',H'=[T']/\v=.int .i64 (ga s user id).1/\fe q (ga s user id).2 T':=by
 obtain⟨b,a,g,d,m,f,rfl,n,p,o⟩:=h
 refine Spec.dg (H':=[bl q [pT b,pT a,pT g,.int .i64 s.now] 74,d,m,f]) (by simp) ?_
 refine Spec.body func25 rfl results25 ntmps25 rfl ?_
 refine .sr<|.ag rfl<|.zs<|.block<|.sr<|.mo rfl ?_
 refine .aM (kQ q b _ _ _ _) (λv w=>?_)
 subst w
 refine .q .not<|.az rfl<|.bZ<|.sr<|.mo rfl<|.nc rfl<|.fa rfl<|.lo rfl<|.mo rfl<|.mo rfl ?_
 refine .bW (KJ a s.C s.A m p user id R) (λu i l=>?_)
 obtain⟨rfl,k⟩:=l
 refine .q .not<|.az rfl ?_
 refine .cond rfl (λj=>?_) λj=>?_
 refine .sr<|.az rfl ?_
 refine .ret (br (aL (aR _ (.one (.tmp rfl)) (.one [0,0,0,0] _) ?_)))
 ·have c:(aU (user,id) s.C).isSome=false:=by simpa using j
  have e:ga s user id=(11,s):=by unfold ga;rw[ad8 (by simp[c])]
  have t:aU (user,id) s.C=none:=by cases e9:aU (user,id) s.C with
   |none=>rfl
   |some x=>rw[e9]at c;cases c
  have r:dO (user,id) s.C=s.C:=m8 (iA.1 t)
  rw[e]
  rw[r]at k
  exact⟨_,rfl,rfl,b,a,g,d,i,f,by simp[take,aZ],n,k,o⟩
 have c:(aU (user,id) s.C).isSome=true:=by simpa using j
 refine bQ.le (bh.refl _) (aT.bu (H':=[(q,.cells [pT b,pT a,pT g,.int .i64 s.now].toArray 74 (0,0))::(d++(i++f))]) (by simp)) ?_
 refine .skip<|bz<|aD<|.sr<|.mo rfl<|.mo rfl<|.mo rfl ?_
 refine .bW (wJ q {s with C:=dO (user,id) s.C} _ ⟨b,a,g,d,i,f,rfl,n,k,o⟩ id user R) (λu y l=>?_)
 refine .z<|.az rfl ?_
 refine .ret (aR _ (.one (.tmp rfl)) (.one [0] _) ?_)
 ·have e:ga s user id=(0,({s with C:=dO (user,id) s.C}:cd).drop id user):=by unfold ga;rw[ad9 c]
  rw[e]
  exact⟨_,rfl,rfl,by simpa[take]using l⟩
theorem Ls(q:Nat)(s:cd)(T:ax)(h:fe q s T)(G:∀p∈s.C,p.2.length<=1000000)(user id l:ByteArray)(vs:Value)(f:List ByteArray)(e:ByteArray)(I:user.size<=9223372036854775807)(H:e.size<=1000000)(R:av)(d:∀p∈T,R p.1 p.2)(k:RS R 1 bB vs f):
  Spec prog 74 [pT q,.string user,.string id,.string l,vs,.string e] R [] λv H'=>v=.int .i64 (bX s user id l f e)/\H'=[]:=by
 obtain⟨c,i,m,g,r,J,rfl,j,D,K⟩:=h
 have N:PC R (pT q) [pT c,pT i,pT m,.int .i64 s.now]:=PC.of (E:=74) (fr:=(0,0)) (d (q,.cells [pT c,pT i,pT m,.int .i64 s.now].toArray 74 (0,0)) (by simp))
 have L:=k.aw
 refine Spec.body func74 rfl results74 ntmps74 rfl ?_
 refine .sr<|.ag rfl<|.zs<|.block<|.sr<|.mo rfl<|.mo rfl ?_
 refine .aM (wL q c _ _ _ s.cs g j id _ (λp b=>.inl (d p (by simp[b])))) (λv a=>?_)
 subst a
 refine .q .not<|.az rfl ?_
 refine .cond rfl (λt=>?_) λt=>?_
 refine .sr<|.az rfl ?_
 refine .ret (br (aL (aO rfl ?_)))
 ·refine⟨aea (Value.int .i64) ?_,rfl⟩
  unfold bX
  simp_all
 refine .sr<|.mo rfl<|.nc rfl<|.fa rfl<|.lo rfl<|.mo rfl<|.mo rfl ?_
 refine .aM (Al c s.cs g j id l _ (λp b=>.inl (d p (by simp[b])))) (λv a=>?_)
 subst a
 refine .q .not<|.az rfl ?_
 refine .cond rfl (λu=>?_) λu=>?_
 refine .sr<|.az rfl ?_
 refine .ret (br (aL (aO rfl ?_)))
 ·refine⟨aea (Value.int .i64) ?_,rfl⟩
  unfold bX
  simp_all
 refine .sr<|.mo rfl<|.nc rfl<|.fa rfl<|.lo rfl<|.mo rfl<|.mo rfl ?_
 refine .aM (ui c s.cs g j id vs f _ (λp b=>.inl (d p (by simp[b]))) k.rx) (λv a=>?_)
 subst a
 refine .q .not<|.az rfl ?_
 refine .cond rfl (λx=>?_) λx=>?_
 refine .sr<|.az rfl ?_
 refine .ret (br (aL (aO rfl ?_)))
 ·refine⟨aea (Value.int .i64) ?_,rfl⟩
  unfold bX
  simp_all
 refine .sr<|.mo rfl ?_
 refine .aM (LW e H _) (λv a=>?_)
 subst a
 refine .q .not<|.az rfl ?_
 refine .cond rfl (λy=>?_) λy=>?_
 refine .sr<|.az rfl ?_
 refine .ret (br (aL (aO rfl ?_)))
 ·refine⟨aea (Value.int .i64) ?_,rfl⟩
  unfold bX
  simp_all
 refine .sr<|.mo rfl ?_
 refine .aM (r3 user I _) (λv a=>?_)
 subst a
 refine .q .not<|.az rfl ?_
 refine .cond rfl (λz=>?_) λz=>?_
 refine .sr<|.az rfl ?_
 refine .ret (br (aL (aO rfl ?_)))
 ·refine⟨aea (Value.int .i64) ?_,rfl⟩
  unfold bX
  simp_all
 refine .sr<|.mo rfl<|.mo rfl<|.nc rfl<|.fa rfl<|.lo rfl<|.mo rfl<|.mo rfl ?_
 refine .da (vK i s.C s.A r D user id _ (λp b=>.inl (d p (by simp[b]))) G) (λw o F=>?_)
 have n:OS 9 1 bB w (dD s.C user id) o:=F
 have M:=n.aw
 refine .aM (wZ vs w f _ _ k.rx n.rx) (λv a=>?_)
 subst a
 refine .q .not<|.az rfl ?_
 refine .cond rfl (λB=>?_) λB=>?_
 refine .sr<|.az rfl ?_
 refine .ret (br (aL (aO rfl ?_)))
 ·refine⟨aea (Value.int .i64) ?_,rfl⟩
  unfold bX
  simp_all
 refine .skip<|bz<|aD<|.sr<|.az rfl ?_
 refine .ret (aO rfl ?_)
 ·refine⟨aea (Value.int .i64) ?_,rfl⟩
  unfold bX
  simp_all
theorem Li(q:Nat)(s:cd)(T:ax)(h:fe q s T)(k:Nat)(u:OB s k)(hk:k<=1000)(user id i:ByteArray)(vs:Value)(a:List ByteArray)(f:ByteArray)(J:Value)(d:List UInt8)(hu:user.size<=9223372036854775807)(Z:f.size<=1000000)(a4:a.length<=100000)(Q:d.length<=1000)(R:av)(I:RS R 1 bB vs a)(H:RS R 1 cO J d):
  Spec prog 26 [pT q,.string user,.string id,.string i,vs,.string f,J] R [T] λv H'=>∃T',H'=[T']/\v=.tuple [.string (bp s user id i a f d).1,.int .i64 (bp s user id i a f d).2.1].toArray/\fe q (bp s user id i a f d).2.2 T':=by
 have W:=h
 obtain⟨r,n,j,w,x,l,rfl,G,K,t⟩:=h
 obtain⟨N,M,rfl⟩:=I.val
 have iv:=I.aw
 have a5:=H.aw
 have a2:=u.n0
 have a3:=u.n1
 have a0:=u.l0
 have a1:=u.l1
 refine Spec.dg (H':=[bl q [pT r,pT n,pT j,.int .i64 s.now] 74,w,x,l]) (by simp) ?_
 refine Spec.body func26 rfl results26 ntmps26 rfl ?_
 refine .sr<|.ag rfl<|.ag rfl<|.zs<|.block<|.sr<|.mo rfl ?_
 refine .aM (kQ q r _ _ _ _) (λv g=>?_)
 subst g
 refine .q .not<|.az rfl<|.bZ<|.sr<|.mo rfl<|.q (.dl H) ?_
 refine .q .dL<|.az rfl ?_
 refine .cond rfl (λD=>?_) λD=>?_
 refine .sr<|.ag rfl<|.az rfl ?_
 refine .ret (br (aL (aR _ (.two (.tmp rfl) (.tmp rfl)) (.one [0,0,0,0] _) ?_)))
 ·have e:bp s user id i a f d=(e0,2,s):=by
   unfold bp
   rw[ad9 (by simp at D;omega)]
  rw[e]
  exact⟨_,rfl,rfl,r,n,j,w,x,l,by simp[take,aZ],G,K,t⟩
 refine .skip<|bz<|aD<|.seq<|.sr<|.mo rfl<|.mo rfl<|.mo rfl<|.mo rfl<|.mo rfl<|.mo rfl ?_
 refine .aM (Ls q s _ W (λp m=>by have:=u.cl p m;omega) user id i _ a f hu Z _ (λp m=>.inr (show p∈List.flatten _ from by simpa using m)) I.rx) (λv g=>?_)
 subst g
 refine .ag rfl<|.z<|.mo rfl<|.q .dL<|.zn ?_
 refine .cond rfl (λF=>?_) λF=>?_
 refine .sr<|.mo rfl<|.ag rfl<|.az rfl ?_
 refine .ret (aL (aR _ (.two (.tmp rfl) (.tmp rfl)) (.one [0,0,0,0] _) ?_))
 ·have e:bp s user id i a f d=(e0,bX s user id i a f,s):=by
   unfold bp
   rw[ad8 (by simp at D;omega),ad9 (by simpa using F)]
  rw[e]
  exact⟨_,rfl,rfl,r,n,j,w,x,l,by simp[take,aZ],G,K,t⟩
 refine .kn<|.seq ?_
 refine bQ.cut (X:=Nat) (λ_=>True) (λb=>[(0,pT q),(17,pT b)]) (λb=>[bl b (bO (.slice N a.length M,jk s user id i a f d)) 123,bl q [pT r,pT n,pT j,.int .i64 s.now] 74,w,x,l]) ?_ ?_
 refine .cW [20] mixed ?_
 refine .tO 0 rfl .move<|.tO 2 rfl .move<|.tO 3 rfl .move<|.tO 4 rfl .move<|.tO 5 rfl .move<|.tO 6 rfl .move<|.tO 7 rfl .move<|.tO 8 rfl (.nilCheck rfl)<|.tO 9 rfl (.fieldAddr rfl)<|.tO 10 rfl (.bN rfl) ?_
 refine .tO 11 rfl (.i64 (s.now+60) .add ⟨rfl,by omega,by omega⟩) ?_
 refine .tO 12 rfl .move<|.tO 13 rfl (.nilCheck rfl)<|.tO 14 rfl (.fieldAddr rfl)<|.tO 15 rfl (.bN rfl) ?_
 refine RA.mR 1 19 rfl rfl (by kernel_rfl) rfl ?_ ?_
 refine .aM (qC 99 J d _ H.rx Q) (λv g=>?_)
 subst g
 refine .nil (Next.sub ?_)
 refine RA.mR 16 19 rfl rfl (by kernel_rfl) rfl ?_ ?_
 refine .aM (q4 j s.V s.last l t _ (λp m=>.inr (by simp[m]))) (λv g=>?_)
 subst g
 refine .nil (Next.sub ?_)
 refine .tO 17 rfl (.i64 (s.last+1) .add ⟨rfl,by omega,by omega⟩) ?_
 refine .tO 18 rfl .dI ?_
 refine .sT 19 rfl ?_
 refine .cN (λB=>?_)
 refine .nil (Next.sub ?_)
 refine .sT 20 rfl ?_
 refine .ct rfl rfl ?_
 refine .nil (Next.mod rfl ?_)
 refine RA.nil (by kernel_rfl) ?_
 ·exact aB B trivial kE.c.c rH
 refine .cN (λB=>?_)
 refine .nil (Next.sub ?_)
 refine .sT 16 rfl ?_
 refine .aM (q4 j s.V s.last l t _ (λp m=>.inr (by simp[m]))) (λv g=>?_)
 subst g
 refine .nil (Next.sub ?_)
 refine .tO 17 rfl (.i64 (s.last+1) .add ⟨rfl,by omega,by omega⟩) ?_
 refine .tO 18 rfl .dI ?_
 refine .sT 20 rfl ?_
 refine .ct rfl rfl ?_
 refine .nil (Next.mod rfl ?_)
 refine RA.nil (by kernel_rfl) ?_
 ·exact aB B trivial kE.c.c rH
 refine .cN (λB=>?_)
 refine .nil (Next.sub ?_)
 refine .sT 1 rfl ?_
 refine .aM (qC 99 J d _ H.rx Q) (λv g=>?_)
 subst g
 refine .nil (Next.sub ?_)
 refine .sT 16 rfl ?_
 refine .aM (q4 j s.V s.last l t _ (λp m=>.inr (by simp[m]))) (λv g=>?_)
 subst g
 refine .nil (Next.sub ?_)
 refine .tO 17 rfl (.i64 (s.last+1) .add ⟨rfl,by omega,by omega⟩) ?_
 refine .tO 18 rfl .dI ?_
 refine .sT 20 rfl ?_
 refine .ct rfl rfl ?_
 refine .nil (Next.mod rfl ?_)
 refine RA.nil (by kernel_rfl) ?_
 ·exact aB B trivial kE.c.c rH
 intro y hy
 have io:bJ (bO (.slice N a.length M,jk s user id i a f d)):=Ax iv
 refine aD<|.seq<|.seq ?_
 refine .df 5 mixed (by kernel_rfl) ?_
 conv=>arg 6;dsimp only[List.take]
 refine .mo rfl<|.nc rfl<|.fa rfl<|.lo rfl<|.q (.bK rfl)<|.nil ?_
 refine .jO (Kz n s.C s.A x K (.slice N a.length M) (jk s user id i a f d) _ (show RS _ 1 bB _ a from I.mono λb o u=>.inl u) (show a.length<=1000000 by omega)) (λv O g=>?_)
 obtain⟨rfl,L⟩:=g
 refine .ag rfl<|.z<|.mo rfl<|.q .dL<|.zn ?_
 refine .cond rfl (λE=>?_) λE=>?_
 refine .sr<|.mo rfl<|.ag rfl<|.az rfl ?_
 refine .ret (aL (aR _ (.two (.tmp rfl) (.tmp rfl)) (.one [1,1,1,1] _) ?_))
 ·have e:bp s user id i a f d=(e0,(dr s.A (jk s user id i a f d)).1,s):=by
   unfold bp
   rw[ad8 (by simp at D;omega),ad8 (by simpa using F),ad9 (by simpa using E)]
  rw[e]
  have U:(dr s.A (jk s user id i a f d)).2=s.A:=by
   rcases rY s.A (jk s user id i a f d)with⟨_,e⟩|⟨e,_⟩
   ·exact e
   ·rw[e]at E;simp at E
  rw[U]at L
  exact⟨_,rfl,rfl,r,n,j,w,O,l,by simp[take,aZ],G,L,t⟩
 refine .kn<|.sr<|.mo rfl<|.nc rfl<|.fa rfl<|.lo rfl ?_
 refine .bW (OJ j s.V s.last l t a0 (by omega) R) (λv S g=>?_)
 obtain⟨rfl,Y⟩:=g
 refine .z<|.fa rfl<|.lo rfl<|.ag rfl<|.az rfl ?_
 refine .ret (aR _ (.two (.tmp rfl) (.tmp rfl)) (.one [1,1,1,1] _) ?_)
 ·have e:bp s user id i a f d=(bj 99 d,0,{s with A:=(dr s.A (jk s user id i a f d)).2,last:=s.last+1}):=by
   unfold bp
   rw[ad8 (by simp at D;omega),ad8 (by simpa using F),ad8 (by simpa using E)]
  rw[e]
  exact⟨_,rfl,rfl,r,n,j,w,O,S,by simp[take,aZ],G,L,Y⟩
theorem wE(q:Nat)(s:cd)(T:ax)(h:fe q s T)(id f:ByteArray)(va vr:Value)(a r:List UInt8)(R:av)(k:∀p∈T,R p.1 p.2)(j:RS R 1 cO va a)(l:RS R 1 cO vr r):
  Spec prog 78 [pT q,.string id,.string f,va,vr] R [] λv H'=>v=.int .i64 (eA s id f a r)/\H'=[]:=by
 obtain⟨d,g,i,m,u,w,rfl,n,x,y⟩:=h
 have B:PC R (pT q) [pT d,pT g,pT i,.int .i64 s.now]:=PC.of (E:=74) (fr:=(0,0)) (k (q,.cells [pT d,pT g,pT i,.int .i64 s.now].toArray 74 (0,0)) (by simp))
 have z:=j.aw
 have A:=l.aw
 refine Spec.body func78 rfl results78 ntmps78 rfl ?_
 refine .sr<|.ag rfl<|.zs<|.block<|.sr<|.mo rfl ?_
 refine .aM (kQ q d _ _ _ _) (λv e=>?_)
 subst e
 refine .q .not<|.az rfl<|.bZ<|.sr<|.mo rfl<|.q (.dl j) ?_
 refine .q .dL<|.mo rfl ?_
 refine .split (t:=19) rfl (λb=>?_) (λb=>?_)
 refine .gF b<|.gF b<|.gF b<|.q (.aY b) ?_
 refine .az rfl<|.dF<|.sr<|.az rfl ?_
 refine .ret (br (aL (aO rfl ?_)))
 ·refine⟨aea (Value.int .i64) ?_,rfl⟩
  unfold eA
  first
   |exact(ad9 (by first|(exact .inl (by simp at b;omega))|(exact .inr (by simp at c;omega)))).symm
   |exact(ad8 (by simp at b c;omega)).symm
 refine .gT b<|.mo rfl<|.gT b<|.q (.dl l) ?_
 refine .gT b<|.q .dL<|.q (.aS b) ?_
 refine .az rfl ?_
 refine .cond rfl (λc=>?_) λc=>?_
 refine .sr<|.az rfl ?_
 refine .ret (br (aL (aO rfl ?_)))
 ·refine⟨aea (Value.int .i64) ?_,rfl⟩
  unfold eA
  first
   |exact(ad9 (by first|(exact .inl (by simp at b;omega))|(exact .inr (by simp at c;omega)))).symm
   |exact(ad8 (by simp at b c;omega)).symm
 refine .skip<|bz<|aD<|.sr<|.mo rfl<|.nc rfl<|.fa rfl<|.lo rfl<|.mo rfl<|.mo rfl ?_
 refine .aM (uk d s.cs m n id f _ (λp o=>.inl (k p (by simp[o])))) (λv e=>?_)
 subst e
 refine .az rfl ?_
 refine .ret (aO rfl ?_)
 ·refine⟨aea (Value.int .i64) ?_,rfl⟩
  unfold eA
  first
   |exact(ad9 (by first|(exact .inl (by simp at b;omega))|(exact .inr (by simp at c;omega)))).symm
   |exact(ad8 (by simp at b c;omega)).symm
theorem Lv(q:Nat)(s:cd)(T:ax)(h:fe q s T)(id b a:ByteArray)(R:av):
  Spec prog 29 [pT q,.string id,.string b,.string a] R [T] λv H'=>∃T',H'=[T']/\v=.int .i64 (fZ s id b a).1/\fe q (fZ s id b a).2 T':=by
 obtain⟨c,j,f,d,g,i,rfl,l,n,o⟩:=h
 refine Spec.dg (H':=[bl q [pT c,pT j,pT f,.int .i64 s.now] 74,d,g,i]) (by simp) ?_
 refine Spec.body func29 rfl results29 ntmps29 rfl ?_
 refine .sr<|.ag rfl<|.zs<|.sr<|.mo rfl ?_
 refine .aM (kQ q c _ _ _ _) (λv m=>?_)
 subst m
 refine .q .not<|.zn<|.bZ<|.kn<|.seq<|.sr<|.mo rfl<|.nc rfl<|.fa rfl<|.lo rfl<|.mo rfl<|.mo rfl ?_
 refine .aM (uk c s.cs d l id b _ (λp w=>.inr (by simp[w]))) (λv m=>?_)
 subst m
 refine .ag rfl<|.z<|.mo rfl<|.q .dL<|.zn ?_
 refine .cond rfl (λk=>?_) λk=>?_
 refine .sr<|.mo rfl<|.az rfl ?_
 refine .ret (aL (aR _ (.one (.tmp rfl)) (.one [0,0,0,0] _) ?_))
 ·have e:fZ s id b a=(jA id b s.cs,s):=by unfold fZ;rw[ad9 (by unfold jA;simpa using k)]
  rw[e]
  exact⟨_,rfl,rfl,c,j,f,d,g,i,by simp[take,aZ],l,n,o⟩
 refine .kn<|.sr<|.mo rfl<|.nc rfl<|.fa rfl<|.lo rfl<|.mo rfl<|.mo rfl ?_
 refine .bW (ON f s.V s.last i o a id R) (λu r x=>?_)
 obtain⟨rfl,t⟩:=x
 refine .az rfl ?_
 refine .ret (aR _ (.one (.tmp rfl)) (.one [0,0,0,0] _) ?_)
 ·have e:fZ s id b a=((eU s.V a id).1,{s with V:=(eU s.V a id).2}):=by unfold fZ;rw[ad8 (by unfold jA;simpa using k)]
  rw[e]
  exact⟨_,rfl,rfl,c,j,f,d,g,r,by simp[take,aZ],l,n,t⟩
theorem N4(f:FuncId)(caps:List Value) [e:ay prog f](p:TP->Bool)(v:Value)(l:List TP)(R:av)(h:RS R 9 bE v l)(w:∀s∈l,∀R',(∀b o,R b o->R' b o)->Spec prog f (.agg (bE s).toArray::caps) R' [] λu H'=>u=.bool (p s)/\H'=[]):
  Spec prog 209 [v,.func (.func f) #[] caps.toArray] R [] λu H'=>(∃k:Int,u=.int .i64 k/\(decide (0<=k)=l.any p))/\H'=[]:=by
 have C:=h.le
 have D:=h.aw
 refine Spec.body func209 rfl results209 ntmps209 rfl ?_
 refine .sr<|.ag rfl<|.zs<|.sr<|.mo rfl<|.q (.dl h) ?_
 refine .mo rfl<|.zn<|.block ?_
 refine .loop (X:=Nat) (λi=>i<=l.length/\(l.take i).any p=false) (λi=>[(0,v),(1,.func (.func f) #[] caps.toArray),(7,.int .i64 l.length),(8,iN i)]) (λ_=>[]) (λi=>l.length-i) 0 ⟨by omega,by simp⟩ kE.c.c.c.c rH ?_
 rintro i ⟨B,g⟩
 refine .sr<|.q .lss<|.zs ?_
 refine .cond rfl (λa=>?_) λa=>?_
 have x:i<l.length:=by simp at a;omega
 obtain⟨z,j⟩:=dN x
 have m:=bU j
 have y:(l.take (i+1)).any p=((l.take i).any p||p z):=by rw[List.take_add_one,j,List.any_append];simp
 refine .kn<|.seq<|.block<|.sr<|.mo rfl<|.ag rfl<|.z<|.mo rfl<|.mo rfl<|.mo rfl ?_
 refine .cu i h j (λE=>?_)
 refine .q (.bK rfl) ?_
 refine .gK (first:=[]) (captured:=caps) (vs:=[.agg (bE z).toArray]) (w z m _ λb o r=>.inl r) (λu A=>?_)
 subst A
 refine .zn ?_
 refine .cond rfl (λd=>?_) λd=>?_
 refine .sr<|.mo rfl<|.az rfl ?_
 refine .ret (br (aL (dn (br (aL (aO rfl ?_))))))
 ·refine⟨⟨_,rfl,?_⟩,rfl⟩
  rw[List.any_eq_true.2 ⟨z,m,d⟩];simp
 refine .skip<|bz<|aD<|.region ?_
 refine .q (.inc (n:=i) (by omega)) ?_
 refine .mo rfl<|.nil ?_
 ·exact bf (i+1) ⟨by omega,by rw[y,g,d];rfl⟩ (by omega) kE.c.c.c.c rH
 refine .exit<|bD<|bH<|bF<|aD<|.sr<|.az rfl ?_
 refine .ret (aO rfl ?_)
 ·have t:i=l.length:=by simp at a;omega
  rw[t,List.take_length]at g
  exact⟨⟨_,rfl,by rw[g];rfl⟩,rfl⟩
theorem yo(f:FuncId)(caps:List Value) [e:ay prog f](p:TP->Bool)(v:Value)(l:List TP)(R:av)(h:RS R 9 bE v l)(d:∀s∈l,∀R',(∀b o,R b o->R' b o)->Spec prog f (.agg (bE s).toArray::caps) R' [] λu H'=>u=.bool (p s)/\H'=[]):
  Spec prog 156 [v,.func (.func f) #[] caps.toArray] R [] λu H'=>u=.bool (l.any p)/\H'=[]:=by
 have m:=h.aw
 refine Spec.body func156 rfl results156 ntmps156 rfl ?_
 refine .sr<|.ag rfl<|.z<|.mo rfl<|.mo rfl ?_
 refine .aM (N4 f caps p v l _ h.rx λs i R' a=>d s i R' λb o c=>a b o (.inl c)) (λu j=>?_)
 obtain⟨k,rfl,g⟩:=j
 refine .q .geq<|.az rfl ?_
 refine .ret (aO rfl ?_)
 ·exact⟨by simp only[g],rfl⟩
theorem tM{ps:List TP}{V:List (ByteArray×Tok)}(d:(kv (db ps)).Perm V)(f:(V.map (·.1)).Nodup)(k:ByteArray)(g:Tok->Bool):ps.any (λp=>decide (p.2.text=k)&&g p.2)=((aU k V).filter g).isSome:=by
 rw[Bool.eq_iff_iff,List.any_eq_true,aen]
 constructor
 ·rintro⟨p,c,b⟩
  simp only[aeu,aem]at b
  have a:(k,p.2)∈V:=d.mem_iff.1 (aed.2 ⟨p.2,aed.2 ⟨p,c,rfl⟩,by rw[b.1]⟩)
  exact⟨p.2,aet.2 ⟨gC f a,b.2⟩⟩
 ·rintro⟨t,h⟩
  obtain⟨a,e⟩:=aet.1 h
  obtain⟨u,i,j⟩:=aed.1 (d.mem_iff.2 (fH a))
  obtain⟨p,c,rfl⟩:=aed.1 i
  cases j
  exact⟨p,c,by simp[e]⟩
theorem Lr(a:ByteArray)(b:Nat)(w:Value)(t:Tok)(c:One w)(R:av) [pc:PC R (pT b) [.string a]]:
  Spec prog 204 [.agg (bE (w,t)).toArray,pT b] R [] λv H'=>v=.bool (decide (t.text=a))/\H'=[]:=by
 have e:=m5 (t:=t) c
 refine Spec.body func204 rfl results204 ntmps204 rfl ?_
 refine .sr ?_
 refine .dv rfl (λd=>?_)
 refine .ag rfl<|.z<|.fa rfl<|.lo rfl<|.lo rfl<|.q .ek<|.az rfl ?_
 refine .ret (aO rfl ?_)
 ·exact⟨rfl,rfl⟩
theorem Ly(f id:ByteArray)(b e:Nat)(w:Value)(t:Tok)(g:One w)(R:av) [pc:PC R (pT b) [.string f]] [j:PC R (.pointer (some ⟨e,0,none⟩)) [.string id]]:
  Spec prog 157 [.agg (bE (w,t)).toArray,pT b,.pointer (some ⟨e,0,none⟩)] R [] λv H'=>v=.bool (decide (t.text=f)&&(t.kind==2&&decide (t.aE=id)&&t.used))/\H'=[]:=by
 have i:=m5 (t:=t) g
 refine Spec.body func157 rfl results157 ntmps157 rfl ?_
 refine .sr ?_
 refine .dv rfl (λh=>?_)
 refine .ag rfl<|.z<|.fa rfl<|.lo rfl<|.lo rfl<|.q .ek<|.mo rfl ?_
 refine .split (t:=9) rfl (λc=>?_) (λc=>?_)
 refine .gT c<|.fa rfl<|.gT c<|.lo rfl<|.gT c<|.q .bS<|.q (.aY c) ?_
 refine .mo rfl ?_
 refine .split (t:=14) rfl (λa=>?_) (λa=>?_)
 refine .gT a<|.fa rfl<|.gT a<|.lo rfl<|.gT a<|.lo rfl<|.gT a<|.q .ek<|.q (.aY a) ?_
 refine .mo rfl ?_
 refine .split (t:=20) rfl (λd=>?_) (λd=>?_)
 refine .gT d<|.fa rfl<|.gT d<|.lo rfl<|.q (.aY d) ?_
 refine .az rfl ?_
 refine .ret (aO rfl ?_)
 ·refine⟨aea _ ?_,rfl⟩
  simp_all
 refine .gF d<|.gF d<|.q (.aS d) ?_
 refine .az rfl ?_
 refine .ret (aO rfl ?_)
 ·refine⟨aea _ ?_,rfl⟩
  simp_all
 refine .gF a<|.gF a<|.gF a<|.gF a<|.q (.aS a) ?_
 refine .mo rfl<|.gX<|.gX<|.q .bY<|.az rfl ?_
 refine .ret (aO rfl ?_)
 ·refine⟨aea _ ?_,rfl⟩
  simp_all
 refine .gF c<|.gF c<|.gF c<|.q (.aS c) ?_
 refine .mo rfl<|.gX<|.gX<|.gX<|.gX<|.q .bY<|.mo rfl<|.gX<|.gX<|.q .bY<|.az rfl ?_
 refine .ret (aO rfl ?_)
 ·refine⟨aea _ ?_,rfl⟩
  simp_all
theorem wK(q:Nat)(s:cd)(T:ax)(h:fe q s T)(o:s.V.length<=1000000)(a:ByteArray)(R:av)(l:∀p∈T,R p.1 p.2):
  Spec prog 153 [pT q,.string a] R [] λv H'=>v=.bool (aU a s.V).isSome/\H'=[]:=by
 obtain⟨i,g,d,C,B,m,rfl,H,G,k⟩:=h
 have J:PC R (pT q) [pT i,pT g,pT d,.int .i64 s.now]:=PC.of (E:=74) (fr:=(0,0)) (l (q,.cells [pT i,pT g,pT d,.int .i64 s.now].toArray 74 (0,0)) (by simp))
 refine Spec.body func153 rfl results153 ntmps153 rfl ?_
 refine .sr ?_
 refine .ko rfl (λc=>?_)
 refine .ag rfl<|.z<|.mo rfl<|.nc rfl<|.fa rfl<|.lo rfl ?_
 refine .da (og d s.V s.last m k o _ (λp b=>.inl (l p (by simp[b])))) (λw A x=>?_)
 obtain⟨y,F,D,rfl,j,t,r,_⟩:=x
 have I:=j.aw
 refine .q .makeFunc ?_
 refine .aM (yo 204 [pT c] (λp=>decide (p.2.text=a)) w y _ (j.rs λp b=>.inr (by simp[b])) λp b f n=>by
  have:PC f (pT c) [.string a]:=PC.of (E:=9) (fr:=(0,0)) (n _ _ (.inr (by simp)))
  exact Lr a c p.1 p.2 (t p b).aw f) (λv u=>?_)
 subst u
 refine .az rfl ?_
 refine .ret (aO rfl ?_)
 ·refine⟨aea Value.bool ?_,rfl⟩
  have e:=tM r k.nd a (λ_=>true)
  simp only[Bool.and_true]at e
  rw[e]
  cases aU a s.V<;>rfl
theorem Lz(q:Nat)(s:cd)(T:ax)(h:fe q s T)(o:s.V.length<=1000000)(a id:ByteArray)(R:av)(m:∀p∈T,R p.1 p.2):
  Spec prog 85 [pT q,.string a,.string id] R [] λv H'=>v=.bool ((fq s.V a id).filter λt=>t.used).isSome/\H'=[]:=by
 obtain⟨i,g,f,D,C,n,rfl,I,H,l⟩:=h
 have K:PC R (pT q) [pT i,pT g,pT f,.int .i64 s.now]:=PC.of (E:=74) (fr:=(0,0)) (m (q,.cells [pT i,pT g,pT f,.int .i64 s.now].toArray 74 (0,0)) (by simp))
 refine Spec.body func85 rfl results85 ntmps85 rfl ?_
 refine .sr ?_
 refine .ko rfl (λd=>?_)
 refine .ko rfl (λe=>?_)
 refine .ag rfl<|.z<|.mo rfl<|.nc rfl<|.fa rfl<|.lo rfl ?_
 refine .da (og f s.V s.last n l o _ (λp b=>.inl (m p (by simp[b])))) (λw B y=>?_)
 obtain⟨A,G,F,rfl,j,u,r,_⟩:=y
 have J:=j.aw
 refine .q .makeFunc ?_
 refine .aM (yo 157 [pT d,pT e] (λp=>decide (p.2.text=a)&&(p.2.kind==2&&decide (p.2.aE=id)&&p.2.used)) w A _ (j.rs λp b=>.inr (by simp[b])) λp b c k=>by
  have:PC c (pT d) [.string a]:=PC.of (E:=9) (fr:=(0,0)) (k _ _ (.inr (by simp)))
  have:PC c (pT e) [.string id]:=PC.of (E:=9) (fr:=(0,0)) (k _ _ (.inr (by simp)))
  exact Ly a id d e p.1 p.2 (u p b).aw c) (λv x=>?_)
 subst x
 refine .az rfl ?_
 refine .ret (aO rfl ?_)
 ·refine⟨aea Value.bool ?_,rfl⟩
  rw[tM r l.nd a (λt=>t.kind==2&&decide (t.aE=id)&&t.used)]
  unfold fq
  rw[Option.filter_filter]
theorem wW(q:Nat)(s:cd)(T:ax)(h:fe q s T)(i:s.V.length<=1000000)(a r:ByteArray)(R:av)(f:∀p∈T,R p.1 p.2):
  Spec prog 82 [pT q,.agg [.string a,.string r].toArray] R [] λv H'=>v=.int .i64 (dG s a r)/\H'=[]:=by
 have m:=h
 obtain⟨l,k,g,C,B,o,rfl,I,H,u⟩:=h
 have M:PC R (pT q) [pT l,pT k,pT g,.int .i64 s.now]:=PC.of (E:=74) (fr:=(0,0)) (f (q,.cells [pT l,pT k,pT g,.int .i64 s.now].toArray 74 (0,0)) (by simp))
 refine Spec.body func82 rfl results82 ntmps82 rfl ?_
 refine .sr ?_
 refine .dv rfl (λG=>?_)
 refine .ag rfl<|.zs<|.block<|.sr<|.mo rfl<|.fa rfl<|.lo rfl ?_
 refine .aM (wK q s _ m i a _ (λp e=>.inl (f p e))) (λv j=>?_)
 subst j
 refine .mo rfl ?_
 refine .split (t:=10) rfl (λb=>?_) (λb=>?_)
 refine .gF b<|.gF b<|.gF b<|.gF b<|.q (.aY b) ?_
 refine .az rfl<|.dF<|.sr<|.az rfl ?_
 refine .ret (br (aL (aO rfl ?_)))
 ·refine⟨aea (Value.int .i64) ?_,rfl⟩
  unfold dG
  first
   |(rw[ad9 (by first|(exact .inl b)|(exact .inr c))];done)
   |(rw[ad8 (by rw[b,c];simp),ad9 (by simp at d;omega)];done)
   |(rw[ad8 (by rw[b,c];simp),ad8 (by simp at d;omega)];done)
 refine .gT b<|.mo rfl<|.gT b<|.fa rfl<|.gT b<|.lo rfl<|.gT b ?_
 refine .aM (wK q s _ m i r _ (λp e=>.inl (f p e))) (λv j=>?_)
 subst j
 refine .q (.aS b) ?_
 refine .az rfl ?_
 refine .cond rfl (λc=>?_) λc=>?_
 refine .sr<|.az rfl ?_
 refine .ret (br (aL (aO rfl ?_)))
 ·refine⟨aea (Value.int .i64) ?_,rfl⟩
  unfold dG
  first
   |(rw[ad9 (by first|(exact .inl b)|(exact .inr c))];done)
   |(rw[ad8 (by rw[b,c];simp),ad9 (by simp at d;omega)];done)
   |(rw[ad8 (by rw[b,c];simp),ad8 (by simp at d;omega)];done)
 refine .sr<|.mo rfl<|.nc rfl<|.fa rfl<|.lo rfl ?_
 refine .da (og g s.V s.last o u i _ (λp e=>.inl (f p (by simp[e])))) (λw A y=>?_)
 obtain⟨z,F,D,rfl,n,K,x,_⟩:=y
 have L:=n.aw
 have J:s.V.length=z.length:=by have:=x.length_eq;simp[kv]at this;omega
 refine .q (.ec n) ?_
 refine .q .gtr<|.az rfl ?_
 refine .cond rfl (λd=>?_) λd=>?_
 refine .sr<|.az rfl ?_
 refine .ret (br (aL (aO rfl ?_)))
 ·refine⟨aea (Value.int .i64) ?_,rfl⟩
  unfold dG
  first
   |(rw[ad9 (by first|(exact .inl b)|(exact .inr c))];done)
   |(rw[ad8 (by rw[b,c];simp),ad9 (by simp at d;omega)];done)
   |(rw[ad8 (by rw[b,c];simp),ad8 (by simp at d;omega)];done)
 refine .skip<|bz<|aD<|.sr<|.az rfl ?_
 refine .ret (aO rfl ?_)
 ·refine⟨aea (Value.int .i64) ?_,rfl⟩
  unfold dG
  first
   |(rw[ad9 (by first|(exact .inl b)|(exact .inr c))];done)
   |(rw[ad8 (by rw[b,c];simp),ad9 (by simp at d;omega)];done)
   |(rw[ad8 (by rw[b,c];simp),ad8 (by simp at d;omega)];done)
theorem wP(va vr:Value)(a r:List UInt8)(R:av)(c:RS R 1 cO va a)(d:RS R 1 cO vr r)(e:a.length<=1000)(f:r.length<=1000):
  Spec prog 81 [va,vr] R [] λv H'=>v=.agg [.string (bj 97 a),.string (bj 114 r)].toArray/\H'=[]:=by
 have h:=c.aw
 have i:=d.aw
 refine Spec.body func81 rfl results81 ntmps81 rfl ?_
 refine .sr ?_
 refine .cN (λg=>?_)
 refine .z<|.mo rfl ?_
 refine .aM (qC 97 va a _ c.rx e) (λv b=>?_)
 subst b
 refine .mo rfl ?_
 refine .aM (qC 114 vr r _ d.rx f) (λv b=>?_)
 subst b
 refine .q .dI ?_
 refine .ct rfl rfl<|.zn ?_
 refine .ret (aR _ (.one (.ey rfl rfl)) (.none _) ?_)
 ·exact⟨rfl,rfl⟩
theorem wQ(q:Nat)(s:cd)(T:ax)(h:fe q s T)(E:0<=s.now)(F:s.now<=1125899906842624)(a r:ByteArray)(w:Value)(t:Tok)(R:av)(d:dS R (w,t))(o:t.eo):
  Spec prog 84 [pT q,.agg [.string a,.string r].toArray,.agg (bE (w,t)).toArray] R [T] λv H'=>∃T',H'=[T']/\fe q {s with V:=gO s.V s.last s.now a r t} T':=by
 obtain⟨j,i,b,f,e,k,rfl,z,x,A⟩:=h
 have G:bJ (bE (w,t)):=⟨d.bG⟩
 refine Spec.dg (H':=[bl q [pT j,pT i,pT b,.int .i64 s.now] 74,f,e,k]) (by simp) ?_
 refine Spec.body func84 rfl results84 ntmps84 rfl ?_
 refine .sr ?_
 refine .dv rfl (λl=>?_)
 refine .dv rfl (λg=>?_)
 refine .zs ?_
 refine bQ.cut (X:=Unit) (λ_=>True) (λ_=>[(0,pT q),(4,pT l),(5,pT g)]) (λ_=>[bl g (bE (w,hP a 1 (s.now+600) t)) 60,bl l [.string a,.string r] 147,bl q [pT j,pT i,pT b,.int .i64 s.now] 74,f,e,k]) ?_ ?_
 refine .qG [0] [8,10,12] mixed ?_
 conv=>arg 3;simp only[take,rest,aZ,aeg,aeh]
 conv=>arg 5;simp only[take,rest,aZ,aeg,aeh]
 conv=>arg 9;simp only[take,rest,aZ,aeg,aeh]
 refine .tO 0 rfl (.fieldAddr rfl)<|.tO 1 rfl (.bN rfl)<|.tK 2 rfl .move ?_
 refine .tK 3 rfl (.mN rfl) ?_
 refine .tK 4 rfl (.gy rfl) ?_
 refine .tK 5 rfl (.bN rfl) ?_
 refine .tK 6 rfl (.i64 (s.now+600) .add ⟨rfl,by omega,by omega⟩) ?_
 refine .tO 7 rfl (.fieldAddr rfl) ?_
 refine .sT 8 rfl ?_
 refine .cJ rfl rfl ?_
 refine .nil (Next.mod rfl ?_)
 refine .tK 9 rfl (.gy rfl) ?_
 refine .sT 10 rfl ?_
 refine .cJ rfl rfl ?_
 refine .nil (Next.mod rfl ?_)
 refine .tK 11 rfl (.gy rfl) ?_
 refine .sT 12 rfl ?_
 refine .cJ rfl rfl ?_
 refine .nil (Next.mod rfl ?_)
 refine RA.nil (by kernel_rfl) ?_
 ·exact aB () trivial kE.c.c.c rH
 intro y D
 have H:bJ (bE (w,hP a 1 (s.now+600) t)):=m5 (show One w from d.aw)
 refine aD<|.seq ?_
 refine .df 5 mixed (by kernel_rfl) ?_
 conv=>arg 6;dsimp only[List.take]
 refine .mo rfl<|.nc rfl<|.fa rfl<|.lo rfl<|.q (.bK rfl)<|.nil ?_
 refine .bW (yD b s.V s.last k A w (hP a 1 (s.now+600) t) R (show RS R 1 bB w t.scopes from d) o) (λu n m=>?_)
 obtain⟨rfl,B⟩:=m
 refine .zs ?_
 refine bQ.cut (X:=Unit) (λ_=>True) (λ_=>[(0,pT q),(5,pT g)]) (λ_=>[bl g (bE (w,hP r 2 (s.now+100000) t)) 60,bl l [.string a,.string r] 147,bl q [pT j,pT i,pT b,.int .i64 s.now] 74,f,e,n]) ?_ ?_
 refine .qG [0] [8,10,12] mixed ?_
 conv=>arg 3;simp only[take,rest,aZ,aeg,aeh]
 conv=>arg 5;simp only[take,rest,aZ,aeg,aeh]
 conv=>arg 9;simp only[take,rest,aZ,aeg,aeh]
 refine .tO 0 rfl (.fieldAddr rfl)<|.tO 1 rfl (.bN rfl)<|.tK 2 rfl .move ?_
 refine .tK 3 rfl (.mN rfl) ?_
 refine .tK 4 rfl (.gy rfl) ?_
 refine .tK 5 rfl (.bN rfl) ?_
 refine .tK 6 rfl (.i64 (s.now+100000) .add ⟨rfl,by omega,by omega⟩) ?_
 refine .tO 7 rfl (.fieldAddr rfl) ?_
 refine .sT 8 rfl ?_
 refine .cJ rfl rfl ?_
 refine .nil (Next.mod rfl ?_)
 refine .tK 9 rfl (.gy rfl) ?_
 refine .sT 10 rfl ?_
 refine .cJ rfl rfl ?_
 refine .nil (Next.mod rfl ?_)
 refine .tK 11 rfl (.gy rfl) ?_
 refine .sT 12 rfl ?_
 refine .cJ rfl rfl ?_
 refine .nil (Next.mod rfl ?_)
 refine RA.nil (by kernel_rfl) ?_
 ·exact aB () trivial kE.c.c rH
 intro y D
 have I:bJ (bE (w,hP r 2 (s.now+100000) t)):=m5 (show One w from d.aw)
 refine aD ?_
 refine .df 5 mixed (by kernel_rfl) ?_
 conv=>arg 6;dsimp only[List.take]
 refine .mo rfl<|.nc rfl<|.fa rfl<|.lo rfl<|.q (.bK rfl)<|.nil ?_
 refine .bW (yD b _ s.last n B w (hP r 2 (s.now+100000) t) R (show RS R 1 bB w t.scopes from d) o) (λu p m=>?_)
 obtain⟨rfl,C⟩:=m
 refine .nil<|eh _ .none (.one [2,2,2,2] _) ?_
 ·exact⟨_,rfl,j,i,b,f,e,p,by simp[take,aZ],z,x,C⟩
theorem LC(q:Nat)(s:cd)(T:ax)(h:fe q s T)(S:s.A.length<=1000000)(a id:ByteArray)(R:av)(H:∀p∈T,R p.1 p.2):
  Spec prog 79 [pT q,.string a,.string id] R [] λv H'=>v=.tuple [.int .i64 ((jl s.A a id).getD bL.zero).family,.bool (jl s.A a id).isSome].toArray/\H'=[]:=by
 obtain⟨B,l,D,Tc,K,Tv,rfl,hR,F,hV⟩:=h
 have pq:PC R (pT q) [pT B,pT l,pT D,.int .i64 s.now]:=PC.of (E:=74) (fr:=(0,0)) (H (q,.cells [pT B,pT l,pT D,.int .i64 s.now].toArray 74 (0,0)) (by simp))
 have M:=F.nd
 refine Spec.body func79 rfl results79 ntmps79 rfl ?_
 refine .sr<|.ag rfl<|.ag rfl<|.zs<|.sr<|.mo rfl<|.nc rfl<|.fa rfl<|.lo rfl ?_
 refine .da (vD l s.C s.A K F S _ (λp g=>.inl (H p (by simp[g])))) (λw T2 hw=>?_)
 obtain⟨f,y,x,rfl,j,V,G,_⟩:=hw
 have iw:=j.aw
 have a0:=j.le
 refine .sub (aT.bu (H':=[y,x]) (by simp)) ?_
 refine .q (.ec j) ?_
 refine .mo rfl<|.zn<|.block ?_
 refine .loop (X:=Nat) (λi=>i<=f.length/\∀p∈f.take i,¬(p.2.text=a/\p.2.aE=id/\p.2.used=true)) (λi=>[(1,.string a),(2,.string id),(14,w),(15,iN f.length),(16,iN i)]) (λ_=>[y,x]) (λi=>f.length-i) 0 ⟨Nat.zero_le _,by simp⟩ kE.c.c.c.c.c rH ?_
 rintro i ⟨hi,n⟩
 refine .sr<|.q .lss<|.zs ?_
 refine .cond rfl (λm=>?_) λm=>?_
 have k:i<f.length:=dQ m
 obtain⟨z,r⟩:=dN k
 obtain⟨J,c⟩:=z
 have I:=bU r
 have ic:bJ (bO (J,c)):=⟨(V _ I).bG⟩
 have O:(c.text,c)∈s.A:=G.mem_iff.1 (aed.2 ⟨c,aed.2 ⟨_,I,rfl⟩,rfl⟩)
 have o:¬(c.text=a/\c.aE=id/\c.used=true)->∀p∈f.take (i+1),¬(p.2.text=a/\p.2.aE=id/\p.2.used=true):=λN p g=>by
  rcases(o1 r p).1 g with h9|rfl
  ·exact n p h9
  ·exact N
 refine .kn<|.seq<|.block<|.sr ?_
 refine .bb i j r (λa1=>?_)
 refine .q (.bK rfl) ?_
 refine .cN (λb9=>?_)
 refine .ct (cs:=bO (J,c)) rfl rfl ?_
 refine .z<|.fa rfl<|.lo rfl<|.mo rfl<|.q .ek<|.mo rfl ?_
 refine .split (t:=24) rfl (λb=>?_) (λb=>?_)
 refine .gT b<|.fa rfl<|.gT b<|.lo rfl<|.gT b<|.mo rfl<|.gT b<|.q .ek<|.q (.aY b) ?_
 refine .mo rfl ?_
 refine .split (t:=30) rfl (λd=>?_) (λd=>?_)
 refine .gT d<|.fa rfl<|.gT d<|.lo rfl<|.q (.aY d) ?_
 refine .zn ?_
 refine .cond rfl (λL=>?_) λL=>?_
 have W:jl s.A a id=some c:=by
  unfold jl
  have e:aU a s.A=some c:=gC M (by
   have:c.text=a:=by simp_all
   rw[<-this];exact O)
  rw[e,Option.filter_some,ad9]
  simp_all
 refine .sr<|.fa rfl<|.lo rfl<|.ag rfl<|.az rfl ?_
 refine .ret (br (aL (dn (br (aL (aR _ (.two (.tmp rfl) (.tmp rfl)) (.none _) ?_))))))
 ·rw[W];exact⟨rfl,rfl⟩
 refine .skip<|bz<|aD<|.region ?_
 refine .ia (i+1) .add ?_
 refine .mo rfl<|.nil ?_
 ·exact bf (i+1) ⟨k,o (λh9=>by simp_all)⟩ (by omega) kE.c.c.c.c.c (aI [1,1])
 refine .gF d<|.gF d<|.q (.aS d) ?_
 refine .zn<|.bZ<|.skip<|bz<|aD<|.region ?_
 refine .ia (i+1) .add ?_
 refine .mo rfl<|.nil ?_
 ·exact bf (i+1) ⟨k,o (λh9=>by simp_all)⟩ (by omega) kE.c.c.c.c.c (aI [1,1])
 refine .gF b<|.gF b<|.gF b<|.gF b<|.q (.aS b) ?_
 refine .mo rfl<|.gX<|.gX<|.q .bY<|.zn<|.bZ<|.skip<|bz<|aD<|.region ?_
 refine .ia (i+1) .add ?_
 refine .mo rfl<|.nil ?_
 ·exact bf (i+1) ⟨k,o (λh9=>by simp_all)⟩ (by omega) kE.c.c.c.c.c (aI [1,1])
 have Q:i=f.length:=by have:=bo m;omega
 have U:jl s.A a id=none:=by
  unfold jl
  cases e:aU a s.A with
  |none=>rfl
  |some c=>
   rw[Option.filter_some,ad8]
   intro h9
   simp only[aeu,aem]at h9
   obtain⟨u,Y,Z⟩:=aed.1 (G.mem_iff.2 (fH e))
   obtain⟨p,g,rfl⟩:=aed.1 Y
   cases Z
   rw[Q,List.take_length]at n
   exact n p g ⟨rfl,h9.1,h9.2⟩
 refine .exit<|bD<|bH<|bF<|aD<|.sr<|.ag rfl<|.az rfl ?_
 refine .ret (aR _ (.two (.tmp rfl) (.tmp rfl)) (.none _) ?_)
 ·rw[U];exact⟨rfl,rfl⟩
theorem vI(g:Nat)(C:List (cB×List ByteArray))(A:List (ByteArray×bL))(T:ax)(h:GI g C A T)(k aE b a:ByteArray)(now:Int)(j:a.size<=9223372036854775807)(R:av)(i:PC R (pT 1) (wv ks)):
  Spec prog 83 [pT g,.string k,.string aE,.string b,.string a,.int .i64 now] R [T] λv H'=>∃T',H'=[T']/\∃Tb Tn,T'=Tb++Tn/\∃w,v=.tuple [.agg (bO (w,(bi A k aE b a now).1)).toArray,.int .i64 (bi A k aE b a now).2.1].toArray/\dq (eg Tn) (w,(bi A k aE b a now).1)/\GI g C (bi A k aE b a now).2.2 Tb:=
 Spec.flat ((KH g C A T h k aE b a now j R i).mono λv H' ⟨T',Tn,e,w,c,d,f⟩=>⟨H',T'++Tn,rfl,by rw[e];simp,T'++Tn,rfl,T',Tn,rfl,w,c,d,f⟩)
theorem tn(g:Nat)(A:List (ByteArray×Tok))(last:Int)(T:ax)(h:VI g A last T)(k aE:ByteArray)(now:Int)(R:av):
  Spec prog 86 [pT g,.string k,.string aE,.int .i64 now] R [T] λv H'=>∃T',H'=[T']/\∃Tb Tn,T'=Tb++Tn/\∃w,v=.tuple [.agg (bE (w,(gu A k aE now).1)).toArray,.int .i64 (gu A k aE now).2.1].toArray/\dS (eg Tn) (w,(gu A k aE now).1)/\VI g (gu A k aE now).2.2 last Tb:=
 Spec.flat ((OP g A last T h k aE now R).mono λv H' ⟨T',Tn,e,w,a,b,c⟩=>⟨H',T'++Tn,rfl,by rw[e];simp,T'++Tn,rfl,T',Tn,rfl,w,a,b,c⟩)
theorem OH(g:Nat)(A:List (ByteArray×Tok))(last:Int)(T:ax)(h:VI g A last T)(b:Int)(R:av):
  Spec prog 80 [pT g,.int .i64 b] R [T] λv H'=>∃T',H'=[T']/\v=.int .i64 ((A.filter λx=>x.2.family==b).length:Nat)/\VI g (A.filter λx=> !(x.2.family==b)) last T':=by
 obtain⟨a,d,rfl,e⟩:=h
 refine Spec.dg (H':=[d,a]) (by simp) ?_
 refine Spec.flat ((Spec.nN [0] (ti g A last a d e b _)).mono ?_)
 rintro v H' ⟨j,rfl,c,rfl,i,f⟩
 exact⟨_,c++a,rfl,by simp[rest,aZ],c++a,rfl,i,a,c,rfl,f⟩
theorem GI.eo{g:Nat}{C:List (cB×List ByteArray)}{A:List (ByteArray×bL)}{T:ax}(h:GI g C A T):∀p∈A,p.2.eo:=by
 obtain⟨i,_,rfl,n,e,o,M,q,f,j,k,rfl,_,l,b,a,m⟩:=h
 intro p c
 obtain⟨x,d,rfl⟩:=qx (a.mem_iff.2 c)
 exact(b x d).2.2
theorem VI.eo{g:Nat}{A:List (ByteArray×Tok)}{last:Int}{T:ax}(h:VI g A last T):∀p∈A,p.2.eo:=by
 obtain⟨f,e,rfl,m,M,q,i,j,rfl,k,b,a,l⟩:=h
 intro p c
 obtain⟨x,d,rfl⟩:=qx (a.mem_iff.2 c)
 exact(b x d).2.2
theorem KG{A:List (ByteArray×bL)}(a:∀p∈A,p.2.eo)(k aE c d:ByteArray)(now:Int):(bi A k aE c d now).1.scopes.length<=1000000:=by
 unfold bi
 split
 ·simp[bL.zero]
 ·rename_i t b
  have h:=a _ (fH b)
  split
  ·simp[bL.zero]
  ·split
   ·exact h
   ·split
    ·simp[bL.zero]
    ·exact h
theorem Lp(q:Nat)(s:cd)(T:ax)(h:fe q s T)(k:Nat)(L:OB s k)(hk:k<=1000)(id m d g f:ByteArray)(va vr:Value)(a r:List UInt8)(rev:Int)(a3:f.size<=9223372036854775807)(a9:a.length<=1000)(b0:r.length<=1000)(R:av)(ha:RS R 1 cO va a)(a0:RS R 1 cO vr r)(hg:PC R (pT 1) (wv ks)):
  Spec prog 27 [pT q,.string id,.string m,.string d,.string g,.string f,va,vr,.int .u64 rev] R [T] λv H'=>∃T',H'=[T']/\v=.tuple [.string (bM s id m d g f a r rev).1,.string (bM s id m d g f a r rev).2.1,.int .i64 (bM s id m d g f a r rev).2.2.1].toArray/\fe q (bM s id m d g f a r rev).2.2.2 T':=by
 have Y:=h
 obtain⟨n,i,l,w,I,B,rfl,O,K,Q⟩:=h
 have i1:=ha.aw
 have i2:=a0.aw
 have b1:=L.n0
 have b2:=L.n1
 have a7:s.V.length<=1000000:=by have:=L.V;omega
 have a6:s.A.length<=1000000:=by have:=L.A;omega
 refine Spec.dg (H':=[bl q [pT n,pT i,pT l,.int .i64 s.now] 74,w,I,B]) (by simp) ?_
 refine Spec.body func27 rfl results27 ntmps27 rfl ?_
 refine .sr<|.ag rfl<|.ag rfl<|.ag rfl<|.zs<|.sr<|.mo rfl<|.mo rfl<|.mo rfl<|.mo rfl<|.mo rfl ?_
 refine .aM (wE q s _ Y id m va vr a r _ (λp M=>.inr (show p∈List.flatten _ from by simpa using M)) ha.rx a0.rx) (λv j=>?_)
 subst j
 refine .ag rfl<|.z<|.mo rfl<|.q .dL<|.zn ?_
 refine .cond rfl (λJ=>?_) λJ=>?_
 refine .sr<|.mo rfl<|.ag rfl<|.ag rfl<|.az rfl ?_
 refine .ret (aL (aR _ (.three (.tmp rfl) (.tmp rfl) (.tmp rfl)) (.one [0,0,0,0] _) ?_))
 ·have e:bM s id m d g f a r rev=(e0,e0,eA s id m a r,s):=by unfold bM;rw[ad9 (by simpa using J)]
  rw[e]
  exact⟨_,rfl,rfl,n,i,l,w,I,B,by simp[take,aZ],O,K,Q⟩
 refine .kn<|.seq<|.sr<|.mo rfl<|.mo rfl<|.mo rfl ?_
 refine .aM (LC q s _ Y a6 d id _ (λp M=>.inr (show p∈List.flatten _ from by simpa using M))) (λv j=>?_)
 subst j
 refine .mo rfl<|.q .extract<|.q .extract<|.ag rfl<|.ag rfl<|.z<|.mo rfl<|.zn ?_
 refine .cond rfl (λZ=>?_) λZ=>?_
 refine .sr<|.mo rfl<|.nc rfl<|.fa rfl<|.lo rfl<|.mo rfl ?_
 refine .bW (OH l s.V s.last B Q _ R) (λu U hu=>?_)
 obtain⟨_,a2⟩:=hu
 refine .z<|.ag rfl<|.ag rfl<|.az rfl ?_
 refine .ret (aL (aR _ (.three (.tmp rfl) (.tmp rfl) (.tmp rfl)) (.one [0,0,0,0] _) ?_))
 ·obtain⟨c,hc⟩:=aen.1 Z
  have e:bM s id m d g f a r rev=(e0,e0,18,{s with V:=s.V.filter λx=> !(x.2.family==c.family)}):=by unfold bM;rw[ad8 (by simpa using J),hc]
  rw[e]
  rw[hc]at a2
  exact⟨_,rfl,rfl,n,i,l,w,I,U,by simp[take,aZ],O,K,a2⟩
 have a1:jl s.A d id=none:=by simpa using Z
 refine .kn<|.sr<|.mo rfl<|.mo rfl ?_
 refine .aM (wP va vr a r _ ha.rx a0.rx a9 b0) (λv j=>?_)
 subst j
 refine .cN (λW=>?_)
 refine .ct rfl rfl<|.zs<|.sr<|.mo rfl<|.q (.bK rfl) ?_
 refine .aM (wW q s _ Y a7 (bj 97 a) (bj 114 r) _ (λp M=>.inr (show p∈List.flatten _ from by simp at M⊢;exact .inr M))) (λv j=>?_)
 subst j
 refine .ag rfl<|.z<|.mo rfl<|.q .dL<|.zn ?_
 refine .cond rfl (λS=>?_) λS=>?_
 refine .sr<|.mo rfl<|.ag rfl<|.ag rfl<|.az rfl ?_
 refine .ret (aL (aR _ (.three (.tmp rfl) (.tmp rfl) (.tmp rfl)) (.one [1,1,1,1] _) ?_))
 ·have e:bM s id m d g f a r rev=(e0,e0,dG s (bj 97 a) (bj 114 r),s):=by
   unfold bM;rw[ad8 (by simpa using J),a1];simp only;rw[ad9 (by simpa using S)]
  rw[e]
  exact⟨_,rfl,rfl,n,i,l,w,I,B,by simp[take,aZ],O,K,Q⟩
 refine .kn<|.seq ?_
 refine bQ.cut (X:=Nat×Value×ax×ax) (λy=>dq (eg y.2.2.2) (y.2.1,(bi s.A d id g f s.now).1)/\GI i s.C (bi s.A d id g f s.now).2.2 y.2.2.1) (λy=>[(0,pT q),(1,.string id),(8,.int .u64 rev),(24,pT W),(26,.pointer (some ⟨y.1,0,none⟩)),(27,.int .i64 (bi s.A d id g f s.now).2.1)]) (λy=>[[(y.1,.cells (bO (y.2.1,(bi s.A d id g f s.now).1)).toArray 123 (0,0))],bl W [.string (bj 97 a),.string (bj 114 r)] 147,bl q [pT n,pT i,pT l,.int .i64 s.now] 74,w,y.2.2.1++y.2.2.2,B]) ?_ ?_
 refine .cW [12,17] mixed ?_
 refine .tO 0 rfl .move<|.tO 1 rfl (.nilCheck rfl)<|.tO 2 rfl (.fieldAddr rfl)<|.tO 3 rfl (.bN rfl)<|.tO 4 rfl .move<|.tO 5 rfl .move<|.tO 6 rfl .move<|.tO 7 rfl .move<|.tO 8 rfl .move<|.tO 9 rfl (.nilCheck rfl)<|.tO 10 rfl (.fieldAddr rfl)<|.tO 11 rfl (.bN rfl) ?_
 refine RA.mR 12 16 rfl rfl (by kernel_rfl) rfl ?_ ?_
 refine .bW (vI i s.C s.A I K d id g f s.now a3 R hg) (λv U j=>?_)
 obtain⟨D,G,rfl,F,rfl,t,H⟩:=j
 have j1:bJ (bO (F,(bi s.A d id g f s.now).1)):=⟨t.bG⟩
 refine .nil (Next.mod rfl ?_)
 refine .tK 13 rfl .move<|.tK 14 rfl .extract<|.tK 15 rfl .extract ?_
 refine .sT 16 rfl ?_
 refine .cN (λN=>?_)
 refine .nil (Next.mod rfl ?_)
 refine .sT 17 rfl ?_
 refine .ct rfl rfl ?_
 refine .nil (Next.mod rfl ?_)
 refine .tK 18 rfl .assign ?_
 refine RA.nil (by kernel_rfl) ?_
 ·exact aB (N,F,D,G) ⟨t,H⟩ kE.c.c.c.c.c.c rH
 refine .cN (λN=>?_)
 refine .nil (Next.sub ?_)
 refine .sT 12 rfl ?_
 refine .bW (vI i s.C s.A I K d id g f s.now a3 R hg) (λv U j=>?_)
 obtain⟨D,G,rfl,F,rfl,t,H⟩:=j
 have j1:bJ (bO (F,(bi s.A d id g f s.now).1)):=⟨t.bG⟩
 refine .nil (Next.mod rfl ?_)
 refine .tK 13 rfl .move<|.tK 14 rfl .extract<|.tK 15 rfl .extract ?_
 refine .sT 17 rfl ?_
 refine .ct rfl rfl ?_
 refine .nil (Next.mod rfl ?_)
 refine .tK 18 rfl .assign ?_
 refine RA.nil (by kernel_rfl) ?_
 ·exact aB (N,F,D,G) ⟨t,H⟩ kE.c.c.c.c.c.c rH
 intro y hy
 obtain⟨N,F,D,G⟩:=y
 obtain⟨t,H⟩:=hy
 simp only at t H⊢
 have j1:bJ (bO (F,(bi s.A d id g f s.now).1)):=⟨t.bG⟩
 have j2:One F:=t.aw
 refine aD<|.seq<|.sr<|.mo rfl<|.q .dL<|.zn ?_
 refine .cond rfl (λh4=>?_) λh4=>?_
 refine .sr<|.ag rfl<|.ag rfl<|.az rfl ?_
 refine .ret (aL (aR _ (.three (.tmp rfl) (.tmp rfl) (.tmp rfl)) ((aI [2,2,2,2]).trans (⟨G,by first|(simp[take,aZ];done)|(simp[take,aZ];exact aeo _ (aeo _ List.perm_append_comm))⟩:aT _ [(q,.cells [pT n,pT i,pT l,.int .i64 s.now].toArray 74 (0,0))::(w++(D++B))])) ?_))
 ·have e:bM s id m d g f a r rev=(e0,e0,18,{s with A:=(bi s.A d id g f s.now).2.2}):=by
   unfold bM;rw[ad8 (by simpa using J),a1];simp only;rw[ad8 (by simpa using S),ad9 (by simpa using h4)]
  rw[e]
  exact⟨_,rfl,rfl,n,i,l,w,D,B,rfl,O,H,Q⟩
 obtain⟨a5,a4,b3⟩:=RS.val (show RS _ 1 bB F (bi s.A d id g f s.now).1.scopes from t)
 subst b3
 refine bQ.le (bh.refl _) (aT.bu (H':=[bl N (bO (.slice a5 (bi s.A d id g f s.now).1.scopes.length a4,(bi s.A d id g f s.now).1)) 123,bl W [.string (bj 97 a),.string (bj 114 r)] 147,(q,.cells [pT n,pT i,pT l,.int .i64 s.now].toArray 74 (0,0))::(w++(D++B)),G]) (by first|(simp;done)|(simp;exact aeo _ (aeo _ List.perm_append_comm)))) ?_
 have b4:PS ((q,.cells [pT n,pT i,pT l,.int .i64 s.now].toArray 74 (0,0))::(w++(D++B))) (pT q) [pT n,pT i,pT l,.int .i64 s.now]:=PS.of (E:=74) (fr:=(0,0)) (by simp)
 refine .kn<|.sr<|.mo rfl<|.q (.bK rfl)<|.mo rfl<|.fa rfl<|.lo rfl<|.fa rfl<|.lo rfl<|.fa rfl<|.lo rfl<|.mo rfl ?_
 refine .q .dI ?_
 refine .jO (wQ q {s with A:=(bi s.A d id g f s.now).2.2} _ ⟨n,i,l,w,D,B,rfl,O,H,Q⟩ b1 b2 (bj 97 a) (bj 114 r) (.slice a5 (bi s.A d id g f s.now).1.scopes.length a4) ⟨e0,0,id,(bi s.A d id g f s.now).1.user,(bi s.A d id g f s.now).1.scopes,(bi s.A d id g f s.now).1.family,0,rev,false⟩ _ (show RS _ 1 bB _ (bi s.A d id g f s.now).1.scopes from RS.mono t λb o L=>.inr (by have a8:(b,o)∈G:=L.1;simp[a8])) (KG K.eo _ _ _ _ _)) (λv T3 j=>?_)
 refine .zs ?_
 refine .iQ mixed (by kernel_rfl) ?_
 refine .fa rfl<|.lo rfl<|.fa rfl<|.lo rfl<|.ag rfl<|.ag rfl<|.az rfl ?_
 refine .ret (aR _ (.three (.tmp rfl) (.tmp rfl) (.tmp rfl)) (.one [2] _) ?_)
 ·have e:bM s id m d g f a r rev=(bj 97 a,bj 114 r,0,{s with A:=(bi s.A d id g f s.now).2.2,V:=gO s.V s.last s.now (bj 97 a) (bj 114 r) ⟨e0,0,id,(bi s.A d id g f s.now).1.user,(bi s.A d id g f s.now).1.scopes,(bi s.A d id g f s.now).1.family,0,rev,false⟩}):=by
   unfold bM;rw[ad8 (by simpa using J),a1];simp only;rw[ad8 (by simpa using S),ad8 (by simpa using h4)]
  rw[e]
  exact⟨_,rfl,rfl,by simpa[take]using j⟩
end Go.Proofs.YtkkmbiojicgobaaGreatDoor

/- What the law 'SolveRounds' uses. No condition. -/
import Derived.Test.YtdljmchhecoakaaGreatKSolveRoundsB
import Derived.Test.YtdljmchhecoakaaGreatKSolveRoundsE
import Derived.Test.YtdljmchhecoakaaGreatKSolveRoundsF
import Derived.Test.YtdljmchhecoakaaGreatKSolveRoundsH
import Derived.Test.YtdljmchhecoakaaGreatKSolveRoundsK
import Derived.Test.YtdljmchhecoakaaGreatKSolveRoundsM
import Derived.Test.YtdljmchhecoakaaGreatKSolveRoundsN
namespace Go.Proofs.YtdljmchhecoakaaGreat
set_option linter.defProp false
def aeU:=@if_neg
def aeV:=@if_pos
def aeW:=@List.length_singleton
def aeX:=@Nat.zero_le
def aeY:=@List.nil_append
def aeZ:=@List.cons_append
def ae0:=@Nat.le_trans
def ae1:=@List.getElem?_map
def ae2:=@List.mem_singleton
def ae3:=@List.length_map
def ae4:=@List.mem_append_right
def ae5:=@List.append_nil
def ae6:=@trivial
def ae7:=@List.mem_append
def ae8:=@List.length_filter_le
def ae9:=@List.getD_eq_getElem?_getD
def afa:=@List.mem_map
def afb:=@Option.getD_some
def afc:=@List.length_nil
def afd:=@List.getElem?_eq_some_iff
def afe:=@Option.isSome_iff_exists
def aff:=@List.length_append
def afg:=@List.map_append
def afh:=@List.length_take
def afi:=@Nat.le_refl
def afj:=@Option.getD_none
def afk:=@List.take_length
def afl:=@List.append_assoc
def afm:=@Option.map_some
def afn:=@List.filter_append
def afo:=@List.mem_cons
def afp:=@List.length_set
def afq:=@List.mem_append_left
def afr:=@List.getD_cons_zero
def afs:=@List.getD_cons_succ
def aft:=@Bool.and_eq_true
def afu:=@List.flatten_cons
def afv:=@List.flatten_nil
def afw:=@List.perm_append_comm
def afx:=@List.flatMap_append
def afy:=@List.map_congr_left
def afz:=@Bool.false_eq_true
def afA:=@List.eq_nil_of_length_eq_zero
open Tryz
set_option linter.unusedVariables false
set_option linter.unusedSimpArgs false
set_option maxRecDepth 4000
theorem KR{a:bE}(h:∀t∈a.1,dT t):lP isWord a=match cC nL a with
  |none=>([⟨1,⟨#[]⟩,⟨#[]⟩,0,0⟩],a)
  |some s=>kQ [] s:=by
 unfold lP
 cases hh:cC nL a with
 |none=>rfl
 |some s=>
  simp only
  rw[BM (λt b=>h t ((fL hh).1.mem b))]
theorem Kz{s:ByteArray}{a:bE}(h:∀t∈a.1,dT t):∀t∈(fA s a).1,dT t:=λt b=>h t ((nq s a).mem b)
theorem xM{a:bE}(h:∀t∈a.1,dT t):(dX isWord a).1.fits:=by
 unfold dX
 split
 ·exact⟨aeX _,aeX _⟩
 ·exact⟨pN h,pN (Kz λt b=>h t ((jE a).mem b))⟩
theorem wR{l:List Nd}{b:bE}(a:∀x∈l,x.fits)(h:∀t∈b.1,dT t):∀x∈(dB l b).1,x.fits:=by
 unfold dB
 split
 ·intro x hx
  rcases ae7.1 hx with hx|hx
  ·exact a x hx
  ·rw[ae2]at hx
   subst hx
   exact⟨aeX _,aeX _⟩
 ·intro x hx
  rcases ae7.1 hx with hx|hx
  ·exact a x hx
  ·rw[ae2]at hx
   subst hx
   exact⟨pN h,aeX _⟩
theorem wq:∀(g:Nat) (l:List Nd) (st:bE),(∀x∈l,x.fits)->(∀t∈st.1,dT t)->∀x∈(js (iO isWord 1) g l st).1,x.fits
 |0,l,st,hl,_=>hl
 |g+1,l,st,hl,h=>by
  rw[sU h]
  have a:=K6 h
  unfold ob
  split
  ·exact hl
  ·split
   ·exact hl
   ·refine wq g _ _ ?_ λt b=>a t ((lE l _).mem b)
    intro x hx
    unfold my at hx
    rcases ae7.1 hx with hx|hx
    ·exact wR hl a x hx
    ·rw[ae2]at hx
     subst hx
     exact⟨aeX _,aeX _⟩
theorem BL{a:bE}(h:∀t∈a.1,dT t):∀x∈(kQ [] a).1,x.fits:=
 wq _ _ _ (wR (λx c=>(by cases c)) h) λt b=>h t ((lE [] a).mem b)
theorem NZ{f:Nat}{l:List Ty}{a:bE}:mE isWord (f+1) l a=match cC gK a with
  |none=>(l,a)
  |some s=>mE isWord f (l++[(dX isWord s).1]) (dX isWord s).2:=rfl
section
variable{R:aw}
theorem y2(h:Nat)(e:bE)(T:ap)(hI:dg R h e T)(hn:e.1.length<=1000000):Spec prog 204 [pT h] R [T] λu H'=>∃T' Tn,H'=[T',Tn]/\∃r:cb,u=.agg r.enc.toArray/\r.is (sg Tn)/\r.r=(lQ isWord e).1/\dg R h (lQ isWord e).2 T':=by
 have b6:lQ isWord e=(⟨(cP isWord e).1,(jQ isWord (cP isWord e).2).1,(lP isWord (jQ isWord (cP isWord e).2).2).1⟩,fA r7 (lP isWord (jQ isWord (cP isWord e).2).2).2):=rfl
 have a8:=pN (W:=isWord) hI.ok
 have a6:∀t∈(cP isWord e).2.1,dT t:=λt ht=>hI.ok t ((jE e).mem ht)
 have C:jQ isWord (cP isWord e).2=match cC oK (cP isWord e).2 with
  |none=>([],(cP isWord e).2)
  |some s=>mE isWord ((dX isWord s).2.1.length+1) [(dX isWord s).1] (dX isWord s).2:=rfl
 have a5:(cP isWord e).2.1.length<=1000000:=ae0 (jE e).len hn
 have a0:(jQ isWord (cP isWord e).2).2.1.length<=1000000:=ae0 (uH _).len a5
 have S:∀t∈(jQ isWord (cP isWord e).2).2.1,dT t:=λt ht=>a6 t ((uH _).mem ht)
 have m:=KR S
 rw[b6]
 clear b6
 obtain⟨ws,c0⟩:∃ws,ws=cP isWord e:=⟨_,rfl⟩
 have a7:=pO h e T R hI
 rw[<-c0]at a8 a6 C S m a7 a5 a0⊢
 clear c0
 obtain⟨L,s1⟩:=ws
 simp only at a8 a6 C S m a7 a5 a0⊢
 obtain⟨tt,b9⟩:∃tt,tt=jQ isWord s1:=⟨_,rfl⟩
 rw[<-b9]at C S m a0⊢
 clear b9
 obtain⟨a3,M⟩:=tt
 simp only at S m a0⊢
 obtain⟨nn,b5⟩:∃nn,nn=lP isWord M:=⟨_,rfl⟩
 rw[<-b5]at m⊢
 clear b5
 obtain⟨a2,s3⟩:=nn
 simp only
 refine Spec.body func204 rfl results204 ntmps204 rfl ?_
 refine .sr ?_
 refine .bT (λN=>?_)
 refine .z<|.mo rfl ?_
 refine .bQ (R:=R) a7 (λu T1 i=>?_)
 obtain⟨rfl,c1⟩:=i
 refine .q .cD ?_
 refine .dV (λp=>?_)
 refine .q .cD ?_
 refine .bT (λO=>?_)
 refine .bP rfl rfl<|.zs<|.sr<|.mo rfl ?_
 refine .bQ (R:=R) (lk h s1 _ R c1 oK) (λu T2 i=>?_)
 obtain⟨rfl,k⟩:=i
 refine .zn ?_
 refine bq.dI [(0,_),(2,_),(3,_)] kE.c.c.c (X:=Value×ap×ap) (λy=>OS 249 2 Ty.enc y.1 a3 y.2.1/\dg R h M y.2.2/\∀t∈a3,t.fits) (λ_ E=>E) (λy=>[y.2.2,y.2.1,bl O [.string L,y.1,.slice (some ⟨p,0,none⟩) 1 1] 167,bl p (Nd.enc ⟨1,⟨#[]⟩,⟨#[]⟩,0,0⟩) 199,bl N [.string ⟨#[]⟩,sZ,sZ] 167]) ?_ ?_
 refine .cond rfl (λU=>?_) λU=>?_
 obtain⟨s,B⟩:=afe.1 U
 rw[B]at k C
 simp only[afb]at k C
 have c3:=xM k.ok
 have c9:=(fL B).2.1
 have c6:=(qZ (W:=isWord) s).len
 refine bq.le (dC.refl _) bo.gb ?_
 refine .seq ?_
 refine bq.dI [(0,_),(2,_),(3,_)] kE.c.c.c (X:=Value×ap×ap) (λy=>OS 249 2 Ty.enc y.1 [(dX isWord s).1] y.2.1/\dg R h (dX isWord s).2 y.2.2) (λ_ E=>E) (λy=>[y.2.2,y.2.1,bl O [.string L,y.1,.slice (some ⟨p,0,none⟩) 1 1] 167,bl p (Nd.enc ⟨1,⟨#[]⟩,⟨#[]⟩,0,0⟩) 199,bl N [.string ⟨#[]⟩,sZ,sZ] 167]) ?_ ?_
 refine .cG [3,5,7] mixed ?_
 refine .tK 0 rfl (.eH rfl) ?_
 refine .tO 2 rfl .move ?_
 refine RA.hG 1 3 rfl rfl (by kernel_rfl) rfl ?_ ?_
 refine .lo rfl ?_
 refine .nil (Next.sub ?_)
 refine .sT 3 rfl ?_
 refine .bQ (R:=R) (qY h s _ k) (λu n i=>?_)
 obtain⟨rfl,g⟩:=i
 refine .nil (Next.mod rfl ?_)
 refine .sT 4 rfl ?_
 refine .dV (λa9=>?_)
 refine .nil (Next.mod rfl ?_)
 refine .sT 5 rfl ?_
 refine .append (OS.nil (E:=249) (sz:=2) (enc:=Ty.enc)) (RS.lits (xs:=[(dX isWord s).1]) rfl (by simp[Ty.enc]) (by simp[Ty.enc,aC])) (by simp only[aeW,afc];omega) (λw j a=>?_)
 have i5:=a.aC
 refine .nil (Next.mod rfl ?_)
 refine .tK 6 rfl (.eH rfl) ?_
 refine .sT 7 rfl ?_
 refine .du rfl rfl ?_
 refine .nil (Next.mod rfl ?_)
 refine RA.nil (by kernel_rfl) ?_
 ·exact aL (w,j,n) ⟨a,g⟩ kE.c.c.c (aT [5,1,1,1,1])
 refine .bQ (R:=R) (qY h s _ k) (λu n i=>?_)
 obtain⟨rfl,g⟩:=i
 refine .nil (Next.mod rfl ?_)
 refine RA.hG 1 4 rfl rfl (by kernel_rfl) rfl ?_ ?_
 refine .lo rfl ?_
 refine .nil (Next.mod rfl ?_)
 refine .sT 4 rfl ?_
 refine .dV (λa9=>?_)
 refine .nil (Next.mod rfl ?_)
 refine .sT 5 rfl ?_
 refine .append (OS.nil (E:=249) (sz:=2) (enc:=Ty.enc)) (RS.lits (xs:=[(dX isWord s).1]) rfl (by simp[Ty.enc]) (by simp[Ty.enc,aC])) (by simp only[aeW,afc];omega) (λw j a=>?_)
 have i5:=a.aC
 refine .nil (Next.mod rfl ?_)
 refine .tK 6 rfl (.eH rfl) ?_
 refine .sT 7 rfl ?_
 refine .du rfl rfl ?_
 refine .nil (Next.mod rfl ?_)
 refine RA.nil (by kernel_rfl) ?_
 ·exact aL (w,j,n) ⟨a,g⟩ kE.c.c.c (aT [5,1,1,1,1])
 refine .dV (λa9=>?_)
 refine .nil (Next.mod rfl ?_)
 refine .sT 1 rfl ?_
 refine .lo rfl ?_
 refine .nil (Next.mod rfl ?_)
 refine .sT 5 rfl ?_
 refine .append (OS.nil (E:=249) (sz:=2) (enc:=Ty.enc)) (RS.lits (xs:=[(dX isWord s).1]) rfl (by simp[Ty.enc]) (by simp[Ty.enc,aC])) (by simp only[aeW,afc];omega) (λw j a=>?_)
 have i5:=a.aC
 refine .nil (Next.mod rfl ?_)
 refine .tK 6 rfl (.eH rfl) ?_
 refine .sT 7 rfl ?_
 refine .du rfl rfl ?_
 refine .nil (Next.mod rfl ?_)
 refine RA.nil (by kernel_rfl) ?_
 ·exact aL (w,j,n) ⟨a,g⟩ kE.c.c.c (aT [5,1,1,1,1])
 intro y hy
 obtain⟨w,j,n⟩:=y
 obtain⟨a,g⟩:=hy
 simp only at a g⊢
 have i5:=a.aC
 refine aB<|.block ?_
 refine .cX [(0,_),(2,_),(3,_)] (X:=Nat×List Ty×bE×Value×(ap×ap)) (λy=>dg R h y.2.2.1 y.2.2.2.2.1/\OS 249 2 Ty.enc y.2.2.2.1 y.2.1 y.2.2.2.2.2/\mE isWord y.1 y.2.1 y.2.2.1=(a3,M)/\y.2.2.1.1.length+1<=y.1/\y.2.1.length+y.2.2.1.1.length<=1000001/\∀t∈y.2.1,t.fits) (λ_ E=>E) (λy _=>[y.2.2.2.2.1,y.2.2.2.2.2,bl O [.string L,y.2.2.2.1,.slice (some ⟨p,0,none⟩) 1 1] 167,bl p (Nd.enc ⟨1,⟨#[]⟩,⟨#[]⟩,0,0⟩) 199,bl N [.string ⟨#[]⟩,sZ,sZ] 167]) (λy=>y.1) ((dX isWord s).2.1.length+1,[(dX isWord s).1],(dX isWord s).2,w,(n,j)) ⟨g,a,C.symm,afi _,by simp only[aeW];omega,λt ht=>by rw[ae2]at ht;subst ht;exact c3⟩ kE.c.c.c rH (G:=[]) ?_
 rintro⟨f,lt,sx,w,⟨T4,j⟩⟩ ⟨Q,a,D,hf,c5,Z⟩
 simp only at Q a D hf c5 Z⊢
 have i5:=a.aC
 obtain⟨f',rfl⟩:∃f',f=f'+1:=⟨f-1,by omega⟩
 rw[NZ]at D
 refine .seq<|.sr<|.mo rfl ?_
 refine .bQ (R:=R) (lk h sx _ R Q gK) (λu T6 i=>?_)
 obtain⟨rfl,A⟩:=i
 refine .zn ?_
 refine .cond rfl (λV=>?_) λV=>?_
 obtain⟨v,a1⟩:=afe.1 V
 rw[a1]at A D
 simp only[afb]at A D
 have c4:=xM A.ok
 have d0:=(fL a1).2.1
 have c7:=(qZ (W:=isWord) v).len
 refine .kn<|.block ?_
 refine bq.dI [(0,_),(2,_),(3,_)] kE.c.c.c (X:=Value×ap×ap) (λy=>OS 249 2 Ty.enc y.1 (lt++[(dX isWord v).1]) y.2.1/\dg R h (dX isWord v).2 y.2.2) (λ_ E=>E) (λy=>[y.2.2,y.2.1,bl O [.string L,y.1,.slice (some ⟨p,0,none⟩) 1 1] 167,bl p (Nd.enc ⟨1,⟨#[]⟩,⟨#[]⟩,0,0⟩) 199,bl N [.string ⟨#[]⟩,sZ,sZ] 167]) ?_ ?_
 refine .cG [3,5,7] mixed ?_
 refine .tK 0 rfl (.eH rfl) ?_
 refine .tO 2 rfl .move ?_
 refine RA.hG 1 3 rfl rfl (by kernel_rfl) rfl ?_ ?_
 refine .lo rfl ?_
 refine .nil (Next.sub ?_)
 refine .sT 3 rfl ?_
 refine .bQ (R:=R) (qY h v _ A) (λu K i=>?_)
 obtain⟨rfl,H⟩:=i
 refine .nil (Next.mod rfl ?_)
 refine .sT 4 rfl ?_
 refine .dV (λb0=>?_)
 refine .nil (Next.mod rfl ?_)
 refine .sT 5 rfl ?_
 refine .append a (RS.lits (xs:=[(dX isWord v).1]) rfl (by simp[Ty.enc]) (by simp[Ty.enc,aC])) (by simp only[aeW];omega) (λJ F l=>?_)
 have i8:=l.aC
 refine .nil (Next.mod rfl ?_)
 refine .tK 6 rfl (.eH rfl) ?_
 refine .sT 7 rfl ?_
 refine .du rfl rfl ?_
 refine .nil (Next.mod rfl ?_)
 refine RA.nil (by kernel_rfl) ?_
 ·exact aL (J,F,K) ⟨l,H⟩ kE.c.c.c (aT [1,1,1,1,1])
 refine .bQ (R:=R) (qY h v _ A) (λu K i=>?_)
 obtain⟨rfl,H⟩:=i
 refine .nil (Next.mod rfl ?_)
 refine RA.hG 1 4 rfl rfl (by kernel_rfl) rfl ?_ ?_
 refine .lo rfl ?_
 refine .nil (Next.mod rfl ?_)
 refine .sT 4 rfl ?_
 refine .dV (λb0=>?_)
 refine .nil (Next.mod rfl ?_)
 refine .sT 5 rfl ?_
 refine .append a (RS.lits (xs:=[(dX isWord v).1]) rfl (by simp[Ty.enc]) (by simp[Ty.enc,aC])) (by simp only[aeW];omega) (λJ F l=>?_)
 have i8:=l.aC
 refine .nil (Next.mod rfl ?_)
 refine .tK 6 rfl (.eH rfl) ?_
 refine .sT 7 rfl ?_
 refine .du rfl rfl ?_
 refine .nil (Next.mod rfl ?_)
 refine RA.nil (by kernel_rfl) ?_
 ·exact aL (J,F,K) ⟨l,H⟩ kE.c.c.c (aT [1,1,1,1,1])
 refine .dV (λb0=>?_)
 refine .nil (Next.mod rfl ?_)
 refine .sT 1 rfl ?_
 refine .lo rfl ?_
 refine .nil (Next.mod rfl ?_)
 refine .sT 5 rfl ?_
 refine .append a (RS.lits (xs:=[(dX isWord v).1]) rfl (by simp[Ty.enc]) (by simp[Ty.enc,aC])) (by simp only[aeW];omega) (λJ F l=>?_)
 have i8:=l.aC
 refine .nil (Next.mod rfl ?_)
 refine .tK 6 rfl (.eH rfl) ?_
 refine .sT 7 rfl ?_
 refine .du rfl rfl ?_
 refine .nil (Next.mod rfl ?_)
 refine RA.nil (by kernel_rfl) ?_
 ·exact aL (J,F,K) ⟨l,H⟩ kE.c.c.c (aT [1,1,1,1,1])
 intro y hy
 obtain⟨J,F,K⟩:=y
 obtain⟨l,H⟩:=hy
 simp only at l H⊢
 have i8:=l.aC
 refine bg ?_
 ·exact bu (f',lt++[(dX isWord v).1],(dX isWord v).2,J,(K,F)) ⟨H,l,D,by simp only;omega,by simp only[aff,aeW];omega,λt ht=>by
   rcases ae7.1 ht with ht|ht
   ·exact Z t ht
   ·rw[ae2]at ht;subst ht;exact c4⟩ (by simp only;omega) kE.c.c.c rH
 have a1:cC gK sx=none:=by
  cases hh:cC gK sx with
  |none=>rfl
  |some x=>rw[hh]at V;cases V
 rw[a1]at A D
 simp only[afj,Prod.mk.injEq]at A D
 obtain⟨rfl,rfl⟩:=D
 refine .exit<|br<|bz<|bw ?_
 ·first
   |exact aL (w,j,T6) ⟨a,A,Z⟩ kE.c.c.c rH
   |exact aL (sZ,[],T2) ⟨OS.nil,k,λt ht=>(by cases ht)⟩ kE.c.c.c (bo.gb.trans (aT [4,0,0,0,0]))
 have B:cC oK s1=none:=by
  cases hh:cC oK s1 with
  |none=>rfl
  |some x=>rw[hh]at U;cases U
 rw[B]at k C
 simp only[afj,Prod.mk.injEq]at k C
 obtain⟨rfl,rfl⟩:=C
 refine .skip ?_
 ·first
   |exact aL (w,j,T6) ⟨a,A,Z⟩ kE.c.c.c rH
   |exact aL (sZ,[],T2) ⟨OS.nil,k,λt ht=>(by cases ht)⟩ kE.c.c.c (bo.gb.trans (aT [4,0,0,0,0]))
 intro x hx
 obtain⟨vt,Tt,T2⟩:=x
 obtain⟨a4,k,b8⟩:=hx
 simp only at a4 k b8⊢
 have it:=a4.aC
 refine aB<|.seq<|.sr<|.mo rfl ?_
 refine .bQ (R:=R) (lk h M _ R k nL) (λu n i=>?_)
 obtain⟨rfl,g⟩:=i
 refine .zn ?_
 refine bq.dI [(0,_),(2,_),(3,_)] kE.c.c.c (X:=Value×ap×ap) (λy=>OS 199 5 Nd.enc y.1 a2 y.2.1/\dg R h s3 y.2.2/\∀t∈a2,t.fits) (λ_ E=>E) (λy=>[y.2.2,y.2.1,Tt,bl O [.string L,vt,y.1] 167,bl N [.string ⟨#[]⟩,sZ,sZ] 167]) ?_ ?_
 refine .cond rfl (λY=>?_) λY=>?_
 obtain⟨s,B⟩:=afe.1 Y
 rw[B]at g m
 simp only[afb]at g m
 have b1:=BL g.ok
 have c8:=(fL B).2.1
 obtain⟨rfl,rfl⟩:a2=(kQ [] s).1/\s3=(kQ [] s).2:=by rw[<-m];exact⟨rfl,rfl⟩
 refine bq.le (dC.refl _) bo.gb ?_
 refine .region<|.mo rfl ?_
 refine .call [1,0] ((BN (R:=R) h s _ g (sZ) [] [] OS.nil (by simp only[afc];omega)).weaken dJ) (λu H' i=>?_)
 obtain⟨T4,Tn,rfl,I,Q⟩:=i
 have i7:=I.aC
 conv=>arg 8;simp only[rest,bJ,aeZ,aeY]
 refine .fa rfl<|.du rfl rfl<|.nil ?_
 ·first
   |exact aL (_,Tn,T4) ⟨I,Q,b1⟩ (((kE.d rfl).d rfl).d rfl) (aT [0,0,0,0,1])
   |exact aL (.slice (some ⟨p,0,none⟩) 1 1,_,n) ⟨OS.lits (xs:=[(⟨1,⟨#[]⟩,⟨#[]⟩,0,0⟩:Nd)]) rfl (by simp[Nd.enc]) (by simp[Nd.enc,aC]),g,λt ht=>by rw[ae2]at ht;subst ht;exact⟨aeX _,aeX _⟩⟩ (((kE.d rfl).d rfl).d rfl) (aT [0,2,0,0,0])
 have B:cC nL M=none:=by
  cases hh:cC nL M with
  |none=>rfl
  |some x=>rw[hh]at Y;cases Y
 rw[B]at g m
 simp only[afj,Prod.mk.injEq]at g m
 obtain⟨rfl,rfl⟩:=m
 refine .skip ?_
 ·first
   |exact aL (_,Tn,T4) ⟨I,Q,b1⟩ (((kE.d rfl).d rfl).d rfl) (aT [0,0,0,0,1])
   |exact aL (.slice (some ⟨p,0,none⟩) 1 1,_,n) ⟨OS.lits (xs:=[(⟨1,⟨#[]⟩,⟨#[]⟩,0,0⟩:Nd)]) rfl (by simp[Nd.enc]) (by simp[Nd.enc,aC]),g,λt ht=>by rw[ae2]at ht;subst ht;exact⟨aeX _,aeX _⟩⟩ (((kE.d rfl).d rfl).d rfl) (aT [0,2,0,0,0])
 intro x hx
 obtain⟨vn,Tn,n⟩:=x
 obtain⟨I,g,b4⟩:=hx
 simp only at I g b4⊢
 have d1:=I.aC
 refine aB<|.sr<|.mo rfl ?_
 refine .bQ (R:=R) (rn h _ _ R g r7) (λu j c2=>?_)
 refine .z<|.q (.aU rfl)<|.bP rfl rfl<|.zn ?_
 refine .ret (bm _ (.one (.fH rfl rfl)) ((aT [0,0,0]).trans (bo.eV (H':=[j,Tn++Tt]) (by simp[take,bJ]))) ?_)
 ·exact⟨_,_,rfl,⟨vt,vn,⟨L,a3,a2⟩⟩,rfl,⟨a8,a4.sg.mono λb o hb=>gB hb,I.sg.mono λb o hb=>iD hb,b8,b4⟩,rfl,c2⟩
end
section
variable{R:aw}
theorem zT(j:Nat)(g:bE)(T:ap)(V:dg R j g T)(M:g.1.length<=1000000):Spec prog 157 [pT j] R [T] λu H'=>∃T' Ts,H'=[T',Ts]/\∃s:ca,u=.agg s.enc.toArray/\s.is (sg Ts)/\s.plain=(lS isWord g).1/\dg R j (lS isWord g).2 T':=by
 have a1:lS isWord g=(⟨(cP isWord g).1,(lR isWord ((fA jY (cP isWord g).2).1.length+1) [] (fA jY (cP isWord g).2)).1⟩,fA r0 (lR isWord ((fA jY (cP isWord g).2).1.length+1) [] (fA jY (cP isWord g).2)).2):=rfl
 have a3:=pN (W:=isWord) V.ok
 have a2:=pO j g T R V
 have Z:(fA jY (cP isWord g).2).1.length<=1000000:=ae0 (ae0 (nq _ _).len (jE g).len) M
 rw[a1]
 clear a1
 generalize cP isWord g=ws at *
 obtain⟨N,H⟩:=ws
 simp only at a3 a2 Z⊢
 obtain⟨O,a0⟩:∃O,O=lR isWord ((fA jY H).1.length+1) [] (fA jY H):=⟨_,rfl⟩
 rw[<-a0]
 refine Spec.body func157 rfl results157 ntmps157 rfl ?_
 refine .sr ?_
 refine .bT (λS=>?_)
 refine .z<|.mo rfl ?_
 refine .bQ (R:=R) a2 (λu T1 h=>?_)
 obtain⟨rfl,a4⟩:=h
 refine .q .cD ?_
 refine .bT (λU=>?_)
 refine .bP rfl rfl<|.z<|.mo rfl ?_
 refine .bQ (R:=R) (rn j _ _ R a4 jY) (λu T2 a5=>?_)
 refine .zs<|.block ?_
 refine .cX [(0,_),(2,_),(3,_)] (X:=Nat×List cb×bE×Value×(ap×ap×ap)) (λy=>dg R j y.2.2.1 y.2.2.2.2.1/\OS 167 3 cb.enc y.2.2.2.1 y.2.1 y.2.2.2.2.2.1/\(∀r∈y.2.1,r.is (sg y.2.2.2.2.2.2))/\lR isWord y.1 (y.2.1.map (·.r)) y.2.2.1=O/\y.2.2.1.1.length+1<=y.1/\y.2.1.length+y.2.2.1.1.length<=1000000) (λ_ E=>E) (λy _=>[y.2.2.2.2.1,y.2.2.2.2.2.1,y.2.2.2.2.2.2,bl U [.string N,y.2.2.2.1] 164,bl S [.string ⟨#[]⟩,sZ] 164]) (λy=>y.1) ((fA jY H).1.length+1,[],fA jY H,sZ,(T2,[],[])) ⟨a5,OS.nil,λr a=>(by cases a),a0.symm,afi _,by simpa using Z⟩ kE.c.c.c (bo.iy.trans (aT [4,0,0,0,0])) (G:=[]) ?_
 rintro⟨f,L,s,vL,⟨T,To,I⟩⟩ ⟨Y,C,K,w,hf,M⟩
 simp only at Y C K w hf M⊢
 have io:=C.aC
 obtain⟨J,rfl⟩:∃J,f=J+1:=⟨f-1,by omega⟩
 rw[lR]at w
 refine .seq<|.sr<|.mo rfl ?_
 refine .bQ (R:=R) (lk j s _ R Y qb) (λu T3 h=>?_)
 obtain⟨rfl,A⟩:=h
 refine .zn ?_
 refine .cond rfl (λD=>?_) λD=>?_
 obtain⟨z,F⟩:=afe.1 D
 rw[F]at A w
 simp only[afb]at A w
 have b0:=(fL F).2.1
 have a9:=(y1 (W:=isWord) z).len
 refine .kn<|.block ?_
 refine bq.dI [(0,_),(2,_),(3,_)] kE.c.c.c (X:=cb×Value×(ap×ap×ap)) (λy=>dg R j (lQ isWord z).2 y.2.2.1/\OS 167 3 cb.enc y.2.1 (L++[y.1]) y.2.2.2.1/\y.1.is (sg y.2.2.2.2)/\y.1.r=(lQ isWord z).1) (λ_ E=>E) (λy=>[y.2.2.1,y.2.2.2.1,y.2.2.2.2,I,bl U [.string N,y.2.1] 164,bl S [.string ⟨#[]⟩,sZ] 164]) ?_ ?_
 refine .cG [3,5,7] mixed ?_
 refine .tK 0 rfl (.eH rfl) ?_
 refine .tO 2 rfl .move ?_
 refine RA.hG 1 3 rfl rfl (by kernel_rfl) rfl ?_ ?_
 refine .lo rfl ?_
 refine .nil (Next.sub ?_)
 refine .sT 3 rfl ?_
 refine .call [0] ((y2 (R:=R) j z _ A (by omega)).weaken dJ) (λu H' h=>?_)
 obtain⟨p,v,rfl,r,rfl,a,l,k⟩:=h
 have ir:cv r.enc:=⟨a.dv⟩
 conv=>arg 8;simp only[rest,bJ,aeZ,aeY]
 have a8:One r.vt:=a.t.aC
 have a7:One r.vn:=a.d.aC
 refine .nil (Next.mod rfl ?_)
 refine .sT 4 rfl ?_
 refine .dV (λQ=>?_)
 refine .nil (Next.mod rfl ?_)
 refine .sT 5 rfl ?_
 refine .append C (RS.lits (xs:=[r]) rfl (by simp[cb.enc]) (λy m u h=>by rw[ae2]at m;subst m;exact a.dv u h)) (by simp only[aeW];omega) (λn i e=>?_)
 have i5:=e.aC
 refine .nil (Next.mod rfl ?_)
 refine .tK 6 rfl (.eH rfl) ?_
 refine .sT 7 rfl ?_
 refine .du rfl rfl ?_
 refine .nil (Next.mod rfl ?_)
 refine RA.nil (by kernel_rfl) ?_
 ·first
   |exact aL (r,n,(p,i,v)) ⟨k,e,a,l⟩ kE.c.c.c (aT [1,2,1,1,1,1])
   |exact aL (r,n,(p,i,v)) ⟨k,e,a,l⟩ kE.c.c.c (aT [0,1,0,0,0,0])
 refine .call [0] ((y2 (R:=R) j z _ A (by omega)).weaken dJ) (λu H' h=>?_)
 obtain⟨p,v,rfl,r,rfl,a,l,k⟩:=h
 have ir:cv r.enc:=⟨a.dv⟩
 conv=>arg 8;simp only[rest,bJ,aeZ,aeY]
 have a8:One r.vt:=a.t.aC
 have a7:One r.vn:=a.d.aC
 refine .nil (Next.mod rfl ?_)
 refine RA.hG 1 4 rfl rfl (by kernel_rfl) rfl ?_ ?_
 refine .lo rfl ?_
 refine .nil (Next.mod rfl ?_)
 refine .sT 4 rfl ?_
 refine .dV (λQ=>?_)
 refine .nil (Next.mod rfl ?_)
 refine .sT 5 rfl ?_
 refine .append C (RS.lits (xs:=[r]) rfl (by simp[cb.enc]) (λy m u h=>by rw[ae2]at m;subst m;exact a.dv u h)) (by simp only[aeW];omega) (λn i e=>?_)
 have i5:=e.aC
 refine .nil (Next.mod rfl ?_)
 refine .tK 6 rfl (.eH rfl) ?_
 refine .sT 7 rfl ?_
 refine .du rfl rfl ?_
 refine .nil (Next.mod rfl ?_)
 refine RA.nil (by kernel_rfl) ?_
 ·first
   |exact aL (r,n,(p,i,v)) ⟨k,e,a,l⟩ kE.c.c.c (aT [1,2,1,1,1,1])
   |exact aL (r,n,(p,i,v)) ⟨k,e,a,l⟩ kE.c.c.c (aT [0,1,0,0,0,0])
 refine .dV (λQ=>?_)
 refine .nil (Next.mod rfl ?_)
 refine .sT 1 rfl ?_
 refine .lo rfl ?_
 refine .nil (Next.mod rfl ?_)
 refine .sT 5 rfl ?_
 refine .append C (RS.lits (xs:=[r]) rfl (by simp[cb.enc]) (λy m u h=>by rw[ae2]at m;subst m;exact a.dv u h)) (by simp only[aeW];omega) (λn i e=>?_)
 have i5:=e.aC
 refine .nil (Next.mod rfl ?_)
 refine .tK 6 rfl (.eH rfl) ?_
 refine .sT 7 rfl ?_
 refine .du rfl rfl ?_
 refine .nil (Next.mod rfl ?_)
 refine RA.nil (by kernel_rfl) ?_
 ·first
   |exact aL (r,n,(p,i,v)) ⟨k,e,a,l⟩ kE.c.c.c (aT [1,2,1,1,1,1])
   |exact aL (r,n,(p,i,v)) ⟨k,e,a,l⟩ kE.c.c.c (aT [0,1,0,0,0,0])
 intro y m
 obtain⟨r,n,⟨p,i,v⟩⟩:=y
 obtain⟨k,e,a,l⟩:=m
 simp only at k e a l⊢
 refine bg ?_
 ·exact bu (J,L++[r],(lQ isWord z).2,n,(p,i,v++I)) ⟨k,e,λq hq=>by
   rcases ae7.1 hq with hq|hq
   ·exact(K q hq).mono λb o B=>gB B
   ·rw[ae2]at hq
    subst hq
    exact a.mono λb o B=>iD B,by simp only;rw[afg,List.map_cons,List.map_nil,l];exact w,by simp only;omega,by simp only[aff,aeW];omega⟩ (by simp only;omega) kE.c.c.c (bo.eV (by simp))
 have F:cC qb s=none:=by
  cases hh:cC qb s with
  |none=>rfl
  |some x=>rw[hh]at D;cases D
 rw[F]at A w
 simp only[afj]at A w
 refine .exit<|br<|bz<|bw<|aB<|.sr<|.mo rfl ?_
 refine .bQ (R:=R) (rn j _ _ R A r0) (λu i a6=>?_)
 refine .z<|.q (.aU rfl)<|.bP rfl rfl<|.zn ?_
 refine .ret (bm _ (.one (.fH rfl rfl)) ((aT [0,0,0]).trans (bo.eV (H':=[i,To++I]) (by simp[take,bJ]))) ?_)
 ·exact⟨_,_,rfl,⟨N,vL,L⟩,rfl,⟨a3,C.sg.mono λb o B=>iD B,λr a=>(K r a).mono λb o B=>gB B⟩,by rw[<-w];rfl,by rw[<-w];exact a6⟩
theorem Bt (j : Nat) (m : bE) (T : ap) (hI : dg R j m T) (Y : m.1.length <= 1000000) : Spec prog 99 [pT j] R [T] λ u H' => ∃ T' Ts, H' = [T', Ts] /\ ∃ c : bN, u = .agg c.enc.toArray /\ c.is (sg Ts) /\ c.plain = ⟨(jy isWord (m.1.length + 1) [] m).1, []⟩ /\ dg R j (jy isWord (m.1.length + 1) [] m).2 T' := by
 obtain⟨a1,a4⟩:∃a1,a1=jy isWord (m.1.length+1) [] m:=⟨_,rfl⟩
 rw[<-a4]
 refine Spec.body func99 rfl results99 ntmps99 rfl<|.sr ?_
 refine .bT (λU=>?_)
 refine .z ?_
 refine .bT (λV=>?_)
 refine .zs<|.block<|.cX [(0,_),(2,_),(3,_)] (X:=Nat×List ca×bE×Value×(ap×ap×ap)) (λy=>dg R j y.2.2.1 y.2.2.2.2.1/\OS 164 2 ca.enc y.2.2.2.1 y.2.1 y.2.2.2.2.2.1/\(∀r∈y.2.1,r.is (sg y.2.2.2.2.2.2))/\jy isWord y.1 (y.2.1.map ca.plain) y.2.2.1=a1/\y.2.2.1.1.length+1<=y.1/\y.2.1.length+y.2.2.1.1.length<=1000000) (λ_ E=>E) (λy _=>[y.2.2.2.2.1,y.2.2.2.2.2.1,y.2.2.2.2.2.2,bl V [y.2.2.2.1,sZ] 25,bl U [sZ,sZ] 25]) (λy=>y.1) (m.1.length+1,[],m,sZ,(T,[],[])) ⟨hI,OS.nil,λr a=>(by cases a),a4.symm,afi _,by simpa using Y⟩ kE.c.c.c (bo.iy.trans (aT [4,0,0,0,0])) (G:=[]) ?_
 rintro⟨f,L,s,vL,⟨T,S,K⟩⟩ ⟨M,C,O,i,hf,Y⟩
 simp only at M C O i hf Y⊢
 have io:=C.aC
 obtain⟨J,rfl⟩:∃J,f=J+1:=⟨f-1,by omega⟩
 rw[jy]at i
 obtain⟨⟨v2,a3,Z⟩,a5⟩:=M
 have M:dg R j s T:=⟨⟨v2,a3,Z⟩,a5⟩
 have i2:=Z.aC
 have b1:PS T (pT j) [v2,.bool s.2]:=PS.of (E:=215) (fr:=(0,0)) (by rw[a3];simp)
 refine .seq<|.seq ?_
 refine bq.dI [(0,_),(2,_),(3,_)] kE.c.c.c (X:=Unit) (λ_=>True) (λ_ E=>(16,.bool (!s.2&&decide (0<s.1.length)))::E) (λ_=>[T,S,K,bl V [vL,sZ] 25,bl U [sZ,sZ] 25]) ?_ ?_
 refine .region<|.mo rfl<|.nc rfl<|.fa rfl<|.lo rfl<|.q .not<|.mo rfl<|.split (t:=9) rfl (λe=>?_) (λe=>?_)
 refine .gT e<|.mo rfl<|.gT e<|.nc rfl<|.gT e<|.fa rfl<|.gT e<|.lo rfl<|.gT e<|.q (.cq Z)<|.gT e<|.q .gtr<|.q (.bx e)<|.nil ?_
 ·exact aL () ae6 (kE.c.c.c.dD rfl (by rw[e];simp)) rH
 refine .gF e<|.gF e<|.gF e<|.gF e<|.gF e<|.gF e<|.q (.bs e)<|.nil ?_
 ·exact aL () ae6 (kE.c.c.c.dD rfl (by rw[e];simp)) rH
 intro y l
 refine aB<|.cond rfl (λw=>?_) λw=>?_
 simp only[aft,Bool.not_eq_true',decide_eq_true_eq]at w
 have a0:¬(s.2=true\/s.1=[]):=by
  rintro(h|h)
  ·rw[w.1]at h;cases h
  ·rw[h]at w;simp at w
 rw[aeU a0]at i
 refine .kn<|.block<|.block<|.sr<|.mo rfl<|.bQ (R:=R) (lk j s _ R M qa) (λu T3 g=>?_)
 obtain⟨rfl,B⟩:=g
 refine .az rfl<|.cond rfl (λN=>?_) λN=>?_
 obtain⟨z,Q⟩:=afe.1 N
 rw[Q]at B i
 simp only[afb]at B i
 have b0:=(fL Q).2.1
 have a9:=(Nu (W:=isWord) z).len
 refine bq.dI [(0,_),(2,_),(3,_)] kE.c.c.c (X:=ca×Value×(ap×ap×ap)) (λy=>dg R j (lS isWord z).2 y.2.2.1/\OS 164 2 ca.enc y.2.1 (L++[y.1]) y.2.2.2.1/\y.1.is (sg y.2.2.2.2)/\y.1.plain=(lS isWord z).1) (λ_ E=>E) (λy=>[y.2.2.1,y.2.2.2.1,y.2.2.2.2,K,bl V [y.2.1,sZ] 25,bl U [sZ,sZ] 25]) ?_ ?_
 refine .cG [3,5,7] mixed<|.tK 0 rfl (.eH rfl)<|.tO 2 rfl .move<|RA.hG 1 3 rfl rfl (by kernel_rfl) rfl ?_ ?_
 refine .lo rfl<|.nil<|Next.sub<|.sT 3 rfl<|.call [0] ((zT (R:=R) j z _ B (by omega)).weaken dJ) (λu H' g=>?_)
 obtain⟨A,I,rfl,r,rfl,a,F,n⟩:=g
 have ir:cv r.enc:=⟨a.dv⟩
 conv=>arg 8;simp only[rest,bJ,aeZ,aeY]
 have a7:One r.v:=a.rs.aC
 refine .nil<|Next.mod rfl<|.sT 4 rfl ?_
 refine .dV (λa2=>?_)
 refine .nil<|Next.mod rfl<|.sT 5 rfl<|.append C (RS.lits (xs:=[r]) rfl (by simp[ca.enc]) (λy l u g=>by rw[ae2]at l;subst l;exact a.dv u g)) (by simp only[aeW];omega) (λH p k=>?_)
 have i5:=k.aC
 refine .nil<|Next.mod rfl<|.tK 6 rfl (.eH rfl)<|.sT 7 rfl<|.du rfl rfl<|.nil<|Next.mod rfl<|RA.nil (by kernel_rfl) ?_
 ·exact aL (r,H,(A,p,I)) ⟨n,k,a,F⟩ kE.c.c.c (aT [1,2,1,1,1,1])
 refine .call [0] ((zT (R:=R) j z _ B (by omega)).weaken dJ) (λu H' g=>?_)
 obtain⟨A,I,rfl,r,rfl,a,F,n⟩:=g
 have ir:cv r.enc:=⟨a.dv⟩
 conv=>arg 8;simp only[rest,bJ,aeZ,aeY]
 have a7:One r.v:=a.rs.aC
 refine .nil<|Next.mod rfl<|RA.hG 1 4 rfl rfl (by kernel_rfl) rfl ?_ ?_
 refine .lo rfl<|.nil<|Next.mod rfl<|.sT 4 rfl ?_
 refine .dV (λa2=>?_)
 refine .nil<|Next.mod rfl<|.sT 5 rfl<|.append C (RS.lits (xs:=[r]) rfl (by simp[ca.enc]) (λy l u g=>by rw[ae2]at l;subst l;exact a.dv u g)) (by simp only[aeW];omega) (λH p k=>?_)
 have i5:=k.aC
 refine .nil<|Next.mod rfl<|.tK 6 rfl (.eH rfl)<|.sT 7 rfl<|.du rfl rfl<|.nil<|Next.mod rfl<|RA.nil (by kernel_rfl) ?_
 ·exact aL (r,H,(A,p,I)) ⟨n,k,a,F⟩ kE.c.c.c (aT [1,2,1,1,1,1])
 refine .dV (λa2=>?_)
 refine .nil<|Next.mod rfl<|.sT 1 rfl<|.lo rfl<|.nil<|Next.mod rfl<|.sT 5 rfl<|.append C (RS.lits (xs:=[r]) rfl (by simp[ca.enc]) (λy l u g=>by rw[ae2]at l;subst l;exact a.dv u g)) (by simp only[aeW];omega) (λH p k=>?_)
 have i5:=k.aC
 refine .nil<|Next.mod rfl<|.tK 6 rfl (.eH rfl)<|.sT 7 rfl<|.du rfl rfl<|.nil<|Next.mod rfl<|RA.nil (by kernel_rfl) ?_
 ·exact aL (r,H,(A,p,I)) ⟨n,k,a,F⟩ kE.c.c.c (aT [1,2,1,1,1,1])
 intro y l
 obtain⟨r,H,⟨A,p,I⟩⟩:=y
 obtain⟨n,k,a,F⟩:=l
 simp only at n k a F⊢
 refine bg (bg ?_)
 ·exact bu (J,L++[r],(lS isWord z).2,H,(A,p,I++K)) ⟨n,k,λq hq=>by
   rcases ae7.1 hq with hq|hq
   ·exact(O q hq).mono λb o D=>gB D
   ·rw[ae2]at hq
    subst hq
    exact a.mono λb o D=>iD D,by simp only;rw[afg,List.map_cons,List.map_nil,F];exact i,by simp only;omega,by simp only[aff,aeW];omega⟩ (by simp only;omega) kE.c.c.c (bo.eV (by simp))
 have Q:cC qa s=none:=by
  cases hh:cC qa s with
  |none=>rfl
  |some x=>rw[hh]at N;cases N
 rw[Q]at B i
 simp only[afj]at B i
 refine .sr<|.mo rfl<|.bQ (R:=R) (qc j s _ B r6 (by simp)) (λu A g=>?_)
 obtain⟨rfl,n⟩:=g
 refine .az rfl<|.di<|.region<|.mo rfl ?_
 obtain⟨⟨v3,rfl,a6⟩,a8⟩:=n
 have i3:=a6.aC
 refine .bQ (R:=R) (qO j v3 s.2 R) (λu p g=>?_)
 subst g
 refine .nil<|bg<|bg ?_
 ·exact bu (J,L,je,vL,(_,S,K)) ⟨dg.nil,C,O,by
   obtain⟨f2,rfl⟩:∃f2,J=f2+1:=⟨J-1,by omega⟩
   simp only
   rw[jy,aeV (.inl rfl)]
   exact i,by simp only[je,afc];omega,by simp only[je,afc];omega⟩ (by simp only;omega) (((kE.d rfl).d rfl).d rfl) rH
 have a0:s.2=true\/s.1=[]:=by
  cases hs:s.2 with
  |true=>exact .inl rfl
  |false=>
   rw[hs]at w
   simp at w
   exact .inr w
 rw[aeV a0]at i
 refine .exit<|br<|bz<|bw<|aB<|.sr<|.q (.aU rfl)<|.bP rfl rfl<|.zn ?_
 refine .ret (bm _ (.one (.fH rfl rfl)) ((aT [0,0,0]).trans (bo.eV (H':=[T,S++K]) (by simp[take,bJ]))) ?_)
 ·exact⟨_,_,rfl,⟨vL,sZ,L,[]⟩,rfl,⟨C.sg.mono λb o D=>iD D,RS.gI,λr a=>(O r a).mono λb o D=>gB D,λr a=>(by cases a)⟩,by rw[<-i];rfl,by rw[<-i];exact M⟩
theorem KH(v:Value)(L:List dY)(h:RS R 3 dY.enc v L)(m:∀t∈L,dT t):Spec prog 98 [v] R [] λu H'=>u=.bool false/\H'=[]:=by
 have p:=h.le
 refine Spec.body func98 rfl results98 ntmps98 rfl<|.sr<|.ag rfl<|.z<|.ag rfl<|.zs<|.sr<|.mo rfl<|.q (.cq h)<|.mo rfl<|.zn<|.block<|.cX [(6,_),(7,_)] (X:=Nat) (λi=>i<=L.length) (λi E=>(8,iN i)::(3,.int .i64 0)::E) (λ_ G=>G) (λi=>L.length-i) 0 (aeX _) kE.c.c.c.c rH ?_
 rintro i o
 refine .sr<|.q .lss<|.zs<|.cond rfl (λg=>?_) λg=>?_
 have k:i<L.length:=cV g
 obtain⟨t,l⟩:=cE k
 have d:=m t (aX l)
 refine .kn<|.seq<|.block<|.sr ?_
 refine .bZ i h l (λr=>?_)
 refine .q (.aU rfl) ?_
 refine .bT (λf=>?_)
 refine .bP rfl rfl<|.zs<|.block<|.seq ?_
 refine bq.dI [(3,_),(5,_),(6,_),(7,_),(8,_)] kE.c.c.c.c.c (X:=Unit) (λ_=>True) (λ_ E=>(12,.bool false)::E) (λ_=>[bl f t.enc 291]) ?_ ?_
 refine .region<|.fa rfl<|.lo rfl<|.q .cr<|.mo rfl<|.split (t:=16) rfl (λa=>?_) (λa=>?_)
 refine .gT a<|.fa rfl<|.gT a<|.lo rfl<|.gT a<|.q .gW<|.q (.bx a)<|.ag rfl<|.nil ?_
 ·exact aL () ae6 (kE.c.c.c.c.c.dD rfl (by unfold dT at d;have e:nM=(⟨#[40]⟩:ByteArray):=rfl;grind)) rH
 refine .gF a<|.gF a<|.gF a<|.q (.bs a)<|.ag rfl<|.nil ?_
 ·exact aL () ae6 (kE.c.c.c.c.c.dD rfl (by unfold dT at d;have e:nM=(⟨#[40]⟩:ByteArray):=rfl;grind)) rH
 intro y n
 refine aB<|.di<|.seq ?_
 refine bq.dI [(3,_),(6,_),(7,_),(8,_)] kE.c.c.c.c (X:=Unit) (λ_=>True) (λ_ E=>(23,.bool false)::E) (λ_=>[bl f t.enc 291]) ?_ ?_
 refine .region<|.fa rfl<|.lo rfl<|.q .cr<|.mo rfl<|.split (t:=27) rfl (λb=>?_) (λb=>?_)
 refine .gT b<|.fa rfl<|.gT b<|.lo rfl<|.gT b<|.q .gW<|.q (.bx b)<|.ag rfl<|.nil ?_
 ·exact aL () ae6 (kE.c.c.c.c.dD rfl (by unfold dT at d;have e:oM=(⟨#[41]⟩:ByteArray):=rfl;grind)) rH
 refine .gF b<|.gF b<|.gF b<|.q (.bs b)<|.ag rfl<|.nil ?_
 ·exact aL () ae6 (kE.c.c.c.c.dD rfl (by unfold dT at d;have e:oM=(⟨#[41]⟩:ByteArray):=rfl;grind)) rH
 intro y n
 refine aB<|.di<|.skip<|bg<|aB<|.sr<|.mo rfl<|.q .gtr<|.zn<|.cond rfl (λj=>?_) λj=>?_
 ·simp at j
 refine .skip<|bg<|aB<|.region<|.ia (i+1) .add<|.mo rfl<|.nil ?_
 ·exact bu (i+1) k (by omega) kE.c.c.c.c (bo.none _)
 refine .exit<|br<|bz<|bw<|aB<|.sr<|.az rfl<|.ret (bm _ (.one (.tmp rfl)) (bo.none _) ?_)
 ·exact⟨rfl,rfl⟩
theorem yP(s:ByteArray)(B:s.size<=16384)(g:Pl s)(L:List dY)(r:oh s=some L)(l:∀t∈L,dT t)(y:L.length<=1000000)(C:List Sp)(n:jy isWord (L.length+1) [] (L,false)=(C,([],false)))(A:(⟨C,[]⟩:Cf).gH isWord=false):
  Spec prog 47 [.string s] R [] λu H'=>∃T,H'=[T]/\∃c:bN,u=.tuple [.agg c.enc.toArray,.int .i64 0].toArray/\c.is (sg T)/\c.plain=⟨C,[]⟩:=by
 refine Spec.body func47 rfl results47 ntmps47 rfl<|.sr ?_
 refine .bT (λG=>?_)
 refine .ag rfl<|.z<|.mo rfl<|.dN (Kh s B g L r _) (λu F a=>?_)
 obtain⟨v,rfl,d⟩:=a
 obtain⟨D,m,rfl,_⟩:=d.shape
 refine .mo rfl<|.q .extract<|.q .extract<|.ag rfl<|.ag rfl<|.zs<|.block<|.sr<|.mo rfl<|.q .eJ<|.az rfl<|.cond rfl (λj=>?_) λj=>?_
 ·simp at j
 refine .sr<|.mo rfl<|.bj (KH _ L (d.sg.mM) l) (λu a=>?_)
 subst a
 refine .az rfl<|.di<|.skip<|bg<|aB<|.sr<|.mo rfl<|.q .cD ?_
 refine .cm rfl (λi=>?_)
 refine .ag rfl<|.z<|.mo rfl<|.call [0] (Bt (T := pK i (.slice D L.length m) false) i (L, false) ⟨⟨_, rfl, d.rs λ p g => .inr (by simp [rest, bJ, g])⟩, l⟩ y) (λ u H' a => ?_)
 obtain⟨E,h,rfl,c,rfl,e,f,k⟩:=a
 rw[n]at f k
 obtain⟨⟨K,rfl,I⟩,_⟩:=k
 have J:cv c.enc:=⟨e.dv⟩
 conv=>arg 8;simp only[rest,bJ,aeZ,aeY]
 refine .bT (λH=>?_)
 refine .bP rfl rfl<|.zs<|.block<|.sr<|.mo rfl<|.nc rfl<|.fa rfl<|.lo rfl<|.az rfl<|.di<|.sr<|.q (.aU rfl)<|.bj (Aq c _ (e.mono λb o w=>.inr (by have x:(b,o)∈h:=w;simp[x]))) (λu a=>?_)
 subst a
 rw[f,A]
 refine .q .not<|.az rfl<|.di<|.skip<|bg<|aB<|.sr<|.q (.aU rfl)<|.bP rfl rfl<|.az rfl ?_
 refine .ret (bm _ (.two (.fH rfl rfl) (.tmp rfl)) (aT [2]) ?_)
 ·exact⟨h,rfl,c,rfl,e,f⟩
end
def nR(c:Cf)(k:aR)(l:List Sub):List ByteArray:=((l.filter (allowed c k)).filter λs=> !decide (s.us=⟨#[]⟩)).map (·.us)
def nJ(c:Cf)(k:aR)(l:List Sub):List Sub:=(l.filter (allowed c k)).filter λs=>decide (s.us=⟨#[]⟩)
theorem N0{c:Cf}{k:aR}{l:List Sub}{i:Nat}{s:Sub}(h:l[i]? =some s):nR c k (l.take (i+1))=nR c k (l.take i)++if allowed c k s=true/\s.us≠⟨#[]⟩then [s.us]else []:=by
 rw[fD h]
 unfold nR
 rw[afn,afn,afg]
 congr 1
 by_cases a:allowed c k s=true<;>by_cases b:s.us=⟨#[]⟩<;>simp[a,b]
theorem Nf{c:Cf}{k:aR}{l:List Sub}{i:Nat}{s:Sub}(h:l[i]? =some s):nJ c k (l.take (i+1))=nJ c k (l.take i)++if allowed c k s=true/\s.us=⟨#[]⟩then [s]else []:=by
 rw[fD h]
 unfold nJ
 rw[afn,afn]
 congr 1
 by_cases a:allowed c k s=true<;>by_cases b:s.us=⟨#[]⟩<;>simp[a,b]
theorem XC.z7{x:XC}{R:aw}(h:x.ok R)(k:aR):(x.sub k).length<=1000:=by
 unfold XC.sub
 split
 ·rw[ae3]
  have a:=ae8 (λy:bD=>y.there x.rev&&decide (y.t.cB=k)) x.L
  have b:=h.l.pm.length_eq
  have c:=h.len
  omega
 ·simp
theorem z8(x:XC)(R:aw)(h:x.ok R)(xb:Nat)(va U:Value)(e:Nat) [iv:One va] [ip:One U] [pc:PC R (pT xb) (x.cells va U e)](k:aR):
  Spec prog 145 [pT xb,.agg [.string k.os,.string k.oi].toArray,.string k.rel] R [] λu H'=>∃Tu Ts,H'=[Tu,Ts]/\∃wu ws,u=.tuple [wu,ws].toArray/\OS 9 1 cO wu (iS x.c.plain x.sub k) Tu/\OS 117 4 Sub.enc ws (fC x.c.plain x.sub k) Ts:=by
 have Z:=AS x.c R h.c
 have i1:One x.c.vs:=RS.aC h.c.ss
 have i2:One x.c.vc:=RS.aC h.c.sc
 have i3:=h.n.one
 obtain⟨ps,vf,vr,Mf,Mr,W⟩:=h.s
 have b3:=XC.z7 h k
 have hl:=h.l
 have b1:=h.len
 have Y:iS x.c.plain x.sub k=nR x.c.plain k (x.sub k):=rfl
 have V:fC x.c.plain x.sub k=nJ x.c.plain k (x.sub k):=rfl
 have a4:x.sub k=if scan x.S x.rev then(x.L.filter λy=>y.there x.rev&&decide (y.t.cB=k)).map (·.t.sub)else []:=rfl
 have a6:∀i,(nR x.c.plain k ((x.sub k).take i)).length<=1000:=λi=>by
  unfold nR
  rw[ae3]
  refine ae0 (ae8 _ _) (ae0 (ae8 _ _) ?_)
  rw[afh];omega
 have a2:∀i,(nJ x.c.plain k ((x.sub k).take i)).length<=1000:=λi=>by
  unfold nJ
  refine ae0 (ae8 _ _) (ae0 (ae8 _ _) ?_)
  rw[afh];omega
 have a5:=λ(l:List Sub) (i:Nat) (s:Sub) (h:l[i]? =some s)=>N0 (c:=x.c.plain) (k:=k) h
 have a3:=λ(l:List Sub) (i:Nat) (s:Sub) (h:l[i]? =some s)=>Nf (c:=x.c.plain) (k:=k) h
 rw[Y,V]
 generalize hL:x.sub k=l at *
 refine Spec.body func145 rfl results145 ntmps145 rfl ?_
 refine .sr ?_
 refine .cm rfl (λb4=>?_)
 refine .ag rfl<|.ag rfl<|.z<|.ag rfl<|.z<|.ag rfl<|.zs<|.seq<|.cG [] mixed ?_
 refine .tO 0 rfl .move<|.tO 1 rfl (.nilCheck rfl)<|.tO 2 rfl (.fieldAddr rfl)<|.tO 3 rfl (.bU rfl)<|.tO 4 rfl (.aU rfl)<|.tO 5 rfl .move<|.tO 6 rfl .move<|.tO 7 rfl (.nilCheck rfl)<|.tO 8 rfl (.fieldAddr rfl)<|.tO 9 rfl (.bU rfl)<|.tO 12 rfl .move ?_
 refine .sT 10 rfl ?_
 refine .dN ((SV.NG (W.mono λb o J=>.inl J) (by omega) k x.rev hl).weaken λb o J=>J) (λu a7 D=>?_)
 rw[<-a4]at D
 have iu:=D.aC
 refine .nil (Next.sub ?_)
 refine .tO 11 rfl (.fz D) ?_
 refine RA.nil (by kernel_rfl) ?_
 refine aB<|.block ?_
 refine .cX [(0,_),(2,_),(4,_),(22,_),(23,_)] (X:=Nat×Value×Value×ap×ap) (λy=>y.1<=l.length/\OS 9 1 cO y.2.1 (nR x.c.plain k (l.take y.1)) y.2.2.2.1/\OS 117 4 Sub.enc y.2.2.1 (nJ x.c.plain k (l.take y.1)) y.2.2.2.2) (λy E=>(24,iN y.1)::(8,y.2.1)::(9,y.2.2.1)::E) (λy G=>y.2.2.2.1::y.2.2.2.2::G) (λy=>l.length-y.1) (0,sZ,sZ,[],[]) ⟨aeX _,OS.nil,OS.nil⟩ kE.c.c.c.c.c.c.c.c bo.iy ?_
 rintro⟨i,Q,O,Tu,Ts⟩ ⟨hi,m,j⟩
 simp only at hi m j⊢
 have b6:=m.aC
 have b7:=j.aC
 refine .sr<|.q .lss<|.zs ?_
 refine .cond rfl (λH=>?_) λH=>?_
 have C:i<l.length:=cV H
 obtain⟨s,M⟩:=cE C
 have b5:=a6 i
 have b2:=a2 i
 have r:=a5 l i s M
 have p:=a3 l i s M
 obtain⟨a,g,d,f⟩:=s
 refine .kn<|.seq<|.block<|.sr ?_
 refine .aI i D M (λb8=>?_)
 refine .q (.aU rfl) ?_
 refine .bT (λa8=>?_)
 refine .bP rfl rfl<|.zn<|.block<|.seq ?_
 refine .dd 8 mixed (by kernel_rfl) ?_
 conv=>arg 6;dsimp only[List.take]
 refine .mo rfl<|.nc rfl<|.fa rfl<|.q (.loadT rfl) ?_
 refine .q (.aU rfl)<|.mo rfl<|.q (.aU rfl) ?_
 refine .q .cD ?_
 refine .nil ?_
 refine .bj ((Z ⟨k.os,k.oi,k.rel,a,g,d,f⟩).weaken dJ) (λw hw=>?_)
 subst hw
 refine .q .eJ<|.az rfl ?_
 refine .cond rfl (λv=>?_) λv=>?_
 have a1:allowed x.c.plain k ⟨a,g,d,f⟩=false:=by
  cases hq:allowed x.c.plain k ⟨a,g,d,f⟩with
  |false=>rfl
  |true=>
   have:allowed x.c.plain (⟨k.os,k.oi,k.rel,a,g,d,f⟩:ax).cB (⟨k.os,k.oi,k.rel,a,g,d,f⟩:ax).sub=true:=hq
   rw[this]at v;simp at v
 rw[aeU (by rw[a1];simp),ae5]at r p
 refine .skip<|bg<|bg<|aB<|.region ?_
 refine .ia (i+1) .add ?_
 refine .mo rfl<|.nil ?_
 ·exact bu (i+1,Q,O,Tu,Ts) ⟨C,by rw[r];exact m,by rw[p];exact j⟩ (by simp only;omega) kE.c.c.c.c.c.c.c.c (bo.drop [0] _)
 have T:allowed x.c.plain k ⟨a,g,d,f⟩=true:=by
  cases hq:allowed x.c.plain k ⟨a,g,d,f⟩with
  |true=>rfl
  |false=>
   have:allowed x.c.plain (⟨k.os,k.oi,k.rel,a,g,d,f⟩:ax).cB (⟨k.os,k.oi,k.rel,a,g,d,f⟩:ax).sub=false:=hq
   rw[this]at v;simp at v
 refine .sr<|.fa rfl<|.lo rfl<|.q .kY<|.az rfl ?_
 refine .cond rfl (λI=>?_) λI=>?_
 have A:a≠⟨#[]⟩:=by simpa using I
 rw[aeV ⟨T,A⟩]at r
 rw[aeU (λK=>A K.2),ae5]at p
 refine .region<|.mo rfl<|.fa rfl<|.lo rfl ?_
 refine .lA (λb0=>?_)
 refine .append m (RS.lits (xs:=[a]) rfl (by simp[cO]) (by simp[cO,aC])) (by simp only[aeW];omega) (λN F B=>?_)
 rw[<-r]at B
 refine .ag rfl<|.nil<|bg<|bg<|aB<|.region ?_
 refine .ia (i+1) .add ?_
 refine .mo rfl<|.nil ?_
 ·exact bu (i+1,N,O,F,Ts) ⟨C,B,by rw[p];exact j⟩ (by simp only;omega) kE.c.c.c.c.c.c.c.c (bo.drop [0,0] _)
 have A:a=⟨#[]⟩:=by simpa using I
 rw[aeU (λK=>K.2 A),ae5]at r
 rw[aeV ⟨T,A⟩]at p
 refine .region<|.mo rfl<|.q (.aU rfl) ?_
 refine .dV (λa9=>?_)
 refine .append j (RS.lits (xs:=[(⟨a,g,d,f⟩:Sub)]) rfl (by simp[Sub.enc]) (by simp[Sub.enc,aC])) (by simp only[aeW];omega) (λN F B=>?_)
 rw[<-p]at B
 refine .ag rfl<|.nil<|bg<|bg<|aB<|.region ?_
 refine .ia (i+1) .add ?_
 refine .mo rfl<|.nil ?_
 ·exact bu (i+1,Q,N,Tu,F) ⟨C,by rw[r];exact m,B⟩ (by simp only;omega) kE.c.c.c.c.c.c.c.c (bo.drop [0,0] _)
 refine .exit<|br<|bz<|bw<|aB<|.sr<|.mo rfl<|.mo rfl<|.ag rfl<|.az rfl ?_
 refine .ret (bm _ (.two (.tmp rfl) (.tmp rfl)) (aT [0,0]) ?_)
 ·have a0:i=l.length:=by have:=bK H;omega
  subst a0
  rw[afk]at m j
  exact⟨Tu,Ts,by simp[take,bJ],Q,O,rfl,m,j⟩
structure kH(x:XC)(R:aw)(ps:List aO)(va:Value)(ks:List aR)(ps':List aO)(vp:Value)(Ta To:ap)(vo:Value)(Tl:ap):Prop where
 l:OS 3 1 dr vo (dl x.c.plain x.num (ps.map aO.plain) ks).2 Tl
 eq:ps'.map aO.plain=(dl x.c.plain x.num (ps.map aO.plain) ks).1
 at_:gL ps' va Ta
 o:OS 95 8 aO.enc vp ps' To
 gr:∃l,ps'=ps++l/\∀p∈l,p.is R
theorem kH.len{x:XC}{R:aw}{ps a:List aO}{va g f:Value}{ks:List aR}{b e d:ap}(h:kH x R ps va ks a g b e f d):a.length=(dl x.c.plain x.num (ps.map aO.plain) ks).1.length:=by rw[<-h.eq,ae3]
theorem kH.next{x:XC}{R:aw}{ps d b:List aO}{va D s C r:Value}{ks:List aR}{i:Nat}{k:aR}{t v f m u j:ap}(h:kH x R ps va (ks.take i) d D t v C u)(z:ks[i]? =some k)
  (e:b.map aO.plain=(eD x.c.plain x.num (d.map aO.plain) k).1)(a:gL b va f)(o:OS 95 8 aO.enc s b m)(g:∃l,b=d++l/\∀p∈l,p.is R)
  (q:OS 3 1 dr r ((dl x.c.plain x.num (ps.map aO.plain) (ks.take i)).2++[(eD x.c.plain x.num (d.map aO.plain) k).2]) j):kH x R ps va (ks.take (i+1)) b s f m r j:=by
 have n:=AH (c:=x.c.plain) (num:=x.num) z (ps.map aO.plain)
 rw[h.eq]at e q
 refine⟨by rw[n];exact q,by rw[n];exact e,a,o,?_⟩
 obtain⟨A,rfl,w⟩:=h.gr
 obtain⟨B,rfl,y⟩:=g
 refine⟨A++B,by rw[afl],λp hp=>?_⟩
 rcases ae7.1 hp with hp|hp
 ·exact w p hp
 ·exact y p hp
def uP(x:XC)(R:aw)(xb:Nat)(ps:List aO)(e:Nat)(va:Value)(ks:List aR)(u:Value)(H':aG):Prop:=∃ps' vp Ta To Tl,H'=[Tl,x.gE xb va vp e,Ta,To]/\kH x R ps va ks ps' vp Ta To u Tl
theorem Kd(x:XC)(R:aw)(h:x.ok R)(xb:Nat)(ps:List aO)(e:Nat)(va j:Value)(m p:ap)(hA:gL ps va m)(hO:OS 95 8 aO.enc j ps p)(k:aR)(H:List Value)(n:Nd) [ie:cv H]
  (hl:(dl x.c.plain x.num (ps.map aO.plain) (dH x.c.plain x.sub k n)).1.length<=3000000)(b1:H.length=5):
  Spec prog 146 [pT xb,.agg (.string k.os:: .string k.oi:: .string k.rel::H).toArray,.agg n.enc.toArray] R [x.gE xb va j e,m,p] (uP x R xb ps e va (dH x.c.plain x.sub k n)):=by
 obtain⟨x3,x4,x5,x6,x7,rfl⟩:∃a b c d f,H=[a,b,c,d,f]:=by
  match H,b1 with
  |[a,b,c,d,f],_=>exact⟨a,b,c,d,f,rfl⟩
 have c9:cv (Value.string k.os:: .string k.oi:: .string k.rel::[x3,x4,x5,x6,x7]):=⟨λu hu=>by
  simp only[afo,List.not_mem_nil,or_false]at hu
  rcases hu with rfl|rfl|rfl|hu
  ·rfl
  ·rfl
  ·rfl
  ·exact ie.h u (by simpa using hu)⟩
 have a9:=z8 x
 have a4:=yS x R h xb
 have i1:One x.c.vs:=RS.aC h.c.ss
 have i2:One x.c.vc:=RS.aC h.c.sc
 have i3:=h.n.one
 obtain⟨M0,b0,_⟩:=id hA
 have d0:=b0.one
 have d1:=hO.aC
 have a0:∀ks u H',uP x R xb ps e va ks u H'↔∃ps' j m p w,H'=[w,x.gE xb va j e,m,p]/\kH x R ps va ks ps' j m p u w:=λ_ _ _=>Iff.rfl
 have r:dH x.c.plain x.sub k n=if n.kind=1 then(fC x.c.plain x.sub k).map λs=>⟨s.ss,s.si,s.sr⟩
  else if n.kind=3 then(fC x.c.plain x.sub ⟨k.os,k.oi,n.rel⟩).map λs=>⟨s.ss,s.si,n.eR⟩
  else if n.kind=2 then [⟨k.os,k.oi,n.rel⟩]
  else []:=rfl
 generalize c8:dH x.c.plain x.sub k n=ks at *
 have a6:=λi=>AG (c:=x.c.plain) (num:=x.num) ks i (ps.map aO.plain)
 have b2:=AF (c:=x.c.plain) (num:=x.num) ks (ps.map aO.plain)
 rw[ae3]at b2
 have a7:=λi=>su (c:=x.c.plain) (num:=x.num) (ks.take i) (ps.map aO.plain)
 have a8:∀k',(fC x.c.plain x.sub k').length<=1000:=λk'=>by
  unfold fC fitting
  exact ae0 (ae8 _ _) (ae0 (ae8 _ _) (XC.z7 h k'))
 have S:kH x R ps va (ks.take 0) ps j m p (sZ) []:=⟨OS.nil,by simp[dl],hA,hO,[],by simp,by simp⟩
 refine Spec.jg (H':=[[],x.gE xb va j e,m,p]) (by simp)<|Spec.body func146 rfl results146 ntmps146 rfl<|.sr ?_
 refine .cm rfl (λb4=>?_)
 refine .cm rfl (λb5=>?_)
 refine .ag rfl<|.z<|.ag rfl<|.zs<|.sr<|.fa rfl<|.lo rfl<|.zn<|.block<|.sr<|.q .cr<|.az rfl<|.cond rfl (λh1=>?_) λh1=>?_
 have M:n.kind=1:=bV h1
 rw[aeV M]at r
 have b9:=a8 k
 refine .sr<|.mo rfl<|.fa rfl<|.q (.loadT rfl)<|.fa rfl<|.lo rfl<|.call [] (a9 _ (h.mono λb o hb=>.inl hb) xb va j e (pc:=PC.of (E:=190) (fr:=(0,0)) (.inr (by simp[rest]))) k) (λu H' hu=>?_)
 obtain⟨Tu,Ts,rfl,wu,ws,rfl,a1,t⟩:=hu
 have c1:=a1.aC
 have c2:=t.aC
 conv=>arg 8;simp only[rest,bJ,aeZ,aeY]
 refine .mo rfl<|.q .extract<|.q .extract<|.ag rfl<|.ag rfl<|.z<|.mo rfl<|.q (.fz t)<|.mo rfl<|.zn<|.block<|.cX [(0,_),(29,_),(30,_)] (X:=Nat×List aO×Value×ap×ap×Value×ap) (λy=>y.1<=(fC x.c.plain x.sub k).length/\kH x R ps va (ks.take y.1) y.2.1 y.2.2.1 y.2.2.2.1 y.2.2.2.2.1 y.2.2.2.2.2.1 y.2.2.2.2.2.2) (λy E=>(31,iN y.1)::(7,y.2.2.2.2.2.1)::E) (G:=[Ts,bl b5 n.enc 199,bl b4 (Value.string k.os:: .string k.oi:: .string k.rel::[x3,x4,x5,x6,x7]) 95]) (λy G=>y.2.2.2.2.2.2::x.gE xb va y.2.2.1 e::y.2.2.2.1::y.2.2.2.2.1::G) (λy=>(fC x.c.plain x.sub k).length-y.1) (0,ps,j,m,p,sZ,[]) ⟨aeX _,S⟩ kE.c.c.c.c.c (aT [4,4,4,4,1,1,1]) ?_
 rintro⟨i,v,Y,B,D,vo,w⟩ ⟨hi,g⟩
 simp only at hi g⊢
 have io:=g.l.aC
 have c0:=g.o.aC
 have b8:=g.len
 have b7:=a6 i
 have a3:=a7 i
 rw[afh]at a3
 refine .sr<|.q .lss<|.zs<|.cond rfl (λh2=>?_) λh2=>?_
 have O:i<(fC x.c.plain x.sub k).length:=by have:=bV h2;omega
 obtain⟨s,Q⟩:=cE O
 have N:ks[i]? =some ⟨s.ss,s.si,s.sr⟩:=by rw[r,ae1,Q];rfl
 obtain⟨us,W,V,sr⟩:=s
 refine .kn<|.seq<|.block<|.sr ?_
 refine .aI i t Q (λd2=>?_)
 refine .q (.aU rfl) ?_
 refine .bT (λc3=>?_)
 refine .bP rfl rfl<|.zn<|.region<|.mo rfl<|.mo rfl<|.fa rfl<|.q (.loadT rfl)<|.fa rfl<|.lo rfl<|.call [2,2,2] ((a4 v e va Y B D g.at_ g.o (by omega) ⟨W,V,sr⟩).weaken dJ) (λu H' hu=>?_)
 obtain⟨U,Z,C,F,rfl,rfl,K,I,J,L⟩:=hu
 conv=>arg 8;simp only[rest,bJ,aeZ,aeY]
 refine .lA (λc5=>?_)
 refine .append g.l (RS.lits (xs:=[(eD x.c.plain x.num (v.map aO.plain) ⟨W,V,sr⟩).2]) rfl (by simp[dr]) (by simp[dr,aC])) (by simp only[aeW];omega) (λv5 A T=>?_)
 refine .ag rfl<|.nil<|bg<|aB<|.region<|.ia (i+1) .add<|.mo rfl<|.nil ?_
 ·exact bu (i+1,U,Z,C,F,v5,A) ⟨O,g.next N K I J L T⟩ (by simp only;omega) kE.c.c.c.c.c (aT [5,1,1,1,2,2,2])
 have a2:i=ks.length:=by rw[r,ae3];have:=bK h2;omega
 rw[a2,afk]at g
 refine .exit<|br<|bz<|bw<|bg<|aB<|.sr<|.mo rfl<|.az rfl<|.ret (bm _ (.one (.tmp rfl)) (aT [0,0,0,0]) ?_)
 ·exact(a0 _ _ _).2 ⟨v,Y,B,D,w,by simp[take,bJ],g⟩
 refine .sr<|.q .cr<|.az rfl<|.cond rfl (λh3=>?_) λh3=>?_
 have M:n.kind=2:=bV h3
 rw[aeU (by omega),aeU (by omega),aeV M]at r
 have N:ks[0]? =some ⟨k.os,k.oi,n.rel⟩:=by rw[r];rfl
 have b3:ks.take 1=ks:=by rw[r];rfl
 refine .region<|.mo rfl<|.mo rfl<|.fa rfl<|.q (.loadT rfl)<|.fa rfl<|.lo rfl<|.call [3,3,3] ((a4 ps e va j m p hA hO (by omega) ⟨k.os,k.oi,n.rel⟩).weaken dJ) (λu H' hu=>?_)
 obtain⟨U,Z,C,F,rfl,rfl,K,I,J,L⟩:=hu
 conv=>arg 8;simp only[rest,bJ,aeZ,aeY]
 refine .lA (λc6=>?_)
 refine .append S.l (RS.lits (xs:=[(eD x.c.plain x.num (ps.map aO.plain) ⟨k.os,k.oi,n.rel⟩).2]) rfl (by simp[dr]) (by simp[dr,aC])) (by simp[dl]) (λv5 A T=>?_)
 have a5:=S.next N K I J L T
 rw[show(0:Nat)+1=1 from rfl,b3]at a5
 refine .ag rfl<|.nil<|bg<|aB<|.sr<|.mo rfl<|.az rfl<|.ret (bm _ (.one (.tmp rfl)) (aT [6,1,1,1]) ?_)
 ·exact(a0 _ _ _).2 ⟨U,Z,C,F,A,by simp[take,bJ],a5⟩
 refine .sr<|.q .cr<|.az rfl<|.cond rfl (λh4=>?_) λh4=>?_
 have M:n.kind=3:=bV h4
 rw[aeU (by omega),aeV M]at r
 have b9:=a8 ⟨k.os,k.oi,n.rel⟩
 refine .sr<|.mo rfl<|.fa rfl<|.q (.loadT rfl)<|.fa rfl<|.lo rfl<|.call [] (a9 _ (h.mono λb o hb=>.inl hb) xb va j e (pc:=PC.of (E:=190) (fr:=(0,0)) (.inr (by simp[rest]))) ⟨k.os,k.oi,n.rel⟩) (λu H' hu=>?_)
 obtain⟨Tu,Ts,rfl,wu,ws,rfl,a1,t⟩:=hu
 have c1:=a1.aC
 have c2:=t.aC
 conv=>arg 8;simp only[rest,bJ,aeZ,aeY]
 refine .mo rfl<|.q .extract<|.q .extract<|.ag rfl<|.ag rfl<|.z<|.mo rfl<|.q (.fz t)<|.mo rfl<|.zn<|.block<|.cX [(0,_),(5,_),(67,_),(68,_)] (X:=Nat×List aO×Value×ap×ap×Value×ap) (λy=>y.1<=(fC x.c.plain x.sub ⟨k.os,k.oi,n.rel⟩).length/\kH x R ps va (ks.take y.1) y.2.1 y.2.2.1 y.2.2.2.1 y.2.2.2.2.1 y.2.2.2.2.2.1 y.2.2.2.2.2.2) (λy E=>(69,iN y.1)::(7,y.2.2.2.2.2.1)::E) (G:=[Ts,bl b5 n.enc 199,bl b4 (Value.string k.os:: .string k.oi:: .string k.rel::[x3,x4,x5,x6,x7]) 95]) (λy G=>y.2.2.2.2.2.2::x.gE xb va y.2.2.1 e::y.2.2.2.1::y.2.2.2.2.1::G) (λy=>(fC x.c.plain x.sub ⟨k.os,k.oi,n.rel⟩).length-y.1) (0,ps,j,m,p,sZ,[]) ⟨aeX _,S⟩ kE.c.c.c.c.c.c (aT [4,4,4,4,1,1,1]) ?_
 rintro⟨i,v,Y,B,D,vo,w⟩ ⟨hi,g⟩
 simp only at hi g⊢
 have io:=g.l.aC
 have c0:=g.o.aC
 have b8:=g.len
 have b7:=a6 i
 have a3:=a7 i
 rw[afh]at a3
 refine .sr<|.q .lss<|.zs<|.cond rfl (λh5=>?_) λh5=>?_
 have O:i<(fC x.c.plain x.sub ⟨k.os,k.oi,n.rel⟩).length:=by have:=bV h5;omega
 obtain⟨s,Q⟩:=cE O
 have N:ks[i]? =some ⟨s.ss,s.si,n.eR⟩:=by rw[r,ae1,Q];rfl
 obtain⟨us,W,V,sr⟩:=s
 refine .kn<|.seq<|.block<|.sr ?_
 refine .aI i t Q (λd3=>?_)
 refine .q (.aU rfl) ?_
 refine .bT (λc4=>?_)
 refine .bP rfl rfl<|.zn<|.region<|.mo rfl<|.mo rfl<|.fa rfl<|.q (.loadT rfl)<|.fa rfl<|.lo rfl<|.call [2,2,2] ((a4 v e va Y B D g.at_ g.o (by omega) ⟨W,V,n.eR⟩).weaken dJ) (λu H' hu=>?_)
 obtain⟨U,Z,C,F,rfl,rfl,K,I,J,L⟩:=hu
 conv=>arg 8;simp only[rest,bJ,aeZ,aeY]
 refine .lA (λc7=>?_)
 refine .append g.l (RS.lits (xs:=[(eD x.c.plain x.num (v.map aO.plain) ⟨W,V,n.eR⟩).2]) rfl (by simp[dr]) (by simp[dr,aC])) (by simp only[aeW];omega) (λv5 A T=>?_)
 refine .ag rfl<|.nil<|bg<|aB<|.region<|.ia (i+1) .add<|.mo rfl<|.nil ?_
 ·exact bu (i+1,U,Z,C,F,v5,A) ⟨O,g.next N K I J L T⟩ (by simp only;omega) kE.c.c.c.c.c.c (aT [5,1,1,1,2,2,2])
 have a2:i=ks.length:=by rw[r,ae3];have:=bK h5;omega
 rw[a2,afk]at g
 refine .exit<|br<|bz<|bw<|bg<|aB<|.sr<|.mo rfl<|.az rfl<|.ret (bm _ (.one (.tmp rfl)) (aT [0,0,0,0]) ?_)
 ·exact(a0 _ _ _).2 ⟨v,Y,B,D,w,by simp[take,bJ],g⟩
 have b6:ks=[]:=by
  rw[r,aeU (bK h1),aeU (bK h4),aeU (bK h3)]
 refine .skip<|bg<|aB<|.sr<|.mo rfl<|.az rfl<|.ret (bm _ (.one (.tmp rfl)) (aT [2,2,2,2]) ?_)
 ·refine(a0 _ _ _).2 ⟨ps,j,m,p,[],by simp[take,bJ],?_⟩
  have:=S
  rw[List.take_zero, <-b6]at this
  exact this
instance Oi:eM prog 3 (λs:Int=>.int .i64 s):=eM.int wQ wE
abbrev kI(n:Int):Value:=.int .i64 n
structure Av(x:XC)(R:aw)(ps:List aO)(va:Value)(k:aR)(ns:List Nd)(mp:Value)(ps1:List aO)(vp:Value)(Ta To:ap)(vL:Value)(L:List fF)(TL Tr:ap)(M:List (Int×Bool))(Tm:ap):Prop where
 eq:ps1.map aO.plain=(cU x.c.plain x.num x.sub k (ps.map aO.plain) ns).1
 at_:gL ps1 va Ta
 o:OS 95 8 aO.enc vp ps1 To
 gr:∃l,ps1=ps++l/\∀p∈l,p.is R
 le:OS 182 1 ee vL L TL
 rows:∀q∈L,RS (sg Tr) 1 dr q.1 q.2
 ll:L.map (·.2)=(cU x.c.plain x.num x.sub k (ps.map aO.plain) ns).2
 ms:MS kI Value.bool mp M Tm
 yh:M.map (·.1)=(jV [] (cU x.c.plain x.num x.sub k (ps.map aO.plain) ns).2.flatten).map λn:Nat=>(n:Int)
theorem Kw{β:Type}{M:List (Int×β)}{l:List Nat}(h:M.map (·.1)=l.map λn:Nat=>(n:Int))(y:β)(j:Nat):(da (j:Int) y M).map (·.1)=(if j∈l then l else l++[j]).map λn:Nat=>(n:Int):=by
 by_cases c:j∈l
 ·rw[aeV c, <-h]
  have b:(j:Int)∈M.map (·.1):=by rw[h];exact afa.2 ⟨j,c,rfl⟩
  clear h
  induction M with
  |nil=>simp at b
  |cons a M ih=>
   obtain⟨g,i⟩:=a
   rw[da]
   split
   ·rename_i e;simp[e]
   ·rename_i e
    simp only[List.map_cons,afo]at b⊢
    rw[ih (b.resolve_left e)]
 ·rw[aeU c,lL (λb=>by
   rw[h]at b
   obtain⟨n,f,e⟩:=afa.1 b
   have d:n=j:=by omega
   exact c (d▸f)),afg,afg,h]
  rfl
theorem zH{α:Type}{l:List α}{i:Nat}{x:α}(h:l[i]? =some x):l.set i x=l:=by
 obtain⟨a,e⟩:=afd.1 h
 rw[<-e]
 exact List.set_getElem_self a
theorem OS.A2{α:Type}{E sz:Nat}{enc:α->List Value}{v:Value}{xs:List α}{T:ap}{i:Nat}{z:α}(h:OS E sz enc v xs T)(d:xs[i]? =some z):∃a,eE v (i*sz)=.pointer (some a):=by
 rcases h.h with⟨_,rfl,_⟩|⟨b,f,c,e,rfl,_⟩
 ·simp at d
 ·exact⟨_,rfl⟩
theorem Lf{a b:List bB}(h:a.map (·.k)=b.map (·.k))(k:aR):gw a k=gw b k:=by
 have c:∀l:List bB,gw l k=(l.map (·.k)).findIdx? λy=>decide (y=k):=λl=>by
  unfold gw
  rw[List.findIdx?_map]
  rfl
 rw[c,c,h]
theorem MW{ps:List aO}{i:Nat}{p q:aO}(a:ps[i]? =some p)(b:q.k=p.k):((ps.set i q).map aO.plain).map (·.k)=(ps.map aO.plain).map (·.k):=by
 rw[List.map_map,List.map_map]
 refine List.ext_getElem? λj=>?_
 rw[ae1,ae1,List.getElem?_set]
 split
 ·rename_i e
  subst e
  rw[aeV (afd.1 a).1,a]
  show some q.k=some p.k
  rw[b]
 ·rfl
theorem gL.set{ps:List aO}{i:Nat}{p q:aO}{va:Value}{T:ap}(h:gL ps va T)(d:ps[i]? =some p)(c:q.k=p.k):gL (ps.set i q) va T:=by
 obtain⟨M,b,a⟩:=h
 exact⟨M,b,λk=>by rw[a];exact Lf (MW d c).symm k⟩
def sm(x:XC)(Rc:aw)(xb:Nat)(ps:List aO)(e:Nat)(va:Value)(i:Nat)(p:aO)(H':aG):Prop:=∃vp Ta To TL Tr Tu l q,
 H'=[x.gE xb va vp (e+(dF x.c.plain x.num x.sub (ps.map aO.plain) i).2),Ta,To,TL,Tr,Tu]/\(∀p∈l,aO.is Rc p)/\((ps++l).set i q).map aO.plain=(dF x.c.plain x.num x.sub (ps.map aO.plain) i).1/\gL ((ps++l).set i q) va Ta/\OS 95 8 aO.enc vp ((ps++l).set i q) To/\
 (q=p\/q.vn=p.vn/\q.nodes=p.nodes/\RS (sg Tu) 1 cO q.vu q.fb/\RS (sg TL) 1 ee q.vl q.ll/\∀y∈q.ll,RS (sg Tr) 1 dr y.1 y.2)
theorem K5(x:XC)(A R:aw)(b5:∀b o,A b o->R b o)(h:x.ok A)(xb:Nat)(ps:List aO)(e:Nat)(va w:Value)(B C:ap)(hA:gL ps va B)(V:OS 95 8 aO.enc w ps C)(i:Nat)(p:aO)(v:ps[i]? =some p)(hn:RS R 5 Nd.enc p.vn p.nodes)(a3:p.plain=one x.c.plain x.num p.k)(e9:p.nodes.length<=1000000)
  (hl:(dF x.c.plain x.num x.sub (ps.map aO.plain) i).1.length<=3000000)(he:e<=1000000000000):
  Spec prog 85 [pT xb,iN i] R [x.gE xb va w e,B,C] λ_ H'=>sm x A xb ps e va i p H':=by
 have f3:=z8 x
 have e6:=Kd x A h xb
 obtain⟨M0,d6,_⟩:=id hA
 have g4:=d6.one
 have g5:=V.aC
 have f1:=aX v
 have f7:cv p.enc:=⟨V.one p f1⟩
 have a5:(ps.map aO.plain)[i]? =some p.plain:=by rw[ae1,v];rfl
 have e0:=(afd.1 v).1
 have b6:∀H',sm x A xb ps e va i p H'↔∃w B C U H I l q,
  H'=[x.gE xb va w (e+(dF x.c.plain x.num x.sub (ps.map aO.plain) i).2),B,C,U,H,I]/\(∀p∈l,aO.is A p)/\((ps++l).set i q).map aO.plain=(dF x.c.plain x.num x.sub (ps.map aO.plain) i).1/\gL ((ps++l).set i q) va B/\OS 95 8 aO.enc w ((ps++l).set i q) C/\
  (q=p\/q.vn=p.vn/\q.nodes=p.nodes/\RS (sg I) 1 cO q.vu q.fb/\RS (sg U) 1 ee q.vl q.ll/\∀y∈q.ll,RS (sg H) 1 dr y.1 y.2):=λ_=>Iff.rfl
 have W:=yA (c:=x.c.plain) (num:=x.num) (sub:=x.sub) a5
 have a4:=K4 (c:=x.c.plain) (num:=x.num) (sub:=x.sub) a5 a3
 have e5:=hn.le
 obtain⟨k,f,vn,d,S,Q,t,s,g⟩:=p
 have f0:aO.plain ⟨k,f,vn,d,S,Q,t,s,g⟩=⟨k,f,d,g,Q,s.map (·.2)⟩:=rfl
 rw[f0]at W a4 a5 a3
 simp only at W a4 hn a3 e5 e9
 have e3:=λj=>AI (c:=x.c.plain) (num:=x.num) (sub:=x.sub) k d j (ps.map aO.plain)
 have e7:=sA (c:=x.c.plain) (num:=x.num) (sub:=x.sub) k d (ps.map aO.plain)
 have f5:=λ(j:Nat) (n:Nd) (hj:d[j]? =some n)=>AJ (c:=x.c.plain) (num:=x.num) (sub:=x.sub) hj k (ps.map aO.plain)
 have b9:(cU x.c.plain x.num x.sub k (ps.map aO.plain) d).1.length<=3000000:=by
  rw[W]at hl
  rwa [afp]at hl
 refine Spec.body func85 rfl results85 ntmps85 rfl<|.sr<|.mo rfl<|.nc rfl<|.fa rfl<|.fa rfl<|.lo rfl<|.mo rfl ?_
 refine .aI i V v (λg6=>?_)
 refine .q (.aU rfl) ?_
 refine .bT (λb4=>?_)
 refine .bP rfl rfl<|.zs<|.sr<|.fa rfl<|.lo rfl<|.q .not<|.zn<|.cond rfl (λh1=>?_) λh1=>?_
 have hf:f=false:=by simpa using h1
 have c3:=a4 hf
 refine .ret (ba (bm _ .none (bo.KK.trans (aT [4,4,4,0,0,0])) ?_))
 ·refine(b6 _).2 ⟨w,B,C,[],[],[],[],⟨k,f,vn,d,S,Q,t,s,g⟩,?_,λq hq=>(by cases hq),?_,?_,?_,.inl rfl⟩
  ·rw[c3];simp[take,bJ]
  ·rw[c3,ae5]
   rw[zH v]
  ·rw[ae5];exact hA.set v rfl
  ·rw[ae5]
   rw[zH v];exact V
 have hf:f=true:=by simpa using h1
 refine .kn<|.sr<|.mo rfl<|.fa rfl<|.q (.loadT rfl)<|.fa rfl<|.lo rfl<|.call [] (f3 _ (h.mono λb o D=>.inl (b5 b o D)) xb va w e (pc:=PC.of (E:=190) (fr:=(0,0)) (.inr (by simp[rest]))) k) (λu H' O=>?_)
 obtain⟨I,Ts,rfl,T,ws,rfl,b3,g2⟩:=O
 have c5:=b3.aC
 conv=>arg 8;simp only[rest,bJ,aeZ,aeY]
 refine .mo rfl<|.q .extract<|.q .extract<|.ag rfl<|.ag rfl<|.z<|.ag rfl<|.z ?_
 refine .makeMap (λa1=>?_)
 refine .ag rfl<|.zs<|.sr<|.fa rfl<|.lo rfl<|.q (.cq hn)<|.mo rfl<|.zn<|.block<|.cX [(0,_),(1,_),(4,_),(5,_),(8,_),(36,_),(37,_)] (X:=Nat×List aO×Value×ap×ap×Value×List fF×ap×ap×List (Int×Bool)×ap) (λy=>y.1<=d.length/\Av x A ps va k (d.take y.1) (.map (some a1)) y.2.1 y.2.2.1 y.2.2.2.1 y.2.2.2.2.1 y.2.2.2.2.2.1 y.2.2.2.2.2.2.1 y.2.2.2.2.2.2.2.1 y.2.2.2.2.2.2.2.2.1 y.2.2.2.2.2.2.2.2.2.1 y.2.2.2.2.2.2.2.2.2.2) (λy E=>(38,iN y.1)::(7,y.2.2.2.2.2.1)::E) (G:=[I,bl b4 (aO.enc ⟨k,f,vn,d,S,Q,t,s,g⟩) 95]) (λy G=>x.gE xb va y.2.2.1 e::y.2.2.2.1::y.2.2.2.2.1::y.2.2.2.2.2.2.2.1::y.2.2.2.2.2.2.2.2.1::y.2.2.2.2.2.2.2.2.2.2::G) (λy=>d.length-y.1) (0,ps,w,B,C,sZ,[],[],[],[],[(a1,.map #[] 0)]) ⟨aeX _,⟨rfl,hA,V,⟨[],by simp,λq hq=>(by cases hq)⟩,OS.nil,λq hq=>(by cases hq),rfl,MS.nil,rfl⟩⟩ kE.c.c.c.c.c.c.c.c.c (bo.iy.trans (aT [6,6,6,0,0,0,0,1])) ?_
 rintro⟨j,Y,c7,a7,d0,vL,L,U,H,M,Tm⟩ ⟨hj,a⟩
 simp only at hj a⊢
 have c6:=a.le.aC
 have g0:L.length<=j:=by
  have h9:=congrArg List.length a.ll
  have h8:=(sy (c:=x.c.plain) (num:=x.num) (sub:=x.sub) k (d.take j) (ps.map aO.plain)).1
  rw[ae3]at h9
  rw[afh]at h8
  omega
 refine .sr<|.q .lss<|.zs<|.cond rfl (λh2=>?_) λh2=>?_
 have b7:j<d.length:=cV h2
 obtain⟨n,c2⟩:=cE b7
 have a0:=f5 j n c2
 have c0:=e3 (j+1)
 have e4:(dl x.c.plain x.num (Y.map aO.plain) (dH x.c.plain x.sub k n)).1.length<=3000000:=by
  rw[a.eq]
  rw[a0]at c0
  exact ae0 c0 b9
 refine .kn<|.seq<|.block<|.sr ?_
 refine .bZ j hn c2 (λg7=>?_)
 refine .q (.aU rfl) ?_
 refine .bT (λd1=>?_)
 refine .bP rfl rfl<|.z<|.mo rfl<|.q (.aU rfl)<|.q (.aU rfl)<|.call [1,1,1] ((e6 Y e va c7 a7 d0 a.at_ a.o k [.bool f,vn,S,t,iN g] n (ie:=⟨λu O=>f7.h u (by simp only[aO.enc];simp only[afo,List.not_mem_nil,or_false]at O⊢;simp[O])⟩) e4 rfl).weaken λb o D=>.inl (b5 b o D)) (λu H' O=>?_)
 obtain⟨f8,c8,a8,b0,Tl,rfl,J⟩:=O
 have iu:=J.l.aC
 have N:=J.l
 conv=>arg 8;simp only[rest,bJ,aeZ,aeY]
 obtain⟨r,a6⟩:∃r,r=(dl x.c.plain x.num (Y.map aO.plain) (dH x.c.plain x.sub k n)).2:=⟨_,rfl⟩
 rw[<-a6]at N
 have g3:=N.le
 refine .ag rfl<|.zs<|.sr<|.mo rfl<|.q (.fz N)<|.mo rfl<|.zn<|.block<|.cX [(0,_),(1,_),(4,_),(5,_),(7,_),(8,_),(11,_),(36,_),(37,_),(38,_),(46,_),(47,_)] (X:=Nat×List (Int×Bool)×ap) (λy=>y.1<=r.length/\MS kI Value.bool (.map (some a1)) y.2.1 y.2.2/\y.2.1.map (·.1)=(jV (jV [] (cU x.c.plain x.num x.sub k (ps.map aO.plain) (d.take j)).2.flatten) (r.take y.1)).map λn:Nat=>(n:Int)) (λy E=>(48,iN y.1)::E) (G:=[Tl,x.gE xb va c8 e,a8,b0,bl d1 n.enc 199,U,H,I,bl b4 (aO.enc ⟨k,f,vn,d,S,Q,t,s,g⟩) 95]) (λy G=>y.2.2::G) (λy=>r.length-y.1) (0,M,Tm) ⟨aeX _,a.ms,a.yh⟩ kE.c.c.c.c.c.c.c.c.c.c.c.c.c (aT [7,0,0,0,0,0,0,0,0,0]) ?_
 rintro⟨m,M2,c9⟩ ⟨hm,a2,Z⟩
 simp only at hm a2 Z⊢
 refine .sr<|.q .lss<|.zs<|.cond rfl (λh3=>?_) λh3=>?_
 have c1:m<r.length:=cV h3
 obtain⟨to,c4⟩:=cE c1
 have f4:=MR c4 (jV [] (cU x.c.plain x.num x.sub k (ps.map aO.plain) (d.take j)).2.flatten)
 refine .kn<|.seq<|.block<|.sr ?_
 refine .aI m N c4 (λg8=>?_)
 refine .lo rfl<|.az rfl<|.region<|.mo rfl<|.mo rfl<|.update (key:=(to:Int)) (u:=true) a2 rfl rfl rfl (λT2 d7 _=>?_)
 have b8:=Kw Z true to
 rw[<-f4]at b8
 refine .nil<|bg<|aB<|.region<|.ia (m+1) .add<|.mo rfl<|.nil ?_
 ·exact bu (m+1,da (to:Int) true M2,T2) ⟨c1,d7,b8⟩ (by simp only;omega) kE.c.c.c.c.c.c.c.c.c.c.c.c.c rH
 have e8:m=r.length:=by have:=bK h3;omega
 rw[e8,afk]at Z
 obtain⟨pu,cu,rfl,_⟩:=N.shape
 refine .exit<|br<|bz<|bw<|aB<|.region<|.mo rfl<|.mo rfl ?_
 refine .lA (λf9=>?_)
 refine .append a.le (RS.lits (xs:=[((.slice pu r.length cu,r):fF)]) rfl (by simp[ee]) (by simp[ee,aC])) (by simp only[aeW];omega) (λv5 T5 f6=>?_)
 refine .ag rfl<|.nil<|bg<|aB<|.region<|.ia (j+1) .add<|.mo rfl<|.nil ?_
 ·exact bu (j+1,f8,c8,a8,b0,v5,L++[(.slice pu r.length cu,r)],T5,Tl++H,M2,c9) ⟨b7,⟨by rw[a0,J.eq,a.eq],J.at_,J.o,by
   obtain⟨l1,d2,d3⟩:=a.gr
   obtain⟨l2,d4,d5⟩:=J.gr
   refine⟨l1++l2,by rw[d4,d2,afl],λq hq=>?_⟩
   rcases ae7.1 hq with hq|hq
   ·exact d3 q hq
   ·exact d5 q hq,f6,λq hq=>by
   rcases ae7.1 hq with hq|hq
   ·exact(a.rows q hq).mono λb o D=>gB D
   ·rw[ae2]at hq
    subst hq
    exact N.sg.mono λb o D=>iD D,by rw[a0,afg,a.ll,a6,a.eq];rfl,a2,by rw[a0,List.flatten_append,zC,Z,a6,a.eq];simp⟩⟩ (by simp only;omega) kE.c.c.c.c.c.c.c.c.c ((aT [3,3,3,4,2,3,1,2,2]).trans (bo.eV (by simp[take,bJ])))
 have e1:j=d.length:=by have:=bK h2;omega
 rw[e1,afk]at a
 have K:Y[i]? =some ⟨k,f,vn,d,S,Q,t,s,g⟩:=by
  obtain⟨l,F,_⟩:=a.gr
  rw[F,List.getElem?_append_left e0,v]
 obtain⟨a9,d9⟩:=a.o.A2 K
 have b1:M.length=jO (cU x.c.plain x.num x.sub k (ps.map aO.plain) d).2.flatten:=by
  have:=congrArg List.length a.yh
  rw[ae3,ae3]at this
  exact this
 have g1:M.length<=3000000:=by
  rw[b1]
  refine ae0 (yk (n:=(cU x.c.plain x.num x.sub k (ps.map aO.plain) d).1.length) λy hy=>?_) b9
  obtain⟨l,F,hy⟩:=List.mem_flatten.1 hy
  exact e7 l F y hy
 refine .exit<|br<|bz<|bw<|aB<|.seq<|.cG [16,19] mixed<|.tO 0 rfl .move<|.tO 1 rfl (.nilCheck rfl)<|.tO 2 rfl (.fieldAddr rfl)<|.tO 3 rfl (.fieldAddr rfl)<|.tO 4 rfl (.bU rfl)<|.tO 5 rfl .move<|.tO 6 rfl .move<|.tO 7 rfl (.nilCheck rfl)<|.tO 8 rfl (.fieldAddr rfl)<|.tO 9 rfl (.fieldAddr rfl)<|.tO 10 rfl (.bU rfl)<|.tK 11 rfl .move<|.tO 12 rfl .move<|.tK 13 rfl .move ?_
 refine RA.aI 14 rfl i a.o K rfl rfl rfl (by kernel_rfl) (λg9=>?_)
 refine .tO 15 rfl (.fieldAddr rfl)<|.sT 16 rfl<|.rY (k:=5) (cs:=[T]) (z':=(⟨k,f,vn,d,T,iS x.c.plain x.sub k,t,s,g⟩:aO)) i a.o K rfl rfl rfl (n5 c5.h) rfl (by simpa using c5.h) rfl (by simp) (λTd d8=>?_)
 have f2:(Y.set i (⟨k,f,vn,d,T,iS x.c.plain x.sub k,t,s,g⟩:aO))[i]? =some ⟨k,f,vn,d,T,iS x.c.plain x.sub k,t,s,g⟩:=by rw[List.getElem?_set_self (afd.1 K).1]
 refine .nil (Next.mod rfl ?_)
 refine RA.aI 17 rfl i a.o K rfl rfl rfl (by kernel_rfl) (λh0=>?_)
 refine .tK 18 rfl (.eH rfl d9)<|.sT 19 rfl<|.rY (k:=6) (cs:=[vL]) (z':=(⟨k,f,vn,d,T,iS x.c.plain x.sub k,vL,L,g⟩:aO)) i d8 f2 rfl rfl rfl (n5 c6.h) rfl (by simpa using c6.h) rfl (by simp) (λTe b2=>?_)
 rw[List.set_set]at b2
 refine .nil<|Next.mod rfl<|RA.nil (by kernel_rfl)<|aB<|.dd 11 mixed (by kernel_rfl) ?_
 conv=>arg 6;dsimp only[List.take]
 refine .mo rfl<|.nc rfl<|.fa rfl<|.fa rfl<|.lo rfl<|.mo rfl<|.q (.xP a.ms.rx rfl) ?_
 refine .ia (e+M.length) .add ?_
 refine .nc rfl<|.fa rfl<|.fa rfl<|.nil<|.du rfl rfl<|.nil<|fg _ .none (aT [0,0,0,0,0,1]) ?_
 ·obtain⟨l,F,e2⟩:=a.gr
  refine(b6 _).2 ⟨c7,a7,Te,U,H,I,l,⟨k,f,vn,d,T,iS x.c.plain x.sub k,vL,L,g⟩,?_,e2,?_,?_,?_,.inr ⟨rfl,rfl,b3.sg,a.le.sg,a.rows⟩⟩
  ·rw[W, <-b1];simp[take,bJ];rfl
  ·rw[W, <-F,List.map_set,a.eq]
   simp only[hf,if_true]
   rw[<-a.ll]
   rfl
  ·rw[<-F];exact a.at_.set K rfl
  ·rw[<-F];exact b2
def oT(R:aw)(out:List bB×Nat×Int)(u:Value)(H':aG):Prop:=∃vp ps T,H'=[T]/\u=.tuple [.agg [vp,iN out.2.1].toArray,.int .i64 out.2.2].toArray/\RS (λb o=>R b o\/(b,o)∈T) 8 aO.enc vp ps/\(∀p∈ps,aO.is (λb o=>R b o\/(b,o)∈T) p)/\ps.map aO.plain=out.1
theorem yx{W:ByteArray->Bool}{F:ByteArray->ByteArray->Bool}{c:Cf}{num:List Nat}{k:aR}(b:c.right W F=true):(one c num k).nodes.length<=64:=by
 unfold one
 split
 ·simp
 ·rename_i i d
  simp only[ae9,ae1]
  cases hy:c.all[i]? with
  |none=>simp
  |some y=>
   have a:=(nB b y (aX hy)).2
   unfold jN at a
   simp only[Bool.or_eq_false_iff,decide_eq_false_iff_not]at a
   simp only[afm,afb]
   omega
theorem tI{c:Cf}{num:List Nat}{sub:aR->List Sub}{k:aR}{N i:Nat}(b:eK c num sub k N)(h:∀j,j<i->j<(opened c num sub k j).1.length):i<=N:=Nat.not_lt.1 λa=>by have:=h N a;have:=b.1;omega
theorem sM{R:aw}{hb:Nat}{vl:Value}{es:List dx}{b4:Nat}(hV:HV R hb vl es b4){g:Nat}{S:cQ}{c7:List RB}{vf vr:Value}{Mf:List (aR×(Value×ap))}{Mr:List (Sub×(Value×ap))}(hS:SV R g S c7 vf vr Mf Mr)
    {L:List bD}(hL:RL S L)(hl:S.rows.length<=1000)(rev:Int)(en:dx)(b5:fY es rev=some en)(num:List Nat)(V:gR isWord cR en.c.plain num)(f2:en.ll.map (·.2)=rows en.c.plain.aZ num)(e8:b4<=1000000/\es.length<=1000000)(c2:∀e∈es,e.ll.length<=1000000/\∀q∈e.ll,q.2.length<=1000000)
    (k:aR)(b:Int)(g6:b<=9223372036854775807)(sub:aR->List Sub)(f9:sub=λk=>if scan S rev then(L.filter λy=>y.there rev&&decide (y.t.cB=k)).map (·.t.sub)else [])
    (c3:∀i,(∀j,j<i->j<(opened en.c.plain num sub k j).1.length)->(opened en.c.plain num sub k i).1.length+(opened en.c.plain num sub k i).2<=1048576)(N:Nat)(hN:eK en.c.plain num sub k N):
    Spec prog 34 [pT hb,pT g,.int .u64 rev,.agg [.string k.os,.string k.oi].toArray,.string k.rel,.int .i64 b] R [] (oT R (gG en.c.plain num sub k b (scan S rev) N)):=by
  have d8:((fY es rev).map λe=>e.c.plain).getD ⟨[],[]⟩=en.c.plain:=by rw[b5];rfl
  have b6:((fY es rev).map λe=>e.ll.map (·.2)).getD []=rows en.c.plain.aZ num:=by rw[b5];exact f2
  have J:∀out u H',oT R out u H'↔∃A s T,H'=[T]/\u=.tuple [.agg [A,iN out.2.1].toArray,.int .i64 out.2.2].toArray/\RS (λb o=>R b o\/(b,o)∈T) 8 aO.enc A s/\(∀p∈s,aO.is (λb o=>R b o\/(b,o)∈T) p)/\s.map aO.plain=out.1:=λ_ _ _=>Iff.rfl
  have r:gG en.c.plain num sub k b (scan S rev) N=if b<1 then([],0,2)else if scan S rev=false then([],0,12)
    else if(((opened en.c.plain num sub k N).1.length+(opened en.c.plain num sub k N).2:Nat):Int)<=b then((opened en.c.plain num sub k N).1,(opened en.c.plain num sub k N).2,0)else([],0,16):=rfl
  generalize g7:en.c.plain=cp at *
  refine Spec.body func34 rfl results34 ntmps34 rfl ?_
  refine .sr ?_
  refine .cm rfl (λb9=>?_)
  refine .bT (λb3=>?_)
  refine .ag rfl<|.z<|.mo rfl<|.fa rfl<|.lo rfl<|.fa rfl<|.lo rfl<|.mo rfl ?_
  refine .q .cD ?_
  refine .mo rfl ?_
  refine .dN ((Lv hS (by omega) ⟨k.os,k.oi,k.rel,⟨#[]⟩,⟨#[]⟩,⟨#[]⟩,⟨#[]⟩⟩ rev).weaken dJ) (λu g4 a=>?_)
  obtain⟨wr,ys,rfl,d7,_⟩:=a
  have i3:=d7.aC
  refine .mo rfl<|.q .extract<|.q .extract<|.ag rfl<|.ag rfl<|.zs<|.block<|.sr<|.mo rfl ?_
  refine .bj ((HV.made hV).weaken dJ) (λu a=>?_)
  subst a
  refine .q .not<|.mo rfl ?_
  refine .split (t:=36) rfl (λa4=>?_) (λa4=>?_)
  ·simp at a4
  refine .gT a4<|.mo rfl<|.gT a4<|.q .cr<|.q (.bs a4) ?_
  refine .az rfl ?_
  refine .cond rfl (λh1=>?_) λh1=>?_
  ·cases I:scan S rev<;>simp[I]at h1
  refine .sr<|.mo rfl<|.q .lss<|.az rfl ?_
  refine .cond rfl (λh2=>?_) λh2=>?_
  have a1:b<1:=bV h2
  refine .sr ?_
  refine .q .cD ?_
  refine .bP rfl rfl<|.az rfl ?_
  refine .ret (bF (ba (bm _ (.two (.fH rfl rfl) (.tmp rfl)) (bo.one [] _) ?_)))
  ·exact(J _ _ _).2 ⟨_,[],_,rfl,by rw[r,aeV a1];rfl,RS.gI,λp f=>(by cases f),by rw[r,aeV a1];rfl⟩
  have a1:¬b<1:=bK h2
  refine .sr<|.mo rfl<|.q .eJ<|.az rfl ?_
  refine .cond rfl (λh3=>?_) λh3=>?_
  have I:scan S rev=false:=by
    cases I:scan S rev with
    |false=>rfl
    |true=>simp[I]at h3
  refine .sr ?_
  refine .q .cD ?_
  refine .mo rfl<|.bP rfl rfl<|.az rfl ?_
  refine .ret (bF (ba (bm _ (.two (.fH rfl rfl) (.tmp rfl)) (bo.one [] _) ?_)))
  ·exact(J _ _ _).2 ⟨_,[],_,rfl,by rw[r,aeU a1,aeV I,I];rfl,RS.gI,λp f=>(by cases f),by rw[r,aeU a1,aeV I];rfl⟩
  have I:scan S rev=true:=by
    cases I:scan S rev with
    |true=>rfl
    |false=>simp[I]at h3
  rw[aeU a1,aeU (by rw[I];simp)]at r
  refine .skip<|bg<|aB<|.sr<|.mo rfl<|.mo rfl ?_
  refine .dN ((hV.at_ rev e8).weaken dJ) (λu Tc a=>?_)
  obtain⟨U,rfl,Z,v⟩:=a
  rw[d8]at v
  have i0:cv U.enc:=⟨Z.dv⟩
  have h6:One U.vs:=RS.aC Z.ss
  have h7:One U.vc:=RS.aC Z.sc
  refine .mo rfl<|.q .extract<|.q .extract ?_
  refine .bT (λg5=>?_)
  refine .bP rfl rfl<|.ag rfl<|.zs ?_
  refine bq.dI [(4,_),(9,_),(12,_)] kE.c.c.c (X:=Nat×Nat×Value×ap) (λy=>MS kX jB y.2.2.1 (kZ cp num) y.2.2.2) (λy E=>(18,.pointer (some ⟨y.1,0,none⟩))::E) (λy=>[XC.gE ⟨U,num,y.2.2.1,g,S,L,rev,b⟩ y.1 (.map (some y.2.1)) (sZ) 0,[(y.2.1,.map #[] 0)],[],[],Tc,y.2.2.2,bl b3 [sZ,.int .i64 0] 81,bl b9 [.string k.os,.string k.oi] 44]) ?_ ?_
  refine .cG [] mixed ?_
  refine .tO 0 rfl (.aU rfl)<|.tO 1 rfl (.aU rfl)<|.tO 2 rfl .move<|.tO 3 rfl .move<|.tO 6 rfl .move<|.tO 7 rfl .move<|.tO 9 rfl .move ?_
  refine RA.hG 4 8 rfl rfl (by kernel_rfl) rfl ?_ ?_
  refine .dN ((hV.numbers rev c2).weaken dJ) (λu Tn a=>?_)
  obtain⟨ll,a0,a2⟩:=a
  rw[b6]at a2
  have g0:=a0.rs.aC
  refine .nil (Next.sub ?_)
  refine RA.hG 5 8 rfl rfl (by kernel_rfl) rfl ?_ ?_
  refine .dN ((tB U (λb o=>(b,o)∈Tc\/(b,o)∈Tn) (Z.mono λb o hb=>.inl hb) (by rw[v];exact V.dL) _ ll num (a0.mono λb o hb=>.inr hb) (by rw[v];exact a2) (by rw[v];exact V.len)).weaken λb o hb=>.inr (by rcases hb with hb|hb<;>simp[hb])) (λu w a=>?_)
  obtain⟨mn,rfl⟩:∃m,u=.map (some m):=by obtain⟨b,_,_,h,_⟩:=a;exact⟨b,h⟩
  refine .nil (Next.sub ?_)
  refine .sT 8 rfl ?_
  refine .makeMap (λB=>?_)
  refine .nil (Next.sub ?_)
  refine .tO 10 rfl .cD ?_
  refine .sT 11 rfl ?_
  refine .cm rfl (λC=>?_)
  refine .nil (Next.sub ?_)
  refine .tO 12 rfl .assign ?_
  refine RA.nil (by kernel_rfl) ?_
  ·first
      |exact aL (C,B,_,w) (by rw[<-v];exact a) ((((kE.d rfl).d rfl).d rfl).d rfl) (bo.iy.trans (aT [2,2,0,0,3,0,3,3]))
      |exact aL (C,B,_,w) (by rw[<-v];exact a) ((((kE.d rfl).d rfl).d rfl).d rfl) (bo.iy.trans (aT [2,3,0,0,3,0,3,3]))
      |exact aL (C,B,_,w) (by rw[<-v];exact a) ((((kE.d rfl).d rfl).d rfl).d rfl) (bo.iy.trans (aT [2,4,0,0,3,0,3,3]))
  refine .makeMap (λB=>?_)
  refine .nil (Next.sub ?_)
  refine .sT 5 rfl ?_
  refine .dN ((tB U (λb o=>(b,o)∈Tc\/(b,o)∈Tn) (Z.mono λb o hb=>.inl hb) (by rw[v];exact V.dL) _ ll num (a0.mono λb o hb=>.inr hb) (by rw[v];exact a2) (by rw[v];exact V.len)).weaken λb o hb=>.inr (by rcases hb with hb|hb<;>simp[hb])) (λu w a=>?_)
  obtain⟨mn,rfl⟩:∃m,u=.map (some m):=by obtain⟨b,_,_,h,_⟩:=a;exact⟨b,h⟩
  refine .nil (Next.sub ?_)
  refine .tO 10 rfl .cD ?_
  refine .sT 11 rfl ?_
  refine .cm rfl (λC=>?_)
  refine .nil (Next.sub ?_)
  refine .tO 12 rfl .assign ?_
  refine RA.nil (by kernel_rfl) ?_
  ·first
      |exact aL (C,B,_,w) (by rw[<-v];exact a) ((((kE.d rfl).d rfl).d rfl).d rfl) (bo.iy.trans (aT [2,2,0,0,3,0,3,3]))
      |exact aL (C,B,_,w) (by rw[<-v];exact a) ((((kE.d rfl).d rfl).d rfl).d rfl) (bo.iy.trans (aT [2,3,0,0,3,0,3,3]))
      |exact aL (C,B,_,w) (by rw[<-v];exact a) ((((kE.d rfl).d rfl).d rfl).d rfl) (bo.iy.trans (aT [2,4,0,0,3,0,3,3]))
  refine .makeMap (λB=>?_)
  refine .nil (Next.sub ?_)
  refine .sT 4 rfl ?_
  refine .dN ((hV.numbers rev c2).weaken dJ) (λu Tn a=>?_)
  obtain⟨ll,a0,a2⟩:=a
  rw[b6]at a2
  have g0:=a0.rs.aC
  refine .nil (Next.sub ?_)
  refine .sT 5 rfl ?_
  refine .dN ((tB U (λb o=>(b,o)∈Tc\/(b,o)∈Tn) (Z.mono λb o hb=>.inl hb) (by rw[v];exact V.dL) _ ll num (a0.mono λb o hb=>.inr hb) (by rw[v];exact a2) (by rw[v];exact V.len)).weaken λb o hb=>.inr (by rcases hb with hb|hb<;>simp[hb])) (λu w a=>?_)
  obtain⟨mn,rfl⟩:∃m,u=.map (some m):=by obtain⟨b,_,_,h,_⟩:=a;exact⟨b,h⟩
  refine .nil (Next.sub ?_)
  refine .tO 10 rfl .cD ?_
  refine .sT 11 rfl ?_
  refine .cm rfl (λC=>?_)
  refine .nil (Next.sub ?_)
  refine .tO 12 rfl .assign ?_
  refine RA.nil (by kernel_rfl) ?_
  ·first
      |exact aL (C,B,_,w) (by rw[<-v];exact a) ((((kE.d rfl).d rfl).d rfl).d rfl) (bo.iy.trans (aT [2,2,0,0,3,0,3,3]))
      |exact aL (C,B,_,w) (by rw[<-v];exact a) ((((kE.d rfl).d rfl).d rfl).d rfl) (bo.iy.trans (aT [2,3,0,0,3,0,3,3]))
      |exact aL (C,B,_,w) (by rw[<-v];exact a) ((((kE.d rfl).d rfl).d rfl).d rfl) (bo.iy.trans (aT [2,4,0,0,3,0,3,3]))
  intro y hy
  obtain⟨xb,Q,vn,w⟩:=y
  simp only at hy⊢
  obtain⟨x,a3⟩:∃x:XC,x=⟨U,num,vn,g,S,L,rev,b⟩:=⟨_,rfl⟩
  have i2:=hy.one
  have c6:x.sub=sub:=by rw[f9,a3];rfl
  have a7:x.c.plain=cp:=by rw[a3];exact v
  have a8:x.num=num:=by rw[a3]
  have O:x.b=b:=by rw[a3]
  obtain⟨Rc,H⟩:∃Rc:aw,Rc=λb o=>R b o\/(b,o)∈Tc\/(b,o)∈w:=⟨_,rfl⟩
  have a5:x.ok Rc:=by
    rw[a3,H]
    exact⟨Z.mono λb o hb=>.inr (.inl hb),by simp only;rw[v];exact hy.rm λp f=>.inr (.inr f),by simp only;rw[v];exact V.len,⟨c7,vf,vr,Mf,Mr,hS.mono λb o hb=>.inl hb⟩,hL,hl⟩
  have f7:=yS x Rc a5 xb
  have f4:=λR h=>K5 x Rc R h a5 xb
  have b2:=λR h=>Lb x R h xb
  rw[<-a3]
  refine aB<|.sr<|.mo rfl<|.q (.aU rfl)<|.mo rfl ?_
  refine .call [0,0,0] ((f7 [] 0 (.map (some Q)) (sZ) [(Q,.map #[] 0)] [] ⟨[],MS.nil,λk=>rfl⟩ OS.nil (by simp) k).weaken λb o hb=>by
    rw[H]at hb
    rcases hb with hb|hb|hb
    ·exact .inl hb
    ·exact .inr (by simp[rest,bJ,hb])
    ·exact .inr (by simp[rest,bJ,hb])) (λu H' a=>?_)
  obtain⟨c8,g2,c9,d1,rfl,rfl,d9,d3,d5,l1,c1,f5⟩:=a
  rw[aeY]at c1
  subst c1
  conv=>arg 8;simp only[rest,bJ,aeZ,aeY]
  have h0:c8.map aO.plain=(opened cp num sub k 0).1:=by rw[d9,a7,a8];rfl
  refine .zs<|.sr<|.az rfl<|.block ?_
  refine .cX [(12,_),(18,_)] (X:=Nat×List aO×Value×ap×ap×ap) (λy=>(∀j,j<y.1->j<(opened cp num sub k j).1.length/\(((opened cp num sub k j).1.length+(opened cp num sub k j).2:Nat):Int)<=b)/\y.2.1.map aO.plain=(opened cp num sub k y.1).1/\gL y.2.1 (.map (some Q)) y.2.2.2.1/\OS 95 8 aO.enc y.2.2.1 y.2.1 y.2.2.2.2.1/\∀q∈y.2.1,q.is λb o=>Rc b o\/(b,o)∈y.2.2.2.2.2) (λy E=>(19,iN y.1)::E) (G:=[Tc,w,bl b3 [sZ,.int .i64 0] 81,bl b9 [.string k.os,.string k.oi] 44]) (λy G=>x.gE xb (.map (some Q)) y.2.2.1 (opened cp num sub k y.1).2::y.2.2.2.1::y.2.2.2.2.1::y.2.2.2.2.2::G) (λy=>N+1-y.1) (0,c8,g2,c9,d1,[]) ⟨λj hj=>(by omega),h0,d3,d5,λq hq=>(f5 q hq).mono λb o hb=>.inl hb⟩ kE.c.c.c rH ?_
  rintro⟨i,s,A,Ta,To,Tp⟩ ⟨hj,M,hA,F,K⟩
  simp only at hj M hA F K⊢
  have g1:=F.aC
  have i1:cv (List.take 2 (List.drop 6 (x.cells (.map (some Q)) A (opened cp num sub k i).2))):=⟨λu a=>by
    simp[XC.cells]at a
    rcases a with rfl|rfl
    ·exact g1.h
    ·rfl⟩
  have a9:∀j,j<i->j<(opened cp num sub k j).1.length:=λj Y=>(hj j Y).1
  have b7:=tI hN a9
  have g8:=c3 i a9
  have f6:s.length=(opened cp num sub k i).1.length:=by rw[<-M,ae3]
  refine .seq<|.sr<|.mo rfl<|.mo rfl<|.nc rfl<|.fa rfl<|.fa rfl<|.lo rfl<|.q (.fz F) ?_
  refine .q .lss<|.mo rfl ?_
  refine .split (t:=80) rfl (λD=>?_) (λD=>?_)
  have b8:i<s.length:=by have:=bV D;omega
  refine .gT D<|.mo rfl<|.gT D ?_
  refine .bj (b2 _ (a5.mono λb o hb=>by
    rw[H]at hb
    rcases hb with hb|hb|hb
    ·exact .inl hb
    ·exact .inr (by simp[hb])
    ·exact .inr (by simp[hb])) (.map (some Q)) A (opened cp num sub k i).2 s (pc:=PC.of (E:=190) (fr:=(0,0)) (.inr (by simp))) F.rx (by omega) (by rw[O];omega)) (λu a=>?_)
  subst a
  refine .gT D<|.q .not<|.q (.bx D) ?_
  refine .zn ?_
  refine .cond rfl (λh4=>?_) λh4=>?_
  have f0:(((opened cp num sub k i).1.length+(opened cp num sub k i).2:Nat):Int)<=b:=by
    have:¬x.b<(s.length+(opened cp num sub k i).2:Nat):=by simpa using h4
    rw[O]at this;omega
  obtain⟨p,f⟩:=cE b8
  have b0:p.plain=one x.c.plain x.num p.k:=by
    rw[a7,a8]
    exact yE (c:=cp) (num:=num) (sub:=sub) (k:=k) i i p.plain (afi _) (by rw[<-M,ae1,f];rfl)
  have f1:p.nodes.length<=1000000:=by
    have Y:=yx (num:=num) (k:=p.k) V.right
    rw[a7,a8]at b0
    rw[<-b0]at Y
    exact ae0 Y (by omega)
  have c0:∀j,j<i+1->j<(opened cp num sub k j).1.length/\(((opened cp num sub k j).1.length+(opened cp num sub k j).2:Nat):Int)<=b:=λj Y=>by
    rcases Nat.lt_or_ge j i with h8|h8
    ·exact hj j h8
    ·obtain rfl:j=i:=by omega
     exact⟨by omega,f0⟩
  have g9:=c3 (i+1) λj Y=>(c0 j Y).1
  have c5:=yF (c:=cp) (num:=num) (sub:=sub) (k:=k) i
  have c4:(dF cp num sub (s.map aO.plain) i).1=(opened cp num sub k (i+1)).1:=by rw[c5,M]
  have f3:(opened cp num sub k i).2+(dF cp num sub (s.map aO.plain) i).2=(opened cp num sub k (i+1)).2:=by rw[c5,M]
  refine .kn<|.seq<|.block<|.region<|.mo rfl<|.mo rfl ?_
  refine .call [0,0,0] (f4 _ (λb o hb=>by
    rw[H]at hb
    rcases hb with hb|hb|hb
    ·exact .inl hb
    ·exact .inr (by simp[rest,bJ,hb])
    ·exact .inr (by simp[rest,bJ,hb])) s (opened cp num sub k i).2 (.map (some Q)) A Ta To hA F i p f ((K p (aX f)).n.mono λb o hb=>by
    rw[H]at hb
    rcases hb with(hb|hb|hb)|hb
    ·exact .inl hb
    ·exact .inr (by simp[rest,bJ,hb])
    ·exact .inr (by simp[rest,bJ,hb])
    ·exact .inr (by simp[rest,bJ,hb])) b0 f1 (by rw[a7,a8,c6,c4];omega) (by omega)) (λu H' a=>?_)
  rw[sm,a7,a8,c6,c4,f3]at a
  obtain⟨g3,d0,d2,TL,Tr,Tu,l,q,rfl,e9,e0,d4,d6,f8⟩:=a
  conv=>arg 8;simp only[rest,bJ,aeZ,aeY]
  refine .nil<|bg<|aB<|.region<|.mo rfl ?_
  refine .ia (i+1) .add ?_
  refine .ag rfl<|.nil ?_
  ·exact bu (i+1,(s++l).set i q,g3,d0,d2,TL++(Tr++(Tu++Tp))) ⟨c0,e0,d4,d6,λz hz=>by
      rcases List.mem_or_eq_of_mem_set hz with hz|rfl
      ·rcases ae7.1 hz with hz|hz
       ·exact(K z hz).mono λb o hb=>hb.imp id λhb=>ae4 _ (ae4 _ (ae4 _ hb))
       ·exact(e9 z hz).mono λb o hb=>.inl hb
      ·rcases f8 with rfl|⟨e1,e2,e3,e4,e5⟩
       ·exact(K _ (aX f)).mono λb o hb=>hb.imp id λhb=>ae4 _ (ae4 _ (ae4 _ hb))
       ·refine⟨?_,e3.mono λb o hb=>.inr (ae4 _ (ae4 _ (afq _ hb))),e4.mono λb o hb=>.inr (afq _ hb),λy hy=>(e5 y hy).mono λb o hb=>.inr (ae4 _ (afq _ hb))⟩
        rw[e1,e2]
        exact(K p (aX f)).n.mono λb o hb=>hb.imp id λhb=>ae4 _ (ae4 _ (ae4 _ hb))⟩ (by simp only;omega) kE.c.c.c (bo.eV (by simp[cT]))
  refine .exit<|br<|bz<|bw<|aB<|.seq<|.sr<|.mo rfl ?_
  refine .bj (b2 _ (a5.mono λb o hb=>by
    rw[H]at hb
    rcases hb with hb|hb|hb
    ·exact .inl hb
    ·exact .inr (by simp[hb])
    ·exact .inr (by simp[hb])) (.map (some Q)) A (opened cp num sub k i).2 s (pc:=PC.of (E:=190) (fr:=(0,0)) (.inr (by simp))) F.rx (by omega) (by rw[O];omega)) (λu a=>?_)
  subst a
  refine .zn ?_
  refine .cond rfl (λW=>?_) λW=>?_
  have a6:b<(((opened cp num sub k i).1.length+(opened cp num sub k i).2:Nat):Int):=by
    have:x.b<(s.length+(opened cp num sub k i).2:Nat):=by simpa using W
    rw[O]at this;omega
  obtain⟨e6,e7⟩:=tJ (c:=cp) (num:=num) (sub:=sub) (k:=k) b7
  rw[aeU (by omega)]at r
  refine .sr ?_
  refine .q .cD ?_
  refine .bP rfl rfl<|.az rfl ?_
  refine .ret (ba (bm _ (.two (.fH rfl rfl) (.tmp rfl)) (bo.one [2,2,2,2] _) ?_))
  ·first
      |exact(J _ _ _).2 ⟨_,[],_,rfl,by rw[r];rfl,RS.gI,λp f=>(by cases f),by rw[r];rfl⟩
      |exact(J _ _ _).2 ⟨A,s,_,rfl,by rw[r];rfl,F.rs λp f=>.inr (by simp[take,bJ,f]),λp f=>(K p f).mono λb o hb=>(by
          rw[H]at hb
          rcases hb with(hb|hb|hb)|hb
          ·exact .inl hb
          ·exact .inr (by simp[take,bJ,hb])
          ·exact .inr (by simp[take,bJ,hb])
          ·exact .inr (by simp[take,bJ,hb])),by rw[r];exact M⟩
  have a6:(((opened cp num sub k i).1.length+(opened cp num sub k i).2:Nat):Int)<=b:=by
    have:¬x.b<(s.length+(opened cp num sub k i).2:Nat):=by simpa using W
    rw[O]at this;omega
  have b1:i=N:=by
    refine eK.dL (c:=cp) (num:=num) (sub:=sub) (k:=k) ⟨?_,a9⟩ hN
    (exfalso
     have:x.b<(s.length+(opened cp num sub k i).2:Nat):=by simpa using h4
     rw[O]at this
     omega)
  subst b1
  rw[aeV a6]at r
  refine .kn<|.sr<|.mo rfl<|.nc rfl<|.fa rfl<|.q (.loadT rfl) ?_
  refine .bP rfl rfl<|.az rfl ?_
  refine .ret (bm _ (.two (.fH rfl rfl) (.tmp rfl)) (bo.one [2,2,2,2] _) ?_)
  ·first
      |exact(J _ _ _).2 ⟨_,[],_,rfl,by rw[r];rfl,RS.gI,λp f=>(by cases f),by rw[r];rfl⟩
      |exact(J _ _ _).2 ⟨A,s,_,rfl,by rw[r];rfl,F.rs λp f=>.inr (by simp[take,bJ,f]),λp f=>(K p f).mono λb o hb=>(by
          rw[H]at hb
          rcases hb with(hb|hb|hb)|hb
          ·exact .inl hb
          ·exact .inr (by simp[take,bJ,hb])
          ·exact .inr (by simp[take,bJ,hb])
          ·exact .inr (by simp[take,bJ,hb])),by rw[r];exact M⟩
  have b8:¬i<s.length:=by have:=bK D;omega
  refine .gF D<|.gF D<|.gF D<|.q (.bs D) ?_
  refine .zn<|.di<|.exit<|br<|bz<|bw<|aB<|.seq<|.sr<|.mo rfl ?_
  refine .bj (b2 _ (a5.mono λb o hb=>by
    rw[H]at hb
    rcases hb with hb|hb|hb
    ·exact .inl hb
    ·exact .inr (by simp[hb])
    ·exact .inr (by simp[hb])) (.map (some Q)) A (opened cp num sub k i).2 s (pc:=PC.of (E:=190) (fr:=(0,0)) (.inr (by simp))) F.rx (by omega) (by rw[O];omega)) (λu a=>?_)
  subst a
  refine .zn ?_
  refine .cond rfl (λW=>?_) λW=>?_
  have a6:b<(((opened cp num sub k i).1.length+(opened cp num sub k i).2:Nat):Int):=by
    have:x.b<(s.length+(opened cp num sub k i).2:Nat):=by simpa using W
    rw[O]at this;omega
  obtain⟨e6,e7⟩:=tJ (c:=cp) (num:=num) (sub:=sub) (k:=k) b7
  rw[aeU (by omega)]at r
  refine .sr ?_
  refine .q .cD ?_
  refine .bP rfl rfl<|.az rfl ?_
  refine .ret (ba (bm _ (.two (.fH rfl rfl) (.tmp rfl)) (bo.one [2,2,2,2] _) ?_))
  ·first
      |exact(J _ _ _).2 ⟨_,[],_,rfl,by rw[r];rfl,RS.gI,λp f=>(by cases f),by rw[r];rfl⟩
      |exact(J _ _ _).2 ⟨A,s,_,rfl,by rw[r];rfl,F.rs λp f=>.inr (by simp[take,bJ,f]),λp f=>(K p f).mono λb o hb=>(by
          rw[H]at hb
          rcases hb with(hb|hb|hb)|hb
          ·exact .inl hb
          ·exact .inr (by simp[take,bJ,hb])
          ·exact .inr (by simp[take,bJ,hb])
          ·exact .inr (by simp[take,bJ,hb])),by rw[r];exact M⟩
  have a6:(((opened cp num sub k i).1.length+(opened cp num sub k i).2:Nat):Int)<=b:=by
    have:¬x.b<(s.length+(opened cp num sub k i).2:Nat):=by simpa using W
    rw[O]at this;omega
  have b1:i=N:=by
    refine eK.dL (c:=cp) (num:=num) (sub:=sub) (k:=k) ⟨?_,a9⟩ hN
    (rw[<-f6];omega)
  subst b1
  rw[aeV a6]at r
  refine .kn<|.sr<|.mo rfl<|.nc rfl<|.fa rfl<|.q (.loadT rfl) ?_
  refine .bP rfl rfl<|.az rfl ?_
  refine .ret (bm _ (.two (.fH rfl rfl) (.tmp rfl)) (bo.one [2,2,2,2] _) ?_)
  ·first
      |exact(J _ _ _).2 ⟨_,[],_,rfl,by rw[r];rfl,RS.gI,λp f=>(by cases f),by rw[r];rfl⟩
      |exact(J _ _ _).2 ⟨A,s,_,rfl,by rw[r];rfl,F.rs λp f=>.inr (by simp[take,bJ,f]),λp f=>(K p f).mono λb o hb=>(by
          rw[H]at hb
          rcases hb with(hb|hb|hb)|hb
          ·exact .inl hb
          ·exact .inr (by simp[take,bJ,hb])
          ·exact .inr (by simp[take,bJ,hb])
          ·exact .inr (by simp[take,bJ,hb])),by rw[r];exact M⟩
def db.enc(x:db):List Value:=[iN x.1,iN x.2]
instance db.one(x:db):cv (db.enc x):=⟨by simp[db.enc,aC]⟩
abbrev hB(sb:Nat)(vp:Value)(e:Nat)(us:ByteArray)(vv vb vw vq:Value):ap:=(bl sb [vp,iN e,.string us,vv,vb,vw,vq] 206)
abbrev pQ(sb:Nat):Value:=ic (pT sb) 6
def QI(sb:Nat)(vp:Value)(e:Nat)(us:ByteArray)(vv vb vw:Value)(L:List db)(T:ap):Prop:=∃vq Tq,T=hB sb vp e us vv vb vw vq++Tq/\OS 280 2 db.enc vq L Tq/\L.length<=1000000000
theorem zR(v:Value)(L:List db)(R:aw)(h:RS R 2 db.enc v L):Spec prog 92 [v] R [] λu H'=>u=.int .i64 L.length/\H'=[]:=by
 refine Spec.body func92 rfl results92 ntmps92 rfl<|.sr<|.ag rfl<|.z<|.mo rfl<|.q (.cq h)<|.az rfl<|.ret (aY rfl ?_)
 ·exact⟨rfl,rfl⟩
theorem Nk(v:Value)(L:List db)(R:aw)(h:RS R 2 db.enc v L)(i k:Nat)(x y:db)(f:L[i]? =some x)(g:L[k]? =some y):Spec prog 297 [v,.int .i64 i,.int .i64 k] R [] λu H'=>u=.bool (kW x y)/\H'=[]:=by
 have e:kW x y=(decide (x.1<y.1)||(decide (x.1=y.1)&&decide (x.2<y.2))):=rfl
 obtain⟨a,b⟩:=x
 obtain⟨c,d⟩:=y
 simp only at e
 generalize kW (a,b) (c,d)=r at *
 refine Spec.body func297 rfl results297 ntmps297 rfl<|.sr<|.ag rfl<|.zs<|.seq<|.iA mixed (by kernel_rfl)<|.mo rfl<|.mo rfl ?_
 refine .bZ i h f (λs=>?_)
 refine .fa rfl<|.lo rfl<|.mo rfl<|.mo rfl ?_
 refine .bZ k h g (λl=>?_)
 refine .fa rfl<|.lo rfl<|.q .eJ<|.zn<|.cond rfl (λj=>?_) λj=>?_
 refine .seq<|.iA mixed (by kernel_rfl)<|.mo rfl<|.mo rfl ?_
 refine .bZ i h f (λm=>?_)
 refine .fa rfl<|.lo rfl<|.mo rfl<|.mo rfl ?_
 refine .bZ k h g (λn=>?_)
 refine .fa rfl<|.lo rfl<|.q .lss<|.az rfl<|.ret (ba (aY rfl ?_))
 ·refine⟨congrArg _ ?_,rfl⟩
  rw[e]
  grind
 refine .kn<|.seq<|.iA mixed (by kernel_rfl)<|.mo rfl<|.mo rfl ?_
 refine .bZ i h f (λo=>?_)
 refine .fa rfl<|.lo rfl<|.mo rfl<|.mo rfl ?_
 refine .bZ k h g (λp=>?_)
 refine .fa rfl<|.lo rfl<|.q .lss<|.az rfl<|.ret (aY rfl ?_)
 ·refine⟨congrArg _ ?_,rfl⟩
  rw[e]
  grind
theorem Nt(v:Value)(L:List db)(T:ap)(R:aw)(a:OS 280 2 db.enc v L T)(i k:Nat)(e:i<L.length)(f:k<L.length):Spec prog 298 [v,.int .i64 i,.int .i64 k] R [T] λ_ H'=>∃T',H'=[T']/\OS 280 2 db.enc v (cy L i k) T':=by
 obtain⟨x,b⟩:=cE e
 obtain⟨y,c⟩:=cE f
 refine Spec.body func298 rfl results298 ntmps298 rfl<|.cG [13,15] mixed<|.tO 0 rfl .move<|.tO 1 rfl .move<|.tK 2 rfl .move<|.tK 3 rfl .move<|.tO 4 rfl .move<|.tO 5 rfl .move ?_
 refine RA.aI 6 rfl (k) a c rfl rfl rfl (by kernel_rfl) (λm=>?_)
 refine .tO 7 rfl (.aU rfl)<|.tO 8 rfl .move<|.tO 9 rfl .move ?_
 refine RA.aI 10 rfl (i) a b rfl rfl rfl (by kernel_rfl) (λn=>?_)
 refine .tO 11 rfl (.aU rfl) ?_
 refine RA.aI 12 rfl (i) a b rfl rfl rfl (by kernel_rfl) (λo=>?_)
 refine .sT 13 rfl<|.ei (i) a b y (λj g=>?_) (a.one _ (aX c))
 refine .nil (Next.mod rfl ?_)
 refine RA.aI 14 rfl (k) a c rfl rfl rfl (by kernel_rfl) (λp=>?_)
 refine .sT 15 rfl ?_
 obtain⟨q,h⟩:∃u,(L.set (i) y)[k]? =some u:=⟨_,aQ (by rw[afp];exact(afd.1 c).1)⟩
 refine .ei (k) g h x (λl d=>?_) (a.one _ (aX b))
 rw[<-ej b c]at d
 refine .nil<|Next.mod rfl<|RA.nil (by kernel_rfl)<|fg _ .none rH ?_
 ·exact⟨_,rfl,d⟩
section
variable(sb:Nat)(vp:Value)(e:Nat)(us:ByteArray)(vv vb vw:Value)
theorem Nr(L:List db)(T:ap)(h:QI sb vp e us vv vb vw L T)(x:db)(j:L.length<1000000000)(R:aw):
  Spec prog 300 [pQ sb,.iface 280 (.agg (db.enc x).toArray)] R [T] λv H'=>∃T',H'=[T']/\QI sb vp e us vv vb vw (L++[x]) T':=by
 obtain⟨g,d,rfl,f,_⟩:=h
 refine Spec.jg (H':=[hB sb vp e us vv vb vw g,d]) (by simp) ?_
 refine Spec.body func300 rfl results300 ntmps300 rfl<|.cG [7,9] mixed<|.tK 0 rfl .move<|.tO 1 rfl .move<|.tO 2 rfl (.nilCheck rfl)<|.tO 3 rfl (.bU rfl)<|.tO 4 rfl .move<|.tO 5 rfl (.vB (ut:=⟨underlying280⟩))<|.sT 6 rfl ?_
 refine .dV (λi=>?_)
 refine .nil<|Next.sub<|.sT 7 rfl<|.append f (RS.lits (xs:=[x]) rfl (by simp[db.enc]) (by simp[db.enc,aC])) (by simp;omega) (λc a b=>?_)
 have k:=b.aC
 refine .nil<|Next.mod rfl<|.tK 8 rfl (.lO rfl)<|.sT 9 rfl<|.du rfl rfl<|.nil<|Next.mod rfl<|RA.nil (by kernel_rfl)<|fg _ .none ((aT [1,1]).trans (bo.eV (H':=[hB sb vp e us vv vb vw c++a]) (by simp[take,bJ,cT]))) ?_
 ·exact⟨_,rfl,c,a,rfl,b,by simp;omega⟩
theorem Nq(L:List db)(x:db)(T:ap)(h:QI sb vp e us vv vb vw (L++[x]) T)(R:aw):
  Spec prog 299 [pQ sb] R [T] λv H'=>∃T',H'=[T']/\v=.iface 280 (.agg (db.enc x).toArray)/\QI sb vp e us vv vb vw L T':=by
 obtain⟨g,b,rfl,a,f⟩:=h
 simp only[aff,aeW]at f
 refine Spec.jg (H':=[hB sb vp e us vv vb vw g,b]) (by simp) ?_
 refine Spec.body func299 rfl results299 ntmps299 rfl<|.sr<|.ag rfl<|.z<|.mo rfl<|.nc rfl<|.lo rfl<|.ag rfl<|.z<|.mo rfl<|.mo rfl<|.q (.fz a)<|.q (.i64 ((L.length:Nat):Int) .sub ⟨by simp,by omega,by omega⟩) ?_
 refine .aI L.length a (z:=x) (by simp) (λk=>?_)
 refine .q (.aU rfl) ?_
 refine .bT (λi=>?_)
 refine .bP rfl rfl<|.z<|.mo rfl<|.mo rfl<|.mo rfl<|.q (.fz a)<|.q (.i64 ((L.length:Nat):Int) .sub ⟨by simp,by omega,by omega⟩)<|.p5 0 L.length a rfl ⟨_,rfl⟩ (by omega) (by simp) (λd c=>?_)
 have j:=c.aC
 refine .nc rfl<|.du rfl rfl<|.z<|.q (.aU rfl)<|.q (.makeInterface (ut:=⟨underlying280⟩))<|.az rfl<|.ret (bm _ (.one (.tmp rfl)) ((aT [1,1]).trans (bo.eV (H':=[hB sb vp e us vv vb vw d++b]) (by simp[take,bJ,cT]))) ?_)
 ·exact⟨_,rfl,rfl,d,b,rfl,by simpa using c,by omega⟩
theorem p6:∀w,(typeInfo 282).run prog w=.ok t282 w:=typeInfo282
theorem yX(R:aw):oV prog R 282 (pQ sb) kW (QI sb vp e us vv vb vw) where
 ki L T h:=by obtain⟨a,b,rfl,d,g⟩:=h;exact g
 len L T h:=by
  obtain⟨a,b,rfl,d,g⟩:=h
  have j:RS (Rx R [hB sb vp e us vv vb vw a++b]) 2 db.enc a L:=d.rs λp c=>.inr (by simp[c])
  have c:PC (Rx R [hB sb vp e us vv vb vw a++b]) (pT sb) [vp,iN e,.string us,vv,vb,vw,a]:=PC.of (E:=206) (fr:=(0,0)) (.inr (by simp))
  refine(gi.ga (r:=a) (f:=92) (iG.val p6 (by kernel_rfl) inferInstance (by kernel_rfl) inferInstance (c.add 6)) (zR a L _ j)).mono λu n l=>?_
  obtain⟨rfl,rfl⟩:=l
  exact⟨rfl,a,b,rfl,d,g⟩
 less L T i k x y h hx hy:=by
  obtain⟨a,b,rfl,d,g⟩:=h
  have j:RS (Rx R [hB sb vp e us vv vb vw a++b]) 2 db.enc a L:=d.rs λp c=>.inr (by simp[c])
  have c:PC (Rx R [hB sb vp e us vv vb vw a++b]) (pT sb) [vp,iN e,.string us,vv,vb,vw,a]:=PC.of (E:=206) (fr:=(0,0)) (.inr (by simp))
  refine(gi.ga (r:=a) (f:=297) (iG.val p6 (by kernel_rfl) inferInstance (by kernel_rfl) inferInstance (c.add 6)) (Nk a L _ j i k x y hx hy)).mono λu n l=>?_
  obtain⟨rfl,rfl⟩:=l
  exact⟨rfl,a,b,rfl,d,g⟩
 swap L T i k h hi hk:=by
  obtain⟨a,b,rfl,d,g⟩:=h
  have c:PC (Rx R [hB sb vp e us vv vb vw a++b]) (pT sb) [vp,iN e,.string us,vv,vb,vw,a]:=PC.of (E:=206) (fr:=(0,0)) (.inr (by simp))
  refine⟨298,a,iG.val p6 (by kernel_rfl) inferInstance (by kernel_rfl) inferInstance (c.add 6),inferInstance,?_⟩
  refine Spec.jg (H':=[hB sb vp e us vv vb vw a,b]) (by simp)<|Spec.flat ((Spec.pq [1] (Nt a L b _ d i k hi hk)).mono λv H' q=>?_)
  obtain⟨s,rfl,m,rfl,o⟩:=q
  refine⟨_,hB sb vp e us vv vb vw a++m,rfl,?_,_,rfl,a,m,rfl,o,by rw[li];exact g⟩
  simp only[rest,bJ,List.flatten_append,afu,afv,ae5]
  exact afw
theorem Lr(L:List db)(T:ap)(h:QI sb vp e us vv vb vw L T)(x:db)(hl:L.length<1000000000)(R:aw):gi Tryz.prog 282 (pQ sb) "Push" [.iface 280 (.agg (db.enc x).toArray)] R T fun _ T'=>QI sb vp e us vv vb vw (L++[x]) T':=
 ⟨300,_,iG.ptr p6 (by kernel_rfl) inferInstance (by kernel_rfl),inferInstance,Nr sb vp e us vv vb vw L T h x hl R⟩
theorem Lq(L:List db)(x:db)(T:ap)(h:QI sb vp e us vv vb vw (L++[x]) T)(R:aw):gi Tryz.prog 282 (pQ sb) "Pop" [] R T fun v T'=>v=.iface 280 (.agg (db.enc x).toArray)∧QI sb vp e us vv vb vw L T':=
 ⟨299,_,iG.ptr p6 (by kernel_rfl) inferInstance (by kernel_rfl),inferInstance,Nq sb vp e us vv vb vw L x T h R⟩
end
def dE(b:Bool):List Value:=[.bool b]
structure QW(ps:List bB)(q:List Bool)(L:List db):Prop where
 p:L.Perm (items ps q)
 h:eS kW L L.length
section
variable(sb:Nat)(vp:Value)(e:Nat)(us:ByteArray)(vv vb vw:Value)
theorem zS(L:List db)(T k:ap)(h:QI sb vp e us vv vb vw L T)(ps:List aO)(R:aw)(B:RS R 8 aO.enc vp ps)(A:∀p∈ps,∀u∈p.enc,aC u=true)(q:List Bool)(d:OS 4 1 dE vw q k)(M:q.length=ps.length)(a:QW (ps.map aO.plain) q L)(i:Nat)(z:i<ps.length)(J:ps.length<1000000000)
  [O:One vp] [Q:One vv] [N:One vb] [S:One vw]:Spec prog 95 [pT sb,.int .i64 i] R [T,k] λ_ H'=>∃T' Tw' L',H'=[T',Tw']/\QI sb vp e us vv vb vw L' T'/\OS 4 1 dE vw (q.set i true) Tw'/\QW (ps.map aO.plain) (q.set i true) L':=by
 have l:=h
 obtain⟨o,r,rfl,H,I⟩:=h
 have a0:PS (hB sb vp e us vv vb vw o++r) (pT sb) [vp,iN e,.string us,vv,vb,vw,o]:=PS.of (E:=206) (fr:=(0,0)) (by simp)
 obtain⟨b,c⟩:∃b,q[i]? =some b:=⟨_,aQ (by omega)⟩
 obtain⟨p,g⟩:=cE z
 have K:cv p.enc:=⟨A p (aX g)⟩
 have j:q.getD i false=b:=by rw[ae9,c];rfl
 have m:fp (ps.map aO.plain) i=p.number:=by
  unfold fp
  rw[ae1,g]
  rfl
 obtain⟨U,F,vn,W,vu,a1,vl,V,n⟩:=p
 simp only at m
 have G:=JY a.p
 refine Spec.body func95 rfl results95 ntmps95 rfl<|.sr<|.mo rfl<|.nc rfl<|.fa rfl<|.lo rfl<|.mo rfl ?_
 refine .aI i d c (λZ=>?_)
 refine .lo rfl<|.q .not<|.zn<|.cond rfl (λf=>?_) λf=>?_
 have x:b=false:=by simpa using f
 subst x
 refine .sr<|.mo rfl<|.nc rfl<|.fa rfl<|.lo rfl<|.mo rfl ?_
 refine .aI i d c (λX=>?_)
 refine .cY i d c true (λD v=>?_)
 refine .zn<|.dd 16 mixed (by kernel_rfl) ?_
 conv=>arg 6;dsimp only[List.take]
 refine .mo rfl<|.nc rfl<|.fa rfl<|.q .makeInterface<|.mo rfl<|.nc rfl<|.fa rfl<|.fa rfl<|.lo rfl<|.mo rfl ?_
 refine .bZ i B g (λY=>?_)
 refine .fa rfl<|.lo rfl<|.mo rfl ?_
 refine .q .cD ?_
 refine .q (.makeInterface (ut:=⟨underlying280⟩))<|.nil<|.bQ (R:=R) (Lk (yX sb vp e us vv vb vw R) ti L _ _ (n,i) (Lr sb vp e us vv vb vw L _ l (n,i) (by omega) R) a.h) (λu T' C=>?_)
 obtain⟨rfl,L',t,w,s⟩:=C
 refine .nil<|fg _ .none rH ?_
 ·exact⟨_,_,L',rfl,t,v,⟨w.trans (by rw[<-m];exact(a.p.append_right _).trans (J0 (by omega) j)),s⟩⟩
 have y:b=true:=by simpa using f
 subst y
 refine .skip<|fg _ .none rH ?_
 ·exact⟨_,_,L,rfl,l,by rw[sE j (by omega)];exact d,by rw[sE j (by omega)];exact a⟩
theorem Np(L:List db)(T g:ap)(h:QI sb vp e us vv vb vw L T)(R:aw)(ps:List bB)(q:List Bool)(l:OS 4 1 dE vw q g)(c:QW ps q L)(x:db)(m:L[0]? =some x) [N:One vp] [O:One vv] [M:One vb] [Q:One vw]:
  Spec prog 93 [pT sb] R [T,g] λu H'=>∃T' Tw' L',H'=[T',Tw']/\u=iN x.2/\QI sb vp e us vv vb vw L' T'/\OS 4 1 dE vw (q.set x.2 false) Tw'/\QW ps (q.set x.2 false) L'/\lI ps q x.2/\x.2<q.length:=by
 have B:=h
 obtain⟨o,s,rfl,I,D⟩:=h
 have U:PS (hB sb vp e us vv vb vw o++s) (pT sb) [vp,iN e,.string us,vv,vb,vw,o]:=PS.of (E:=206) (fr:=(0,0)) (by simp)
 obtain⟨f,n,d⟩:=xw c.p c.h m
 obtain⟨a,i⟩:=x
 simp only at f n d
 obtain⟨b,k⟩:=cE d
 refine Spec.body func93 rfl results93 ntmps93 rfl<|.sr<|.ag rfl<|.z<|.mo rfl<|.nc rfl<|.fa rfl<|.q .makeInterface<|.bQ (R:=R) (Lh (yX sb vp e us vv vb vw R) ti L _ B (a,i) m c.h (λx=>.iface 280 (.agg (db.enc x).toArray)) (QI sb vp e us vv vb vw) (λL' T' w D=>Lq sb vp e us vv vb vw L' (a,i) T' w R)) (λu T' F=>?_)
 obtain⟨rfl,L',j,A,v⟩:=F
 have C:=j
 obtain⟨r,t,rfl,J,K⟩:=j
 have V:PS (hB sb vp e us vv vb vw r++t) (pT sb) [vp,iN e,.string us,vv,vb,vw,r]:=PS.of (E:=206) (fr:=(0,0)) (by simp)
 refine .q (.vB (ut:=⟨underlying280⟩)) ?_
 refine .bT (λH=>?_)
 refine .bP rfl rfl<|.zs<|.dd 7 mixed (by kernel_rfl) ?_
 conv=>arg 6;dsimp only[List.take]
 refine .mo rfl<|.nc rfl<|.fa rfl<|.lo rfl<|.fa rfl<|.lo rfl ?_
 refine .aI i l k (λS=>?_)
 refine .nil ?_
 skip
 refine .cY i l k false (λG y=>?_)
 refine .z<|.fa rfl<|.lo rfl<|.az rfl<|.ret (bm _ (.one (.tmp rfl)) (aT [1,1]) ?_)
 ·exact⟨_,_,L',rfl,rfl,C,y,⟨JX c.p d f.1 (by rw[<-n];exact A),v⟩,f,d⟩
theorem Ng(a:Value) [g:One a](v:List Bool)(j:Nat)(b:Bool)(c:v[j]? =some b)(R:aw)(d:RS R 1 dE vv v)(pc:PC R (pT sb) [vp,iN e,.string us,vv,vb,vw,a]) [f:One vp] [h:One vv]:
  Spec prog 152 [pT sb,.int .i64 j] R [] λu H'=>u=.bool b/\H'=[]:=by
 refine Spec.body func152 rfl results152 ntmps152 rfl<|.sr<|.ag rfl<|.z<|.mo rfl<|.nc rfl<|.fa rfl<|.lo rfl<|.mo rfl ?_
 refine .bZ j d c (λi=>?_)
 refine .lo rfl<|.az rfl<|.ret (aY rfl ?_)
 ·exact⟨rfl,rfl⟩
end
namespace LIM
theorem JV(f:FuncId)(g:List Value) [e:aP prog f](p:Nat->Bool)(v:Value)(l:List Nat)(R:aw)(h:RS R 1 dr v l)(C:∀s∈l,∀R',(∀b o,R b o->R' b o)->Spec prog f (g++[(λn:Nat=>iN n) s]) R' [] λu H'=>u=.bool (p s)/\H'=[]):
  Spec prog 192 [v,.func (.func f) g.toArray #[]] R [] λu H'=>(∃k:Int,u=.int .i64 k/\((∃(i:Nat) (x:Nat),l[i]? =some x/\p x=true/\(∀j y,j<i->l[j]? =some y->p y=false)/\k=i)\/((∀y∈l,p y=false)/\k= -1)))/\H'=[]:=by
 have H:=h.le
 refine Spec.body func192 rfl results192 ntmps192 rfl<|.sr<|.ag rfl<|.zs<|.sr<|.mo rfl<|.q (.cq h)<|.mo rfl<|.zn<|.block<|.loop (X:=Nat) (λi=>i<=l.length/\∀j z,j<i->l[j]? =some z->p z=false) (λi=>[(0,v),(1,.func (.func f) g.toArray #[]),(7,.int .i64 l.length),(8,iN i)]) (λ_=>[]) (λi=>l.length-i) 0 ⟨by omega,by omega⟩ kE.c.c.c.c rH ?_
 rintro i ⟨G,w⟩
 refine .sr<|.q .lss<|.zs<|.cond rfl (λm=>?_) λm=>?_
 have D:i<l.length:=by simp at m;omega
 obtain⟨z,d⟩:=cE D
 have F:=aX d
 refine .kn<|.seq<|.block<|.sr<|.mo rfl<|.ag rfl<|.z<|.mo rfl<|.mo rfl<|.mo rfl ?_
 refine .bZ i h d (λI=>?_)
 refine .lo rfl<|.fw (first:=g) (captured:=[]) (vs:=[(λn:Nat=>iN n) z]) (by rw[ae5];exact C z F _ λb o A=>.inl A) (λu E=>?_)
 subst E
 refine .zn<|.cond rfl (λr=>?_) λr=>?_
 refine .sr<|.mo rfl<|.az rfl<|.ret (bF (ba (dm (bF (ba (aY rfl ?_))))))
 ·exact⟨⟨_,rfl,.inl ⟨i,z,d,r,w,rfl⟩⟩,rfl⟩
 refine .skip<|bg<|aB<|.region<|.q (.inc (n:=i) (by omega))<|.mo rfl<|.nil ?_
 ·exact bu (i+1) ⟨by omega,λj y t a=>by
   rcases Nat.lt_or_ge j i with hh|hh
   ·exact w j y hh a
   ·obtain rfl:j=i:=by omega
    rw[d]at a;cases a;exact r⟩ (by omega) kE.c.c.c.c rH
 refine .exit<|br<|bz<|bw<|aB<|.sr<|.az rfl<|.ret (aY rfl ?_)
 ·have B:i=l.length:=by simp at m;omega
  subst B
  refine⟨⟨_,rfl,.inr ⟨λy a=>?_,rfl⟩⟩,rfl⟩
  obtain⟨j,t,rfl⟩:=List.mem_iff_getElem.1 a
  exact w j _ t (aQ t)
theorem vT(f:FuncId)(c:List Value) [e:aP prog f](p:Nat->Bool)(v:Value)(l:List Nat)(R:aw)(h:RS R 1 dr v l)(m:∀s∈l,∀R',(∀b o,R b o->R' b o)->Spec prog f (c++[(λn:Nat=>iN n) s]) R' [] λu H'=>u=.bool (p s)/\H'=[]):
  Spec prog 151 [v,.func (.func f) c.toArray #[]] R [] λu H'=>u=.bool (l.any p)/\H'=[]:=by
 refine Spec.body func151 rfl results151 ntmps151 rfl<|.sr<|.ag rfl<|.z<|.mo rfl<|.mo rfl<|.bj (JV f c p v l _ h.rx λs w R' g=>m s w R' λb o j=>g b o (.inl j)) (λu A=>?_)
 obtain⟨k,rfl,r⟩:=A
 have t:decide (0<=k)=l.any p:=by
  rcases r with⟨i,x,a,d,_,rfl⟩|⟨a,rfl⟩
  ·rw[List.any_eq_true.2 ⟨x,aX a,d⟩];simp
  ·rw[List.any_eq_false.2 λy B=>by rw[a y B];simp];rfl
 refine .q .geq<|.az rfl<|.ret (aY rfl ?_)
 ·exact⟨by simp only[t],rfl⟩
end LIM
theorem vF{l:List ByteArray}{s:ByteArray}:(l.any λx=>decide (x=s))=decide (s∈l):=by
 rw[Bool.eq_iff_iff,List.any_eq_true,decide_eq_true_eq]
 constructor
 ·rintro⟨x,a,h⟩
  exact bV h▸a
 ·exact λh=>⟨s,h,decide_eq_true rfl⟩
theorem vG{w:List Bool}{k j:Nat}(h:j<w.length):(w++List.replicate k false)[j]? =some (w.getD j false):=by
 rw[List.getElem?_append_left h,ae9,aQ h]
 rfl
theorem KP{p:bB}{us:ByteArray}{vf:Nat->Bool}{w:List Bool}{n:Nd}(c:p.nodes[w.length]? =some n)(d:(tree isWord p.nodes (w.length+1)).isSome=true)(f:∀e,e<w.length->w.getD e false=cS p us vf (e+1)):
  cS p us vf (w.length+1)=(if n.kind=1 then decide (us∈p.fb)||(p.leads.getD w.length []).any vf
   else if n.kind=2\/n.kind=3 then(p.leads.getD w.length []).any vf
   else if n.kind=4 then w.getD n.a.toNat false||w.getD n.b.toNat false
   else if n.kind=5 then w.getD n.a.toNat false&&w.getD n.b.toNat false
   else if n.kind=6 then w.getD n.a.toNat false&& !w.getD n.b.toNat false
   else false):=by
 have h:=Mt (t:=none) c d f w.length (by rw[zl];omega)
 rw[<-h]
 unfold oE
 rw[qR,aeU (by omega),aeV rfl,vF]
theorem KD{p:List Nd}{i:Nat}{n:Nd}(l:p[i]? =some n)(f:(tree isWord p (i+1)).isSome=true):n.kind=1\/n.kind=2\/n.kind=3\/((n.kind=4\/n.kind=5\/n.kind=6)/\0<=n.a/\n.a.toNat<i/\0<=n.b/\n.b.toNat<i):=by
 obtain⟨r,o⟩:=afe.1 f
 by_cases e:n.op=true
 ·obtain⟨b,x,y,c,g,d,q,s,_⟩:=nQ l e o
  obtain⟨t,_,u,_⟩:=hU _ _ c
  obtain⟨v,_,w,_⟩:=hU _ _ d
  unfold Nd.op at e
  simp only[Bool.or_eq_true,beq_iff_eq]at e
  right;right;right
  refine⟨by omega,by omega,by omega,by omega,by omega⟩
 ·have m:n.op=false:=by simpa using e
  rw[l8 l m]at f
  have j:n.leaf isWord=true:=by
   cases h:n.leaf isWord with
   |true=>rfl
   |false=>rw[h]at f;cases f
  unfold Nd.leaf at j
  simp only[aft]at j
  by_cases c:n.kind=1
  ·exact .inl c
  ·by_cases g:n.kind=2
   ·exact .inr (.inl g)
   ·by_cases d:n.kind=3
    ·exact .inr (.inr (.inl d))
    ·exfalso
     have k:=j.2
     rw[aeU c,aeU g,aeU d]at k
     cases k
theorem Ns(sb:Nat)(vp:Value)(e:Nat)(us:ByteArray)(vv vb vw vq:Value) [ip:One vp] [iv:One vv] [iq:One vq](p:aO)(v:List Bool)(R:aw)(hp:p.is R)(hv:RS R 1 dE vv v)(pc:PC R (pT sb) [vp,iN e,.string us,vv,vb,vw,vq])
  (c3:p.ll.length=p.nodes.length)(c5:p.nodes.length<=1000000)(F:∀q∈p.ll,∀j∈q.2,j<v.length)(N:∀i,i<p.nodes.length->(tree isWord p.nodes (i+1)).isSome=true):
  Spec prog 94 [pT sb,.agg p.enc.toArray] R [] λu H'=>u=.bool (cS p.plain us (λj=>v.getD j false) p.nodes.length)/\H'=[]:=by
 have e0:cv p.enc:=⟨hp.dv⟩
 obtain⟨Z,W,U,d,S,a0,Q,ll,nm⟩:=p
 have a4:RS R 5 Nd.enc U d:=hp.n
 have c9:RS R 1 cO S a0:=hp.u
 have b0:RS R 1 ee Q ll:=hp.l.rs
 have O:=hp.l.all
 simp only at c3 c5 F N O
 have d9:=a4.le
 obtain⟨vf,J⟩:∃vf:Nat->Bool,vf=λj=>v.getD j false:=⟨_,rfl⟩
 rw[<-J]
 have I:=λ(w:List Bool) (n:Nd) (Y:d[w.length]? =some n) h2 h3=>KP (p:=aO.plain ⟨Z,W,U,d,S,a0,Q,ll,nm⟩) (us:=us) (vf:=vf) (w:=w) (n:=n) Y h2 h3
 have c4:cS (aO.plain ⟨Z,W,U,d,S,a0,Q,ll,nm⟩) us vf 0=false:=by rw[cS]
 have c7:(aO.plain ⟨Z,W,U,d,S,a0,Q,ll,nm⟩).nodes=d:=rfl
 have c8:(aO.plain ⟨Z,W,U,d,S,a0,Q,ll,nm⟩).fb=a0:=rfl
 have c6:∀i q,ll[i]? =some q->(aO.plain ⟨Z,W,U,d,S,a0,Q,ll,nm⟩).leads.getD i []=q.2:=λi q hq=>by
  show((ll.map (·.2)).getD i [])=q.2
  rw[ae9,ae1,hq];rfl
 generalize aO.plain ⟨Z,W,U,d,S,a0,Q,ll,nm⟩=pl at *
 subst c8
 rw[c7]at I
 refine Spec.body func94 rfl results94 ntmps94 rfl ?_
 refine .sr ?_
 refine .cm rfl (λb3=>?_)
 refine .ag rfl<|.z<|.fa rfl<|.lo rfl<|.q (.cq a4) ?_
 refine .makeSlice (enc:=dE) d.length false rfl rfl (by decide) (by simp[dE,aC]) rfl rfl (by omega) (by omega) (λa5 b5 b6=>?_)
 refine .ag rfl<|.zs<|.sr<|.fa rfl<|.lo rfl<|.q (.cq a4) ?_
 refine .mo rfl<|.zn<|.block ?_
 refine .cX [(0,_),(3,_),(5,_),(13,_),(14,_)] (X:=Nat×List Bool×ap) (λy=>y.1<=d.length/\y.2.1.length=y.1/\OS 4 1 dE (.slice (some ⟨a5,0,none⟩) d.length d.length) (y.2.1++List.replicate (d.length-y.1) false) y.2.2/\∀e,e<y.2.1.length->y.2.1.getD e false=cS pl us vf (e+1)) (λy E=>(15,iN y.1)::E) (λy G=>y.2.2::G) (λy=>d.length-y.1) (0,[],b5) ⟨aeX _,rfl,by simp only[aeY,Nat.sub_zero];exact b6,λe he=>absurd he (by simp)⟩ kE.c.c.c.c.c.c rH ?_
 rintro⟨i,w,T⟩ ⟨hi,C,f,M⟩
 simp only at hi C f M⊢
 refine .sr<|.q .lss<|.zs ?_
 refine .cond rfl (λY=>?_) λY=>?_
 have a3:i<d.length:=cV Y
 obtain⟨n,hn⟩:=cE a3
 obtain⟨⟨vr,a2⟩,a1⟩:∃q,ll[i]? =some q:=⟨_,aQ (by omega)⟩
 have b4:=aX a1
 have hr:RS R 1 dr vr a2:=O _ b4
 have H:=F _ b4
 simp only at H
 obtain⟨k,hk⟩:∃k,d.length-i=k+1:=⟨d.length-i-1,by omega⟩
 have c1:d.length-(i+1)=k:=by omega
 rw[hk]at f
 have f1:PC R (eE Q (i*1)) (ee (vr,a2)):=b0.pc a1
 have b1:=KD hn (N i a3)
 have m:=I w n (by rw[C];exact hn) (by rw[C];exact N i a3) M
 rw[C,c6 i _ a1]at m
 simp only at m
 have r:(w++List.replicate (k+1) false)[i]? =some false:=by
  rw[List.getElem?_append_right (by omega),C,Nat.sub_self];rfl
 have D:∀j∈a2,∀V,(∀b o,R b o->V b o)->Spec prog 152 ([pT sb]++[iN j]) V [] λu H'=>u=.bool (vf j)/\H'=[]:=λj hj V hR=>by
  obtain⟨b,hb⟩:∃b,v[j]? =some b:=⟨_,aQ (H j hj)⟩
  have b9:vf j=b:=by rw[J];simp only;rw[ae9,hb];rfl
  rw[b9]
  exact Ng sb vp e us vv vb vw vq v j b hb V (hv.mono hR) (pc.mono hR)
 refine .kn<|.seq<|.block<|.sr<|.mo rfl ?_
 refine .bZ i a4 hn (λe3=>?_)
 refine .q (.aU rfl) ?_
 refine .bT (λb7=>?_)
 refine .ag rfl<|.bP rfl rfl<|.z<|.fa rfl<|.lo rfl<|.zn ?_
 refine bq.dI [(0,_),(3,_),(5,_),(13,_),(14,_),(15,_)] kE.c.c.c.c.c.c (X:=ap) (λT=>OS 4 1 dE (.slice (some ⟨a5,0,none⟩) d.length d.length) ((w++[cS pl us vf (i+1)])++List.replicate k false) T) (λ_ E=>E) (λT=>[T,bl b3 (aO.enc ⟨Z,W,U,d,S,pl.fb,Q,ll,nm⟩) 95]) ?_ ?_
 refine .block<|.sr<|.q .cr<|.az rfl ?_
 refine .cond rfl (λh2=>?_) λh2=>?_
 have a8:n.kind=1:=by simpa using h2
 rw[aeV a8]at m
 refine .cG [20] mixed ?_
 refine .tO 0 rfl .move<|.tO 1 rfl .move<|.tO 2 rfl (.fieldAddr rfl)<|.tO 3 rfl (.bU rfl)<|.tO 4 rfl .move<|.tO 5 rfl (.nilCheck rfl)<|.tO 6 rfl (.fieldAddr rfl)<|.tO 7 rfl (.bU rfl) ?_
 refine .sT 8 rfl ?_
 refine .bj (MP S pl.fb us _ c9.rx) (λu hu=>?_)
 subst hu
 refine .nil (Next.sub ?_)
 refine .tO 9 rfl .move ?_
 refine RA.split (t:=33) rfl (λh=>?_) (λh=>?_)
 refine .nN 10 rfl rfl h rfl (by kernel_rfl) ?_
 refine .nN 11 rfl rfl h rfl (by kernel_rfl) ?_
 refine .nN 12 rfl rfl h rfl (by kernel_rfl) ?_
 refine .nN 13 rfl rfl h rfl (by kernel_rfl) ?_
 refine .nN 14 rfl rfl h rfl (by kernel_rfl) ?_
 refine .nN 15 rfl rfl h rfl (by kernel_rfl) ?_
 refine .nN 16 rfl rfl h rfl (by kernel_rfl) ?_
 refine .sT 17 rfl ?_
 refine .gF h ?_
 refine .nil (Next.sub ?_)
 refine .tO 18 rfl (.bx h) ?_
 refine RA.aI 19 rfl i f r rfl rfl rfl (by kernel_rfl) (λd2=>?_)
 refine .sT 20 rfl ?_
 refine .cY i f r _ (λs g=>?_)
 rw[iQ C]at g
 refine .nil (Next.mod rfl ?_)
 refine RA.nil (by kernel_rfl) ?_
 refine bg ?_
 exact aL s (by
  clear I D J M O F H N
  rw[m]
  first
   |exact g
   |(simp_all;done)) kE.c.c.c.c.c.c (aT [1,1])
 refine .nO 10 rfl rfl h (.fieldAddr rfl) (by kernel_rfl) ?_
 refine .nO 11 rfl rfl h (.bU rfl) (by kernel_rfl) ?_
 refine .nO 12 rfl rfl h .move (by kernel_rfl) ?_
 refine .nO 13 rfl rfl h (.bZ i b0 a1 rfl rfl rfl) (by kernel_rfl) ?_
 refine .nO 14 rfl rfl h (.bU rfl) (by kernel_rfl) ?_
 refine .nO 15 rfl rfl h .move (by kernel_rfl) ?_
 refine .nO 16 rfl rfl h .makeFunc (by kernel_rfl) ?_
 refine .sT 17 rfl ?_
 refine .gT h ?_
 refine .bj (LIM.vT 152 [pT sb] vf vr a2 _ hr.rx λj hj V hR=>D j hj V λb o hb=>hR b o (.inl hb)) (λu hu=>?_)
 subst hu
 refine .nil (Next.sub ?_)
 refine .tO 18 rfl (.bs h) ?_
 refine RA.aI 19 rfl i f r rfl rfl rfl (by kernel_rfl) (λd2=>?_)
 refine .sT 20 rfl ?_
 refine .cY i f r _ (λs g=>?_)
 rw[iQ C]at g
 refine .nil (Next.mod rfl ?_)
 refine RA.nil (by kernel_rfl) ?_
 refine bg ?_
 exact aL s (by
  clear I D J M O F H N
  rw[m]
  first
   |exact g
   |(simp_all;done)) kE.c.c.c.c.c.c (aT [1,1])
 have a8:n.kind≠1:=by simpa using h2
 rw[aeU a8]at m
 refine .seq<|.sr<|.q .cr<|.az rfl ?_
 refine bq.dI [(0,_),(3,_),(5,_),(6,_),(7,_),(13,_),(14,_),(15,_),(21,_)] kE.c.c.c.c.c.c.c.c.c (X:=Unit) (λ_=>True) (λ_ E=>(44,.bool (decide (n.kind=2\/n.kind=3)))::E) (λ_=>[bl b7 n.enc 199,T,bl b3 (aO.enc ⟨Z,W,U,d,S,pl.fb,Q,ll,nm⟩) 95]) ?_ ?_
 refine .cond rfl (λh3=>?_) λh3=>?_
 refine .skip ?_
 ·exact aL () ae6 (kE.c.c.c.c.c.c.c.c.c.dD rfl (by clear m I D F H J b1;grind)) rH
 refine .region<|.q .cr<|.ag rfl<|.nil ?_
 ·exact aL () ae6 (kE.c.c.c.c.c.c.c.c.c.dD rfl (by clear m I D F H J b1;grind)) rH
 intro x hx
 refine aB ?_
 refine .cond rfl (λh4=>?_) λh4=>?_
 have a9:n.kind=2\/n.kind=3:=bV h4
 rw[aeV a9]at m
 refine .region<|.mo rfl<|.mo rfl<|.fa rfl<|.lo rfl<|.mo rfl ?_
 refine .bZ i b0 a1 (λe4=>?_)
 refine .lo rfl<|.mo rfl<|.q .makeFunc ?_
 refine .bj (LIM.vT 152 [pT sb] vf vr a2 _ hr.rx λj hj V hR=>D j hj V λb o hb=>hR b o (.inl hb)) (λu hu=>?_)
 subst hu
 refine .aI i f r (λe5=>?_)
 refine .cY i f r _ (λs g=>?_)
 rw[iQ C]at g
 refine .nil<|bg ?_
 exact aL s (by
  clear I D J M O F H N
  rw[m]
  first
   |exact g
   |(simp_all;done)) kE.c.c.c.c.c.c (aT [1,1])
 have a9:¬(n.kind=2\/n.kind=3):=bK h4
 rw[aeU a9]at m
 have b8:0<=n.a/\n.a.toNat<i/\0<=n.b/\n.b.toNat<i:=by omega
 obtain⟨d5,d6,d7,d8⟩:=b8
 have a6:=vG (w:=w) (k:=k+1) (j:=n.a.toNat) (by omega)
 have a7:=vG (w:=w) (k:=k+1) (j:=n.b.toNat) (by omega)
 refine .sr<|.q .cr<|.az rfl ?_
 refine .cond rfl (λh5=>?_) λh5=>?_
 refine .region<|.mo rfl<|.mo rfl<|.mo rfl<|.fa rfl<|.lo rfl ?_
 refine .aI n.a.toNat f a6 (λe6=>?_) rfl rfl (by omega)
 refine .lo rfl<|.mo rfl ?_
 refine .split (t:=67) rfl (λK=>?_) (λK=>?_)
 refine .gF K<|.gF K<|.gF K<|.gF K<|.gF K<|.q (.bx K) ?_
 refine .aI i f r (λd3=>?_)
 refine .cY i f r _ (λs g=>?_)
 rw[iQ C]at g
 refine .nil<|bg ?_
 exact aL s (by
  clear I D J M O F H N
  rw[m]
  first
   |exact g
   |(simp_all;done)) kE.c.c.c.c.c.c (aT [1,1])
 refine .gT K<|.mo rfl<|.gT K<|.fa rfl<|.gT K<|.lo rfl<|.gT K ?_
 refine .aI n.b.toNat f a7 (λe7=>?_) rfl rfl (by omega)
 refine .gT K<|.lo rfl<|.q (.bs K) ?_
 refine .aI i f r (λd3=>?_)
 refine .cY i f r _ (λs g=>?_)
 rw[iQ C]at g
 refine .nil<|bg ?_
 exact aL s (by
  clear I D J M O F H N
  rw[m]
  first
   |exact g
   |(simp_all;done)) kE.c.c.c.c.c.c (aT [1,1])
 refine .sr<|.q .cr<|.az rfl ?_
 refine .cond rfl (λh6=>?_) λh6=>?_
 refine .region<|.mo rfl<|.mo rfl<|.mo rfl<|.fa rfl<|.lo rfl ?_
 refine .aI n.a.toNat f a6 (λe8=>?_) rfl rfl (by omega)
 refine .lo rfl<|.mo rfl ?_
 refine .split (t:=84) rfl (λL=>?_) (λL=>?_)
 refine .gT L<|.mo rfl<|.gT L<|.fa rfl<|.gT L<|.lo rfl<|.gT L ?_
 refine .aI n.b.toNat f a7 (λe9=>?_) rfl rfl (by omega)
 refine .gT L<|.lo rfl<|.q (.bx L) ?_
 refine .aI i f r (λd4=>?_)
 refine .cY i f r _ (λs g=>?_)
 rw[iQ C]at g
 refine .nil<|bg ?_
 exact aL s (by
  clear I D J M O F H N
  rw[m]
  first
   |exact g
   |(simp_all;done)) kE.c.c.c.c.c.c (aT [1,1])
 refine .gF L<|.gF L<|.gF L<|.gF L<|.gF L<|.q (.bs L) ?_
 refine .aI i f r (λd4=>?_)
 refine .cY i f r _ (λs g=>?_)
 rw[iQ C]at g
 refine .nil<|bg ?_
 exact aL s (by
  clear I D J M O F H N
  rw[m]
  first
   |exact g
   |(simp_all;done)) kE.c.c.c.c.c.c (aT [1,1])
 refine .sr<|.q .cr<|.az rfl ?_
 refine .cond rfl (λh7=>?_) λh7=>?_
 refine .region<|.mo rfl<|.mo rfl<|.mo rfl<|.fa rfl<|.lo rfl ?_
 refine .aI n.a.toNat f a6 (λf0=>?_) rfl rfl (by omega)
 refine .lo rfl<|.mo rfl ?_
 refine .split (t:=101) rfl (λB=>?_) (λB=>?_)
 refine .gT B<|.mo rfl<|.gT B<|.fa rfl<|.gT B<|.lo rfl<|.gT B ?_
 refine .aI n.b.toNat f a7 (λe1=>?_) rfl rfl (by omega)
 refine .gT B<|.lo rfl<|.gT B<|.q .not<|.q (.bx B) ?_
 refine .aI i f r (λd1=>?_)
 refine .cY i f r _ (λs g=>?_)
 rw[iQ C]at g
 refine .nil<|bg ?_
 exact aL s (by
  clear I D J M O F H N
  rw[m]
  first
   |exact g
   |(simp_all;done)) kE.c.c.c.c.c.c (aT [1,1])
 refine .gF B<|.gF B<|.gF B<|.gF B<|.gF B<|.gF B<|.q (.bs B) ?_
 refine .aI i f r (λd1=>?_)
 refine .cY i f r _ (λs g=>?_)
 rw[iQ C]at g
 refine .nil<|bg ?_
 exact aL s (by
  clear I D J M O F H N
  rw[m]
  first
   |exact g
   |(simp_all;done)) kE.c.c.c.c.c.c (aT [1,1])
 ·exfalso
  clear m I D F H J
  simp_all
 intro x hx
 have d0:OS 4 1 dE (.slice (some ⟨a5,0,none⟩) d.length d.length) ((w++[cS pl us vf (i+1)])++List.replicate k false) x:=hx
 refine bg<|aB<|.region ?_
 refine .ia (i+1) .add ?_
 refine .mo rfl<|.nil ?_
 ·exact bu (i+1,w++[cS pl us vf (i+1)],x) ⟨a3,by simp[C],by simp only;rw[c1];exact d0,λe he=>by
   simp only at he⊢
   rw[aff,aeW]at he
   rw[qR]
   split
   ·exact M e (by assumption)
   ·rw[aeV (by omega),show e=i by omega]⟩ (by simp only;omega) kE.c.c.c.c.c.c rH
 have c0:i=d.length:=by have:=bK Y;omega
 subst c0
 rw[Nat.sub_self]at f
 simp only[List.replicate_zero,ae5]at f
 refine .exit<|br<|bz<|bw<|aB<|.sr<|.mo rfl<|.q (.fz f) ?_
 refine .q .gtr<|.mo rfl ?_
 refine .split (t:=114) rfl (λA=>?_) (λA=>?_)
 have b2:0<d.length:=by have:=bV A;omega
 have c2:w[d.length-1]? =some (cS pl us vf d.length):=by
  have Y:=M (d.length-1) (by omega)
  rw[ae9,aQ (by omega),afb,show d.length-1+1=d.length by omega]at Y
  rw[aQ (by omega),Y]
 refine .gT A<|.mo rfl<|.gT A<|.mo rfl<|.gT A<|.q (.fz f) ?_
 refine .gT A ?_
 refine .q (.i64 (((d.length-1:Nat)):Int) .sub ⟨by omega,by omega,by omega⟩) ?_
 refine .gT A ?_
 refine .aI (d.length-1) f c2 (λe2=>?_)
 refine .gT A<|.lo rfl<|.q (.bx A) ?_
 refine .az rfl ?_
 refine .ret (aY rfl ?_)
 ·exact⟨rfl,rfl⟩
 have b2:d.length=0:=by have:=bK A;omega
 refine .gF A<|.gF A<|.gF A<|.gF A<|.gF A<|.gF A<|.q (.bs A) ?_
 refine .az rfl ?_
 refine .ret (aY rfl ?_)
 ·exact⟨by rw[b2,c4],rfl⟩
def jJ(ps:List bB):List Bool:=ps.map (·.found)
def qi(ps:List bB)(i:Nat):List Bool:=(jJ ps).take i++List.replicate (ps.length-i) false
theorem yU{ps:List bB}{i:Nat}(h:i<=ps.length):(qi ps i).length=ps.length:=by unfold qi jJ;simp;omega
theorem yV{ps:List bB}{i:Nat}{p:bB}(h:ps[i]? =some p):qi ps (i+1)=(qi ps i).set i p.found:=by
 have c:=(afd.1 h).1
 obtain⟨k,b⟩:∃k,ps.length-i=k+1:=⟨ps.length-i-1,by omega⟩
 have a:(jJ ps)[i]? =some p.found:=by unfold jJ;rw[ae1,h];rfl
 unfold qi
 rw[b,iQ (by unfold jJ;simp;omega),fD a,show ps.length-(i+1)=k by omega]
theorem Ln{ps:List bB}{i:Nat}{p:bB}(h:ps[i]? =some p)(a:p.found=false):qi ps (i+1)=qi ps i:=by
 have b:=(afd.1 h).1
 rw[yV h,a]
 refine sE ?_ (by rw[yU (by omega)];exact b)
 unfold qi
 rw[ae9,List.getElem?_append_right (by simp[jJ];omega),List.getElem?_replicate]
 split<;>rfl
theorem Lm(ps:List bB):qi ps ps.length=jJ ps:=by
 unfold qi jJ
 rw[List.take_of_length_le (by simp),Nat.sub_self,List.replicate_zero,ae5]
theorem yW(ps:List bB):qi ps 0=List.replicate ps.length false:=by unfold qi;simp
theorem Ls(ps:List bB):QW ps (qi ps 0) []:=⟨by
 have h:items ps (qi ps 0)=[]:=by
  unfold items
  rw[List.map_eq_nil_iff]
  cases hq:iz (qi ps 0)with
  |nil=>rfl
  |cons x l=>
   have:=ff.1 (show x∈iz (qi ps 0) by rw[hq];exact List.mem_cons_self)
   rw[yW,xo]at this
   cases this
 rw[h],λk b a=>absurd a (by simp)⟩
theorem Ba(ps:List bB)(i:Nat)(a:List Nat)(j:Nat):(fT ps i a j).length<=i+1:=by
 have b:(kL ps i j).length<=i:=by
  unfold kL
  exact ae0 (ae8 _ _) (by simp)
 unfold fT
 rw[aff]
 split
 ·rw[aeW];omega
 ·rw[afc];omega
theorem zi{a:List gD}{n:Nat}{f:Nat->List Nat}(h:a.map (·.1.2)=(List.range n).map f){k:Nat}(e:k<n):∃v T,a[k]? =some ((v,f k),T):=by
 have b:=congrArg (λl=>l[k]?) h
 simp only[ae1,List.getElem?_range e,afm]at b
 obtain⟨⟨⟨v,r⟩,T⟩,d,c⟩:=Option.map_eq_some_iff.1 b
 simp only at c
 subst c
 exact⟨v,T,d⟩
theorem Mo{a:List gD}{n:Nat}{f g:Nat->List Nat}(h:a.map (·.1.2)=(List.range n).map f){k:Nat}{v:Value}{r:List Nat}{T:ap}(b:∀j,j<n->g j=if j=k then r else f j)(c:k<n):(a.set k ((v,r),T)).map (·.1.2)=(List.range n).map g:=by
 rw[List.map_set,h]
 refine List.ext_getElem? λj=>?_
 rw[List.getElem?_set]
 rcases Nat.lt_or_ge j n with hj|hj
 ·rw[ae1,ae1,List.getElem?_range hj,afm,afm,b j hj]
  by_cases e:k=j
  ·subst e;simp[c]
  ·rw[aeU e,aeU λh=>e h.symm]
 ·rw[aeU (by omega),List.getElem?_eq_none (by simpa using hj),List.getElem?_eq_none (by simpa using hj)]
theorem Bc(ps:List bB):(λj=>fT ps 0 [] j)=λ_=>[]:=by
 funext j
 unfold fT kL
 simp
theorem A7(ps:List bB):(λj=>fT ps ps.length [] j)=eU ps:=by
 funext j
 unfold fT
 rw[AY]
 simp
theorem JN(n:Nat):((List.replicate n ((((sZ,[]),[]):gD))).flatMap (·.2))=[]:=by
 rw[List.flatMap_eq_nil_iff]
 intro x a
 rw[(List.mem_replicate.1 a).2]
theorem Nn(s:Value)(e:Nat)(us:ByteArray)(ps:List aO)(R:aw)(Q:RS R 8 aO.enc s ps)(c2:∀p∈ps,p.is R)(h0:ps.length<=2000000)(f9:∀p∈ps,p.ll.length<=1000000)(f8:∀p∈ps,∀q∈p.ll,q.2.length<=1000000/\∀j∈q.2,j<ps.length):
  Spec prog 91 [.agg [s,iN e].toArray,.string us] R [] λu H'=>∃sb vv vb vw L LL Ta Tw Tv To,H'=[Ta,Tw,Tv,To,LL.flatMap (·.2)]/\u=pT sb/\One vv/\One vb/\One vw/\QI sb s e us vv vb vw L Ta/\QW (ps.map aO.plain) (jJ (ps.map aO.plain)) L/\OS 4 1 dE vw (jJ (ps.map aO.plain)) Tw/\OS 4 1 dE vv (List.replicate ps.length false) Tv/\nV vb LL To/\LL.map (·.1.2)=(List.range ps.length).map (eU (ps.map aO.plain)):=by
 have i0:=Q.aC
 have g9:=Q.le
 have g3:∀p∈ps,∀u∈p.enc,aC u=true:=λp K=>(c2 p K).dv
 have d1:∀(i:Nat) (p:aO),ps[i]? =some p->(ps.map aO.plain)[i]? =some p.plain:=λi p K=>by rw[ae1,K];rfl
 obtain⟨P,Y⟩:∃P,P=ps.map aO.plain:=⟨_,rfl⟩
 have a3:P.length=ps.length:=by rw[Y,ae3]
 rw[<-Y]
 rw[<-Y]at d1
 refine Spec.body func91 rfl results91 ntmps91 rfl ?_
 refine .sr ?_
 refine .cm rfl (λM=>?_)
 refine .ag rfl<|.z<|.fa rfl<|.lo rfl<|.q (.cq Q) ?_
 refine .ag rfl<|.zs ?_
 refine bq.dI [(2,_)] kE.c (X:=(Nat×Nat×Nat×Nat)×(ap×ap×ap)) (λy=>OS 4 1 dE (.slice (some ⟨y.1.2.1,0,none⟩) ps.length ps.length) (List.replicate ps.length false) y.2.1/\OS 182 1 ee (.slice (some ⟨y.1.2.2.1,0,none⟩) ps.length ps.length) (List.replicate ps.length ((sZ,[]):fF)) y.2.2.1/\OS 4 1 dE (.slice (some ⟨y.1.2.2.2,0,none⟩) ps.length ps.length) (List.replicate ps.length false) y.2.2.2) (λy E=>(6,.pointer (some ⟨y.1.1,0,none⟩))::E) (λy=>[y.2.2.1,[],hB y.1.1 s e us (.slice (some ⟨y.1.2.1,0,none⟩) ps.length ps.length) (.slice (some ⟨y.1.2.2.1,0,none⟩) ps.length ps.length) (.slice (some ⟨y.1.2.2.2,0,none⟩) ps.length ps.length) (sZ),y.2.2.2,y.2.1,bl M [s,iN e] 81]) ?_ ?_
 refine .cG [] mixed ?_
 refine .tO 0 rfl (.aU rfl)<|.tO 1 rfl .move<|.tO 2 rfl .move<|.tO 4 rfl .move<|.tO 6 rfl .move ?_
 refine RA.Nx 3 5 7 rfl rfl rfl (by kernel_rfl) rfl ?_ ?_ ?_
 refine .makeSlice (enc:=dE) ps.length false rfl rfl (by decide) (by simp[dE,aC]) rfl rfl (by omega) (by omega) (λB Tv n=>?_)
 refine .nil (Next.sub ?_)
 refine RA.hG 5 7 rfl rfl (by kernel_rfl) rfl ?_ ?_
 refine .makeSlice (enc:=ee) ps.length ((sZ,[]):fF) rfl rfl (by decide) (by simp[ee,aC]) rfl rfl (by omega) (by omega) (λA w f=>?_)
 refine .nil (Next.sub ?_)
 refine .sT 7 rfl ?_
 refine .makeSlice (enc:=dE) ps.length false rfl rfl (by decide) (by simp[dE,aC]) rfl rfl (by omega) (by omega) (λC Tw g=>?_)
 refine .nil (Next.sub ?_)
 refine .tO 8 rfl .cD ?_
 refine .sT 9 rfl ?_
 refine .cm rfl (λF=>?_)
 refine .nil (Next.sub ?_)
 refine .tO 10 rfl .assign ?_
 refine RA.nil (by kernel_rfl) ?_
 ·exact aL ((F,B,A,C),(Tv,w,Tw)) ⟨n,f,g⟩ kE.c.c (bo.gb.trans (by
   first
    |exact(aT [3,0,0,0,0,0])
    |exact(aT [3,0,0,1,0,0])
    |exact(aT [2,0,0,0,0,0])
    |exact(aT [2,0,0,1,0,0])
    |exact(aT [4,0,0,0,0,0])
    |exact(aT [4,0,0,1,0,0])))
 refine .makeSlice (enc:=dE) ps.length false rfl rfl (by decide) (by simp[dE,aC]) rfl rfl (by omega) (by omega) (λC Tw g=>?_)
 refine .nil (Next.sub ?_)
 refine .sT 5 rfl ?_
 refine .makeSlice (enc:=ee) ps.length ((sZ,[]):fF) rfl rfl (by decide) (by simp[ee,aC]) rfl rfl (by omega) (by omega) (λA w f=>?_)
 refine .nil (Next.sub ?_)
 refine .tO 8 rfl .cD ?_
 refine .sT 9 rfl ?_
 refine .cm rfl (λF=>?_)
 refine .nil (Next.sub ?_)
 refine .tO 10 rfl .assign ?_
 refine RA.nil (by kernel_rfl) ?_
 ·exact aL ((F,B,A,C),(Tv,w,Tw)) ⟨n,f,g⟩ kE.c.c (bo.gb.trans (by
   first
    |exact(aT [3,0,0,0,0,0])
    |exact(aT [3,0,0,1,0,0])
    |exact(aT [2,0,0,0,0,0])
    |exact(aT [2,0,0,1,0,0])
    |exact(aT [4,0,0,0,0,0])
    |exact(aT [4,0,0,1,0,0])))
 refine .makeSlice (enc:=ee) ps.length ((sZ,[]):fF) rfl rfl (by decide) (by simp[ee,aC]) rfl rfl (by omega) (by omega) (λA w f=>?_)
 refine .nil (Next.sub ?_)
 refine RA.hG 3 7 rfl rfl (by kernel_rfl) rfl ?_ ?_
 refine .makeSlice (enc:=dE) ps.length false rfl rfl (by decide) (by simp[dE,aC]) rfl rfl (by omega) (by omega) (λB Tv n=>?_)
 refine .nil (Next.sub ?_)
 refine .sT 7 rfl ?_
 refine .makeSlice (enc:=dE) ps.length false rfl rfl (by decide) (by simp[dE,aC]) rfl rfl (by omega) (by omega) (λC Tw g=>?_)
 refine .nil (Next.sub ?_)
 refine .tO 8 rfl .cD ?_
 refine .sT 9 rfl ?_
 refine .cm rfl (λF=>?_)
 refine .nil (Next.sub ?_)
 refine .tO 10 rfl .assign ?_
 refine RA.nil (by kernel_rfl) ?_
 ·exact aL ((F,B,A,C),(Tv,w,Tw)) ⟨n,f,g⟩ kE.c.c (bo.gb.trans (by
   first
    |exact(aT [3,0,0,0,0,0])
    |exact(aT [3,0,0,1,0,0])
    |exact(aT [2,0,0,0,0,0])
    |exact(aT [2,0,0,1,0,0])
    |exact(aT [4,0,0,0,0,0])
    |exact(aT [4,0,0,1,0,0])))
 refine .makeSlice (enc:=dE) ps.length false rfl rfl (by decide) (by simp[dE,aC]) rfl rfl (by omega) (by omega) (λC Tw g=>?_)
 refine .nil (Next.sub ?_)
 refine .sT 3 rfl ?_
 refine .makeSlice (enc:=dE) ps.length false rfl rfl (by decide) (by simp[dE,aC]) rfl rfl (by omega) (by omega) (λB Tv n=>?_)
 refine .nil (Next.sub ?_)
 refine .tO 8 rfl .cD ?_
 refine .sT 9 rfl ?_
 refine .cm rfl (λF=>?_)
 refine .nil (Next.sub ?_)
 refine .tO 10 rfl .assign ?_
 refine RA.nil (by kernel_rfl) ?_
 ·exact aL ((F,B,A,C),(Tv,w,Tw)) ⟨n,f,g⟩ kE.c.c (bo.gb.trans (by
   first
    |exact(aT [3,0,0,0,0,0])
    |exact(aT [3,0,0,1,0,0])
    |exact(aT [2,0,0,0,0,0])
    |exact(aT [2,0,0,1,0,0])
    |exact(aT [4,0,0,0,0,0])
    |exact(aT [4,0,0,1,0,0])))
 refine .makeSlice (enc:=dE) ps.length false rfl rfl (by decide) (by simp[dE,aC]) rfl rfl (by omega) (by omega) (λC Tw g=>?_)
 refine .nil (Next.sub ?_)
 refine RA.hG 3 5 rfl rfl (by kernel_rfl) rfl ?_ ?_
 refine .makeSlice (enc:=dE) ps.length false rfl rfl (by decide) (by simp[dE,aC]) rfl rfl (by omega) (by omega) (λB Tv n=>?_)
 refine .nil (Next.sub ?_)
 refine .sT 5 rfl ?_
 refine .makeSlice (enc:=ee) ps.length ((sZ,[]):fF) rfl rfl (by decide) (by simp[ee,aC]) rfl rfl (by omega) (by omega) (λA w f=>?_)
 refine .nil (Next.sub ?_)
 refine .tO 8 rfl .cD ?_
 refine .sT 9 rfl ?_
 refine .cm rfl (λF=>?_)
 refine .nil (Next.sub ?_)
 refine .tO 10 rfl .assign ?_
 refine RA.nil (by kernel_rfl) ?_
 ·exact aL ((F,B,A,C),(Tv,w,Tw)) ⟨n,f,g⟩ kE.c.c (bo.gb.trans (by
   first
    |exact(aT [3,0,0,0,0,0])
    |exact(aT [3,0,0,1,0,0])
    |exact(aT [2,0,0,0,0,0])
    |exact(aT [2,0,0,1,0,0])
    |exact(aT [4,0,0,0,0,0])
    |exact(aT [4,0,0,1,0,0])))
 refine .makeSlice (enc:=ee) ps.length ((sZ,[]):fF) rfl rfl (by decide) (by simp[ee,aC]) rfl rfl (by omega) (by omega) (λA w f=>?_)
 refine .nil (Next.sub ?_)
 refine .sT 3 rfl ?_
 refine .makeSlice (enc:=dE) ps.length false rfl rfl (by decide) (by simp[dE,aC]) rfl rfl (by omega) (by omega) (λB Tv n=>?_)
 refine .nil (Next.sub ?_)
 refine .tO 8 rfl .cD ?_
 refine .sT 9 rfl ?_
 refine .cm rfl (λF=>?_)
 refine .nil (Next.sub ?_)
 refine .tO 10 rfl .assign ?_
 refine RA.nil (by kernel_rfl) ?_
 ·exact aL ((F,B,A,C),(Tv,w,Tw)) ⟨n,f,g⟩ kE.c.c (bo.gb.trans (by
   first
    |exact(aT [3,0,0,0,0,0])
    |exact(aT [3,0,0,1,0,0])
    |exact(aT [2,0,0,0,0,0])
    |exact(aT [2,0,0,1,0,0])
    |exact(aT [4,0,0,0,0,0])
    |exact(aT [4,0,0,1,0,0])))
 intro y hy
 obtain⟨⟨sb,B,A,C⟩,⟨Tv,w,Tw⟩⟩:=y
 obtain⟨n,f,g⟩:=hy
 simp only at n f g⊢
 obtain⟨vv,d9⟩:∃v,v=Value.slice (some ⟨B,0,none⟩) ps.length ps.length:=⟨_,rfl⟩
 obtain⟨vb,d8⟩:∃v,v=Value.slice (some ⟨A,0,none⟩) ps.length ps.length:=⟨_,rfl⟩
 obtain⟨vw,e0⟩:∃v,v=Value.slice (some ⟨C,0,none⟩) ps.length ps.length:=⟨_,rfl⟩
 rw[<-d9]at n⊢
 rw[<-d8]at f⊢
 rw[<-e0]at g⊢
 clear d9 d8 e0
 have i1:=n.aC
 have i2:=f.aC
 have i3:=g.aC
 refine aB<|.seq<|.sr<|.fa rfl<|.lo rfl<|.q (.cq Q) ?_
 refine .mo rfl<|.zn<|.block ?_
 refine .cX [(6,_),(28,_),(29,_)] (X:=Nat×List db×List gD×(ap×ap×ap)) (λy=>y.1<=ps.length/\QI sb s e us vv vb vw y.2.1 y.2.2.2.1/\QW P (qi P y.1) y.2.1/\OS 4 1 dE vw (qi P y.1) y.2.2.2.2.1/\nV vb y.2.2.1 y.2.2.2.2.2/\y.2.2.1.map (·.1.2)=(List.range ps.length).map λj=>fT P y.1 [] j) (λy E=>(30,iN y.1)::E) (λy G=>y.2.2.2.2.2::y.2.2.1.flatMap (·.2)::y.2.2.2.1::y.2.2.2.2.1::G) (λy=>ps.length-y.1) (0,[],List.replicate ps.length (((sZ,[]),[]):gD),(hB sb s e us vv vb vw (sZ),Tw,w)) ⟨aeX _,⟨_,[],(ae5 _).symm,OS.nil,by simp⟩,Ls P,by simp only;rw[yW,a3];exact g,⟨by simp only[List.map_replicate];exact f,λq hq=>by rw[(List.mem_replicate.1 hq).2];exact OS.nil⟩,by simp only;rw[Bc];simp[List.map_const']⟩ kE.c.c.c.c (bo.eV (by simp only[JN];exact .refl _)) ?_
 rintro⟨i,L,LL,⟨Ta,Tw,To⟩⟩ ⟨hi,O,Z,g,D,k⟩
 simp only at hi O Z g D k⊢
 refine .sr<|.q .lss<|.zs ?_
 refine .cond rfl (λh1=>?_) λh1=>?_
 have a4:i<ps.length:=cV h1
 obtain⟨p,K⟩:=cE a4
 have b5:=aX K
 have b4:=c2 p b5
 have a9:=d1 i p K
 have c4:=f8 p b5
 have g0:=f9 p b5
 have h8:cv p.enc:=⟨b4.dv⟩
 have f4:p.plain.leads.flatten=p.ll.flatMap (·.2):=by unfold aO.plain;simp[List.flatMap_def]
 have f5:p.plain.found=p.found:=rfl
 have b0:=A8 a9
 have a5:=yV a9
 have a6:=Ln a9
 rw[f4]at b0
 rw[f5]at a5 a6
 generalize p.plain=pp at *
 obtain⟨k0,I,vn,a0,vu,a1,U,ll,nm⟩:=p
 have c9:RS R 1 ee U ll:=b4.l.rs
 have c8:=b4.l.all
 simp only at b0 a5 a6 c4 g0 c8
 obtain⟨vq,Tq,c1,e9,e7⟩:=O
 have O:QI sb s e us vv vb vw L Ta:=⟨vq,Tq,c1,e9,e7⟩
 have j0:PS Ta (pT sb) [s,iN e,.string us,vv,vb,vw,vq]:=PS.of (E:=206) (fr:=(0,0)) (by rw[c1];simp)
 refine .kn<|.seq<|.block<|.sr<|.mo rfl ?_
 refine .bZ i Q K (λi4=>?_)
 refine .q (.aU rfl) ?_
 refine .bT (λV=>?_)
 refine .ag rfl<|.bP rfl rfl<|.zs<|.sr<|.fa rfl<|.lo rfl<|.q (.cq c9) ?_
 refine .mo rfl<|.zn<|.block ?_
 refine .cX [(6,_),(7,_),(8,_),(28,_),(29,_),(30,_),(36,_),(37,_)] (X:=Nat×List gD×ap) (λy=>y.1<=ll.length/\nV vb y.2.1 y.2.2/\y.2.1.map (·.1.2)=(List.range ps.length).map λj=>fT P i ((ll.take y.1).flatMap (·.2)) j) (λy E=>(38,iN y.1)::E) (λy _=>[bl V (aO.enc ⟨k0,I,vn,a0,vu,a1,U,ll,nm⟩) 95,y.2.2,y.2.1.flatMap (·.2),Ta,Tw,Tv,bl M [s,iN e] 81]) (λy=>ll.length-y.1) (0,LL,To) ⟨aeX _,D,by simpa using k⟩ kE.c.c.c.c.c.c.c.c.c rH (G:=[]) ?_
 rintro⟨m,LL,To⟩ ⟨hm,D,k⟩
 simp only at hm D k⊢
 refine .sr<|.q .lss<|.zs ?_
 refine .cond rfl (λh2=>?_) λh2=>?_
 have d0:m<ll.length:=cV h2
 obtain⟨⟨vr,H⟩,b6⟩:=cE d0
 have d3:=aX b6
 have hr:RS R 1 dr vr H:=c8 _ d3
 obtain⟨g5,c6⟩:=c4 _ d3
 simp only at g5 c6
 have g6:(ll.take (m+1)).flatMap (·.2)=(ll.take m).flatMap (·.2)++H:=by rw[fD b6,afx];simp
 generalize (ll.take m).flatMap (·.2)=seen0 at *
 refine .kn<|.seq<|.block<|.sr ?_
 refine .bZ m c9 b6 (λi5=>?_)
 refine .lo rfl<|.ag rfl<|.z<|.mo rfl<|.q (.cq hr) ?_
 refine .mo rfl<|.zn<|.block ?_
 refine .cX [(6,_),(7,_),(8,_),(28,_),(29,_),(30,_),(36,_),(37,_),(38,_),(42,_),(43,_)] (X:=Nat×List gD×ap) (λy=>y.1<=H.length/\nV vb y.2.1 y.2.2/\y.2.1.map (·.1.2)=(List.range ps.length).map λj=>fT P i (seen0++H.take y.1) j) (λy E=>(44,iN y.1)::E) (λy _=>[bl V (aO.enc ⟨k0,I,vn,a0,vu,a1,U,ll,nm⟩) 95,y.2.2,y.2.1.flatMap (·.2),Ta,Tw,Tv,bl M [s,iN e] 81]) (λy=>H.length-y.1) (0,LL,To) ⟨aeX _,D,by simpa using k⟩ kE.c.c.c.c.c.c.c.c.c.c.c.c rH (G:=[]) ?_
 rintro⟨j,LL,To⟩ ⟨hj,D,k⟩
 simp only at hj D k⊢
 refine .sr<|.q .lss<|.zs ?_
 refine .cond rfl (λW=>?_) λW=>?_
 have c7:j<H.length:=cV W
 obtain⟨d,a7⟩:=cE c7
 have d6:d<ps.length:=c6 d (aX a7)
 have g2:seen0++H.take (j+1)=(seen0++H.take j)++[d]:=by rw[fD a7,afl]
 generalize seen0++H.take j=seen at *
 obtain⟨vk,Tk,hk⟩:=zi k d6
 have J:=A9 P i seen d
 have d5:=λj=>Bb P i seen d j
 have f2:=Ba P i seen d
 obtain⟨r,d2⟩:∃r,r=fT P i seen d:=⟨_,rfl⟩
 rw[<-d2]at hk J f2
 obtain⟨f,a2⟩:=D
 have N:=a2 _ (aX hk)
 simp only at N
 have S:(LL.map (·.1))[d]? =some (vk,r):=by rw[ae1,hk];rfl
 have i8:PS To (eE vb (d*1)) (ee (vk,r)):=⟨f.pc S⟩
 have j1:PC R (eE vr (j*1)) (dr d):=hr.pc a7
 obtain⟨L1,L2,a8,g8,d4⟩:=xX hk
 have h6:=N.le
 refine .kn<|.seq<|.block<|.sr ?_
 refine .bZ j hr a7 (λi6=>?_)
 refine .lo rfl<|.ag rfl<|.z<|.mo rfl ?_
 refine .nc rfl<|.fa rfl<|.lo rfl<|.mo rfl<|.q (.bZ d f.sg S rfl rfl rfl) ?_
 refine .lo rfl<|.q (.cq N.sg) ?_
 refine .ag rfl<|.zs ?_
 refine bq.dI [(6,_),(7,_),(8,_),(12,_),(28,_),(29,_),(30,_),(36,_),(37,_),(38,_),(42,_),(43,_),(44,_)] kE.c.c.c.c.c.c.c.c.c.c.c.c.c (X:=Unit) (λ_=>True) (λ_ E=>(72,.bool (!decide (d∈seen)))::E) (λ_=>[bl V (aO.enc ⟨k0,I,vn,a0,vu,a1,U,ll,nm⟩) 95,To,LL.flatMap (·.2),Ta,Tw,Tv,bl M [s,iN e] 81]) ?_ ?_
 refine .region<|.mo rfl<|.q .cr<|.mo rfl ?_
 refine .split (t:=58) rfl (λa=>?_) (λa=>?_)
 have g4:r=[]:=by
  have h9:=bV a
  exact afA (by omega)
 have b1:(!decide (d∈seen))=true:=by
  rw[g4]at J
  simp only[List.getLast?_nil]at J
  have:¬d∈seen:=λh=>by have:=J.2 h;cases this
  simp[this]
 rw[b1]
 refine .gF a<|.gF a<|.gF a<|.gF a<|.gF a<|.gF a<|.gF a<|.gF a<|.gF a<|.gF a<|.gF a<|.gF a<|.gF a<|.q (.bx a) ?_
 refine .nil ?_
 ·exact aL () ae6 kE.c.c.c.c.c.c.c.c.c.c.c.c.c.c rH
 have h7:0<r.length:=by
  have h9:=bK a
  omega
 obtain⟨x,T⟩:∃x,r[r.length-1]? =some x:=⟨_,aQ (by omega)⟩
 have i9:PS (LL.flatMap (·.2)) (eE vk ((r.length-1)*1)) (dr x):=⟨(N.pc T).mono λb o hb=>List.mem_flatMap.2 ⟨_,aX hk,hb⟩⟩
 have b1:(!decide (d∈seen))=((x:Int) !=(i:Nat)):=by
  rw[List.getLast?_eq_getElem?,T]at J
  by_cases h:d∈seen
  ·have h2:=J.2 h
   injection h2 with h2
   simp[h,h2]
  ·have h2:¬x=i:=λe=>h (J.1 (by rw[e]))
   have W:¬((x:Int)=(i:Int)):=by omega
   rw[bne_iff_ne.2 W]
   simp[h]
 rw[b1]
 refine .gT a<|.mo rfl<|.gT a<|.nc rfl<|.gT a<|.fa rfl<|.gT a<|.lo rfl<|.gT a<|.mo rfl<|.gT a<|.q (.bZ d f.sg S rfl rfl rfl) ?_
 refine .gT a<|.lo rfl<|.gT a<|.mo rfl<|.gT a ?_
 refine .ia (r.length-1) .sub ?_
 refine .gT a<|.q (.bZ (r.length-1) N.sg T rfl rfl rfl) ?_
 refine .gT a<|.lo rfl<|.gT a<|.mo rfl<|.gT a<|.q .eJ<|.q (.bs a) ?_
 refine .nil ?_
 ·exact aL () ae6 kE.c.c.c.c.c.c.c.c.c.c.c.c.c.c rH
 intro y hy
 refine aB ?_
 refine bq.dI [(6,_),(7,_),(8,_),(28,_),(29,_),(30,_),(36,_),(37,_),(38,_),(42,_),(43,_),(44,_)] kE.c.c.c.c.c.c.c.c.c.c.c.c (X:=List gD×ap) (λy=>nV vb y.1 y.2/\y.1.map (·.1.2)=(List.range ps.length).map λj=>fT P i (seen++[d]) j) (λ_ E=>E) (λy=>[bl V (aO.enc ⟨k0,I,vn,a0,vu,a1,U,ll,nm⟩) 95,y.2,y.1.flatMap (·.2),Ta,Tw,Tv,bl M [s,iN e] 81]) ?_ ?_
 refine .cond rfl (λh4=>?_) λh4=>?_
 have b3:¬d∈seen:=by simpa using h4
 refine bq.le (dC.refl _) (bo.eV (H':=[bl V (aO.enc ⟨k0,I,vn,a0,vu,a1,U,ll,nm⟩) 95,To,Tk,L1.flatMap (·.2)++L2.flatMap (·.2),Ta,Tw,Tv,bl M [s,iN e] 81]) (by
  rw[a8]
  simp only[afx,List.flatMap_cons,afu,afv,ae5]
  refine .append_left _ (.append_left _ ?_)
  simp only[<-afl]
  refine .append_right _ (.append_right _ (.append_right _ (.append_right _ (.append_right _ ?_))))
  exact afw)) ?_
 refine .tX [1,1] [14,16] mixed ?_
 conv=>arg 3;simp only[take,rest,bJ,afr,afs]
 conv=>arg 5;simp only[take,rest,bJ,afr,afs]
 conv=>arg 9;simp only[take,rest,bJ,afr,afs]
 refine .tK 0 rfl .move ?_
 refine .tK 1 rfl (.lO rfl) ?_
 refine .tK 2 rfl (.eH rfl) ?_
 refine .tK 3 rfl (.bU rfl)<|.tK 4 rfl .move<|.tO 5 rfl .move<|.tO 6 rfl (.nilCheck rfl)<|.tO 7 rfl (.fieldAddr rfl)<|.tO 8 rfl (.bU rfl)<|.tO 9 rfl .move ?_
 refine .tO 10 rfl (.bZ d f.sg S rfl rfl rfl) ?_
 refine .tO 11 rfl (.bU rfl)<|.tO 12 rfl .move ?_
 refine .sT 13 rfl ?_
 refine .lA (λg7=>?_)
 refine .nil (Next.sub ?_)
 refine .sT 14 rfl ?_
 refine .append N (RS.lits (xs:=[i]) rfl (by simp[dr]) (by simp[dr,aC])) (by simp only[aeW];omega) (λv5 T5 d7=>?_)
 obtain⟨e1,c5,rfl,_⟩:=d7.shape
 refine .nil (Next.mod rfl ?_)
 refine RA.aI 15 rfl d f S rfl rfl rfl (by kernel_rfl) (λi7=>?_)
 refine .sT 16 rfl ?_
 refine .cY d f S ((.slice e1 (r++[i]).length c5,r++[i]):fF) (λTn e8=>?_)
 refine .nil (Next.mod rfl ?_)
 refine RA.nil (by kernel_rfl) ?_
 ·exact aL (LL.set d ((.slice e1 (r++[i]).length c5,r++[i]),T5),Tn) ⟨⟨by simp only;rw[List.map_set];exact e8,λq hq=>by
    simp only at hq
    rw[d4]at hq
    rcases ae7.1 hq with hq|hq
    ·exact a2 q (by rw[a8];exact afq _ hq)
    ·rcases afo.1 hq with rfl|hq
     ·exact d7
     ·exact a2 q (by rw[a8];exact ae4 _ (List.mem_cons_of_mem _ hq))⟩,by
    simp only
    refine Mo k (λx T=>?_) d6
    rw[d5,d2]
    by_cases e:x=d
    ·subst e;rw[aeV ⟨rfl,b3⟩,aeV rfl]
    ·rw[aeU λh=>e h.1,aeU e]⟩ kE.c.c.c.c.c.c.c.c.c.c.c.c (by
    simp only
    rw[d4]
    refine(aT [3,1,1,1,1,1,1,1]).trans (bo.eV ?_)
    simp only[take,rest,bJ,afr,afs,afx,List.flatMap_cons,afu,afv,ae5,aeZ,aeY]
    refine .cons _ (.append_left _ ?_)
    simp only[<-afl]
    refine .append_right _ (.append_right _ (.append_right _ (.append_right _ (.append_right _ ?_))))
    exact afw)
 have b3:d∈seen:=by simpa using h4
 refine .skip ?_
 ·exact aL (LL,To) ⟨⟨f,a2⟩,by
    simp only
    rw[k]
    refine afy λx _=>?_
    rw[d5,aeU λh=>h.2 b3]⟩ kE.c.c.c.c.c.c.c.c.c.c.c.c rH
 intro x T
 obtain⟨e3,e5⟩:=x
 obtain⟨c0,b7⟩:=T
 simp only at c0 b7⊢
 rw[<-g2]at b7
 refine bg<|aB<|.region ?_
 refine .ia (j+1) .add ?_
 refine .mo rfl<|.nil ?_
 ·exact bu (j+1,e3,e5) ⟨c7,c0,b7⟩ (by simp only;omega) kE.c.c.c.c.c.c.c.c.c.c.c.c rH
 have f7:H.length<=j:=by have:=bK W;omega
 rw[hJ f7, <-g6]at k
 refine .exit<|br<|bz<|bw<|bg<|aB<|.region ?_
 refine .ia (m+1) .add ?_
 refine .mo rfl<|.nil ?_
 ·exact bu (m+1,LL,To) ⟨d0,D,k⟩ (by simp only;omega) kE.c.c.c.c.c.c.c.c.c rH
 have g1:ll.length<=m:=by have:=bK h2;omega
 rw[hJ g1]at k
 have k:LL.map (·.1.2)=(List.range ps.length).map λj=>fT P (i+1) [] j:=by rw[k];exact afy λx _=>b0 x
 refine .exit<|br<|bz<|bw<|aB<|.sr<|.fa rfl<|.lo rfl<|.zn ?_
 refine .cond rfl (λh5=>?_) λh5=>?_
 have f6:I=true:=h5
 subst f6
 refine .region<|.mo rfl<|.mo rfl ?_
 refine .call [3,3] (zS sb s e us vv vb vw L Ta Tw O ps _ Q.rx g3 (qi P i) g (by rw[yU (by omega),a3]) (Y▸Z) i a4 (by omega)) (λu H' hu=>?_)
 obtain⟨e4,e6,e2,rfl,f1,f0,b9⟩:=hu
 rw[<-Y]at b9
 conv=>arg 8;simp only[rest,bJ,aeZ,aeY]
 refine .nil<|bg<|aB<|.region ?_
 refine .ia (i+1) .add ?_
 refine .mo rfl<|.nil ?_
 ·exact bu (i+1,e2,LL,(e4,e6,To)) ⟨a4,f1,by simp only;rw[a5];exact b9,by simp only;rw[a5];exact f0,D,k⟩ (by simp only;omega) kE.c.c.c.c (aT [3,3,0,0,1,1])
 have f3:I=false:=h5
 subst f3
 refine .skip<|bg<|aB<|.region ?_
 refine .ia (i+1) .add ?_
 refine .mo rfl<|.nil ?_
 ·exact bu (i+1,L,LL,(Ta,Tw,To)) ⟨a4,O,by simp only;rw[a6 rfl];exact Z,by simp only;rw[a6 rfl];exact g,D,k⟩ (by simp only;omega) kE.c.c.c.c (aT [1,1,1,1,1,1])
 have c3:i=ps.length:=by have:=bK h1;omega
 rw[c3, <-a3,Lm]at Z g
 have k:LL.map (·.1.2)=(List.range ps.length).map (eU P):=by
  rw[k,c3]
  refine afy λx _=>?_
  rw[<-a3]
  exact congrFun (A7 P) x
 refine .exit<|br<|bz<|bw<|aB<|.sr<|.mo rfl<|.az rfl ?_
 refine .ret (bm _ (.one (.tmp rfl)) (aT [2,2,2,0,0]) ?_)
 ·exact⟨sb,vv,vb,vw,L,LL,Ta,Tw,Tv,To,rfl,rfl,i1,i2,i3,O,Z,g,n,D,k⟩
structure ly(ps:List aO)(us:ByteArray):Prop where
 ok:iV (ps.map aO.plain) us
 tr:∀p∈ps,∀i,i<p.nodes.length->(tree isWord p.nodes (i+1)).isSome=true
 nl:∀p∈ps,p.nodes.length<=1000000
 rl:∀p∈ps,∀q∈p.ll,q.2.length<=1000000
 n:ps.length<=2000000
 ed:nt (ps.map aO.plain)<=1000000000
theorem ly.ll{ps:List aO}{us:ByteArray}(h:ly ps us):∀p∈ps,p.ll.length=p.nodes.length:=λp c=>by
 have:=h.ok.ln p.plain (afa.2 ⟨p,c,rfl⟩)
 have a:p.plain.leads.length=p.ll.length:=by unfold aO.plain;simp
 have b:p.plain.nodes=p.nodes:=rfl
 rw[a,b]at this
 exact this
theorem ly.jl{ps:List aO}{us:ByteArray}(h:ly ps us):∀p∈ps,∀q∈p.ll,∀j∈q.2,j<ps.length:=λp b q c j a=>by
 have:=h.ok.lt p.plain (afa.2 ⟨p,b,rfl⟩) j (List.mem_flatten.2 ⟨q.2,afa.2 ⟨q,c,rfl⟩,a⟩)
 rwa [ae3]at this
def eY(b:Int)(K:Nat)(v:List Bool):List Bool×Nat×Int:=
 if b<1 then([],0,2)else if b<K then([],b.toNat+1,16)else(v,K,0)
theorem yt(l:List Bool):dt l<=l.length:=List.countP_le_length
theorem dq.more{ps:List bB}{us:ByteArray}{K k:Nat}{s t:QS}(h:dq ps us K s)(a:gy s.2)(b:dq ps us k t)(d:¬gy t.2):k<K:=by
 rcases Nat.lt_trichotomy k K with h1|h1|h1
 ·exact h1
 ·subst h1
  rw[h.dL b]at a
  exact absurd a d
 ·obtain⟨u,i,f,c⟩:=b.tW h1
  have e:=h.dL f
  subst e
  have:=c.1
  rw[a i]at this
  cases this
theorem N3(f:Value)(e:Nat)(us:ByteArray)(ps:List aO)(R:aw)(a8:RS R 8 aO.enc f ps)(b8:∀p∈ps,p.is R)(D:ly ps us)(b:Int)(M:b<=9223372036854775807)(K:Nat)(s:QS)(hK:dq (ps.map aO.plain) us K s)(hs:gy s.2):
  Spec prog 42 [.agg [f,iN e].toArray,.string us,.int .i64 b] R [] λu H'=>∃T,H'=[T]/\∃vo,u=.tuple [vo,.int .i64 ((eY b K s.1).2.1:Nat),.int .i64 (eY b K s.1).2.2].toArray/\OS 4 1 dE vo (eY b K s.1).1 T:=by
 have k7:=a8.aC
 have e8:∀p∈ps,∀u∈p.enc,aC u=true:=λp d=>(b8 p d).dv
 have e2:=D.n
 have e3:=D.ll
 have e0:=D.jl
 have e4:=D.nl
 have j3:=D.tr
 have e7:∀(i:Nat) (p:aO),ps[i]? =some p->(ps.map aO.plain)[i]? =some p.plain:=λi p d=>by rw[ae1,d];rfl
 have e5:=Nn f e us ps
 have j6:=zS
 have g8:=D.ed
 have a0:=D.ok
 have I:(ps.map aO.plain).length=ps.length:=ae3 _
 have d3:∀i,∀k∈eU (ps.map aO.plain) i,k<ps.length:=λi k hk=>by
  have:=(a0.qw hk).1
  rwa [I]at this
 have d4:∀i,(eU (ps.map aO.plain) i).length<=ps.length:=λi=>by
  unfold eU
  refine ae0 (ae8 _ _) ?_
  rw[List.length_range,I]
  exact afi _
 have c0:=λk t (h:dq (ps.map aO.plain) us k t)=>(h.inv a0).ku a0
 have d8:=λk t (h:dq (ps.map aO.plain) us k t)=>h.inv a0
 have h8:iL (ps.map aO.plain)<=2000000:=by
  unfold iL
  refine ae0 (yt _) ?_
  rw[ae3,I]
  exact e2
 have d6:∀(i:Nat) (p:aO) (vf:Nat->Bool),ps[i]? =some p->(fe (ps.map aO.plain) us).ex i vf=cS p.plain us vf p.nodes.length:=λi p vf d=>by
  show(match (ps.map aO.plain)[i]? with|none=>false|some p=>cS p us vf p.nodes.length)=_
  rw[e7 i p d];rfl
 obtain⟨P,hP⟩:∃P,P=ps.map aO.plain:=⟨_,rfl⟩
 rw[<-hP]at hK e7 g8 a0 d3 d4 c0 d8 h8 e5 I d6
 have k3:(List.replicate P.length false,jJ P)=(List.replicate P.length false,P.map (·.found)):=rfl
 refine Spec.body func42 rfl results42 ntmps42 rfl<|.sr ?_
 refine .cm rfl (λb3=>?_)
 refine .ag rfl<|.ag rfl<|.ag rfl<|.zs<|.sr<|.mo rfl<|.q .lss<|.zn<|.cond rfl (λh1=>?_) λh1=>?_
 have N:b<1:=bV h1
 refine .sr<|.ag rfl<|.ag rfl<|.az rfl<|.ret (ba (bm _ (.three (.tmp rfl) (.tmp rfl) (.tmp rfl)) (bo.gb.trans (aT [0])) ?_))
 ·exact⟨[],rfl,sZ,by unfold eY;rw[aeV N];rfl,by unfold eY;rw[aeV N];exact OS.nil⟩
 have N:¬b<1:=bK h1
 refine .kn<|.sr<|.q (.aU rfl)<|.mo rfl<|.call [] (e5 _ a8.rx (λp d=>(b8 p d).mono λb o M=>.inl M) e2 (λp d=>by rw[e3 p d];exact e4 p d) (λp d q hq=>⟨D.rl p d q hq,e0 p d q hq⟩)) (λu H' B=>?_)
 obtain⟨w,g,r,l,L,LL,O,Tw,Tv,To,rfl,rfl,i1,i2,i3,Q,J,a3,A,c9,j0⟩:=B
 conv=>arg 8;simp only[rest,bJ,aeZ,aeY]
 refine .ag rfl<|.z<|.ag rfl<|.zs<|.block<|.cX [(2,_),(3,_),(9,_)] (X:=Nat×(List Bool×List Bool)×List db×(ap×ap×ap)) (λy=>dq P us y.1 y.2.1/\(y.1:Int)<=b/\QI w f e us g r l y.2.2.1 y.2.2.2.1/\QW P y.2.1.2 y.2.2.1/\OS 4 1 dE l y.2.1.2 y.2.2.2.2.1/\OS 4 1 dE g y.2.1.1 y.2.2.2.2.2) (λy E=>(10,iN y.1)::E) (λy G=>y.2.2.2.1::y.2.2.2.2.1::y.2.2.2.2.2::G) (λy=>iL P+nt P-y.1) (0,(List.replicate P.length false,jJ P),L,(O,Tw,Tv)) ⟨.start,by simp only;omega,Q,J,a3,by simp only;rw[I];exact A⟩ kE.c.c.c.c rH ?_
 rintro⟨k,⟨v,q⟩,L,⟨O,Tw,Tv⟩⟩ ⟨W,h0,Q,J,a3,A⟩
 simp only at W h0 Q J a3 A⊢
 have k2:=c0 _ _ W
 have d9:=d8 _ _ W
 have f1:v.length=ps.length:=by rw[<-I];exact d9.l1
 have i9:q.length=ps.length:=by rw[<-I];exact d9.l2
 obtain⟨vq,Tq,b7,b2,g2⟩:=Q
 have Q:QI w f e us g r l L O:=⟨vq,Tq,b7,b2,g2⟩
 have i5:=b2.aC
 have l6:PS O (pT w) [f,iN e,.string us,g,r,l,vq]:=PS.of (E:=206) (fr:=(0,0)) (by rw[b7];simp)
 have j1:RS (sg O) 2 db.enc vq L:=b2.rs λp d=>by rw[b7];exact ae4 _ d
 refine .seq<|.sr<|.mo rfl<|.nc rfl<|.fa rfl<|.lo rfl<|.bj (zR vq L _ j1.mM) (λu B=>?_)
 subst B
 refine .q .gtr<|.zn<|.cond rfl (λh2=>?_) λh2=>?_
 have g1:0<L.length:=cV h2
 obtain⟨x,hx⟩:=cE g1
 obtain⟨h9,_,k5⟩:=xw J.p J.h hx
 have k1:k<K:=hK.more hs W λh=>by have:=h9.1;rw[h x.2]at this;cases this
 have j9:=c0 _ _ hK
 refine .kn<|.block<|.seq<|.sr<|.mo rfl<|.mo rfl<|.q .cr<|.zn<|.cond rfl (λh3=>?_) λh3=>?_
 have e1:(k:Int)=b:=by simpa using h3
 refine .sr<|.mo rfl<|.ia (k+1) .add<|.ag rfl<|.ag rfl<|.az rfl<|.ret (ba (bF (dm (bF (ba (bm _ (.three (.tmp rfl) (.tmp rfl) (.tmp rfl)) (bo.gb.trans (aT [0])) ?_))))))
 ·have d2:b<(K:Int):=by omega
  exact⟨[],rfl,sZ,by unfold eY;rw[aeU N,aeV d2];simp only;rw[<-e1];rfl,by unfold eY;rw[aeU N,aeV d2];exact OS.nil⟩
 have e1:(k:Int)≠b:=by simpa using h3
 refine .kn<|.sr<|.mo rfl<|.ia (k+1) .add<|.ag rfl<|.z<|.mo rfl<|.call [0,0] (Np w f e us g r l L O Tw Q _ P q a3 J x hx) (λu H' B=>?_)
 obtain⟨Y,b0,a9,rfl,rfl,a5,b5,b6,e6,j7⟩:=B
 obtain⟨xa,i⟩:=x
 simp only at e6 j7 b5 b6
 conv=>arg 8;simp only[rest,bJ,aeZ,aeY]
 have d7:i<ps.length:=by omega
 obtain⟨bi,a7⟩:∃b,v[i]? =some b:=⟨_,aQ (by omega)⟩
 have j4:v.getD i false=bi:=by rw[ae9,a7];rfl
 obtain⟨p,d⟩:=cE d7
 have V:=aX d
 have k6:cv p.enc:=⟨e8 p V⟩
 have g9:=d6 i p (λj=>v.getD j false) d
 obtain⟨c3,f4,d0,c6,g3⟩:=a5
 have a5:QI w f e us g r l a9 Y:=⟨c3,f4,d0,c6,g3⟩
 have i6:=c6.aC
 have j8:PS Y (pT w) [f,iN e,.string us,g,r,l,c3]:=PS.of (E:=206) (fr:=(0,0)) (by rw[d0];simp)
 have F:=dq.step W e6
 have i4:pP P us (v,q) i=if v.getD i false|| !(fe P us).ex i (λj=>v.getD j false)then(v,q.set i false)else(v.set i true,(eU P i).foldl (fQ (v.set i true)) (q.set i false)):=rfl
 rw[i4,j4,g9]at F
 refine .ag rfl<|.zs<|.seq ?_
 refine bq.dI [(2,_),(3,_),(9,_),(10,_),(11,_)] kE.c.c.c.c.c (X:=Unit) (λ_=>True) (λ_ E=>(50,.bool (bi|| !cS p.plain us (λj=>v.getD j false) p.nodes.length))::E) (λ_=>[Y,b0,Tv,To,LL.flatMap (·.2),bl b3 [f,iN e] 81]) ?_ ?_
 refine .region<|.mo rfl<|.nc rfl<|.fa rfl<|.lo rfl<|.mo rfl ?_
 refine .aI i A a7 (λk8=>?_)
 refine .lo rfl<|.mo rfl<|.split (t:=41) rfl (λa=>?_) (λa=>?_)
 refine .gF a<|.gF a<|.gF a<|.gF a<|.gF a<|.gF a<|.gF a<|.gF a<|.q (.bx a)<|.nil ?_
 ·exact aL () ae6 (kE.c.c.c.c.c.dD rfl (by rw[a];rfl)) rH
 refine .gT a<|.mo rfl<|.gT a<|.fa rfl<|.gT a<|.lo rfl<|.gT a<|.mo rfl<|.gT a ?_
 refine .bZ i a8 d (λk9=>?_)
 refine .gT a<|.q (.aU rfl)<|.gT a<|.bj (Ns w f e us g r l c3 p v _ ((b8 p V).mono λb o M=>.inl M) (A.sg.mM) (j8.h.mono λb o M=>.inr (by simp[sg]at M;simp[M])) (e3 p V) (e4 p V) (λq hq j hj=>by rw[f1];exact e0 p V q hq j hj) (j3 p V)) (λu B=>?_)
 subst B
 refine .gT a<|.q .not<|.q (.bs a)<|.nil ?_
 ·exact aL () ae6 (kE.c.c.c.c.c.dD rfl (by rw[a];rfl)) rH
 intro y hy
 refine aB<|.cond rfl (λh4=>?_) λh4=>?_
 rw[h4]at F
 simp only[if_true]at F
 refine .exit<|br<|bw ?_
 ·exact bu (k+1,(v,q.set i false),a9,(Y,b0,Tv)) ⟨F,by simp only;omega,a5,b6,b5,A⟩ (by simp only;omega) kE.c.c.c.c rH
 rw[h4]at F
 simp only[afz,if_false]at F
 obtain⟨vk,Tk,hk⟩:=zi j0 d7
 have c5:=c9.1
 have a2:=c9.2 _ (aX hk)
 simp only at a2
 have i7:One vk:=a2.aC
 have e9:(LL.map (·.1))[i]? =some (vk,eU P i):=by rw[ae1,hk];rfl
 have l4:PS To (eE r (i*1)) (ee (vk,eU P i)):=⟨c5.pc e9⟩
 have g7:=d3 i
 have k0:=d4 i
 generalize eU P i=row at *
 obtain⟨C,c2⟩:∃C,C=v.set i true:=⟨_,rfl⟩
 rw[<-c2]at F
 have k4:C.length=ps.length:=by rw[c2,afp];exact f1
 have f0:RS (sg (LL.flatMap (·.2))) 1 dr vk row:=a2.rs λp d=>List.mem_flatMap.2 ⟨_,aX hk,d⟩
 refine .kn<|.sr<|.mo rfl<|.nc rfl<|.fa rfl<|.lo rfl<|.mo rfl ?_
 refine .aI i A a7 (λl0=>?_)
 refine .cY i A a7 true (λf6 b4=>?_)
 rw[<-c2]at b4
 refine .z<|.mo rfl<|.nc rfl<|.fa rfl<|.lo rfl<|.mo rfl<|.q (.bZ i c5.sg e9 rfl rfl rfl)<|.lo rfl<|.q (.cq a2.sg)<|.mo rfl<|.zn<|.block<|.cX [(2,_),(3,_),(9,_),(10,_),(63,_),(64,_)] (X:=Nat×List Bool×List db×(ap×ap)) (λy=>y.1<=row.length/\y.2.1=(row.take y.1).foldl (fQ C) (q.set i false)/\QI w f e us g r l y.2.2.1 y.2.2.2.1/\QW P y.2.1 y.2.2.1/\OS 4 1 dE l y.2.1 y.2.2.2.2) (λy E=>(65,iN y.1)::E) (λy G=>y.2.2.2.1::y.2.2.2.2::G) (λy=>row.length-y.1) (0,q.set i false,a9,(Y,b0)) ⟨aeX _,rfl,a5,b6,b5⟩ kE.c.c.c.c.c.c.c rH ?_
 rintro⟨m,H,L3,⟨Z,b1⟩⟩ ⟨hm,a1,S,a6,a4⟩
 simp only at hm a1 S a6 a4⊢
 have i0:H.length=ps.length:=by rw[a1,uL,afp];exact i9
 obtain⟨f2,f5,d1,c7,g4⟩:=S
 have S:QI w f e us g r l L3 Z:=⟨f2,f5,d1,c7,g4⟩
 have i8:=c7.aC
 have l7:PS Z (pT w) [f,iN e,.string us,g,r,l,f2]:=PS.of (E:=206) (fr:=(0,0)) (by rw[d1];simp)
 refine .sr<|.q .lss<|.zs<|.cond rfl (λh5=>?_) λh5=>?_
 have c1:m<row.length:=cV h5
 obtain⟨t,ht⟩:=cE c1
 have j2:t<ps.length:=g7 t (aX ht)
 have l5:PS (LL.flatMap (·.2)) (eE vk (m*1)) (dr t):=⟨f0.pc ht⟩
 obtain⟨bt,d5⟩:∃b,C[t]? =some b:=⟨_,aQ (by omega)⟩
 have j5:C.getD t false=bt:=by rw[ae9,d5];rfl
 have U:(row.take (m+1)).foldl (fQ C) (q.set i false)=if bt then H else H.set t true:=by
  rw[fD ht,List.foldl_append, <-a1]
  show fQ C H t=_
  unfold fQ
  rw[j5]
 refine .kn<|.seq<|.block<|.sr<|.q (.bZ m f0 ht rfl rfl rfl)<|.lo rfl<|.ag rfl<|.z<|.mo rfl<|.nc rfl<|.fa rfl<|.lo rfl<|.mo rfl ?_
 refine .aI t b4 d5 (λl3=>?_)
 refine .lo rfl<|.q .not<|.zn<|.cond rfl (λh6=>?_) λh6=>?_
 have b9:bt=false:=by simpa using h6
 rw[b9]at U
 simp only[afz,if_false]at U
 refine .region<|.mo rfl<|.mo rfl<|.call [0,0] (j6 w f e us g r l L3 Z b1 S ps _ a8.rx e8 H a4 i0 (hP▸a6) t j2 (by omega)) (λu H' B=>?_)
 obtain⟨f3,f7,L4,rfl,g6,g5,c8⟩:=B
 rw[<-hP]at c8
 conv=>arg 8;simp only[rest,bJ,aeZ,aeY]
 refine .nil<|bg<|aB<|.region<|.ia (m+1) .add<|.mo rfl<|.nil ?_
 ·exact bu (m+1,H.set t true,L4,(f3,f7)) ⟨c1,U.symm,g6,c8,g5⟩ (by simp only;omega) kE.c.c.c.c.c.c.c rH
 have b9:bt=true:=by simpa using h6
 rw[b9]at U
 simp only[if_true]at U
 refine .skip<|bg<|aB<|.region<|.ia (m+1) .add<|.mo rfl<|.nil ?_
 ·exact bu (m+1,H,L3,(Z,b1)) ⟨c1,U.symm,S,a6,a4⟩ (by simp only;omega) kE.c.c.c.c.c.c.c rH
 have h7:row.length<=m:=by have:=bK h5;omega
 rw[hJ h7]at a1
 refine .exit<|br<|bz<|bw<|bg ?_
 ·exact bu (k+1,(C,H),L3,(Z,b1,f6)) ⟨by rw[a1];exact F,by simp only;omega,S,a6,a4,b4⟩ (by simp only;omega) kE.c.c.c.c rH
 have g0:L=[]:=afA (by have:=bK h2;omega)
 obtain⟨f8,f9⟩:=hK.last hs W (JZ J.p g0)
 have c4:¬b<(K:Int):=by omega
 refine .exit<|br<|bz<|bw<|aB<|.sr<|.mo rfl<|.nc rfl<|.fa rfl<|.lo rfl<|.mo rfl<|.ag rfl<|.ag rfl<|.az rfl<|.ret (bm _ (.three (.tmp rfl) (.tmp rfl) (.tmp rfl)) (aT [2]) ?_)
 ·exact⟨Tv,rfl,g,by unfold eY;rw[aeU N,aeU c4,f8],by unfold eY;rw[aeU N,aeU c4,f9];exact A⟩
def aO.zero(k:aR):aO:=⟨k,false,sZ,[],sZ,[],sZ,[],0⟩
def dp(S:cQ)(L:List bD)(rev:Int)(k:aR):List Sub:=if scan S rev then(L.filter λy=>y.there rev&&decide (y.t.cB=k)).map (·.t.sub)else []
structure WS(R:aw)(cp:Cf)(c:bN)(hb g x:Nat)(S:cQ)(num:List Nat)(L:List bD):Prop where
 ci:c.is R
 pl:c.plain=cp
 h:∃vl e,HV R hb vl [e] 0/\e.rev=0/\e.c.plain=cp/\e.ll.map (·.2)=rows cp.aZ num
 s:∃ps vf vr Mf Mr,SV R g S ps vf vr Mf Mr
 d:∃vL,DV R x S vL L
 rl:RL S L
 zP:iW S
 len:S.rows.length<=512
 m:gR isWord cR cp num
 nm:(cp.numbers isWord cR).2=rows cp.aZ num
 p4:cp.aZ.length<=5/\∀y∈cp.aZ,y.bR.length<=6
section
variable{R:aw}{cp:Cf}{c:bN}{hb g x:Nat}{S:cQ}{num:List Nat}{L:List bD}
theorem WS.ll(h:WS R cp c hb g x S num L):L.length<=512:=by rw[h.rl.pm.length_eq];exact h.len
theorem NE(S:cQ)(L:List bD)(rev:Int):∃M:List (aR×Sub),M.length<=L.length/\(∀y∈M,∃r∈L,y=(r.t.cB,r.t.sub))/\eZ M=dp S L rev:=by
 refine⟨if scan S rev then(L.filter λy=>y.there rev).map λy=>(y.t.cB,y.t.sub)else [],?_,?_,?_⟩
 ·split
  ·rw[ae3];exact ae8 _ _
  ·simp
 ·intro y b
  split at b
  ·obtain⟨r,c,rfl⟩:=afa.1 b
   exact⟨r,(List.mem_filter.1 c).1,rfl⟩
  ·cases b
 ·funext k
  unfold eZ dp
  split
  ·rw[List.filter_map,List.map_map,List.filter_filter]
   have:(λa:bD=>((λx:aR×Sub=>decide (x.1=k))∘λy:bD=>(y.t.cB,y.t.sub)) a&&a.there rev)=λy:bD=>y.there rev&&decide (y.t.cB=k):=by
    funext y
    simp[Bool.and_comm]
   rw[this]
   rfl
  ·rfl
theorem ND{rev:Int}{k:aR}{s:Sub}(h:s∈dp S L rev k):∃r∈L,s=r.t.sub:=by
 unfold dp at h
 split at h
 ·obtain⟨r,a,rfl⟩:=afa.1 h
  exact⟨r,(List.mem_filter.1 a).1,rfl⟩
 ·cases h
theorem WS.mA(h:WS R cp c hb g x S num L)(rev:Int)(k:aR)(i:Nat)(a:∀j,j<i->j<(opened cp num (dp S L rev) k j).1.length):(opened cp num (dp S L rev) k i).1.length+(opened cp num (dp S L rev) k i).2<=1048576:=by
 obtain⟨M,b,_,d⟩:=NE S L rev
 rw[<-d]at a⊢
 obtain⟨E,e,_⟩:=h.m.ex
 exact NV e h.m.right h.m.dL h.p4.2 (ae0 b (ae0 h.ll (by decide))) k i a
theorem WS.fin(h:WS R cp c hb g x S num L)(rev:Int)(k:aR):∃N,eK cp num (dp S L rev) k N:=by
 have d:∀k,∀s∈dp S L rev k,s∈L.map (·.t.sub):=λk s b=>by
  obtain⟨r,a,rfl⟩:=ND b
  exact afa.2 ⟨r,a,rfl⟩
 exact eK.ex λi=>rC (Lu d) MT i
theorem WS.gG(h:WS R cp c hb g x S num L)(rev:Int)(D:0<=rev)(k:aR)(b:Int)(w:b<=9223372036854775807){N:Nat}(r:eK cp num (dp S L rev) k N):
  Spec prog 34 [pT hb,pT g,.int .u64 rev,.agg [.string k.os,.string k.oi].toArray,.string k.rel,.int .i64 b] R [] (oT R (gG cp num (dp S L rev) k b (scan S rev) N)):=by
 obtain⟨J,e,u,y,z,f⟩:=h.h
 obtain⟨H,I,K,E,F,t⟩:=h.s
 have v:fY [e] rev=some e:=by
  unfold fY
  have:hl [e] rev 1=some 0:=by
   simp only[hl,List.getElem?_cons_zero,y]
   simp[D]
  rw[show([e]:List dx).length=1 from rfl,this]
  rfl
 have A:=h.mA rev k
 subst z
 exact sM u t h.rl (ae0 h.len (by decide)) rev e v num h.m f (by simp) (λa j=>by
  rw[ae2]at j
  subst j
  have G:a.ll.length=a.c.plain.aZ.length:=by rw[<-nD a.c.plain.aZ num, <-f,ae3]
  refine⟨by have:=h.p4.1;omega,λq B=>?_⟩
  have C:q.2∈rows a.c.plain.aZ num:=by rw[<-f];exact afa.2 ⟨q,B,rfl⟩
  obtain⟨i,d,o⟩:=List.mem_iff_getElem.1 C
  rw[nD]at d
  have l:=pV (n:=num) (aQ d)
  rw[aQ (by rw[nD];exact d),o]at l
  have p:=Option.some.inj l
  rw[p,afh]
  have:=h.p4.2 _ (List.getElem_mem d)
  omega) k b w (dp S L rev) rfl A N r
end
theorem Bx{W:ByteArray->Bool}{l:List Nd}(h:gj W l≠0):∀i,i<l.length->(tree W l (i+1)).isSome=true:=λi d=>by
 unfold gj at h
 cases ht:tree W l l.length with
 |none=>rw[ht]at h;exact absurd rfl h
 |some p=>
  obtain⟨b,x⟩:=p
  rw[ht]at h
  simp only at h
  have c:b=0:=by
   by_cases a:b=0
   ·exact a
   ·rw[aeU a]at h;exact absurd rfl h
  subst c
  exact(hU _ _ ht).2.2.2 i (aeX _) d
theorem KY{W:ByteArray->Bool}{F:ByteArray->ByteArray->Bool}{c:Cf}{num:List Nat}{k:aR}(d:c.right W F=true):∀i,i<(one c num k).nodes.length->(tree W (one c num k).nodes (i+1)).isSome=true:=by
 unfold one
 split
 ·intro i a;exact absurd a (by simp)
 ·rename_i i a
  simp only[ae9,ae1]
  cases hy:c.all[i]? with
  |none=>intro i a;exact absurd a (by simp)
  |some y=>
   have b:=(nB d y (aX hy)).1
   unfold mI at b
   simp only[aft,bne_iff_ne,ne_eq]at b
   simp only[afm,afb]
   exact Bx b.1.2
theorem BB{P:Program}{f:FuncId}{c:List Value}{R a:aw}{H:aG}{out:List bB×Nat×Int}(h:Spec P f c a H (oT R out)):Spec P f c a H λu H'=>∃T,H'=[T]/\∃vp ps,u=.tuple [.agg [vp,iN out.2.1].toArray,.int .i64 out.2.2].toArray/\RS (λb o=>R b o\/(b,o)∈T) 8 aO.enc vp ps/\(∀p∈ps,aO.is (λb o=>R b o\/(b,o)∈T) p)/\ps.map aO.plain=out.1:=h.mono λu H' g=>by
 obtain⟨vp,ps,T,d,e⟩:=g
 exact⟨T,d,vp,ps,e⟩
def kN(us:ByteArray)(D:List bB×Nat×Int)(b:Int)(K:Nat)(v:List Bool):Bool×Int:=
 if kV us=false then(false,9)else if D.2.2≠0 then(false,D.2.2)
 else if(eY b K v).2.2≠0 then(false,(eY b K v).2.2)else((eY b K v).1.getD 0 false,0)
theorem Ni{ps:List bB}{us:ByteArray}{K:Nat}{s:QS}(ok:iV ps us)(e:dq ps us K s){b:Int}(a:(eY b K s.1).2.2=0):(eY b K s.1).1=s.1/\(eY b K s.1).1.length=ps.length:=by
 have f:=(e.inv ok).l1
 unfold eY at a⊢
 split
 ·rename_i c;rw[aeV c]at a;cases a
 ·rename_i c
  rw[aeU c]at a
  split
  ·rename_i d;rw[aeV d]at a;cases a
  ·exact⟨rfl,f⟩
theorem pE{p:bB}{us:ByteArray}{vf:Nat->Bool}{e:Nat}{n:Nd}(g:p.nodes[e]? =some n)(j:n.kind=1\/n.kind=2\/n.kind=3\/((n.kind=4\/n.kind=5\/n.kind=6)/\0<=n.a/\n.a.toNat<e/\0<=n.b/\n.b.toNat<e)):
  cS p us vf (e+1)=(if n.kind=1 then decide (us∈p.fb)||(p.leads.getD e []).any vf
   else if n.kind=4 then cS p us vf (n.a.toNat+1)||cS p us vf (n.b.toNat+1)
   else if n.kind=5 then cS p us vf (n.a.toNat+1)&&cS p us vf (n.b.toNat+1)
   else if n.kind=6 then cS p us vf (n.a.toNat+1)&& !cS p us vf (n.b.toNat+1)
   else(p.leads.getD e []).any vf):=by
 rw[cS]
 simp only[g]
 by_cases c:n.op=true
 ·have d:n.kind=4\/n.kind=5\/n.kind=6:=by
   unfold Nd.op at c
   simp only[Bool.or_eq_true,beq_iff_eq]at c
   omega
  have f:n.a.toNat+1<=e/\n.b.toNat+1<=e:=by omega
  simp only[c,if_true]
  rw[dif_pos f]
  rcases d with h|h|h<;>simp[h]
 ·have d:n.kind=1\/n.kind=2\/n.kind=3:=by
   unfold Nd.op at c
   simp only[Bool.or_eq_true,beq_iff_eq]at c
   omega
  have i:n.op=false:=by simpa using c
  simp only[i,afz,if_false]
  rw[vF]
  rcases d with h|h|h<;>simp[h]
def Ku(l:List aO):Nat:=l.foldl (λa p=>if a<p.number then p.number else a) 0
def jb(b:Bool):List Value:=[.int .i64 1,.bool b,.int .i64 0,.string ⟨#[]⟩,sZ,sZ]
theorem qm.p4{R:aw}{cs:List Value}{j:J}(h:qm R cs j):cs.length=6:=by cases h;rfl
end Go.Proofs.YtdljmchhecoakaaGreat

/- What the law 'CoreErrors' uses. No condition. -/
import Derived.LoopIn
import Derived.LoopNIn
import Derived.OwnWalkIn
import Derived.RangeFuncBox
import Derived.RangeFuncLeaves
import Derived.Shelf.Abstract
import Derived.Shelf.SlIter.Collect
import Derived.TacticsInMore
import Derived.WalkKit
import Derived.Test.YtkkmbiojicgobaaGreatDoorKCoreErrorsN
import Derived.Test.YtkkmbiojicgobaaGreatDoorKCoreErrorsO
set_option linter.unusedSimpArgs false
set_option linter.unusedVariables false
namespace Go.Proofs.YtkkmbiojicgobaaGreatDoor
set_option linter.defProp false
def aev:=@List.size_toArray
def aew:=@List.length_cons
def aex:=@Array.replicate_succ
def aey:=@Array.replicate_zero
def aez:=@List.push_toArray
def aeA:=@List.append_toArray
def aeB:=@List.cons_append
def aeC:=@List.mem_singleton
open Tryz
section
set_option linter.unusedVariables false
set_option maxRecDepth 4000
open Go.RowKit Go.Shelf
attribute [local go_sem] Oper.semAt_some
def Nq:Ren where
 f:=λn=>if n=11 then 265 else n
 t:=λn=>if n=0 then 0 else if n=24 then 23 else if n=26 then 9 else if n=28 then 200 else if n=33 then 135 else n
 g:=λn=>n
theorem Np:SlLaysZ.n11 prog Nq where
 mixed:=mixed
 f11:=⟨"slices.AppendSeq[[]string,string]",by decide,by kernel_rfl⟩
 t0:=underlying0
 a0:=isAgg0
 z0:=sizeOf0
 v0:=zeroValue0
 t24:=underlying23
 a24:=isAgg23
 z24:=sizeOf23
 v24:=zeroValue23
 t26:=underlying9
 a26:=isAgg9
 z26:=sizeOf9
 v26:=zeroValue9
 t28:=underlying200
 a28:=isAgg200
 z28:=sizeOf200
 v28:=zeroValue200
 i26:=by kernel_rfl
def ov(P:Program)(F:Fence)(n:Nat)(g:Nat)(lb:Array Value)(xs:List (List UInt8))(N:Nat)(w:World):Prop:=
 ∀(l:Nat) (J:List (List UInt8)->World->Prop) (W:World),Below w.heap.size w W->AbidesFrom W.heap.size J->(∀ss W1,J ss W1->Below w.heap.size w W1)->
  (∀pre x W1,J pre W1->pre.length<N->YieldAt F (n-1) P l #[encStr x] W1 λe W'=>e=.returned (.bool true)/\J (pre++[x]) W'/\KeepsWalks W1 W')->
  J [] W->
  CallsIn F n P g (#[.func (.yield l) #[] #[]]++lb) W λe W'=>(∃v,e=.returned v)/\J xs W'
set_option maxRecDepth 100000 in
set_option maxHeartbeats 2000000 in
theorem Nn{P:Program}{ρ:Ren}(L:SlLaysZ.n11 P ρ)(F:Fence)(n:Nat)(J:F.fn (ρ.f 11))(B:F.round=none)(hn:2<=n)(g:Nat)(c:Array Value)(M:F.fn g)(H:∀args w,(callFunc g args).run P w=.ok (.enter g args) w)
  (xs:List (List UInt8))(N:Nat)(S:N<=maxLen)(T:N*16<=140737488355328)(w:World)(a1:ov P F (n-1) g c xs N w):
  CallsIn F n P (ρ.f 11) #[sZ,.func (.func g) #[] c] w λe w'=>∃v:Value,e=.returned v/\w'.ownsRow w.heap.size (ρ.t 26) 1 v xs.length (xs.map encStr)/\Below w.heap.size w w':=by
 have I:1<=n:=by omega
 have b2:=L.mixed;have t0:=L.t0;have a0:=L.a0;have z0:=L.z0;have v0:=L.v0;have b3:=L.t24;have a5:=L.a24;have c2:=L.z24;have b9:=L.v24;have b4:=L.t26;have a6:=L.a26;have c3:=L.z26;have c0:=L.v26;have b5:=L.t28;have a7:=L.a28;have c4:=L.z28;have c1:=L.v28
 have A:ρ.t 24≠ρ.t 26:=λe=>by have h:=L.t24;rw[e,L.t26]at h;cases h
 have u0:=run_underlying L.t0;have b6:=run_underlying L.t24;have b7:=run_underlying L.t26;have b8:=run_underlying L.t28
 obtain⟨_,_,E⟩:=L.f11
 refine callsIn_of_wp_marks E rfl J ?_ B
 simp only[SlBodyZ.n11_ntmps ρ,aev,aew,List.length_nil,Nat.reduceAdd,Nat.reduceSub,aex,aey,aez,aeA,List.nil_append,aeB]
 gi_wp2
 refine wpIn_rangeFunc ?_
 intro fn U
 rw[B]
 obtain⟨a,m⟩:∃a,w.alloc (.cells #[sZ] (ρ.t 24))=a:=⟨_,rfl⟩
 have Z:a.heap.size=w.heap.size+1:=by rw[<-m];simp
 have a2:a.heap[w.heap.size]? =some (.cells #[sZ] (ρ.t 24) (0,0)):=by rw[<-m];exact World.alloc_heap_new w _
 have o:Below w.heap.size w a:=by rw[<-m];exact(Below.refl _ w).alloc (Nat.le_refl _) _
 rw[m]
 obtain⟨b,j⟩:∃b,(a.alloc (.deferred (some []))).alloc (.loop (AnyZ.apRec ρ fn (.func (.func g) #[] c) w.heap.size a.heap.size .ready none))=b:=⟨_,rfl⟩
 have Y:∀k,k<a.heap.size->b.heap[k]? =a.heap[k]? :=λk V=>by
  rw[<-j];exact(Below.heap_alloc _ _ k (by simp;omega)).trans (Below.heap_alloc _ _ k V)
 have p:Below w.heap.size w b:=by rw[<-j];exact(o.alloc o.size _).alloc (by have:=o.size;simp;omega) _
 have b1:b.heap.size=a.heap.size+2:=by rw[<-j];simp
 have Q:AnyZ.ApAt ρ w fn (.func (.func g) #[] c) w.heap.size (a.heap.size+1) a.heap.size [] b:=
  ⟨⟨_,(Y w.heap.size (by omega)).trans a2,⟨rfl,.inl ⟨rfl,rfl⟩⟩,by simp⟩,
   by rw[<-j];have:=World.alloc_heap_new (a.alloc (.deferred (some []))) (.loop (AnyZ.apRec ρ fn (.func (.func g) #[] c) w.heap.size a.heap.size .ready none));rwa [World.size_alloc]at this,
   by rw[<-j];exact(Below.heap_alloc _ _ _ (by simp)).trans (World.alloc_heap_new a _),p⟩
 refine⟨a.heap.size+1,[{target:=.collected a.heap.size,args:=#[]}],b,{target:=.fn (.func g) c,args:=#[.func (.yield (a.heap.size+1)) #[] #[]]},b,g,
  #[.func (.yield (a.heap.size + 1)) #[] #[]] ++ c, b, ?_, ?_, ?_, ?_, λ _ => I, ?_⟩
 ·rw[<-j];exact run_enterLoop_outer _ _ _ _ _
 ·simp[resolve,go_sem]
 ·intro f' y;simp[Target.leads]at y;subst y;exact M
 ·simp[invoke,go_sem,H]
 ·refine(a1 (a.heap.size+1) (AnyZ.ApAt ρ w fn (.func (.func g) #[] c) w.heap.size (a.heap.size+1) a.heap.size) b p (AnyZ.ap_abides ρ _ _ _ _ _ _ _ p.size) (λss b h=>h.below)
   (λa4 x W O X=>AnyZ.apYield {L with} F (n-1-1) w fn U _ w.heap.size (a.heap.size+1) a.heap.size (by omega) (by omega) (by omega) (Nat.le_refl _) (by omega) N S T a4 x W O X) Q).mono ?_
  rintro e q ⟨⟨v0,rfl⟩,i⟩
  obtain⟨v,hv,C,b0⟩:=i.box
  have u:=run_endLoop (P:=P) i.L (by simp[AnyZ.apRec])
  obtain⟨d,l⟩:∃d,q.putObj (a.heap.size+1) (.loop {AnyZ.apRec ρ fn (.func (.func g) #[] c) w.heap.size a.heap.size .ready none with state:=.exhausted})=d:=⟨_,rfl⟩
  rw[l]at u
  have z:q.grownBy d (some (a.heap.size+1)):=by rw[<-l];exact grownBy_putObj_a _ _ _
  have a3:d.heap[w.heap.size]? =some (.cells #[v] (ρ.t 24) (0,0)):=by rw[<-l];exact(World.putObj_heap_other (by omega)).trans hv
  have r:d.heap[a.heap.size]? =some (.deferred (some [])):=by rw[<-l];exact(World.putObj_heap_other (by omega)).trans i.K
  have D:=C.kept z (ownsRow_ne_a C i.L (λG e=>by first|cases e|exact A (Obj.cells.inj e).2.1))
  have s:Below w.heap.size w d:=i.below.grown z i.below.size (λk e=>by cases e;omega)
  obtain⟨a8,a9⟩:=cell_of_box_a a3
  clear l
  refine⟨none,d,u,?_⟩
  gi_wp2
  rw[<-Z]
  refine⟨by simp,.inl ⟨_,_,rfl,run_takeDeferred r,?_⟩⟩
  exact⟨_,results_tmp rfl _ _ _,v,rfl,D.kept (grownBy_putObj_a _ _ _) (ownsRow_ne_a D r (λG e=>by first|cases e|exact A (Obj.cells.inj e).2.1)),s.grown (grownBy_putObj_a _ _ _) s.size (λk e=>by cases e;omega)⟩
def upto{α:Type}(f:Nat->α)(k:Nat):List α:=(List.range k).map f
theorem OA{α:Type}(f:Nat->α)(k:Nat):upto f (k+1)=upto f k++[f k]:=by simp[upto,List.range_succ]
theorem Oz{α:Type}(f:Nat->α)(k:Nat):(upto f k).length=k:=by simp[upto]
theorem Oy(zs:List (List UInt8)):upto (λj=>zs[j]?.getD []) zs.length=zs:=by
 apply List.ext_getElem
 ·simp[upto]
 ·intro i b a
  simp[upto,a]
set_option maxRecDepth 100000 in
set_option maxHeartbeats 2000000 in
theorem Nt(F:Fence)(n:Nat)(hF:F.fn 212)(hro:F.round=none)(hn:1<=n)(Bs b off len cap:Nat)(zs:List (List UInt8))(hreach:len*16<=140737488351232)(w:World)(hb:b<w.heap.size)(hB:Bs<w.heap.size)
  (hBs:w.cell? ⟨Bs,0,none⟩=some (.slice (some ⟨b,off,none⟩) len cap))(hc:∀j,j<len->w.cell? ⟨b,off+j,none⟩=some (encStr (zs[j]?.getD []))):
  ov prog F n 212 #[pT Bs] (upto (λj=>zs[j]?.getD []) len) len w:=λl J W hW hJ hJB hY h0=>by
 have hBs':=(hW.cell (p:=⟨Bs,0,none⟩) hB).trans hBs
 refine callsIn_of_wp func212 rfl hF ?_ hro
 simp only[ntmps212,aev,aew,List.length_nil,Nat.reduceAdd,Nat.reduceSub,aex,aey,aez,aeA,List.nil_append,aeB]
 gi_wp2
 gi_loopw [7] (λi wr=>∃k:Nat,k<=len/\i=.int .i64 k/\J (upto (λj=>zs[j]?.getD []) k) wr)
  (λi _=>len-(intOf i).toNat)
 case atStart=>exact⟨0,Nat.zero_le _,rfl,h0⟩
 case round=>
  obtain⟨k,hk,rfl,hJs⟩:=hrel
  have hcx:k<len->wr.cell? ⟨b,off+k,none⟩=some (encStr (zs[k]?.getD [])):=λh=>((hJB _ _ hJs).cell (p:=⟨b,off+k,none⟩) hb).trans (hc k (by omega))
  by_cases hlt:k<len
  ·obtain⟨fn,tmps,assign,body,hy,hR⟩:=hY _ (zs[k]?.getD []) wr hJs (by rw[Oz];exact hlt)
   have hcx':=hcx hlt
   gi_wp2
   refine hR.mono ?_
   rintro e W3 ⟨rfl,hJ3,hk3⟩
   gi_wp2
   go_roundw
   case rel=>exact⟨k+1,by omega,by simp,by rw[OA];exact hJ3⟩
   case measure=>simp[intOf];omega
  ·obtain rfl:k=len:=by omega
   gi_wp2
   go_end0
   exact⟨⟨_,rfl⟩,hJs⟩
theorem Nr(F:Fence)(n:Nat)(e:F.fn 212)(l:F.round=none)(i:1<=n)(a b off cap:Nat)(zs:List (List UInt8))(k:zs.length*16<=140737488351232)(w:World)(f:b<w.heap.size)(c:a<w.heap.size)
  (d:w.cell? ⟨a,0,none⟩=some (.slice (some ⟨b,off,none⟩) zs.length cap))(g:∀j,j<zs.length->w.cell? ⟨b,off+j,none⟩=some (encStr (zs[j]?.getD []))):
  ov prog F n 212 #[pT a] zs zs.length w:=by
 have h:=Nt F n e l i a b off zs.length cap zs k w f c d g
 rwa [Oy]at h
set_option maxRecDepth 100000 in
set_option maxHeartbeats 2000000 in
theorem Ns(F:Fence)(n:Nat)(e:F.fn 212)(h:F.round=none)(a cap:Nat)(p:Option Addr)(w:World)(c:a<w.heap.size)(d:w.cell? ⟨a,0,none⟩=some (.slice p 0 cap)):
  ov prog F n 212 #[pT a] [] 0 w:=λl J W g m o q b=>by
 have k:=(g.cell (p:=⟨a,0,none⟩) c).trans d
 refine callsIn_of_wp func212 rfl e ?_ h
 simp only[ntmps212,aev,aew,List.length_nil,Nat.reduceAdd,Nat.reduceSub,aex,aey,aez,aeA,List.nil_append,aeB]
 gi_wp2
 gi_loopw [7] (λi j=>i=.int .i64 0/\J [] j) (λ_ _=>0)
 case atStart=>exact⟨rfl,b⟩
 case round=>
  obtain⟨rfl,f⟩:=hrel
  gi_wp2
  go_end0
  exact⟨⟨_,rfl⟩,f⟩
theorem uQ(s:ByteArray):encStr s.data.toList=.string s:=by
 unfold encStr
 rw[Array.toArray_toList]
theorem vA:∀l:List ByteArray,l.flatMap bB=(l.map λs:ByteArray=>s.data.toList).map encStr
 |[]=>rfl
 |x::l=>by
  rw[List.flatMap_cons,vA l,List.map_cons,List.map_cons,uQ]
  rfl
theorem Nm(q:Value)(l:List ByteArray)(hl:l.length<=1000000)(b:Nat)(R:av)(h:RS R 1 bB q l) [pc:PC R (pT b) [q]]:
  Spec prog 265 [sZ,.func (.func 212) #[] #[pT b]] R [] λu H'=>∃T,H'=[T]/\OS 9 1 bB u l T:=by
 intro w a5 W
 have F:∀b o,R b o->w.heap[b]? =some o:=λb o d=>(W b o d).1
 obtain⟨b1,a6,c1,E1,a1,D,M,O⟩:=pc.h
 simp only[Value.pointer.injEq,Option.some.injEq,Addr.mk.injEq,and_true]at D
 obtain⟨rfl,rfl⟩:=D
 have A:=F _ _ M
 have z:w.cell? ⟨b,0,none⟩=some q:=by
  have:=O 0 (by simp)
  simp only[Nat.add_zero,List.getElem_cons_zero]at this
  simp[World.cell?,A,this]
 have y:=ln A
 obtain⟨p,r,rfl,a3,a4,X⟩:=h.h
 have Z:ov prog Fence.wide 3 212 #[pT b] (l.map λs=>s.data.toList) (l.map λs:ByteArray=>s.data.toList).length w:=by
  rcases X with rfl|⟨H,a0,c2,E2,a2,rfl,N,Y⟩
  ·exact Ns Fence.wide 3 trivial rfl b r p w y z
  ·have B:=F _ _ N
   refine Nr Fence.wide 3 trivial rfl (by omega) b H a0 r _ (by simp;omega) w (ln B) y (by simpa using z) λj n=>?_
   simp only[List.length_map]at n
   have m:=Y j (by rw[jP (sz:=1) h.len];omega)
   have c:=oS (enc:=bB) (sz:=1) (xs:=l) (i:=j) h.len (bC n) 0 (by omega)
   simp only[Nat.mul_one,Nat.add_zero]at c
   rw[c]at m
   simp only[World.cell?,B,List.getElem?_map,bC n,Option.map_some,Option.getD_some,uQ]
   simpa[bB]using m
 have Q:=callsIn_wide.1 (Nn Np Fence.wide 4 trivial rfl (by omega) 212 #[pT b] trivial (λG w=>(inferInstance:ay prog 212).h G w) _ _ (by simp;unfold maxLen;omega) (by simp;omega) w Z)
 refine Q.mono ?_
 rintro e w' ⟨v,rfl,⟨_,V⟩,a⟩
 rcases V with⟨rfl,J⟩|⟨g,I,t,rfl,S,U,K,L,m,c⟩
 ·obtain rfl:l=[]:=by simpa using J
  exact⟨_,[[]],rfl,⟨[],rfl,OS.nil⟩,⟨by simp,by simp⟩,⟨a.size,λb d _=>a.block b d,by simp,a.os,a.output,a.tape⟩⟩
 ·refine⟨_,[[(g,.cells t 9 (0,0))]],rfl,⟨_,rfl,λx _=>rfl,λx _ u E=>?_,.inr ⟨g,0,t,I,by simp,rfl,by simpa using K,L,by omega,?_⟩⟩,⟨by simp,λp f=>by
   simp only[List.flatten_cons,List.flatten_nil,List.append_nil,aeC]at f
   subst f
   exact U⟩,⟨a.size,λb d _=>a.block b d,?_,a.os,a.output,a.tape⟩⟩
  ·simp only[bB,aeC]at E
   subst E
   rfl
  ·intro k C
   have e:=vA l
   rw[e, <-c,Nat.zero_add]
   rw[e, <-c]at C
   rw[List.getElem?_take_of_lt (by rw[List.length_take]at C;omega),Array.getElem?_toList]
  ·intro p f
   simp only[List.flatten_cons,List.flatten_nil,List.append_nil,aeC]at f
   subst f
   exact .inr S
theorem Ni(a:Value)(l:List ByteArray)(d:l.length<=1000000)(b:Nat)(R:av)(h:RS R 1 bB a l) [pc:PC R (pT b) [a]]:
  Spec prog 211 [.func (.func 212) #[] #[pT b]] R [] λu H'=>∃T,H'=[T]/\OS 9 1 bB u l T:=by
 refine Spec.body func211 rfl results211 ntmps211 rfl ?_
 refine .sr<|.ag rfl<|.z<|.mo rfl ?_
 refine .da (Nm a l d b _ h.rx) (λu T c=>?_)
 have e:=c.aw
 refine .az rfl ?_
 refine .ret (aR _ (.one (.tmp rfl)) (.one [0] _) ?_)
 ·exact⟨_,rfl,by simpa[take]using c⟩
end
end Go.Proofs.YtkkmbiojicgobaaGreatDoor

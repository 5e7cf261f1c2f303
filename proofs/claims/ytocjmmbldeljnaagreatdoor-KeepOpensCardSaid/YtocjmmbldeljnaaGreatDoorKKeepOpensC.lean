/- What the law 'KeepOpens' uses. No condition. -/
import Derived.ChangeArms
import Derived.Deep.Slices
import Derived.ReadAgain
import Derived.Test.YtocjmmbldeljnaaGreatDoorKKeepOpensB
set_option linter.unusedSimpArgs false
set_option linter.unusedVariables false
set_option linter.unusedVariables false
namespace Go.Proofs.YtocjmmbldeljnaaGreatDoor
set_option linter.defProp false
def abL:=@List.mem_iff_getElem?
def abM:=@List.mem_append_left
section
open Go.ChangeShapes Go.WideShapes Go.Deep
def Rw(W:World):ao:=λb o=>W.heap[b]? =some o
section
variable{H:Type}{enc:TypeId×Value->H}{P:Program}{W W':World}
class hU(P:Program)(t:TypeId)(ks:outParam (List CK)):Prop where
 n:P.cellsOf t=ks.length
 h:∀{H:Type} (enc:TypeId×Value->H) (w:World) (base:Nat) (sp:Nat->Bool) (held:Bool) (f:Nat) (cs:List Value) x,DataW.trod enc P w base sp held f t cs=some x->dw ks cs
theorem hU.int{t:TypeId}{k:IntKind}(u:bh P t (.int k))(a:P.cellsOf t=1):hU P t [.i k]:=⟨a,λe w c j g f d x b=>by
 obtain⟨n,rfl,_,_⟩:=DataW.trod_int u.h b
 exact⟨rfl,trivial⟩⟩
theorem hU.str{t:TypeId}(u:bh P t .string)(b:P.cellsOf t=1):hU P t [.s]:=⟨b,λe w c i g f d x a=>by
 cases f with
 |zero=>simp[DataW.trod]at a
 |succ f=>
  unfold DataW.trod at a
  rw[u.h]at a
  split at a<;>simp_all[dw,gQ]⟩
theorem hU.bool{t:TypeId}(u:bh P t .bool)(c:P.cellsOf t=1):hU P t [.b]:=⟨c,λg w d j i f e x a=>by
 cases f with
 |zero=>simp[DataW.trod]at a
 |succ f=>
  unfold DataW.trod at a
  rw[u.h]at a
  split at a<;>simp_all[dw,gQ]⟩
structure zi(P:Program)(off:Nat)(fs:List Field)(ks:List CK):Prop where
 h:∀{H:Type} (enc:TypeId×Value->H) (w:World) (base:Nat) (sp:Nat->Bool) (held:Bool) (cs:List Value),off+ks.length=cs.length->
  (∀f∈fs,∃n x,DataW.trod enc P w base sp held n f.type ((cs.drop f.offset).take (P.cellsOf f.type))=some x)->dw ks (cs.drop off)
theorem hU.struct{t:TypeId}{a:Array Field}{ks:List CK}(u:P.underlying t=some (.struct a))(c:P.cellsOf t=ks.length)(h:zi P 0 a.toList ks):hU P t ks:=⟨c,λj w d v l f e x s=>by
 obtain⟨z,n,_,_,r,y,m⟩:=DataW.trod_struct u s
 have:=h.h j w d v l e (by rw[r,c];simp) λg o=>by
  obtain⟨i,p,k⟩:=List.mem_iff_getElem.1 o
  have q:i<a.size:=by simpa using p
  have b:=m i g (by rw[Array.getElem?_eq_getElem q];simpa using k)
  rw[bd (by omega)]at b
  exact⟨n,_,b⟩
 simpa using this⟩
theorem dw.bU:∀{ks:List CK} {cs:List Value},dw ks cs->∀u∈cs,ay u=true
 |[],[],_,u,hu=>by cases hu
 |k::ks,v::cs,h,u,hu=>by
  rcases List.mem_cons.1 hu with rfl|hu
  ·have:=h.1
   cases k<;>cases u<;>simp_all[gQ,ay]
  ·exact dw.bU h.2 u hu
def mz{α:Type}(W:World)(a:Addr)(sz i:Nat)(z:α)(en:α->List Value):Prop:=(en z).length=sz/\(∀u∈en z,ay u=true)/\∀j,j<sz->W.cell? (a.add (i*sz+j))=(en z)[j]?
theorem sN{α:Type}(p:Nat->α->Prop):∀n,(∀i,i<n->∃z,p i z)->∃xs:List α,n=xs.length/\∀i x,xs[i]? =some x->p i x
 |0,_=>⟨[],rfl,by simp⟩
 |n+1,h=>by
  obtain⟨xs,b,c⟩:=sN p n λi hi=>h i (by omega)
  obtain⟨z,d⟩:=h n (by omega)
  refine⟨xs++[z],by simp[<-b],λi x a=>?_⟩
  rcases Nat.lt_trichotomy i xs.length with hi|hi|hi
  ·rw[List.getElem?_append_left hi]at a;exact c i x a
  ·subst hi;simp at a;subst a;rw[<-b];exact d
  ·rw[List.getElem?_eq_none (by simp;omega)]at a;cases a
theorem RS.Q5{α:Type}{t e sz:Nat}{en:α->List Value}{v:Value}{d:DataW H}{ps:List MemPlace}{r:Reach}{V:Nat}(T:P.underlying t=some (.slice e))(hc:P.cellsOf e=sz)(S:0<sz)(a3:Value.okWide P W r V t v)
  (h:DataW.Trod enc P W 0 (λ_=>true) true t v d ps)(hd:∀n cs x,DataW.trod enc P W 0 (λ_=>true) true n e cs=some x->cs.length=sz/\(∀u∈cs,Go.Proofs.YtocjmmbldeljnaaGreatDoor.ay u=true)/\∃z,en z=cs):∃xs,RS (Rw W) sz en v xs:=by
 obtain⟨p,C,G,rfl⟩:=okWide_slice T a3
 obtain⟨f,M⟩:=h
 have a2:(Value.slice p C G).cells.toList=[.slice p C G]:=rfl
 rw[a2]at M
 rcases open_slice T M with⟨s,_⟩|⟨a,a7,a6,m,n,D,Pl,s,_,h3,h4,J,_,g⟩
 ·simp only[List.cons.injEq,Value.slice.injEq,and_true]at s
  obtain⟨rfl,rfl,rfl⟩:=s
  exact⟨[],by simp,by simp,none,0,rfl,by simp,by simp[maxLen],.inl rfl⟩
 ·simp only[List.cons.injEq,Value.slice.injEq,and_true]at s
  obtain⟨rfl,rfl,rfl⟩:=s
  simp only[if_true]at J
  subst J
  rw[hc]at g
  have hz:∀i,i<C->∃z,mz W a sz i z en:=λi w=>by
   obtain⟨X,h6,h7⟩:=g i (by omega)
   obtain⟨Y,Z,z,F⟩:=hd n X _ h7
   obtain⟨_,_,h8⟩:=World.cells?_some h6
   exact⟨z,by rw[F];exact Y,by rw[F];exact Z,λj y=>by rw[F, <-h8 j y,add_add]⟩
  obtain⟨xs,a4,a5⟩:=sN (λi z=>mz W a sz i z en) C hz
  subst a4
  have B:∀(i:Nat) (x:α),xs[i]? =some x->mz W a sz i x en:=a5
  have A:∀x∈xs,∃i,mz W a sz i x en:=λx g=>by
   obtain⟨i,w⟩:=abL.1 g
   exact⟨i,B i x w⟩
  refine⟨xs,λx g=>(A x g).elim λ_ h=>h.1,λx g=>(A x g).elim λ_ h=>h.2.1,some a,_,rfl,h3,h4,?_⟩
  cases xs with
  |nil=>exact .inl rfl
  |cons x0 xs=>
   right
   have b:=(B 0 x0 rfl).2.2 0 S
   have l:=(B 0 x0 rfl).1
   simp only[Nat.zero_mul,Nat.zero_add]at b
   have a0:a.add 0=a:=by simp[Addr.add]
   rw[a0]at b
   unfold World.cell? at b
   cases hb:W.heap[a.block]? with
   |none=>rw[hb]at b;simp at b;rw[b]at l;simp at l;omega
   |some o=>
    rw[hb]at b
    cases o with
    |cells c E fr=>
     simp only at b
     have Q:a.spot=none:=by
      cases hs:a.spot with
      |none=>rfl
      |some q=>rw[hs]at b;simp at b;rw[b]at l;simp at l;omega
     have L:a=⟨a.block,a.off,none⟩:=by cases a;simp at Q⊢;exact Q
     refine⟨a.block,a.off,c,E,fr,by rw[<-L],hb,λk N=>?_⟩
     have hl:((x0::xs).flatMap en).length=(x0::xs).length*sz:=gU λx g=>(A x g).elim λ_ h=>h.1
     rw[hl]at N
     have w:k/sz<(x0::xs).length:=Nat.div_lt_of_lt_mul (by rw[Nat.mul_comm];exact N)
     obtain⟨x,U⟩:=dM w
     have y:k % sz<sz:=Nat.mod_lt _ S
     have K:=(B _ x U).2.2 (k % sz) y
     have O:k/sz*sz+k % sz=k:=Nat.div_add_mod' k sz
     rw[O]at K
     have I:=qg (enc:=en) (λx g=>(A x g).elim λ_ h=>h.1) U (k % sz) y
     rw[O]at I
     rw[I, <-K]
     have a1:a.add k=⟨a.block,a.off+k,none⟩:=by rw[L];exact kO _ _ _
     rw[a1]
     simp[World.cell?,hb]
    |_=>simp at b;rw[b]at l;simp at l;omega
theorem L9{W a:World}(f:Frame W [] a []){p:MemPlace}(c:p.block<W.heap.size):W.sameAt a p:=by
 have h:=λb (d:b<W.heap.size)=>f.gg b d (by simp)
 cases p with
 |cell b off=>
  have:=h b c
  show a.cell? ⟨b,off,none⟩=W.cell? ⟨b,off,none⟩
  unfold World.cell?
  simp only[this]
 |map b=>exact h b c
theorem L8{W a:World}(f:Frame W [] a [])(c:MemPlace->Prop):W.keptBut a c:=by
 refine⟨f.os,f.output,λi b=>?_⟩
 rw[f.gg i b (by simp)]
 cases h:W.heap[i]? with
 |none=>simp
 |some o=>cases o<;>simp
theorem again{W b:World}(K:Kids P (· <P.types.size))(m:∀t e,t<P.types.size->P.underlying t=some (.slice e)->0<P.cellsOf e)(f:Frame W [] b []){g:Nat->Bool}:∀{ts:List TypeId} {vs:List Value} {ds:List (DataW H)} {ps:List MemPlace},
  (∀t∈ts,t<P.types.size)->DataW.TrodAll enc P W 0 (λ_=>true) true ts vs ds ps->(∀p∈ps,p.block<W.heap.size)->(∀p∈ps,g p.block=true)->DataW.TrodAll enc P b 0 g true ts vs ds ps:=by
 intro ts vs ds ps k h a l
 refine DataW.TrodAll.respare K m k ?_ l
 have o:∀{ts:List TypeId} {vs:List Value} {ds:List (DataW H)} {ps:List MemPlace},DataW.TrodAll enc P W 0 (λ_=>true) true ts vs ds ps->(∀p∈ps,p.block<W.heap.size)->DataW.TrodAll enc P b 0 (λ_=>true) true ts vs ds ps:=by
  intro ts
  induction ts with
  |nil=>
   intro vs ds ps h _
   obtain⟨rfl,rfl,rfl⟩:=trodAll_nil h
   exact trodAll_mk0
  |cons t ts ih=>
   intro vs ds ps h a
   obtain⟨v,s,d,r,p,q,rfl,rfl,rfl,⟨n,i⟩,j⟩:=trodAll_cons h
   exact⟨p,q,⟨n,DataW.trod_carry n _ _ _ i λx c=>L9 f (a x (abM _ c))⟩,ih j λx c=>a x (List.mem_append_right _ c),rfl⟩
 exact o h a
theorem Od{f:Func}{s:ChangeSpec}{i:Array Value}{v:Value}{a c:List (DataW H)}{k:List MemPlace}(K:Kids P (· <P.types.size))(y:∀t e,t<P.types.size->P.underlying t=some (.slice e)->0<P.cellsOf e)
  (m:∀t∈f.params.toList,t<P.types.size)(d:DataW.Whole enc P f.params.toList s.vars false W i.toList a c k)(u:s.vars=[])(o:(s.fn H (a++c)).args=a)(w:(s.fn H (a++c)).vars=[])
  (r:∀b sp hd,DataW.TrodAll enc P W' b sp hd f.resultTypes.toList (v.resultList f.resultTypes.size) (s.fn H (a++c)).results [])(fr:Frame W [] W' []):s.post enc P f false true false false W i v W':=by
 have j:=d.lt
 have n:=d
 obtain⟨p,q,l,z,rfl,_,_⟩:=d
 refine⟨a,c,_,[],p,[],n,r _ _ _,?_,?_,L8 fr _,λh=>by cases h⟩
 ·rw[o]
  exact again K y fr m l (λx g=>j x (abM _ g)) λx g=>by simpa using j x (abM _ g)
 ·rw[u,w];rfl
end
end
section
open Go.ChangeShapes Go.WideShapes Go.Deep
section
variable{H:Type}{enc:TypeId×Value->H}{P:Program}{W W':World}
theorem RS.qF{α:Type}{t e sz f:Nat}{en:α->List Value}{D:α->Prop}{cs:List Value}{x:DataW H×List MemPlace}(ht:P.underlying t=some (.slice e))(hc:P.cellsOf e=sz)(K:0<sz)
  (hf:DataW.trod enc P W 0 (λ_=>true) true f t cs=some x)(hd:∀n cs x,DataW.trod enc P W 0 (λ_=>true) true n e cs=some x->cs.length=sz/\(∀u∈cs,Go.Proofs.YtocjmmbldeljnaaGreatDoor.ay u=true)/\∃z,en z=cs/\D z):
  ∃v xs,cs=[v]/\RS (Rw W) sz en v xs/\∀x∈xs,D x:=by
 rcases open_slice ht hf with⟨y,_⟩|⟨a,N,a3,m,n,Dd,Pl,y,_,U,V,B,_,b⟩
 ·exact⟨_,[],y,⟨by simp,by simp,none,0,rfl,by simp,by simp[maxLen],.inl rfl⟩,by simp⟩
 ·simp only[if_true]at B
  subst B
  rw[hc]at b
  have hz:∀i,i<N->∃z,mz W a sz i z en/\D z:=λi g=>by
   obtain⟨O,X,Y⟩:=b i (by omega)
   obtain⟨Q,S,z,w,T⟩:=hd n O _ Y
   obtain⟨_,_,Z⟩:=World.cells?_some X
   exact⟨z,⟨by rw[w];exact Q,by rw[w];exact S,λj p=>by rw[w, <-Z j p,add_add]⟩,T⟩
  obtain⟨xs,a2,M⟩:=sN (λi z=>mz W a sz i z en/\D z) N hz
  subst a2
  have s:∀(i:Nat) (x:α),xs[i]? =some x->mz W a sz i x en:=λi x h=>(M i x h).1
  have hD:∀x∈xs,D x:=λx b=>by
   obtain⟨i,g⟩:=abL.1 b
   exact(M i x g).2
  have r:∀x∈xs,∃i,mz W a sz i x en:=λx b=>by
   obtain⟨i,g⟩:=abL.1 b
   exact⟨i,s i x g⟩
  refine⟨_,xs,y,⟨λx b=>(r x b).elim λ_ h=>h.1,λx b=>(r x b).elim λ_ h=>h.2.1,some a,_,rfl,U,V,?_⟩,hD⟩
  cases xs with
  |nil=>exact .inl rfl
  |cons x0 xs=>
   right
   have d:=(s 0 x0 rfl).2.2 0 K
   have l:=(s 0 x0 rfl).1
   simp only[Nat.zero_mul,Nat.zero_add]at d
   have a0:a.add 0=a:=by simp[Addr.add]
   rw[a0]at d
   unfold World.cell? at d
   cases hb:W.heap[a.block]? with
   |none=>rw[hb]at d;simp at d;rw[d]at l;simp at l;omega
   |some o=>
    rw[hb]at d
    cases o with
    |cells c E fr=>
     simp only at d
     have J:a.spot=none:=by
      cases hs:a.spot with
      |none=>rfl
      |some q=>rw[hs]at d;simp at d;rw[d]at l;simp at l;omega
     have F:a=⟨a.block,a.off,none⟩:=by cases a;simp at J⊢;exact J
     refine⟨a.block,a.off,c,E,fr,by rw[<-F],hb,λk G=>?_⟩
     have hl:((x0::xs).flatMap en).length=(x0::xs).length*sz:=gU λx b=>(r x b).elim λ_ h=>h.1
     rw[hl]at G
     have g:k/sz<(x0::xs).length:=Nat.div_lt_of_lt_mul (by rw[Nat.mul_comm];exact G)
     obtain⟨x,L⟩:=dM g
     have p:k % sz<sz:=Nat.mod_lt _ K
     have C:=(s _ x L).2.2 (k % sz) p
     have I:k/sz*sz+k % sz=k:=Nat.div_add_mod' k sz
     rw[I]at C
     have A:=qg (enc:=en) (λx b=>(r x b).elim λ_ h=>h.1) L (k % sz) p
     rw[I]at A
     rw[A, <-C]
     have a1:a.add k=⟨a.block,a.off+k,none⟩:=by rw[F];exact kO _ _ _
     rw[a1]
     simp[World.cell?,hb]
    |_=>simp at d;rw[d]at l;simp at l;omega
theorem zP{b:Array Field}{t:TypeId}{v:Value}{d:DataW H}{ps:List MemPlace}{r:Reach}{a:Nat}(e:P.underlying t=some (.struct b))(g:Value.okWide P W r a t v)(h:DataW.Trod enc P W 0 (λ_=>true) true t v d ps):
  ∃cs:List Value,v=.agg cs.toArray/\∃f,DataW.trod enc P W 0 (λ_=>true) true f t cs=some (d,ps):=by
 obtain⟨cs,rfl,i⟩:=okWide_struct e g
 obtain⟨f,c⟩:=h
 exact⟨cs.toList,by simp,f,c⟩
theorem nT{a:Array Field}{t f:Nat}{cs:List Value}{x:DataW H×List MemPlace}(j:P.underlying t=some (.struct a))(h:DataW.trod enc P W 0 (λ_=>true) true f t cs=some x):
  cs.length=P.cellsOf t/\∀(i:Nat) (g:Field),a[i]? =some g->∃n y,DataW.trod enc P W 0 (λ_=>true) true n g.type ((cs.drop g.offset).take (P.cellsOf g.type))=some y:=by
 obtain⟨m,n,_,_,e,l,d⟩:=DataW.trod_struct j h
 refine⟨e,λi g c=>?_⟩
 have b:=d i g c
 have k:i<a.size:=by
  obtain⟨h,_⟩:=Array.getElem?_eq_some_iff.1 c
  exact h
 rw[bd (by omega)]at b
 exact⟨n,_,b⟩
end
end
end Go.Proofs.YtocjmmbldeljnaaGreatDoor

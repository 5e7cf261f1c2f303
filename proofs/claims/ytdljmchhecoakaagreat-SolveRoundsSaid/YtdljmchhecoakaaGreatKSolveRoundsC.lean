/- What the law 'SolveRounds' uses. No condition. -/
import Derived.ChangeArms
import Derived.Deep.Slices
import Derived.ReadAgain
import Derived.Test.YtdljmchhecoakaaGreatKSolveRoundsB
set_option linter.unusedVariables false
namespace Go.Proofs.YtdljmchhecoakaaGreat
set_option linter.defProp false
def ab2:=@List.mem_append_left
section
open Go.ChangeShapes Go.WideShapes Go.Deep
def Rw(W:World):aw:=λb o=>W.heap[b]? =some o
section
variable{H:Type}{enc:TypeId×Value->H}{P:Program}{W W':World}
class nW(P:Program)(t:TypeId)(ks:outParam (List CK)):Prop where
 n:P.cellsOf t=ks.length
 h:∀{H:Type} (enc:TypeId×Value->H) (w:World) (base:Nat) (sp:Nat->Bool) (held:Bool) (f:Nat) (cs:List Value) x,DataW.trod enc P w base sp held f t cs=some x->eo ks cs
theorem nW.str{t:TypeId}(u:bS P t .string)(b:P.cellsOf t=1):nW P t [.s]:=⟨b,λe w c i g f d x a=>by
 cases f with
 |zero=>simp[DataW.trod]at a
 |succ f=>
  unfold DataW.trod at a
  rw[u.h]at a
  split at a<;>simp_all[eo,kO]⟩
theorem nW.bool{t:TypeId}(u:bS P t .bool)(c:P.cellsOf t=1):nW P t [.b]:=⟨c,λg w d j i f e x a=>by
 cases f with
 |zero=>simp[DataW.trod]at a
 |succ f=>
  unfold DataW.trod at a
  rw[u.h]at a
  split at a<;>simp_all[eo,kO]⟩
structure Ay(P:Program)(off:Nat)(fs:List Field)(ks:List CK):Prop where
 h:∀{H:Type} (enc:TypeId×Value->H) (w:World) (base:Nat) (sp:Nat->Bool) (held:Bool) (cs:List Value),off+ks.length=cs.length->
  (∀f∈fs,∃n x,DataW.trod enc P w base sp held n f.type ((cs.drop f.offset).take (P.cellsOf f.type))=some x)->eo ks (cs.drop off)
theorem nW.struct{t:TypeId}{a:Array Field}{ks:List CK}(u:P.underlying t=some (.struct a))(c:P.cellsOf t=ks.length)(h:Ay P 0 a.toList ks):nW P t ks:=⟨c,λj w d v l f e x s=>by
 obtain⟨z,n,_,_,r,y,m⟩:=DataW.trod_struct u s
 have:=h.h j w d v l e (by rw[r,c];simp) λg o=>by
  obtain⟨i,p,k⟩:=List.mem_iff_getElem.1 o
  have q:i<a.size:=by simpa using p
  have b:=m i g (by rw[Array.getElem?_eq_getElem q];simpa using k)
  rw[aQ (by omega)]at b
  exact⟨n,_,b⟩
 simpa using this⟩
theorem JQ{W a:World}(f:Frame W [] a []){p:MemPlace}(c:p.block<W.heap.size):W.sameAt a p:=by
 have h:=λb (d:b<W.heap.size)=>f.ga b d (by simp)
 cases p with
 |cell b off=>
  have:=h b c
  show a.cell? ⟨b,off,none⟩=W.cell? ⟨b,off,none⟩
  unfold World.cell?
  simp only[this]
 |map b=>exact h b c
theorem JP{W a:World}(f:Frame W [] a [])(c:MemPlace->Prop):W.keptBut a c:=by
 refine⟨f.os,f.output,λi b=>?_⟩
 rw[f.ga i b (by simp)]
 cases h:W.heap[i]? with
 |none=>simp
 |some o=>cases o<;>simp
theorem again{W b:World}(K:Kids P (· <P.types.size))(m:∀t e,t<P.types.size->P.underlying t=some (.slice e)->0<P.cellsOf e)(f:Frame W [] b []){g:Nat->Bool}:∀{ts:List TypeId} {vs:List Value} {ds:List (DataW H)} {ps:List MemPlace},
  (∀t∈ts,t<P.types.size)->DataW.TrodAll enc P W 0 (λ_=>true) true ts vs ds ps->(∀p∈ps,p.block<W.heap.size)->(∀p∈ps,g p.block=true)->DataW.TrodAll enc P b 0 g true ts vs ds ps:=by
 intro ts vs ds ps k h a l
 refine DataW.TrodAll.respare K m k ?_ l
 have o:∀{ts:List TypeId} {vs:List Value} {ds:List (DataW H)} {ps:List MemPlace},DataW.TrodAll enc P W 0 (λ_=>true) true ts vs ds ps->(∀p∈ps,p.block<W.heap.size)->DataW.TrodAll enc P b 0 (λ_=>true) true ts vs ds ps:=by
  intro ts
  induction ts with
  |nil=>
   intro vs ds ps h _
   obtain⟨rfl,rfl,rfl⟩:=trodAll_nil h
   exact trodAll_mk0
  |cons t ts ih=>
   intro vs ds ps h a
   obtain⟨v,s,d,r,p,q,rfl,rfl,rfl,⟨n,i⟩,j⟩:=trodAll_cons h
   exact⟨p,q,⟨n,DataW.trod_carry n _ _ _ i λx c=>JQ f (a x (ab2 _ c))⟩,ih j λx c=>a x (List.mem_append_right _ c),rfl⟩
 exact o h a
theorem Li{f:Func}{s:ChangeSpec}{i:Array Value}{v:Value}{a c:List (DataW H)}{k:List MemPlace}(K:Kids P (· <P.types.size))(y:∀t e,t<P.types.size->P.underlying t=some (.slice e)->0<P.cellsOf e)
  (m:∀t∈f.params.toList,t<P.types.size)(d:DataW.Whole enc P f.params.toList s.vars false W i.toList a c k)(u:s.vars=[])(o:(s.fn H (a++c)).args=a)(w:(s.fn H (a++c)).vars=[])
  (r:∀b sp hd,DataW.TrodAll enc P W' b sp hd f.resultTypes.toList (v.resultList f.resultTypes.size) (s.fn H (a++c)).results [])(fr:Frame W [] W' []):s.post enc P f false true false false W i v W':=by
 have j:=d.lt
 have n:=d
 obtain⟨p,q,l,z,rfl,_,_⟩:=d
 refine⟨a,c,_,[],p,[],n,r _ _ _,?_,?_,JP fr _,λh=>by cases h⟩
 ·rw[o]
  exact again K y fr m l (λx g=>j x (ab2 _ g)) λx g=>by simpa using j x (ab2 _ g)
 ·rw[u,w];rfl
end
end
section
open Go.ChangeShapes Go.WideShapes Go.Deep
end
end Go.Proofs.YtdljmchhecoakaaGreat

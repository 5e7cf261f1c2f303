/- What the law 'ExpandRight' uses. No condition. -/
import Derived.Lib.Overlaps
import Derived.Test.YtenilfmlfldogaaGreatDoorKExpandRightB
set_option linter.unusedVariables false
namespace Go.Proofs.YtenilfmlfldogaaGreatDoor
set_option linter.defProp false
def ab6:=@List.eq_of_mem_replicate
def ab7:=@List.length_replicate
section
end
section
theorem wF{α:Type}{l:List α}{i:Nat}{x:α}(h:l[i]? =some x):l.drop i=x::l.drop (i+1):=by
 obtain⟨a,b⟩:=List.getElem?_eq_some_iff.1 h
 rw[<-b];exact List.drop_eq_getElem_cons a
section
variable{P:Program}{N:Nat}{R:aw}{ops:Array Oper}{l:List Oper}{env:Env}{H:aN}{K:Env->aN->Prop}{T:aH}{upd:aH->aN}{ty:TypeId}{pos:String}{af:Array Edge}{α:Type}
theorem RS.iB{R:aw}{b E lo n cap:Nat}{vs:List Value}{fr:Nat×Nat}(d:R b (.cells vs.toArray E fr))(ho:∀u∈vs,Go.Proofs.YtenilfmlfldogaaGreatDoor.aq u=true)(m:lo+n<=vs.length)(i:n<=cap)(f:cap<=maxLen):RS R 1 (λv:Value=>[v]) (.slice (some ⟨b,lo,none⟩) n cap) ((vs.drop lo).take n):=by
 have g:((vs.drop lo).take n).length=n:=by rw[List.length_take,List.length_drop];omega
 have e:∀l:List Value,l.flatMap (λv=>[v])=l:=λl=>by induction l with|nil=>rfl|cons a l ih=>simp[ih]
 refine⟨λ_ _=>rfl,λv h u c=>?_,_,cap,by rw[g],by omega,f,.inr ⟨b,lo,_,E,fr,rfl,d,?_⟩⟩
 ·simp only[List.mem_singleton]at c
  subst c
  exact ho _ (List.mem_of_mem_drop (List.mem_of_mem_take h))
 ·rw[e]
  intro k j
  rw[List.getElem?_take_of_lt (by omega),List.getElem?_drop,List.getElem?_toArray]
theorem aO.makeSlice{d:Nat}{t e:TypeId}{x y:Operand}{k r:Nat}{o:Value}{enc:α->List Value}(n:Nat)(z:α) [ut:bS P t (.slice e)] [s:Sz P e k] [C:By P e r] [zr:Zr P e o](B:o.cells=(enc z).toArray)(p:(enc z).length=k)(X:0<k)(ho:∀u∈enc z,Go.Proofs.YtenilfmlfldogaaGreatDoor.aq u=true)
  (f:ev env x=some (iN n))(hy:ev env y=some (iN n))(Y:r*n<=2^48)(a5:n<=9223372036854775807)
  (Z:∀b T,OS e k enc (.slice (some ⟨b,0,none⟩) n n) (List.replicate n z) T->aO false P N R ops l ((d,.slice (some ⟨b,0,none⟩) n n)::env) (T::H) K)(O:Nat.blt d N=true:=by rfl):
  aO false P N R ops (⟨some d,.makeSlice t x y,ty,pos,af,none⟩::l) env H K:=
 aO.mv O λa w A a4 ro=>by
  obtain⟨i,U,V⟩:=C.h w
  have hw:IntKind.i64.wrap (n:Int)=n:=IntWalk.i64_in _ (by omega)
  have I:∀m,(askRoom m).run P w=.ok () w:=λm=>by unfold askRoom;split<;>rfl
  have a3:(o.cells).size=k:=by rw[B];simpa using p
  have J:¬((i.bytes:Int)*(n:Int)>2^48):=by
   rw[V]
   have:((r*n:Nat):Int)<=((2^48:Nat):Int):=Int.ofNat_le.2 Y
   rw[Int.natCast_mul]at this
   omega
  have a1:∃c:Array Value,((Array.range (n*k)).map (λj=>(if n*k=0 then #[]else o.cells)[j % (if n*k=0 then #[]else o.cells).size]!))=c/\c.size=n*k/\Row c 0 ((List.replicate n z).flatMap enc):=by
   refine⟨_,rfl,by simp,?_⟩
   intro j g
   have Q:∀m:Nat,((List.replicate m z).flatMap enc).length=m*k:=λm=>by
    rw[jg (sz:=k) (λx f=>by rw[ab6 f];exact p),ab7]
   rw[Q]at g
   have a0:¬n*k=0:=by omega
   have S:∀m j:Nat,j<m*k->((List.replicate m z).flatMap enc)[j]? =(enc z)[j % k]? :=by
    intro m
    induction m with
    |zero=>intro j g;omega
    |succ m ih=>
     intro j g
     rw[List.replicate_succ,List.flatMap_cons]
     by_cases h:j<k
     ·rw[List.getElem?_append_left (by omega),Nat.mod_eq_of_lt h]
     ·rw[List.getElem?_append_right (by omega),p,ih (j-k) (by rw[Nat.add_mul,Nat.one_mul]at g;omega),Nat.mod_eq_sub_mod (a:=j) (b:=k) (by omega)]
   rw[S n j g,Nat.zero_add]
   simp only[if_neg a0]
   have W:j % k<k:=Nat.mod_lt _ X
   rw[Array.getElem?_map,Array.getElem?_range,if_pos g,Option.map_some,a3]
   have G:o.cells[j % k]! =(enc z)[j % k]'(by omega):=by
    rw[B]
    simp[getElem!_pos,p,W]
   rw[G,bE (by omega)]
  obtain⟨c,q,M,L⟩:=a1
  have a2:(Instr.makeSlice t (iN n) (iN n)).run P w=.ok (.slice (some ⟨w.heap.size,0,none⟩) n n) (w.alloc (.cells c e)):=by
   simp only[Instr.makeSlice,Sem.run_bind,run_underlying ut.h,Result.andThen_ok,asInt,asIntOf,Sem.run_pure,U,hw]
   have D:decide ((i.bytes:Int)*(n:Int)>2^48)=false:=decide_eq_false J
   have E:decide ((n:Int)>(n:Int))=false:=decide_eq_false (by omega)
   have F:decide ((n:Int)<0)=false:=decide_eq_false (by omega)
   simp only[D,E,F,Bool.or_false,Bool.false_eq_true,if_false,Int.toNat_natCast]
   simp only[Sem.run_bind,I,s.h,Result.andThen_ok]
   by_cases v:n*k=0
   ·simp only[if_pos v]at q⊢
    simp only[Sem.run_bind,Sem.run_pure,Result.andThen_ok,q,lU]
   ·simp only[if_neg v]at q⊢
    simp only[Sem.run_bind,Sem.run_pure,Result.andThen_ok,zr.h,q,lU]
  refine⟨.slice (some ⟨w.heap.size,0,none⟩) n n,w.alloc (.cells c e),[(w.heap.size,.cells c e (0,0))]::H,?_,Frame.alloc w H _,Sat.alloc a4 _,Z _ _ ?_⟩
  ·simp[execOp,A.eval f,A.eval hy,a2]
  ·refine⟨λx f=>by rw[ab6 f];exact p,λx f=>by rw[ab6 f];exact ho,.inr ⟨w.heap.size,0,c,n,by rw[ab7],rfl,by rw[ab7];exact Nat.le_refl _,by unfold maxLen;omega,by rw[M];omega,L⟩⟩
end
end
end Go.Proofs.YtenilfmlfldogaaGreatDoor

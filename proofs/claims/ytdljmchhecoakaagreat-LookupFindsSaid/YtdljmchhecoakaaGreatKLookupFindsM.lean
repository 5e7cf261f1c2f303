/- What the law 'LookupFinds' uses. No condition. -/
import Derived.Test.YtdljmchhecoakaaGreatKLookupFindsB
import Derived.Test.YtdljmchhecoakaaGreatKLookupFindsF
import Derived.Test.YtdljmchhecoakaaGreatKLookupFindsH
import Derived.Test.YtdljmchhecoakaaGreatKLookupFindsL
namespace Go.Proofs.YtdljmchhecoakaaGreat
set_option linter.defProp false
def ael:=@Bool.and_eq_true
def aem:=@decide_eq_true_eq
set_option linter.unusedVariables false
set_option linter.unusedSimpArgs false
set_option maxRecDepth 4000
structure RL(S:cT)(L:List bB):Prop where
 pm:L.Perm S.rows
 st:tW L
theorem Du{α:Type}{p:α->Bool}{L M:List α}(h:L.Perm M):L.any p=M.any p:=by
 rw[Bool.eq_iff_iff,List.any_eq_true,List.any_eq_true]
 exact exists_congr λx=>and_congr_left λ_=>h.mem_iff
theorem CA{L M:List bB}(h:L.Perm M)(t:aB):dw L t=dw M t:=Du h
theorem SD{L M:List bB}(h:L.Perm M)(head:Int)(bF no:List aB)(cs:List cD):fk L head bF no cs=fk M head bF no cs:=by
 unfold fk
 simp only[CA h,h.length_eq]
theorem RL.new:RL ⟨[],0,0⟩ []:=⟨.refl _,List.Pairwise.nil⟩
theorem RL.pw{S:cT}(b:gj S){L:List bB}(h:RL S L):L.Pairwise λx y=>x.t=y.t->x.to≠0/\x.to<=y.fr:=by
 refine((b.two h.pm).and h.st).imp_of_mem λ{x y} i f e c=>?_
 obtain⟨d,a⟩:=e
 obtain⟨_,_,_,g⟩:=b.ok y (h.pm.mem_iff.1 f)
 unfold eM at a
 rw[c,ux]at a
 simp only[Bool.false_or,ael,aem]at a
 have:=d c
 omega
theorem yB{t:aB}{r:Int}{x:bB}:(bB.close t r x).t=x.t/\(bB.close t r x).fr=x.fr:=by unfold bB.close;split<;>exact⟨rfl,rfl⟩
theorem RE{a b c d:bB}(e:c.t=a.t/\c.fr=a.fr)(f:d.t=b.t/\d.fr=b.fr):eM c d=eM a b:=by unfold eM;rw[e.1,e.2,f.1,f.2]
theorem RF(x y z:bB)(a:eM x y=true)(b:eM y z=true):eM x z=true:=by
 rw[<-wg]at *
 unfold bs at *
 exact decide_eq_true (BD.t2 x y z (by have:=bT a;omega) (bT b))
def qg(r:Int)(L:List bB)(c:cD):List bB:=if c.put then hB eM ⟨c.t,r,0⟩ L else L.map (bB.close c.t r)
theorem RL.next{S:cT}(B:gj S){cs:List cD}(f:pL S cs){i:Nat}{c:cD}(o:cs[i]? =some c){L:List bB}(h:RL ⟨(cs.take i).foldl (fj (S.head+1)) S.rows,S.head+1,S.dV⟩ L):
  RL ⟨(cs.take (i+1)).foldl (fj (S.head+1)) S.rows,S.head+1,S.dV⟩ (qg (S.head+1) L c)/\(c.put=false->∃(j:Nat) (x:bB),L[j]? =some x/\x.eT c.t=true/\(∀k y,k<j->L[k]? =some y->y.eT c.t=false)/\qg (S.head+1) L c=L.set j ⟨x.t,x.fr,S.head+1⟩):=by
 have p:=B.fold (f.take i)
 have m:cs.take (i+1)=cs.take i++[c]:=by rw[List.take_add_one,o];rfl
 have E:c.t∉(cs.take i).map (·.t):=by
  have u:=(f.take (i+1)).nd
  rw[m,List.map_append,List.nodup_append]at u
  intro D
  exact u.2.2 _ D _ (by simp) rfl
 have z:dw L c.t=dw S.rows c.t:=(CA h.pm _).trans (xu _ _ E)
 have s:c∈cs:=ba o
 have A:(cs.take (i+1)).foldl (fj (S.head+1)) S.rows=fj (S.head+1) ((cs.take i).foldl (fj (S.head+1)) S.rows) c:=by rw[m,List.foldl_append];rfl
 rw[A]
 cases hp:c.put with
 |true=>
  refine⟨?_,by simp⟩
  unfold qg fj
  rw[if_pos hp,if_pos hp]
  refine⟨rj.trans ((h.pm.cons _).trans (List.perm_append_singleton _ _).symm),vJ RF h.st λy g=>?_⟩
  have a:=f.sI c s hp
  rw[<-z]at a
  have n:=xr.1 a y g
  obtain⟨_,_,_,b⟩:=p.ok y (h.pm.mem_iff.1 g)
  simp only at b
  unfold eM
  by_cases e:c.t=y.t
  ·have:=n e.symm
   right
   simp only[Bool.or_eq_true,ael,aem]
   exact .inr ⟨e.symm,by omega⟩
  ·rcases CP e with h5|h5
   ·left;simp[h5]
   ·right;simp[h5]
 |false=>
  have v:qg (S.head+1) L c=L.map (bB.close c.t (S.head+1)):=by unfold qg;rw[if_neg (by simp[hp])]
  refine⟨?_,λ_=>?_⟩
  ·rw[v]
   unfold fj
   rw[if_neg (by simp[hp])]
   refine⟨h.pm.map _,?_⟩
   rw[tW,List.pairwise_map]
   exact h.st.imp λ{x y} F=>by rw[RE yB yB];exact F
  ·have a:=f.there c s hp
   rw[<-z]at a
   have n:(L.find? (bB.eT c.t)).isSome:=by
    rw[List.find?_isSome]
    unfold dw at a
    simpa using a
   obtain⟨j,l⟩:∃j,L.findIdx (bB.eT c.t)=j:=⟨_,rfl⟩
   have d:j<L.length:=by
    rw[<-l,List.findIdx_lt_length]
    unfold dw at a
    simpa using a
   have r:(L[j]'d).eT c.t=true:=by
    subst l
    exact List.findIdx_getElem (w:=d)
   have q:L[j]? =some (L[j]'d):=aZ d
   refine⟨j,L[j]'d,q,r,λk y C g=>?_,?_⟩
   ·obtain⟨G,rfl⟩:=List.getElem?_eq_some_iff.1 g
    exact List.not_of_lt_findIdx (by rw[l];exact C)
   ·rw[v,yA (h.pw p) q r]
theorem RL.write{S:cT}{bF no:List aB}{cs:List cD}(a:gA S bF no cs=0){L:List bB}(h:RL ⟨(cs.take cs.length).foldl (fj (S.head+1)) S.rows,S.head+1,S.dV⟩ L):RL (iR S bF no cs) L:=by
 unfold iR
 rw[if_pos a]
 rwa [List.take_length]at h
theorem RL.ordered{S:cT}{L:List bB}(h:RL S L)(q:bB->Bool):nJ ((L.filter q).map (·.t)):=by
 rw[nJ,List.pairwise_map]
 refine(h.st.sublist List.filter_sublist).imp λ{x y} a=>?_
 rw[Ua]
 unfold eM at a
 simp only[Bool.or_eq_true,ael,aem]at a
 rcases a with h1|h1
 ·exact xz h1
 ·rw[h1.1];exact ux _
theorem RL.at_{S:cT}{L:List bB}(h:RL S L){q:bB->Bool}{ys:List aB}(a:ys.Perm ((S.rows.filter q).map (·.t)))(ho:nJ ys):ys=(L.filter q).map (·.t):=Bp (a.trans ((h.pm.filter _).map _).symm) (h.ordered _) ho
end Go.Proofs.YtdljmchhecoakaaGreat

/- What the law 'LookupJust' uses. No condition. -/
import Derived.Test.YtdljmchhecoakaaGreatKLookupJustB
import Derived.Test.YtdljmchhecoakaaGreatKLookupJustF
import Derived.Test.YtdljmchhecoakaaGreatKLookupJustH
import Derived.Test.YtdljmchhecoakaaGreatKLookupJustL
namespace Go.Proofs.YtdljmchhecoakaaGreat
set_option linter.defProp false
def ael:=@Bool.and_eq_true
def aem:=@decide_eq_true_eq
set_option linter.unusedVariables false
set_option linter.unusedSimpArgs false
set_option maxRecDepth 4000
structure RL(S:cX)(L:List bC):Prop where
 pm:L.Perm S.rows
 st:sJ L
theorem Ca{α:Type}{p:α->Bool}{L M:List α}(h:L.Perm M):L.any p=M.any p:=by
 rw[Bool.eq_iff_iff,List.any_eq_true,List.any_eq_true]
 exact exists_congr λx=>and_congr_left λ_=>h.mem_iff
theorem Bf{L M:List bC}(h:L.Perm M)(t:aA):dv L t=dv M t:=Ca h
theorem Ql{L M:List bC}(h:L.Perm M)(head:Int)(bE no:List aA)(cs:List cB):eY L head bE no cs=eY M head bE no cs:=by
 unfold eY
 simp only[Bf h,h.length_eq]
theorem RL.new:RL ⟨[],0,0⟩ []:=⟨.refl _,List.Pairwise.nil⟩
theorem RL.pw{S:cX}(b:fY S){L:List bC}(h:RL S L):L.Pairwise λx y=>x.t=y.t->x.to≠0/\x.to<=y.fr:=by
 refine((b.two h.pm).and h.st).imp_of_mem λ{x y} i f e c=>?_
 obtain⟨d,a⟩:=e
 obtain⟨_,_,_,g⟩:=b.ok y (h.pm.mem_iff.1 f)
 unfold eC at a
 rw[c,s8]at a
 simp only[Bool.false_or,ael,aem]at a
 have:=d c
 omega
theorem xo{t:aA}{r:Int}{x:bC}:(bC.close t r x).t=x.t/\(bC.close t r x).fr=x.fr:=by unfold bC.close;split<;>exact⟨rfl,rfl⟩
theorem Pw{a b c d:bC}(e:c.t=a.t/\c.fr=a.fr)(f:d.t=b.t/\d.fr=b.fr):eC c d=eC a b:=by unfold eC;rw[e.1,e.2,f.1,f.2]
theorem Px(x y z:bC)(a:eC x y=true)(b:eC y z=true):eC x z=true:=by
 rw[<-uJ]at *
 unfold bh at *
 exact decide_eq_true (Aq.t2 x y z (by have:=bX a;omega) (bX b))
def pe(r:Int)(L:List bC)(c:cB):List bC:=if c.put then gO eC ⟨c.t,r,0⟩ L else L.map (bC.close c.t r)
theorem RL.next{S:cX}(B:fY S){cs:List cB}(f:oK S cs){i:Nat}{c:cB}(o:cs[i]? =some c){L:List bC}(h:RL ⟨(cs.take i).foldl (eX (S.head+1)) S.rows,S.head+1,S.dO⟩ L):
  RL ⟨(cs.take (i+1)).foldl (eX (S.head+1)) S.rows,S.head+1,S.dO⟩ (pe (S.head+1) L c)/\(c.put=false->∃(j:Nat) (x:bC),L[j]? =some x/\x.eI c.t=true/\(∀k y,k<j->L[k]? =some y->y.eI c.t=false)/\pe (S.head+1) L c=L.set j ⟨x.t,x.fr,S.head+1⟩):=by
 have p:=B.fold (f.take i)
 have m:cs.take (i+1)=cs.take i++[c]:=by rw[List.take_add_one,o];rfl
 have E:c.t∉(cs.take i).map (·.t):=by
  have u:=(f.take (i+1)).nd
  rw[m,List.map_append,List.nodup_append]at u
  intro D
  exact u.2.2 _ D _ (by simp) rfl
 have z:dv L c.t=dv S.rows c.t:=(Bf h.pm _).trans (vY _ _ E)
 have s:c∈cs:=aW o
 have A:(cs.take (i+1)).foldl (eX (S.head+1)) S.rows=eX (S.head+1) ((cs.take i).foldl (eX (S.head+1)) S.rows) c:=by rw[m,List.foldl_append];rfl
 rw[A]
 cases hp:c.put with
 |true=>
  refine⟨?_,by simp⟩
  unfold pe eX
  rw[if_pos hp,if_pos hp]
  refine⟨ql.trans ((h.pm.cons _).trans (List.perm_append_singleton _ _).symm),ur Px h.st λy g=>?_⟩
  have a:=f.rq c s hp
  rw[<-z]at a
  have n:=vX.1 a y g
  obtain⟨_,_,_,b⟩:=p.ok y (h.pm.mem_iff.1 g)
  simp only at b
  unfold eC
  by_cases e:c.t=y.t
  ·have:=n e.symm
   right
   simp only[Bool.or_eq_true,ael,aem]
   exact .inr ⟨e.symm,by omega⟩
  ·rcases Bu e with h5|h5
   ·left;simp[h5]
   ·right;simp[h5]
 |false=>
  have v:pe (S.head+1) L c=L.map (bC.close c.t (S.head+1)):=by unfold pe;rw[if_neg (by simp[hp])]
  refine⟨?_,λ_=>?_⟩
  ·rw[v]
   unfold eX
   rw[if_neg (by simp[hp])]
   refine⟨h.pm.map _,?_⟩
   rw[sJ,List.pairwise_map]
   exact h.st.imp λ{x y} F=>by rw[Pw xo xo];exact F
  ·have a:=f.there c s hp
   rw[<-z]at a
   have n:(L.find? (bC.eI c.t)).isSome:=by
    rw[List.find?_isSome]
    unfold dv at a
    simpa using a
   obtain⟨j,l⟩:∃j,L.findIdx (bC.eI c.t)=j:=⟨_,rfl⟩
   have d:j<L.length:=by
    rw[<-l,List.findIdx_lt_length]
    unfold dv at a
    simpa using a
   have r:(L[j]'d).eI c.t=true:=by
    subst l
    exact List.findIdx_getElem (w:=d)
   have q:L[j]? =some (L[j]'d):=aV d
   refine⟨j,L[j]'d,q,r,λk y C g=>?_,?_⟩
   ·obtain⟨G,rfl⟩:=List.getElem?_eq_some_iff.1 g
    exact List.not_of_lt_findIdx (by rw[l];exact C)
   ·rw[v,xn (h.pw p) q r]
theorem RL.write{S:cX}{bE no:List aA}{cs:List cB}(a:gq S bE no cs=0){L:List bC}(h:RL ⟨(cs.take cs.length).foldl (eX (S.head+1)) S.rows,S.head+1,S.dO⟩ L):RL (iC S bE no cs) L:=by
 unfold iC
 rw[if_pos a]
 rwa [List.take_length]at h
theorem RL.ordered{S:cX}{L:List bC}(h:RL S L)(q:bC->Bool):na ((L.filter q).map (·.t)):=by
 rw[na,List.pairwise_map]
 refine(h.st.sublist List.filter_sublist).imp λ{x y} a=>?_
 rw[Rg]
 unfold eC at a
 simp only[Bool.or_eq_true,ael,aem]at a
 rcases a with h1|h1
 ·exact we h1
 ·rw[h1.1];exact s8 _
theorem RL.at_{S:cX}{L:List bC}(h:RL S L){q:bC->Bool}{ys:List aA}(a:ys.Perm ((S.rows.filter q).map (·.t)))(ho:na ys):ys=(L.filter q).map (·.t):=Ad (a.trans ((h.pm.filter _).map _).symm) (h.ordered _) ho
end Go.Proofs.YtdljmchhecoakaaGreat

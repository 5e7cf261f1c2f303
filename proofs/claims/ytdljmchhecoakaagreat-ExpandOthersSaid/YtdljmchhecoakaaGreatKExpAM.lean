/- What the law 'ExpA' uses. No condition. -/
import Derived.Test.YtdljmchhecoakaaGreatKExpAB
import Derived.Test.YtdljmchhecoakaaGreatKExpAF
import Derived.Test.YtdljmchhecoakaaGreatKExpAH
import Derived.Test.YtdljmchhecoakaaGreatKExpAL
namespace Go.Proofs.YtdljmchhecoakaaGreat
set_option linter.unusedVariables false
set_option linter.unusedSimpArgs false
set_option maxRecDepth 4000
structure RL(S:cW)(L:List bC):Prop where
 pm:L.Perm S.rows
 st:tg L
theorem Cy{α:Type}{p:α->Bool}{L M:List α}(h:L.Perm M):L.any p=M.any p:=by
 rw[Bool.eq_iff_iff,List.any_eq_true,List.any_eq_true]
 exact exists_congr λx=>and_congr_left λ_=>h.mem_iff
theorem BE{L M:List bC}(h:L.Perm M)(t:aE):dy L t=dy M t:=Cy h
theorem Qz{L M:List bC}(h:L.Perm M)(head:Int)(bF no:List aE)(cs:List cD):fb L head bF no cs=fb M head bF no cs:=by
 unfold fb
 simp only[BE h,h.length_eq]
theorem RL.new:RL ⟨[],0,0⟩ []:=⟨.refl _,List.Pairwise.nil⟩
theorem RL.pw{S:cW}(b:gj S){L:List bC}(h:RL S L):L.Pairwise λx y=>x.t=y.t->x.to≠0/\x.to<=y.fr:=by
 refine((b.two h.pm).and h.st).imp_of_mem λ{x y} i f e c=>?_
 obtain⟨d,a⟩:=e
 obtain⟨_,_,_,g⟩:=b.ok y (h.pm.mem_iff.1 f)
 unfold eI at a
 rw[c,tG]at a
 simp only[Bool.false_or,Bool.and_eq_true,decide_eq_true_eq]at a
 have:=d c
 omega
theorem yd{t:aE}{r:Int}{x:bC}:(bC.close t r x).t=x.t/\(bC.close t r x).fr=x.fr:=by unfold bC.close;split<;>exact⟨rfl,rfl⟩
theorem PF{a b c d:bC}(e:c.t=a.t/\c.fr=a.fr)(f:d.t=b.t/\d.fr=b.fr):eI c d=eI a b:=by unfold eI;rw[e.1,e.2,f.1,f.2]
theorem PH(x y z:bC)(a:eI x y=true)(b:eI y z=true):eI x z=true:=by
 rw[<-vx]at *
 unfold br at *
 exact decide_eq_true (wq.t2 x y z (by have:=bS a;omega) (bS b))
def pL(r:Int)(L:List bC)(c:cD):List bC:=if c.put then gP eI ⟨c.t,r,0⟩ L else L.map (bC.close c.t r)
theorem RL.next{S:cW}(B:gj S){cs:List cD}(f:pa S cs){i:Nat}{c:cD}(o:cs[i]? =some c){L:List bC}(h:RL ⟨(cs.take i).foldl (eZ (S.head+1)) S.rows,S.head+1,S.dT⟩ L):
  RL ⟨(cs.take (i+1)).foldl (eZ (S.head+1)) S.rows,S.head+1,S.dT⟩ (pL (S.head+1) L c)/\(c.put=false->∃(j:Nat) (x:bC),L[j]? =some x/\x.eM c.t=true/\(∀k y,k<j->L[k]? =some y->y.eM c.t=false)/\pL (S.head+1) L c=L.set j ⟨x.t,x.fr,S.head+1⟩):=by
 have p:=B.fold (f.take i)
 have m:cs.take (i+1)=cs.take i++[c]:=by rw[List.take_add_one,o];rfl
 have E:c.t∉(cs.take i).map (·.t):=by
  have u:=(f.take (i+1)).nd
  rw[m,List.map_append,List.nodup_append]at u
  intro D
  exact u.2.2 _ D _ (by simp) rfl
 have z:dy L c.t=dy S.rows c.t:=(BE h.pm _).trans (wV _ _ E)
 have s:c∈cs:=aO o
 have A:(cs.take (i+1)).foldl (eZ (S.head+1)) S.rows=eZ (S.head+1) ((cs.take i).foldl (eZ (S.head+1)) S.rows) c:=by rw[m,List.foldl_append];rfl
 rw[A]
 cases hp:c.put with
 |true=>
  refine⟨?_,by simp⟩
  unfold pL eZ
  rw[if_pos hp,if_pos hp]
  refine⟨qE.trans ((h.pm.cons _).trans (List.perm_append_singleton _ _).symm),uN PH h.st λy g=>?_⟩
  have a:=f.rJ c s hp
  rw[<-z]at a
  have n:=wU.1 a y g
  obtain⟨_,_,_,b⟩:=p.ok y (h.pm.mem_iff.1 g)
  simp only at b
  unfold eI
  by_cases e:c.t=y.t
  ·have:=n e.symm
   right
   simp only[Bool.or_eq_true,Bool.and_eq_true,decide_eq_true_eq]
   exact .inr ⟨e.symm,by omega⟩
  ·rcases BT e with h5|h5
   ·left;simp[h5]
   ·right;simp[h5]
 |false=>
  have v:pL (S.head+1) L c=L.map (bC.close c.t (S.head+1)):=by unfold pL;rw[if_neg (by simp[hp])]
  refine⟨?_,λ_=>?_⟩
  ·rw[v]
   unfold eZ
   rw[if_neg (by simp[hp])]
   refine⟨h.pm.map _,?_⟩
   rw[tg,List.pairwise_map]
   exact h.st.imp λ{x y} F=>by rw[PF yd yd];exact F
  ·have a:=f.there c s hp
   rw[<-z]at a
   have n:(L.find? (bC.eM c.t)).isSome:=by
    rw[List.find?_isSome]
    unfold dy at a
    simpa using a
   obtain⟨j,l⟩:∃j,L.findIdx (bC.eM c.t)=j:=⟨_,rfl⟩
   have d:j<L.length:=by
    rw[<-l,List.findIdx_lt_length]
    unfold dy at a
    simpa using a
   have r:(L[j]'d).eM c.t=true:=by
    subst l
    exact List.findIdx_getElem (w:=d)
   have q:L[j]? =some (L[j]'d):=aX d
   refine⟨j,L[j]'d,q,r,λk y C g=>?_,?_⟩
   ·obtain⟨G,rfl⟩:=List.getElem?_eq_some_iff.1 g
    exact List.not_of_lt_findIdx (by rw[l];exact C)
   ·rw[v,yc (h.pw p) q r]
theorem RL.write{S:cW}{bF no:List aE}{cs:List cD}(a:gq S bF no cs=0){L:List bC}(h:RL ⟨(cs.take cs.length).foldl (eZ (S.head+1)) S.rows,S.head+1,S.dT⟩ L):RL (iO S bF no cs) L:=by
 unfold iO
 rw[if_pos a]
 rwa [List.take_length]at h
theorem RL.ordered{S:cW}{L:List bC}(h:RL S L)(q:bC->Bool):nt ((L.filter q).map (·.t)):=by
 rw[nt,List.pairwise_map]
 refine(h.st.sublist List.filter_sublist).imp λ{x y} a=>?_
 rw[Rz]
 unfold eI at a
 simp only[Bool.or_eq_true,Bool.and_eq_true,decide_eq_true_eq]at a
 rcases a with h1|h1
 ·exact tF h1
 ·rw[h1.1];exact tG _
theorem RL.at_{S:cW}{L:List bC}(h:RL S L){q:bC->Bool}{ys:List aE}(a:ys.Perm ((S.rows.filter q).map (·.t)))(ho:nt ys):ys=(L.filter q).map (·.t):=AK (a.trans ((h.pm.filter _).map _).symm) (h.ordered _) ho
theorem uU{s:ByteArray}(h:isWord s=true):s.size<=32:=by
 unfold isWord at h
 simp only[Bool.and_eq_true,decide_eq_true_eq]at h
 omega
theorem Nr{s:ByteArray}(h:gH s=true):s.size<=32:=by
 unfold gH at h
 simp only[Bool.and_eq_true,decide_eq_true_eq]at h
 omega
end Go.Proofs.YtdljmchhecoakaaGreat

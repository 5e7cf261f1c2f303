/- What the law 'KeepOpens' uses. No condition. -/
import Derived.Test.YtocjmmbldeljnaaGreatDoorKKeepOpensB
import Derived.Test.YtocjmmbldeljnaaGreatDoorKKeepOpensH
import Derived.Test.YtocjmmbldeljnaaGreatDoorKKeepOpensN
set_option linter.unusedSimpArgs false
set_option linter.unusedVariables false
namespace Go.Proofs.YtocjmmbldeljnaaGreatDoor
set_option linter.defProp false
def aec:=@if_pos
def aed:=@congrArg
def aee:=@Bool.eq_iff_iff
def aef:=@if_neg
def aeg:=@Bool.and_eq_true
def aeh:=@List.take_add_one
def aei:=@List.mem_map
def aej:=@decide_eq_false
def aek:=@Bool.false_and
def ael:=@decide_eq_true
def aem:=@decide_eq_true_eq
def aen:=@Bool.or_eq_true
def aeo:=@List.map_append
def aep:=@List.length_take
def aeq:=@Bool.and_false
def aer:=@List.map_map
def aes:=@List.getElem?_eq_some_iff
def aet:=@List.length_map
def aeu:=@Bool.eq_false_iff
def aev:=@List.pairwise_append
def aew:=@List.filter_congr
def aex:=@List.filter_sublist
def aey:=@List.map_congr_left
def aez:=@List.take_length
set_option linter.unusedVariables false
set_option linter.unusedSimpArgs false
set_option maxRecDepth 4000
abbrev strict(ys:List aZ):Prop:=ys.Pairwise λp q=>fb p q=true
theorem P9{a b:aZ}:aM kK a b=fb a b:=rfl
theorem ri{a b:aZ}(h:a≠b):fb a b=true\/fb b a=true:=by
 unfold fb
 have d:=jr.sw b a
 have c:kK a b≠0:=λe=>h (yJ e)
 rcases Int.lt_or_lt_of_ne c with h4|h4
 ·exact .inl (ael h4)
 ·exact .inr (ael (by omega))
theorem yG{a b:aZ}(h:fb a b=true):fb b a=false:=by
 unfold fb at *
 have c:=jr.sw b a
 have h:=bp h
 exact aej (by omega)
theorem tW(a:aZ):fb a a=false:=by
 unfold fb
 have:=jr.refl a
 exact aej (by omega)
theorem yH(x y z:aZ)(a:fb x y=true)(b:fb y z=true):fb x z=true:=by
 unfold fb at *
 exact ael (jr.t2 x y z (by have:=bp a;omega) (bp b))
theorem strict.order{ys:List aZ}(h:strict ys):o2 ys:=h.imp λ{p q} a=>yG a
theorem strict.of{ys:List aZ}(h:o2 ys)(c:ys.Nodup):strict ys:=by
 refine(h.and c).imp λ{p q} ⟨a,b⟩=>?_
 rcases ri b with h3|h3
 ·exact h3
 ·rw[P9,h3]at a;cases a
theorem N2{xs ys:List aZ}(a:ys.Perm xs)(b:o2 xs)(c:o2 ys):ys=xs:=z4 jr (λ_ _=>yJ) a b c
theorem yd{S:dI}{r:Int}:scan S r=true↔S.cx<=r/\r<=S.head:=by unfold scan;simp
structure mE(S:dI)(cs:List cj)(i:Nat)(W:List aZ):Prop where
 pm:W.Perm (ol ⟨(cs.take i).foldl (jd (S.head+1)) S.rows,S.head+1,S.cx⟩ ⟨⟨#[]⟩,⟨#[]⟩,⟨#[]⟩,⟨#[]⟩,⟨#[]⟩,⟨#[]⟩,⟨#[]⟩⟩ (S.head+1))
 st:strict W
theorem Qa(t:aZ):tX (⟨⟨#[]⟩,⟨#[]⟩,⟨#[]⟩,⟨#[]⟩,⟨#[]⟩,⟨#[]⟩,⟨#[]⟩⟩:aZ) t=true:=by unfold tX;simp
theorem pL{S:dI}{r:Int}:ol S (⟨⟨#[]⟩,⟨#[]⟩,⟨#[]⟩,⟨#[]⟩,⟨#[]⟩,⟨#[]⟩,⟨#[]⟩⟩:aZ) r=(S.rows.filter λx=>x.there r).map (·.t):=by
 unfold ol
 congr 1
 exact aew λx _=>by rw[Qa,Bool.and_true]
theorem yF{S:dI}(a:gp S){x:bE}(b:x∈S.rows):x.there S.head=(x.to==0):=by
 obtain⟨_,c,d,e⟩:=a.ok x b
 unfold bE.there
 rw[aee]
 simp only[aeg,aem,aen,beq_iff_eq]
 omega
theorem mE.start{S:dI}(b:gp S){cs:List cj}{W:List aZ}(h:xS S (⟨⟨#[]⟩,⟨#[]⟩,⟨#[]⟩,⟨#[]⟩,⟨#[]⟩,⟨#[]⟩,⟨#[]⟩⟩:aZ) S.head W):mE S cs 0 W:=by
 have d:scan S S.head=true:=yd.2 ⟨b.h1,Int.le_refl _⟩
 have a:=h.1
 rw[aec d]at a
 refine⟨a.trans (.of_eq ?_),strict.of h.2 (a.nodup_iff.2 (b.P6 _ _))⟩
 rw[pL,pL,List.take_zero,List.foldl_nil]
 simp only
 congr 1
 refine aew λx c=>?_
 rw[yF b c]
 obtain⟨_,a,e,f⟩:=b.ok x c
 unfold bE.there
 rw[aee]
 simp only[aeg,aem,aen,beq_iff_eq]
 omega
theorem mE.next{S:dI}(k:gp S){cs:List cj}(m:oO S cs){i:Nat}{c:cj}(r:cs[i]? =some c){W:List aZ}(h:mE S cs i W):mE S cs (i+1) (if c.put then mM fb c.t (W.filter λt=>decide (t≠c.t))else W.filter λt=>decide (t≠c.t)):=by
 have s:=k.fold (m.take i)
 have n:cs.take (i+1)=cs.take i++[c]:=by rw[aeh,r];rfl
 have E:c.t∉(cs.take i).map (·.t):=by
  have u:=(m.take (i+1)).nd
  rw[n,aeo,List.nodup_append]at u
  intro l
  exact u.2.2 _ l _ (by simp) rfl
 obtain⟨L,j⟩:∃L,L=(cs.take i).foldl (jd (S.head+1)) S.rows:=⟨_,rfl⟩
 have G:iD L c.t=iD S.rows c.t:=by rw[j];exact yx _ _ E
 have D:c∈cs:=bD r
 have b:=h.pm
 rw[pL]at b
 rw[<-j]at s b
 simp only at b
 have o:(cs.take (i+1)).foldl (jd (S.head+1)) S.rows=jd (S.head+1) L c:=by rw[n,List.foldl_append,j];rfl
 have d:∀x∈L,x.there (S.head+1)=(x.to==0):=λx a=>yF s a
 cases hp:c.put with
 |true=>
  have v:c.t∉W:=by
   intro l
   obtain⟨x,a,H⟩:=aei.1 (b.mem_iff.1 l)
   obtain⟨w,z⟩:=List.mem_filter.1 a
   rw[d x w]at z
   have p:=m.rK c D hp
   rw[<-G]at p
   exact yw.1 p x w H (by simpa using z)
  have C:(W.filter λt=>decide (t≠c.t))=W:=List.filter_eq_self.2 λt F=>by
   have:t≠c.t:=λe=>v (e▸F)
   simpa using this
  rw[aec rfl,C]
  refine⟨?_,wE yH h.st λy I=>ri λe=>v (e▸I)⟩
  refine sv.trans ?_
  rw[pL,o]
  unfold jd
  rw[aec hp]
  simp only[List.filter_append,aeo]
  refine List.Perm.trans (b.cons c.t) ?_
  have:bE.there ⟨c.t,S.head+1,0⟩ (S.head+1)=true:=by unfold bE.there;simp
  rw[List.filter_cons,aec this]
  exact(List.perm_append_singleton _ _).symm
 |false=>
  rw[aef (by simp)]
  refine⟨?_,h.st.sublist aex⟩
  refine(b.filter _).trans (.of_eq ?_)
  rw[pL,o]
  unfold jd
  rw[aef (by simp[hp])]
  simp only
  rw[List.filter_map,List.filter_map,aer,List.filter_filter]
  have A:L.filter ((λx=>x.there (S.head+1))∘bE.close c.t (S.head+1))=L.filter λx=>decide (x.t≠c.t)&&x.there (S.head+1):=aew λx a=>by
   simp only[Function.comp]
   rw[d x a]
   unfold bE.close bE.jH
   by_cases f:x.t=c.t
   ·by_cases q:x.to=0
    ·have B:S.head+1≠0:=by have:=k.h0;have:=k.h1;omega
     simp[f,q,bE.there,B]
    ·have g:=d x a
     simp[f,q,g]
   ·have g:=d x a
    simp[f,g]
  rw[A]
  refine aey λx a=>?_
  simp only[Function.comp]
  unfold bE.close
  split<;>rfl
theorem mE.done{S:dI}(d:gp S){cS no:List aZ}{cs:List cj}(e:yf S cS no cs=0){W Z:List aZ}(h:mE S cs cs.length W)(a:xS (tS S cS no cs) (⟨⟨#[]⟩,⟨#[]⟩,⟨#[]⟩,⟨#[]⟩,⟨#[]⟩,⟨#[]⟩,⟨#[]⟩⟩:aZ) (S.head+1) Z):Z=W:=by
 have g:tS S cS no cs=⟨cs.foldl (jd (S.head+1)) S.rows,S.head+1,S.cx⟩:=by unfold tS;rw[aec e]
 rw[g]at a
 have f:scan ⟨cs.foldl (jd (S.head+1)) S.rows,S.head+1,S.cx⟩ (S.head+1)=true:=yd.2 ⟨by have:=d.h1;simp only;omega,Int.le_refl _⟩
 have b:=a.1
 rw[aec f]at b
 have c:=h.pm
 rw[aez]at c
 exact N2 (b.trans c.symm) h.st.order a.2
theorem qN{a b:aZ}:gi a b<0↔kK a b<0:=by
 have h:=congrFun (congrFun Nk a) b
 unfold aM at h
 exact decide_eq_decide.1 h
theorem pu(a b:aZ):0<gi a b↔gi b a<0:=by
 unfold gi
 have c:= @yG b a
 cases ha:fb a b<;>cases hb:fb b a<;>simp_all
theorem xD:eH gi where
 sw x y:=by rw[pu]
 tr x y z h1 h2:=by
  have d:¬gi y x<0:=λe=>by have:=(pu x y).2 e;omega
  have a:¬gi z y<0:=λe=>by have:=(pu y z).2 e;omega
  rw[qN]at d a
  have f:=jr.sw y x
  have g:=jr.sw x y
  have b:=jr.sw y z
  have c:=jr.sw z y
  have h:=jr.tr x y z (by omega) (by omega)
  have i:=jr.sw z x
  have j:¬gi z x<0:=by rw[qN];omega
  have:=pu x z
  omega
 tl x y z h1 h2:=by
  have a:¬gi z y<0:=λe=>by have:=(pu y z).2 e;omega
  rw[qN]at a h1⊢
  have b:=jr.sw y z
  have c:=jr.sw z y
  exact jr.tl x y z h1 (by omega)
theorem N3{a b:aZ}(h:gi a b=0):a=b:=by
 unfold gi at h
 split at h
 ·omega
 ·split at h
  ·omega
  ·rename_i d e
   exact Classical.byContradiction λc=>by rcases ri c with h3|h3<;>contradiction
def nV(a b:bE):Int:=et [gi a.t b.t,fp a.fr b.fr]
theorem xQ:eH nV:=(xD.map bE.t).cons ((wL.map bE.fr).cons .nil)
def mV(a b:bE):Bool:=fb a.t b.t||decide (a.t=b.t)&&decide (a.fr<b.fr)
theorem sP(a b:bE):aM nV a b=mV a b:=by
 unfold aM nV mV
 rw[nQ,nQ]
 rw[aee]
 simp only[aem,aen,aeg]
 by_cases h:a.t=b.t
 ·rw[aec (by rw[h];exact xD.refl _)]
  rw[h,tW]
  unfold fp et
  simp
  split
  ·split<;>omega
  ·split
   ·split<;>omega
   ·split<;>omega
 ·rw[aef λe=>h (N3 e),qN]
  unfold fb
  simp[h]
abbrev qU(ys:List bE):Prop:=ys.Pairwise λp q=>aM nV q p=false
abbrev tD(ys:List bE):Prop:=ys.Pairwise λp q=>mV p q=true
theorem Oy{a b:bE}(h:mV a b=true):mV b a=false:=by
 rw[<-sP]at *
 unfold aM at *
 have c:=xQ.sw b a
 have h:=bp h
 exact aej (by omega)
theorem tD.order{ys:List bE}(h:tD ys):qU ys:=h.imp λ{p q} a=>by rw[sP];exact Oy a
def jK(head cx:Int)(x:bE):Bool:=ie x.t&&(decide (1<=x.fr)&&(decide (x.fr<=head)&&(x.to==0||(decide (x.fr<x.to)&&(decide (cx<x.to)&&decide (x.to<=head))))))
def kH(x a:bE):Bool:=if x.t=a.t then !(a.to==0)&&decide (a.to<=x.fr)else fb a.t x.t
def ob(head cx:Int)(xs:List bE)(i:Nat):Prop:=∀j x,j<i->xs[j]? =some x->jK head cx x=true/\∀a,0<j->xs[j-1]? =some a->kH x a=true
def mX(xs:List bE)(head cx:Int):Prop:=(cx<=head/\head<=4611686018427387903/\xs.length<=4096)/\ob head cx xs xs.length
theorem Ov{head cx:Int}{xs:List bE}:ob head cx xs 0:=λj x a=>absurd a (Nat.not_lt_zero _)
theorem qS{head cx:Int}{xs:List bE}{i:Nat}{x:bE}(h:ob head cx xs i)(f:xs[i]? =some x)(c:jK head cx x=true)(d:∀a,0<i->xs[i-1]? =some a->kH x a=true):ob head cx xs (i+1):=λj y e b=>by
 rcases Nat.lt_or_eq_of_le (Nat.le_of_lt_succ e)with h3|h3
 ·exact h j y h3 b
 ·subst h3
  rw[f]at b
  cases b
  exact⟨c,d⟩
theorem x1{head cx:Int}{x:bE}:jK head cx x=true↔ie x.t=true/\1<=x.fr/\x.fr<=head/\(x.to=0\/(x.fr<x.to/\cx<x.to/\x.to<=head)):=by
 unfold jK
 simp
theorem Q6{y x a:bE}{head cx:Int}(h:jK head cx x=true)(f:kH y x=true)(d:kH x a=true):kH y a=true:=by
 obtain⟨_,_,_,i⟩:=x1.1 h
 unfold kH at *
 by_cases c:y.t=x.t
 ·rw[aec c]at f
  by_cases b:x.t=a.t
  ·rw[aec b]at d
   rw[aec (c.trans b)]
   simp only[aeg,Bool.not_eq_true',beq_eq_false_iff_ne,aem]at f d⊢
   omega
  ·rw[aef b]at d
   rw[aef (by rw[c];exact b),c]
   exact d
 ·rw[aef c]at f
  by_cases b:x.t=a.t
  ·rw[<-b,aef c];exact f
  ·rw[aef b]at d
   have g:=yH _ _ _ d f
   rw[aef]
   ·exact g
   ·intro e
    rw[e,tW]at g
    cases g
theorem gp.two{S:dI}(c:gp S){ys:List bE}(d:ys.Perm S.rows):ys.Pairwise λx y=>x.t=y.t->(x.to≠0/\x.to<=y.fr)\/(y.to≠0/\y.to<=x.fr):=by
 have h:S.rows.Pairwise λx y=>x.t=y.t->(x.to≠0/\x.to<=y.fr)\/(y.to≠0/\y.to<=x.fr):=c.pw.imp λ{x y} b a=>.inl (b a)
 exact d.symm.pairwise h λ{x y} b a=>(b a.symm).symm
theorem gp.strict{S:dI}(b:gp S){ys:List bE}(c:ys.Perm S.rows)(ho:qU ys):tD ys:=by
 refine((b.two c).and ho).imp_of_mem λ{x y} f h g=>?_
 obtain⟨d,a⟩:=g
 rw[sP]at a
 obtain⟨_,_,_,i⟩:=b.ok x (c.mem_iff.1 f)
 obtain⟨_,_,_,j⟩:=b.ok y (c.mem_iff.1 h)
 unfold mV at a⊢
 simp only[Bool.or_eq_false_iff,Bool.and_eq_false_iff,decide_eq_false_iff_not]at a
 simp only[aen,aeg,aem]
 by_cases e:x.t=y.t
 ·have k:=d e
  refine .inr ⟨e,?_⟩
  rcases a.2 with h4|h4
  ·exact absurd e.symm h4
  ·omega
 ·left
  rcases ri e with h5|h5
  ·exact h5
  ·rw[a.1]at h5;cases h5
theorem gp.right{S:dI}(b:gp S){ys:List bE}(c:ys.Perm S.rows)(ho:qU ys):mX ys S.head S.cx:=by
 refine⟨⟨b.h1,b.h2,by rw[c.length_eq];exact b.len⟩,λj x s d=>⟨x1.2 (b.ok x (c.mem_iff.1 (bD d))),λa p l=>?_⟩⟩
 have i:=List.pairwise_iff_getElem.1 (b.strict c ho)
 have k:=List.pairwise_iff_getElem.1 (b.two c)
 obtain⟨h,n⟩:=aes.1 d
 obtain⟨g,m⟩:=aes.1 l
 have h3:=i (j-1) j g h (by omega)
 have f:=k (j-1) j g h (by omega)
 rw[n,m]at h3 f
 obtain⟨_,_,_,o⟩:=b.ok x (c.mem_iff.1 (bD d))
 unfold kH
 unfold mV at h3
 simp only[aen,aeg,aem]at h3
 split
 ·rename_i e
  have q:=f e.symm
  have r:a.fr<x.fr:=by
   rcases h3 with h3|h3
   ·rw[e,tW]at h3;cases h3
   ·exact h3.2
  simp only[aeg,Bool.not_eq_true',beq_eq_false_iff_ne,aem]
  omega
 ·rename_i e
  rcases h3 with h3|h3
  ·exact h3
  ·exact absurd h3.1.symm e
open Tryz
namespace SRW
def kd:KD where
 t:=λx=>cond (Nat.beq x 144) 156<|cond (Nat.beq x 145) 157<|cond (Nat.beq x 290) 296<|x
 p:=λx=>cond (Nat.beq x 181) 183<|cond (Nat.beq x 387) 395<|cond (Nat.beq x 388) 396<|cond (Nat.beq x 386) 394<|cond (Nat.beq x 385) 393<|cond (Nat.beq x 459) 462<|cond (Nat.beq x 460) 463<|cond (Nat.beq x 490) 491<|cond (Nat.beq x 390) 398<|cond (Nat.beq x 392) 400<|cond (Nat.beq x 391) 399<|cond (Nat.beq x 289) 290<|cond (Nat.beq x 389) 397<|cond (Nat.beq x 458) 461<|x
 sz:=9
 u1:=(inferInstance:bh prog 157 (.slice 156))
 u2:=(inferInstance:Sz prog 156 9)
 u3:=(inferInstance:bV prog 156 true)
 t0:=rfl
 t3:=rfl
 t4:=rfl
 t28:=rfl
 t197:=rfl
 t232:=rfl
 t484:=rfl
 t485:=rfl
 t565:=rfl
 t568:=rfl
 t597:=rfl
 gj:=rfl
 gk:=rfl
 gl:=rfl
 nn:=(inferInstance:ap prog 395)
 np:=(inferInstance:ap prog 396)
 nm:=(inferInstance:ap prog 394)
 nl:=(inferInstance:ap prog 393)
 nv:=(inferInstance:ap prog 462)
 nw:=(inferInstance:ap prog 463)
 ny:=(inferInstance:ap prog 491)
 nr:=(inferInstance:ap prog 398)
 nt:=(inferInstance:ap prog 400)
 ns:=(inferInstance:ap prog 399)
 nk:=(inferInstance:ap prog 290)
 nq:=(inferInstance:ap prog 397)
 nu:=(inferInstance:ap prog 461)
 ot:=⟨f183,func183,by kernel_rfl,by kernel_rfl,by kernel_rfl⟩
 ox:=⟨f395,func395,by kernel_rfl,by kernel_rfl,by kernel_rfl⟩
 oy:=⟨f396,func396,by kernel_rfl,by kernel_rfl,by kernel_rfl⟩
 ow:=⟨f394,func394,by kernel_rfl,by kernel_rfl,by kernel_rfl⟩
 ov:=⟨f393,func393,by kernel_rfl,by kernel_rfl,by kernel_rfl⟩
 oE:=⟨f462,func462,by kernel_rfl,by kernel_rfl,by kernel_rfl⟩
 oF:=⟨f463,func463,by kernel_rfl,by kernel_rfl,by kernel_rfl⟩
 oG:=⟨f491,func491,by kernel_rfl,by kernel_rfl,by kernel_rfl⟩
 oA:=⟨f398,func398,by kernel_rfl,by kernel_rfl,by kernel_rfl⟩
 oC:=⟨f400,func400,by kernel_rfl,by kernel_rfl,by kernel_rfl⟩
 oB:=⟨f399,func399,by kernel_rfl,by kernel_rfl,by kernel_rfl⟩
 ou:=⟨f290,func290,by kernel_rfl,by kernel_rfl,by kernel_rfl⟩
 oz:=⟨f397,func397,by kernel_rfl,by kernel_rfl,by kernel_rfl⟩
 oD:=⟨f461,func461,by kernel_rfl,by kernel_rfl,by kernel_rfl⟩
instance:bH bE.enc kd.sz:=⟨λ_=>rfl⟩
section
variable{c:bE->bE->Int}{ok:bE->Prop}{f:FuncId}{caps:List Value} [e:ap prog f]
theorem hE(v:Value)(xs:List bE)(T:au)(R:ao)(h:OS 156 9 bE.enc v xs T)(b:xs.length<=1000000000)(a:eR prog f caps R (λt:bE=>Value.agg t.enc.toArray) c ok)(d:∀x∈xs,ok x)(e:SO (aM c)):
  Spec prog 183 [v,.func (.func f) #[] caps.toArray] R [T] λu H'=>∃T',H'=[T']/\u=.tuple #[]/\∃ys,OS 156 9 bE.enc v ys T'/\ys.Perm xs/\SR (aM c) ys 0 ys.length:=by
 exact SG.hE (κ:=kd) (enc:=bE.enc) v xs T R h b a d e
end
end SRW
theorem PG(a b:bE)(R:ao):Spec prog 184 [.agg a.enc.toArray,.agg b.enc.toArray] R [] λv H'=>v=.int .i64 (nV a b)/\H'=[]:=by
 refine Spec.body func184 rfl results184 ntmps184 rfl ?_
 refine .sr ?_
 refine .cc rfl (λe=>?_)
 refine .cc rfl (λf=>?_)
 refine .ag rfl<|.zs<|.cq [] mixed ?_
 refine .tO 0 rfl (.fieldAddr rfl) ?_
 refine .tO 1 rfl (.loadT rfl) ?_
 refine .tO 2 rfl (.fieldAddr rfl) ?_
 refine .tO 3 rfl (.loadT rfl) ?_
 refine .tO 5 rfl (.fieldAddr rfl)<|.tO 6 rfl (.bo rfl)<|.tO 7 rfl (.fieldAddr rfl)<|.tO 8 rfl (.bo rfl) ?_
 refine .sT 4 rfl ?_
 refine .aH (N4 a.t b.t _) (λv c=>?_)
 subst c
 refine .nil (Next.sub ?_)
 refine .sT 9 rfl ?_
 refine .aH (z9 a.fr b.fr _) (λv c=>?_)
 subst c
 refine .nil (Next.sub ?_)
 refine .sT 10 rfl ?_
 refine .oS [_,_] (λd=>?_)
 refine .nil (Next.sub ?_)
 refine .sT 11 rfl ?_
 refine .aH (qM _ [gi a.t b.t,fp a.fr b.fr] _ (RS.lits rfl (by simp[lx]) (by simp[lx,ay]))) (λv c=>?_)
 subst c
 refine .nil (Next.sub ?_)
 refine .tO 12 rfl .assign ?_
 refine RA.nil (by kernel_rfl) ?_
 refine aG ?_
 refine .ret (aW rfl ?_)
 ·exact⟨rfl,rfl⟩
theorem zu(R:ao):eR prog 184 [] R (λx:bE=>Value.agg x.enc.toArray) nV (λ_=>True):=λx y _ _ a _=>PG x y a
theorem OB{R:ao}{g:Nat}{S:dI}{ps:List RB}{vf vr:Value}{m:List (ez×(Value×au))}{Y:List (Sub×(Value×au))}(h:SV R g S ps vf vr m Y)(N:S.rows.length<=4096):
  Spec prog 88 [pT g] R [] λu H'=>∃T,H'=[T]/\∃ys,OS 156 9 bE.enc u ys T/\ys.Perm S.rows/\qU ys:=by
 have pc:=h.pc
 have b8:=h.of
 have b9:=h.or
 have U:ps.length<=4096:=by rw[<-h.eq,aet]at N;exact N
 refine Spec.du (H':=[[],[]]) (by simp) ?_
 refine Spec.body func88 rfl results88 ntmps88 rfl ?_
 refine .sr<|.ag rfl<|.zs<|.sr<|.mo rfl ?_
 refine .aH (h.mono λb o hb=>.inl hb).ok (λv hv=>?_)
 subst hv
 refine .q .not<|.zn<|.bB<|.kn<|.sr<|.ag rfl<|.zs<|.sr<|.mo rfl<|.nc rfl<|.fa rfl<|.lo rfl ?_
 refine .range h.mf (λ_ _=>.inl) rfl (λB a0 a4=>?_)
 refine .zn<|.block ?_
 refine .loop (X:=List bE×List ez×Value×au×au) (λy=>y.2.1.Nodup/\y.1.Perm ((ps.filter λp=>decide (p.2.t.er∉y.2.1)).map (·.2))/\OS 156 9 bE.enc y.2.2.1 y.1 y.2.2.2.1/\It R (λk:ez=>.agg k.enc.toArray) (λp:Value×au=>p.1) vf m B y.2.1 y.2.2.2.2) (λy=>[(3,y.2.2.1),(15,B)]) (λy=>[y.2.2.2.1,y.2.2.2.2]) (λy=>y.2.1.length) ([],m.map (·.1),sZ,[],a0) ⟨h.nf,by
  rw[List.filter_eq_nil_iff.2 λp Q=>by simp[h.af p Q]];exact .refl _,OS.nil,a4⟩ kE.c.c ((bG [1,0])) ?_
 rintro⟨l,D,W,F,Ti⟩ ⟨w,i,e,K⟩
 simp only at w i e K⊢
 have io:=e.ay
 have b6:l.length<=4096:=by
  rw[i.length_eq,aet]
  exact Nat.le_trans (List.length_filter_le _ _) U
 refine .sr ?_
 refine .pj K (λ_ _=>.inl) rfl (λb rest E hf ht=>?_)
 refine .q .extract<|.zs ?_
 refine .cond rfl (λn=>?_) λn=>?_
 obtain⟨k,⟨v0,T0⟩,M,a6,L⟩:=ht n
 obtain⟨V,G,s,a9⟩:=h.lf k
 rw[a6]at s
 simp only[Option.map_some,Option.getD_some]at s
 subst s
 have a3:=wi w M
 have I:RS R 1 Am (.slice V (ids (λx=>x.t.er) k ps).length G) (jF (λx=>x.t.er) k ps):=RS.of_map (enc:=jE) (f:=λp:RB=>p.1) a9
 have b5:(jF (λx=>x.t.er) k ps).length<=4096:=Nat.le_trans (List.length_filter_le _ _) U
 have b4:(ids (λx=>x.t.er) k ps).length=(jF (λx=>x.t.er) k ps).length:=by rw[MB,aet]
 refine .kn<|.block<|.sr ?_
 refine .q (.entry L (λ_ _=>.inl) rfl) ?_
 refine .q .extract<|.ag rfl<|.z<|.mo rfl<|.q (.cv I) ?_
 refine .mo rfl<|.zn<|.block ?_
 refine .loop (X:=Nat×Value×au) (λy=>y.1<=(jF (λx=>x.t.er) k ps).length/\OS 156 9 bE.enc y.2.1 (l++((jF (λx=>x.t.er) k ps).take y.1).map (·.2)) y.2.2) (λy=>[(3,y.2.1),(15,B),(20,.slice V (ids (λx=>x.t.er) k ps).length G),(21,.int .i64 ((jF (λx=>x.t.er) k ps).length:Nat)),(22,iN y.1)]) (λy=>[y.2.2,E]) (λy=>(jF (λx=>x.t.er) k ps).length-y.1) (0,W,F) ⟨Nat.zero_le _,by simpa using e⟩ kE.c.c.c.c.c rH ?_
 rintro⟨j,v1,a1⟩ ⟨hj,d⟩
 simp only at hj d⊢
 have b7:=d.ay
 refine .sr<|.q .lss<|.zs ?_
 refine .cond rfl (λr=>?_) λr=>?_
 have O:j<(jF (λx=>x.t.er) k ps).length:=by have:=bp r;omega
 obtain⟨⟨b,x⟩,A⟩:=dM O
 have px:PC R (pT b) x.enc:=h.pr _ (List.mem_filter.1 (bD A)).1
 have b2:(jF (λx=>x.t.er) k ps).take (j+1)=(jF (λx=>x.t.er) k ps).take j++[(b,x)]:=by rw[aeh,A];rfl
 refine .kn<|.seq<|.block<|.sr ?_
 refine .cB j I A (λc0=>?_)
 refine .lo rfl<|.az rfl<|.region<|.mo rfl<|.mo rfl ?_
 refine .nc rfl<|.q (.bj rfl) ?_
 refine .hY (λb3=>?_)
 refine .append d (RS.lits (xs:=[x]) rfl (by simp[bE.enc,aZ.enc]) (by simp[bE.enc,aZ.enc,ay])) (by simp;omega) (λv5 T5 a2=>?_)
 refine .ag rfl<|.nil<|bz<|aG<|.region ?_
 refine .ia (j+1) .add ?_
 refine .mo rfl<|.nil ?_
 ·exact br (j+1,v5,T5) ⟨O,by simp only;rw[b2,aeo, <-List.append_assoc];exact a2⟩ (by simp only;omega) kE.c.c.c.c.c (bG [1,1])
 have a5:j=(jF (λx=>x.t.er) k ps).length:=by have:=ba r;omega
 subst a5
 rw[aez]at d
 refine .exit<|bk<|bw<|bq<|bz ?_
 ·refine br (l++(jF (λx=>x.t.er) k ps).map (·.2),D.filter λC=>decide (C≠k),v1,a1,E) ⟨w.sublist aex,?_,d,L.it⟩ ?_ kE.c.c (bG [0,0])
  ·simp only
   have h9:=wm (a:=λp:RB=>decide (p.2.t.er∉D)) (b:=λp:RB=>decide (p.2.t.er=k)) (c:=λp:RB=>decide (p.2.t.er∉D.filter λC=>decide (C≠k))) ps λp _=>by
    by_cases H:p.2.t.er=k
    ·rw[H];simp[M]
    ·simp[H]
   refine List.Perm.trans ?_ (h9.map _).symm
   rw[aeo]
   exact i.append (.refl _)
  ·have:=a3.length_eq
   simp only[List.length_cons]at this
   simp only;omega
 have b1:=hf n
 subst b1
 have a7:l.Perm S.rows:=by
  refine i.trans (.of_eq ?_)
  rw[<-h.eq,List.filter_eq_self.2 λp _=>by simp]
 refine .exit<|bk<|bw<|bq<|aG<|.sr<|.mo rfl ?_
 refine .aT (SRW.hE (caps:=[]) W _ F _ e (by omega) (zu _) (λp Q=>trivial) xQ.so) (λu Z hu=>?_)
 obtain⟨rfl,ys,J,a8,b0⟩:=hu
 have i5:=J.ay
 refine .z<|.mo rfl<|.az rfl ?_
 refine .ret (aO _ (.one (.tmp rfl)) ((bG [0])) ?_)
 ·exact⟨Z,by simp[take,bf],ys,J,a8.trans a7,b0.ordered⟩
theorem PN(x:bE)(j:x.t.fits)(head cx:Int)(R:ao):Spec prog 303 [.agg x.enc.toArray,.int .u64 head,.int .u64 cx] R [] λv H'=>v=.bool (jK head cx x)/\H'=[]:=by
 refine Spec.body func303 rfl results303 ntmps303 rfl ?_
 refine .sr ?_
 refine .cc rfl (λk=>?_)
 refine .ag rfl<|.z<|.fa rfl<|.q (.loadT rfl) ?_
 refine .aH (ND x.t j _) (λv i=>?_)
 subst i
 refine .q .not<|.mo rfl ?_
 refine .split (t:=11) rfl (λf=>?_) (λf=>?_)
 refine .gT f<|.fa rfl<|.gT f<|.lo rfl<|.gT f<|.q .geq<|.q (.bA f) ?_
 refine .mo rfl ?_
 refine .split (t:=16) rfl (λe=>?_) (λe=>?_)
 refine .gT e<|.fa rfl<|.gT e<|.lo rfl<|.gT e<|.mo rfl<|.gT e<|.q .leq<|.q (.bA e) ?_
 refine .mo rfl ?_
 refine .split (t:=22) rfl (λb=>?_) (λb=>?_)
 refine .gT b<|.fa rfl<|.gT b<|.lo rfl<|.gT b<|.q .cG<|.gT b<|.mo rfl ?_
 refine .split (t:=26) rfl (λa=>?_) (λa=>?_)
 refine .gF a<|.gF a<|.gF a<|.gF a<|.gF a<|.gF a<|.bN rfl ?_
 refine .bN rfl ?_
 refine .bN rfl ?_
 refine .bN rfl ?_
 refine .gF a<|.gF a<|.bN rfl ?_
 refine .bN rfl ?_
 refine .bN rfl ?_
 refine .bN rfl ?_
 refine .gF a<|.gT b<|.q (.bA a) ?_
 refine .q (.bA b) ?_
 refine .az rfl ?_
 refine .ret (aW rfl ?_)
 ·refine⟨aed _ ?_,rfl⟩
  obtain⟨t,g,h⟩:=x
  unfold jK
  rw[aee]
  simp_all
  try omega
 refine .gT a<|.fa rfl<|.gT a<|.lo rfl<|.gT a<|.fa rfl<|.gT a<|.lo rfl<|.gT a<|.q .gtr<|.gT a<|.mo rfl ?_
 refine .split (t:=32) rfl (λc=>?_) (λc=>?_)
 refine .gT c<|.fa rfl<|.gT c<|.lo rfl<|.gT c<|.mo rfl<|.gT c<|.q .gtr<|.gT a<|.q (.bA c) ?_
 refine .gT a<|.mo rfl ?_
 refine .split (t:=38) rfl (λd=>?_) (λd=>?_)
 refine .gT d<|.fa rfl<|.gT d<|.lo rfl<|.gT d<|.mo rfl<|.gT d<|.q .leq<|.gT a<|.q (.bA d) ?_
 refine .gT b<|.q (.bg a) ?_
 refine .q (.bA b) ?_
 refine .az rfl ?_
 refine .ret (aW rfl ?_)
 ·refine⟨aed _ ?_,rfl⟩
  obtain⟨t,g,h⟩:=x
  unfold jK
  rw[aee]
  simp_all
  try omega
 refine .gF d<|.gF d<|.gF d<|.gF d<|.gT a<|.q (.bg d) ?_
 refine .gT b<|.q (.bg a) ?_
 refine .q (.bA b) ?_
 refine .az rfl ?_
 refine .ret (aW rfl ?_)
 ·refine⟨aed _ ?_,rfl⟩
  obtain⟨t,g,h⟩:=x
  unfold jK
  rw[aee]
  simp_all
  try omega
 refine .gF c<|.gF c<|.gF c<|.gF c<|.gT a<|.q (.bg c) ?_
 refine .gT a<|.mo rfl<|.gX<|.gX<|.gX<|.gX<|.gT a<|.q .cd<|.gT b<|.q (.bg a) ?_
 refine .q (.bA b) ?_
 refine .az rfl ?_
 refine .ret (aW rfl ?_)
 ·refine⟨aed _ ?_,rfl⟩
  obtain⟨t,g,h⟩:=x
  unfold jK
  rw[aee]
  simp_all
  try omega
 refine .gF b<|.gF b<|.gF b<|.gF b<|.bN rfl ?_
 refine .bN rfl ?_
 refine .bN rfl ?_
 refine .bN rfl ?_
 refine .bN rfl ?_
 refine .bN rfl ?_
 refine .bN rfl ?_
 refine .bN rfl ?_
 refine .bN rfl ?_
 refine .bN rfl ?_
 refine .bN rfl ?_
 refine .bN rfl ?_
 refine .bN rfl ?_
 refine .bN rfl ?_
 refine .bN rfl ?_
 refine .bN rfl ?_
 refine .bN rfl ?_
 refine .gF b<|.q (.bg b) ?_
 refine .az rfl ?_
 refine .ret (aW rfl ?_)
 ·refine⟨aed _ ?_,rfl⟩
  obtain⟨t,g,h⟩:=x
  unfold jK
  rw[aee]
  simp_all
  try omega
 refine .gF e<|.gF e<|.gF e<|.gF e<|.q (.bg e) ?_
 refine .mo rfl<|.gX<|.gX<|.gX<|.gX<|.bN rfl ?_
 refine .bN rfl ?_
 refine .bN rfl ?_
 refine .bN rfl ?_
 refine .bN rfl ?_
 refine .bN rfl ?_
 refine .bN rfl ?_
 refine .bN rfl ?_
 refine .bN rfl ?_
 refine .bN rfl ?_
 refine .bN rfl ?_
 refine .bN rfl ?_
 refine .bN rfl ?_
 refine .bN rfl ?_
 refine .bN rfl ?_
 refine .bN rfl ?_
 refine .bN rfl ?_
 refine .gX<|.q .cd<|.az rfl ?_
 refine .ret (aW rfl ?_)
 ·refine⟨aed _ ?_,rfl⟩
  obtain⟨t,g,h⟩:=x
  unfold jK
  rw[aee]
  simp_all
  try omega
 refine .gF f<|.gF f<|.gF f<|.q (.bg f) ?_
 refine .mo rfl<|.gX<|.gX<|.gX<|.gX<|.q .cd<|.mo rfl<|.gX<|.gX<|.gX<|.gX<|.bN rfl ?_
 refine .bN rfl ?_
 refine .bN rfl ?_
 refine .bN rfl ?_
 refine .bN rfl ?_
 refine .bN rfl ?_
 refine .bN rfl ?_
 refine .bN rfl ?_
 refine .bN rfl ?_
 refine .bN rfl ?_
 refine .bN rfl ?_
 refine .bN rfl ?_
 refine .bN rfl ?_
 refine .bN rfl ?_
 refine .bN rfl ?_
 refine .bN rfl ?_
 refine .bN rfl ?_
 refine .gX<|.q .cd<|.az rfl ?_
 refine .ret (aW rfl ?_)
 ·refine⟨aed _ ?_,rfl⟩
  obtain⟨t,g,h⟩:=x
  unfold jK
  rw[aee]
  simp_all
  try omega
theorem L7(x a:bE)(R:ao):Spec prog 304 [.agg x.enc.toArray,.agg a.enc.toArray] R [] λv H'=>v=.bool (kH x a)/\H'=[]:=by
 refine Spec.body func304 rfl results304 ntmps304 rfl ?_
 refine .sr ?_
 refine .cc rfl (λg=>?_)
 refine .cc rfl (λh=>?_)
 refine .ag rfl<|.zs<|.sr<|.fa rfl<|.q (.loadT rfl) ?_
 refine .fa rfl<|.q (.loadT rfl) ?_
 refine .q (.xo rfl rfl (aZ.kinds x.t) (aZ.kinds a.t)) ?_
 rw[show ek (List.take 7 (List.drop 0 x.enc)) (List.take 7 (List.drop 0 a.enc))=decide (x.t=a.t)from aZ.eq x.t a.t]
 refine .zn ?_
 refine .cond rfl (λc=>?_) λc=>?_
 refine .sr<|.fa rfl<|.q (.loadT rfl) ?_
 refine .fa rfl<|.q (.loadT rfl) ?_
 refine .aH (tV a.t x.t _) (λv f=>?_)
 subst f
 refine .az rfl ?_
 refine .ret (aR (aW rfl ?_))
 ·have e:¬x.t=a.t:=by simpa using c
  exact⟨by unfold kH;rw[aef e],rfl⟩
 refine .kn<|.sr<|.fa rfl<|.lo rfl<|.q .cb<|.mo rfl ?_
 refine .split (t:=18) rfl (λb=>?_) (λb=>?_)
 refine .gT b<|.fa rfl<|.gT b<|.lo rfl<|.gT b<|.fa rfl<|.gT b<|.lo rfl<|.gT b<|.q .leq<|.q (.bA b) ?_
 refine .az rfl ?_
 refine .ret (aW rfl ?_)
 ·have d:x.t=a.t:=by simpa using c
  refine⟨aed _ ?_,rfl⟩
  unfold kH
  rw[aec d]
  simp_all
 refine .gF b<|.gF b<|.gF b<|.gF b<|.gF b<|.q (.bg b) ?_
 refine .az rfl ?_
 refine .ret (aW rfl ?_)
 ·have d:x.t=a.t:=by simpa using c
  refine⟨aed _ ?_,rfl⟩
  unfold kH
  rw[aec d]
  simp_all
theorem PL(v:Value)(xs:List bE)(head cx:Int)(R:ao)(h:RS R 9 bE.enc v xs)(Z:∀x∈xs,x.t.fits):
  Spec prog 214 [v,.int .u64 head,.int .u64 cx] R [] λu H'=>∃T,H'=[T]/\∃p e,u=.tuple [p,.int .i64 e].toArray/\((mX xs head cx/\e=0/\∃g,p=pT g/\SI g ⟨xs,head,cx⟩ T)\/(¬mX xs head cx/\e=4/\p=.pointer none)):=by
 have J:=h.le
 obtain⟨Q,O,rfl⟩:=h.val
 refine Spec.du (H':=[[]]) (by simp) ?_
 refine Spec.body func214 rfl results214 ntmps214 rfl ?_
 refine .sr<|.ag rfl<|.ag rfl<|.zs<|.sr<|.mo rfl<|.mo rfl<|.q .gtr<|.mo rfl ?_
 refine .split (t:=14) rfl (λm=>?_) (λm=>?_)
 refine .gF m<|.gF m<|.q (.bA m) ?_
 refine .mo rfl<|.gX<|.gX<|.gX<|.q .dh<|.zn<|.cW ?_
 have E:¬mX xs head cx:=λj=>by
  obtain⟨⟨L,M,N⟩,_⟩:=j
  have:=J
  simp_all
  try omega
 refine .sr<|.ag rfl<|.az rfl ?_
 refine .ret (aR (aO _ (.two (.tmp rfl) (.tmp rfl)) ((bG [0])) ?_))
 ·exact⟨_,by simp[take];rfl,_,_,rfl,.inr ⟨E,rfl,rfl⟩⟩
 refine .gT m<|.mo rfl<|.gT m<|.q .gtr<|.q (.bg m) ?_
 refine .mo rfl ?_
 refine .split (t:=18) rfl (λf=>?_) (λf=>?_)
 refine .gF f<|.gF f<|.gF f<|.q (.bA f) ?_
 refine .zn<|.cW ?_
 have E:¬mX xs head cx:=λj=>by
  obtain⟨⟨L,M,N⟩,_⟩:=j
  have:=J
  simp_all
  try omega
 refine .sr<|.ag rfl<|.az rfl ?_
 refine .ret (aR (aO _ (.two (.tmp rfl) (.tmp rfl)) ((bG [0])) ?_))
 ·exact⟨_,by simp[take];rfl,_,_,rfl,.inr ⟨E,rfl,rfl⟩⟩
 refine .gT f<|.mo rfl<|.gT f<|.q (.cv h) ?_
 refine .gT f<|.q .gtr<|.q (.bg f) ?_
 refine .zn ?_
 refine .cond rfl (λW=>?_) λW=>?_
 have E:¬mX xs head cx:=λj=>by
  obtain⟨⟨L,M,N⟩,_⟩:=j
  have:=J
  simp_all
  try omega
 refine .sr<|.ag rfl<|.az rfl ?_
 refine .ret (aR (aO _ (.two (.tmp rfl) (.tmp rfl)) ((bG [0])) ?_))
 ·exact⟨_,by simp[take];rfl,_,_,rfl,.inr ⟨E,rfl,rfl⟩⟩
 have a5:cx<=head/\head<=4611686018427387903/\xs.length<=4096:=by
  simp_all
  try omega
 refine .kn<|.sr ?_
 refine .bM (yn _) (λu T0 k=>?_)
 obtain⟨g,rfl,hg⟩:=k
 obtain⟨n,S,U,K,a7,a8,rfl,Y⟩:=hg.cells
 refine .ag rfl<|.z ?_
 refine .sub (H':=[bl g [.bool true,.int .u64 0,.int .u64 0,.int .i64 n,S,U] 221,K]) (bu.cu (by simp)) ?_
 refine .mo rfl<|.mo rfl<|.mo rfl<|.mo rfl<|.nc rfl<|.fa rfl<|.ca rfl rfl<|.nc rfl<|.fa rfl<|.ca rfl rfl<|.zs<|.sr<|.mo rfl<|.q (.cv h) ?_
 refine .mo rfl<|.zn<|.block ?_
 refine .loop (X:=Nat×au) (λy=>(y.1<=xs.length/\ob head cx xs y.1)/\SI g ⟨xs.take y.1,head,cx⟩ y.2) (λy=>[(0,.slice Q xs.length O),(1,.int .u64 head),(2,.int .u64 cx),(8,pT g),(32,.slice Q xs.length O),(33,iN xs.length),(34,iN y.1)]) (λy=>[y.2]) (λy=>xs.length-y.1) (0,(g,Obj.cells [Value.bool true,Value.int .u64 head,Value.int .u64 cx,Value.int .i64 n,S,U].toArray 221 (0,0))::K) ⟨⟨Nat.zero_le _,Ov⟩,Y head cx⟩ kE.c.c.c.c.c.c.c (bu.cu (by simp[bT])) ?_
 rintro⟨i,T⟩ ⟨⟨hi,s⟩,B⟩
 simp only at hi s B⊢
 refine .sr<|.q .lss<|.zs ?_
 refine .cond rfl (λI=>?_) λI=>?_
 have r:i<xs.length:=fg I
 obtain⟨x,l⟩:=dM r
 have a4:=Z x (bD l)
 have F:xs.take (i+1)=xs.take i++[x]:=by rw[aeh,l];rfl
 obtain⟨a,D⟩:∃a,xs[i-1]? =some a:=⟨_,bd (by omega)⟩
 refine .kn<|.seq<|.block<|.sr<|.mo rfl ?_
 refine .cB i h l (λa9=>?_)
 refine .q (.bj rfl) ?_
 refine .cn (λa6=>?_)
 refine .ag rfl<|.bZ rfl rfl<|.zs<|.seq<|.cq [] mixed ?_
 refine .tO 0 rfl (.bj rfl)<|.tO 1 rfl .move<|.tO 2 rfl .move ?_
 refine .sT 3 rfl ?_
 refine .aH (PN x a4 head cx _) (λu k=>?_)
 subst k
 refine .nil (Next.sub ?_)
 refine .tO 4 rfl .not<|.tO 5 rfl .move ?_
 refine RA.split (t:=44) rfl (λd=>?_) (λd=>?_)
 refine .cV 6 rfl rfl d rfl (by kernel_rfl) ?_
 refine .cV 7 rfl rfl d rfl (by kernel_rfl) ?_
 refine .cV 8 rfl rfl d rfl (by kernel_rfl) ?_
 refine .m5 9 rfl rfl (by kernel_rfl) ?_
 refine .m5 10 rfl rfl (by kernel_rfl) ?_
 refine .m5 11 rfl rfl (by kernel_rfl) ?_
 refine .m5 12 rfl rfl (by kernel_rfl) ?_
 refine .m5 13 rfl rfl (by kernel_rfl) ?_
 refine .m5 14 rfl rfl (by kernel_rfl) ?_
 refine .sT 15 rfl ?_
 refine .bN rfl ?_
 refine .nil (Next.sub ?_)
 refine .m5 16 rfl rfl (by kernel_rfl) ?_
 refine .cV 17 rfl rfl d rfl (by kernel_rfl) ?_
 refine .tO 18 rfl (.bA d) ?_
 refine RA.nil (by kernel_rfl) ?_
 refine aG<|.cW<|.sr<|.ag rfl<|.az rfl ?_
 refine .ret (aR (bi (aR (cK (bi (aR (aO _ (.two (.tmp rfl) (.tmp rfl)) ((bG [0])) ?_)))))))
 ·exact⟨_,by simp[take];rfl,_,_,rfl,.inr ⟨λj=>by have:=(j.2 i x r l).1;rw[this]at d;simp at d,rfl,rfl⟩⟩
 refine .dd 6 rfl rfl d .move (by kernel_rfl) ?_
 refine .dd 7 rfl rfl d .gtr (by kernel_rfl) ?_
 refine .dd 8 rfl rfl d .move (by kernel_rfl) ?_
 refine RA.split (t:=47) rfl (λb=>?_) (λb=>?_)
 have V:0<i:=by simpa using b
 have b0:=h.pc D
 refine .dd 9 rfl rfl b (.bj rfl) (by kernel_rfl) ?_
 refine .dd 10 rfl rfl b .move (by kernel_rfl) ?_
 refine .dd 11 rfl rfl b .move (by kernel_rfl) ?_
 refine .dd 12 rfl rfl b (.i64 ((i-1:Nat):Int) .sub ⟨by omega,by omega,by omega⟩) (by kernel_rfl) ?_
 refine .dd 13 rfl rfl b (.cB (i-1) h D rfl rfl rfl) (by kernel_rfl) ?_
 refine .dd 14 rfl rfl b (.bj rfl) (by kernel_rfl) ?_
 refine .sT 15 rfl ?_
 refine .gT b ?_
 refine .aH (L7 x a _) (λu k=>?_)
 subst k
 refine .nil (Next.sub ?_)
 refine .dd 16 rfl rfl b .not (by kernel_rfl) ?_
 refine .dd 17 rfl rfl d (.bA b) (by kernel_rfl) ?_
 refine .tO 18 rfl (.bg d) ?_
 refine RA.nil (by kernel_rfl) ?_
 refine aG ?_
 refine .cond rfl (λA=>?_) λA=>?_
 refine .sr<|.ag rfl<|.az rfl ?_
 refine .ret (aR (bi (aR (cK (bi (aR (aO _ (.two (.tmp rfl) (.tmp rfl)) ((bG [0])) ?_)))))))
 ·exact⟨_,by simp[take];rfl,_,_,rfl,.inr ⟨λj=>by have:=(j.2 i x r l).2 a V D;rw[this]at A;simp at A,rfl,rfl⟩⟩
 refine .kn<|.region<|.mo rfl<|.q (.bj rfl) ?_
 refine .aT (uo g _ T B x (by simp only[aep];omega) _) (λu w k=>?_)
 obtain⟨rfl,C⟩:=k
 refine .nil<|bz<|aG<|.region ?_
 refine .ia (i+1) .add ?_
 refine .mo rfl<|.nil ?_
 ·first
   |exact br (i+1,w) ⟨⟨r,qS s l (by simpa using d) λG H o=>by simp at b;omega⟩,by simp only;rw[F];exact C⟩ (by simp only;omega) kE.c.c.c.c.c.c.c (bG [1])
   |exact br (i+1,w) ⟨⟨r,qS s l (by simpa using d) λG H o=>by rw[D]at o;cases o;simpa using A⟩,by simp only;rw[F];exact C⟩ (by simp only;omega) kE.c.c.c.c.c.c.c (bG [1])
 refine .cV 9 rfl rfl b rfl (by kernel_rfl) ?_
 refine .cV 10 rfl rfl b rfl (by kernel_rfl) ?_
 refine .cV 11 rfl rfl b rfl (by kernel_rfl) ?_
 refine .cV 12 rfl rfl b rfl (by kernel_rfl) ?_
 refine .cV 13 rfl rfl b rfl (by kernel_rfl) ?_
 refine .cV 14 rfl rfl b rfl (by kernel_rfl) ?_
 refine .sT 15 rfl ?_
 refine .gF b ?_
 refine .nil (Next.sub ?_)
 refine .cV 16 rfl rfl b rfl (by kernel_rfl) ?_
 refine .dd 17 rfl rfl d (.bg b) (by kernel_rfl) ?_
 refine .tO 18 rfl (.bg d) ?_
 refine RA.nil (by kernel_rfl) ?_
 refine aG<|.bB<|.kn<|.region<|.mo rfl<|.q (.bj rfl) ?_
 refine .aT (uo g _ T B x (by simp only[aep];omega) _) (λu w k=>?_)
 obtain⟨rfl,C⟩:=k
 refine .nil<|bz<|aG<|.region ?_
 refine .ia (i+1) .add ?_
 refine .mo rfl<|.nil ?_
 ·first
   |exact br (i+1,w) ⟨⟨r,qS s l (by simpa using d) λG H o=>by simp at b;omega⟩,by simp only;rw[F];exact C⟩ (by simp only;omega) kE.c.c.c.c.c.c.c (bG [1])
   |exact br (i+1,w) ⟨⟨r,qS s l (by simpa using d) λG H o=>by rw[D]at o;cases o;simpa using A⟩,by simp only;rw[F];exact C⟩ (by simp only;omega) kE.c.c.c.c.c.c.c (bG [1])
 refine .exit<|bk<|bw<|bq<|aG<|.sr<|.mo rfl<|.ag rfl<|.az rfl ?_
 refine .ret (aO _ (.two (.tmp rfl) (.tmp rfl)) ((bG [0])) ?_)
 ·have a0:i=xs.length:=by have:=ba I;omega
  subst a0
  rw[aez]at B
  exact⟨T,by simp[take],_,_,rfl,.inl ⟨⟨a5,s⟩,rfl,g,rfl,B⟩⟩
namespace SGC
def kd:KD where
 t:=λx=>cond (Nat.beq x 144) 136<|cond (Nat.beq x 145) 137<|cond (Nat.beq x 290) 283<|x
 p:=λx=>cond (Nat.beq x 181) 176<|cond (Nat.beq x 387) 379<|cond (Nat.beq x 388) 380<|cond (Nat.beq x 386) 378<|cond (Nat.beq x 385) 377<|cond (Nat.beq x 459) 456<|cond (Nat.beq x 460) 457<|cond (Nat.beq x 490) 489<|cond (Nat.beq x 390) 382<|cond (Nat.beq x 392) 384<|cond (Nat.beq x 391) 383<|cond (Nat.beq x 289) 288<|cond (Nat.beq x 389) 381<|cond (Nat.beq x 458) 455<|x
 sz:=9
 u1:=(inferInstance:bh prog 137 (.slice 136))
 u2:=(inferInstance:Sz prog 136 9)
 u3:=(inferInstance:bV prog 136 true)
 t0:=rfl
 t3:=rfl
 t4:=rfl
 t28:=rfl
 t197:=rfl
 t232:=rfl
 t484:=rfl
 t485:=rfl
 t565:=rfl
 t568:=rfl
 t597:=rfl
 gj:=rfl
 gk:=rfl
 gl:=rfl
 nn:=(inferInstance:ap prog 379)
 np:=(inferInstance:ap prog 380)
 nm:=(inferInstance:ap prog 378)
 nl:=(inferInstance:ap prog 377)
 nv:=(inferInstance:ap prog 456)
 nw:=(inferInstance:ap prog 457)
 ny:=(inferInstance:ap prog 489)
 nr:=(inferInstance:ap prog 382)
 nt:=(inferInstance:ap prog 384)
 ns:=(inferInstance:ap prog 383)
 nk:=(inferInstance:ap prog 288)
 nq:=(inferInstance:ap prog 381)
 nu:=(inferInstance:ap prog 455)
 ot:=⟨f176,func176,by kernel_rfl,by kernel_rfl,by kernel_rfl⟩
 ox:=⟨f379,func379,by kernel_rfl,by kernel_rfl,by kernel_rfl⟩
 oy:=⟨f380,func380,by kernel_rfl,by kernel_rfl,by kernel_rfl⟩
 ow:=⟨f378,func378,by kernel_rfl,by kernel_rfl,by kernel_rfl⟩
 ov:=⟨f377,func377,by kernel_rfl,by kernel_rfl,by kernel_rfl⟩
 oE:=⟨f456,func456,by kernel_rfl,by kernel_rfl,by kernel_rfl⟩
 oF:=⟨f457,func457,by kernel_rfl,by kernel_rfl,by kernel_rfl⟩
 oG:=⟨f489,func489,by kernel_rfl,by kernel_rfl,by kernel_rfl⟩
 oA:=⟨f382,func382,by kernel_rfl,by kernel_rfl,by kernel_rfl⟩
 oC:=⟨f384,func384,by kernel_rfl,by kernel_rfl,by kernel_rfl⟩
 oB:=⟨f383,func383,by kernel_rfl,by kernel_rfl,by kernel_rfl⟩
 ou:=⟨f288,func288,by kernel_rfl,by kernel_rfl,by kernel_rfl⟩
 oz:=⟨f381,func381,by kernel_rfl,by kernel_rfl,by kernel_rfl⟩
 oD:=⟨f455,func455,by kernel_rfl,by kernel_rfl,by kernel_rfl⟩
instance:bH dZ kd.sz:=⟨λ_=>rfl⟩
section
variable{c:GP->GP->Int}{ok:GP->Prop}{f:FuncId}{caps:List Value} [e:ap prog f]
theorem hE(v:Value)(xs:List GP)(T:au)(R:ao)(h:OS 136 9 dZ v xs T)(b:xs.length<=1000000000)(a:eR prog f caps R (λp:GP=>Value.agg (dZ p).toArray) c ok)(d:∀x∈xs,ok x)(e:SO (aM c)):
  Spec prog 176 [v,.func (.func f) #[] caps.toArray] R [T] λu H'=>∃T',H'=[T']/\u=.tuple #[]/\∃ys,OS 136 9 dZ v ys T'/\ys.Perm xs/\SR (aM c) ys 0 ys.length:=by
 exact SG.hE (κ:=kd) (enc:=dZ) v xs T R h b a d e
end
end SGC
namespace SGN
def kd:KD where
 t:=λx=>cond (Nat.beq x 144) 128<|cond (Nat.beq x 145) 129<|cond (Nat.beq x 290) 280<|x
 p:=λx=>cond (Nat.beq x 181) 173<|cond (Nat.beq x 387) 371<|cond (Nat.beq x 388) 372<|cond (Nat.beq x 386) 370<|cond (Nat.beq x 385) 369<|cond (Nat.beq x 459) 453<|cond (Nat.beq x 460) 454<|cond (Nat.beq x 490) 488<|cond (Nat.beq x 390) 374<|cond (Nat.beq x 392) 376<|cond (Nat.beq x 391) 375<|cond (Nat.beq x 289) 286<|cond (Nat.beq x 389) 373<|cond (Nat.beq x 458) 452<|x
 sz:=3
 u1:=(inferInstance:bh prog 129 (.slice 128))
 u2:=(inferInstance:Sz prog 128 3)
 u3:=(inferInstance:bV prog 128 true)
 t0:=rfl
 t3:=rfl
 t4:=rfl
 t28:=rfl
 t197:=rfl
 t232:=rfl
 t484:=rfl
 t485:=rfl
 t565:=rfl
 t568:=rfl
 t597:=rfl
 gj:=rfl
 gk:=rfl
 gl:=rfl
 nn:=(inferInstance:ap prog 371)
 np:=(inferInstance:ap prog 372)
 nm:=(inferInstance:ap prog 370)
 nl:=(inferInstance:ap prog 369)
 nv:=(inferInstance:ap prog 453)
 nw:=(inferInstance:ap prog 454)
 ny:=(inferInstance:ap prog 488)
 nr:=(inferInstance:ap prog 374)
 nt:=(inferInstance:ap prog 376)
 ns:=(inferInstance:ap prog 375)
 nk:=(inferInstance:ap prog 286)
 nq:=(inferInstance:ap prog 373)
 nu:=(inferInstance:ap prog 452)
 ot:=⟨f173,func173,by kernel_rfl,by kernel_rfl,by kernel_rfl⟩
 ox:=⟨f371,func371,by kernel_rfl,by kernel_rfl,by kernel_rfl⟩
 oy:=⟨f372,func372,by kernel_rfl,by kernel_rfl,by kernel_rfl⟩
 ow:=⟨f370,func370,by kernel_rfl,by kernel_rfl,by kernel_rfl⟩
 ov:=⟨f369,func369,by kernel_rfl,by kernel_rfl,by kernel_rfl⟩
 oE:=⟨f453,func453,by kernel_rfl,by kernel_rfl,by kernel_rfl⟩
 oF:=⟨f454,func454,by kernel_rfl,by kernel_rfl,by kernel_rfl⟩
 oG:=⟨f488,func488,by kernel_rfl,by kernel_rfl,by kernel_rfl⟩
 oA:=⟨f374,func374,by kernel_rfl,by kernel_rfl,by kernel_rfl⟩
 oC:=⟨f376,func376,by kernel_rfl,by kernel_rfl,by kernel_rfl⟩
 oB:=⟨f375,func375,by kernel_rfl,by kernel_rfl,by kernel_rfl⟩
 ou:=⟨f286,func286,by kernel_rfl,by kernel_rfl,by kernel_rfl⟩
 oz:=⟨f373,func373,by kernel_rfl,by kernel_rfl,by kernel_rfl⟩
 oD:=⟨f452,func452,by kernel_rfl,by kernel_rfl,by kernel_rfl⟩
instance:bH gd kd.sz:=⟨λ_=>rfl⟩
section
variable{c:NP->NP->Int}{ok:NP->Prop}{f:FuncId}{caps:List Value} [e:ap prog f]
theorem hE(v:Value)(xs:List NP)(T:au)(R:ao)(h:OS 128 3 gd v xs T)(b:xs.length<=1000000000)(a:eR prog f caps R (λp:NP=>Value.agg (gd p).toArray) c ok)(d:∀x∈xs,ok x)(e:SO (aM c)):
  Spec prog 173 [v,.func (.func f) #[] caps.toArray] R [T] λu H'=>∃T',H'=[T']/\u=.tuple #[]/\∃ys,OS 128 3 gd v ys T'/\ys.Perm xs/\SR (aM c) ys 0 ys.length:=by
 exact SG.hE (κ:=kd) (enc:=gd) v xs T R h b a d e
end
end SGN
namespace STK
def kd:KD where
 t:=λx=>cond (Nat.beq x 144) 144<|cond (Nat.beq x 145) 145<|cond (Nat.beq x 290) 290<|x
 p:=λx=>cond (Nat.beq x 181) 181<|cond (Nat.beq x 387) 387<|cond (Nat.beq x 388) 388<|cond (Nat.beq x 386) 386<|cond (Nat.beq x 385) 385<|cond (Nat.beq x 459) 459<|cond (Nat.beq x 460) 460<|cond (Nat.beq x 490) 490<|cond (Nat.beq x 390) 390<|cond (Nat.beq x 392) 392<|cond (Nat.beq x 391) 391<|cond (Nat.beq x 289) 289<|cond (Nat.beq x 389) 389<|cond (Nat.beq x 458) 458<|x
 sz:=9
 u1:=(inferInstance:bh prog 145 (.slice 144))
 u2:=(inferInstance:Sz prog 144 9)
 u3:=(inferInstance:bV prog 144 true)
 t0:=rfl
 t3:=rfl
 t4:=rfl
 t28:=rfl
 t197:=rfl
 t232:=rfl
 t484:=rfl
 t485:=rfl
 t565:=rfl
 t568:=rfl
 t597:=rfl
 gj:=rfl
 gk:=rfl
 gl:=rfl
 nn:=(inferInstance:ap prog 387)
 np:=(inferInstance:ap prog 388)
 nm:=(inferInstance:ap prog 386)
 nl:=(inferInstance:ap prog 385)
 nv:=(inferInstance:ap prog 459)
 nw:=(inferInstance:ap prog 460)
 ny:=(inferInstance:ap prog 490)
 nr:=(inferInstance:ap prog 390)
 nt:=(inferInstance:ap prog 392)
 ns:=(inferInstance:ap prog 391)
 nk:=(inferInstance:ap prog 289)
 nq:=(inferInstance:ap prog 389)
 nu:=(inferInstance:ap prog 458)
 ot:=⟨f181,func181,by kernel_rfl,by kernel_rfl,by kernel_rfl⟩
 ox:=⟨f387,func387,by kernel_rfl,by kernel_rfl,by kernel_rfl⟩
 oy:=⟨f388,func388,by kernel_rfl,by kernel_rfl,by kernel_rfl⟩
 ow:=⟨f386,func386,by kernel_rfl,by kernel_rfl,by kernel_rfl⟩
 ov:=⟨f385,func385,by kernel_rfl,by kernel_rfl,by kernel_rfl⟩
 oE:=⟨f459,func459,by kernel_rfl,by kernel_rfl,by kernel_rfl⟩
 oF:=⟨f460,func460,by kernel_rfl,by kernel_rfl,by kernel_rfl⟩
 oG:=⟨f490,func490,by kernel_rfl,by kernel_rfl,by kernel_rfl⟩
 oA:=⟨f390,func390,by kernel_rfl,by kernel_rfl,by kernel_rfl⟩
 oC:=⟨f392,func392,by kernel_rfl,by kernel_rfl,by kernel_rfl⟩
 oB:=⟨f391,func391,by kernel_rfl,by kernel_rfl,by kernel_rfl⟩
 ou:=⟨f289,func289,by kernel_rfl,by kernel_rfl,by kernel_rfl⟩
 oz:=⟨f389,func389,by kernel_rfl,by kernel_rfl,by kernel_rfl⟩
 oD:=⟨f458,func458,by kernel_rfl,by kernel_rfl,by kernel_rfl⟩
instance:bH dL kd.sz:=⟨λ_=>rfl⟩
section
variable{c:TP->TP->Int}{ok:TP->Prop}{f:FuncId}{caps:List Value} [e:ap prog f]
theorem hE(v:Value)(xs:List TP)(T:au)(R:ao)(h:OS 144 9 dL v xs T)(b:xs.length<=1000000000)(a:eR prog f caps R (λp:TP=>Value.agg (dL p).toArray) c ok)(d:∀x∈xs,ok x)(e:SO (aM c)):
  Spec prog 181 [v,.func (.func f) #[] caps.toArray] R [T] λu H'=>∃T',H'=[T']/\u=.tuple #[]/\∃ys,OS 144 9 dL v ys T'/\ys.Perm xs/\SR (aM c) ys 0 ys.length:=by
 exact SG.hE (κ:=kd) (enc:=dL) v xs T R h b a d e
end
end STK
def nK(M:List (ByteArray×TP))(k:ByteArray):Tok:=((bO k M).map (·.2)).getD Tok.zero
theorem Me{M:List (ByteArray×TP)}(a:(M.map (·.1)).Nodup):(M.map (·.1)).map (nK M)=M.map (·.2.2):=by
 rw[aer]
 refine aey λp b=>?_
 have:bO p.1 M=some p.2:=jl a (by exact b)
 simp[nK,this]
abbrev cN(ps:List TP):List Tok:=ps.map (·.2)
def kv(L:List Tok):List (ByteArray×Tok):=L.map λt=>(t.text,t)
theorem M8{A:List (ByteArray×Tok)}(h:∀p∈A,p.1=p.2.text):kv (A.map (·.2))=A:=by
 unfold kv
 rw[aer]
 conv=>rhs;rw[<-List.map_id A]
 exact aey λp a=>by rw[Function.comp, <-h p a];rfl
theorem Qq(g:Nat)(A:List (ByteArray×Tok))(last:Int)(T:au)(h:VI g A last T)(hl:A.length<=1000000)(R:ao)(C:∀p∈T,R p.1 p.2):
  Spec prog 84 [pT g] R [] λv H'=>∃T',H'=[T']/\∃ps To Ti,T'=To++Ti/\OS 144 9 dL v ps To/\(∀p∈ps,jQ (eN Ti) p)/\(kv (cN ps)).Perm A/\ps.Pairwise (λp q=>cw q.2.text p.2.text=false):=by
 have a7:=h.keys
 obtain⟨I,_,rfl,vm,M,q,Tm,Tq,rfl,j,hI,hA,hQ⟩:=h
 obtain⟨f,rfl⟩:∃b,vm=.map (some b):=by obtain⟨b,es,clock,h1,_⟩:=j;exact⟨b,h1⟩
 have pq:PC R (pT g) [.map (some f),pT q,.int .i64 last]:=PC.of (E:=287) (fr:=(0,0)) (C (g,.cells [.map (some f),pT q,.int .i64 last].toArray 287 (0,0)) (by simp))
 have rm:RM R (λs:ByteArray=>.string s) (λp:TP=>.agg (dL p).toArray) (.map (some f)) M:=j.rm λp hp=>C p (by simp[hp])
 have hT:∀b o,eN I b o->R b o:=λb o d=>C (b,o) (by have:(b,o)∈I:=d.1;simp[this])
 have L:(M.map (·.2.2)).Perm (A.map (·.2)):=by
  have:=hA.map (·.2)
  unfold dr at this
  rw[aer]at this
  exact this
 have b2:M.length=A.length:=by simpa using L.length_eq
 refine Spec.du (H':=[[],[]]) (by simp) ?_
 refine Spec.body func84 rfl results84 ntmps84 rfl ?_
 refine .sr<|.ag rfl<|.zs<|.sr<|.mo rfl ?_
 refine .aH (ug g f _ _ _) (λv D=>?_)
 subst D
 refine .q .not<|.zn<|.bB<|.kn<|.sr<|.ag rfl<|.zs<|.sr<|.mo rfl<|.nc rfl<|.fa rfl<|.lo rfl ?_
 refine .range rm (λ_ _=>.inl) rfl (λit a0 a6=>?_)
 refine .zn<|.block ?_
 refine .loop (X:=List TP×List ByteArray×Value×au×au×au) (λy=>(∀p∈y.1,jQ (eN y.2.2.2.2.1) p)/\y.2.1.Nodup/\(cN y.1++y.2.1.map (nK M)).Perm (A.map (·.2))/\OS 144 9 dL y.2.2.1 y.1 y.2.2.2.1/\It R (λs:ByteArray=>.string s) (λp:TP=>.agg (dL p).toArray) (.map (some f)) M it y.2.1 y.2.2.2.2.2) (λy=>[(0,pT g),(3,y.2.2.1),(13,it)]) (λy=>[y.2.2.2.2.2,y.2.2.2.1,y.2.2.2.2.1]) (λy=>y.2.1.length) ([],M.map (·.1),sZ,[],[],a0) ⟨by simp,j.nd,by rw[Me j.nd];exact L,OS.nil,a6⟩ kE.c.c.c rH ?_
 rintro⟨ps,b0,vo,To,n,Ti⟩ ⟨m,B,i,l,U⟩
 simp only at m B i l U⊢
 have i2:=l.ay
 have Y:=i.length_eq
 simp only[List.length_append,aet]at Y
 refine .sr ?_
 refine .pj U (λ_ _=>.inl) rfl (λb rest a1 hf ht=>?_)
 refine .q .extract<|.zs ?_
 refine .cond rfl (λr=>?_) λr=>?_
 obtain⟨k,⟨F,e⟩,hk,W,V⟩:=ht r
 obtain⟨_,Q,a3⟩:=hI (k,(F,e)) (jW W)
 have i3:bI (dL (F,e)):=⟨Q.bU⟩
 have a5:nK M k=e:=by simp[nK,W]
 have S:=filter_one B hk
 refine .kn<|.block<|.sr ?_
 refine .q (.entry V (λ_ _=>.inl) rfl) ?_
 refine .q .extract ?_
 refine .cn (λb5=>?_)
 refine .bZ rfl rfl<|.zn<|.region<|.mo rfl<|.q (.bj rfl) ?_
 refine .bM (yE F e _ (Q.mono λb o d=>.inl (hT b o d)) a3) (λv T1 D=>?_)
 obtain⟨G,rfl,w⟩:=D
 have i4:bI (dL (G,e)):=⟨w.bU⟩
 refine .hY (λb1=>?_)
 refine .append l (RS.lits (xs:=[((G,e):TP)]) rfl (by simp[dL]) (by have:=w.bU;simpa using this)) (by simp;omega) (λv5 T5 a2=>?_)
 refine .ag rfl<|.nil<|bz ?_
 ·refine br (ps++[(G,e)],b0.filter λk'=>decide (k'≠k),v5,T5,T1++n,a1) ⟨λp hp=>?_,B.sublist aex,?_,a2,V.it⟩ ?_ kE.c.c.c ((bG [3,3,1,2]).trans (bu.cu (by simp[take,bf])))
  ·simp only
   rcases List.mem_append.1 hp with hp|hp
   ·exact(m p hp).mono λb o d=>oe d
   ·simp only[List.mem_singleton]at hp;subst hp
    exact w.mono λb o d=>mw d
  ·simp only
   refine List.Perm.trans ?_ i
   rw[cN,aeo,List.append_assoc]
   refine List.Perm.append_left _ ?_
   have:=(S.map (nK M)).symm
   rw[List.map_cons,a5]at this
   exact this
  ·have:=S.length_eq
   simp only[List.length_cons]at this
   simp only;omega
 have a9:=hf r
 subst a9
 simp only[List.map_nil,List.append_nil]at i
 have a4:eR prog 182 [] R (λp:TP=>Value.agg (dL p).toArray) pO rF:=λx y hx hy R2 _=>P4 x y R2 hx hy
 refine .exit<|bk<|bw<|bq<|aG<|.sr<|.mo rfl ?_
 refine .aT (STK.hE (caps:=[]) vo ps To _ l (by simp at Y;omega) a4 (λp hp=>(m p hp).bU) P3) (λu H hu=>?_)
 obtain⟨rfl,ys,N,Z,a8⟩:=hu
 have i5:=N.ay
 refine .z<|.mo rfl<|.az rfl ?_
 refine .ret (aO _ (.one (.tmp rfl)) ((bG [1,1]).trans (bu.cu (H':=[H++n]) (by simp[take,bf]))) ?_)
 ·refine⟨_,rfl,ys,H,n,rfl,N,λp hp=>m p (Z.mem_iff.1 hp),?_,a8.ordered.imp λ{a b} O=>by rw[qx]at O;exact O⟩
  have J:=((Z.map (·.2)).trans i).map λt:Tok=>(t.text,t)
  have K:=M8 a7
  unfold kv at K
  rw[K]at J
  exact J
def iC(ts:List Tok)(last:Int)(i:Nat):Bool:=match ts[i]? with
 |none=>false
 |some t=>(ja t last&& !(t.used&&t.kind==1))&&(i==0||match ts[i-1]? with
  |none=>false
  |some u=>cw u.text t.text)
def fq(ts:List Tok)(last:Int):Bool:=decide (ts.length<=4096)&&decide (0<=last)&&decide (last<=1099511627776)&&jY (iC ts last) ts.length
theorem yt{c:List Tok}{last:Int}{i:Nat}{t:Tok}(j:c[i]? =some t)(h:iC c last i=true):ja t last=true/\(t.used=true->t.kind≠1)/\(i=0\/∃u,c[i-1]? =some u/\cw u.text t.text=true):=by
 unfold iC at h
 rw[j]at h
 simp only[aeg,aen,beq_iff_eq]at h
 obtain⟨⟨d,e⟩,f⟩:=h
 refine⟨d,λb g=>by simp[b,g]at e,f.imp id λa=>?_⟩
 cases b:c[i-1]? with
 |none=>rw[b]at a;cases a
 |some u=>rw[b]at a;exact⟨u,rfl,a⟩
theorem re{a:List Tok}{last:Int}{i:Nat}{t:Tok}(g:a[i]? =some t)(b:ja t last=true)(c:t.used=true->t.kind≠1)(d:i=0\/∃u,a[i-1]? =some u/\cw u.text t.text=true):iC a last i=true:=by
 unfold iC
 rw[g]
 simp only[aeg,aen,beq_iff_eq]
 refine⟨⟨b,?_⟩,d.imp id λ⟨u,e,f⟩=>by rw[e];exact f⟩
 cases hu:t.used with
 |false=>rfl
 |true=>have:=c hu;simpa using this
theorem mm{a:List Tok}{last:Int}{i:Nat}{t:Tok}(b:a[i]? =some t)(h:¬(ja t last=true/\(t.used=true->t.kind≠1)/\(i=0\/∃u,a[i-1]? =some u/\cw u.text t.text=true))):fq a last=false:=by
 have e:iC a last i=false:=aeu.2 λc=>h (yt b c)
 have d:=(aes.1 b).1
 unfold fq
 rw[NF e d,aeq]
theorem qL{b:List Tok}{last:Int}{i:Nat}(h:jY (iC b last) i=true)(hi:i<=b.length):(b.take i).Pairwise λc d=>cw c.text d.text=true:=by
 refine xW (r:=λc d:Tok=>cw c.text d.text=true) (λx y z g j=>kY g j) λk x y f a=>?_
 have m:=(aes.1 a).1
 rw[aep]at m
 rw[List.getElem?_take_of_lt (by omega)]at f a
 obtain⟨_,_,h3⟩:=yt a (xy h (by omega))
 rcases h3 with h3|⟨u,e,l⟩
 ·omega
 ·rw[Nat.add_sub_cancel,f]at e
  cases e;exact l
theorem VI.ps{g:Nat}{A:List (ByteArray×Tok)}{last:Int}{T:au}(h:VI g A last T):∃bm q,PS T (pT g) [.map (some bm),pT q,.int .i64 last]:=by
 obtain⟨d,_,rfl,c,M,q,e,f,rfl,a,j,i,k⟩:=h
 obtain⟨bm,rfl⟩:∃b,c=.map (some b):=by obtain⟨b,es,clock,h1,_⟩:=a;exact⟨b,h1⟩
 exact⟨bm,q,PS.of (E:=287) (fr:=(0,0)) (by simp)⟩
theorem Qr(v:Value)(ps:List TP)(last:Int)(R:ao)(h:RS R 9 dL v ps)(hc:∀p∈ps,jQ R p)(hf:∀p∈ps,p.2.hZ):
    Spec prog 211 [v,.int .i64 last] R [] λu H'=>∃T,H'=[T]/\((fq (cN ps) last=true/\∃g,u=.tuple [pT g,.int .i64 0].toArray/\VI g (kv (cN ps)) last T)\/(fq (cN ps) last=false/\u=.tuple [.pointer none,.int .i64 4].toArray)):=by
  have a5:=h.le
  have a3:(cN ps).length=ps.length:=by simp
  obtain⟨pv,a0,rfl⟩:=h.val
  refine Spec.body func211 rfl results211 ntmps211 rfl ?_
  refine .sr<|.ag rfl<|.ag rfl<|.zs<|.sr<|.mo rfl<|.q (.cv h) ?_
  refine .q .gtr<|.mo rfl ?_
  refine .split (t:=12) rfl (λB=>?_) (λB=>?_)
  have f:fq (cN ps) last=false:=by
    have h9:=bp B
    unfold fq
    rw[aej (by omega),aek,aek,aek]
  refine .gF B<|.gF B<|.q (.bA B) ?_
  refine .mo rfl<|.gX<|.gX<|.q .dh<|.zn<|.cW ?_
  have f:fq (cN ps) last=false:=by
    first
      |assumption
      |(unfold fq;rw[aej (p:=last<=1099511627776) (by have h9:=bp U;omega),aeq,aek])
  refine .sr<|.ag rfl<|.az rfl ?_
  refine .ret (aR (aO _ (.two (.tmp rfl) (.tmp rfl)) (.one [0] _) ?_))
  ·first
      |exact⟨_,rfl,.inl ⟨F,g,rfl,by simpa[take]using l⟩⟩
      |exact⟨_,rfl,.inr ⟨f,rfl⟩⟩
  refine .gT B<|.mo rfl<|.gT B<|.q .lss<|.q (.bg B) ?_
  refine .mo rfl ?_
  refine .split (t:=16) rfl (λC=>?_) (λC=>?_)
  have f:fq (cN ps) last=false:=by
    have h9:=bp C
    unfold fq
    rw[aej (p:=0<=last) (by omega),aeq,aek,aek]
  refine .gF C<|.gF C<|.q (.bA C) ?_
  refine .zn<|.cW ?_
  have f:fq (cN ps) last=false:=by
    first
      |assumption
      |(unfold fq;rw[aej (p:=last<=1099511627776) (by have h9:=bp U;omega),aeq,aek])
  refine .sr<|.ag rfl<|.az rfl ?_
  refine .ret (aR (aO _ (.two (.tmp rfl) (.tmp rfl)) (.one [0] _) ?_))
  ·first
      |exact⟨_,rfl,.inl ⟨F,g,rfl,by simpa[take]using l⟩⟩
      |exact⟨_,rfl,.inr ⟨f,rfl⟩⟩
  refine .gT C<|.mo rfl<|.gT C<|.q .gtr<|.q (.bg C) ?_
  refine .zn ?_
  refine .cond rfl (λU=>?_) λU=>?_
  have f:fq (cN ps) last=false:=by
    first
      |assumption
      |(unfold fq;rw[aej (p:=last<=1099511627776) (by have h9:=bp U;omega),aeq,aek])
  refine .sr<|.ag rfl<|.az rfl ?_
  refine .ret (aR (aO _ (.two (.tmp rfl) (.tmp rfl)) (.one [0] _) ?_))
  ·first
      |exact⟨_,rfl,.inl ⟨F,g,rfl,by simpa[take]using l⟩⟩
      |exact⟨_,rfl,.inr ⟨f,rfl⟩⟩
  have g1:=ba B
  have g2:=ba C
  have g3:=ba U
  refine .kn<|.sr ?_
  refine .bM (yO _) (λu T0 j=>?_)
  obtain⟨g,rfl,hg⟩:=j
  obtain⟨Td,_,rfl,vm,M,q,Tm,Tq,rfl,hM,hI,hA,hQ⟩:=hg
  refine .ag rfl<|.z ?_
  refine .sub (H':=[bl g [vm,pT q,.int .i64 0] 287,Tm,Tq,Td]) (bu.cu (by simp)) ?_
  refine .mo rfl<|.mo rfl<|.nc rfl<|.fa rfl<|.ca rfl rfl<|.zs<|.sr<|.mo rfl<|.q (.cv h) ?_
  refine .mo rfl<|.zn<|.block ?_
  refine .loop (X:=Nat×au) (λy=>y.1<=ps.length/\jY (iC (cN ps) last) y.1=true/\VI g (kv ((cN ps).take y.1)) last y.2) (λy=>[(0,.slice pv ps.length a0),(6,pT g),(25,.slice pv ps.length a0),(26,iN ps.length),(27,iN y.1)]) (λy=>[y.2]) (λy=>ps.length-y.1) (0,(g,.cells [vm,pT q,.int .i64 last].toArray 287 (0,0))::(Tm++Tq)++Td) ⟨by omega,rfl,Td,_,rfl,vm,M,q,Tm,Tq,rfl,hM,hI,hA,hQ⟩ kE.c.c.c.c.c (bu.cu (by simp;exact .refl _)) ?_
  rintro⟨i,T⟩ ⟨hi,S,l⟩
  simp only at hi S l⊢
  obtain⟨bm,q2,a8⟩:=l.ps
  refine .sr<|.q .lss<|.zs ?_
  refine .cond rfl (λh2=>?_) λh2=>?_
  have a2:i<ps.length:=fg h2
  obtain⟨⟨G,a⟩,Z⟩:=dM a2
  have Q:=hc _ (bD Z)
  have W:=hf _ (bD Z)
  have iz:bI (dL (G,a)):=⟨Q.bU⟩
  have m:(cN ps)[i]? =some a:=by simp[Z]
  have iw:One G:=Q.ay
  refine .kn<|.seq<|.block<|.sr<|.mo rfl ?_
  refine .cB i h Z (λa6=>?_)
  refine .q (.bj rfl) ?_
  refine .cn (λb8=>?_)
  refine .ag rfl<|.bZ rfl rfl<|.zs<|.seq ?_
  refine .cM 16 mixed (by kernel_rfl) ?_
  conv=>arg 6;dsimp only[List.take]
  refine .mo rfl<|.q .gtr<|.mo rfl ?_
  refine .split (t:=34) rfl (λe=>?_) (λe=>?_)
  have a4:0<i:=by have:=bp e;omega
  obtain⟨⟨wy,O⟩,Y⟩:∃z,ps[i-1]? =some z:=⟨_,bd (by omega)⟩
  have cy:=hc _ (bD Y)
  have iy:bI (dL (wy,O)):=⟨cy.bU⟩
  have V:(cN ps)[i-1]? =some O:=by simp[Y]
  have py:=h.pc Y
  refine .gT e<|.mo rfl<|.gT e<|.mo rfl<|.gT e ?_
  refine .ia (i-1) .sub ?_
  refine .gT e ?_
  refine .cB (i-1) h Y (λa7=>?_)
  refine .gT e<|.fa rfl<|.gT e<|.lo rfl<|.gT e<|.fa rfl<|.gT e<|.lo rfl<|.gT e<|.q .qj<|.q (.bA e) ?_
  refine .mo rfl ?_
  refine .split (t:=45) rfl (λk=>?_) (λk=>?_)
  have f:fq (cN ps) last=false:=mm m λ⟨_,_,h9⟩=>by
    have g9:cw O.text a.text=false:=by simpa using k
    rcases h9 with h9|⟨u,o,h9⟩
    ·omega
    ·rw[V]at o;cases o;rw[h9]at g9;cases g9
  refine .gF k<|.gF k<|.nil<|.gF k<|.gF k<|.q (.bA k) ?_
  refine .mo rfl<|.gX<|.gX<|.gX<|.bN rfl ?_
  refine .bN rfl ?_
  refine .bN rfl ?_
  refine .gX<|.q .dh<|.zn<|.cW ?_
  have f:fq (cN ps) last=false:=by
    first
      |assumption
      |exact mm m λ⟨h9,o,_⟩=>by
          have E:=o d
          have D:¬a.kind=2:=by simpa using n
          unfold ja at h9
          simp[E,D]at h9
  refine .sr<|.ag rfl<|.az rfl ?_
  refine .ret (aR (bi (aR (cK (bi (aR (aO _ (.two (.tmp rfl) (.tmp rfl)) (.one [0] _) ?_)))))))
  ·first
      |exact⟨_,rfl,.inl ⟨F,g,rfl,by simpa[take]using l⟩⟩
      |exact⟨_,rfl,.inr ⟨f,rfl⟩⟩
  refine .gT k<|.mo rfl<|.gT k<|.q (.bj rfl)<|.nil<|.gT k ?_
  refine .aH (yP g _ _ last G a _ iw) (λu j=>?_)
  subst j
  refine .gT k<|.q .not<|.q (.bg k) ?_
  refine .mo rfl ?_
  refine .split (t:=51) rfl (λb=>?_) (λb=>?_)
  have f:fq (cN ps) last=false:=mm m λ⟨h9,_,_⟩=>by rw[h9]at b;cases b
  refine .gF b<|.gF b<|.gF b<|.bN rfl ?_
  refine .bN rfl ?_
  refine .bN rfl ?_
  refine .gF b<|.q (.bA b) ?_
  refine .zn<|.cW ?_
  have f:fq (cN ps) last=false:=by
    first
      |assumption
      |exact mm m λ⟨h9,o,_⟩=>by
          have E:=o d
          have D:¬a.kind=2:=by simpa using n
          unfold ja at h9
          simp[E,D]at h9
  refine .sr<|.ag rfl<|.az rfl ?_
  refine .ret (aR (bi (aR (cK (bi (aR (aO _ (.two (.tmp rfl) (.tmp rfl)) (.one [0] _) ?_)))))))
  ·first
      |exact⟨_,rfl,.inl ⟨F,g,rfl,by simpa[take]using l⟩⟩
      |exact⟨_,rfl,.inr ⟨f,rfl⟩⟩
  refine .gT b<|.fa rfl<|.gT b<|.lo rfl<|.gT b<|.mo rfl ?_
  refine .split (t:=54) rfl (λd=>?_) (λd=>?_)
  refine .gT d<|.fa rfl<|.gT d<|.lo rfl<|.gT d<|.q .cb<|.gT b<|.q (.bA d) ?_
  refine .q (.bg b) ?_
  refine .zn ?_
  refine .cond rfl (λn=>?_) λn=>?_
  have f:fq (cN ps) last=false:=by
    first
      |assumption
      |exact mm m λ⟨h9,o,_⟩=>by
          have E:=o d
          have D:¬a.kind=2:=by simpa using n
          unfold ja at h9
          simp[E,D]at h9
  refine .sr<|.ag rfl<|.az rfl ?_
  refine .ret (aR (bi (aR (cK (bi (aR (aO _ (.two (.tmp rfl) (.tmp rfl)) (.one [0] _) ?_)))))))
  ·first
      |exact⟨_,rfl,.inl ⟨F,g,rfl,by simpa[take]using l⟩⟩
      |exact⟨_,rfl,.inr ⟨f,rfl⟩⟩
  have L:iC (cN ps) last i=true:=re m (by simpa using b) (λj hk=>by
    first
      |(have h9:a.used=false:=d
        rw[j]at h9;cases h9)
      |(have h9:a.kind=2:=by simpa using n
        omega)) (by
    first
      |exact .inl (by have:=ba e;omega)
      |exact .inr ⟨O,V,by simpa using k⟩)
  have w:jY (iC (cN ps) last) (i+1)=true:=by rw[qJ,S,L];rfl
  have A:(cN ps).take (i+1)=(cN ps).take i++[a]:=by rw[aeh,m];rfl
  have s:=qL w (by omega)
  refine .kn<|.region<|.mo rfl<|.q (.bj rfl) ?_
  refine .aT (rl g _ last T l G a _ Q W (by simp[kv];omega)) (λu H j=>?_)
  obtain⟨rfl,r⟩:=j
  have K:dQ a.text a (kv ((cN ps).take i))=kv ((cN ps).take (i+1)):=by
    rw[A]
    unfold dQ
    rw[kC]
    ·simp[kv]
    ·intro I
     rw[A,aev]at s
     obtain⟨p,J,x⟩:=aei.1 I
     obtain⟨t,N,rfl⟩:=aei.1 J
     have:=s.2.2 t N a (by simp)
     simp only at x
     rw[x,ki]at this;cases this
  rw[K]at r
  refine .nil<|bz<|aG<|.region ?_
  refine .ia (i+1) .add ?_
  refine .mo rfl<|.nil ?_
  ·exact br (i+1,H) ⟨by simp only;omega,w,r⟩ (by simp only;omega) kE.c.c.c.c.c (bG [1])
  refine .gF d<|.gF d<|.gF d<|.gT b<|.q (.bg d) ?_
  refine .q (.bg b) ?_
  refine .zn<|.bB ?_
  have L:iC (cN ps) last i=true:=re m (by simpa using b) (λj hk=>by
    first
      |(have h9:a.used=false:=d
        rw[j]at h9;cases h9)
      |(have h9:a.kind=2:=by simpa using n
        omega)) (by
    first
      |exact .inl (by have:=ba e;omega)
      |exact .inr ⟨O,V,by simpa using k⟩)
  have w:jY (iC (cN ps) last) (i+1)=true:=by rw[qJ,S,L];rfl
  have A:(cN ps).take (i+1)=(cN ps).take i++[a]:=by rw[aeh,m];rfl
  have s:=qL w (by omega)
  refine .kn<|.region<|.mo rfl<|.q (.bj rfl) ?_
  refine .aT (rl g _ last T l G a _ Q W (by simp[kv];omega)) (λu H j=>?_)
  obtain⟨rfl,r⟩:=j
  have K:dQ a.text a (kv ((cN ps).take i))=kv ((cN ps).take (i+1)):=by
    rw[A]
    unfold dQ
    rw[kC]
    ·simp[kv]
    ·intro I
     rw[A,aev]at s
     obtain⟨p,J,x⟩:=aei.1 I
     obtain⟨t,N,rfl⟩:=aei.1 J
     have:=s.2.2 t N a (by simp)
     simp only at x
     rw[x,ki]at this;cases this
  rw[K]at r
  refine .nil<|bz<|aG<|.region ?_
  refine .ia (i+1) .add ?_
  refine .mo rfl<|.nil ?_
  ·exact br (i+1,H) ⟨by simp only;omega,w,r⟩ (by simp only;omega) kE.c.c.c.c.c (bG [1])
  refine .gF e<|.gF e<|.gF e<|.gF e<|.gF e<|.gF e<|.gF e<|.gF e<|.gF e<|.q (.bg e) ?_
  refine .mo rfl<|.gt rfl ?_
  refine .mo rfl<|.gt rfl ?_
  refine .q (.bj rfl)<|.nil<|.gt rfl ?_
  refine .aH (yP g _ _ last G a _ iw) (λu j=>?_)
  subst j
  refine .gt rfl ?_
  refine .q .not<|.q .cd<|.mo rfl ?_
  refine .split (t:=51) rfl (λb=>?_) (λb=>?_)
  have f:fq (cN ps) last=false:=mm m λ⟨h9,_,_⟩=>by rw[h9]at b;cases b
  refine .gF b<|.gF b<|.gF b<|.bN rfl ?_
  refine .bN rfl ?_
  refine .bN rfl ?_
  refine .gF b<|.q (.bA b) ?_
  refine .zn<|.cW ?_
  have f:fq (cN ps) last=false:=by
    first
      |assumption
      |exact mm m λ⟨h9,o,_⟩=>by
          have E:=o d
          have D:¬a.kind=2:=by simpa using n
          unfold ja at h9
          simp[E,D]at h9
  refine .sr<|.ag rfl<|.az rfl ?_
  refine .ret (aR (bi (aR (cK (bi (aR (aO _ (.two (.tmp rfl) (.tmp rfl)) (.one [0] _) ?_)))))))
  ·first
      |exact⟨_,rfl,.inl ⟨F,g,rfl,by simpa[take]using l⟩⟩
      |exact⟨_,rfl,.inr ⟨f,rfl⟩⟩
  refine .gT b<|.fa rfl<|.gT b<|.lo rfl<|.gT b<|.mo rfl ?_
  refine .split (t:=54) rfl (λd=>?_) (λd=>?_)
  refine .gT d<|.fa rfl<|.gT d<|.lo rfl<|.gT d<|.q .cb<|.gT b<|.q (.bA d) ?_
  refine .q (.bg b) ?_
  refine .zn ?_
  refine .cond rfl (λn=>?_) λn=>?_
  have f:fq (cN ps) last=false:=by
    first
      |assumption
      |exact mm m λ⟨h9,o,_⟩=>by
          have E:=o d
          have D:¬a.kind=2:=by simpa using n
          unfold ja at h9
          simp[E,D]at h9
  refine .sr<|.ag rfl<|.az rfl ?_
  refine .ret (aR (bi (aR (cK (bi (aR (aO _ (.two (.tmp rfl) (.tmp rfl)) (.one [0] _) ?_)))))))
  ·first
      |exact⟨_,rfl,.inl ⟨F,g,rfl,by simpa[take]using l⟩⟩
      |exact⟨_,rfl,.inr ⟨f,rfl⟩⟩
  have L:iC (cN ps) last i=true:=re m (by simpa using b) (λj hk=>by
    first
      |(have h9:a.used=false:=d
        rw[j]at h9;cases h9)
      |(have h9:a.kind=2:=by simpa using n
        omega)) (by
    first
      |exact .inl (by have:=ba e;omega)
      |exact .inr ⟨O,V,by simpa using k⟩)
  have w:jY (iC (cN ps) last) (i+1)=true:=by rw[qJ,S,L];rfl
  have A:(cN ps).take (i+1)=(cN ps).take i++[a]:=by rw[aeh,m];rfl
  have s:=qL w (by omega)
  refine .kn<|.region<|.mo rfl<|.q (.bj rfl) ?_
  refine .aT (rl g _ last T l G a _ Q W (by simp[kv];omega)) (λu H j=>?_)
  obtain⟨rfl,r⟩:=j
  have K:dQ a.text a (kv ((cN ps).take i))=kv ((cN ps).take (i+1)):=by
    rw[A]
    unfold dQ
    rw[kC]
    ·simp[kv]
    ·intro I
     rw[A,aev]at s
     obtain⟨p,J,x⟩:=aei.1 I
     obtain⟨t,N,rfl⟩:=aei.1 J
     have:=s.2.2 t N a (by simp)
     simp only at x
     rw[x,ki]at this;cases this
  rw[K]at r
  refine .nil<|bz<|aG<|.region ?_
  refine .ia (i+1) .add ?_
  refine .mo rfl<|.nil ?_
  ·exact br (i+1,H) ⟨by simp only;omega,w,r⟩ (by simp only;omega) kE.c.c.c.c.c (bG [1])
  refine .gF d<|.gF d<|.gF d<|.gT b<|.q (.bg d) ?_
  refine .q (.bg b) ?_
  refine .zn<|.bB ?_
  have L:iC (cN ps) last i=true:=re m (by simpa using b) (λj hk=>by
    first
      |(have h9:a.used=false:=d
        rw[j]at h9;cases h9)
      |(have h9:a.kind=2:=by simpa using n
        omega)) (by
    first
      |exact .inl (by have:=ba e;omega)
      |exact .inr ⟨O,V,by simpa using k⟩)
  have w:jY (iC (cN ps) last) (i+1)=true:=by rw[qJ,S,L];rfl
  have A:(cN ps).take (i+1)=(cN ps).take i++[a]:=by rw[aeh,m];rfl
  have s:=qL w (by omega)
  refine .kn<|.region<|.mo rfl<|.q (.bj rfl) ?_
  refine .aT (rl g _ last T l G a _ Q W (by simp[kv];omega)) (λu H j=>?_)
  obtain⟨rfl,r⟩:=j
  have K:dQ a.text a (kv ((cN ps).take i))=kv ((cN ps).take (i+1)):=by
    rw[A]
    unfold dQ
    rw[kC]
    ·simp[kv]
    ·intro I
     rw[A,aev]at s
     obtain⟨p,J,x⟩:=aei.1 I
     obtain⟨t,N,rfl⟩:=aei.1 J
     have:=s.2.2 t N a (by simp)
     simp only at x
     rw[x,ki]at this;cases this
  rw[K]at r
  refine .nil<|bz<|aG<|.region ?_
  refine .ia (i+1) .add ?_
  refine .mo rfl<|.nil ?_
  ·exact br (i+1,H) ⟨by simp only;omega,w,r⟩ (by simp only;omega) kE.c.c.c.c.c (bG [1])
  have a1:i=ps.length:=by have:=ba h2;omega
  have F:fq (cN ps) last=true:=by
    unfold fq
    rw[ael (show(cN ps).length<=4096 by omega),ael (show 0<=last by omega),ael (show last<=1099511627776 by omega),a3, <-a1,S];rfl
  rw[List.take_of_length_le (by omega)]at l
  refine .exit<|bk<|bw<|bq<|aG<|.sr<|.mo rfl<|.ag rfl<|.az rfl ?_
  refine .ret (aO _ (.two (.tmp rfl) (.tmp rfl)) (.one [0] _) ?_)
  ·first
      |exact⟨_,rfl,.inl ⟨F,g,rfl,by simpa[take]using l⟩⟩
      |exact⟨_,rfl,.inr ⟨f,rfl⟩⟩
theorem rL{x:Int}(h:(x !=0)=true)(a:x=0):False:=by subst a;cases h
theorem Nf(v:Value)(ps:List CP)(R:ao)(h:RS R 4 gz v ps)(L:CL R ps)(U:∀p∈ps,p.2.fits/\p.2.hZ):
  Spec prog 204 [v] R [] λu H'=>∃T,H'=[T]/\((kV (fQ ps)=true/\∃g,u=.tuple [pT g,.int .i64 0].toArray/\RI g (fQ ps) T)\/(kV (fQ ps)=false/\u=.tuple [.pointer none,.int .i64 4].toArray)):=by
 have a1:=h.le
 have I:(fQ ps).length=ps.length:=by simp[fQ]
 refine Spec.body func204 rfl results204 ntmps204 rfl ?_
 refine .sr<|.ag rfl<|.ag rfl<|.z ?_
 refine .bM (uS _) (λu Q r=>?_)
 obtain⟨g,rfl,V⟩:=r
 refine .ag rfl<|.zs<|.sr<|.mo rfl<|.q (.cv h) ?_
 refine .mo rfl<|.zn<|.block ?_
 refine .loop (X:=Nat×au) (λy=>(y.1<=ps.length/\y.1<=64)/\kW (fQ ps) y.1=true/\RI g ((fQ ps).take y.1) y.2) (λy=>[(0,v),(4,pT g),(8,v),(9,iN ps.length),(10,iN y.1)]) (λy=>[y.2]) (λy=>ps.length-y.1) (0,Q) ⟨⟨by omega,by omega⟩,rfl,V⟩ kE.c.c.c.c.c rH ?_
 rintro⟨i,T⟩ ⟨⟨W,N⟩,x,m⟩
 simp only at W N x m⊢
 refine .sr<|.q .lss<|.zs ?_
 refine .cond rfl (λG=>?_) λG=>?_
 have Y:i<ps.length:=fg G
 obtain⟨z,A⟩:=dM Y
 have l:=L z (bD A)
 have s:=U z (bD A)
 have iz:bI (gz z):=⟨l.bU⟩
 have e:(fQ ps)[i]? =some z.2:=by simp[fQ,A]
 refine .kn<|.seq<|.block<|.sr<|.mo rfl ?_
 refine .cB i h A (λa2=>?_)
 refine .q (.bj rfl) ?_
 refine .cn (λZ=>?_)
 refine .ag rfl<|.bZ rfl rfl<|.zs ?_
 refine .cM 16 mixed (by kernel_rfl) ?_
 conv=>arg 6;dsimp only[List.take]
 refine .mo rfl<|.q .gtr<|.mo rfl ?_
 refine .split (t:=17) rfl (λa=>?_) (λa=>?_)
 have a0:0<i:=by have:=bp a;omega
 obtain⟨w,J⟩:∃z,ps[i-1]? =some z:=⟨_,bd (by omega)⟩
 have C:=L w (bD J)
 have iw:bI (gz w):=⟨C.bU⟩
 have O:(fQ ps)[i-1]? =some w.2:=by simp[fQ,J]
 refine .gT a<|.mo rfl<|.gT a<|.mo rfl<|.gT a ?_
 refine .ia (i-1) .sub ?_
 refine .gT a ?_
 refine .cB (i-1) h J (λa3=>?_)
 refine .gT a<|.fa rfl<|.gT a<|.lo rfl<|.gT a<|.fa rfl<|.gT a<|.lo rfl<|.gT a<|.q .qj<|.q (.bA a) ?_
 refine .mo rfl ?_
 refine .split (t:=28) rfl (λb=>?_) (λb=>?_)
 have k:kV (fQ ps)=false:=by
  cases j:kV (fQ ps)with
  |false=>rfl
  |true=>
   exfalso
   rcases(tM e (qI j e).1).2 with h0|⟨d,M,o⟩
   ·omega
   ·rw[O]at M;cases M
    rw[C.id,l.id,o]at b
    cases b
 refine .gF b<|.gF b<|.nil<|.gF b<|.gF b<|.q (.bA b) ?_
 refine .zn<|.cW ?_
 first|have k:kV (fQ ps)=false:=aeu.2 λj=>rL f (aed Prod.fst (qI j e).2)|skip
 refine .sr<|.ag rfl<|.az rfl ?_
 refine .ret (bi (aR (cK (bi (aR (aO _ (.two (.tmp rfl) (.tmp rfl)) (.one [0] _) ?_))))))
 ·exact⟨_,rfl,.inr ⟨k,rfl⟩⟩
 have H:i=0\/∃d,(fQ ps)[i-1]? =some d/\cw d.id z.2.id=true:=.inr ⟨w.2,O,by rw[<-C.id, <-l.id];simpa using b⟩
 refine .gT b<|.mo rfl<|.gT b<|.q (.bj rfl)<|.nil<|.gT b ?_
 refine .aT (uH g _ T m z.1 z.2 _ l s.1 s.2) (λu B r=>?_)
 obtain⟨rfl,n⟩:=r
 refine .gT b<|.q .cb<|.q (.bg b) ?_
 refine .zn ?_
 refine .cond rfl (λf=>?_) λf=>?_
 first|have k:kV (fQ ps)=false:=aeu.2 λj=>rL f (aed Prod.fst (qI j e).2)|skip
 refine .sr<|.ag rfl<|.az rfl ?_
 refine .ret (bi (aR (cK (bi (aR (aO _ (.two (.tmp rfl) (.tmp rfl)) (.one [0] _) ?_))))))
 ·exact⟨_,rfl,.inr ⟨k,rfl⟩⟩
 have K:(gO ((fQ ps).take i) z.2).1=0:=by simpa using f
 obtain⟨D,E,F⟩:=uI K
 rw[D]at n
 have o:=yr e E H
 rw[aep,I]at F
 refine .skip<|bz<|aG<|.region ?_
 refine .ia (i+1) .add ?_
 refine .mo rfl<|.nil ?_
 ·exact br (i+1,B) ⟨⟨by simp only;omega,by simp only;omega⟩,by rw[qK,x,o];rfl,by rw[aeh,e];exact n⟩ (by simp only;omega) kE.c.c.c.c.c (bG [1])
 have H:i=0\/∃d,(fQ ps)[i-1]? =some d/\cw d.id z.2.id=true:=.inl (by have:=ba a;omega)
 refine .gF a<|.gF a<|.gF a<|.gF a<|.gF a<|.gF a<|.gF a<|.gF a<|.gF a<|.q (.bg a) ?_
 refine .mo rfl<|.gt rfl ?_
 refine .mo rfl<|.gt rfl ?_
 refine .q (.bj rfl)<|.nil<|.gt rfl ?_
 refine .aT (uH g _ T m z.1 z.2 _ l s.1 s.2) (λu B r=>?_)
 obtain⟨rfl,n⟩:=r
 refine .gt rfl ?_
 refine .q .cb<|.q .cd<|.zn ?_
 refine .cond rfl (λf=>?_) λf=>?_
 first|have k:kV (fQ ps)=false:=aeu.2 λj=>rL f (aed Prod.fst (qI j e).2)|skip
 refine .sr<|.ag rfl<|.az rfl ?_
 refine .ret (bi (aR (cK (bi (aR (aO _ (.two (.tmp rfl) (.tmp rfl)) (.one [0] _) ?_))))))
 ·exact⟨_,rfl,.inr ⟨k,rfl⟩⟩
 have K:(gO ((fQ ps).take i) z.2).1=0:=by simpa using f
 obtain⟨D,E,F⟩:=uI K
 rw[D]at n
 have o:=yr e E H
 rw[aep,I]at F
 refine .skip<|bz<|aG<|.region ?_
 refine .ia (i+1) .add ?_
 refine .mo rfl<|.nil ?_
 ·exact br (i+1,B) ⟨⟨by simp only;omega,by simp only;omega⟩,by rw[qK,x,o];rfl,by rw[aeh,e];exact n⟩ (by simp only;omega) kE.c.c.c.c.c (bG [1])
 refine .exit<|bk<|bw<|bq<|aG<|.sr<|.mo rfl<|.ag rfl<|.az rfl ?_
 refine .ret (aO _ (.two (.tmp rfl) (.tmp rfl)) (.one [0] _) ?_)
 ·have S:i=ps.length:=by have:=ba G;omega
  subst S
  refine⟨T,by simp[take],.inl ⟨?_,g,rfl,?_⟩⟩
  ·unfold kV
   rw[I,x,ael N];rfl
  ·rw[List.take_of_length_le (by omega)]at m
   exact m
end Go.Proofs.YtocjmmbldeljnaaGreatDoor

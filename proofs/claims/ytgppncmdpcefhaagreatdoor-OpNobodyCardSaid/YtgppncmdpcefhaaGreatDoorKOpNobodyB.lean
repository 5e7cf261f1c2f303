/- What the law 'OpNobody' uses. No condition. -/
import Derived.IntWalk
import Derived.Test.YtgppncmdpcefhaaGreatDoorKOpNobodyA
set_option linter.unusedVariables false
set_option linter.unusedSimpArgs false
namespace Go.Proofs.YtgppncmdpcefhaaGreatDoor
set_option linter.defProp false
def aaz:=@if_neg
def aaA:=@if_pos
def aaB:=@List.map_cons
def aaC:=@if_false
def aaD:=@Bool.false_eq_true
def aaE:=@if_true
def aaF:=@List.mem_cons
def aaG:=@List.append_assoc
def aaH:=@List.getElem?_toArray
def aaI:=@congrArg
def aaJ:=@List.getElem?_map
def aaK:=@Option.map_some
def aaL:=@List.getElem?_eq_getElem
def aaM:=@List.mem_map
def aaN:=@Nat.le_of_ble_eq_true
def aaO:=@List.filter_cons
def aaP:=@List.getElem_map
def aaQ:=@Nat.lt_or_ge
def aaR:=@List.getElem?_cons_succ
def aaS:=@Nat.mul_le_mul_right
def aaT:=@List.length_append
def aaU:=@Prod.mk.injEq
def aaV:=@List.mem_of_getElem?
def aaW:=@List.length_cons
def aaX:=@decide_false
def aaY:=@List.mem_iff_getElem
def aaZ:=@Bool.not_false
def aa0:=@List.size_toArray
def aa1:=@List.mem_singleton
def aa2:=@List.mem_of_mem_take
def aa3:=@Bool.not_true
def aa4:=@Option.some.injEq
def aa5:=@List.nodup_cons
def aa6:=@List.append_nil
def aa7:=@Nat.le_refl
def aa8:=@List.length_take
def aa9:=@List.flatten_cons
def aba:=@List.flatten_append
def abb:=@List.getElem?_cons_zero
def abc:=@List.eq_nil_of_length_eq_zero
def abd:=@Array.length_toList
def abe:=@List.getElem?_eq_some_iff
def abf:=@not_false_eq_true
def abg:=@List.length_map
def abh:=@List.ext_getElem?
def abi:=@List.mem_filter
def abj:=@List.perm_append_comm
def abk:=@List.mem_append
def abl:=@List.getElem?_append_left
def abm:=@List.nodup_append
def abn:=@List.cons.injEq
def abo:=@List.mem_map_of_mem
def abp:=@Array.getElem?_modify
def abq:=@Array.mem_filter
def abr:=@List.getElem_mem
def abt:=@List.length_zip
def abu:=@List.getElem_zip
def abv:=@Array.contains_push
def abw:=@List.getElem_inj
def abx:=@List.getElem?_drop
def aby:=@List.cons_append
def abz:=@Array.getElem?_toList
def abA:=@beq_self_eq_true
def abB:=@Nat.add_right_cancel_iff
def abC:=@List.getElem?_modify
def abD:=@List.getElem?_set
def abE:=@List.zip_cons_cons
def abF:=@Bool.and_eq_true
def abG:=@List.mem_append_left
def abH:=@List.pairwise_cons
section
variable{α β:Type}
theorem oJ{vs cs:List Value}{off:Nat}(h:off+cs.length<=vs.length)(i:Nat):(cF vs off cs)[i]? =if i<off then vs[i]? else if i<off+cs.length then cs[i-off]? else vs[i]? :=by
 have e:min off vs.length=off:=by omega
 simp only[fX,aaG,List.getElem?_append,aa8,e,abx]
 by_cases a:i<off
 ·simp[a]
 ·by_cases b:i<off+cs.length
  ·simp[a,b,show i-off<cs.length by omega]
  ·simp[a,b,show ¬i-off<cs.length by omega,show off+cs.length+(i-off-cs.length)=i by omega]
theorem lL(b off n:Nat):(⟨b,off,none⟩:Addr).add n=⟨b,off+n,none⟩:=by
 simp only[Addr.add];split
 ·rename_i a;subst a;rfl
 ·rfl
theorem qN(a:Nat):∀(r c:Nat),256<=c->Builtin.growBy a r c<=max c (2*a)
 |0,c,_=>by simp[Builtin.growBy];omega
 |r+1,c,h=>by
  simp only[Builtin.growBy]
  split
  ·omega
  ·have:=qN a r (c+(c+768)/4) (by omega)
   omega
theorem nextslicecap_le{need old:Nat}(h:old<need):Builtin.nextslicecap need old<=2*need:=by
 unfold Builtin.nextslicecap
 split
 ·omega
 ·split
  ·omega
  ·have:=qN need 4 old (by omega)
   omega
theorem td(z:Array Value)(n:Nat):(Builtin.zeroCells z n).size=n*z.size:=by simp[Builtin.zeroCells]
theorem oH{P:Program}{R:aA}{sz:Nat}{enc:α->List Value}{v:Value}{xs:List α}{w:World}(h:RS R sz enc v xs)(l:∀b o,R b o->w.heap[b]? =some o):(Builtin.firstCells sz xs.length v).run P w=.ok (xs.flatMap enc).toArray w:=by
 obtain⟨p,m,rfl,q,r,f⟩:=h.h
 rcases f with rfl|⟨b,off,c,E,n,rfl,d,e⟩
 ·cases p with
  |none=>rfl
  |some a=>simp[Builtin.firstCells,loadCells,loadCellsFrom]
 ·have g:=l _ _ d
  have k:=hZ h.len
  have:=run_loadCellsFrom (P:=P) (w:=w) (b:=b) (off:=off) (xs.flatMap enc) 0 #[] (λj i=>by
   have:=e j i
   simp[World.cell?,g,this])
  simp only[Builtin.firstCells,loadCells]
  rw[<-k,this]
  simp
theorem Gj{P:Program}{R:aA}{sz:Nat}{enc:α->List Value}{v:Value}{xs:List α}{w:World}(h:RS R sz enc v xs):(Builtin.lenOf v).run P w=.ok xs.length w:=by
 obtain⟨p,a,rfl,_⟩:=h.h
 rfl
theorem FK{p:lH}{A T B:ay}:(p::(A++(T++B))).Perm (A++(p::B)++T):=by
 have a:(A++(T++B)).Perm (A++B++T):=by
  rw[aaG]
  exact abj.append_left A
 have b:(p::(A++B++T)).Perm (A++(p::B)++T):=by
  have:(p::(A++B)).Perm (A++p::B):=List.perm_middle.symm
  exact this.append_right T
 exact(a.cons p).trans b
theorem bV.front{H1 H2:aS}{T:ay}{p:lH}:bV ([p]::(H1++T::H2)) (H1++[p]::H2):=⟨T,by
 simp only[aa9,aba,aby,List.nil_append]
 exact FK⟩
theorem Gc{P:Program}{R:aA}{H1 H2:aS}{T:ay}{E sz bytes:Nat}{enc:α->List Value}{v u:Value}{xs ys:List α}{w:World}{ta tb tb' t:TypeId}{z:Value}
  (hv:OS E sz enc v xs T)(hu:RS (Rx R (H1++T::H2)) sz enc u ys)(ua:bL P ta (.slice E))(ub:bL P tb (.slice tb'))(s:Sz P E sz)(by_:By P E bytes)(zr:Zr P E z)(hz:z.cells.size=sz)(hb0:0<bytes)(hb:(xs.length+ys.length)*bytes<=2^47)
  (sat:Sat w (H1++T::H2))(ro:RO w R (H1++T::H2)):
  ∃v' w' T',(Builtin.append_ #[ta,tb] t #[v,u]).run P w=.ok v' w'/\OS E sz enc v' (xs++ys) T'/\Frame w (H1++T::H2) w' (H1++T'::H2)/\Sat w' (H1++T'::H2):=by
 have hw:∀b o,Rx R (H1++T::H2) b o->w.heap[b]? =some o:=λb o h=>by
  rcases h with h|h
  ·exact(ro b o h).1
  ·exact sat.2 _ h
 have hfu:=oH (P:=P) hu hw
 have hlu:=Gj (P:=P) (w:=w) hu
 have hlen:∀x∈xs++ys,(enc x).length=sz:=λx hx=>(abk.1 hx).elim (hv.len x) (hu.len x)
 have hone:∀x∈xs++ys,∀c∈enc x,Go.Proofs.YtgppncmdpcefhaaGreatDoor.aL c=true:=λx hx=>(abk.1 hx).elim (hv.one x) (hu.one x)
 have hneed:xs.length+ys.length<=2^47:=Nat.le_trans (Nat.le_mul_of_pos_right _ hb0) hb
 have hone':∀c∈ys.flatMap enc,Go.Proofs.YtgppncmdpcefhaaGreatDoor.aL c=true:=λc hc=>by
  obtain⟨y,hy,hcy⟩:=List.mem_flatMap.1 hc
  exact hu.one y hy c hcy
 -- the two ways
 have grow:∀(p:Option Addr) (cap:Nat),v=.slice p xs.length cap->¬xs.length+ys.length<=cap->(Builtin.firstCells sz xs.length v).run P {w with drawn:=w.drawn+1}=.ok (xs.flatMap enc).toArray {w with drawn:=w.drawn+1}->
   ∃v' w' T',(Builtin.append_ #[ta,tb] t #[v,u]).run P w=.ok v' w'/\OS E sz enc v' (xs++ys) T'/\Frame w (H1++T::H2) w' (H1++T'::H2)/\Sat w' (H1++T'::H2):=by
  intro p cap hvp hcap hfv
  obtain⟨i,hi,hib⟩:=by_.h w
  have hcut:∃q,xs.length+ys.length<=q/\q<=maxLen/\q=Question.cut (.appendCap (xs.length+ys.length) cap E) (w.tape w.drawn (.appendCap (xs.length+ys.length) cap E)):=by
   refine⟨_,?_,?_,rfl⟩
   ·simp only[Question.cut];omega
   ·simp only[Question.cut]
    have:w.tape w.drawn (.appendCap (xs.length+ys.length) cap E) % (2^63-(xs.length+ys.length))<2^63-(xs.length+ys.length):=Nat.mod_lt _ (by omega)
    unfold maxLen;omega
  obtain⟨q,hq1,hq2,hq3⟩:=hcut
  have hfu':(Builtin.firstCells sz ys.length u).run P {w with drawn:=w.drawn+1}=.ok (ys.flatMap enc).toArray {w with drawn:=w.drawn+1}:=oH (P:=P) hu (λb o h=>hw b o h)
  have hn1:¬((xs.length+ys.length:Nat):Int)>IntKind.i64.max:=by
   have:IntKind.i64.max=9223372036854775807:=by decide
   omega
  have hn2:¬Builtin.nextslicecap (xs.length+ys.length) cap*bytes>2^48:=by
   have h1:=nextslicecap_le (need:=xs.length+ys.length) (old:=cap) (by omega)
   have h2:=aaS bytes h1
   rw[Nat.mul_assoc]at h2
   omega
  have hrun:(Builtin.append_ #[ta,tb] t #[v,u]).run P w=.ok (.slice (some ⟨w.heap.size,0,none⟩) (xs.length+ys.length) q)
    (World.alloc {w with drawn:=w.drawn+1} (.cells ((xs.flatMap enc).toArray++(ys.flatMap enc).toArray++Builtin.zeroCells z.cells (q-(xs.length+ys.length))) E)):=by
   subst hvp
   simp only[Builtin.append_]
   simp only[aaH,abb,aaR,Sem.run_bind,run_underlying ua.h,run_underlying ub.h,Result.andThen_ok,s.h,Sem.run_pure]
   have hm:((TypeDesc.slice tb') matches .int _)=false:=rfl
   simp only[aaD,aaC,hlu,Result.andThen_ok,aaz hcap,false_or,hn1,false_and,hi,hib,aaz hn2,Sem.run_bind]
   have hch:(choose (.appendCap (xs.length+ys.length) cap E)).run P w=.ok (Question.cut (.appendCap (xs.length+ys.length) cap E) (w.tape w.drawn (.appendCap (xs.length+ys.length) cap E))) {w with drawn:=w.drawn+1}:=by
    simp[choose,Sem.run,Question.forced]
   rw[hch, <-hq3]
   obtain⟨i',hi',hib'⟩:=by_.h {w with drawn:=w.drawn+1}
   have har:∀n,(askRoom n).run P {w with drawn:=w.drawn+1}=.ok () {w with drawn:=w.drawn+1}:=λn=>by
    unfold askRoom;split<;>rfl
   simp only[Result.andThen_ok,hi',har,hfv,aaZ,aaE,hfu',zr.h,km]
   rfl
  have hz':(Builtin.zeroCells z.cells (q-(xs.length+ys.length))).size=(q-(xs.length+ys.length))*sz:=by rw[td,hz]
  generalize hC:(xs.flatMap enc).toArray++(ys.flatMap enc).toArray++Builtin.zeroCells z.cells (q-(xs.length+ys.length))=C at hrun
  have hsize:0+q*sz<=C.size:=by
   have h1:=hZ hv.len
   have h2:=hZ hu.len
   rw[<-hC]
   simp only[Array.size_append,aa0,h1,h2,hz']
   rw[<-Nat.add_mul, <-Nat.add_mul,Nat.zero_add]
   exact aaS _ (by omega)
  have hrow:Row C 0 ((xs++ys).flatMap enc):=by
   intro k hk
   rw[<-hC]
   rw[List.flatMap_append]at hk⊢
   have hsz:k<((xs.flatMap enc).toArray++(ys.flatMap enc).toArray).size:=by
    rw[aaT]at hk
    simpa only[Array.size_append,aa0]using hk
   rw[Nat.zero_add,Array.getElem?_append_left hsz,List.append_toArray (xs.flatMap enc) (ys.flatMap enc),aaH]
  clear hC hz' hfu hlu hfu' hq3
  have hos:OS E sz enc (.slice (some ⟨w.heap.size,0,none⟩) (xs.length+ys.length) q) (xs++ys) [(w.heap.size,.cells C E (0,0))]:=
   ⟨hlen,hone,.inr ⟨w.heap.size,0,C,q,by rw[aaT],rfl,by rw[aaT];exact hq1,hq2,hsize,hrow⟩⟩
  have f:=(Frame.drew w (H1++T::H2) (w.drawn+1)).trans (Frame.alloc {w with drawn:=w.drawn+1} (H1++T::H2) (.cells C E (0,0)))
  have f2:Frame w (H1++T::H2) (World.alloc {w with drawn:=w.drawn+1} (.cells C E)) (H1++[(w.heap.size,.cells C E (0,0))]::H2):=f.trans (bV.front.frame _)
  have s2:Sat (World.alloc {w with drawn:=w.drawn+1} (.cells C E)) (H1++[(w.heap.size,.cells C E (0,0))]::H2):=bV.front.sat (Sat.alloc (w:={w with drawn:=w.drawn+1}) (sat.drew _) _)
  exact⟨_,_,_,hrun,hos,f2,s2⟩
 rcases hv.h with⟨rfl,rfl,rfl⟩|⟨b,off,c,cap,rfl,rfl,g3,g4,g5,g6⟩
 ·by_cases h0:ys.length=0
  ·have hy:ys=[]:=abc h0
   subst hy
   refine⟨.slice none 0 0,w,[],?_,OS.nil,Frame.refl _ _,sat⟩
   simp only[Builtin.append_]
   simp only[aaH,abb,aaR,Sem.run_bind,run_underlying ua.h,run_underlying ub.h,Result.andThen_ok,s.h,Sem.run_pure,aaD,aaC,hlu]
   have hfu0:(Builtin.firstCells sz 0 u).run P w=.ok #[] w:=hfu
   simp[hfu0]
  ·exact grow none 0 rfl (by simp only[List.length_nil];omega) rfl
 ·by_cases hcap:xs.length+ys.length<=cap
  ·have hb:=sat.2 (b,.cells c E (0,0)) (by simp)
   have hc:c=c.toList.toArray:=by simp
   have hl1:=hZ hv.len
   have hl2:=hZ hu.len
   have hroom:off+xs.length*sz+(ys.flatMap enc).length<=c.toList.length:=by
    rw[hl2,abd,Nat.add_assoc, <-Nat.add_mul]
    exact Nat.le_trans (Nat.add_le_add_left (aaS _ hcap) _) g5
   have hst:=nv (P:=P) (b:=b) (off:=off+xs.length*sz) (E:=E) (ys.flatMap enc) 0 c.toList w (by rw[<-hc];exact hb) hone' (by simpa using hroom)
   rw[Nat.add_zero]at hst
   have hadd:(⟨b,off,none⟩:Addr).add (xs.length*sz)=⟨b,off+xs.length*sz,none⟩:=by
    simp only[Addr.add];split
    ·rename_i h0;rw[h0];rfl
    ·rfl
   refine⟨.slice (some ⟨b,off,none⟩) (xs.length+ys.length) cap,dp w b (.cells (cF c.toList (off+xs.length*sz) (ys.flatMap enc)).toArray E (0,0)),[(b,.cells (cF c.toList (off+xs.length*sz) (ys.flatMap enc)).toArray E (0,0))],?_,⟨hlen,hone,.inr ⟨b,off,_,cap,by rw[aaT],rfl,by rw[aaT];exact hcap,g4,?_,?_⟩⟩,Frame.set (T1:=[]) (T2:=[]),Sat.set (T1:=[]) (T2:=[]) sat⟩
   ·simp only[Builtin.append_]
    simp only[aaH,abb,aaR,Sem.run_bind,run_underlying ua.h,run_underlying ub.h,Result.andThen_ok,s.h,Sem.run_pure,aaD,aaC,hlu,aaA hcap,aaZ,aaE,hfu,hadd,hst]
   ·rw[aa0,lv hroom,abd];exact g5
   ·intro k hk
    rw[List.flatMap_append]at hk⊢
    rw[aaH]
    have hle:off+xs.length*sz<=c.toList.length:=by omega
    by_cases h1:k<(xs.flatMap enc).length
    ·have h2:=g6 k h1
     rw[hl1]at h1
     rw[fX,aaG,abl (by rw[aa8];omega),List.getElem?_take_of_lt (by omega),abz,h2,abl (by omega)]
    ·rw[aaT]at hk
     rw[hl1]at h1 hk
     rw[fX,aaG,List.getElem?_append_right (by rw[aa8];omega),aa8,Nat.min_eq_left hle,
      abl (by omega),List.getElem?_append_right (by omega),hl1]
     congr 1
     omega
  ·refine grow _ cap rfl hcap ?_
   refine oH (P:=P) (R:=sg [(b,.cells c E (0,0))]) (hv.rs λp hp=>hp) λb' o' h'=>?_
   simp only[sg,aa1,aaU]at h'
   obtain⟨e1,e2⟩:=h'
   subst e1;subst e2
   exact sat.2 (b',.cells c E (0,0)) (by simp)
section
variable{P:Program}{N:Nat}{R:aA}{ops:Array Oper}{l:List Oper}{env:Env}{H:aS}{K:Env->aS->Prop}{ty:TypeId}{pos:String}{af:Array Edge}{m:Bool}
theorem aM.append{d:Nat}{x y:Operand}{f tb M E sz b:Nat}{enc:α->List Value}{v u z:Value}{xs ys:List α}{T:ay}{g:ay->aS}(C:OS E sz enc v xs T)(B:RS (Rx R H) sz enc u ys) [L:dQ H T g] [O:bL P f (.slice E)] [Q:bL P tb (.slice M)] [s:Sz P E sz] [i:By P E b] [U:Zr P E z]
  (k:(xs.length+ys.length)*b<=2^47)(p:∀v' T',OS E sz enc v' (xs++ys) T'->aM false P N R ops l ((d,v')::env) (g T') K)
  (D:ev env x=some v:=by rfl)(F:ev env y=some u:=by rfl)(G:z.cells.size=sz:=by rfl)(m:0<b:=by decide)(n:Nat.blt d N=true:=by rfl):
  aM false P N R ops (⟨some d,.call ⟨.builtin .append,#[x,y],#[f,tb]⟩,ty,pos,af,none⟩::l) env H K:=
 aM.kJ n λa w e J I=>by
  obtain⟨V,W,j,c⟩:=L.h
  subst j
  obtain⟨v',S,T',r,q,o,A⟩:=Gc (t:=ty) C B O Q s i U G m k J I
  refine⟨v',S,_,?_,?_,?_,p v' T' q⟩
  ·simp[execOp,resolve,e.eval D,e.eval F,invoke,builtin,r]
  ·rw[c];exact o
  ·rw[c];exact A
theorem aM.drop(is:List Nat)(h:aM m P N R ops l env (rest is H) K):aM m P N R ops l env H K:=λc e b d a w s=>
 h c e b d a w (s.le (eu.refl env) (bV.drop is H))
theorem aM.sC{t:TypeId}{x y:Operand}{E sz n k:Nat}{enc:α->List Value}{v p u:Value}{xs:List α}{z z':α}{cs:List Value}{T:ay}{M:ay->aS}(i:Nat)(d:OS E sz enc v xs T)(j:xs[i]? =some z) [sa:dQ H T M] [s:Sz P t n]
  (g:ev env x=some p)(hp:p=gj (eS v (i*sz)) k)(hy:ev env y=some u)(hc:u.cells=cs.toArray)(hn:cs.length=n)(ho:∀c∈cs,Go.Proofs.YtgppncmdpcefhaaGreatDoor.aL c=true)(m:enc z'=cF (enc z) k cs)(hl:k+cs.length<=sz)
  (a1:∀T',OS E sz enc v (xs.set i z') T'->aM false P N R ops l env (M T') K):aM false P N R ops (⟨none,.store t x y,ty,pos,af,none⟩::l) env H K:=
 aM.kK λa w F L ro=>by
  obtain⟨H1,H2,V,D⟩:=sa.h
  subst V
  have o:=aaV j
  have hi:i<xs.length:=(abe.1 j).1
  have a2:xs≠[]:=λe=>by subst e;simp at j
  have a0:=d.len z o
  have I:(enc z').length=sz:=by rw[m,lv (by omega),a0]
  rcases d.h with⟨_,rfl,_⟩|⟨b,off,c,C,rfl,rfl,O,Q,S,U⟩
  ·exact absurd rfl a2
  ·have X:=L.2 (b,.cells c E (0,0)) (by simp)
   have Y:c=c.toList.toArray:=by simp
   have a4:p=.pointer (some ⟨b,off+i*sz+k,none⟩):=by
    subst hp
    simp only[eS,gj,lL]
   subst a4
   have a7:c.toList.length=c.size:=abd
   have r:off+i*sz+k+cs.length<=c.toList.length:=by
    have f:(i+1)*sz<=C*sz:=aaS _ (by omega)
    rw[Nat.succ_mul]at f
    omega
   have a5:=r5 (P:=P) (t:=t) (n:=n) (b:=b) (off:=off+i*sz+k) (E:=E) (v:=u) (cs:=cs) (vs:=c.toList) (w:=w) hc hn (by rw[<-Y];exact X) ho r
   have a6:∀x∈xs.set i z',(enc x).length=sz:=λx g=>(List.mem_or_eq_of_mem_set g).elim (d.len x) (λe=>by rw[e];exact I)
   have a3:∀x∈xs.set i z',∀c∈enc x,Go.Proofs.YtgppncmdpcefhaaGreatDoor.aL c=true:=λx g=>(List.mem_or_eq_of_mem_set g).elim (d.one x) (λe=>by
    rw[e,m]
    intro c hc
    simp only[fX,abk]at hc
    rcases hc with(hc|hc)|hc
    ·exact d.one z o c (aa2 hc)
    ·exact ho c hc
    ·exact d.one z o c (List.mem_of_mem_drop hc))
   refine⟨dp w b (.cells (cF c.toList (off+i*sz+k) cs).toArray E (0,0)),_,.inl ?_,?_,?_,a1 [(b,.cells (cF c.toList (off+i*sz+k) cs).toArray E (0,0))] ⟨a6,a3,.inr ⟨b,off,_,C,by rw[List.length_set],rfl,by rw[List.length_set];exact O,Q,?_,?_⟩⟩⟩
   ·simp[execOp,F.eval g,F.eval hy,a5]
   ·rw[D];exact Frame.set (T1:=[]) (T2:=[])
   ·rw[D];exact Sat.set (T1:=[]) (T2:=[]) L
   ·rw[aa0,lv r,abd];exact S
   ·have f:=qF d.len j I m hl
    rw[f]
    have Z:=hZ d.len
    have G:i*sz+k+cs.length<=(xs.flatMap enc).length:=by
     rw[Z]
     have f:(i+1)*sz<=xs.length*sz:=aaS _ (by omega)
     rw[Nat.succ_mul]at f;omega
    intro q J
    rw[lv G]at J
    have W:=U q J
    rw[aaH,oJ r,oJ G,abz,W]
    by_cases A:q<i*sz+k
    ·rw[aaA (show off+q<off+i*sz+k by omega),aaA A]
    ·rw[aaz (show ¬off+q<off+i*sz+k by omega),aaz A]
     by_cases B:q<i*sz+k+cs.length
     ·rw[aaA (show off+q<off+i*sz+k+cs.length by omega),aaA B,show off+q-(off+i*sz+k)=q-(i*sz+k) by omega]
     ·rw[aaz (show ¬off+q<off+i*sz+k+cs.length by omega),aaz B]
theorem tm(p:Value):gj p 0=p:=by
 unfold gj
 split
 ·rename_i a;rfl
 ·rfl
theorem o9{v:Value}{k:Nat}:gj (eS v k) 0=eS v k:=tm _
theorem sf{vs cs:List Value}(h:cs.length=vs.length):cF vs 0 cs=cs:=by rw[fX];simp[h]
theorem aM.bt{t:TypeId}{x y:Operand}{E sz:Nat}{enc:α->List Value}{v:Value}{xs:List α}{z:α}{T:ay}{e:ay->aS}(i:Nat)(b:OS E sz enc v xs T)(d:xs[i]? =some z) [j:dQ H T e] [s:Sz P t sz](z':α)
  (f:∀T',OS E sz enc v (xs.set i z') T'->aM false P N R ops l env (e T') K)(ho:∀c∈enc z',Go.Proofs.YtgppncmdpcefhaaGreatDoor.aL c=true)(a:(enc z').length=sz:=by rfl)(g:ev env x=some (eS v (i*sz)):=by rfl)(h:ev env y=some (.agg (enc z').toArray):=by rfl):
  aM false P N R ops (⟨none,.store t x y,ty,pos,af,none⟩::l) env H K:=
 aM.sC (k:=0) (cs:=enc z') i b d g o9.symm h rfl a ho (sf (by rw[a,b.len z (aaV d)])).symm (by omega) f
theorem aM.dq{t:TypeId}{x y:Operand}{E:Nat}{enc:α->List Value}{v u:Value}{xs:List α}{z:α}{T:ay}{c:ay->aS}(i:Nat)(a:OS E 1 enc v xs T)(b:xs[i]? =some z) [h:dQ H T c] [s:Sz P t 1](z':α)
  (d:∀T',OS E 1 enc v (xs.set i z') T'->aM false P N R ops l env (c T') K)(e:enc z'=[u]:=by rfl)(ho:Go.Proofs.YtgppncmdpcefhaaGreatDoor.aL u=true:=by rfl)(f:ev env x=some (eS v (i*1)):=by rfl)(g:ev env y=some u:=by rfl):
  aM false P N R ops (⟨none,.store t x y,ty,pos,af,none⟩::l) env H K:=
 aM.sC (k:=0) (cs:=[u]) i a b f o9.symm g (lM ho) rfl (by simpa using ho) (by rw[e,sf (by rw[a.len z (aaV b)];rfl)]) (by simp) d
end
end
section
inductive CK where
 |i (k:IntKind)
 |s
 |b
def fF:CK->Value->Prop
 | .i k,.int k' _=>k'=k
 | .s,.string _=>True
 | .b,.bool _=>True
 |_,_=>False
def dh:List CK->List Value->Prop
 |[],[]=>True
 |k::ks,v::vs=>fF k v/\dh ks vs
 |_,_=>False
def ju:Value->Value->Bool
 | .int _ a,.int _ b=>a==b
 | .string a,.string b=>decide (a=b)
 | .bool a,.bool b=>a==b
 |_,_=>false
def dS:List Value->List Value->Bool
 |[],[]=>true
 |a::l,b::l2=>ju a b&&dS l l2
 |_,_=>false
def pack:Bool->List Value->Value
 |false,[x]=>x
 |_,xs=>.agg xs.toArray
theorem dh.length:∀{ks:List CK} {vs:List Value},dh ks vs->vs.length=ks.length
 |[],[],_=>rfl
 |_::ks,_::vs,h=>by simp[dh.length (ks:=ks) (vs:=vs) h.2]
 |[],_::_,h=>h.elim
 |_::_,[],h=>h.elim
theorem dh.split:∀{ks ks':List CK} {vs:List Value},dh (ks++ks') vs->dh ks (vs.take ks.length)/\dh ks' (vs.drop ks.length)
 |[],ks',vs,h=>by simpa[dh]using h
 |k::ks,ks',v::vs,h=>by
  have:=dh.split (ks:=ks) (ks':=ks') (vs:=vs) h.2
  exact⟨⟨h.1,this.1⟩,this.2⟩
 |_::_,_,[],h=>h.elim
theorem pH:∀(n:Nat) {xs ys:List Value},n<=xs.length->n<=ys.length->dS xs ys=(dS (xs.take n) (ys.take n)&&dS (xs.drop n) (ys.drop n))
 |0,xs,ys,_,_=>by simp[dS]
 |n+1,x::xs,y::ys,h1,h2=>by
  simp only[aaW]at h1 h2
  simp only[dS,List.take_succ_cons,List.drop_succ_cons]
  rw[pH n (by omega) (by omega),Bool.and_assoc]
 |n+1,[],_,h1,_=>by simp at h1
 |n+1,_::_,[],_,h2=>by simp at h2
class dE(P:Program)(t:TypeId)(n:outParam Nat)(ks:outParam (List CK))(agg:outParam Bool):Prop where
 ne:0<n
 eq:∀d,n<=d->∀w xs ys,dh ks xs->dh ks ys->(Op.equalIn d t (pack agg xs) (pack agg ys)).run P w=.ok (dS xs ys) w
 ck:∀d,n<=d->∀e w xs,dh ks xs->(Instr.checkKey e d t (pack agg xs)).run P w=.ok () w
 part:∀w (X:List Value) off xs,(X.drop off).take ks.length=xs->xs.length=ks.length->(part t X.toArray off).run P w=.ok (pack agg xs) w
def kd(e:Bool)(d:Nat)(xs:Array Value):List Field→Sem Unit
 |[]=>pure ()
 |f::fs=>if f.name≠ "_" then do Instr.checkKey e d f.type (←part f.type xs f.offset);kd e d xs fs else kd e d xs fs
structure dD(P:Program)(n off:Nat)(fs:List Field)(ks:List CK):Prop where
 eq:∀d,n<=d->∀w (X Y xs ys:List Value),X.drop off=xs->Y.drop off=ys->dh ks xs->dh ks ys->(Op.eqFields d X.toArray Y.toArray fs).run P w=.ok (dS xs ys) w
 ck:∀d,n<=d->∀e w (X xs:List Value),X.drop off=xs->dh ks xs->(kd e d X.toArray fs).run P w=.ok () w
section
variable{P:Program}
theorem jy{k:CK}{xs:List Value}(h:dh [k] xs):∃x,xs=[x]/\fF k x:=by
 match xs,h with
 |[x],h=>exact⟨x,rfl,h.1⟩
theorem oA{t:TypeId}(a:cC P t false)(w:World)(X:List Value)(off:Nat)(xs:List Value)(h:(X.drop off).take 1=xs)(c:xs.length=1):(part t X.toArray off).run P w=.ok (pack false xs) w:=by
 match xs,c with
 |[x],_=>
  have d:X[off]? =some x:=by
   have b:=aaI (λl:List Value=>l[0]?) h
   simpa[List.getElem?_take,abx]using b
  simp[Go.part,a.h,d,pack]
theorem dE.int{t:TypeId}{k:IntKind}(u:bL P t (.int k))(c:cC P t false):dE P t 1 [.i k] false where
 ne:=by decide
 eq d hd w xs ys hx hy:=by
  obtain⟨x,rfl,a⟩:=jy hx
  obtain⟨y,rfl,b⟩:=jy hy
  obtain⟨d,rfl⟩:∃d',d=d'+1:=⟨d-1,by omega⟩
  cases x<;>simp only[fF]at a
  cases y<;>simp only[fF]at b
  subst a;subst b
  simp[pack,Op.equalIn,run_underlying u.h,dS,ju]
 ck d hd e w xs hx:=by
  obtain⟨x,rfl,a⟩:=jy hx
  obtain⟨d,rfl⟩:∃d',d=d'+1:=⟨d-1,by omega⟩
  simp[pack,Instr.checkKey,run_underlying u.h]
 part w X off xs h hl:=oA c w X off xs h hl
theorem dE.str{t:TypeId}(u:bL P t .string)(b:cC P t false):dE P t 1 [.s] false where
 ne:=by decide
 eq d hd w xs ys hx hy:=by
  obtain⟨x,rfl,a⟩:=jy hx
  obtain⟨y,rfl,c⟩:=jy hy
  obtain⟨d,rfl⟩:∃d',d=d'+1:=⟨d-1,by omega⟩
  cases x<;>simp only[fF]at a
  cases y<;>simp only[fF]at c
  simp[pack,Op.equalIn,run_underlying u.h,dS,ju,mI]
 ck d hd e w xs hx:=by
  obtain⟨x,rfl,a⟩:=jy hx
  obtain⟨d,rfl⟩:∃d',d=d'+1:=⟨d-1,by omega⟩
  simp[pack,Instr.checkKey,run_underlying u.h]
 part w X off xs h hl:=oA b w X off xs h hl
theorem dE.bool{t:TypeId}(u:bL P t .bool)(c:cC P t false):dE P t 1 [.b] false where
 ne:=by decide
 eq d hd w xs ys hx hy:=by
  obtain⟨x,rfl,a⟩:=jy hx
  obtain⟨y,rfl,f⟩:=jy hy
  obtain⟨d,rfl⟩:∃d',d=d'+1:=⟨d-1,by omega⟩
  cases x<;>simp only[fF]at a
  cases y<;>simp only[fF]at f
  simp[pack,Op.equalIn,run_underlying u.h,dS,ju]
 ck d hd e w xs hx:=by
  obtain⟨x,rfl,a⟩:=jy hx
  obtain⟨d,rfl⟩:∃d',d=d'+1:=⟨d-1,by omega⟩
  simp[pack,Instr.checkKey,run_underlying u.h]
 part w X off xs h hl:=oA c w X off xs h hl
theorem dD.nil{n off:Nat}:dD P n off [] [] where
 eq d hd w X Y xs ys hx hy h1 h2:=by
  cases xs<;>cases ys<;>simp_all[dh,Op.eqFields,dS]
 ck d hd e w X xs hx h1:=rfl
theorem dD.cons{n m off:Nat}{f:Field}{fs:List Field}{kf ks:List CK}{agg:Bool}(ef:dE P f.type m kf agg)(h:dD P n (off+kf.length) fs ks)(hm:m≤n:=by decide)(ho:f.offset=off:=by rfl)(hn:f.name≠ "_":=by decide):dD P n off (f::fs) (kf++ks) where
 eq d hd w X Y xs ys hx hy h1 h2:=by
  obtain⟨a1,a2⟩:=h1.split
  obtain⟨b1,b2⟩:=h2.split
  have l1:=h1.length
  have l2:=h2.length
  rw[aaT]at l1 l2
  have e1:=ef.part w X off (xs.take kf.length) (by rw[hx]) a1.length
  have e2:=ef.part w Y off (ys.take kf.length) (by rw[hy]) b1.length
  have e3:=ef.eq d (by omega) w _ _ a1 b1
  have e4:=h.eq d hd w X Y (xs.drop kf.length) (ys.drop kf.length) (by rw[←hx,List.drop_drop]) (by rw[←hy,List.drop_drop]) a2 b2
  simp only[Op.eqFields,hn,ne_eq,abf,aaE,ho,Sem.run_bind,e1,e2,e3,Result.andThen_ok]
  rw[pH kf.length (xs:=xs) (ys:=ys) (by omega) (by omega)]
  cases dS (xs.take kf.length) (ys.take kf.length)
  ·simp
  ·simp only[aa3,aaD,aaC,Bool.true_and];exact e4
 ck d hd e w X xs hx h1:=by
  obtain⟨a1,a2⟩:=h1.split
  have e1:=ef.part w X off (xs.take kf.length) (by rw[hx]) a1.length
  have e3:=ef.ck d (by omega) e w _ a1
  have e4:=h.ck d hd e w X (xs.drop kf.length) (by rw[←hx,List.drop_drop]) a2
  simp only[kd,hn,ne_eq,abf,aaE,ho,Sem.run_bind,e1,e3,Result.andThen_ok]
  exact e4
theorem Gd{t:TypeId}{c:Array Field}(e:Bool)(d:Nat)(xs:Array Value)(w:World)(g:P.underlying t=some (.struct c)):(Instr.checkKey e (d+1) t (.agg xs)).run P w=(kd e d xs c.toList).run P w:=by
 simp only[Instr.checkKey,Sem.run_bind,run_underlying g,Result.andThen_ok]
 rw[<-Array.forIn_toList]
 generalize c.toList=fl
 clear g
 induction fl generalizing w with
 |nil=>simp[kd]
 |cons f fl ih=>
  simp only[List.forIn_cons,kd,Sem.run_bind,Sem.run_ite]
  split
  ·generalize (part f.type xs f.offset).run P w=r1
   cases r1 with
   |ok a w1=>
    simp only[Result.andThen_ok]
    generalize (Instr.checkKey e d f.type a).run P w1=r2
    cases r2 with
    |ok b w2=>simp only[Result.andThen_ok,Sem.run_pure];exact ih w2
    |halt x w2=>rfl
   |halt x w1=>rfl
  ·simp only[Sem.run_pure,Result.andThen_ok]
   exact ih w
theorem dD.more{n m off:Nat}{f:Field}{fs:List Field}{kf ks ks':List CK}{agg:Bool}(ef:dE P f.type m kf agg)(h:dD P n (off+kf.length) fs ks)(hk:ks'=kf++ks:=by rfl)(hm:m≤n:=by decide)(ho:f.offset=off:=by rfl)(hn:f.name≠ "_":=by decide):dD P n off (f::fs) ks':=by
 subst hk;exact dD.cons ef h hm ho hn
theorem dE.struct{t n:Nat}{a:Array Field}{ks:List CK}(u:P.underlying t=some (.struct a))(g:P.stoodInHeld t=false)(c:cC P t true)(sz:Sz P t ks.length)(h:dD P n 0 a.toList ks):dE P t (n+1) ks true where
 ne:=by omega
 eq d hd w xs ys hx hy:=by
  obtain⟨d,rfl⟩:∃d',d=d'+1:=⟨d-1,by omega⟩
  have b:P.fieldsOf t=a:=by simp[Program.fieldsOf,u]
  have:=run_equalIn_struct (P:=P) w d t xs.toArray ys.toArray (by rw[b];exact u) g
  rw[b]at this
  have e:=h.eq d (by omega) w xs ys xs ys (by simp) (by simp) hx hy
  rw[e]at this
  exact this
 ck d hd e w xs hx:=by
  obtain⟨d,rfl⟩:∃d',d=d'+1:=⟨d-1,by omega⟩
  have f:=h.ck d (by omega) e w xs xs (by simp) hx
  have:=Gd (P:=P) e d xs.toArray w u
  rw[f]at this
  exact this
 part w X off xs h hl:=by
  have:X.toArray.extract off (off+ks.length)=xs.toArray:=by
   rw[List.extract_toArray,List.extract_eq_take_drop, <-h]
   congr 2
   omega
  simp only[Go.part,Sem.run_bind,c.h,Result.andThen_ok,aaE,sz.h,this]
  rfl
class lI(P:Program)(t:TypeId):Prop where h:P.eqGuardType P.depth t=false
section
variable{R:aA}{env:Env}{H:aS}{ty:TypeId}{x y:Operand}{t u n:Nat}{ks:List CK}{xs ys:List Value}
theorem bd.uC [e:dE P t n ks true] [g:lI P t](j:ev env x=some (.agg xs.toArray))(k:ev env y=some (.agg ys.toArray))(c:dh ks xs)(f:dh ks ys)(i:Nat.ble n 10000=true:=by rfl):
  bd P R env H (.binOp .eql t x y u) ty (.bool (dS xs ys)):=λa w d o l m b _ _=>
 nr (op:=.move x) (b.eval j) (b.eval k) (run_eqGuard_agg w .eql t x y _ _ g.h) rfl (e.eq _ (aaN i) w xs ys c f)
theorem bd.rk [e:dE P t n ks true] [g:lI P t](j:ev env x=some (.agg xs.toArray))(k:ev env y=some (.agg ys.toArray))(c:dh ks xs)(f:dh ks ys)(i:Nat.ble n 10000=true:=by rfl):
  bd P R env H (.binOp .neq t x y u) ty (.bool !(dS xs ys)):=λa w d o l m b _ _=>
 nt (op:=.move x) (b.eval j) (b.eval k) (run_eqGuard_agg w .neq t x y _ _ g.h) rfl (e.eq _ (aaN i) w xs ys c f)
end
end
end
section
variable{κ β:Type} [DecidableEq κ]
def bX(k:κ):List (κ×β)->Option β
 |[]=>none
 |(k',x)::r=>if k=k' then some x else bX k r
def dl(k:κ)(x:β):List (κ×β)->List (κ×β)
 |[]=>[(k,x)]
 |(k',y)::r=>if k=k' then(k',x)::r else(k',y)::dl k x r
def fb(k:κ):List (κ×β)->List (κ×β)
 |[]=>[]
 |(k',y)::r=>if k=k' then r else(k',y)::fb k r
theorem ig{k:κ}{x:β}:∀{M:List (κ×β)},bX k M=some x->(k,x)∈M
 |[],h=>by cases h
 |(k',y)::r,h=>by
  simp only[bX]at h
  split at h
  ·rename_i a;subst a;simp only[aa4]at h;subst h;simp
  ·exact List.mem_cons_of_mem _ (ig h)
theorem gQ{k:κ}:∀{M:List (κ×β)},bX k M=none↔k∉M.map (·.1)
 |[]=>by simp[bX]
 |(k',y)::r=>by
  simp only[bX,aaB,aaF,not_or]
  split
  ·rename_i a;simp[a]
  ·rename_i a;simp[a,gQ]
theorem gz{k:κ}{x:β}:∀{M:List (κ×β)},(M.map (·.1)).Nodup->(k,x)∈M->bX k M=some x
 |[],_,h=>by simp at h
 |(k',y)::r,hn,h=>by
  simp only[aaB,aa5]at hn
  simp only[bX]
  rcases aaF.1 h with h0|h0
  ·injection h0 with h1 h2;subst h1;subst h2;simp
  ·split
   ·rename_i a;subst a;exact absurd (aaM.2 ⟨_,h0,rfl⟩) hn.1
   ·exact gz hn.2 h0
theorem mZ{k:κ}{x:β}:∀{M:List (κ×β)},(dl k x M).map (·.1)=if k∈M.map (·.1)then M.map (·.1)else M.map (·.1)++[k]
 |[]=>by simp[dl]
 |(k',y)::r=>by
  simp only[dl]
  split
  ·rename_i a;subst a;simp
  ·rename_i a
   simp only[aaB,mZ,aaF]
   by_cases h:k∈r.map (·.1)
   ·simp[h]
   ·simp[h,a]
theorem rj{k:κ}{x:β}{M:List (κ×β)}(h:(M.map (·.1)).Nodup):((dl k x M).map (·.1)).Nodup:=by
 rw[mZ]
 split
 ·exact h
 ·rename_i f
  exact abm.2 ⟨h,by simp,λa d b c e=>by simp only[aa1]at c;subst c;subst e;exact f d⟩
theorem rh{k k':κ}{x:β}:∀{M:List (κ×β)},bX k' (dl k x M)=if k'=k then some x else bX k' M
 |[]=>by simp[dl,bX]
 |(k1,y)::r=>by
  simp only[dl]
  split
  ·rename_i a;subst a
   simp only[bX]
   split<;>simp_all
  ·rename_i a
   simp only[bX,rh]
   split
   ·rename_i b;subst b;rw[aaz (λe=>a e.symm)]
   ·rfl
theorem ra{k:κ}:∀{M:List (κ×β)},(fb k M).Sublist M
 |[]=>by simp[fb]
 |(k',y)::r=>by
  simp only[fb]
  split
  ·exact List.sublist_cons_self _ _
  ·exact(ra).cons_cons _
theorem E0{k:κ}{M:List (κ×β)}(h:(M.map (·.1)).Nodup):((fb k M).map (·.1)).Nodup:=h.sublist (ra.map _)
def fW(k:κ):List κ->List MapEntry->Nat->Option (Nat×Value)
 |k'::ks,e::es,i=>if k=k' then some (i,e.val)else fW k ks es (i+1)
 |_,_,_=>none
class eC(P:Program)(kt:TypeId)(encK:κ->Value):Prop where
 find:∀(k:κ) (es:List MapEntry) (ks:List κ) w,es.map (·.key)=ks.map encK->(Instr.findKey kt (encK k) es).run P w=.ok (fW k ks es 0) w
 ck:∀e k w,(Instr.checkKey e 10000 kt (encK k)).run P w=.ok () w
 same:∀k,Instr.sameBits 10000 (encK k) (encK k)=true
theorem rZ{P:Program}{kt:TypeId}{encK:κ->Value}(a:∀k k' w,(Op.equal kt (encK k) (encK k')).run P w=.ok (decide (k=k')) w)(k:κ):
  ∀(es:List MapEntry) (ks:List κ) (i:Nat) w,es.map (·.key)=ks.map encK->(Instr.findAsking kt (encK k) es i).run P w=.ok (fW k ks es i) w
 |[],ks,i,w,h=>by
  cases ks with
  |nil=>rfl
  |cons _ _=>simp at h
 |e::es,[],i,w,h=>by simp at h
 |e::es,k'::ks,i,w,h=>by
  simp only[aaB,abn]at h
  simp only[Instr.findAsking,Sem.run_bind,h.1,a,Result.andThen_ok,fW]
  by_cases b:k=k'
  ·simp[b]
  ·simp only[b,aaX,aaD,aaC]
   exact rZ a k es ks (i+1) w h.2
theorem qC{d:TypeDesc}{encK:κ->Value}(b:∀k k',Instr.sameNow d (encK k) (encK k')=some (decide (k=k')))(k:κ):
  ∀(es:List MapEntry) (ks:List κ) (i:Nat),es.map (·.key)=ks.map encK->Instr.findNow d (encK k) es i=some (fW k ks es i)
 |[],ks,i,h=>by
  cases ks with
  |nil=>rfl
  |cons _ _=>simp at h
 |e::es,[],i,h=>by simp at h
 |e::es,k'::ks,i,h=>by
  simp only[aaB,abn]at h
  simp only[Instr.findNow,h.1,b,fW]
  by_cases a:k=k'
  ·simp[a]
  ·simp only[a,aaX,aaC]
   exact qC b k es ks (i+1) h.2
theorem Gn{ks:List CK}:∀{xs:List Value},dh ks xs->∀x∈xs,Instr.sameBits 9999 x x=true:=by
 induction ks with
 |nil=>intro xs h x hx;cases xs<;>simp_all[dh]
 |cons k ks ih=>
  intro xs h x hx
  cases xs with
  |nil=>simp at hx
  |cons y ys=>
   rcases aaF.1 hx with rfl|hx
   ·have:=h.1
    cases k<;>cases x<;>first|exact this.elim|simp[Instr.sameBits,mI]
   ·exact ih h.2 x hx
theorem eC.agg{P:Program}{kt n:Nat}{ks:List CK}{a:κ->List Value}(e:dE P kt n ks true){c:Array Field}(u:P.underlying kt=some (.struct c))(d:Nat.ble n 10000=true)(b:∀k,dh ks (a k))(m:∀k k',dS (a k) (a k')=decide (k=k')):eC P kt (λk:κ=>.agg (a k).toArray) where
 find k es ks' w h:=by
  have o:∀(k k':κ) w,(Op.equal kt (.agg (a k).toArray) (.agg (a k').toArray)).run P w=.ok (decide (k=k')) w:=λk k' w=>by
   rw[<-m];exact e.eq 10000 (aaN d) w _ _ (b k) (b k')
  have g:=rZ o k es ks' 0 w h
  simp only[Instr.findKey,Sem.run_bind,run_underlying u,Result.andThen_ok]
  cases es with
  |nil=>
   cases ks' with
   |nil=>rfl
   |cons _ _=>simp at h
  |cons e es=>
   have:Instr.findNow (.struct c) (.agg (a k).toArray) (e::es) 0=none:=rfl
   rw[this]
   exact g
 ck em k w:=e.ck 10000 (aaN d) em w _ (b k)
 same k:=by
  have h:=Gn (b k)
  show((a k).toArray.size==(a k).toArray.size&&((a k).toArray.toList.zip (a k).toArray.toList).all λ(x,y)=>Instr.sameBits 9999 x y)=true
  simp only[abA,Bool.true_and]
  rw[List.all_eq_true]
  intro p f
  have:p.1=p.2/\p.1∈a k:=by
   have j:=List.of_mem_zip f
   have l:p.1=p.2:=by
    obtain⟨i,r,rfl⟩:=aaY.1 f
    simp
   exact⟨l,by simpa using j.1⟩
  obtain⟨x,y⟩:=p
  simp only at this⊢
  obtain⟨rfl,q⟩:=this
  exact h x q
theorem eC.str{P:Program}{kt:Nat}(u:bL P kt .string)(a:cC P kt false):eC P kt (λs:ByteArray=>.string s) where
 find k es ks w h:=by
  have:=qC (d:=.string) (encK:=λs:ByteArray=>Value.string s) (λk b=>by simp[Instr.sameNow,mI]) k es ks 0 h
  simp only[Instr.findKey,Sem.run_bind,run_underlying u.h,Result.andThen_ok,this]
  rfl
 ck em k w:=(dE.str u a).ck 10000 (by decide) em w [.string k] ⟨trivial,trivial⟩
 same k:=by simp[Instr.sameBits,mI]
def gw(encK:κ->Value)(encV:β->Value)(es:List MapEntry)(M:List (κ×β)):Prop:=es.map (λe=>(e.key,e.val))=M.map λp=>(encK p.1,encV p.2)
omit [DecidableEq κ] in
theorem gw.keys{encK:κ->Value}{b:β->Value}{a:List MapEntry}{M:List (κ×β)}(h:gw encK b a M):a.map (·.key)=(M.map (·.1)).map encK:=by
 have:=aaI (List.map Prod.fst) h
 simpa[Function.comp_def]using this
omit [DecidableEq κ] in
theorem gw.length{encK:κ->Value}{b:β->Value}{a:List MapEntry}{M:List (κ×β)}(h:gw encK b a M):a.length=M.length:=by
 have:=aaI List.length h
 simpa using this
theorem qZ{encK:κ->Value}{a:β->Value}(k:κ):∀{es:List MapEntry} {M:List (κ×β)} (i:Nat),gw encK a es M->
  (fW k (M.map (·.1)) es i).map (·.2)=(bX k M).map a
 |[],[],_,_=>rfl
 |[],_::_,_,h=>by simp[gw]at h
 |_::_,[],_,h=>by simp[gw]at h
 |e::es,(k',x)::M,i,h=>by
  simp only[gw,aaB,abn,aaU]at h
  simp only[aaB,fW,bX]
  split
  ·simp[h.1.2]
  ·exact qZ k (i+1) h.2
structure eJ(encK:κ->Value)(encV:β->Value)(es:Array MapEntry)(clock:Nat)(M:List (κ×β)):Prop where
 fH:gw encK encV es.toList M
 nd:(M.map (·.1)).Nodup
 born:∀e∈es.toList,e.born<clock
 eW:(es.toList.map (·.born)).Nodup
def RM(R:aA)(encK:κ->Value)(encV:β->Value)(m:Value)(M:List (κ×β)):Prop:=∃b es clock,m=.map (some b)/\R b (.map es clock)/\eJ encK encV es clock M
def MS(encK:κ->Value)(encV:β->Value)(m:Value)(M:List (κ×β))(T:ay):Prop:=∃b es clock,m=.map (some b)/\T=[(b,.map es clock)]/\eJ encK encV es clock M
omit [DecidableEq κ] in
theorem MS.rm{R:aA}{encK:κ->Value}{a:β->Value}{m:Value}{M:List (κ×β)}{T:ay}(h:MS encK a m M T)(g:∀p∈T,R p.1 p.2):RM R encK a m M:=by
 obtain⟨b,d,c,e,rfl,f⟩:=h
 exact⟨b,d,c,e,g (b,_) (by simp),f⟩
omit [DecidableEq κ] in
theorem MS.rx{R:aA}{H:aS}{encK:κ->Value}{a:β->Value}{m:Value}{M:List (κ×β)}{T:ay}{c:ay->aS}(h:MS encK a m M T) [s:dQ H T c]:RM (Rx R H) encK a m M:=h.rm λp b=>.inr (s.mem p b)
omit [DecidableEq κ] in
theorem MS.nil{encK:κ->Value}{a:β->Value}{b:Nat}:MS encK a (.map (some b)) ([]:List (κ×β)) [(b,.map #[] 0)]:=
 ⟨b,#[],0,rfl,rfl,⟨by simp[gw],by simp,by simp,by simp⟩⟩
omit [DecidableEq κ] in
theorem MS.one{encK:κ->Value}{a:β->Value}{m:Value}{M:List (κ×β)}{T:ay}(h:MS encK a m M T):One m:=⟨by obtain⟨b,d,c,rfl,_⟩:=h;rfl⟩
omit [DecidableEq κ] in
theorem MS.nd{encK:κ->Value}{a:β->Value}{m:Value}{M:List (κ×β)}{T:ay}(h:MS encK a m M T):(M.map (·.1)).Nodup:=by obtain⟨b,e,d,_,_,c⟩:=h;exact c.nd
theorem gA{P:Program}{b:Nat}{c:Array MapEntry}{a:Nat}{w:World}(h:w.heap[b]? =some (.map c a)):(getObj b).run P w=.ok (.map c a) w:=by
 simp[getObj,Sem.run,h]
theorem ku{P:Program}{b:Nat}{c:Array MapEntry}{a:Nat}{o:Obj}{w:World}(h:w.heap[b]? =some (.map c a)):(setObj b o).run P w=.ok () (dp w b o):=by
 simp[setObj,Sem.run,h,dp]
theorem qX{k:κ}:∀{ks:List κ} {es:List MapEntry} {i:Nat},ks.length=es.length->(fW k ks es i=none↔k∉ks)
 |[],es,i,h=>by simp[fW]
 |k'::ks,[],i,h=>by simp at h
 |k'::ks,e::es,i,h=>by
  simp only[aaW,abB]at h
  simp only[fW,aaF,not_or]
  split
  ·rename_i a;simp[a]
  ·rename_i a;rw[qX h];simp[a]
theorem qY{k:κ}:∀{ks:List κ} {es:List MapEntry} {i j:Nat} {v:Value},fW k ks es i=some (j,v)->i<=j/\ks[j-i]? =some k/\∃e,es[j-i]? =some e/\e.val=v
 |[],es,i,j,v,h=>by simp[fW]at h
 |k'::ks,[],i,j,v,h=>by simp[fW]at h
 |k'::ks,e::es,i,j,v,h=>by
  simp only[fW]at h
  split at h
  ·rename_i b
   simp only[aa4,aaU]at h
   obtain⟨rfl,rfl⟩:=h
   simp[b]
  ·have:=qY h
   have a:j-i=(j-(i+1))+1:=by omega
   rw[a]
   exact⟨by omega,by simpa using this.2.1,by simpa using this.2.2⟩
theorem ri{k:κ}{x:β}:∀{M:List (κ×β)} {j:Nat},(M.map (·.1)).Nodup->(M.map (·.1))[j]? =some k->dl k x M=M.set j (k,x)
 |[],j,_,h=>by simp at h
 |(k',y)::r,0,hn,h=>by
  simp at h;subst h;simp[dl]
 |(k',y)::r,j+1,hn,h=>by
  simp only[aaB,aa5]at hn
  simp only[aaB,aaR]at h
  have a:k≠k':=λe=>hn.1 (e▸aaV h)
  simp only[dl,aaz a,List.set_cons_succ,ri hn.2 h]
theorem jB{k:κ}{x:β}:∀{M:List (κ×β)},k∉M.map (·.1)->dl k x M=M++[(k,x)]
 |[],_=>rfl
 |(k',y)::r,h=>by
  simp only[aaB,aaF,not_or]at h
  simp only[dl,aaz h.1,jB h.2,aby]
theorem ov{k:κ}:∀{M:List (κ×β)} {j:Nat},(M.map (·.1)).Nodup->(M.map (·.1))[j]? =some k->fb k M=M.eraseIdx j
 |[],j,_,h=>by simp at h
 |(k',y)::r,0,hn,h=>by
  simp at h;subst h;simp[fb]
 |(k',y)::r,j+1,hn,h=>by
  simp only[aaB,aa5]at hn
  simp only[aaB,aaR]at h
  have a:k≠k':=λe=>hn.1 (e▸aaV h)
  simp only[fb,aaz a,List.eraseIdx_cons_succ,ov hn.2 h]
theorem ow{k:κ}:∀{M:List (κ×β)},k∉M.map (·.1)->fb k M=M
 |[],_=>rfl
 |(k',y)::r,h=>by
  simp only[aaB,aaF,not_or]at h
  simp only[fb,aaz h.1,ow h.2]
omit [DecidableEq κ] in
theorem ou{α γ:Type}(f:α->γ):∀(l:List α) (j:Nat),(l.eraseIdx j).map f=(l.map f).eraseIdx j
 |[],_=>rfl
 |_::_,0=>rfl
 |a::l,j+1=>by simp[ou f l j]
theorem eJ.find{P:Program}{kt:Nat}{encK:κ->Value}{f:β->Value}{a:Array MapEntry}{g:Nat}{M:List (κ×β)}(h:eJ encK f a g M) [i:eC P kt encK](k:κ)(w:World):
    ∃r,(Instr.findKey kt (encK k) a.toList).run P w=.ok r w/\r.map (·.2)=(bX k M).map f/\
     (match r with
      |none=>k∉M.map (·.1)
      |some (j,_)=>(M.map (·.1))[j]? =some k/\∃e,a[j]? =some e/\e.key=encK k):=by
  refine⟨_,i.find k a.toList (M.map (·.1)) w h.fH.keys,qZ k 0 h.fH,?_⟩
  cases hl:fW k (M.map (·.1)) a.toList 0 with
  |none=>exact(qX (by rw[abg,h.fH.length])).1 hl
  |some jv=>
   obtain⟨j,v⟩:=jv
   obtain⟨_,b,e,c,_⟩:=qY hl
   simp only[Nat.sub_zero]at b c
   refine⟨b,e,by simpa using c,?_⟩
   have d:=aaI (λl:List Value=>l[j]?) h.fH.keys
   simp only[aaJ,c,aaK]at d
   rw[<-aaJ,b]at d
   simpa using d
theorem eJ.update{encK:κ->Value}{b:β->Value}{a:Array MapEntry}{g:Nat}{M:List (κ×β)}(h:eJ encK b a g M){k:κ}{j:Nat}(x:β)(p:(M.map (·.1))[j]? =some k):
  eJ encK b (a.modify j λe=>{e with key:=encK k,val:=b x}) g (dl k x M):=by
 have f:(a.modify j λe=>{e with key:=encK k,val:=b x}).toList=a.toList.modify j λe=>{e with key:=encK k,val:=b x}:=by
  apply abh;intro i
  simp[abC]
 have n:(a.toList.modify j λe=>{e with key:=encK k,val:=b x}).map (·.born)=a.toList.map (·.born):=by
  apply abh;intro i
  simp only[aaJ,abC]
  split<;>simp[Function.comp_def]
 refine⟨?_,rj h.nd,?_,?_⟩
 ·rw[f,ri h.nd p]
  unfold gw
  have:=h.fH
  unfold gw at this
  apply abh;intro i
  have o:=aaI (λl:List (Value×Value)=>l[i]?) this
  simp only[aaJ]at o
  simp only[aaJ,abC,abD]
  by_cases d:j=i
  ·subst d
   have t:j<M.length:=by
    have:=(abe.1 p).1
    simpa using this
   simp only[aaE,t,aaK]
   cases c:a.toList[j]? with
   |none=>
    have:=List.getElem?_eq_none_iff.1 c
    rw[h.fH.length]at this
    omega
   |some e=>rfl
  ·rw[aaz d, <-o]
   cases a.toList[i]? <;>simp[d]
 ·intro e c
  rw[f]at c
  have m:e.born∈(a.toList.modify j λe=>{e with key:=encK k,val:=b x}).map (·.born):=abo c
  rw[n]at m
  obtain⟨q,s,r⟩:=aaM.1 m
  rw[<-r];exact h.born q s
 ·rw[f,n];exact h.eW
theorem eJ.insert{encK:κ->Value}{d:β->Value}{f:Array MapEntry}{c:Nat}{M:List (κ×β)}(h:eJ encK d f c M){k:κ}(x:β)(m:k∉M.map (·.1)):
  eJ encK d (f.push {key:=encK k,val:=d x,born:=c}) (c+1) (dl k x M):=by
 refine⟨?_,rj h.nd,?_,?_⟩
 ·have:=h.fH
  unfold gw at this⊢
  rw[jB m]
  simp[this]
 ·intro e he
  simp only[Array.toList_push,abk,aa1]at he
  rcases he with he|rfl
  ·have:=h.born e he;omega
  ·simp
 ·simp only[Array.toList_push,List.map_append,aaB,List.map_nil]
  refine abm.2 ⟨h.eW,by simp,?_⟩
  intro a i b j e
  simp only[aa1]at j
  obtain⟨g,l,rfl⟩:=aaM.1 i
  have:=h.born g l
  omega
theorem eJ.delete{encK:κ->Value}{d:β->Value}{a:Array MapEntry}{c:Nat}{M:List (κ×β)}(h:eJ encK d a c M){k:κ}{j:Nat}(g:(M.map (·.1))[j]? =some k):
  eJ encK d (a.eraseIdxIfInBounds j) c (fb k M):=by
 have b:(a.eraseIdxIfInBounds j).toList=a.toList.eraseIdx j:=by simp
 refine⟨?_,E0 h.nd,?_,?_⟩
 ·have:=h.fH
  unfold gw at this⊢
  rw[b,ov h.nd g,ou,ou,this]
 ·intro e f
  rw[b]at f
  exact h.born e (List.mem_of_mem_eraseIdx f)
 ·rw[b]
  exact h.eW.sublist ((List.eraseIdx_sublist ..).map _)
end
section
variable{κ β:Type} [DecidableEq κ]
def It(Rd:aA)(encK:κ->Value)(encV:β->Value)(m:Value)(M:List (κ×β))(it:Value)(todo:List κ)(Ti:ay):Prop:=
 ∃b es clock r seen,m=.map (some b)/\Rd b (.map es clock)/\eJ encK encV es clock M/\it=.pointer (some ⟨r,0,none⟩)/\Ti=[(r,.mapIter (some b) clock seen clock)]/\
  todo=((es.toList.zip M).filter λp=> !seen.contains p.1.born).map (·.2.1)
section
variable{P:Program}{N:Nat}{R:aA}{ops:Array Oper}{l:List Oper}{env:Env}{H:aS}{K:Env->aS->Prop}{ty:TypeId}{pos:String}{af:Array Edge}{m:Bool}
variable{encK:κ->Value}{encV:β->Value}{mp:Value}{M:List (κ×β)}{T:ay}{upd:ay->aS}
theorem kw{w:World}(s:Sat w H)(r:RO w R H):∀b o,Rx R H b o->w.heap[b]? =some o:=λb o h=>by
 rcases h with h|h
 ·exact(r b o h).1
 ·exact s.2 _ h
theorem r4{x k:Value}{kt f t:TypeId}{z:Value}{key:κ}{w:World}{ok:Bool}{b:Nat}{e:Array MapEntry}{d:Nat}(ut:bL P t (.map kt f))(l:eC P kt encK)(m:Zr P f z)(i:w.heap[b]? =some (.map e d))(h:eJ encK encV e d M):
  (Instr.lookup t (.map (some b)) (encK key) ok).run P w=.ok (if ok then .tuple #[((bX key M).map encV).getD z,.bool (bX key M).isSome]else((bX key M).map encV).getD z) w:=by
 obtain⟨r,g,a,n⟩:=h.find (P:=P) (kt:=kt) key w
 unfold Instr.lookup
 simp only[Sem.run_bind,run_underlying ut.h,Result.andThen_ok,gA i,l.ck,g,Sem.run_pure]
 cases r with
 |none=>
  simp only[Option.map_none]at a
  have c:bX key M=none:=by simpa using a.symm
  simp[c,m.h]
 |some jv=>
  obtain⟨j,v⟩:=jv
  simp only[aaK]at a
  rw[<-a]
  have c:(bX key M).isSome=true:=by
   have:=aaI Option.isSome a
   simpa using this.symm
  simp[c]
theorem bd.q0{x y:Operand}{t kt c:TypeId}{z:Value}{key:κ}(h:RM (Rx R H) encK encV mp M)(j:ev env x=some mp)(l:ev env y=some (encK key)) [ut:bL P t (.map kt c)] [m:eC P kt encK] [o:Zr P c z]:
  bd P R env H (.lookup t x y true) ty (.tuple [((bX key M).map encV).getD z,.bool (bX key M).isSome].toArray):=λa w d u p g e s n=>by
 obtain⟨b,r,q,rfl,f,i⟩:=h
 have:=r4 (P:=P) (x:=.nilFunc) (k:=.nilFunc) (t:=t) (ok:=true) (key:=key) ut m o (kw s n _ _ f) i
 simp[execOp,e.eval j,e.eval l,this]
theorem bd.EU{x y:Operand}{t kt c:TypeId}{z:Value}{key:κ}(h:RM (Rx R H) encK encV mp M)(j:ev env x=some mp)(l:ev env y=some (encK key)) [ut:bL P t (.map kt c)] [m:eC P kt encK] [o:Zr P c z]:
  bd P R env H (.lookup t x y false) ty (((bX key M).map encV).getD z):=λa w d u p g e s n=>by
 obtain⟨b,r,q,rfl,f,i⟩:=h
 have:=r4 (P:=P) (x:=.nilFunc) (k:=.nilFunc) (t:=t) (ok:=false) (key:=key) ut m o (kw s n _ _ f) i
 simp[execOp,e.eval j,e.eval l,this]
omit [DecidableEq κ] in
theorem bd.ER{x:Operand}{t kt e:TypeId}(h:RM (Rx R H) encK encV mp M)(m:ev env x=some mp) [ut:bL P t (.map kt e)]:bd P R env H (.call ⟨.builtin .len,#[x],#[t]⟩) ty (.int .i64 M.length):=λa w d q o g j s n=>by
 obtain⟨b,c,p,rfl,f,i⟩:=h
 have k:=i.fH.length
 have l:c.size=M.length:=by simpa using k
 simp[execOp,resolve,j.eval m,invoke,builtin,Builtin.len_,run_underlying ut.h,gA (kw s n _ _ f),goInt,l]
omit [DecidableEq κ] in
theorem Gf(n:Nat){t kt a:TypeId}{w:World}{p:Option Nat}(ut:P.underlying t=some (.map kt a)):(Op.equalIn (n+1) t (.map p) (.map none)).run P w=.ok p.isNone w:=by
 cases p<;>simp[Op.equalIn,run_underlying ut]
omit [DecidableEq κ] in
theorem bd.m0{x y:Operand}{t u kt c:TypeId}{p:Option Nat}(e:ev env x=some (.map p))(f:ev env y=some (.map none)) [ut:bL P t (.map kt c)]:bd P R env H (.binOp .neq t x y u) ty (.bool !p.isNone):=λa w d j i g b _ _=>
 nt (op:=.move x) (b.eval e) (b.eval f) (kQ rfl) rfl (Gf _ ut.h)
theorem jD{w:World}{H1 H2:aS}{b:Nat}{o o':Obj}(s:Sat w (H1++[(b,o)]::H2)):Frame w (H1++[(b,o)]::H2) (dp w b o') (H1++[(b,o')]::H2)/\Sat (dp w b o') (H1++[(b,o')]::H2):=
 ⟨Frame.set (T1:=[]) (T2:=[]),Sat.set (T1:=[]) (T2:=[]) s⟩
omit [DecidableEq κ] in
theorem EM{b:Nat}{m k:Array MapEntry}{j:Nat}{l:List (κ×β)}(z:eJ encK encV m j M)(A:eJ encK encV k j l)(x:k.toList.map (·.born)=m.toList.map (·.born))(y:l.map (·.1)=M.map (·.1)){q:Value}{todo:List κ}{o:ay}
  (h:It (sg [(b,.map m j)]) encK encV (.map (some b)) M q todo o):It (sg [(b,.map k j)]) encK encV (.map (some b)) l q todo o:=by
 obtain⟨s,C,t,r,n,g,d,i,u,v,w⟩:=h
 simp only[sg,aa1,aaU,Obj.map.injEq]at d
 obtain⟨rfl,rfl,rfl⟩:=d
 refine⟨s,k,t,r,n,g,by simp[sg],A,u,v,?_⟩
 rw[w]
 have B:∀(e c:List MapEntry) (N f:List (κ×β)),c.map (·.born)=e.map (·.born)->f.map (·.1)=N.map (·.1)->e.length=N.length->
   ((e.zip N).filter λp=> !n.contains p.1.born).map (·.2.1)=((c.zip f).filter λp=> !n.contains p.1.born).map (·.2.1):=by
  intro e
  induction e with
  |nil=>intro c N f g d i;cases c<;>simp_all
  |cons a e ih=>
   intro c N f g d i
   cases c with
   |nil=>simp at g
   |cons a' c=>cases N with
    |nil=>simp at i
    |cons p N=>cases f with
     |nil=>simp at d
     |cons p' f=>
      simp only[aaB,abn]at g d
      simp only[aaW,abB]at i
      have:=ih c N f g.2 d.2 i
      simp only[abE,aaO,g.1]
      split
      ·simp only[aaB,this,d.1]
      ·exact this
 exact B _ _ _ _ x y (z.fH.length)
theorem Gl{P:Program}{kt l t:TypeId}{key:κ}{x:β}{w:World}{b:Nat}{a:Array MapEntry}{d:Nat}(ut:bL P t (.map kt l))(g:eC P kt encK)(c:w.heap[b]? =some (.map a d))(h:eJ encK encV a d M):
  ∃es' clock',(Instr.mapUpdate t (.map (some b)) (encK key) (encV x)).run P w=.ok () (dp w b (.map es' clock'))/\eJ encK encV es' clock' (dl key x M)/\
   (key∈M.map (·.1)->clock'=d/\es'.toList.map (·.born)=a.toList.map (·.born)):=by
 obtain⟨r,k,s,f⟩:=h.find (P:=P) (kt:=kt) key w
 cases r with
 |none=>
  refine⟨_,_,?_,h.insert x f,λq=>absurd q f⟩
  unfold Instr.mapUpdate
  simp only[Sem.run_bind,run_underlying ut.h,Result.andThen_ok,gA c,g.ck,k,ku c]
 |some jv=>
  obtain⟨j,v⟩:=jv
  obtain⟨m,e,n,o⟩:=f
  refine⟨_,_,?_,h.update x m,λ_=>⟨rfl,?_⟩⟩
  ·unfold Instr.mapUpdate
   simp only[Sem.run_bind,run_underlying ut.h,Result.andThen_ok,gA c,g.ck,k,n,aaK,Option.getD_some,o]
   have:(Instr.keyThatStays (encK key) (encK key)).run P w=.ok (encK key) w:=by
    unfold Instr.keyThatStays
    rw[g.same];rfl
   rw[this]
   simp only[Result.andThen_ok,ku c]
  ·apply abh;intro i
   simp only[aaJ,abz,abp]
   split
   ·rename_i p;subst p;cases a[j]? <;>simp
   ·rfl
theorem aM.update{t kt p:TypeId}{x y z:Operand}{key:κ}{u:β}(h:MS encK encV mp M T) [L:dQ H T upd] [ut:bL P t (.map kt p)] [I:eC P kt encK](E:ev env x=some mp)(F:ev env y=some (encK key))(G:ev env z=some (encV u))
  (C:∀T',MS encK encV mp (dl key u M) T'->(key∈M.map (·.1)->∀it todo Ti,It (sg T) encK encV mp M it todo Ti->It (sg T') encK encV mp (dl key u M) it todo Ti)->aM false P N R ops l env (upd T') K):
  aM false P N R ops (⟨none,.mapUpdate t x y z,ty,pos,af,none⟩::l) env H K:=
 aM.kK λa w e s S=>by
  obtain⟨b,o,m,rfl,rfl,i⟩:=h
  obtain⟨O,Q,n,g⟩:=L.h
  subst n
  have q:w.heap[b]? =some (.map o m):=s.2 (b,_) (by simp)
  obtain⟨d,c,D,k,A⟩:=Gl (P:=P) (key:=key) (x:=u) ut I q i
  obtain⟨f,J⟩:=jD (o':=.map d c) s
  refine⟨_,upd [(b,.map d c)],.inl ?_,by rw[g];exact f,by rw[g];exact J,C _ ⟨b,d,c,rfl,rfl,k⟩ λj it todo Ti B=>?_⟩
  ·simp[execOp,e.eval E,e.eval F,e.eval G,D]
  ·obtain⟨v,r⟩:=A j
   subst v
   exact EM i k r (by rw[mZ,aaA j]) B
theorem Ge{P:Program}{kt s t:TypeId}{key:κ}{w:World}{b:Nat}{i:Array MapEntry}{l:Nat}{ty:TypeId}{t2:TypeId}(ut:bL P t (.map kt s))(q:eC P kt encK)(m:w.heap[b]? =some (.map i l))(h:eJ encK encV i l M):
  ∃es',(Builtin.delete_ #[t,t2] ty #[.map (some b),encK key]).run P w=.ok (.tuple #[]) (dp w b (.map es' l))/\eJ encK encV es' l (fb key M)/\
   ∀seen:Array Nat,((es'.toList.zip (fb key M)).filter λp=> !seen.contains p.1.born).map (·.2.1)=(((i.toList.zip M).filter λp=> !seen.contains p.1.born).map (·.2.1)).filter λk=>decide (k≠key):=by
 obtain⟨r,d,g,c⟩:=h.find (P:=P) (kt:=kt) key w
 have o:∀(e:List MapEntry) (N:List (κ×β)) (seen:Array Nat),key∉N.map (·.1)->(((e.zip N).filter λp=> !seen.contains p.1.born).map (·.2.1)).filter (λk=>decide (k≠key))=((e.zip N).filter λp=> !seen.contains p.1.born).map (·.2.1):=by
  intro e N seen u
  rw[List.filter_eq_self]
  intro k x
  obtain⟨p,B,rfl⟩:=aaM.1 x
  have C:=(List.of_mem_zip ((abi.1 B).1:(p.1,p.2)∈e.zip N)).2
  simp only[ne_eq,decide_eq_true_eq]
  exact λe=>u (e▸abo (f:=(·.1)) C)
 cases r with
 |none=>
  refine⟨i,?_,by rw[ow c];exact h,λseen=>by rw[ow c,o _ _ _ c]⟩
  unfold Builtin.delete_
  simp only[aaH,abb,aaR,Sem.run_bind,run_underlying ut.h,Result.andThen_ok,gA m,q.ck,d,ku m,Sem.run_pure]
 |some jv=>
  obtain⟨j,v⟩:=jv
  obtain⟨n,e,E,F⟩:=c
  refine⟨i.eraseIdxIfInBounds j,?_,h.delete n,λseen=>?_⟩
  ·unfold Builtin.delete_
   simp only[aaH,abb,aaR,Sem.run_bind,run_underlying ut.h,Result.andThen_ok,gA m,q.ck,d,ku m,Sem.run_pure]
  ·have y:(i.eraseIdxIfInBounds j).toList=i.toList.eraseIdx j:=by simp
   rw[y,ov h.nd n]
   have D:∀(e:List MapEntry) (N:List (κ×β)) (j:Nat),(N.map (·.1)).Nodup->(N.map (·.1))[j]? =some key->e.length=N.length->
     (((e.eraseIdx j).zip (N.eraseIdx j)).filter λp=> !seen.contains p.1.born).map (·.2.1)=(((e.zip N).filter λp=> !seen.contains p.1.born).map (·.2.1)).filter λk=>decide (k≠key):=by
    intro e
    induction e with
    |nil=>intro N j d g c;cases N<;>simp_all
    |cons a e ih=>
     intro N j d g c
     cases N with
     |nil=>simp at c
     |cons p N=>
      simp only[aaB,aa5]at d
      simp only[aaW,abB]at c
      cases j with
      |zero=>
       simp at g
       have z:key∉N.map (·.1):=g▸d.1
       have:=o e N seen z
       simp only[List.eraseIdx_cons_zero,abE,aaO]
       split
       ·simp only[aaB,aaO,g,ne_eq,not_true,aaX,aaD,aaC];exact this.symm
       ·exact this.symm
      |succ j=>
       simp only[aaB,aaR]at g
       have A:p.1≠key:=λe=>d.1 (e▸aaV g)
       have:=ih N j d.2 g c
       simp only[List.eraseIdx_cons_succ,abE,aaO]
       split
       ·simp only[aaB,aaO,A,ne_eq,abf,decide_true,aaE,this]
       ·exact this
   exact D _ _ _ h.nd n h.fH.length
theorem aM.delete{t t2 kt q:TypeId}{x y:Operand}{key:κ}(h:MS encK encV mp M T) [Q:dQ H T upd] [ut:bL P t (.map kt q)] [L:eC P kt encK](I:ev env x=some mp)(J:ev env y=some (encK key))
  (F:∀T',MS encK encV mp (fb key M) T'->(∀it todo Ti,It (sg T) encK encV mp M it todo Ti->It (sg T') encK encV mp (fb key M) it (todo.filter λk=>decide (k≠key)) Ti)->aM false P N R ops l env (upd T') K):
  aM false P N R ops (⟨none,.call ⟨.builtin .delete,#[x,y],#[t,t2]⟩,ty,pos,af,none⟩::l) env H K:=
 aM.kK λa w i s Y=>by
  obtain⟨b,p,c,rfl,rfl,B⟩:=h
  obtain⟨U,V,o,e⟩:=Q.h
  subst o
  have C:w.heap[b]? =some (.map p c):=s.2 (b,_) (by simp)
  obtain⟨d,G,j,D⟩:=Ge (P:=P) (key:=key) (ty:=ty) (t2:=t2) ut L C B
  obtain⟨f,O⟩:=jD (o':=.map d c) s
  refine⟨_,upd [(b,.map d c)],.inr ⟨.tuple #[],?_⟩,by rw[e];exact f,by rw[e];exact O,F _ ⟨b,d,c,rfl,rfl,j⟩ λit todo Ti E=>?_⟩
  ·simp[execOp,resolve,i.eval I,i.eval J,invoke,builtin,G]
  ·obtain⟨m,W,n,r,S,u,g,X,v,z,A⟩:=E
   simp only[sg,aa1,aaU,Obj.map.injEq]at g
   obtain⟨rfl,rfl,rfl⟩:=g
   exact⟨m,d,n,r,S,u,by simp[sg],j,v,z,by rw[A,D]⟩
omit [DecidableEq κ] in
theorem aM.range{d:Nat}{x:Operand}{t kt k:TypeId}{e:aA}(h:RM e encK encV mp M)(v:∀b o,e b o->Rx R H b o)(y:ev env x=some mp) [ut:bL P t (.map kt k)]
  (u:∀it Ti,It e encK encV mp M it (M.map (·.1)) Ti->aM false P N R ops l ((d,it)::env) (Ti::H) K)(q:Nat.blt d N=true:=by rfl):
  aM false P N R ops (⟨some d,.range t x,ty,pos,af,none⟩::l) env H K:=
 aM.kJ q λa w m s z=>by
  obtain⟨b,c,f,rfl,g,i⟩:=h
  have n:=kw s z _ _ (v _ _ g)
  refine⟨.pointer (some ⟨w.heap.size,0,none⟩),w.alloc (.mapIter (some b) f #[] f),_,?_,Frame.alloc w H _,Sat.alloc s _,u _ _ ⟨b,c,f,w.heap.size,#[],rfl,g,i,rfl,rfl,?_⟩⟩
  ·simp[execOp,m.eval y,Instr.range,run_underlying ut.h,gA n,newObj,Sem.run]
  ·have r:(c.toList.zip M).filter (λp=> !(#[]:Array Nat).contains p.1.born)=c.toList.zip M:=by
    rw[List.filter_eq_self];intro p _;simp
   rw[r]
   have A:=i.fH.length
   have:(c.toList.zip M).map (·.2)=M:=List.map_snd_zip (by omega)
   have j:=aaI (List.map (·.1)) this
   rw[List.map_map]at j
   exact j.symm
theorem aM.next{d:Nat}{x:Operand}{Rd:aA}{it:Value}{todo:List κ}{Ti:ay}(h:It Rd encK encV mp M it todo Ti) [sa:dQ H Ti upd](hrd:∀b o,Rd b o->Rx R H b o)(hx:ev env x=some it)
  (h0:todo=[]->aM false P N R ops l ((d,.tuple [.bool false].toArray)::env) H K)
  (hn:∀k u Ti',k∈todo->bX k M=some u->It Rd encK encV mp M it (todo.filter λk'=>decide (k'≠k)) Ti'->aM false P N R ops l ((d,.tuple [.bool true,encK k,encV u].toArray)::env) (upd Ti') K)(hd:Nat.blt d N=true:=by rfl):
  aM false P N R ops (⟨some d,.next x false,ty,pos,af,none⟩::l) env H K:=
 aM.kJ hd λa w ha s ro=>by
  obtain⟨b,es,clock,r,seen,rfl,h2,h3,rfl,rfl,h6⟩:=h
  obtain⟨H1,H2,e1,e2⟩:=sa.h
  have hb:=kw s ro _ _ (hrd _ _ h2)
  subst e1
  have hr:w.heap[r]? =some (.mapIter (some b) clock seen clock):=s.2 (r,_) (by simp)
  have hgi:(getObj r).run P w=.ok (.mapIter (some b) clock seen clock) w:=by simp[getObj,Sem.run,hr]
  have hl:=h3.fH.length
  have hbo:=h3.born
  -- what may come
  have hleft:es.filter (λe=> !seen.contains e.born)=((es.toList.filter λe=> !seen.contains e.born)).toArray:=by
   apply Array.toList_inj.1;rw[Array.toList_filter]
  have htodo:(es.toList.filter λe=> !seen.contains e.born).length=todo.length:=by
   rw[h6,abg]
   have:((es.toList.zip M).filter λp=> !seen.contains p.1.born).length=(((es.toList.zip M).map (·.1)).filter λe=> !seen.contains e.born).length:=by
    rw[List.filter_map,abg];rfl
   rw[this,List.map_fst_zip (by omega)]
  have hguard:(!seen.isEmpty&& !es.isEmpty&&es.all (λe=>decide (e.born≥clock)))=false:=by
   cases hes:es.toList with
   |nil=>
    have:es= #[]:=by simpa using hes
    simp[this]
   |cons e rest=>
    have h1:=hbo e (by rw[hes];simp)
    have:es.all (λe=>decide (e.born≥clock))=false:=by
     rw[<-Array.all_toList,hes]
     simp;omega
    rw[this,Bool.and_false]
  have hold:(es.filter λe=> !seen.contains e.born).filter (λe=>decide (e.born<clock))=es.filter λe=> !seen.contains e.born:=by
   rw[Array.filter_eq_self]
   intro e he
   have:=hbo e (by simpa using(abq.1 he).1)
   simpa using this
  have hnew:(es.filter λe=> !seen.contains e.born).filter (λe=>decide (e.born≥clock))= #[]:=by
   rw[Array.filter_eq_empty_iff]
   intro e he
   have:=hbo e (by simpa using(abq.1 he).1)
   simpa using this
  by_cases ht:todo=[]
  ·refine⟨.tuple #[.bool false],w,_,?_,Frame.refl _ _,s,h0 ht⟩
   have he:es.filter (λe=> !seen.contains e.born)= #[]:=by
    rw[hleft]
    have:(es.toList.filter λe=> !seen.contains e.born)=[]:=abc (by rw[htodo,ht];rfl)
    rw[this]
   have hc:(choose (.mapNext 1)).run P w=.ok 0 w:=by simp[choose,Sem.run,Question.forced]
   simp only[execOp,ha.eval hx,Instr.next,Sem.run_bind,hgi,gA hb,Result.andThen_ok,hguard,aaD,aaC,he]
   simp[hc]
  ·have hne:(es.filter λe=> !seen.contains e.born).isEmpty=false:=by
    rw[hleft]
    cases hf:(es.toList.filter λe=> !seen.contains e.born)with
    |nil=>rw[hf]at htodo;exact absurd (abc htodo.symm) ht
    |cons _ _=>rfl
   have hpos:0<todo.length:=List.length_pos_iff.2 ht
   have hsz:(es.filter λe=> !seen.contains e.born).size=todo.length:=by rw[hleft];simpa using htodo
   obtain⟨n,w1,hc,hlt,hw1⟩:∃n w1,(choose (.mapNext todo.length)).run P w=.ok n w1/\n<todo.length/\∃q,w1={w with drawn:=q}:=by
    by_cases h1:todo.length<=1
    ·exact⟨0,w,by simp[choose,Sem.run,Question.forced,h1],hpos,w.drawn,rfl⟩
    ·exact⟨_,_,by simp only[choose,Sem.run,Question.forced,h1,aaX,aaD,aaC];rfl,by simp only[Question.cut];exact Nat.mod_lt _ hpos,_,rfl⟩
   obtain⟨q,rfl⟩:=hw1
   have hn':n<(es.toList.filter λe=> !seen.contains e.born).length:=by rw[htodo];exact hlt
   generalize he:(es.toList.filter λe=> !seen.contains e.born)[n]=e
   have hem:e∈es.toList.filter λe=> !seen.contains e.born:=he▸abr hn'
   obtain⟨hes,hns⟩:=abi.1 hem
   obtain⟨j,hj,hje⟩:=aaY.1 hes
   have hjM:j<M.length:=by omega
   have hpair:(e.key,e.val)=(encK M[j].1,encV M[j].2):=by
    have:=aaI (λl:List (Value×Value)=>l[j]?) h3.fH
    simp only[aaJ,aaL hj,aaL hjM,aaK,aa4,hje]at this
    exact this
   injection hpair with hp1 hp2
   have hzip:(e,M[j])∈es.toList.zip M:=by
    refine aaY.2 ⟨j,by rw[abt];omega,?_⟩
    simp only[abu,hje]
   have hkt:M[j].1∈todo:=by
    rw[h6]
    exact aaM.2 ⟨(e,M[j]),abi.2 ⟨hzip,hns⟩,rfl⟩
   have hget:bX M[j].1 M=some M[j].2:=gz h3.nd (abr hjM)
   have hrun:(execOp a.eval ⟨some d,.next x false,ty,pos,af,none⟩).run P w=.ok (.value (.tuple #[.bool true,e.key,e.val])) (dp {w with drawn:=q} r (.mapIter (some b) clock (seen.push e.born) clock)):=by
    have hcand:∀(A:Array MapEntry),A.isEmpty=false->(if A.isEmpty=true then #[none]else #[])++(A++ #[]).map some=A.map some:=λA hA=>by simp[hA]
    have hget2:((es.filter λe=> !seen.contains e.born).map some)[n]? =some (some e):=by
     rw[hleft]
     simp only[List.map_toArray,aaH,aaJ,aaL hn',he,aaK]
    have hset:(setObj r (.mapIter (some b) clock (seen.push e.born) clock)).run P {w with drawn:=q}=.ok () (dp {w with drawn:=q} r (.mapIter (some b) clock (seen.push e.born) clock)):=by
     have:({w with drawn:=q}:World).heap[r]? =some (.mapIter (some b) clock seen clock):=hr
     simp[setObj,Sem.run,this,dp]
    simp only[execOp,ha.eval hx,Instr.next,Sem.run_bind,hgi,gA hb,Result.andThen_ok,hguard,aaD,aaC,hold,hnew]
    rw[hcand _ hne]
    simp only[Array.size_map,hsz,hc,Result.andThen_ok,hget2,Sem.run_bind,hset,Sem.run_pure]
   obtain⟨f,s'⟩:=jD (w:={w with drawn:=q}) (o':=.mapIter (some b) clock (seen.push e.born) clock) (s.drew q)
   refine⟨_,_,upd [(r,.mapIter (some b) clock (seen.push e.born) clock)],hrun,by rw[e2];exact(Frame.drew w _ q).trans f,by rw[e2];exact s',?_⟩
   rw[hp1,hp2]
   refine hn M[j].1 M[j].2 _ hkt hget ⟨b,es,clock,r,seen.push e.born,rfl,h2,h3,rfl,rfl,?_⟩
   rw[h6]
   -- the one that came is no more to come, all others are
   have key:∀(l:List (MapEntry×(κ×β))),(∀p∈l,(p.1.born=e.born↔p.2.1=M[j].1))->
     ((l.filter λp=> !seen.contains p.1.born).map (·.2.1)).filter (λk'=>decide (k'≠M[j].1))=(l.filter λp=> !(seen.push e.born).contains p.1.born).map (·.2.1):=by
    intro l
    induction l with
    |nil=>intro _;rfl
    |cons p l ih=>
     intro hp
     have h1:=hp p (by simp)
     have h2:=ih λq hq=>hp q (by simp[hq])
     simp only[abv]at h2
     simp only[aaO,abv]
     by_cases hc:seen.contains p.1.born=true
     ·simp only[hc,aa3,aaD,aaC,Bool.true_or];exact h2
     ·simp only[Bool.not_eq_true]at hc
      simp only[hc,aaZ,aaE,Bool.false_or,aaB,aaO]
      by_cases hb:p.1.born=e.born
      ·have:=h1.1 hb
       simp only[this,ne_eq,not_true,aaX,aaD,aaC,hb,abA,aa3];simpa only[ne_eq]using h2
      ·have hk:¬p.2.1=M[j].1:=λhk=>hb (h1.2 hk)
       have hb':(p.1.born==e.born)=false:=by simpa using hb
       simp only[hk,ne_eq,abf,decide_true,aaE,hb',aaZ,aaB]
       exact aaI _ (by simpa only[ne_eq]using h2)
   refine key _ λp hp=>?_
   obtain⟨i,hi,hpi⟩:=aaY.1 hp
   have hi':i<es.toList.length:=by simp only[abt]at hi;omega
   have hiM:i<M.length:=by omega
   rw[abu]at hpi
   subst hpi
   simp only
   constructor
   ·intro hb
    have:i=j:=(abw (h:=h3.eW) (i:=i) (j:=j) (h₀:=by simpa using hi') (h₁:=by simpa using hj)).1 (by rw[aaP,aaP,hb,hje])
    subst this;rfl
   ·intro hk
    have:i=j:=(abw (h:=h3.nd) (i:=i) (j:=j) (h₀:=by simpa using hiM) (h₁:=by simpa using hjM)).1 (by rw[aaP,aaP];exact hk)
    subst this;rw[hje]
end
end
section
def marked(n:Nat):List Nat->Array Bool
 |[]=>Array.replicate n false
 |i::d=>(marked n d).setIfInBounds i true
def mE(Q':Act->World->Prop):Exit->Act->World->Prop
 | .normal,a,w=>Q' a w
 |_,_,_=>False
structure gE(ops:Array Oper)(listed:Array Bool):Prop where
 size:listed.size=ops.size
 cl:∀j oj,ops[j]? =some oj->listed.getD j false=true->∀e∈oj.after,Region.binds .any e=true->listed.getD e.on false=true
theorem gE.set{b:Array Oper}{a:Array Bool}{i:Nat}(h:gE b a)(n:i∈Region.ready .any b a):gE b (a.setIfInBounds i true):=by
 obtain⟨_,p,o,m⟩:=mem_ready.1 n
 refine⟨by simp[h.size],λj l g k e d c=>?_⟩
 by_cases f:i=j
 ·subst f
  have:l=p:=Option.some.inj (g.symm.trans o)
  subst this
  exact getD_set_true (m e d c)
 ·rw[getD_set_ne false f]at k
  exact getD_set_true (h.cl j l g k e d c)
def lD(ops:Array Oper):Nat->Nat->Nat->Bool
 |0,_,_=>false
 |f+1,k,i=>match ops[k]? with
  |some o=>o.after.any λe=>Region.binds .any e&&(Nat.beq e.on i||lD ops f e.on i)
  |none=>false
theorem gE.waits{c:Array Oper}{b:Array Bool}(h:gE c b){i:Nat}:∀(f k:Nat),lD c f k i=true->b.getD k false=true->b.getD i false=true
 |0,k,hw,_=>by simp[lD]at hw
 |f+1,k,hw,hk=>by
  unfold lD at hw
  cases ho:c[k]? with
  |none=>simp[ho]at hw
  |some o=>
   simp only[ho]at hw
   obtain⟨e,g,a⟩:=Array.any_eq_true'.1 hw
   simp only[abF,Bool.or_eq_true]at a
   have d:=h.cl k o ho hk e g a.1
   rcases a.2 with h3|h3
   ·rwa [Nat.eq_of_beq_eq_true h3]at d
   ·exact h.waits f e.on h3 d
def nK(listed listed':Array Bool):Prop:=∀j,listed.getD j false=true->listed'.getD j false=true
def mx(P:Program)(ops:Array Oper)(Q:Exit->Act->World->Prop)(S:Array Bool->World->Prop):Nat->Array Bool->Act->World->Prop
 |0,listed,a,w=>Region.ready .any ops listed=[]/\Q .normal a w
 |fuel+1,listed,a,w=>
  (Region.ready .any ops listed=[]->Q .normal a w)/\
  ∀i∈Region.ready .any ops listed,wpOp P ops Q i (λa' w'=>S (listed.setIfInBounds i true) w'/\mx P ops Q S fuel (listed.setIfInBounds i true) a' w') a w
theorem o4{P:Program}{b:Array Oper}{Q:Exit->Act->World->Prop}{S:Array Bool->World->Prop}:∀(fuel:Nat) (listed:Array Bool) (a:Act) (w:World),mx P b Q S fuel listed a w->wpAny P .any b Q fuel listed a w
 |0,_,_,_,h=>h
 |fuel+1,_,_,_,h=>⟨h.1,λi e=>wpOp_mono (λc f d=>o4 fuel _ c f d.2) (h.2 i e)⟩
def gi(P:Program)(ops:Array Oper)(S:Array Bool->World->Prop)(listed:Array Bool)(i:Nat)(o:Oper)(v:Value)(a:Act):Prop:=
 (Region.wanted o (yielded ops a.tmps)=true/\∀l',nK listed l'->gE ops l'->l'.getD i true=false->∀w,S l' w->(execOp a.eval o).run P w=.ok (.value v) w)\/
 (Region.wanted o (yielded ops a.tmps)=false/\v=undef)
section
variable{P:Program}{ops:Array Oper}{Q:Exit->Act->World->Prop}{S:Array Bool->World->Prop}
theorem gi.sup{c b:Array Bool}{i:Nat}{o:Oper}{v:Value}{a:Act}(h:gi P ops S c i o v a)(m:nK c b):gi P ops S b i o v a:=
 h.imp (λ⟨d,e⟩=>⟨d,λp l f g w n=>e p (λj k=>l j (m j k)) f g w n⟩) id
theorem gi.of_same{c:Array Bool}{i:Nat}{o:Oper}{v:Value}{a b:Act}(f:gi P ops S c i o v a)(d:execOp b.eval o=execOp a.eval o)
  (e:Region.wanted o (yielded ops b.tmps)=Region.wanted o (yielded ops a.tmps)):gi P ops S c i o v b:=by
 unfold gi at *
 rw[d,e]
 exact f
theorem gi.wpOp{i:Nat}{o:Oper}{v:Value}{a:Act}{b:Array Bool}(f:ops[i]? =some o)(k:gi P ops S b i o v a)(e:gE ops b)(g:b.getD i true=false)
  {K:Act->World->Prop}{w:World}(d:S b w)(h:K (a.put o.dst v) w):wpOp P ops Q i K a w:=by
 unfold Go.wpOp
 simp only[f]
 rcases k with⟨c,j⟩|⟨c,rfl⟩
 ·simp only[c,aaE,Oper.wp,j b (λ_ h=>h) e g w d,Oper.upon];exact .inl h
 ·simp only[c,aaD,aaC];exact h
theorem HD{i j:Nat}{g k:Oper}{v:Value}{q:Array Bool}(D:ops[j]? =some k)(C:g.apart ops k=true)
  (F:∀cs b,g.op≠ .select cs b)(B:∀cs b,k.op≠ .select cs b)
  (z:∀c a w,Q (.panic c) (a.put g.dst v) w->Q (.panic c) a w){K:Act->World->Prop}{a:Act}{w:World}
  (l:gi P ops S q i g v a)(h:wpOp P ops Q j K (a.put g.dst v) w):
  wpOp P ops Q j (λa' w'=>gi P ops S q i g v a'/\K (a'.put g.dst v) w') a w:=by
 obtain⟨s,m,y⟩:=Oper.apart_spec C
 have o:∀(a:Act),gi P ops S q i g v a->∀u,gi P ops S q i g v (a.put k.dst u):=λa l u=>
  l.of_same (execOp_put g F a k.dst u y) (wanted_put g a k.dst u y)
 have G:∀d,gi P ops S q i g v {a with defers:=d::a.defers}:=λd=>l.of_same rfl rfl
 unfold Go.wpOp at *
 simp only[D]at *
 rw[wanted_put k a g.dst v s]at h
 split
 ·rename_i t
  simp only[t,aaE]at h
  rcases h with h|⟨A,E⟩
  case inr=>exact .inr ⟨by unfold Oper.asks at *;rw[execOp_put k B a g.dst v s]at A;exact A,E⟩
  refine .inl ?_
  unfold Oper.wp at *
  rw[execOp_put k B a g.dst v s]at h
  generalize (execOp a.eval k).run P w=r at *
  cases r with
  |ok n w'=>
   cases n<;>simp only[Oper.upon]at h⊢
   case value u=>exact⟨o a l u,by rw[<-Act.put_comm a v u m];exact h⟩
   case skip=>exact⟨o a l _,by rw[<-Act.put_comm a v undef m];exact h⟩
   case defer d=>
    refine⟨o _ (G d) _,?_⟩
    rw[<-Act.put_comm _ v undef m, <-Act.put_defers]
    exact h
   case enter f args=>
    refine Calls.mono h λe H p=>?_
    cases e with
    |returned u=>exact⟨o a l u,by rw[<-Act.put_comm a v u m];exact p⟩
    |panicked c=>exact z _ _ _ p
    |outgrown=>exact p
   case row row args=>exact Rows.mono h λu H p=>⟨o a l u,by rw[<-Act.put_comm a v u m];exact p⟩
  |halt x w'=>
   cases x<;>simp only[Oper.upon]at h⊢
   case panic u=>exact z _ _ _ h
 ·rename_i t
  simp only[t]at h
  exact⟨o a l _,by rw[<-Act.put_comm a v undef m];exact h⟩
theorem HC{i:Nat}{m:Oper}{v:Value}(y:∀l w,S (l.setIfInBounds i true) w↔S l w)(u:ops[i]? =some m)(G:∀(j:Nat) (o:Oper) cs b,ops[j]? =some o->o.op≠ .select cs b)
  (N:∀c a w,Q (.panic c) (a.put m.dst v) w->Q (.panic c) a w):
  ∀(fuel:Nat) (listed:Array Bool) (a:Act) (w:World),
   (∀j oj,ops[j]? =some oj->j≠i->listed.getD j true=false->(∀e∈oj.after,Region.binds .any e=true->e.on≠i)->m.apart ops oj=true)->
   i∈Region.ready .any ops listed->gE ops listed->gi P ops S listed i m v a->S listed w->
   mx P ops Q S fuel (listed.setIfInBounds i true) (a.put m.dst v) w->mx P ops Q S (fuel+1) listed a w:=by
 intro fuel
 induction fuel with
 |zero=>
  intro listed a w _ d s t n H
  refine⟨λh=>(by rw[h]at d;cases d),λj p=>?_⟩
  by_cases f:j=i
  ·subst f;exact t.wpOp u s (mem_ready.1 d).1 n ⟨(y _ _).2 n,H⟩
  ·have:=ready_mono p f
   rw[H.1]at this
   cases this
 |succ fuel ih=>
  intro listed a w D d s t n H
  refine⟨λh=>(by rw[h]at d;cases d),λj p=>?_⟩
  by_cases f:j=i
  ·subst f;exact t.wpOp u s (mem_ready.1 d).1 n ⟨(y _ _).2 n,H⟩
  ·have g:=H.2 j (ready_mono p f)
   obtain⟨F,oj,x,O⟩:=mem_ready.1 p
   have a0:∀e∈oj.after,Region.binds .any e=true->e.on≠i:=λe U T V=>by
    have g:=O e U T
    have z:=(mem_ready.1 d).1
    rw[V]at g
    rcases aaQ i listed.size with h'|h'
    ·simp[h']at z g;rw[z]at g;cases g
    ·simp[Array.getElem?_eq_none h']at g
   have K:=HD x (D j oj x f F a0) (λcs b=>G i m cs b u) (λcs b=>G j oj cs b x) N t g
   have W:∀k r,ops[k]? =some r->k≠i->(listed.setIfInBounds j true).getD k true=false->
     (∀e∈r.after,Region.binds .any e=true->e.on≠i)->m.apart ops r=true:=λk r X Y I Z=>by
    refine D k r X Y ?_ Z
    by_cases E:j=k
    ·subst E;exact F
    ·rw[getD_set_ne true E]at I;exact I
   have a1:nK listed (listed.setIfInBounds j true):=λq hq=>getD_set_true hq
   refine wpOp_mono (λJ w' L=>?_) K
   obtain⟨M,A,B⟩:=L
   rw[Array.setIfInBounds_comm _ _ (Ne.symm f)]at A B
   have C:=(y _ _).1 A
   exact⟨C,ih (listed.setIfInBounds j true) J w' W (ready_mono d (Ne.symm f)) (s.set p) (M.sup a1) C B⟩
end
def jq(R:aA)(Ho:aS)(Ms:List Nat)(l:Array Bool)(w:World):Prop:=
 (∀b o,R b o->w.heap[b]? =some o)/\((∀k∈Ms,l.getD k false=false)->Sat w Ho/\RO w R Ho)
theorem jq.same{R:aA}{c:aS}{b:List Nat}{i:Nat}(f:b.contains i=false)(l:Array Bool)(w:World):jq R c b (l.setIfInBounds i true) w↔jq R c b l w:=by
 have d:∀k∈b,i≠k:=λk a e=>by subst e;simp[a]at f
 unfold jq
 refine and_congr_right λ_=>?_
 have:(∀k∈b,(l.setIfInBounds i true).getD k false=false)↔∀k∈b,l.getD k false=false:=⟨λh k a=>by have:=h k a;rwa [getD_set_ne false (d k a)]at this,λh k a=>by rw[getD_set_ne false (d k a)];exact h k a⟩
 rw[this]
class iE(A B:aS):Prop where h:∃G:ay,B.flatten.Perm (A.flatten++G)
instance iE.refl(A:aS):iE A A:=⟨⟨[],by simp⟩⟩
instance iE.cons(A B:aS)(T:ay) [s:iE A B]:iE A (T::B):=⟨by
 obtain⟨G,h⟩:=s.h
 refine⟨T++G,?_⟩
 rw[aa9]
 refine(h.append_left T).trans ?_
 rw[<-aaG, <-aaG]
 exact abj.append_right _⟩
theorem iE.sat{A B:aS}(s:iE A B){w:World}(h:Sat w B):Sat w A:=bV.sat s.h h
theorem iE.ro{A B:aS}(s:iE A B){w:World}{R:aA}(h:RO w R B):RO w R A:=λb o a=>⟨(h b o a).1,λp d=>by
 obtain⟨G,c⟩:=s.h
 exact(h b o a).2 p (c.mem_iff.2 (abG _ d))⟩
def RA(P:Program)(N:Nat)(R:aA)(ops:Array Oper)(Ho:aS)(Ms:List Nat)(done:List Nat)(env:Env)(H:aS)(K:Env->aS->Prop):Prop:=
 ∀(Q':Act->World->Prop) (w0:World) (H0:aS),(∀env' H' a' w',K env' H'->St N R a' w' env' H' w0 H0->Q' a' w')->
  gE ops (marked ops.size done)->∀a w,St N R a w env H w0 H0->jq R Ho Ms (marked ops.size done) w->mx P ops (mE Q') (jq R Ho Ms) (ops.size-done.length) (marked ops.size done) a w
section
variable{P:Program}{N:Nat}{R:aA}{ops:Array Oper}{l:List Oper}{env:Env}{H Ho:aS}{Ms:List Nat}{K:Env->aS->Prop}{Q:Exit->Env->aS->Prop}{m:Bool}{done:List Nat}
theorem St.lY{a:Act}{w c:World}{b:aS}(is:List Nat)(s:St N R a w env H c b):St N (Rx R (rest is H)) a w env (take is H) w (take is H):=
 ⟨s.defers,s.size,s.env,(jQ s.sat).1,RO.split s.sat s.ro,Frame.refl _ _⟩
theorem St.back{a d:Act}{w g h:World}{c H':aS}{e:Env}(is:List Nat)(s:St N R a w env H h c)(b:St N (Rx R (rest is H)) d g e H' w (take is H)):St N R d g e (H'++rest is H) h c:=by
 obtain⟨i,f⟩:=ls s.sat b.sat b.fr
 exact⟨b.defers,b.size,b.env,i,s.ro.frame f,s.fr.trans f⟩
theorem aM.lY(is:List Nat)(h:aM m P N (Rx R (rest is H)) ops l env (take is H) λenv' H'=>K env' (H'++rest is H)):aM m P N R ops l env H K:=λb j f c a w s=>
 h b w (take is H) (λenv' H' g i d e=>c _ _ _ _ d (s.back is e)) a w (s.lY is)
theorem gE.none(b:Array Oper):gE b (marked b.size []):=⟨by simp[marked],λj d c a=>by
 simp only[marked,Array.getD_eq_getD_getElem?,Array.getElem?_replicate]at a
 split at a<;>simp at a⟩
theorem bp.F1{id:Nat}(is:List Nat)(i:List Nat)(q:P.follows .mixedOrders=true)(h:RA P N (Rx R (rest is H)) l.toArray (take is H) i [] env (take is H) λenv' H'=>Q .normal env' (H'++rest is H)):bp P N R (.region id l.toArray true) env H Q:=
 λj t g m a w s=>by
  have f:St N R a {w with drawn:=w.drawn+1} env H t g:=s.step (Frame.drew w H _) (s.sat.drew _)
  have c:=f.lY is
  have k:=h (j .normal) _ _ (λenv' H' u v p r=>m _ _ _ _ _ p (f.back is r)) (gE.none _) a _ c ⟨λb o n=>(c.ro b o n).1,λ_=>⟨c.sat,c.ro⟩⟩
  refine wp_mono (wp_region_any q (o4 _ _ _ _ k)) λe a w d=>?_
  cases e with
  |normal=>exact d
  |_=>exact d.elim
theorem bp.bF{id:Nat}(g:List Nat)(p:P.follows .mixedOrders=true)(h:RA P N R l.toArray H g [] env H (Q .normal)):bp P N R (.region id l.toArray true) env H Q:=
 λi r f k a w s=>by
  have c:St N R a {w with drawn:=w.drawn+1} env H r f:=s.step (Frame.drew w H _) (s.sat.drew _)
  have j:=h (i .normal) _ _ (λv t u x n q=>k _ _ _ _ _ n q) (gE.none _) a _ c ⟨λb o m=>(c.ro b o m).1,λ_=>⟨c.sat,c.ro⟩⟩
  refine wp_mono (wp_region_any p (o4 _ _ _ _ j)) λe a w d=>?_
  cases e with
  |normal=>exact d
  |_=>exact d.elim
theorem RA.nil(c:Region.ready .any ops (marked ops.size done)=[])(h:K env H):RA P N R ops Ho Ms done env H K:=λe f d b _ a w s _=>by
 cases ops.size-done.length with
 |zero=>exact⟨c,b _ _ _ _ h s⟩
 |succ n=>exact⟨λ_=>b _ _ _ _ h s,by rw[c];simp⟩
def tk(own:Bool)(ops:Array Oper)(Ms done:List Nat)(i:Nat):Bool:=
 Region.noSelect ops&&Region.free .any ops (marked ops.size done) i&&(Region.ready .any ops (marked ops.size done)).contains i&&Nat.blt done.length ops.size&& !Ms.contains i&&(!own||Ms.all λk=>lD ops ops.size k i)
theorem RA.mu{dst:Option Nat}{op:Op}{ty:TypeId}{e:String}{d:Array Edge}{g:Option (Nat×Bool)}{v:Value}(u:Bool)(i:Nat)(q:ops[i]? =some ⟨dst,op,ty,e,d,g⟩)
  (U:∀a,dy a env->(Region.wanted ⟨dst,op,ty,e,d,g⟩ (yielded ops a.tmps)=true/\∀w,(∀b o,R b o->w.heap[b]? =some o)->(u=true->Sat w Ho/\RO w R Ho)->(execOp a.eval ⟨dst,op,ty,e,d,g⟩).run P w=.ok (.value v) w)\/
   (Region.wanted ⟨dst,op,ty,e,d,g⟩ (yielded ops a.tmps)=false/\v=undef))
  (m:tk u ops Ms done i=true)
  (J:∀a w w0 H0,St N R a w env H w0 H0->∃env',St N R (a.put dst v) w env' H w0 H0/\RA P N R ops Ho Ms (i::done) env' H K):RA P N R ops Ho Ms done env H K:=λx w0 H0 E n a w s p=>by
 simp only[tk,abF]at m
 obtain⟨⟨⟨⟨⟨y,z⟩,A⟩,B⟩,C⟩,D⟩:=m
 have X:done.length<ops.size:=aaN B
 have G:ops.size-done.length=(ops.size-(i::done).length)+1:=by simp only[aaW];omega
 have j:Ms.contains i=false:=by simpa using C
 have h:i∈Region.ready .any ops (marked ops.size done):=by simpa using A
 rw[G]
 obtain⟨env',V,L⟩:=J a w w0 H0 s
 refine HC (λl w=>jq.same j l w) q (Region.noSelect_spec y) (λc a w O=>O.elim) _ _ a w (Region.free_spec q z) h n ?_ p (L x w0 H0 E (n.set h) _ w V ((jq.same j _ _).2 p))
 refine(U a s.env).imp (λ⟨S,Q⟩=>⟨S,λt _ F f W r=>Q W r.1 λM=>r.2 λk I=>?_⟩) id
 subst M
 have T:lD ops ops.size k i=true:=by
  have:=D
  simp only[aa3,Bool.false_or]at this
  exact List.all_eq_true.1 this k I
 cases hlk:t.getD k false with
 |false=>rfl
 |true=>
  have:=F.waits _ _ T hlk
  rcases aaQ i t.size with h'|h'
  ·simp[h']at this f;rw[this]at f;cases f
  ·simp[Array.getElem?_eq_none h']at this
theorem RA.take{d:Nat}{op:Op}{ty:TypeId}{e:String}{c:Array Edge}{v:Value}(i:Nat)(k:ops[i]? =some ⟨some d,op,ty,e,c,none⟩)(m:bd P R env [] op ty v)
  (h:tk false ops Ms done i=true)(l:RA P N R ops Ho Ms (i::done) ((d,v)::env) H K)(j:Nat.blt d N=true:=by rfl):RA P N R ops Ho Ms done env H K:=
 RA.mu false i k (λa f=>.inl ⟨by simp[Region.wanted],λw n _=>m a w (some d) e c none f ⟨by simp,by simp⟩ (λb o g=>⟨n b o g,by simp⟩)⟩) h
  λa w q p s=>⟨_,s.put v j,l⟩
theorem RA.cH{d:Nat}{op:Op}{ty:TypeId}{e:String}{b:Array Edge}{v:Value}(i:Nat)(j:ops[i]? =some ⟨some d,op,ty,e,b,none⟩)(l:bd P R env Ho op ty v)
  (g:tk true ops Ms done i=true)(k:RA P N R ops Ho Ms (i::done) ((d,v)::env) H K)(h:Nat.blt d N=true:=by rfl):RA P N R ops Ho Ms done env H K:=
 RA.mu true i j (λa f=>.inl ⟨by simp[Region.wanted],λw _ c=>l a w (some d) e b none f (c rfl).1 (c rfl).2⟩) g
  λa w n m s=>⟨_,s.put v h,k⟩
theorem RA.G4{d j t:Nat}{g:Bool}{op:Op}{ty:TypeId}{f:String}{b:Array Edge}{v:Value}(i:Nat)(l:ops[i]? =some ⟨some d,op,ty,f,b,some (j,g)⟩)(p:Env.get? env t=some (.bool g))(o:bd P R env Ho op ty v)
  (h:tk true ops Ms done i=true)(n:RA P N R ops Ho Ms (i::done) ((d,v)::env) H K)(m:gk ops j=some t:=by rfl)(k:Nat.blt d N=true:=by rfl):RA P N R ops Ho Ms done env H K:=
 RA.mu true i l (λa c=>.inl ⟨by simp[Region.wanted,nF c m p],λw _ e=>o a w (some d) f b _ c (e rfl).1 (e rfl).2⟩) h
  λa w r q s=>⟨_,s.put v k,n⟩
theorem RA.G3{d j t:Nat}{c b:Bool}{op:Op}{ty:TypeId}{q:String}{e:Array Edge}(i:Nat)(l:ops[i]? =some ⟨some d,op,ty,q,e,some (j,c)⟩)(p:Env.get? env t=some (.bool b))(g:(b==c)=false)
  (h:tk false ops Ms done i=true)(n:RA P N R ops Ho Ms (i::done) ((d,undef)::env) H K)(m:gk ops j=some t:=by rfl)(k:Nat.blt d N=true:=by rfl):RA P N R ops Ho Ms done env H K:=by
 have o:¬b=c:=by simpa using g
 exact RA.mu false i l (λa f=>.inr ⟨by simp[Region.wanted,nF f m p,o],rfl⟩) h
  λa w u r s=>⟨_,s.put undef k,n⟩
theorem Hm{o:Oper}{a:Act}{w:World}{f g:Act->World->Prop}{i:Act->World->Prop}{j:Exit->Act->World->Prop}(d:∀a w,f a w->g a w)(h:o.wp P a w f (mE i)):o.wp P a w g j:=by
 unfold Oper.wp at *
 generalize (execOp a.eval o).run P w=r at *
 cases r with
 |ok n w'=>
  cases n<;>simp only[Oper.upon]at h⊢ <;>first
   |exact d _ _ h
   |exact Calls.mono h (λe l b=>by
     cases e with
     |returned v=>exact d _ _ b
     |panicked c=>exact b.elim
     |outgrown=>obtain⟨a,w,k⟩:=b;exact k.elim)
   |exact Rows.mono h (λ_ _ b=>d _ _ b)
 |halt x w'=>cases x<;>simp only[Oper.upon]at h⊢ <;>exact h.elim
theorem RA.op{o:Oper}{a:Act}{w f:World}{b:aS}{i:Act->World->Prop}{c:Act->World->Prop}{g:Env->aS->Prop}(k:Nat)(d:ops[k]? =some o)(h:aM false P N R ops [o] env H g)
  (j:∀env' H' a' w',g env' H'->St N R a' w' env' H' f b->c a' w')(s:St N R a w env H f b):wpOp P ops (mE i) k c a w:=by
 have h1:=h (mE c) f b (λenv' H' a' w' d l=>j _ _ _ _ d l) a w s
 unfold wpOp
 simp only[d]
 simp only[wpList]at h1
 split
 ·rename_i e
  rw[aaA e]at h1
  rcases h1 with h1|⟨_,m,n,h1⟩
  ·exact .inl (Hm (λ_ _ h=>h) h1)
  ·exact h1.elim
 ·rename_i e
  rw[aaz e]at h1
  exact h1
theorem Ez{l:Array Bool}{i:Nat}(a:i<l.size):(l.setIfInBounds i true).getD i false=true:=by simp[a]
def Next(P:Program)(N:Nat)(R:aA)(ops:Array Oper)(Ho:aS)(Ms:List Nat)(done:List Nat)(K:Env->aS->Prop)(i:Nat)(env':Env)(H':aS):Prop:=
 (((i::done).any λk=>Ms.contains k&&Nat.blt k ops.size)=true\/iE Ho H')/\RA P N R ops Ho Ms (i::done) env' H' K
theorem q9(n:Nat):∀l,(marked n l).size=n
 |[]=>by simp[marked]
 |i::l=>by simp[marked,q9 n l]
theorem q8{n k:Nat}(a:k<n):∀{l:List Nat},k∈l->(marked n l).getD k false=true
 |i::l,h=>by
  rcases aaF.1 h with rfl|h
  ·exact Ez (by rw[q9];exact a)
  ·exact getD_set_true (q8 a h)
theorem Next.mod{i:Nat}(a:((i::done).any λk=>Ms.contains k&&Nat.blt k ops.size)=true)(h:RA P N R ops Ho Ms (i::done) env H K):Next P N R ops Ho Ms done K i env H:=⟨.inl a,h⟩
theorem Next.sub{i:Nat}(h:RA P N R ops Ho Ms (i::done) env H K)(a:iE Ho H:=by infer_instance):Next P N R ops Ho Ms done K i env H:=⟨.inr a,h⟩
theorem RA.sx(is:List Nat)(j:Region.ready .any ops (marked ops.size done)=is)(A:is≠[])(z:Nat.blt done.length ops.size=true)
  (h:∀i∈is,∃o,ops[i]? =some o/\aM false P N R ops [o] env H (Next P N R ops Ho Ms done K i)):RA P N R ops Ho Ms done env H K:=λn E m t x a w s I=>by
 have J:done.length<ops.size:=aaN z
 have y:∀i,ops.size-done.length=(ops.size-(i::done).length)+1:=λi=>by simp only[aaW];omega
 rw[y 0]
 refine⟨λr=>absurd (j▸r) A,λk f=>?_⟩
 obtain⟨o,C,u⟩:=h k (j▸f)
 refine RA.op k C u (λG F p l g c=>?_) s
 have e:jq R Ho Ms ((marked ops.size done).setIfInBounds k true) l:=by
  refine⟨λb o v=>(c.ro b o v).1,λB=>?_⟩
  rcases g.1 with hm|hs
  ·obtain⟨q,D,hm⟩:=List.any_eq_true.1 hm
   simp only[abF]at hm
   have d:=B q (by simpa using hm.1)
   rw[show(marked ops.size done).setIfInBounds k true=marked ops.size (k::done)from rfl,q8 (aaN hm.2) D]at d
   cases d
  ·exact⟨hs.sat c.sat,hs.ro c.ro⟩
 exact⟨e,g.2 n E m t (x.set f) p l c e⟩
theorem RA.step{o:Oper}(i:Nat)(a:ops[i]? =some o)(d:Region.ready .any ops (marked ops.size done)=[i])(c:Nat.blt done.length ops.size=true)
  (h:aM false P N R ops [o] env H (Next P N R ops Ho Ms done K i)):RA P N R ops Ho Ms done env H K:=
 RA.sx [i] d (by simp) c λk b=>by
  obtain rfl:k=i:=by simpa using b
  exact⟨o,a,h⟩
theorem RA.GR{a b:Oper}(i j:Nat)(e:ops[i]? =some a)(f:ops[j]? =some b)(h:Region.ready .any ops (marked ops.size done)=[i,j])(g:Nat.blt done.length ops.size=true)
  (c:aM false P N R ops [a] env H (Next P N R ops Ho Ms done K i))(d:aM false P N R ops [b] env H (Next P N R ops Ho Ms done K j)):RA P N R ops Ho Ms done env H K:=
 RA.sx [i,j] h (by simp) g λk hk=>by
  rcases aaF.1 hk with rfl|hk
  ·exact⟨a,e,c⟩
  ·obtain rfl:k=j:=by simpa using hk
   exact⟨b,f,d⟩
end
section
variable{P:Program}{N:Nat}{R:aA}{ops:Array Oper}{l:List Oper}{env:Env}{H:aS}{K:Env->aS->Prop}{Q:Exit->Env->aS->Prop}{m:Bool}{ty:TypeId}
theorem aM.gT{j t:Nat}{b d:Bool}{dst:Option Nat}{op:Op}{ty:TypeId}{c:String}{a:Array Edge}(e:b=d)(g:aM m P N R ops (⟨dst,op,ty,c,a,none⟩::l) env H K)(f:gk ops j=some t:=by rfl)(h:Env.get? env t=some (.bool b):=by rfl):
  aM m P N R ops (⟨dst,op,ty,c,a,some (j,d)⟩::l) env H K:=aM.gt (by rw[h,e]) g f
theorem aM.gF{j t d:Nat}{b a:Bool}{op:Op}{ty:TypeId}{k:String}{c:Array Edge}(e:b= !a)(h:aM m P N R ops l ((d,undef)::env) H K)(g:gk ops j=some t:=by rfl)(i:Env.get? env t=some (.bool b):=by rfl)(f:Nat.blt d N=true:=by rfl):
  aM m P N R ops (⟨some d,op,ty,k,c,some (j,a)⟩::l) env H K:=aM.gf i (by subst e;cases a<;>rfl) h g f
theorem aM.split{t:Nat}{b:Bool}(d:Env.get? env t=some (.bool b))(c:b=true->aM m P N R ops l env H K)(a:b=false->aM m P N R ops l env H K):aM m P N R ops l env H K:=by
 cases b
 ·exact a rfl
 ·exact c rfl
theorem bd.bu{c x y:Operand}{b:Bool}{u:Value}(a:b=true)(d:ev env c=some (.bool b):=by rfl)(e:ev env x=some u:=by rfl):bd P R env H (.pick c x y) ty u:=by
 subst a;exact bd.ed d e
theorem bd.bq{c x y:Operand}{b:Bool}{v:Value}(a:b=false)(d:ev env c=some (.bool b):=by rfl)(e:ev env y=some v:=by rfl):bd P R env H (.pick c x y) ty v:=by
 subst a;exact bd.dv d e
theorem bp.dG{c:Operand}{x y:Code}(h:bp P N R x env H Q)(a:ev env c=some (.bool true):=by rfl):bp P N R (.cond c x y) env H Q:=bp.cond a (λ_=>h) (λh=>by cases h)
theorem bp.bB{c:Operand}{x y:Code}(h:bp P N R y env H Q)(a:ev env c=some (.bool false):=by rfl):bp P N R (.cond c x y) env H Q:=bp.cond a (λh=>by cases h) (λ_=>h)
theorem RA.split{e:Array Oper}{a:aS}{c d:List Nat}{t:Nat}{b:Bool}(h:Env.get? env t=some (.bool b))(g:b=true->RA P N R e a c d env H K)(f:b=false->RA P N R e a c d env H K):RA P N R e a c d env H K:=by
 cases b
 ·exact f rfl
 ·exact g rfl
def oh{X:Type}(I:X->Prop)(e:X->Env)(h:X->aS)(Q:Exit->Env->aS->Prop):Exit->Env->aS->Prop
 | .normal,env,H=>∃x,I x/\eu env (e x)/\bV H (h x)
 |ex,env,H=>Q ex env H
theorem bp.cut{X:Type}{c:Code}(I:X->Prop)(e:X->Env)(h:X->aS)(k:bp P N R c env H (oh I e h Q))(j:∀x,I x->Q .normal (e x) (h x)):bp P N R c env H Q:=λi p g b a w s=>
 k i p g (λl t q r u d f=>by
  cases l with
  |normal=>obtain⟨x,m,n,o⟩:=d;exact b _ _ _ _ _ (j x m) (f.le n o)
  |_=>exact b _ _ _ _ _ d f) a w s
theorem ax{X:Type}{I:X->Prop}{e:X->Env}{h:X->aS}(x:X)(a:I x)(b:eu env (e x))(c:bV H (h x)):oh I e h Q .normal env H:=⟨x,a,b,c⟩
theorem kZ{X:Type}{I:X->Prop}{e:X->Env}{h:X->aS}(a:Q .ret env H):oh I e h Q .ret env H:=a
theorem aN{X:Type}{I:X->Prop}{e:X->Env}{h:X->aS}{μ:X->Nat}{n:Nat}(x:X)(a:I x)(d:μ x<n)(b:eu env (e x))(c:bV H (h x)):mV (λenv' H'=>∃x',I x'/\μ x'<n/\eu env' (e x')/\bV H' (h x')) Q .normal env H:=⟨x,a,d,b,c⟩
theorem bd.inc{x y:Operand}{t u:TypeId}{n:Nat}(c:n<9223372036854775807)(a:ev env x=some (.int .i64 (n:Int)):=by rfl)(b:ev env y=some (.int .i64 1):=by rfl):bd P R env H (.binOp .add t x y u) ty (.int .i64 ((n+1:Nat):Int)):=by
 have h:=bd.add (P:=P) (R:=R) (H:=H) (ty:=ty) (t:=t) (u:=u) a b
 have:IntKind.i64.wrap ((n:Int)+1)=((n+1:Nat):Int):=by
  rw[IntWalk.i64_in _ (by omega)];omega
 rw[this]at h
 exact h
theorem aM.hole(h:aM m P N R ops l env H K):aM m P N R ops l env H K:=h
end
section
variable{P:Program}{N:Nat}{R:aA}{ops:Array Oper}{l:List Oper}{env:Env}{H:aS}{K:Env->aS->Prop}{Q:Exit->Env->aS->Prop}{m:Bool}{d:Nat}{ty:TypeId}{pos:String}{af:Array Edge}{x:Operand}
theorem aM.mo{v:Value}(h:ev env x=some v)(b:aM m P N R ops l ((d,v)::env) H K)(a:Nat.blt d N=true:=by rfl):aM m P N R ops (⟨some d,.move x,ty,pos,af,none⟩::l) env H K:=.q (.move h) b a
theorem aM.ag{v:Value}(h:ev env x=some v)(b:aM m P N R ops l ((d,v)::env) H K)(a:Nat.blt d N=true:=by rfl):aM m P N R ops (⟨some d,.assign x,ty,pos,af,none⟩::l) env H K:=.q (.assign h) b a
theorem aM.lo{t:TypeId}{p u:Value}{vs r:List Value}(e:ev env x=some p) [f:cC P t false] [rc:RC R H p vs](b:aM m P N R ops l ((d,u)::env) H K)(c:vs=u::r:=by rfl)(a:Nat.blt d N=true:=by rfl):aM m P N R ops (⟨some d,.load t x,ty,pos,af,none⟩::l) env H K:=.q (.bO e c) b a
theorem aM.nc{p:Value}{vs:List Value}(c:ev env x=some p) [rc:RC R H p vs](b:aM m P N R ops l ((d,p)::env) H K)(a:Nat.blt d N=true:=by rfl):aM m P N R ops (⟨some d,.nilCheck x,ty,pos,af,none⟩::l) env H K:=.q (.nilCheck c) b a
theorem aM.fa{s:TypeId}{f off:Nat}{p:Value}{vs:List Value}(c:ev env x=some p) [e:bf P s f off] [rc:RC R H p vs](b:aM m P N R ops l ((d,gj p off)::env) H K)(a:Nat.blt d N=true:=by rfl):aM m P N R ops (⟨some d,.fieldAddr s x f,ty,pos,af,none⟩::l) env H K:=.q (.fieldAddr c) b a
theorem aM.zn{y:Code}(h:bp P N R y env H Q):aM m P N R ops [] env H (ix P N R y Q .normal):=.nil (aD h)
theorem aM.zs{y z:Code}(h:bp P N R z env H (ix P N R y Q)):aM m P N R ops [] env H (ix P N R (.seq z y) Q .normal):=.nil (aD (.seq h))
theorem aM.z{y:Code}{id:Nat}(h:aM false P N R l.toArray l env H (ix P N R y Q .normal)):aM m P N R ops [] env H (ix P N R (.seq (.region id l.toArray false) y) Q .normal):=.nil (aD (.seq (.region h)))
theorem aM.gX{op:Op}{j t:Nat}{a b:Bool}(g:aM m P N R ops l ((d,undef)::env) H K)(f:gk ops j=some t:=by rfl)(h:Env.get? env t=some (.bool b):=by rfl)(c:(b==a)=false:=by rfl)(e:Nat.blt d N=true:=by rfl):aM m P N R ops (⟨some d,op,ty,pos,af,some (j,a)⟩::l) env H K:=.gf h c g f e
theorem aM.az{v:Value}{y:Code}(h:ev env x=some v)(b:bp P N R y ((d,v)::env) H Q)(a:Nat.blt d N=true:=by rfl):aM m P N R ops [⟨some d,.assign x,ty,pos,af,none⟩] env H (ix P N R y Q .normal):=.q (.assign h) (.nil (aD b)) a
theorem bp.sr{y:Code}{id:Nat}(h:aM false P N R l.toArray l env H (ix P N R y Q .normal)):bp P N R (.seq (.region id l.toArray false) y) env H Q:=.seq (.region h)
theorem bp.kn{y:Code}(h:bp P N R y env H Q):bp P N R .skip env H (ix P N R y Q):=.skip (aD h)
end
end
section
theorem PC.of{R:aA}{b:Nat}{vs:List Value}{E:TypeId}{fr:Nat×Nat}(h:R b (.cells vs.toArray E fr)):PC R (.pointer (some ⟨b,0,none⟩)) vs:=
 (RC.here (R:=R) (H:=[]) (b:=b) (vs:=vs) (E:=E) (fr:=fr)).h.mono λa o h'=>by
  rcases h' with h'|h'
  ·exact h'
  ·simp at h';obtain⟨rfl,rfl⟩:=h';exact h
instance PC.rc{R:aA}{H:aS}{p:Value}{vs:List Value} [h:RC R H p vs]:PC (Rx R H) p vs:=h.h
section
variable{P:Program}{N:Nat}{R R':aA}{ops:Array Oper}{l:List Oper}{env:Env}{H:aS}{K:Env->aS->Prop}{T:ay}{upd:ay->aS}
theorem Spec.at{f:FuncId}{m:List Value}{H1 H2:aS}{T:ay}{Post:Value->ay->Prop}(h:Spec P f m R' [T] λv H'=>∃T',H'=[T']/\Post v T')(C:∀b o,R' b o->R b o):Spec P f m R (H1++T::H2) λv H'=>∃T',H'=H1++T'::H2/\Post v T':=λw D s=>by
 have g:(H1++T::H2).flatten.Perm ([T]++(H1++H2)).flatten:=by
  simp only[aba,aa9,List.flatten_nil,aa6]
  rw[<-aaG, <-aaG]
  exact abj.append_right _
 have k:Sat w ([T]++(H1++H2)):=D.perm g
 have y:take [0] ([T]++(H1++H2))=[T]:=rfl
 have n:rest [0] ([T]++(H1++H2))=H1++H2:=rfl
 have F:RO w R ([T]++(H1++H2)):=λb o c=>⟨(s b o c).1,λp d=>(s b o c).2 p (g.mem_iff.2 d)⟩
 obtain⟨u,G,x⟩:=jQ (is:=[0]) k
 have l:=RO.split (is:=[0]) k F
 rw[y]at u l x;rw[n]at l G x
 refine(h w u λb o c=>l b o (.inl (C b o c))).mono λe H ⟨v,H',i,⟨T',z,j⟩,E,A⟩=>?_
 subst z
 obtain⟨t,a⟩:=ls (is:=[0]) (H':=[T']) k E A
 rw[n]at t a
 have r:([T']++(H1++H2)).flatten.Perm (H1++T'::H2).flatten:=by
  simp only[aba,aa9,List.flatten_nil,aa6]
  rw[<-aaG, <-aaG]
  exact abj.append_right _
 refine⟨v,_,i,⟨T',rfl,j⟩,t.perm r,⟨a.le,λb c B=>a.fv b c λp d=>B p (g.mem_iff.2 d),λp d=>?_,a.os,a.output,a.tape⟩⟩
 rcases a.hP p (r.mem_iff.2 d)with⟨q,j,i⟩|hge
 ·exact .inl ⟨q,g.mem_iff.2 j,i⟩
 ·exact .inr hge
theorem aM.bc{d:Nat}{ty:TypeId}{k:String}{a:Array Edge}{f:FuncId} [e:aI P f]{xs:List Operand}{b:Array TypeId}{vs:List Value}{Post:Value->Prop}
  (j:Spec P f vs (Rx R H) [] λv H'=>Post v/\H'=[])(i:∀v,Post v->aM false P N R ops l ((d,v)::env) H K)(hxs:fu env xs=some vs:=by rfl)(h:Nat.blt d N=true:=by rfl):
  aM false P N R ops (⟨some d,.call ⟨.value (.func f),xs.toArray,b⟩,ty,k,a,none⟩::l) env H K:=
 aM.call [] j (λv H' ⟨c,g⟩=>by subst g;exact i v c) hxs h
theorem aM.cL{d:Nat}{ty:TypeId}{k:String}{a:Array Edge}{f:FuncId} [e:aI P f]{xs:List Operand}{b:Array TypeId}{vs:List Value}{Post:Value->ay->Prop}
  (j:Spec P f vs (Rx R H) [] λv H'=>∃T,H'=[T]/\Post v T)(i:∀v T,Post v T->aM false P N R ops l ((d,v)::env) (T::H) K)(hxs:fu env xs=some vs:=by rfl)(h:Nat.blt d N=true:=by rfl):
  aM false P N R ops (⟨some d,.call ⟨.value (.func f),xs.toArray,b⟩,ty,k,a,none⟩::l) env H K:=
 aM.call [] j (λv H' ⟨T,c,g⟩=>by subst c;exact i v T g) hxs h
theorem oT:∀(H:aS),take (H.map λ_=>0) H=H
 |[]=>rfl
 |T::r=>by simp only[aaB,take,cq,List.getD_cons_zero,oT r]
theorem nl:∀(H:aS),rest (H.map λ_=>0) H=[]
 |[]=>rfl
 |T::r=>by simp only[aaB,rest,cq,nl r]
theorem aM.tF{dst:Option Nat}{op:Op}{ty:TypeId}{e:String}{c:Array Edge}{f:FuncId}{vs:List Value}{Post:Value->ay->Prop} [q:dQ H T upd]
  (p:∀a w,dy a env->(execOp a.eval ⟨dst,op,ty,e,c,none⟩).run P w=.ok (.enter f vs.toArray) w)
  (n:Spec P f vs R' [T] λv H'=>∃T',H'=[T']/\Post v T')(m:∀b o,R' b o->R b o)
  (k:∀v T',Post v T'->match dst with
   |some d=>Nat.blt d N=true/\aM false P N R ops l ((d,v)::env) (upd T') K
   |none=>aM false P N R ops l env (upd T') K):
  aM false P N R ops (⟨dst,op,ty,e,c,none⟩::l) env H K:=by
 obtain⟨H1,H2,g,i⟩:=q.h
 refine .nP (H.map λ_=>0) (Post:=λv H'=>∃T',H'=H1++T'::H2/\Post v T') p ?_ ?_
 ·rw[oT,nl]
  have:=Spec.at (H1:=H1) (H2:=H2) n m
  rw[<-g]at this
  exact this.weaken λb o j=>.inl j
 ·intro v H' ⟨T',e1,e2⟩
  rw[nl,aa6,e1, <-i]
  exact k v T' e2
theorem aM.bb{d:Nat}{ty:TypeId}{n:String}{b:Array Edge}{f:FuncId} [e:aI P f]{xs:List Operand}{c:Array TypeId}{vs:List Value}{Post:Value->ay->Prop}
  (m:Spec P f vs R [T] λv H'=>∃T',H'=[T']/\Post v T')(j:∀v T',Post v T'->aM false P N R ops l ((d,v)::env) (upd T') K) [o:dQ H T upd](hxs:fu env xs=some vs:=by rfl)(i:Nat.blt d N=true:=by rfl):
  aM false P N R ops (⟨some d,.call ⟨.value (.func f),xs.toArray,c⟩,ty,n,b,none⟩::l) env H K:=
 aM.tF (λa w g=>rY hxs a w g) m (λ_ _ h=>h) (λv T' k=>⟨i,j v T' k⟩)
theorem Ej{cs zs:List Value}{k:Nat}(h:zs.length=k)(b:cs.length=k):eY ((List.range 1).map λi=>(i*k,k)) zs [(0,.agg cs.toArray)]=some cs:=by
 subst b
 have e:Nat.ble cs.length cs.length=true:=Nat.ble_eq_true_of_le (aa7 _)
 have a:zs.drop cs.length=[]:=List.drop_eq_nil_of_le (by omega)
 simp[eY,fX,h,List.range_succ,e,a]
theorem Ei{v:Value}{zs:List Value}(c:aL v=true)(h:zs.length=1):eY ((List.range 1).map λi=>(i*1,1)) zs [(0,v)]=some [v]:=by
 have a:zs.drop 1=[]:=List.drop_eq_nil_of_le (by omega)
 have b:zs.tail=[]:=by rw[<-List.drop_one];exact a
 cases v<;>simp_all[eY,fX,List.range_succ,aL]
theorem aM.je{d:Nat}{T E:TypeId}{k:Nat}{z:Value}{cs:List Value}{x:Operand}{ty:TypeId}{j:String}{a:Array Edge} [ut:bL P T (.slice E)] [sz:Sz P E k] [m:Zr P E z]
  (g:∀b,aM false P N R ops l ((d,.slice (some ⟨b,0,none⟩) 1 1)::env) ([(b,.cells cs.toArray E (0,0))]::H) K)(i:ev env x=some (.agg cs.toArray):=by rfl)(f:cs.length=k:=by rfl)(h:Nat.ble (1*k) (2^24)=true:=by rfl)(e:Nat.beq (1*k) 0=false:=by rfl)(c:Nat.blt d N=true:=by rfl):
  aM false P N R ops (⟨some d,.buildSlice T 1 [(0,x)].toArray,ty,j,a,none⟩::l) env H K:=
 aM.buildSlice (z:=z) (zs:=((Array.range (1*k)).map (z.cells[· % z.cells.size]!)).toList) (parts:=[(0,.agg cs.toArray)]) h e rfl (by simp[jx,i]) (Ej (by simp) f) g c
theorem aM.kc{d:Nat}{T E:TypeId}{z v:Value}{x:Operand}{ty:TypeId}{g:String}{a:Array Edge} [ut:bL P T (.slice E)] [sz:Sz P E 1] [i:Zr P E z] [o:One v]
  (e:∀b,aM false P N R ops l ((d,.slice (some ⟨b,0,none⟩) 1 1)::env) ([(b,.cells [v].toArray E (0,0))]::H) K)(f:ev env x=some v:=by rfl)(c:Nat.blt d N=true:=by rfl):
  aM false P N R ops (⟨some d,.buildSlice T 1 [(0,x)].toArray,ty,g,a,none⟩::l) env H K:=
 aM.buildSlice (z:=z) (zs:=((Array.range (1*1)).map (z.cells[· % z.cells.size]!)).toList) (parts:=[(0,v)]) rfl rfl rfl (by simp[jx,f]) (Ei o.h (by simp)) e c
theorem aM.ml{m:Bool}{d:Nat}{x:Operand}{c b:Option Operand}{t e E:TypeId}{sz:Nat}{α:Type}{enc:α->List Value}{v:Value}{xs:List α}{ty:TypeId}{w:String}{f:Array Edge}(lo a:Nat)(h:OS E sz enc v xs T) [ut:bL P t (.slice e)] [s:Sz P e sz](j:eG env c 0 lo)(k:eG env b xs.length a)(n:lo<=a)(o:a<=xs.length)
  (r:∀v',OS E sz enc v' ((xs.drop lo).take (a-lo)) T->aM m P N R ops l ((d,v')::env) H K)(u:ev env x=some v:=by rfl)(p:Nat.blt d N=true:=by rfl):
  aM m P N R ops (⟨some d,.slice t x c b none,ty,w,f,none⟩::l) env H K:=by
 obtain⟨v',g,i⟩:=bd.ml (P:=P) (R:=R) (H:=H) (ty:=ty) (t:=t) lo a h j k n o u
 exact aM.q i (r v' g) p
theorem RA.ml{f:aS}{b c:List Nat}{d:Nat}{x:Operand}{j g:Option Operand}{t e E:TypeId}{sz:Nat}{α:Type}{enc:α->List Value}{v:Value}{xs:List α}{ty:TypeId}{A:String}{k:Array Edge}(i:Nat)(w:ops[i]? =some ⟨some d,.slice t x j g none,ty,A,k,none⟩)(lo a:Nat)(h:OS E sz enc v xs T) [ut:bL P t (.slice e)] [s:Sz P e sz](n:eG env j 0 lo)(o:eG env g xs.length a)(p:lo<=a)(q:a<=xs.length)
  (z:ev env x=some v)(r:tk false ops b c i=true)(y:∀v',OS E sz enc v' ((xs.drop lo).take (a-lo)) T->RA P N R ops f b (i::c) ((d,v')::env) H K)(u:Nat.blt d N=true:=by rfl):
  RA P N R ops f b c env H K:=by
 obtain⟨v',l,m⟩:=bd.ml (P:=P) (R:=R) (H:=[]) (ty:=ty) (t:=t) lo a h n o p q z
 exact RA.take i w m r (y v' l) u
theorem RA.au{c:aS}{a b:List Nat}{d:Nat}{x y:Operand}{t e E:TypeId}{sz:Nat}{α:Type}{enc:α->List Value}{v:Value}{xs:List α}{ty:TypeId}{B:String}{g:Array Edge}{k:IntKind}{j:Int}{z:α}(i:Nat)(n:ops[i]? =some ⟨some d,.indexAddr t x y,ty,B,g,none⟩)(q:Nat)(h:OS E sz enc v xs T)(f:xs[q]? =some z) [ut:bL P t (.slice e)] [s:Sz P e sz]
  (w:ev env x=some v)(A:ev env y=some (.int k j))(o:j=(q:Int))(l:tk false ops a b i=true)(r:PS T (eS v (q*sz)) (enc z)->RA P N R ops c a (i::b) ((d,eS v (q*sz))::env) H K)(m:Nat.blt d N=true:=by rfl):
  RA P N R ops c a b env H K:=
 RA.take i n (bd.cR q (h.rs (R:=sg T) λp u=>u) f w A o) l (r ⟨h.pc f⟩) m
theorem bd.ox{ty:TypeId}{x:Operand}{p:Value}{b:Addr}(f:ev env x=some p)(e:p=.pointer (some b):=by rfl):bd P R env H (.nilCheck x) ty p:=λa w d i h g c _ _=>by
 subst e
 simp[execOp,c.eval f]
theorem bd.hY{ty:TypeId}{x:Operand}{s:TypeId}{f off:Nat}{p:Value}{b:Addr}(j:ev env x=some p) [c:bf P s f off](i:p=.pointer (some b):=by rfl):bd P R env H (.fieldAddr s x f) ty (gj p off):=λa w d l k g e _ _=>by
 subst i
 have:=c.h b w
 simp[execOp,e.eval j,this,gj]
end
end
section
section
variable{P:Program}{N:Nat}{R R':aA}{ops:Array Oper}{l:List Oper}{env:Env}{H:aS}{K:Env->aS->Prop}{T:ay}{upd:ay->aS}{ty:TypeId}{pos:String}{af:Array Edge}{α:Type}
def gU(sz lo hi:Nat)(p:Option Addr)(cap:Nat):Value:=.slice (if cap=lo then p else p.map (·.add (lo*sz))) (hi-lo) (cap-lo)
theorem bd.oK{x:Operand}{h f:Option Operand}{t e:TypeId}{sz n cap:Nat}{p:Option Addr}(lo b:Nat) [ut:bL P t (.slice e)] [s:Sz P e sz](i:eG env h 0 lo)(j:eG env f n b)(k:lo<=b)(l:b<=cap)(m:ev env x=some (.slice p n cap):=by rfl):
  bd P R env H (.slice t x h f none) ty (gU sz lo b p cap):=λa w d q o g c _ _=>by
 have:=nu (P:=P) (w:=w) (p:=p) (n:=n) (cap:=cap) c i j k l (t:=t) (e:=e) (sz:=sz)
 simp only[execOp,c.eval m,Option.map_none]
 rw[Sem.run_bind,this]
 rfl
theorem OS.shape{E:TypeId}{sz:Nat}{enc:α->List Value}{v:Value}{xs:List α}(h:OS E sz enc v xs T):∃p cap,v=.slice p xs.length cap/\xs.length<=cap:=by
 rcases h.h with⟨a,d,_⟩|⟨b,f,c,cap,a,_,e,_⟩
 ·exact⟨none,0,by rw[a,d];rfl,by simp[d]⟩
 ·exact⟨_,cap,a,e⟩
theorem OS.head{E:TypeId}{sz n cap:Nat}{p:Option Addr}{enc:α->List Value}{xs:List α}(h:OS E sz enc (.slice p n cap) xs T)(lo:Nat)(l:lo<=xs.length):OS E sz enc (gU sz 0 lo p cap) (xs.take lo) T:=by
 have m:(xs.take lo).length=lo:=by simp;omega
 refine⟨λx e=>h.len x (aa2 e),λx e=>h.one x (aa2 e),?_⟩
 rcases h.h with⟨a,d,f⟩|⟨b,o,c,q,a,d,f,i,j,k⟩
 ·cases a
  subst d
  obtain rfl:lo=0:=by simpa using l
  exact .inl ⟨by simp[gU],by simp,f⟩
 ·cases a
  refine .inr ⟨b,o,c,cap,?_,d,by omega,i,j,by simpa using k.piece h.len 0 lo⟩
  rw[m]
  by_cases g:cap=0
  ·simp[gU,g]
  ·simp[gU,g,Addr.add]
theorem HN(z:List Value)(n:Nat)(h:∀u∈z,aL u=true):∀u∈(Builtin.zeroCells z.toArray n).toList,aL u=true:=by
 intro u a
 simp only[Builtin.zeroCells,Array.toList_map,aaM]at a
 obtain⟨i,b,rfl⟩:=a
 have c:i<n*z.length:=by simpa using b
 have d:0<z.length:=by
  rcases Nat.eq_zero_or_pos z.length with h0|h0
  ·rw[h0]at c;omega
  ·exact h0
 have:i % z.length<z.length:=Nat.mod_lt _ d
 simp only[aa0]
 rw[getElem!_pos z.toArray (i % z.length) (by simpa using this)]
 exact h _ (by simp)
theorem Row.cF{c:Array Value}{off k:Nat}{cs vs:List Value}(h:Row c off cs)(f:off+cs.length<=k)(e:k+vs.length<=c.size):Row (Go.Proofs.YtgppncmdpcefhaaGreatDoor.cF c.toList k vs).toArray off cs:=λj d=>by
 have a:=h j d
 have b:=oJ (vs:=c.toList) (cs:=vs) (off:=k) (by simpa using e) (off+j)
 simp only[aaH]
 rw[b,aaA (by omega)]
 simpa using a
theorem aM.uc{x:Operand}{t E sz n cap:Nat}{p:Option Addr}{enc:α->List Value}{xs:List α}{zs:List Value}{z:Value}(lo:Nat)(h:OS E sz enc (.slice p n cap) xs T) [Y:dQ H T upd] [ut:bL P t (.slice E)] [Z:Zr P E z]
  (Q:lo<=xs.length)(d:ev env x=some (gU sz lo n p cap))(C:∀T',OS E sz enc (gU sz 0 lo p cap) (xs.take lo) T'->aM false P N R ops l env (upd T') K)
  (D:z.cells=zs.toArray:=by rfl)(X:zs.length=sz:=by rfl)(ho:∀u∈zs,Go.Proofs.YtgppncmdpcefhaaGreatDoor.aL u=true:=by simp[Go.Proofs.YtgppncmdpcefhaaGreatDoor.aL]):
  aM false P N R ops (⟨none,.call ⟨.builtin .clear,#[x],#[t]⟩,ty,pos,af,none⟩::l) env H K:=
 aM.kK λa w v s ro=>by
  obtain⟨H1,H2,o,f⟩:=Y.h
  have U:=h.shape
  obtain⟨e,a1,F,a2⟩:=U
  cases F
  by_cases A:xs.length-lo=0
  ·refine⟨w,H,.inr ⟨.tuple #[],?_⟩,Frame.refl w H,s,?_⟩
   ·have O:∀(e:Option Addr) (k:Nat),(Builtin.clear_ #[t] ty #[.slice e 0 k]).run P w=.ok (.tuple #[]) w:=λe k=>by cases e<;>simp[Builtin.clear_,run_underlying ut.h]
    simp only[gU,A]at d
    simp[execOp,resolve,v.eval d,invoke,builtin,O]
   ·have:=C T (h.head lo Q)
    rwa [f, <-o]at this
  ·rcases h.h with⟨q,g,r⟩|⟨b,off,c,a0,q,g,r,G,I,J⟩
   ·subst g;simp at A
   ·cases q
    subst g;subst o
    have V:¬cap=lo:=by omega
    have M:w.heap[b]? =some (.cells c E (0,0)):=s.2 (b,_) (by simp)
    have W:(if cap=lo then some (⟨b,off,none⟩:Addr)else(some (⟨b,off,none⟩:Addr)).map (·.add (lo*sz)))=some ⟨b,off+lo*sz,none⟩:=by
     rw[aaz V,aaK,lL]
    have j:(Builtin.zeroCells z.cells (xs.length-lo)).toList.length=(xs.length-lo)*sz:=by rw[abd,td,D];simp[X]
    have y:off+lo*sz+(xs.length-lo)*sz<=c.size:=by
     have h7:lo*sz+(xs.length-lo)*sz=xs.length*sz:=by rw[<-Nat.add_mul];congr 1;omega
     have h8:xs.length*sz<=cap*sz:=aaS _ r
     omega
    have i:=nv (P:=P) (b:=b) (off:=off+lo*sz) (E:=E) (Builtin.zeroCells z.cells (xs.length-lo)).toList 0 c.toList w (by simpa using M) (by rw[D];exact HN zs _ ho) (by rw[j];simp;omega)
    refine⟨_,upd [(b,.cells (Go.Proofs.YtgppncmdpcefhaaGreatDoor.cF c.toList (off+lo*sz) (Builtin.zeroCells z.cells (xs.length-lo)).toList).toArray E (0,0))],.inr ⟨.tuple #[],?_⟩,by rw[f];exact(jD (o':=_) s).1,by rw[f];exact(jD (o':=_) s).2,C _ ?_⟩
    ·obtain⟨m,S⟩:∃m,xs.length-lo=m+1:=⟨xs.length-lo-1,by omega⟩
     simp only[Nat.add_zero]at i
     simp only[gU,W]at d
     rw[S]at i d⊢
     simp[execOp,resolve,v.eval d,invoke,builtin,Builtin.clear_,run_underlying ut.h,Z.h,i]
    ·refine⟨λx d=>h.len x (aa2 d),λx d=>h.one x (aa2 d),.inr ⟨b,off,_,cap,?_,rfl,by simp;omega,G,?_,?_⟩⟩
     ·have:(xs.take lo).length=lo:=by simp;omega
      rw[this]
      by_cases B:cap=0
      ·simp[gU,B]
      ·simp[gU,B,Addr.add]
     ·have:=lv (vs:=c.toList) (cs:=(Builtin.zeroCells z.cells (xs.length-lo)).toList) (off:=off+lo*sz) (by rw[j];simpa using y)
      simp only[aa0,this]
      simpa using I
     ·have L:Row c off ((xs.take lo).flatMap enc):=by simpa using J.piece h.len 0 lo
      refine L.cF ?_ (by rw[j];exact y)
      rw[hZ (sz:=sz) (λx d=>h.len x (aa2 d))]
      simp;exact aaS _ (Nat.min_le_left _ _)
theorem Gg(n:Nat){t e:TypeId}{w:World}{p:Option Addr}{a c b d:Nat}(ut:P.underlying t=some (.slice e)):(Op.equalIn (n+1) t (.slice p a c) (.slice none b d)).run P w=.ok p.isNone w:=by
 cases p<;>simp[Op.equalIn,run_underlying ut]
theorem bd.nV{x y:Operand}{t u e n c:Nat}{p:Option Addr}{k f:Nat}(i:ev env x=some (.slice p n c))(j:ev env y=some (.slice none k f)) [ut:bL P t (.slice e)]:bd P R env H (.binOp .eql t x y u) ty (.bool p.isNone):=λa w d m l g b _ _=>
 nr (op:=.move x) (b.eval i) (b.eval j) (kQ rfl) rfl (Gg _ ut.h)
theorem aM.po{d:Nat}{T E k:Nat} [ut:bL P T (.slice E)] [sz:Sz P E k](g:∀b,aM false P N R ops l ((d,.slice (some ⟨b,0,none⟩) 0 0)::env) ([(b,.cells [].toArray E (0,0))]::H) K)(f:Nat.blt d N=true:=by rfl):
  aM false P N R ops (⟨some d,.buildSlice T 0 [].toArray,ty,pos,af,none⟩::l) env H K:=
 aM.fresh (v:=λb=>.slice (some ⟨b,0,none⟩) 0 0) f (λa w i s j=>⟨w.drawn,by
  have c:(execOp a.eval ⟨some d,.buildSlice T 0 [].toArray,ty,pos,af,none⟩)=(do pure (.value (<-Instr.buildSlice T 0 #[]))):=by
   show(do pure (Next.value (<-Instr.buildSlice T 0 ((#[]:Array (Nat×Operand)).map λx:Nat×Operand=>(x.1,a.eval x.2)))))=_
   rw[Array.map_empty]
  rw[c]
  have e:((Array.range 0).map λx=>(default:Value))= #[]:=by apply Array.eq_empty_of_size_eq_zero;simp
  simp[Instr.buildSlice,run_underlying ut.h,sz.h,Instr.fill,km,e]⟩) g
theorem OS.empty{E sz b:Nat}{enc:α->List Value}:OS E sz enc (.slice (some ⟨b,0,none⟩) 0 0) ([]:List α) [(b,.cells [].toArray E (0,0))]:=
 ⟨by simp,by simp,.inr ⟨b,0,_,0,rfl,rfl,by simp,by simp,by simp,λk a=>by simp at a⟩⟩
theorem RS.E9{sz n c:Nat}{enc:α->List Value}{xs:List α}(h:RS R sz enc (.slice none n c) xs):xs=[]:=by
 obtain⟨p,e,a,_,_,h4⟩:=h.h
 cases a
 rcases h4 with h4|⟨b,g,c,E,f,d,_⟩
 ·exact h4
 ·cases d
end
end
section
section
variable{P:Program}{N:Nat}{R R':aA}{ops:Array Oper}{l:List Oper}{env:Env}{H:aS}{K:Env->aS->Prop}{T:ay}{upd:ay->aS}{ty:TypeId}{pos:String}{af:Array Edge}
theorem aM.tH{dst:Option Nat}{op:Op}(is:List Nat){f:FuncId}{vs:List Value}{Post:Value->aS->Prop}
  (u:∀a w,dy a env->Sat w H->RO w R H->(execOp a.eval ⟨dst,op,ty,pos,af,none⟩).run P w=.ok (.enter f vs.toArray) w)
  (r:Spec P f vs (Rx R (rest is H)) (take is H) Post)
  (p:∀v H',Post v H'->match dst with
   |some d=>Nat.blt d N=true/\aM false P N R ops l ((d,v)::env) (H'++rest is H) K
   |none=>aM false P N R ops l env (H'++rest is H) K):
  aM false P N R ops (⟨dst,op,ty,pos,af,none⟩::l) env H K:=λg m c h a w s=>by
 simp only[wpList,Region.wanted,aaE]
 refine .inl ?_
 rw[Oper.wp,u a w s.env s.sat s.ro]
 obtain⟨x,y,z⟩:=jQ (is:=is) s.sat
 refine(r w x (RO.split s.sat s.ro)).mono λe k ⟨v,H',n,q,t,o⟩=>?_
 subst n
 obtain⟨i,j⟩:=ls s.sat t o
 have b:=p v H' q
 cases dst with
 |some d=>exact b.2 g m c h _ k ((s.step j i).put v b.1)
 |none=>exact b g m c h _ k (s.step j i)
class th(P:Program)(t:TypeId)(name:String)(f:outParam FuncId):Prop where
 h:∀(v:Value) w,(Go.method (P.types.size+Made.depth) t v name).run P w=.ok (f,v) w
theorem H4{t:TypeId}{name:String}{f:FuncId} [m:th P t name f] [e:aI P f]{x:Operand}{v:Value}{xs:List Operand}{c:Array TypeId}{vs:List Value}{dst:Option Nat}{g:Option (Nat×Bool)}(o:ev env x=some (.iface t v))(hxs:fu env xs=some vs)(a:Act)(w:World)(b:dy a env):
  (execOp a.eval ⟨dst,.call ⟨.invoke x name,xs.toArray,c⟩,ty,pos,af,g⟩).run P w=.ok (.enter f (v::vs).toArray) w:=by
 have d:=b.kR hxs
 have i:=b.eval o
 have j:=e.h (v::vs).toArray w
 have k:callMethod (.iface t v) name vs.toArray=(do let (f,r)<-Go.method ((<-program).types.size+Made.depth) t v name;callFunc f (#[r]++vs.toArray)):=rfl
 have l:(callMethod (.iface t v) name vs.toArray).run P w=.ok (.enter f (v::vs).toArray) w:=by
  rw[k]
  simp[m.h,j]
 have n:(invoke (.fn (.method name) #[]) (#[.iface t v]++vs.toArray)).run P w=.ok (.enter f (v::vs).toArray) w:=by
  have:invoke (.fn (.method name) #[]) (#[.iface t v]++vs.toArray)=callMethod (.iface t v) name vs.toArray:=by simp[invoke]
  rw[this];exact l
 simp only[execOp,resolve,d,i]
 exact n
def gh(P:Program)(D:aA)(t:TypeId)(v:Value)(name:String)(f:FuncId)(r:Value):Prop:=
 ∀w,(∀b o,D b o->w.heap[b]? =some o)->(Go.method (P.types.size+Made.depth) t v name).run P w=.ok (f,r) w
theorem gh.mono{D a:aA}{t:TypeId}{v:Value}{name:String}{f:FuncId}{r:Value}(h:gh P D t v name f r)(d:∀b o,D b o->a b o):gh P a t v name f r:=λw e=>h w λb o c=>e b o (d b o c)
theorem Gi{D:aA}{t:TypeId}{name:String}{f:FuncId}{v r:Value}(m:gh P D t v name f r)(e:aI P f){x:Operand}{xs:List Operand}{d:Array TypeId}{vs:List Value}{dst:Option Nat}{g:Option (Nat×Bool)}(s:ev env x=some (.iface t v))(hxs:fu env xs=some vs)(a:Act)(w:World)(c:dy a env)
  (q:∀b o,D b o->w.heap[b]? =some o):(execOp a.eval ⟨dst,.call ⟨.invoke x name,xs.toArray,d⟩,ty,pos,af,g⟩).run P w=.ok (.enter f (r::vs).toArray) w:=by
 have i:=c.kR hxs
 have j:=c.eval s
 have k:=e.h (r::vs).toArray w
 have l:callMethod (.iface t v) name vs.toArray=(do let (f,r)<-Go.method ((<-program).types.size+Made.depth) t v name;callFunc f (#[r]++vs.toArray)):=rfl
 have n:(callMethod (.iface t v) name vs.toArray).run P w=.ok (.enter f (r::vs).toArray) w:=by
  rw[l]
  simp[m w q,k]
 have p:(invoke (.fn (.method name) #[]) (#[.iface t v]++vs.toArray)).run P w=.ok (.enter f (r::vs).toArray) w:=by
  have:invoke (.fn (.method name) #[]) (#[.iface t v]++vs.toArray)=callMethod (.iface t v) name vs.toArray:=by simp[invoke]
  rw[this];exact n
 simp only[execOp,resolve,i,j]
 exact p
def ff(P:Program)(t:TypeId)(v:Value)(name:String)(vs:List Value)(R:aA)(T:ay)(Post:Value->ay->Prop):Prop:=
 ∃f r,gh P (Rx R [T]) t v name f r/\aI P f/\Spec P f (r::vs) R [T] λu H'=>∃T',H'=[T']/\Post u T'
theorem ff.weaken{t:TypeId}{v:Value}{name:String}{vs:List Value}{Post:Value->ay->Prop}(h:ff P t v name vs R' T Post)(a:∀b o,R' b o->R b o):ff P t v name vs R T Post:=by
 obtain⟨f,r,c,d,e⟩:=h
 exact⟨f,r,c.mono λb o g=>g.imp (a b o) id,d,e.weaken a⟩
theorem ff.mono{t:TypeId}{v:Value}{name:String}{vs:List Value}{Post a:Value->ay->Prop}(h:ff P t v name vs R T Post)(g:∀u T',Post u T'->a u T'):ff P t v name vs R T a:=by
 obtain⟨f,r,b,c,d⟩:=h
 exact⟨f,r,b,c,d.mono λu j ⟨T',e,i⟩=>⟨T',e,g _ _ i⟩⟩
theorem aM.tE{dst:Option Nat}{x:Operand}{t:TypeId}{v:Value}{name:String}{xs:List Operand}{j:Array TypeId}{vs:List Value}{Post:Value->ay->Prop} [C:dQ H T upd]
  (g:ff P t v name vs R T Post)(B:ev env x=some (.iface t v))(hxs:fu env xs=some vs)
  (q:∀u T',Post u T'->match dst with
   |some d=>Nat.blt d N=true/\aM false P N R ops l ((d,u)::env) (upd T') K
   |none=>aM false P N R ops l env (upd T') K):
  aM false P N R ops (⟨dst,.call ⟨.invoke x name,xs.toArray,j⟩,ty,pos,af,none⟩::l) env H K:=by
 obtain⟨f,r,k,m,n⟩:=g
 obtain⟨c,e,rfl,A⟩:=C.h
 refine .tH (H:=c++T::e) ((c++T::e).map λ_=>0) (f:=f) (vs:=r::vs) (Post:=λu i=>∃T',i=c++T'::e/\Post u T') (λa w p g z=>Gi k m B hxs a w p λb o hb=>?_) ?_ (λu i s=>?_)
 ·rcases hb with hb|hb
  ·exact(z b o hb).1
  ·exact g.2 (b,o) (by simp at hb⊢;exact .inr (.inl hb))
 ·rw[oT]
  exact n.at λb o hb=>.inl hb
 ·obtain⟨T',rfl,y⟩:=s
  have:=q u T' y
  rw[A T']at this
  rw[nl,aa6]
  cases dst<;>exact this
theorem aM.iG{d:Nat}{x:Operand}{t:TypeId}{v:Value}{name:String}{xs:List Operand}{a:Array TypeId}{vs:List Value}{Post:Value->ay->Prop}
  (f:ff P t v name vs R T Post)(c:∀u T',Post u T'->aM false P N R ops l ((d,u)::env) (upd T') K) [h:dQ H T upd](g:ev env x=some (.iface t v):=by rfl)(hxs:fu env xs=some vs:=by rfl)(b:Nat.blt d N=true:=by rfl):
  aM false P N R ops (⟨some d,.call ⟨.invoke x name,xs.toArray,a⟩,ty,pos,af,none⟩::l) env H K:=
 aM.tE f g hxs λu T' e=>⟨b,c u T' e⟩
theorem bd.i64{op:Op}{z:Int}(c:Int)(h:bd P R env H op ty (.int .i64 (IntKind.i64.wrap z)))(e:z=c/\ -9223372036854775808<=c/\c<=9223372036854775807):bd P R env H op ty (.int .i64 c):=by
 obtain⟨rfl,a,b⟩:=e
 rw[IntWalk.i64_in _ (by omega)]at h
 exact h
theorem kB{j:Nat}:((j:Int)-1).tdiv 2=(((j-1)/2:Nat):Int):=by
 rcases Nat.eq_zero_or_pos j with h|h
 ·subst h;decide
 ·rw[Int.tdiv_eq_ediv_of_nonneg (by omega)];omega
theorem gh.ptr{D:aA}{t e:TypeId}{v:Value}{name:String}{f:FuncId}{c:TypeInfo}(k:∀w,(typeInfo t).run P w=.ok c w)(d:(c.methods.find? (·.name==name)).map (λm=>(m.path.isEmpty,m.func))=some (true,some (f,true)))
  (l:bL P t (.pointer e))(b:Nat.beq P.types.size 0=false):gh P D t v name f v:=λw _=>by
 obtain⟨n,i⟩:∃n,P.types.size+Made.depth=n+1:=⟨P.types.size+Made.depth-1,by have:P.types.size≠0:=λe=>(by rw[e]at b;cases b);omega⟩
 rw[i]
 obtain⟨m,g,a⟩:=Option.map_eq_some_iff.1 d
 simp only[aaU]at a
 have j:m.path= #[]:=by simpa using a.1
 unfold Go.method
 simp[k,g,j,a.2,follow,receiverAt,run_underlying l.h,Place.get]
theorem Gm{b:Array TypeId}{t:TypeId}{a:Addr}{s m:ByteArray}{w:World}:(Builtin.ssaWrapNilChk_ b t #[.pointer (some a),.string s,.string m]).run P w=.ok (.pointer (some a)) w:=rfl
theorem gh.val{D:aA}{t e:TypeId}{v u:Value}{us:List Value}{name:String}{f:FuncId}{g:TypeInfo}(y:∀w,(typeInfo t).run P w=.ok g w)(q:(g.methods.find? (·.name==name)).map (λm=>(m.path.isEmpty,m.func))=some (true,some (f,false)))
  (z:bL P t (.pointer e))(d:Nat.beq P.types.size 0=false)(i:cC P e false)(o:PC D v (u::us)):gh P D t v name f u:=λw A=>by
 obtain⟨n,s⟩:∃n,P.types.size+Made.depth=n+1:=⟨P.types.size+Made.depth-1,by have:P.types.size≠0:=λe=>(by rw[e]at d;cases d);omega⟩
 rw[s]
 obtain⟨m,r,a⟩:=Option.map_eq_some_iff.1 q
 simp only[aaU]at a
 have x:m.path= #[]:=by simpa using a.1
 obtain⟨b,B,c,E,C,rfl,l,p⟩:=o.h
 have j:=p 0 (by simp)
 have k:w.cell? ⟨b,B,none⟩=some u:=by
  simp[World.cell?,A _ _ l]
  simpa using j
 unfold Go.method
 simp only[Sem.run_bind,y,Result.andThen_ok,r,x,a.2,follow,receiverAt,Sem.run_pure,Array.isEmpty_empty,aaE]
 simp only[run_underlying z.h,Result.andThen_ok,Place.get,Sem.run_bind,Sem.run_pure,strVal,Gm,asAddr,loadVar,i.h,r0 k,aaD,aaC]
end
end
section
variable{α:Type}
def bn(L:List α)(i k:Nat):List α:=match L[i]?,L[k]? with
 |some x,some y=>(L.set i y).set k x
 |_,_=>L
theorem bS{L:List α}{i k:Nat}{x y:α}(a:L[i]? =some x)(b:L[k]? =some y):bn L i k=(L.set i y).set k x:=by simp[bn,a,b]
theorem eI{L:List α}{i k:Nat}:(bn L i k).length=L.length:=by
 unfold bn;split<;>simp
theorem cX{L:List α}{i k:Nat}(c:i<L.length)(d:k<L.length)(j:Nat):(bn L i k)[j]? =if j=k then L[i]? else if j=i then L[k]? else L[j]? :=by
 rw[bS (aaL c) (aaL d),abD,abD]
 by_cases a:k=j
 ·subst a;simp[d,aaL c]
 ·by_cases b:i=j
  ·subst b
   simp[a,Ne.symm a,c,aaL d]
  ·simp[a,b,Ne.symm a,Ne.symm b]
theorem mq{L:List α}{i k:Nat}:(bn L i k).Perm L:=by
 unfold bn
 split
 ·rename_i x y a b
  obtain⟨c,rfl⟩:=abe.1 a
  obtain⟨d,rfl⟩:=abe.1 b
  exact List.set_set_perm c d
 ·exact .refl _
structure SO(lt:α->α->Bool):Prop where
 cP:∀x,lt x x=false
 tr:∀x y z,lt x y=true->lt y z=true->lt x z=true
 dW:∀x y z,lt x y=false->lt y z=false->lt x z=false
theorem SO.gx{lt:α->α->Bool}(h:SO lt){x y:α}(a:lt x y=true):lt y x=false:=by
 cases hy:lt y x with
 |false=>rfl
 |true=>have:=h.tr _ _ _ a hy;rw[h.cP]at this;cases this
def aX(k:Nat):Nat:=(k-1)/2
def eB(lt:α->α->Bool)(L:List α)(a k:Nat):Prop:=∀x y,L[a]? =some x->L[k]? =some y->lt y x=false
def ei(lt:α->α->Bool)(L:List α)(n:Nat):Prop:=∀k,0<k->k<n->eB lt L (aX k) k
structure Up(lt:α->α->Bool)(L:List α)(n j:Nat):Prop where
 e:∀k,0<k->k<n->k≠j->eB lt L (aX k) k
 b:∀k,0<k->k<n->aX k=j->0<j->eB lt L (aX j) k
structure gZ(lt:α->α->Bool)(L:List α)(n i:Nat):Prop where
 e:∀k,0<k->k<n->k≠i->aX k≠i->eB lt L (aX k) k
 b:∀k,0<k->k<n->aX k=i->0<i->eB lt L (aX i) k
theorem dO{k:Nat}(h:0<k):aX k<k:=by unfold aX;omega
section
variable{lt:α->α->Bool}{L:List α}{n i j:Nat}
theorem Up.sB(h:Up lt L n 0):ei lt L n:=λk a b=>h.e k a b (by omega)
theorem Up.stop(h:Up lt L n j)(c:eB lt L (aX j) j):ei lt L n:=λk b d=>by
 by_cases a:k=j
 ·subst a;exact c
 ·exact h.e k b d a
theorem eB.eV{b:List α}{a k c k':Nat}(h:eB lt L a k)(d:b[c]? =L[a]?)(e:b[k']? =L[k]?):eB lt b c k':=λx y f g=>h x y (d▸f) (e▸g)
theorem Up.step(r:SO lt)(h:Up lt L n j)(w:0<j)(D:j<n)(E:n<=L.length){x y:α}(B:L[j]? =some x)(o:L[aX j]? =some y)(z:lt x y=true):Up lt (bn L (aX j) j) n (aX j):=by
 have F:=dO w
 have g:=λk=>cX (L:=L) (i:=aX j) (k:=j) (by omega) (by omega) k
 refine⟨λk f l m=>?_,λk f l m A=>?_⟩
 ·by_cases a:k=j
  ·subst a
   intro u v c d
   rw[g,aaz (by omega),aaA rfl,B]at c
   rw[g,aaA rfl,o]at d
   cases c;cases d
   exact r.gx z
  ·by_cases p:aX k=aX j
   ·intro u v c d
    rw[p,g,aaz (by omega),aaA rfl,B]at c
    rw[g,aaz a,aaz m]at d
    cases c
    have t:=h.e k f l a y v (by rw[p];exact o) d
    cases hc:lt v x with
    |false=>rfl
    |true=>rw[r.tr _ _ _ hc z]at t;cases t
   ·by_cases q:aX k=j
    ·refine(h.b k f l q w).eV ?_ ?_
     ·rw[q,g,aaA rfl]
     ·rw[g,aaz a,aaz m]
    ·refine(h.e k f l a).eV ?_ ?_
     ·rw[g,aaz q,aaz p]
     ·rw[g,aaz a,aaz m]
 ·have G:=dO A
  have s:=h.e (aX j) A (by omega) (by omega)
  by_cases a:k=j
  ·subst a
   refine s.eV ?_ ?_
   ·rw[g,aaz (by omega),aaz (by omega)]
   ·rw[g,aaA rfl]
  ·have C:k≠aX j:=by have:=dO f;omega
   intro u v c d
   rw[g,aaz (by omega),aaz (by omega)]at c
   rw[g,aaz a,aaz C]at d
   exact r.dW _ _ _ (h.e k f l a y v (by rw[m];exact o) d) (s u y c o)
theorem gZ.step(D:SO lt)(h:gZ lt L n i)(s:0<j)(w:j<n)(F:n<=L.length)(q:aX j=i){x y:α}(t:L[j]? =some x)(C:L[i]? =some y)(A:lt x y=true)
  (B:∀c z,0<c->c<n->aX c=i->L[c]? =some z->lt z x=false):gZ lt (bn L i j) n j/\eB lt (bn L i j) (aX j) j:=by
 have E:i<j:=q▸dO s
 have g:=λk=>cX (L:=L) (i:=i) (k:=j) (by omega) (by omega) k
 refine⟨⟨λk a p f r=>?_,λk a p r _=>?_⟩,?_⟩
 ·by_cases d:k=i
  ·subst d
   have G:=dO a
   refine(h.b j s w q a).eV ?_ ?_
   ·rw[g,aaz (by omega),aaz (by omega)]
   ·rw[g,aaz f,aaA rfl]
  ·by_cases o:aX k=i
   ·intro u v l m
    rw[o,g,aaz (by omega),aaA rfl,t]at l
    rw[g,aaz f,aaz d]at m
    cases l
    exact B k v a p o m
   ·refine(h.e k a p d o).eV ?_ ?_
    ·rw[g,aaz r,aaz o]
    ·rw[g,aaz f,aaz d]
 ·have f:k≠j:=by have:=dO a;omega
  have d:k≠i:=by have:=dO a;omega
  refine(h.e k a p d (by omega)).eV ?_ ?_
  ·rw[q,r,g,aaz (by omega),aaA rfl]
  ·rw[g,aaz f,aaz d]
 ·intro u v l m
  rw[q,g,aaz (by omega),aaA rfl,t]at l
  rw[g,aaA rfl,C]at m
  cases l;cases m
  exact D.gx A
theorem gZ.stop(h:gZ lt L n i)(g:∀c,0<c->c<n->aX c=i->eB lt L i c):Up lt L n i:=
 ⟨λk f d j=>by
  by_cases a:aX k=i
  ·rw[a];exact g k f d a
  ·exact h.e k f d j a,h.b⟩
theorem ei.hole(o:SO lt)(h:ei lt L n)(r:n<=L.length){e:List α}(c:∀k,k<n->k≠i->e[k]? =L[k]?):gZ lt e n i:=by
 refine⟨λk b a m d=>?_,λk b a d g=>?_⟩
 ·have:=dO b
  exact(h k b a).eV (c _ (by omega) d) (c _ a m)
 ·have p:=dO b
  have q:=dO g
  intro u v j l
  rw[c _ (by omega) (by omega)]at j
  rw[c _ a (by omega)]at l
  have f:L[i]? =some (L[i]'(by omega)):=aaL _
  exact o.dW _ _ _ (h k b a _ v (by rw[d];exact f) l) (h i g (by omega) u _ j f)
theorem ei.push(h:ei lt L L.length)(x:α):Up lt (L++[x]) (L.length+1) L.length:=by
 refine⟨λk a c d=>?_,λk a c e _=>?_⟩
 ·have b:=dO a
  refine(h k a (by omega)).eV ?_ ?_<;>rw[abl (by omega)]
 ·have b:=dO a
  omega
theorem ei.mono{m:Nat}(h:ei lt L n)(c:m<=n):ei lt L m:=λk a b=>h k a (by omega)
theorem ei.eV{a:List α}(h:ei lt L n)(d:∀k,k<n->a[k]? =L[k]?):ei lt a n:=λk b c=>by
 have:=dO b
 exact(h k b c).eV (d _ (by omega)) (d _ c)
theorem ei.least(c:SO lt)(h:ei lt L L.length){x:α}(g:L[0]? =some x):∀(k:Nat) (y:α),L[k]? =some y->lt y x=false:=by
 intro k
 induction k using Nat.strongRecOn with
 |_ k ih=>
  intro y a
  by_cases d:k=0
  ·subst d;rw[g]at a;cases a;exact c.cP _
  ·have f:=dO (k:=k) (by omega)
   have e:=(abe.1 a).1
   have b:L[aX k]? =some (L[aX k]'(by omega)):=aaL _
   exact c.dW _ _ _ (h k (by omega) e _ y b a) (ih (aX k) f _ b)
end
end
section
theorem bV.trans{A B C:aS}(h:bV A B)(a:bV B C):bV A C:=by
 obtain⟨G,h⟩:=h
 obtain⟨b,a⟩:=a
 refine⟨b++G,h.trans ?_⟩
 rw[<-aaG]
 exact a.append_right G
def dP(T:ay)(b:Nat)(o:Obj):ay:=T.map λp=>if p.1=b then(b,o)else p
theorem o0{T:ay}{b:Nat}{o:Obj}(j:Nat):(dP T b o)[j]? =T[j]?.map λp=>if p.1=b then(b,o)else p:=by simp[dP]
theorem o2{T a:ay}{b:Nat}{o:Obj}(h:T.Perm a):(dP T b o).Perm (dP a b o):=h.map _
theorem o1{T:ay}{b:Nat}{o:Obj}(h:∀p∈T,p.1≠b):dP T b o=T:=by
 unfold dP
 conv=>rhs;rw[<-List.map_id T]
 exact List.map_congr_left λp a=>by simp[h p a]
theorem Hl{T1 T2:ay}{b:Nat}{o o':Obj}(d:((T1++(b,o)::T2).map (·.1)).Nodup):dP (T1++(b,o)::T2) b o'=T1++(b,o')::T2:=by
 simp only[List.map_append,aaB,abm,aa5]at d
 obtain⟨_,⟨g,_⟩,h⟩:=d
 have e:dP T1 b o'=T1:=o1 λp c a=>h p.1 (abo c) b (by simp) a
 have f:dP T2 b o'=T2:=o1 λp c a=>g (a▸abo c)
 have:dP (T1++(b,o)::T2) b o'=dP T1 b o'++(b,o')::dP T2 b o':=by simp[dP]
 rw[this,e,f]
theorem RS.ES{α:Type}{R:aA}{b n E sz:Nat}{cs:List Value}{fr:Nat×Nat}{enc:α->List Value}{xs:List α}(a:R b (.cells cs.toArray E fr))(c:xs.flatMap enc=cs)(d:∀x∈xs,(enc x).length=sz)(ho:∀x∈xs,∀u∈enc x,Go.Proofs.YtgppncmdpcefhaaGreatDoor.aL u=true)(f:xs.length=n:=by rfl)(e:Nat.ble n 9223372036854775807=true:=by rfl):
  RS R sz enc (.slice (some ⟨b,0,none⟩) n n) xs:=
 ⟨d,ho,_,n,by rw[f],by omega,by have:=aaN e;unfold maxLen;omega,.inr ⟨b,0,_,E,fr,rfl,a,λk g=>by subst c;simp⟩⟩
theorem RS.lits{α:Type}{R:aA}{H:aS}{b n E sz:Nat}{cs:List Value}{fr:Nat×Nat}{enc:α->List Value}{xs:List α}(a:xs.flatMap enc=cs)(c:∀x∈xs,(enc x).length=sz)(ho:∀x∈xs,∀u∈enc x,Go.Proofs.YtgppncmdpcefhaaGreatDoor.aL u=true)(e:xs.length=n:=by rfl)(d:Nat.ble n 9223372036854775807=true:=by rfl):
  RS (Rx R ([(b,.cells cs.toArray E fr)]::H)) sz enc (.slice (some ⟨b,0,none⟩) n n) xs:=RS.ES (E:=E) (fr:=fr) (.inr (by simp)) a c ho e d
theorem Hk{T:ay}{b a:Nat}{o o':Obj}(h:(a,o')∈T)(c:a≠b):(a,o')∈dP T b o:=aaM.2 ⟨_,h,by simp[c]⟩
theorem sP{T:ay}{b:Nat}{o o':Obj}(h:(b,o')∈T):(b,o)∈dP T b o:=aaM.2 ⟨_,h,by simp⟩
def idx{α:Type}:Nat->List α->List (Nat×α)
 |_,[]=>[]
 |i,x::l=>(i,x)::idx (i+1) l
theorem Ek{a:List (Nat×Nat)}{zs:List Value}{i off:Nat}{v:Value}{r:List (Nat×Value)}(d:a[i]? =some (off,1))(e:aL v=true)(c:off+1<=zs.length):eY a zs ((i,v)::r)=eY a (cF zs off [v]) r:=by
 have b:Nat.ble (off+1) zs.length=true:=Nat.ble_eq_true_of_le c
 simp only[eY,d]
 cases v<;>first|(cases e;done)|simp[b]
theorem qx{n:Nat}:∀(vs zs:List Value) (i:Nat),i+vs.length=n->zs.length=n->(∀v∈vs,aL v=true)->eY ((List.range n).map λi=>(i*1,1)) zs (idx i vs)=some (zs.take i++vs)
 |[],zs,i,h,hz,_=>by
  simp only[idx,eY,aa6]
  rw[List.take_of_length_le (by simp at h;omega)]
 |v::vs,zs,i,h,hz,ho=>by
  simp only[aaW]at h
  have b:((List.range n).map λi=>(i*1,1))[i]? =some (i*1,1):=by
   rw[aaJ,List.getElem?_range (by omega)];rfl
  simp only[idx]
  rw[Ek b (ho v (by simp)) (by omega),qx vs _ (i+1) (by omega) (by rw[lv (by simp;omega)];exact hz) λu c=>ho u (by simp[c])]
  simp only[fX,Nat.mul_one,aaG]
  rw[List.take_append,List.take_of_length_le (by simp;omega)]
  have a:i+1-(zs.take i).length=1:=by rw[aa8];omega
  rw[a];simp
theorem El{n:Nat}{vs zs:List Value}(b:vs.length=n)(a:zs.length=n)(ho:∀v∈vs,aL v=true):eY ((List.range n).map λi=>(i*1,1)) zs (idx 0 vs)=some vs:=by
 rw[qx vs zs 0 (by omega) a ho];simp
section
variable{P:Program}{N:Nat}{R R':aA}{ops:Array Oper}{l:List Oper}{env:Env}{H:aS}{K:Env->aS->Prop}{Q:Exit->Env->aS->Prop}{T:ay}{upd:ay->aS}{ty:TypeId}{pos:String}{af:Array Edge}{m:Bool}
theorem aM.nodup(h:(H.flatten.map (·.1)).Nodup->aM m P N R ops l env H K):aM m P N R ops l env H K:=λc e b d a w s=>h s.sat.1 c e b d a w s
theorem Spec.nodup{f:FuncId}{a:List Value}{Post:Value->aS->Prop}(h:(H.flatten.map (·.1)).Nodup->Spec P f a R H Post):Spec P f a R H Post:=λw b c=>h b.1 w b c
theorem Spec.fv{f:FuncId}{b:List Value}{Post:Value->Prop}(h:Spec P f b (Rx R H) [] λv H'=>Post v/\H'=[]):Spec P f b R H λv H'=>Post v/\H'=H:=λw a j=>by
 obtain⟨n,o,p⟩:=jQ (is:=[]) a
 refine(h w n (RO.split (is:=[]) a j)).mono λe q ⟨v,H',d,⟨i,c⟩,k,g⟩=>?_
 subst c
 obtain⟨l,m⟩:=ls (is:=[]) a k g
 exact⟨v,H,d,⟨i,rfl⟩,l,m⟩
theorem ff.fv{t:TypeId}{v r:Value}{name:String}{vs:List Value}{f:FuncId}{Post:Value->Prop}(c:gh P (Rx R [T]) t v name f r) [e:aI P f](h:Spec P f (r::vs) (Rx R [T]) [] λv H'=>Post v/\H'=[]):ff P t v name vs R T λu T'=>Post u/\T'=T:=
 ⟨f,r,c,e,h.fv.mono λu H' ⟨a,b⟩=>⟨T,b,a,rfl⟩⟩
theorem PS.of{b:Nat}{vs:List Value}{E:TypeId}{fr:Nat×Nat}(h:(b,.cells vs.toArray E fr)∈T):PS T (.pointer (some ⟨b,0,none⟩)) vs:=⟨PC.of h⟩
theorem aM.oP{t:TypeId}{x y:Operand}{v:Value}{vs:List Value}{b off E:Nat}(m:(b,.cells vs.toArray E (0,0))∈T) [r:dQ H T upd] [sz:Sz P t 1](f:aM false P N R ops l env (upd (dP T b (.cells (cF vs off [v]).toArray E (0,0)))) K)
  (k:off+1<=vs.length:=by first|decide|exact aaN rfl)(p:ev env x=some (.pointer (some ⟨b,off,none⟩)):=by rfl)(q:ev env y=some v:=by rfl)(ho:aL v=true:=by rfl):
  aM false P N R ops (⟨none,.store t x y,ty,pos,af,none⟩::l) env H K:=by
 refine .nodup λg=>?_
 obtain⟨a,c,j⟩:=List.append_of_mem m
 obtain⟨d,e,rfl,o⟩:=r.h
 have n:(T.map (·.1)).Nodup:=by
  simp only[aba,aa9,List.map_append,abm]at g
  exact g.2.1.1
 subst j
 rw[Hl n]at f
 have wr:Wr (d++(a++(b,.cells vs.toArray E (0,0))::c)::e) (.pointer (some ⟨b,off,none⟩)) vs off (λi=>upd (a++(b,.cells i.toArray E (0,0))::c)):=⟨b,E,d,e,a,c,rfl,rfl,λi=>o _⟩
 exact aM.oQ p q (lM ho) rfl (wr:=wr) (by simpa using ho) k f
theorem aM.mJ{d:Nat}{T E n:Nat}{z:Value}{xs:List (Nat×Operand)}(vs:List Value) [ut:bL P T (.slice E)] [sz:Sz P E 1] [j:Zr P E z]
  (f:∀b,aM false P N R ops l ((d,.slice (some ⟨b,0,none⟩) n n)::env) ([(b,.cells vs.toArray E (0,0))]::H) K)
  (i:jx env xs=some (idx 0 vs):=by rfl)(e:vs.length=n:=by rfl)(ho:∀v∈vs,Go.Proofs.YtgppncmdpcefhaaGreatDoor.aL v=true:=by simp[Go.Proofs.YtgppncmdpcefhaaGreatDoor.aL])(h:Nat.ble (n*1) (2^24)=true:=by rfl)(c:Nat.beq (n*1) 0=false:=by rfl)(g:(idx 0 vs).all (λp=>Nat.blt p.1 n)=true:=by rfl)(a:Nat.blt d N=true:=by rfl):
  aM false P N R ops (⟨some d,.buildSlice T n xs.toArray,ty,pos,af,none⟩::l) env H K:=
 aM.buildSlice (z:=z) (zs:=((Array.range (n*1)).map (z.cells[· % z.cells.size]!)).toList) (parts:=idx 0 vs) h c rfl i (El e (by simp) ho) f a g
theorem Spec.lY{f:FuncId}{b:List Value}{Post:Value->aS->Prop}(is:List Nat)(h:Spec P f b (Rx R (rest is H)) (take is H) Post):Spec P f b R H λv H'=>∃H1,H'=H1++rest is H/\Post v H1:=λw a i=>by
 obtain⟨m,n,o⟩:=jQ (is:=is) a
 refine(h w m (RO.split a i)).mono λe p ⟨v,H',c,g,j,d⟩=>?_
 obtain⟨k,l⟩:=ls a j d
 exact⟨v,_,c,⟨H',rfl,g⟩,k,l⟩
theorem bd.pf{x:Operand}{i t:TypeId}{v:Value}{b:TypeDesc} [ut:bL P t b](e:(match b with| .interface _=>false|_=>true)=true:=by rfl)(f:ev env x=some (.iface t v):=by rfl):bd P R env H (.typeAssert x i t false) ty v:=λa w d k j g c _ _=>by
 cases b<;>first|(cases e;done)|simp[execOp,c.eval f,Instr.typeAssert,run_underlying ut.h]
theorem Spec.flat{f:FuncId}{a:List Value}{Post:Value->aS->Prop}(h:Spec P f a R H λv H'=>∃H1 T',H'=H1/\H1.flatten.Perm T'/\Post v [T']):Spec P f a R H Post:=λw l k=>
 (h w l k).mono λe n ⟨v,H',d,⟨H1,T',c,i,j⟩,m,g⟩=>by
  subst c
  have b:bV H' [T']:=⟨[],by simpa using i⟩
  exact⟨v,[T'],d,j,b.sat m,g.trans (b.frame n)⟩
theorem aM.sub{H':aS}(e:bV H H')(h:aM m P N R ops l env H' K):aM m P N R ops l env H K:=λc f b d a w s=>h c f b d a w (s.le (eu.refl env) e)
theorem bV.merge(is:List Nat)(H:aS):bV H ((take is H).flatten::rest is H):=⟨[],by simpa using jn is H⟩
theorem aM.merge(is:List Nat)(h:aM m P N R ops l env ((take is H).flatten::rest is H) K):aM m P N R ops l env H K:=h.sub (bV.merge is H)
theorem bV.du{H H':aS}(h:H.flatten.Perm H'.flatten):bV H H':=⟨[],by simpa using h⟩
theorem Gk{t:TypeId}{s:ByteArray}{lo d:Nat}{i e:Option Operand}{a:Act}{w:World}(p:dy a env) [ut:bL P t .string](f:eG env i 0 lo)(b:eG env e s.size d)(j:lo<=d)(l:d<=s.size):
  (Instr.sliceAt t (.string s) (i.map a.eval) (e.map a.eval) none).run P w=.ok (.string (s.extract lo d)) w:=by
 have c:∀{x:Operand} {k:IntKind} {y n:Nat} {code:BoundsCode},ev env x=some (.int k n)->n<=y->(Instr.sliceBound (a.eval x) y code).run P w=.ok n w:=λu r=>run_sliceBound (p.eval u) r
 unfold Instr.sliceAt
 simp only[Sem.run_bind,run_underlying ut.h,Result.andThen_ok]
 unfold Instr.slice
 simp only[Sem.run_bind,run_underlying ut.h,Result.andThen_ok]
 unfold Instr.sliceBounds
 cases i with
 |none=>
  simp only[eG]at f
  subst f
  cases e with
  |none=>simp only[eG]at b;subst b;simp
  |some o=>obtain⟨k,g⟩:=b;simp[c g l]
 |some q=>
  obtain⟨v,m⟩:=f
  cases e with
  |none=>simp only[eG]at b;subst b;simp[c m j]
  |some o=>obtain⟨k,g⟩:=b;simp[c g l,c m j]
theorem bd.GB{x:Operand}{f e:Option Operand}{t:TypeId}{s:ByteArray}(lo b:Nat) [ut:bL P t .string](h:eG env f 0 lo)(i:eG env e s.size b)(j:lo<=b)(k:b<=s.size)(l:ev env x=some (.string s):=by rfl):
  bd P R env H (.slice t x f e none) ty (.string (s.extract lo b)):=λa w d n m g c _ _=>by
 have:=Gk (P:=P) (w:=w) (s:=s) c h i j k (t:=t)
 simp only[execOp,c.eval l,Option.map_none]
 rw[Sem.run_bind,this]
 rfl
theorem aM.cj{d t:Nat}{f:FuncId}{first captured:List Value} [e:aI P f]{xs:List Operand}{a:Array TypeId}{vs:List Value}{Post:Value->Prop}
  (i:Spec P f (first++vs++captured) (Rx R H) [] λv H'=>Post v/\H'=[])(g:∀v,Post v->aM false P N R ops l ((d,v)::env) H K)
  (j:Env.get? env t=some (.func (.func f) first.toArray captured.toArray):=by rfl)(hxs:fu env xs=some vs:=by rfl)(c:Nat.blt d N=true:=by rfl):
  aM false P N R ops (⟨some d,.call ⟨.value (.tmp t),xs.toArray,a⟩,ty,pos,af,none⟩::l) env H K:=
 aM.tG [] (first:=first) (captured:=captured) j i (λv H' h=>by obtain⟨b,rfl⟩:=h;exact g v b) hxs c
theorem s0{a:Act}{j t:Nat}(c:dy a env)(b:gk ops j=some t)(d:Env.get? env t=some undef):yielded ops a.tmps j=none:=by
 unfold gk at b
 have:=c t _ d
 simp[yielded,b,this,undef]
theorem aM.ca{j t d:Nat}{c:Bool}{op:Op}(o:Env.get? env t=some undef)(n:aM m P N R ops l ((d,undef)::env) H K)(k:gk ops j=some t:=by rfl)(i:Nat.blt d N=true:=by rfl):
  aM m P N R ops (⟨some d,op,ty,pos,af,some (j,c)⟩::l) env H K:=λf p e g a w s=>by
 have b:¬Region.wanted ⟨some d,op,ty,pos,af,some (j,c)⟩ (yielded ops a.tmps)=true:=by
  simp[Region.wanted,s0 s.env k o]
 have h:=n f p e g _ w (s.put undef i)
 cases m
 ·simp only[wpList]
  rw[aaz b]
  exact h
 ·simp only[wpStill]
  rw[aaz b]
  exact h
theorem aM.jS{d:Nat}{x:Operand}{c b:Option Operand}{t e:TypeId}{sz:Nat}{α:Type}{enc:α->List Value}{v:Value}{xs:List α}(lo a:Nat)(h:RS R' sz enc v xs) [ut:bL P t (.slice e)] [s:Sz P e sz](i:eG env c 0 lo)(j:eG env b xs.length a)(k:lo<=a)(n:a<=xs.length)
  (p:∀v',RS R' sz enc v' ((xs.drop lo).take (a-lo))->aM m P N R ops l ((d,v')::env) H K)(r:ev env x=some v:=by rfl)(o:Nat.blt d N=true:=by rfl):
  aM m P N R ops (⟨some d,.slice t x c b none,ty,pos,af,none⟩::l) env H K:=by
 obtain⟨v',f,g⟩:=bd.jS (P:=P) (R:=R) (H:=H) (ty:=ty) (t:=t) lo a h i j k n r
 exact aM.q g (p v' f) o
end
end
section
section
variable{P:Program}{N:Nat}{R R':aA}{ops:Array Oper}{l:List Oper}{env:Env}{H:aS}{K:Env->aS->Prop}{Q:Exit->Env->aS->Prop}{T:ay}{upd:ay->aS}{ty:TypeId}{pos:String}{af:Array Edge}{m:Bool}
theorem bd.cast{op:Op}{v v':Value}(h:bd P R env H op ty v)(e:v=v'):bd P R env H op ty v':=e▸h
theorem RS.Gs{α:Type}{sz:Nat}{enc:α->List Value}{v:Value}{xs:List α}(h:RS (sg T) sz enc v xs) [c:dQ H T upd]:RS (Rx R H) sz enc v xs:=h.mono λb o a=>.inr (c.mem (b,o) a)
theorem RS.left{α:Type}{T1 T2:ay}{sz:Nat}{enc:α->List Value}{v:Value}{xs:List α}(h:RS (sg T1) sz enc v xs):RS (sg (T1++T2)) sz enc v xs:=h.mono λb o a=>abG _ a
theorem RS.right{α:Type}{T1 T2:ay}{sz:Nat}{enc:α->List Value}{v:Value}{xs:List α}(h:RS (sg T2) sz enc v xs):RS (sg (T1++T2)) sz enc v xs:=h.mono λb o a=>List.mem_append_right _ a
theorem OS.sg{α:Type}{E sz:Nat}{enc:α->List Value}{v:Value}{xs:List α}(h:OS E sz enc v xs T):RS (Go.Proofs.YtgppncmdpcefhaaGreatDoor.sg T) sz enc v xs:=h.rs λ_ a=>a
theorem RA.kA{e:aS}{b c:List Nat}{d j t:Nat}{o:Bool}{op:Op}(i:Nat)(k:ops[i]? =some ⟨some d,op,ty,pos,af,some (j,o)⟩)(n:Env.get? env t=some undef)
  (g:tk false ops b c i=true)(m:RA P N R ops e b (i::c) ((d,undef)::env) H K)(l:gk ops j=some t:=by rfl)(h:Nat.blt d N=true:=by rfl):RA P N R ops e b c env H K:=
 RA.mu false i k (λa f=>.inr ⟨by simp[Region.wanted,s0 f l n],rfl⟩) g λa w q p s=>⟨_,s.put _ h,m⟩
theorem RA.iA{a:aS}{c e:List Nat}{d j t:Nat}{f b:Bool}{op:Op}{v:Value}(i:Nat)(l:ops[i]? =some ⟨some d,op,ty,pos,af,some (j,f)⟩)(p:Env.get? env t=some (.bool b))(g:b=f)(o:bd P R env a op ty v)
  (h:tk true ops c e i=true)(n:RA P N R ops a c (i::e) ((d,v)::env) H K)(m:gk ops j=some t:=by rfl)(k:Nat.blt d N=true:=by rfl):RA P N R ops a c e env H K:=
 RA.G4 i l (g▸p) o h n m k
end
abbrev bl(b:Nat)(cs:List Value)(t:TypeId):ay:=[(b,.cells cs.toArray t (0,0))]
abbrev sZ:Value:=.slice none 0 0
abbrev pT(b:Nat):Value:=.pointer (some ⟨b,0,none⟩)
abbrev iN(n:Nat):Value:=.int .i64 (n:Int)
section
variable{P:Program}{N:Nat}{R:aA}{ops:Array Oper}{l:List Oper}{env:Env}{H Ho:aS}{Ms done:List Nat}{K:Env->aS->Prop}{m:Bool}{d:Nat}{ty:TypeId}{pos:String}{af:Array Edge}
theorem aM.ia{op:Op}{z:Int}(c:Nat)(h:bd P R env H op ty (.int .i64 (IntKind.i64.wrap z)))(b:aM m P N R ops l ((d,.int .i64 ((c:Nat):Int))::env) H K)(e:z=(c:Int)/\ -9223372036854775808<=(c:Int)/\(c:Int)<=9223372036854775807:=by(refine⟨?_,?_,?_⟩<;>omega))(a:Nat.blt d N=true:=by rfl):aM m P N R ops (⟨some d,op,ty,pos,af,none⟩::l) env H K:=.q (.i64 (c:Int) h e) b a
theorem RA.tK{op:Op}{v:Value}(i:Nat)(c:ops[i]? =some ⟨some d,op,ty,pos,af,none⟩)(f:bd P R env [] op ty v)(e:RA P N R ops Ho Ms (i::done) ((d,v)::env) H K)(a:tk false ops Ms done i=true:=by kernel_rfl)(b:Nat.blt d N=true:=by rfl):RA P N R ops Ho Ms done env H K:=.take i c f a e b
theorem RA.tO{op:Op}{v:Value}(i:Nat)(c:ops[i]? =some ⟨some d,op,ty,pos,af,none⟩)(f:bd P R env Ho op ty v)(e:RA P N R ops Ho Ms (i::done) ((d,v)::env) H K)(a:tk true ops Ms done i=true:=by kernel_rfl)(b:Nat.blt d N=true:=by rfl):RA P N R ops Ho Ms done env H K:=.cH i c f a e b
theorem RA.sT{o:Oper}(i:Nat)(a:ops[i]? =some o)(h:aM false P N R ops [o] env H (Next P N R ops Ho Ms done K i))(c:Region.ready .any ops (marked ops.size done)=[i]:=by kernel_rfl)(b:Nat.blt done.length ops.size=true:=by rfl):RA P N R ops Ho Ms done env H K:=.step i a c b h
theorem br{Post:Value->aS->Prop}{t:Nat}{v:Value}(h:Env.get? env t=some v)(a:Post v []):nm P R [.tmp t] Post .ret env H:=aZ v (.one (.tmp h)) (.none _) a
theorem H5:∀b o,R b o->Rx R H b o:=λ_ _ h=>.inl h
end
theorem de{a b:Nat}(h:decide ((a:Int)<(b:Int))=true):a<b:=by have:=of_decide_eq_true h;omega
theorem HV{a b:Nat}(h:decide ((a:Int)<(b:Int))=false):b<=a:=by have:=of_decide_eq_false h;omega
theorem eL{α:Type}{l:List α}{i:Nat}(h:i<l.length):∃x,l[i]? =some x:=⟨_,aaL h⟩
theorem aC{α:Type}{l:List α}{i:Nat}(h:i<l.length):l[i]? =some l[i]:=aaL h
theorem aF{α:Type}{l:List α}{i:Nat}{a:α}(h:l[i]? =some a):a∈l:=aaV h
theorem bo{p:Prop} [i:Decidable p](h:decide p=true):p:=of_decide_eq_true h
theorem aY{p:Prop} [i:Decidable p](h:decide p=false):¬p:=of_decide_eq_false h
theorem rH{H:aS}:bV H H:=.refl _
theorem cu(is:List Nat){H:aS}:bV H (take is H):=.pick is H
end
section
variable{α:Type}
inductive RP(a b:Nat):List α->List α->Prop
 |refl (xs:List α):RP a b xs xs
 |step {xs ys:List α} {i j:Nat}:RP a b xs ys->a<=i->i<b->a<=j->j<b->b<=ys.length->RP a b xs (bn ys i j)
section
variable{a b a' b':Nat}{xs ys zs:List α}
theorem RP.length(h:RP a b xs ys):ys.length=xs.length:=by
 induction h with
 |refl=>rfl
 |step _ _ _ _ _ _ ih=>rw[eI,ih]
theorem RP.perm(h:RP a b xs ys):ys.Perm xs:=by
 induction h with
 |refl=>exact .refl _
 |step _ _ _ _ _ _ ih=>exact mq.trans ih
theorem RP.out(h:RP a b xs ys){k:Nat}(c:k<a\/b<=k):ys[k]? =xs[k]? :=by
 induction h with
 |refl=>rfl
 |step _ h1 h2 h3 h4 h5 ih=>rw[cX (by omega) (by omega),aaz (by omega),aaz (by omega),ih]
theorem RP.all(h:RP a b xs ys){p:α->Prop}(f:∀(k:Nat) (x:α),a<=k->k<b->xs[k]? =some x->p x):∀(k:Nat) (x:α),a<=k->k<b->ys[k]? =some x->p x:=by
 induction h with
 |refl=>exact f
 |step _ h1 h2 h3 h4 h5 ih=>
  intro k x d e c
  rw[cX (by omega) (by omega)]at c
  split at c
  ·exact ih _ x h1 h2 c
  ·split at c
   ·exact ih _ x h3 h4 c
   ·exact ih k x d e c
theorem RP.trans(h:RP a b xs ys)(c:RP a b ys zs):RP a b xs zs:=by
 induction c with
 |refl=>exact h
 |step _ h1 h2 h3 h4 h5 ih=>exact .step ih h1 h2 h3 h4 h5
theorem RP.mono(h:RP a b xs ys)(c:a'<=a)(d:b<=b')(e:b'<=xs.length):RP a' b' xs ys:=by
 induction h with
 |refl=>exact .refl _
 |step h0 h1 h2 h3 h4 h5 ih=>exact .step ih (by omega) (by omega) (by omega) (by omega) (by rw[h0.length];omega)
theorem RP.one{i j:Nat}(c:a<=i)(d:i<b)(e:a<=j)(f:j<b)(g:b<=xs.length):RP a b xs (bn xs i j):=.step (.refl xs) c d e f g
end
section
variable{lt:α->α->Bool}{a b a0 b0 mid:Nat}{xs ys zs:List α}
def SR(lt:α->α->Bool)(xs:List α)(a b:Nat):Prop:=∀i j,a<=i->i<j->j<b->eB lt xs i j
def OX(lt:α->α->Bool)(xs:List α)(a0 b0 a b:Nat):Prop:=∀i j,a0<=i->i<j->j<b0->(i<a\/b<=j)->eB lt xs i j
theorem OX.start:OX lt xs a0 b0 a0 b0:=λi j a b c d=>by omega
theorem OX.cZ(h:OX lt xs a0 b0 a b)(g:SR lt xs a b):SR lt xs a0 b0:=λi j d c e=>by
 by_cases f:i<a\/b<=j
 ·exact h i j d c e f
 ·exact g i j (by omega) c (by omega)
theorem OX.rp(h:OX lt xs a0 b0 a b)(c:RP a b xs ys)(r:a0<=a)(s:b<=b0):OX lt ys a0 b0 a b:=λi j f n g h4 x y d e=>by
 rcases h4 with h4|h4
 ·rw[c.out (.inl h4)]at d
  by_cases l:j<a\/b<=j
  ·rw[c.out l]at e
   exact h i j f n g (.inl h4) x y d e
  ·exact c.all (p:=λy=>lt y x=false) (λk z o q m=>h i k f (by omega) (by omega) (.inl h4) x z d m) j y (by omega) (by omega) e
 ·rw[c.out (.inr h4)]at e
  by_cases l:i<a\/b<=i
  ·rw[c.out l]at d
   exact h i j f n g (.inr h4) x y d e
  ·exact c.all (p:=λx=>lt y x=false) (λk z o q m=>h k j (by omega) (by omega) g (.inr h4) z y m e) i x (by omega) (by omega) d
structure Part(lt:α->α->Bool)(xs:List α)(a mid b:Nat)(p:α):Prop where
 lo:a<=mid
 hi:mid<b
 at_:xs[mid]? =some p
 left:∀(k:Nat) (x:α),a<=k->k<mid->xs[k]? =some x->lt x p=true
 right:∀(k:Nat) (x:α),mid<k->k<b->xs[k]? =some x->lt x p=false
theorem Part.Ga{p:α}(h:Part lt xs a mid b p)(c:RP a mid xs ys):Part lt ys a mid b p:=
 ⟨h.lo,h.hi,by rw[c.out (.inr (aa7 _))];exact h.at_,c.all h.left,λk x d e f=>h.right k x d e (by rw[<-c.out (.inr (by omega))];exact f)⟩
theorem Part.Gb{p:α}(h:Part lt xs a mid b p)(d:RP (mid+1) b xs ys):Part lt ys a mid b p:=
 ⟨h.lo,h.hi,by rw[d.out (.inl (by omega))];exact h.at_,λk x f c e=>h.left k x f c (by rw[<-d.out (.inl (by omega))];exact e),
  λk x f c e=>d.all (p:=λx=>lt x p=false) (λk x i g=>h.right k x (by omega) g) k x (by omega) c e⟩
theorem Part.pair(k:SO lt){p:α}(h:Part lt xs a mid b p){i j:Nat}(l:a<=i)(m:i<j)(e:j<b)(n:i<=mid)(o:mid<=j):eB lt xs i j:=λx y d c=>by
 rcases aaQ i mid with hi|hi
 ·have f:=h.left i x l hi d
  rcases aaQ mid j with hj|hj
  ·have g:=h.right j y hj e c
   cases hc:lt y x with
   |false=>rfl
   |true=>rw[k.tr _ _ _ hc f]at g;cases g
  ·have:j=mid:=by omega
   subst this
   rw[h.at_]at c;cases c
   exact k.gx f
 ·have:i=mid:=by omega
  subst this
  rw[h.at_]at d;cases d
  exact h.right j y (by omega) e c
theorem OX.left(s:SO lt){p:α}(h:OX lt xs a0 b0 a b)(d:Part lt xs a mid b p)(e:RP a mid xs ys)(r:SR lt ys a mid)(l:a0<=a)(m:b<=b0)(n:b<=xs.length):OX lt ys a0 b0 (mid+1) b:=λi j f c g t=>by
 have o:=h.rp (e.mono (aa7 a) (Nat.le_of_lt d.hi) n) l m
 have q:=d.Ga e
 by_cases k:i<a\/b<=j
 ·exact o i j f c g k
 ·rcases aaQ j mid with hj|hj
  ·exact r i j (by omega) c hj
  ·exact q.pair s (by omega) c (by omega) (by omega) hj
theorem OX.right(s:SO lt){p:α}(h:OX lt xs a0 b0 a b)(d:Part lt xs a mid b p)(e:RP (mid+1) b xs ys)(r:SR lt ys (mid+1) b)(l:a0<=a)(m:b<=b0)(n:b<=xs.length):OX lt ys a0 b0 a mid:=λi j f c g t=>by
 have u:=d.lo
 have o:=h.rp (e.mono (by omega) (aa7 b) n) l m
 have q:=d.Gb e
 by_cases k:i<a\/b<=j
 ·exact o i j f c g k
 ·rcases aaQ mid i with hi|hi
  ·exact r i j (by omega) c (by omega)
  ·exact q.pair s (by omega) c (by omega) hi (by omega)
structure jG(lt:α->α->Bool)(xs:List α)(a mid b:Nat)(p:α):Prop where
 lo:a<mid
 hi:mid<=b
 left:∀(k:Nat) (x:α),a<=k->k<mid->xs[k]? =some x->lt x p=false/\lt p x=false
 right:∀(k:Nat) (x:α),mid<=k->k<b->xs[k]? =some x->lt p x=true
theorem OX.eqs(g:SO lt){p:α}(h:OX lt xs a0 b0 a b)(e:jG lt xs a mid b p):OX lt xs a0 b0 mid b:=λi j k l m s=>by
 by_cases n:i<a\/b<=j
 ·exact h i j k l m n
 ·intro x y o f
  obtain⟨q,c⟩:=e.left i x (by omega) (by omega) o
  rcases aaQ j mid with hj|hj
  ·obtain⟨d,r⟩:=e.left j y (by omega) hj f
   exact g.dW _ _ _ d c
  ·have d:=e.right j y hj (by omega) f
   cases hc:lt y x with
   |false=>rfl
   |true=>rw[g.tr _ _ _ d hc]at c;cases c
def fg(lt:α->α->Bool)(xs:List α)(a j n:Nat):Prop:=∀i k,a<=i->i<k->k<n->k≠j->eB lt xs i k
theorem SR.ins(h:SR lt xs a b):fg lt xs a b (b+1):=λi k c d e f=>h i k c d (by omega)
theorem fg.done(o:SO lt){j n:Nat}(h:fg lt xs a j n)(r:n<=xs.length)(q:j<n)(he:j=a\/a<j/\eB lt xs (j-1) j):SR lt xs a n:=λi k b e f=>by
 by_cases c:k=j
 ·subst c
  rcases he with he|⟨p,he⟩
  ·omega
  ·by_cases g:i=k-1
   ·subst g;exact he
   ·intro x y l m
    have d:xs[k-1]? =some (xs[k-1]'(by omega)):=aC _
    exact o.dW _ _ _ (he _ y d m) (h i (k-1) b (by omega) (by omega) (by omega) x _ l d)
 ·exact h i k b e f c
theorem fg.step(t:SO lt){j n:Nat}(h:fg lt xs a j n)(A:n<=xs.length)(z:j<n)(w:a<j){x y:α}(r:xs[j]? =some x)(s:xs[j-1]? =some y)(q:lt x y=true):fg lt (bn xs j (j-1)) a (j-1) n:=λi k f p d e=>by
 have g:=λk=>cX (L:=xs) (i:=j) (k:=j-1) (by omega) (by omega) k
 by_cases b:k=j
 ·subst b
  by_cases c:i=k-1
  ·subst c
   intro u v m o
   rw[g,aaA rfl,r]at m
   rw[g,aaz (by omega),aaA rfl,s]at o
   cases m;cases o
   exact t.gx q
  ·refine(h i (k-1) f (by omega) (by omega) (by omega)).eV ?_ ?_
   ·rw[g,aaz c,aaz (by omega)]
   ·rw[g,aaz (by omega),aaA rfl]
 ·by_cases c:i=j
  ·subst c
   refine(h (i-1) k (by omega) (by omega) d b).eV ?_ ?_
   ·rw[g,aaz (by omega),aaA rfl]
   ·rw[g,aaz e,aaz b]
  ·by_cases l:i=j-1
   ·subst l
    refine(h j k (by omega) (by omega) d b).eV ?_ ?_
    ·rw[g,aaA rfl]
    ·rw[g,aaz e,aaz b]
   ·refine(h i k f p d b).eV ?_ ?_
    ·rw[g,aaz l,aaz c]
    ·rw[g,aaz e,aaz b]
end
end
section
variable{α:Type}
def cf(P:Program)(f:FuncId)(caps:List Value)(R:aA)(pk:α->Value)(c:α->α->Int)(ok:α->Prop):Prop:=
 ∀x y,ok x->ok y->∀R',(∀b o,R b o->R' b o)->Spec P f ([pk x,pk y]++caps) R' [] λv H'=>v=.int .i64 (c x y)/\H'=[]
theorem cf.mono{P:Program}{f:FuncId}{caps:List Value}{R R':aA}{a:α->Value}{c:α->α->Int}{ok:α->Prop}(h:cf P f caps R a c ok)(i:∀b o,R b o->R' b o):cf P f caps R' a c ok:=λx y j k d e=>h x y j k d λb o g=>e b o (i b o g)
def ap(c:α->α->Int)(x y:α):Bool:=decide (c x y<0)
def dI(lt:α->α->Bool)(L:List α)(n lo:Nat):Prop:=∀k,0<k->k<n->lo<=aX k->eB lt L (aX k) k
structure ew(lt:α->α->Bool)(L:List α)(n lo i:Nat):Prop where
 e:∀k,0<k->k<n->k≠i->aX k≠i->lo<=aX k->eB lt L (aX k) k
 b:∀k,0<k->k<n->aX k=i->0<i->lo<=aX i->eB lt L (aX i) k
 u:0<i->lo<=aX i->eB lt L (aX i) i
section
variable{lt:α->α->Bool}{L:List α}{n i j lo:Nat}
theorem ew.step(E:SO lt)(h:ew lt L n lo i)(G:lo<=i)(t:0<j)(A:j<n)(H:n<=L.length)(q:aX j=i){x y:α}(w:L[j]? =some x)(D:L[i]? =some y)(B:lt x y=true)
  (C:∀c z,0<c->c<n->aX c=i->L[c]? =some z->lt z x=false):ew lt (bn L i j) n lo j:=by
 have F:i<j:=q▸dO t
 have g:=λk=>cX (L:=L) (i:=i) (k:=j) (by omega) (by omega) k
 refine⟨λk a p f s r=>?_,λk a p s _ r=>?_,λ_ _=>?_⟩
 ·by_cases d:k=i
  ·subst d
   have I:=dO a
   refine(h.b j t A q a r).eV ?_ ?_
   ·rw[g,aaz (by omega),aaz (by omega)]
   ·rw[g,aaz f,aaA rfl]
  ·by_cases o:aX k=i
   ·intro u v l m
    rw[o,g,aaz (by omega),aaA rfl,w]at l
    rw[g,aaz f,aaz d]at m
    cases l
    exact C k v a p o m
   ·refine(h.e k a p d o r).eV ?_ ?_
    ·rw[g,aaz s,aaz o]
    ·rw[g,aaz f,aaz d]
 ·have f:k≠j:=by have:=dO a;omega
  have d:k≠i:=by have:=dO a;omega
  refine(h.e k a p d (by omega) (by omega)).eV ?_ ?_
  ·rw[q,s,g,aaz (by omega),aaA rfl]
  ·rw[g,aaz f,aaz d]
 ·intro u v l m
  rw[q,g,aaz (by omega),aaA rfl,w]at l
  rw[g,aaA rfl,D]at m
  cases l;cases m
  exact E.gx B
theorem ew.stop(h:ew lt L n lo i)(j:∀c,0<c->c<n->aX c=i->eB lt L i c):dI lt L n lo:=λk b d g=>by
 by_cases a:aX k=i
 ·rw[a];exact j k b d a
 ·by_cases f:k=i
  ·subst f;exact h.u b g
  ·exact h.e k b d f a g
theorem dI.hole(h:dI lt L n (lo+1)):ew lt L n lo lo:=
 ⟨λk c b _ f e=>h k c b (by omega),λk _ _ _ a d=>by have:=dO a;omega,λa d=>by have:=dO a;omega⟩
theorem dI.kX(h:dI lt L (n+1) 0){b:List α}(c:∀k,0<k->k<n->b[k]? =L[k]?):ew lt b n 0 0:=
 ⟨λk a e _ f _=>by
  have:=dO a
  exact(h k a (by omega) (Nat.zero_le _)).eV (c _ (by omega) (by omega)) (c _ a e),λk _ _ _ d _=>by omega,λd _=>by omega⟩
theorem dI.top(c:SO lt)(h:dI lt L n 0)(i:n<=L.length){x:α}(g:L[0]? =some x):∀(k:Nat) (y:α),k<n->L[k]? =some y->lt y x=false:=by
 intro k
 induction k using Nat.strongRecOn with
 |_ k ih=>
  intro y e a
  by_cases d:k=0
  ·subst d;rw[g]at a;cases a;exact c.cP _
  ·have f:=dO (k:=k) (by omega)
   have b:L[aX k]? =some (L[aX k]'(by omega)):=aC _
   exact c.dW _ _ _ (h k (by omega) e (Nat.zero_le _) _ y b a) (ih (aX k) f _ (by omega) b)
theorem SO.rev(c:SO lt):SO (λx y=>lt y x):=⟨c.cP,λx y z a b=>c.tr _ _ _ b a,λx y z a b=>c.dW _ _ _ b a⟩
theorem cQ(xs:List α)(f k:Nat):(xs.drop f)[k]? =xs[f+k]? :=by rw[abx]
theorem hS{xs:List α}{f i j:Nat}(c:f+i<xs.length)(d:f+j<xs.length):(bn xs (f+i) (f+j)).drop f=bn (xs.drop f) i j:=by
 apply abh
 intro k
 rw[cQ,cX c d,cX (by rw[List.length_drop];omega) (by rw[List.length_drop];omega),cQ,cQ,cQ]
 by_cases a:k=j
 ·subst a;simp
 ·by_cases b:k=i
  ·subst b;simp[a]
  ·rw[aaz (by omega),aaz (by omega),aaz a,aaz b]
theorem OX.last{xs:List α}{a b m:Nat}{x:α}(h:OX lt xs a b a (m+1))(l:a<=m)(q:m+1<=b)(A:b<=xs.length)(t:xs[a]? =some x)(r:∀(k:Nat) (y:α),a<=k->k<=m->xs[k]? =some y->lt x y=false):OX lt (bn xs a m) a b a m:=λi j c f g z=>by
 have d:RP a (m+1) xs (bn xs a m):=RP.one (aa7 _) (by omega) l (by omega) (by omega)
 by_cases n:m+1<=j
 ·exact h.rp d (aa7 _) q i j c f g (.inr n)
 ·have:j=m:=by omega
  subst this
  intro u w s e
  rw[cX (by omega) (by omega),aaA rfl,t]at e
  cases e
  exact d.all (p:=λy=>lt x y=false) (λk y o B v=>r k y o (by omega) v) i u c (by omega) s
end
end
section
section
variable{P:Program}{R:aA}{env:Env}{H:aS}{ty:TypeId}{x y:Operand}{t u:TypeId}{k k2:IntKind}{m n:Int}
theorem bd.kG(c:ev env x=some (.int k m):=by rfl)(e:ev env y=some (.int k n):=by rfl):bd P R env H (.binOp .and t x y u) ty (.int k (k.wrap (BitVec.ofInt k.bits m&&&BitVec.ofInt k.bits n).toNat)):=λa w d h f g b _ _=>by
 simp[execOp,b.eval c,b.eval e,eqGuard,binOp,Op.intBits]
theorem bd.eo(c:ev env x=some (.int k m):=by rfl)(e:ev env y=some (.int k n):=by rfl):bd P R env H (.binOp .or t x y u) ty (.int k (k.wrap (BitVec.ofInt k.bits m|||BitVec.ofInt k.bits n).toNat)):=λa w d h f g b _ _=>by
 simp[execOp,b.eval c,b.eval e,eqGuard,binOp,Op.intBits]
theorem bd.o5(c:ev env x=some (.int k m):=by rfl)(e:ev env y=some (.int k n):=by rfl):bd P R env H (.binOp .xor t x y u) ty (.int k (k.wrap (BitVec.ofInt k.bits m^^^BitVec.ofInt k.bits n).toNat)):=λa w d h f g b _ _=>by
 simp[execOp,b.eval c,b.eval e,eqGuard,binOp,Op.intBits]
theorem bd.nz(c:ev env x=some (.int k m):=by rfl)(e:ev env y=some (.int k2 n):=by rfl)(i:0<=n:=by first|decide|omega):bd P R env H (.binOp .shl t x y u) ty (.int k (k.wrap (m*2^(min n.toNat k.bits)))):=λa w d j f g b _ _=>by
 have h:¬n<0:=by omega
 simp[execOp,b.eval c,b.eval e,eqGuard,binOp,Op.shift,h]
theorem bd.sk(c:ev env x=some (.int k m):=by rfl)(e:ev env y=some (.int k2 n):=by rfl)(i:0<=n:=by first|decide|omega):bd P R env H (.binOp .shr t x y u) ty (.int k (m.fdiv (2^(min n.toNat k.bits)))):=λa w d j f g b _ _=>by
 have h:¬n<0:=by omega
 simp[execOp,b.eval c,b.eval e,eqGuard,binOp,Op.shift,h]
end
theorem gr{z:Int}(a:0<=z)(b:z<18446744073709551616):IntKind.u64.wrap z=z:=by
 have:IntKind.u64.wrap z=z % 18446744073709551616:=by simp[IntKind.wrap,IntKind.bits,IntKind.signed]
 rw[this];omega
theorem lE{z:Int}(a: -9223372036854775808<=z)(b:z<=9223372036854775807):IntKind.i64.wrap z=z:=IntWalk.i64_in _ (by omega)
theorem kH{z q:Int}(a:0<=q)(b:q<18446744073709551616):0<=IntKind.u64.wrap (BitVec.ofInt IntKind.u64.bits z&&&BitVec.ofInt IntKind.u64.bits q).toNat/\IntKind.u64.wrap (BitVec.ofInt IntKind.u64.bits z&&&BitVec.ofInt IntKind.u64.bits q).toNat<=q:=by
 have e:(BitVec.ofInt IntKind.u64.bits q).toNat=q.toNat:=by
  simp[IntKind.bits,BitVec.toNat_ofInt];omega
 have c:(BitVec.ofInt IntKind.u64.bits z&&&BitVec.ofInt IntKind.u64.bits q).toNat<=q.toNat:=by
  rw[BitVec.toNat_and, <-e];exact Nat.and_le_right
 rw[gr (by omega) (by omega)]
 omega
end
section
variable{α:Type}{lt:α->α->Bool}{a b i j:Nat}{xs ys:List α}
def LB(lt:α->α->Bool)(xs:List α)(a b:Nat):Prop:=0<a->∀k,a<=k->k<b->eB lt xs (a-1) k
theorem LB.rp(h:LB lt xs a b)(d:RP a b xs ys):LB lt ys a b:=λf k g i x y e c=>by
 rw[d.out (.inl (by omega))]at e
 exact d.all (p:=λy=>lt y x=false) (λk y j l c=>h f k j l x y e c) k y g i c
theorem SR.snoc(d:SO lt)(h:SR lt xs a i)(c:a<i)(e:i<xs.length)(b:eB lt xs (i-1) i):SR lt xs a (i+1):=h.ins.done d (by omega) (by omega) (.inr ⟨c,b⟩)
theorem SR.lC{p q:Nat}(h:SR lt xs a i)(g:i<=p)(j:i<=q)(b:p<xs.length)(c:q<xs.length):SR lt (bn xs p q) a i:=λu w d e f=>
 (h u w d e f).eV (by rw[cX b c,aaz (by omega),aaz (by omega)]) (by rw[cX b c,aaz (by omega),aaz (by omega)])
theorem SR.lB(h:SR lt xs a i)(b:i<xs.length):fg lt (bn xs i (i-1)) a (i-1) i:=λu w c d e f=>
 (h u w c d e).eV (by rw[cX b (by omega),aaz (by omega),aaz (by omega)]) (by rw[cX b (by omega),aaz (by omega),aaz (by omega)])
theorem OX.lb{c d:Nat}(h:OX lt xs c d a b)(i:LB lt xs c d)(l:c<=a)(m:b<=d):LB lt xs a b:=λe k f j=>by
 by_cases g:a=c
 ·subst g;exact i e k f (by omega)
 ·exact h (a-1) k (by omega) (by omega) (by omega) (.inl (by omega))
end
section
section
variable{α:Type}{lt:α->α->Bool}{q:α->Bool}{ys:List α}{a b i j:Nat}{p:α}
structure PQ(q:α->Bool)(ys:List α)(a i j b:Nat)(p:α):Prop where
 i0:a<i
 ij:i<=j+1
 jb:j<b
 at_:ys[a]? =some p
 left:∀(k:Nat) (x:α),a<k->k<i->ys[k]? =some x->q x=true
 right:∀(k:Nat) (x:α),j<k->k<b->ys[k]? =some x->q x=false
theorem PQ.start(e:a<b)(h:ys[a]? =some p):PQ q ys a (a+1) (b-1) b p:=
 ⟨Nat.lt_succ_self _,by omega,by omega,h,λk x c d=>by omega,λk x c d=>by omega⟩
theorem PQ.inc(h:PQ q ys a i j b p)(l:i<=j){x:α}(f:ys[i]? =some x)(e:q x=true):PQ q ys a (i+1) j b p:=
 ⟨by have:=h.i0;omega,by omega,h.jb,h.at_,λk y d g c=>by
  rcases aaQ k i with hk|hk
  ·exact h.left k y d hk c
  ·have:k=i:=by omega
   subst this
   rw[f]at c;cases c;exact e,h.right⟩
theorem PQ.dec(h:PQ q ys a i j b p)(l:i<=j){x:α}(f:ys[j]? =some x)(e:q x=false):PQ q ys a i (j-1) b p:=
 ⟨h.i0,by have:=h.i0;omega,by have:=h.jb;omega,h.at_,h.left,λk y g d c=>by
  rcases aaQ j k with hk|hk
  ·exact h.right k y hk d c
  ·have:k=j:=by omega
   subst this
   rw[f]at c;cases c;exact e⟩
theorem PQ.sw(h:PQ q ys a i j b p)(s:i<=j)(t:b<=ys.length){x y:α}(r:ys[i]? =some x)(l:ys[j]? =some y)(o:q x=false)(f:q y=true):i<j/\PQ q (bn ys i j) a (i+1) (j-1) b p:=by
 have v:=h.i0
 have w:=h.jb
 have u:i≠j:=λe=>by
  subst e
  rw[r]at l;cases l
  rw[o]at f;cases f
 have g:=λk=>cX (L:=ys) (i:=i) (k:=j) (by omega) (by omega) k
 refine⟨by omega,by omega,by omega,by omega,?_,λk z m n c=>?_,λk z m n c=>?_⟩
 ·rw[g,aaz (by omega),aaz (by omega)];exact h.at_
 ·rw[g,aaz (by omega)]at c
  by_cases d:k=i
  ·rw[aaA d,l]at c;cases c;exact f
  ·rw[aaz d]at c;exact h.left k z m (by omega) c
 ·rw[g]at c
  by_cases d:k=j
  ·rw[aaA d,r]at c;cases c;exact o
  ·rw[aaz d,aaz (by omega)]at c;exact h.right k z (by omega) n c
theorem PQ.fin(h:PQ (λx=>lt x p) ys a i j b p)(m:j<i)(n:b<=ys.length):Part lt (bn ys j a) a j b p:=by
 have o:=h.i0
 have q:=h.ij
 have l:=h.jb
 have g:=λk=>cX (L:=ys) (i:=j) (k:=a) (by omega) (by omega) k
 refine⟨by omega,l,?_,λk z e f c=>?_,λk z e f c=>?_⟩
 ·rw[g]
  by_cases d:j=a
  ·rw[aaA d,d];exact h.at_
  ·rw[aaz d,aaA rfl];exact h.at_
 ·rw[g]at c
  by_cases d:k=a
  ·rw[aaA d]at c
   exact h.left j z (by omega) (by omega) c
  ·rw[aaz d,aaz (by omega)]at c
   exact h.left k z (by omega) (by omega) c
 ·rw[g,aaz (by omega),aaz (by omega)]at c
  exact h.right k z e f c
theorem PQ.kU(m:SO lt)(h:PQ (λx=> !lt p x) ys a i j b p)(n:j<i)(g:∀(k:Nat) (x:α),a<=k->k<b->ys[k]? =some x->lt x p=false):jG lt ys a i b p:=by
 have l:=h.i0
 have o:=h.ij
 have q:=h.jb
 refine⟨l,by omega,λk z e d c=>⟨g k z e (by omega) c,?_⟩,λk z e d c=>?_⟩
 ·by_cases f:k=a
  ·subst f
   rw[h.at_]at c;cases c;exact m.cP _
  ·simpa using h.left k z (by omega) d c
 ·simpa using h.right k z (by omega) d c
theorem Part.lb(h:Part lt ys a j b p):LB lt ys (j+1) b:=λ_ k d e x y c f=>by
 rw[Nat.add_sub_cancel,h.at_]at c
 cases c
 exact h.right k y d e f
theorem LB.less(h:LB lt ys a b){c:Nat}(g:c<=b):LB lt ys a c:=λd k e f=>h d k e (by omega)
theorem LB.lc(j:SO lt)(h:LB lt ys a b)(c:0<a){x:α}(g:ys[a-1]? =some x)(f:lt x p=false):∀(k:Nat) (y:α),a<=k->k<b->ys[k]? =some y->lt y p=false:=λk y d e i=>
 j.dW _ _ _ (h c k d e x y g i) f
end
end
section
variable{κ β:Type} [DecidableEq κ]
def lJ(Rd:aA)(encK:κ->Value)(encV:β->Value)(m:Value)(M:List (κ×β))(it:Value)(todo:List κ)(k:κ)(u:β)(Ti:ay):Prop:=
 ∃(b:Nat) (es:Array MapEntry) (clock r:Nat) (seen:Array Nat) (e:MapEntry),m=.map (some b)/\Rd b (.map es clock)/\eJ encK encV es clock M/\it=pT r/\Ti=[(r,.mapIter (some b) clock (seen.push e.born) clock)]/\e∈es.toList/\e.key=encK k/\e.val=encV u/\
  todo=((es.toList.zip M).filter λp=> !(seen.push e.born).contains p.1.born).map (·.2.1)
omit [DecidableEq κ] in
theorem lJ.it{a:aA}{encK:κ->Value}{d:β->Value}{m:Value}{M:List (κ×β)}{it:Value}{todo:List κ}{k:κ}{u:β}{c:ay}(h:lJ a encK d m M it todo k u c):It a encK d m M it todo c:=by
 obtain⟨b,g,f,r,q,e,i,j,l,n,o,s,t,v,p⟩:=h
 exact⟨b,g,f,r,q.push e.born,i,j,l,n,o,p⟩
theorem qD(e:MapEntry):∀(l:List MapEntry),(l.map (·.born)).Nodup->e∈l->l.find? (·.born==e.born)=some e
 |[],_,h=>by cases h
 |x::l,hn,h=>by
  have a:=aa5.1 hn
  rcases aaF.1 h with rfl|h
  ·simp
  ·have:x.born≠e.born:=λb=>a.1 (aaM.2 ⟨e,h,b.symm⟩)
   simp[this,qD e l a.2 h]
section
variable{P:Program}{N:Nat}{R:aA}{ops:Array Oper}{l:List Oper}{env:Env}{H:aS}{K:Env->aS->Prop}{ty:TypeId}{pos:String}{af:Array Edge}{m:Bool}
variable{encK:κ->Value}{encV:β->Value}{mp:Value}{M:List (κ×β)}{T:ay}{upd:ay->aS}
theorem aM.E8{d:Nat}{x:Operand}{Rd:aA}{it:Value}{todo:List κ}{Ti:ay}(h:It Rd encK encV mp M it todo Ti) [sa:dQ H Ti upd](hrd:∀b o,Rd b o->Rx R H b o)(hx:ev env x=some it)
  (h0:todo=[]->aM false P N R ops l ((d,.tuple [.bool false].toArray)::env) H K)
  (hn:∀k u Ti',k∈todo->bX k M=some u->lJ Rd encK encV mp M it (todo.filter λk'=>decide (k'≠k)) k u Ti'->aM false P N R ops l ((d,.tuple [.bool true,encK k,encV u].toArray)::env) (upd Ti') K)(hd:Nat.blt d N=true:=by rfl):
  aM false P N R ops (⟨some d,.next x false,ty,pos,af,none⟩::l) env H K:=
 aM.kJ hd λa w ha s ro=>by
  obtain⟨b,es,clock,r,seen,rfl,h2,h3,rfl,rfl,h6⟩:=h
  obtain⟨H1,H2,e1,e2⟩:=sa.h
  have hb:=kw s ro _ _ (hrd _ _ h2)
  subst e1
  have hr:w.heap[r]? =some (.mapIter (some b) clock seen clock):=s.2 (r,_) (by simp)
  have hgi:(getObj r).run P w=.ok (.mapIter (some b) clock seen clock) w:=by simp[getObj,Sem.run,hr]
  have hl:=h3.fH.length
  have hbo:=h3.born
  -- what may come
  have hleft:es.filter (λe=> !seen.contains e.born)=((es.toList.filter λe=> !seen.contains e.born)).toArray:=by
   apply Array.toList_inj.1;rw[Array.toList_filter]
  have htodo:(es.toList.filter λe=> !seen.contains e.born).length=todo.length:=by
   rw[h6,abg]
   have:((es.toList.zip M).filter λp=> !seen.contains p.1.born).length=(((es.toList.zip M).map (·.1)).filter λe=> !seen.contains e.born).length:=by
    rw[List.filter_map,abg];rfl
   rw[this,List.map_fst_zip (by omega)]
  have hguard:(!seen.isEmpty&& !es.isEmpty&&es.all (λe=>decide (e.born≥clock)))=false:=by
   cases hes:es.toList with
   |nil=>
    have:es= #[]:=by simpa using hes
    simp[this]
   |cons e rest=>
    have h1:=hbo e (by rw[hes];simp)
    have:es.all (λe=>decide (e.born≥clock))=false:=by
     rw[<-Array.all_toList,hes]
     simp;omega
    rw[this,Bool.and_false]
  have hold:(es.filter λe=> !seen.contains e.born).filter (λe=>decide (e.born<clock))=es.filter λe=> !seen.contains e.born:=by
   rw[Array.filter_eq_self]
   intro e he
   have:=hbo e (by simpa using(abq.1 he).1)
   simpa using this
  have hnew:(es.filter λe=> !seen.contains e.born).filter (λe=>decide (e.born≥clock))= #[]:=by
   rw[Array.filter_eq_empty_iff]
   intro e he
   have:=hbo e (by simpa using(abq.1 he).1)
   simpa using this
  by_cases ht:todo=[]
  ·refine⟨.tuple #[.bool false],w,_,?_,Frame.refl _ _,s,h0 ht⟩
   have he:es.filter (λe=> !seen.contains e.born)= #[]:=by
    rw[hleft]
    have:(es.toList.filter λe=> !seen.contains e.born)=[]:=abc (by rw[htodo,ht];rfl)
    rw[this]
   have hc:(choose (.mapNext 1)).run P w=.ok 0 w:=by simp[choose,Sem.run,Question.forced]
   simp only[execOp,ha.eval hx,Instr.next,Sem.run_bind,hgi,gA hb,Result.andThen_ok,hguard,aaD,aaC,he]
   simp[hc]
  ·have hne:(es.filter λe=> !seen.contains e.born).isEmpty=false:=by
    rw[hleft]
    cases hf:(es.toList.filter λe=> !seen.contains e.born)with
    |nil=>rw[hf]at htodo;exact absurd (abc htodo.symm) ht
    |cons _ _=>rfl
   have hpos:0<todo.length:=List.length_pos_iff.2 ht
   have hsz:(es.filter λe=> !seen.contains e.born).size=todo.length:=by rw[hleft];simpa using htodo
   obtain⟨n,w1,hc,hlt,hw1⟩:∃n w1,(choose (.mapNext todo.length)).run P w=.ok n w1/\n<todo.length/\∃q,w1={w with drawn:=q}:=by
    by_cases h1:todo.length<=1
    ·exact⟨0,w,by simp[choose,Sem.run,Question.forced,h1],hpos,w.drawn,rfl⟩
    ·exact⟨_,_,by simp only[choose,Sem.run,Question.forced,h1,aaX,aaD,aaC];rfl,by simp only[Question.cut];exact Nat.mod_lt _ hpos,_,rfl⟩
   obtain⟨q,rfl⟩:=hw1
   have hn':n<(es.toList.filter λe=> !seen.contains e.born).length:=by rw[htodo];exact hlt
   generalize he:(es.toList.filter λe=> !seen.contains e.born)[n]=e
   have hem:e∈es.toList.filter λe=> !seen.contains e.born:=he▸abr hn'
   obtain⟨hes,hns⟩:=abi.1 hem
   obtain⟨j,hj,hje⟩:=aaY.1 hes
   have hjM:j<M.length:=by omega
   have hpair:(e.key,e.val)=(encK M[j].1,encV M[j].2):=by
    have:=aaI (λl:List (Value×Value)=>l[j]?) h3.fH
    simp only[aaJ,aC hj,aC hjM,aaK,aa4,hje]at this
    exact this
   injection hpair with hp1 hp2
   have hzip:(e,M[j])∈es.toList.zip M:=by
    refine aaY.2 ⟨j,by rw[abt];omega,?_⟩
    simp only[abu,hje]
   have hkt:M[j].1∈todo:=by
    rw[h6]
    exact aaM.2 ⟨(e,M[j]),abi.2 ⟨hzip,hns⟩,rfl⟩
   have hget:bX M[j].1 M=some M[j].2:=gz h3.nd (abr hjM)
   have hrun:(execOp a.eval ⟨some d,.next x false,ty,pos,af,none⟩).run P w=.ok (.value (.tuple #[.bool true,e.key,e.val])) (dp {w with drawn:=q} r (.mapIter (some b) clock (seen.push e.born) clock)):=by
    have hcand:∀(A:Array MapEntry),A.isEmpty=false->(if A.isEmpty=true then #[none]else #[])++(A++ #[]).map some=A.map some:=λA hA=>by simp[hA]
    have hget2:((es.filter λe=> !seen.contains e.born).map some)[n]? =some (some e):=by
     rw[hleft]
     simp only[List.map_toArray,aaH,aaJ,aC hn',he,aaK]
    have hset:(setObj r (.mapIter (some b) clock (seen.push e.born) clock)).run P {w with drawn:=q}=.ok () (dp {w with drawn:=q} r (.mapIter (some b) clock (seen.push e.born) clock)):=by
     have:({w with drawn:=q}:World).heap[r]? =some (.mapIter (some b) clock seen clock):=hr
     simp[setObj,Sem.run,this,dp]
    simp only[execOp,ha.eval hx,Instr.next,Sem.run_bind,hgi,gA hb,Result.andThen_ok,hguard,aaD,aaC,hold,hnew]
    rw[hcand _ hne]
    simp only[Array.size_map,hsz,hc,Result.andThen_ok,hget2,Sem.run_bind,hset,Sem.run_pure]
   obtain⟨f,s'⟩:=jD (w:={w with drawn:=q}) (o':=.mapIter (some b) clock (seen.push e.born) clock) (s.drew q)
   refine⟨_,_,upd [(r,.mapIter (some b) clock (seen.push e.born) clock)],hrun,by rw[e2];exact(Frame.drew w _ q).trans f,by rw[e2];exact s',?_⟩
   rw[hp1,hp2]
   refine hn M[j].1 M[j].2 _ hkt hget ⟨b,es,clock,r,seen,e,rfl,h2,h3,rfl,rfl,hes,hp1,hp2,?_⟩
   rw[h6]
   -- the one that came is no more to come, all others are
   have key:∀(l:List (MapEntry×(κ×β))),(∀p∈l,(p.1.born=e.born↔p.2.1=M[j].1))->
     ((l.filter λp=> !seen.contains p.1.born).map (·.2.1)).filter (λk'=>decide (k'≠M[j].1))=(l.filter λp=> !(seen.push e.born).contains p.1.born).map (·.2.1):=by
    intro l
    induction l with
    |nil=>intro _;rfl
    |cons p l ih=>
     intro hp
     have h1:=hp p (by simp)
     have h2:=ih λq hq=>hp q (by simp[hq])
     simp only[abv]at h2
     simp only[aaO,abv]
     by_cases hc:seen.contains p.1.born=true
     ·simp only[hc,aa3,aaD,aaC,Bool.true_or];exact h2
     ·simp only[Bool.not_eq_true]at hc
      simp only[hc,aaZ,aaE,Bool.false_or,aaB,aaO]
      by_cases hb:p.1.born=e.born
      ·have:=h1.1 hb
       simp only[this,ne_eq,not_true,aaX,aaD,aaC,hb,abA,aa3];simpa only[ne_eq]using h2
      ·have hk:¬p.2.1=M[j].1:=λhk=>hb (h1.2 hk)
       have hb':(p.1.born==e.born)=false:=by simpa using hb
       simp only[hk,ne_eq,abf,decide_true,aaE,hb',aaZ,aaB]
       exact aaI _ (by simpa only[ne_eq]using h2)
   refine key _ λp hp=>?_
   obtain⟨i,hi,hpi⟩:=aaY.1 hp
   have hi':i<es.toList.length:=by simp only[abt]at hi;omega
   have hiM:i<M.length:=by omega
   rw[abu]at hpi
   subst hpi
   simp only
   constructor
   ·intro hb
    have:i=j:=(abw (h:=h3.eW) (i:=i) (j:=j) (h₀:=by simpa using hi') (h₁:=by simpa using hj)).1 (by rw[aaP,aaP,hb,hje])
    subst this;rfl
   ·intro hk
    have:i=j:=(abw (h:=h3.nd) (i:=i) (j:=j) (h₀:=by simpa using hiM) (h₁:=by simpa using hjM)).1 (by rw[aaP,aaP];exact hk)
    subst this;rw[hje]
omit [DecidableEq κ] in
theorem bd.entry{x:Operand}{c:aA}{l:Value}{todo:List κ}{k:κ}{u:β}{f:ay}(h:lJ c encK encV mp M l todo k u f) [F:dQ H f upd](C:∀b o,c b o->Rx R H b o)(D:ev env x=some l):
  bd P R env H (.entry x) ty (.tuple [encK k,encV u].toArray):=λa w d O K g y s E=>by
 obtain⟨b,j,i,r,G,e,rfl,n,p,rfl,rfl,q,t,v,N⟩:=h
 obtain⟨I,J,m,L⟩:=F.h
 have z:=kw s E _ _ (C _ _ n)
 subst m
 have B:w.heap[r]? =some (.mapIter (some b) i (G.push e.born) i):=s.2 (r,_) (by simp)
 have A:j.find? (·.born==e.born)=some e:=by rw[<-Array.find?_toList];exact qD e j.toList p.eW q
 rw[<-t, <-v]
 simp only[execOp,y.eval D,Instr.entry,getObj,Sem.run_bind,Sem.run,B,z,Result.andThen,Array.back?_push,bne_self_eq_false,aaD,aaC,A]
 rfl
theorem dQ.same{H:aS}{T:ay}{a:ay->aS}(s:dQ H T a):a T=H:=by
 obtain⟨d,e,b,c⟩:=s.h
 rw[c,b]
theorem aM.l9{d:Nat}{x:Operand}{a:aA}{f:Value}{todo:List κ}{c:ay}(h:It a encK encV mp M f todo c) [s:dQ H c upd](p:∀b o,a b o->Rx R H b o)(r:ev env x=some f)
  (g:∀(b:Bool) (rest:List Value) (Ti':ay),(b=false->todo=[])->(b=true->∃k u,k∈todo/\bX k M=some u/\lJ a encK encV mp M f (todo.filter λk'=>decide (k'≠k)) k u Ti')->aM false P N R ops l ((d,.tuple (.bool b::rest).toArray)::env) (upd Ti') K)(m:Nat.blt d N=true:=by rfl):
  aM false P N R ops (⟨some d,.next x false,ty,pos,af,none⟩::l) env H K:=
 aM.E8 h p r
  (λi=>by
   have:=g false [] c (λ_=>i) (λe=>by cases e)
   rw[s.same]at this
   exact this)
  (λk u Ti' n q j=>g true [encK k,encV u] Ti' (λe=>by cases e) (λ_=>⟨k,u,n,q,j⟩)) m
end
theorem ny{A B:ay}{b:Nat}{o:Obj}(h:sg A b o):sg (A++B) b o:=abG B h
theorem kx{A B:ay}{b:Nat}{o:Obj}(h:sg B b o):sg (A++B) b o:=List.mem_append_right A h
theorem SR.ordered{α:Type}{lt:α->α->Bool}{ys:List α}(h:SR lt ys 0 ys.length):ys.Pairwise λp r=>lt r p=false:=by
 rw[List.pairwise_iff_getElem]
 intro i j b a c
 exact h i j (Nat.zero_le _) c a _ _ (aC b) (aC a)
theorem RA.iX{P:Program}{N:Nat}{R:aA}{a:Array Oper}{env:Env}{H g:aS}{e:List Nat}{K:Env->aS->Prop}{f:List Nat}{d j t:Nat}{h b c:Bool}{op:Op}{ty:TypeId}{u:String}{k:Array Edge}(i:Nat)(o:a[i]? =some ⟨some d,op,ty,u,k,some (j,h)⟩)(r:Env.get? env t=some (.bool b))(l:b=c)(s:(c==h)=false)
  (m:tk false a e f i=true)(q:RA P N R a g e (i::f) ((d,undef)::env) H K)(p:gk a j=some t:=by rfl)(n:Nat.blt d N=true:=by rfl):RA P N R a g e f env H K:=
 RA.G3 i o r (by rw[l];exact s) m q p n
end
section
section
variable{P:Program}{N:Nat}{R R':aA}{ops:Array Oper}{l:List Oper}{env:Env}{H:aS}{K:Env->aS->Prop}{T:ay}{upd:ay->aS}
theorem bV.open_{S:aS}(i:Nat)(a:H.getD i []=S.flatten):bV H (S++cq i H):=⟨[],by rw[aa6,aba, <-a];exact nT i H⟩
end
end
section
end
section
set_option linter.unusedVariables false
section
variable{κ β:Type} [DecidableEq κ]
variable{P:Program}{N:Nat}{R:aA}{ops:Array Oper}{l:List Oper}{env:Env}{H:aS}{K:Env->aS->Prop}{T:ay}{upd:ay->aS}{ty:TypeId}{pos:String}{af:Array Edge}
variable{encK:κ->Value}{encV:β->Value}{mp:Value}{M:List (κ×β)}
def ME(encK:κ->Value)(encV:β->Value)(m:Value)(M:List (κ×β))(key:κ)(s:Value)(T:ay):Prop:=
 ∃(b:Nat) (es:Array MapEntry) (clock j:Nat) (e:MapEntry) (M1:List (κ×β)),m=.map (some b)/\T=[(b,.map es clock)]/\eJ encK encV es clock M1/\(M1.map (·.1))[j]? =some key/\es[j]? =some e/\e.key=encK key/\s=goInt (e.born:Nat)/\∀u,dl key u M1=dl key u M
theorem E5{k:κ}{x y:β}{M:List (κ×β)}(h:k∉M.map (·.1)):dl k y (dl k x M)=dl k y M:=by
 rw[jB h,jB h]
 induction M with
 |nil=>simp[dl]
 |cons p M ih=>
  obtain⟨a,z⟩:=p
  simp only[aaB,aaF,not_or]at h
  simp only[aby,dl,aaz h.1,ih h.2]
theorem aM.mapEntry{d:Nat}{t kt E:TypeId}{x y:Operand}{key:κ}{z:Value}(u0:β)(h:MS encK encV mp M T) [sa:dQ H T upd](L:ev env x=some mp)(O:ev env y=some (encK key)) [ut:bL P t (.map kt E)] [C:eC P kt encK] [zr:Zr P E z](Z:encV u0=z)
  (J:∀T' s,ME encK encV mp M key s T'->aM false P N R ops l ((d,.tuple [((bX key M).map encV).getD z,s].toArray)::env) (upd T') K)(S:Nat.blt d N=true:=by rfl):
  aM false P N R ops (⟨some d,.mapEntry t x y,ty,pos,af,none⟩::l) env H K:=
 aM.kJ S λa w o s ro=>by
  obtain⟨b,g,c,rfl,rfl,m⟩:=h
  obtain⟨H1,H2,Q,k⟩:=sa.h
  subst Q
  have p:w.heap[b]? =some (.map g c):=s.2 (b,_) (by simp)
  obtain⟨r,F,G,n⟩:=m.find (P:=P) (kt:=kt) key w
  cases r with
  |none=>
   obtain⟨f,D⟩:=jD (o':=.map (g.push {key:=encK key,val:=z,born:=c}) (c+1)) s
   have I:=m.insert u0 n
   rw[Z]at I
   have q:bX key M=none:=by simpa using G.symm
   refine⟨.tuple [z,goInt c].toArray,_,upd [(b,.map (g.push {key:=encK key,val:=z,born:=c}) (c+1))],?_,by rw[k];exact f,by rw[k];exact D,?_⟩
   ·simp only[execOp,o.eval L,o.eval O]
    simp[Instr.mapEntry,run_underlying ut.h,gA p,C.ck,F,zr.h,ku p]
   ·have W:z=((bX key M).map encV).getD z:=by rw[q];rfl
    have:=J [(b,.map (g.push {key:=encK key,val:=z,born:=c}) (c+1))] (goInt c) ⟨b,_,_,g.size,{key:=encK key,val:=z,born:=c},dl key u0 M,rfl,rfl,I,by
     rw[jB n]
     have:=m.fH.length
     simp at this⊢
     simp[this],by simp,rfl,rfl,λu=>E5 n⟩
    rw[<-W]at this
    exact this
  |some jv=>
   obtain⟨j,v⟩:=jv
   obtain⟨q,e,A,B⟩:=n
   have U:(g.modify j λe=>{e with key:=encK key})=g:=by
    apply Array.ext_getElem?
    intro i
    rw[abp]
    split
    ·rename_i V
     subst V
     rw[A]
     simp only[aaK,aa4]
     rw[<-B]
    ·rfl
   obtain⟨f,D⟩:=jD (o':=.map g c) s
   have Y:v=((bX key M).map encV).getD z:=by rw[<-G];rfl
   refine⟨.tuple [v,goInt e.born].toArray,_,upd [(b,.map g c)],?_,by rw[k];exact f,by rw[k];exact D,?_⟩
   ·have X:(Instr.keyThatStays (encK key) (encK key)).run P w=.ok (encK key) w:=by
     unfold Instr.keyThatStays
     rw[C.same];rfl
    simp only[execOp,o.eval L,o.eval O]
    simp[Instr.mapEntry,run_underlying ut.h,gA p,C.ck,F,A,B,X,U,ku p]
   ·rw[Y]
    exact J _ _ ⟨b,g,c,j,e,M,rfl,rfl,m,q,A,B,rfl,λu=>rfl⟩
theorem bd.EV{x y:Operand}{t kt a:TypeId}{z v:Value}{key:κ}(h:RM (Rx R H) encK encV mp M)(c:ev env x=some mp)(d:ev env y=some (encK key))(b:((bX key M).map encV).getD z=v) [ut:bL P t (.map kt a)] [e:eC P kt encK] [f:Zr P a z]:
  bd P R env H (.lookup t x y false) ty v:=b▸bd.EU h c d
theorem aM.entryStore{t:TypeId}{x y z:Operand}{key:κ}{s:Value}{u:β}(h:ME encK encV mp M key s T) [Q:dQ H T upd](I:ev env x=some mp)(J:ev env y=some s)(L:ev env z=some (encV u))
  (E:∀T',MS encK encV mp (dl key u M) T'->aM false P N R ops l env (upd T') K):
  aM false P N R ops (⟨none,.entryStore t x y z,ty,pos,af,none⟩::l) env H K:=
 aM.kK λa w k s X=>by
  obtain⟨b,c,d,j,e,V,rfl,rfl,o,A,p,B,rfl,G⟩:=h
  obtain⟨S,U,v,n⟩:=Q.h
  subst v
  have q:w.heap[b]? =some (.map c d):=s.2 (b,_) (by simp)
  have r:=o.update u A
  rw[G]at r
  have C:(c.modify j λe=>{e with val:=encV u})=c.modify j λe=>{e with key:=encK key,val:=encV u}:=by
   apply Array.ext_getElem?
   intro i
   rw[abp,abp]
   split
   ·rename_i m
    subst m
    rw[p]
    simp only[aaK,aa4]
    rw[<-B]
   ·rfl
  have D:c.findIdx? (λx=>(x.born:Int)==(e.born:Int))=some j:=by
   have g:=(Array.getElem?_eq_some_iff.1 p)
   have W:=g.1
   rw[Array.findIdx?_eq_some_iff_getElem]
   refine⟨g.1,by rw[g.2];simp,λi m=>?_⟩
   have F:=List.pairwise_iff_getElem.1 o.eW i j (by simp;omega) (by simp;omega) m
   simp only[aaP,Array.getElem_toList,g.2]at F
   simp only[beq_iff_eq]
   omega
  obtain⟨f,O⟩:=jD (o':=.map (c.modify j λe=>{e with key:=encK key,val:=encV u}) d) s
  refine⟨_,upd [(b,.map (c.modify j λe=>{e with key:=encK key,val:=encV u}) d)],.inl ?_,by rw[n];exact f,by rw[n];exact O,E _ ⟨b,_,d,rfl,rfl,r⟩⟩
  simp only[execOp,k.eval I,k.eval J,k.eval L]
  simp[Instr.entryStore,gA q,asInt,asIntOf,goInt,D,C,ku q]
theorem Spec.FJ{f:FuncId}{i:List Value}{H':aS}{Post:Value->aS->Prop}(h:H.flatten.Perm H'.flatten)(s:Spec P f i R H' Post):Spec P f i R H Post:=λw u j=>by
 have l:Sat w H':=u.perm h
 have m:RO w R H':=λb o d=>⟨(j b o d).1,λp c=>(j b o d).2 p (h.mem_iff.2 c)⟩
 refine(s w l m).mono λe y ⟨v,k,g,c,x,a⟩=>⟨v,k,g,c,x,a.le,λb d r=>a.fv b d λp n=>r p (h.mem_iff.2 n),λp c=>?_,a.os,a.output,a.tape⟩
 rcases a.hP p c with⟨q,t,g⟩|hge
 ·exact .inl ⟨q,h.mem_iff.2 t,g⟩
 ·exact .inr hge
end
section
variable{α:Type}{lt:α->α->Bool}
def kh(lt:α->α->Bool)(p:α):List α->List α
 |[]=>[p]
 |r::L=>if lt p r then p::r::L else r::kh lt p L
theorem od{p:α}:∀{L:List α},(kh lt p L).Perm (p::L)
 |[]=>.refl _
 |r::L=>by
  simp only[kh]
  split
  ·exact .refl _
  ·exact((od (L:=L)).cons r).trans (List.Perm.swap p r L)
theorem qK(c:∀x y z,lt x y=true->lt y z=true->lt x z=true){p:α}:∀{L:List α},(L.Pairwise λx y=>lt x y=true)->(∀y∈L,lt p y=true\/lt y p=true)->(kh lt p L).Pairwise λx y=>lt x y=true
 |[],_,_=>by simp[kh]
 |r::L,h,hp=>by
  have b:=abH.1 h
  simp only[kh]
  split
  ·rename_i a
   refine abH.2 ⟨λx hx=>?_,h⟩
   rcases aaF.1 hx with rfl|hx
   ·exact a
   ·exact c _ _ _ a (b.1 x hx)
  ·rename_i a
   refine abH.2 ⟨λx hx=>?_,qK c b.2 λy d=>hp y (by simp[d])⟩
   rcases aaF.1 (od.mem_iff.1 hx)with rfl|hx
   ·rcases hp r (by simp)with h2|h2
    ·exact absurd h2 a
    ·exact h2
   ·exact b.1 x hx
end
end
end Go.Proofs.YtgppncmdpcefhaaGreatDoor

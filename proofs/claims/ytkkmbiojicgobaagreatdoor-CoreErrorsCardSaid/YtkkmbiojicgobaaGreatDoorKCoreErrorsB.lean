/- What the law 'CoreErrors' uses. No condition. -/
import Derived.IntWalk
import Derived.Test.YtkkmbiojicgobaaGreatDoorKCoreErrorsA
set_option linter.unusedSimpArgs false
set_option linter.unusedVariables false
set_option linter.unusedVariables false
namespace Go.Proofs.YtkkmbiojicgobaaGreatDoor
set_option linter.defProp false
def aaD:=@if_neg
def aaE:=@if_pos
def aaF:=@List.map_cons
def aaG:=@if_false
def aaH:=@Bool.false_eq_true
def aaI:=@List.append_assoc
def aaJ:=@if_true
def aaK:=@List.mem_cons
def aaL:=@List.getElem?_toArray
def aaM:=@congrArg
def aaN:=@List.getElem?_map
def aaO:=@List.getElem?_eq_getElem
def aaP:=@List.mem_map
def aaQ:=@Option.map_some
def aaR:=@List.filter_cons
def aaS:=@Nat.lt_or_ge
def aaT:=@List.append_nil
def aaU:=@List.getElem?_cons_succ
def aaV:=@List.length_cons
def aaW:=@List.getElem_map
def aaX:=@List.flatten_cons
def aaY:=@List.flatten_append
def aaZ:=@Nat.mul_le_mul_right
def aa0:=@List.length_append
def aa1:=@Prod.mk.injEq
def aa2:=@List.mem_of_getElem?
def aa3:=@decide_false
def aa4:=@Nat.le_of_ble_eq_true
def aa5:=@List.mem_iff_getElem
def aa6:=@List.perm_append_comm
def aa7:=@Bool.not_false
def aa8:=@List.size_toArray
def aa9:=@List.mem_singleton
def aba:=@List.mem_of_mem_take
def abb:=@Bool.not_true
def abc:=@List.nodup_cons
def abd:=@Nat.le_refl
def abe:=@List.length_take
def abf:=@List.getElem?_cons_zero
def abg:=@List.eq_nil_of_length_eq_zero
def abh:=@Array.length_toList
def abi:=@List.getElem?_eq_some_iff
def abj:=@not_false_eq_true
def abk:=@List.length_map
def abl:=@List.ext_getElem?
def abm:=@List.mem_filter
def abn:=@List.cons_append
def abo:=@List.mem_append
def abp:=@List.getElem?_append_left
def abq:=@Option.some.injEq
def abr:=@List.nodup_append
def abt:=@List.cons.injEq
def abu:=@List.mem_map_of_mem
def abv:=@Array.mem_filter
def abw:=@List.getElem_mem
def abx:=@List.length_zip
def aby:=@List.getElem_zip
def abz:=@Array.contains_push
def abA:=@List.getElem_inj
def abB:=@List.flatten_nil
def abC:=@List.getElem?_drop
def abD:=@Array.getElem?_toList
def abE:=@List.mem_cons_of_mem
def abF:=@List.length_pos_iff
def abG:=@beq_self_eq_true
def abH:=@Nat.add_right_cancel_iff
def abI:=@List.getElem?_modify
def abJ:=@List.getElem?_set
def abK:=@List.zip_cons_cons
def abL:=@Bool.and_eq_true
def abM:=@List.mem_append_left
def abN:=@List.pairwise_cons
section
variable{α β:Type}
theorem sM{vs cs:List Value}{off:Nat}(h:off+cs.length<=vs.length)(i:Nat):(cc vs off cs)[i]? =if i<off then vs[i]? else if i<off+cs.length then cs[i-off]? else vs[i]? :=by
 have e:min off vs.length=off:=by omega
 simp only[iY,aaI,List.getElem?_append,abe,e,abC]
 by_cases a:i<off
 ·simp[a]
 ·by_cases b:i<off+cs.length
  ·simp[a,b,show i-off<cs.length by omega]
  ·simp[a,b,show ¬i-off<cs.length by omega,show off+cs.length+(i-off-cs.length)=i by omega]
theorem lE(b off n:Nat):(⟨b,off,none⟩:Addr).add n=⟨b,off+n,none⟩:=by
 simp only[Addr.add];split
 ·rename_i a;subst a;rfl
 ·rfl
theorem vJ(a:Nat):∀(r c:Nat),256<=c->Builtin.growBy a r c<=max c (2*a)
 |0,c,_=>by simp[Builtin.growBy];omega
 |r+1,c,h=>by
  simp only[Builtin.growBy]
  split
  ·omega
  ·have:=vJ a r (c+(c+768)/4) (by omega)
   omega
theorem nextslicecap_le{need old:Nat}(h:old<need):Builtin.nextslicecap need old<=2*need:=by
 unfold Builtin.nextslicecap
 split
 ·omega
 ·split
  ·omega
  ·have:=vJ need 4 old (by omega)
   omega
theorem yM(z:Array Value)(n:Nat):(Builtin.zeroCells z n).size=n*z.size:=by simp[Builtin.zeroCells]
theorem qM{P:Program}{R:av}{sz:Nat}{enc:α->List Value}{v:Value}{xs:List α}{w:World}(h:RS R sz enc v xs)(l:∀b o,R b o->w.heap[b]? =some o):(Builtin.firstCells sz xs.length v).run P w=.ok (xs.flatMap enc).toArray w:=by
 obtain⟨p,m,rfl,q,r,f⟩:=h.h
 rcases f with rfl|⟨b,off,c,E,n,rfl,d,e⟩
 ·cases p with
  |none=>rfl
  |some a=>simp[Builtin.firstCells,loadCells,loadCellsFrom]
 ·have g:=l _ _ d
  have k:=jP h.len
  have:=run_loadCellsFrom (P:=P) (w:=w) (b:=b) (off:=off) (xs.flatMap enc) 0 #[] (λj i=>by
   have:=e j i
   simp[World.cell?,g,this])
  simp only[Builtin.firstCells,loadCells]
  rw[<-k,this]
  simp
theorem M0{P:Program}{R:av}{sz:Nat}{enc:α->List Value}{v:Value}{xs:List α}{w:World}(h:RS R sz enc v xs):(Builtin.lenOf v).run P w=.ok xs.length w:=by
 obtain⟨p,a,rfl,_⟩:=h.h
 rfl
theorem LU{p:ol}{A T B:ax}:(p::(A++(T++B))).Perm (A++(p::B)++T):=by
 have a:(A++(T++B)).Perm (A++B++T):=by
  rw[aaI]
  exact aa6.append_left A
 have b:(p::(A++B++T)).Perm (A++(p::B)++T):=by
  have:(p::(A++B)).Perm (A++p::B):=List.perm_middle.symm
  exact this.append_right T
 exact(a.cons p).trans b
theorem aT.front{H1 H2:aV}{T:ax}{p:ol}:aT ([p]::(H1++T::H2)) (H1++[p]::H2):=⟨T,by
 simp only[aaX,aaY,abn,List.nil_append]
 exact LU⟩
theorem MT{P:Program}{R:av}{H1 H2:aV}{T:ax}{E sz bytes:Nat}{enc:α->List Value}{v u:Value}{xs ys:List α}{w:World}{ta tb tb' t:TypeId}{z:Value}
  (hv:OS E sz enc v xs T)(hu:RS (Rx R (H1++T::H2)) sz enc u ys)(ua:bP P ta (.slice E))(ub:bP P tb (.slice tb'))(s:Sz P E sz)(by_:By P E bytes)(zr:Zr P E z)(hz:z.cells.size=sz)(hb0:0<bytes)(hb:(xs.length+ys.length)*bytes<=2^47)
  (sat:Sat w (H1++T::H2))(ro:RO w R (H1++T::H2)):
  ∃v' w' T',(Builtin.append_ #[ta,tb] t #[v,u]).run P w=.ok v' w'/\OS E sz enc v' (xs++ys) T'/\Frame w (H1++T::H2) w' (H1++T'::H2)/\Sat w' (H1++T'::H2):=by
 have hw:∀b o,Rx R (H1++T::H2) b o->w.heap[b]? =some o:=λb o h=>by
  rcases h with h|h
  ·exact(ro b o h).1
  ·exact sat.2 _ h
 have hfu:=qM (P:=P) hu hw
 have hlu:=M0 (P:=P) (w:=w) hu
 have hlen:∀x∈xs++ys,(enc x).length=sz:=λx hx=>(abo.1 hx).elim (hv.len x) (hu.len x)
 have hone:∀x∈xs++ys,∀c∈enc x,Go.Proofs.YtkkmbiojicgobaaGreatDoor.aw c=true:=λx hx=>(abo.1 hx).elim (hv.one x) (hu.one x)
 have hneed:xs.length+ys.length<=2^47:=Nat.le_trans (Nat.le_mul_of_pos_right _ hb0) hb
 have hone':∀c∈ys.flatMap enc,Go.Proofs.YtkkmbiojicgobaaGreatDoor.aw c=true:=λc hc=>by
  obtain⟨y,hy,hcy⟩:=List.mem_flatMap.1 hc
  exact hu.one y hy c hcy
 -- the two ways
 have grow:∀(p:Option Addr) (cap:Nat),v=.slice p xs.length cap->¬xs.length+ys.length<=cap->(Builtin.firstCells sz xs.length v).run P {w with drawn:=w.drawn+1}=.ok (xs.flatMap enc).toArray {w with drawn:=w.drawn+1}->
   ∃v' w' T',(Builtin.append_ #[ta,tb] t #[v,u]).run P w=.ok v' w'/\OS E sz enc v' (xs++ys) T'/\Frame w (H1++T::H2) w' (H1++T'::H2)/\Sat w' (H1++T'::H2):=by
  intro p cap hvp hcap hfv
  obtain⟨i,hi,hib⟩:=by_.h w
  have hcut:∃q,xs.length+ys.length<=q/\q<=maxLen/\q=Question.cut (.appendCap (xs.length+ys.length) cap E) (w.tape w.drawn (.appendCap (xs.length+ys.length) cap E)):=by
   refine⟨_,?_,?_,rfl⟩
   ·simp only[Question.cut];omega
   ·simp only[Question.cut]
    have:w.tape w.drawn (.appendCap (xs.length+ys.length) cap E) % (2^63-(xs.length+ys.length))<2^63-(xs.length+ys.length):=Nat.mod_lt _ (by omega)
    unfold maxLen;omega
  obtain⟨q,hq1,hq2,hq3⟩:=hcut
  have hfu':(Builtin.firstCells sz ys.length u).run P {w with drawn:=w.drawn+1}=.ok (ys.flatMap enc).toArray {w with drawn:=w.drawn+1}:=qM (P:=P) hu (λb o h=>hw b o h)
  have hn1:¬((xs.length+ys.length:Nat):Int)>IntKind.i64.max:=by
   have:IntKind.i64.max=9223372036854775807:=by decide
   omega
  have hn2:¬Builtin.nextslicecap (xs.length+ys.length) cap*bytes>2^48:=by
   have h1:=nextslicecap_le (need:=xs.length+ys.length) (old:=cap) (by omega)
   have h2:=aaZ bytes h1
   rw[Nat.mul_assoc]at h2
   omega
  have hrun:(Builtin.append_ #[ta,tb] t #[v,u]).run P w=.ok (.slice (some ⟨w.heap.size,0,none⟩) (xs.length+ys.length) q)
    (World.alloc {w with drawn:=w.drawn+1} (.cells ((xs.flatMap enc).toArray++(ys.flatMap enc).toArray++Builtin.zeroCells z.cells (q-(xs.length+ys.length))) E)):=by
   subst hvp
   simp only[Builtin.append_]
   simp only[aaL,abf,aaU,Sem.run_bind,run_underlying ua.h,run_underlying ub.h,Result.andThen_ok,s.h,Sem.run_pure]
   have hm:((TypeDesc.slice tb') matches .int _)=false:=rfl
   simp only[aaH,aaG,hlu,Result.andThen_ok,aaD hcap,false_or,hn1,false_and,hi,hib,aaD hn2,Sem.run_bind]
   have hch:(choose (.appendCap (xs.length+ys.length) cap E)).run P w=.ok (Question.cut (.appendCap (xs.length+ys.length) cap E) (w.tape w.drawn (.appendCap (xs.length+ys.length) cap E))) {w with drawn:=w.drawn+1}:=by
    simp[choose,Sem.run,Question.forced]
   rw[hch, <-hq3]
   obtain⟨i',hi',hib'⟩:=by_.h {w with drawn:=w.drawn+1}
   have har:∀n,(askRoom n).run P {w with drawn:=w.drawn+1}=.ok () {w with drawn:=w.drawn+1}:=λn=>by
    unfold askRoom;split<;>rfl
   simp only[Result.andThen_ok,hi',har,hfv,aa7,aaJ,hfu',zr.h,mn]
   rfl
  have hz':(Builtin.zeroCells z.cells (q-(xs.length+ys.length))).size=(q-(xs.length+ys.length))*sz:=by rw[yM,hz]
  generalize hC:(xs.flatMap enc).toArray++(ys.flatMap enc).toArray++Builtin.zeroCells z.cells (q-(xs.length+ys.length))=C at hrun
  have hsize:0+q*sz<=C.size:=by
   have h1:=jP hv.len
   have h2:=jP hu.len
   rw[<-hC]
   simp only[Array.size_append,aa8,h1,h2,hz']
   rw[<-Nat.add_mul, <-Nat.add_mul,Nat.zero_add]
   exact aaZ _ (by omega)
  have hrow:Row C 0 ((xs++ys).flatMap enc):=by
   intro k hk
   rw[<-hC]
   rw[List.flatMap_append]at hk⊢
   have hsz:k<((xs.flatMap enc).toArray++(ys.flatMap enc).toArray).size:=by
    rw[aa0]at hk
    simpa only[Array.size_append,aa8]using hk
   rw[Nat.zero_add,Array.getElem?_append_left hsz,List.append_toArray (xs.flatMap enc) (ys.flatMap enc),aaL]
  clear hC hz' hfu hlu hfu' hq3
  have hos:OS E sz enc (.slice (some ⟨w.heap.size,0,none⟩) (xs.length+ys.length) q) (xs++ys) [(w.heap.size,.cells C E (0,0))]:=
   ⟨hlen,hone,.inr ⟨w.heap.size,0,C,q,by rw[aa0],rfl,by rw[aa0];exact hq1,hq2,hsize,hrow⟩⟩
  have f:=(Frame.drew w (H1++T::H2) (w.drawn+1)).trans (Frame.alloc {w with drawn:=w.drawn+1} (H1++T::H2) (.cells C E (0,0)))
  have f2:Frame w (H1++T::H2) (World.alloc {w with drawn:=w.drawn+1} (.cells C E)) (H1++[(w.heap.size,.cells C E (0,0))]::H2):=f.trans (aT.front.frame _)
  have s2:Sat (World.alloc {w with drawn:=w.drawn+1} (.cells C E)) (H1++[(w.heap.size,.cells C E (0,0))]::H2):=aT.front.sat (Sat.alloc (w:={w with drawn:=w.drawn+1}) (sat.drew _) _)
  exact⟨_,_,_,hrun,hos,f2,s2⟩
 rcases hv.h with⟨rfl,rfl,rfl⟩|⟨b,off,c,cap,rfl,rfl,g3,g4,g5,g6⟩
 ·by_cases h0:ys.length=0
  ·have hy:ys=[]:=abg h0
   subst hy
   refine⟨.slice none 0 0,w,[],?_,OS.nil,Frame.refl _ _,sat⟩
   simp only[Builtin.append_]
   simp only[aaL,abf,aaU,Sem.run_bind,run_underlying ua.h,run_underlying ub.h,Result.andThen_ok,s.h,Sem.run_pure,aaH,aaG,hlu]
   have hfu0:(Builtin.firstCells sz 0 u).run P w=.ok #[] w:=hfu
   simp[hfu0]
  ·exact grow none 0 rfl (by simp only[List.length_nil];omega) rfl
 ·by_cases hcap:xs.length+ys.length<=cap
  ·have hb:=sat.2 (b,.cells c E (0,0)) (by simp)
   have hc:c=c.toList.toArray:=by simp
   have hl1:=jP hv.len
   have hl2:=jP hu.len
   have hroom:off+xs.length*sz+(ys.flatMap enc).length<=c.toList.length:=by
    rw[hl2,abh,Nat.add_assoc, <-Nat.add_mul]
    exact Nat.le_trans (Nat.add_le_add_left (aaZ _ hcap) _) g5
   have hst:=pf (P:=P) (b:=b) (off:=off+xs.length*sz) (E:=E) (ys.flatMap enc) 0 c.toList w (by rw[<-hc];exact hb) hone' (by simpa using hroom)
   rw[Nat.add_zero]at hst
   have hadd:(⟨b,off,none⟩:Addr).add (xs.length*sz)=⟨b,off+xs.length*sz,none⟩:=by
    simp only[Addr.add];split
    ·rename_i h0;rw[h0];rfl
    ·rfl
   refine⟨.slice (some ⟨b,off,none⟩) (xs.length+ys.length) cap,eC w b (.cells (cc c.toList (off+xs.length*sz) (ys.flatMap enc)).toArray E (0,0)),[(b,.cells (cc c.toList (off+xs.length*sz) (ys.flatMap enc)).toArray E (0,0))],?_,⟨hlen,hone,.inr ⟨b,off,_,cap,by rw[aa0],rfl,by rw[aa0];exact hcap,g4,?_,?_⟩⟩,Frame.set (T1:=[]) (T2:=[]),Sat.set (T1:=[]) (T2:=[]) sat⟩
   ·simp only[Builtin.append_]
    simp only[aaL,abf,aaU,Sem.run_bind,run_underlying ua.h,run_underlying ub.h,Result.andThen_ok,s.h,Sem.run_pure,aaH,aaG,hlu,aaE hcap,aa7,aaJ,hfu,hadd,hst]
   ·rw[aa8,nY hroom,abh];exact g5
   ·intro k hk
    rw[List.flatMap_append]at hk⊢
    rw[aaL]
    have hle:off+xs.length*sz<=c.toList.length:=by omega
    by_cases h1:k<(xs.flatMap enc).length
    ·have h2:=g6 k h1
     rw[hl1]at h1
     rw[iY,aaI,abp (by rw[abe];omega),List.getElem?_take_of_lt (by omega),abD,h2,abp (by omega)]
    ·rw[aa0]at hk
     rw[hl1]at h1 hk
     rw[iY,aaI,List.getElem?_append_right (by rw[abe];omega),abe,Nat.min_eq_left hle,
      abp (by omega),List.getElem?_append_right (by omega),hl1]
     congr 1
     omega
  ·refine grow _ cap rfl hcap ?_
   refine qM (P:=P) (R:=sg [(b,.cells c E (0,0))]) (hv.rs λp hp=>hp) λb' o' h'=>?_
   simp only[sg,aa9,aa1]at h'
   obtain⟨e1,e2⟩:=h'
   subst e1;subst e2
   exact sat.2 (b',.cells c E (0,0)) (by simp)
section
variable{P:Program}{N:Nat}{R:av}{ops:Array Oper}{l:List Oper}{env:Env}{H:aV}{K:Env->aV->Prop}{ty:TypeId}{pos:String}{af:Array Edge}{m:Bool}
theorem aG.append{d:Nat}{x y:Operand}{f tb M E sz b:Nat}{enc:α->List Value}{v u z:Value}{xs ys:List α}{T:ax}{g:ax->aV}(C:OS E sz enc v xs T)(B:RS (Rx R H) sz enc u ys) [L:fm H T g] [O:bP P f (.slice E)] [Q:bP P tb (.slice M)] [s:Sz P E sz] [i:By P E b] [U:Zr P E z]
  (k:(xs.length+ys.length)*b<=2^47)(p:∀v' T',OS E sz enc v' (xs++ys) T'->aG false P N R ops l ((d,v')::env) (g T') K)
  (D:ev env x=some v:=by rfl)(F:ev env y=some u:=by rfl)(G:z.cells.size=sz:=by rfl)(m:0<b:=by decide)(n:Nat.blt d N=true:=by rfl):
  aG false P N R ops (⟨some d,.call ⟨.builtin .append,#[x,y],#[f,tb]⟩,ty,pos,af,none⟩::l) env H K:=
 aG.l8 n λa w e J I=>by
  obtain⟨V,W,j,c⟩:=L.h
  subst j
  obtain⟨v',S,T',r,q,o,A⟩:=MT (t:=ty) C B O Q s i U G m k J I
  refine⟨v',S,_,?_,?_,?_,p v' T' q⟩
  ·simp[execOp,resolve,e.eval D,e.eval F,invoke,builtin,r]
  ·rw[c];exact o
  ·rw[c];exact A
theorem aG.sW{t:TypeId}{x y:Operand}{E sz n k:Nat}{enc:α->List Value}{v p u:Value}{xs:List α}{z z':α}{cs:List Value}{T:ax}{M:ax->aV}(i:Nat)(d:OS E sz enc v xs T)(j:xs[i]? =some z) [sa:fm H T M] [s:Sz P t n]
  (g:ev env x=some p)(hp:p=cK (eK v (i*sz)) k)(hy:ev env y=some u)(hc:u.cells=cs.toArray)(hn:cs.length=n)(ho:∀c∈cs,Go.Proofs.YtkkmbiojicgobaaGreatDoor.aw c=true)(m:enc z'=cc (enc z) k cs)(hl:k+cs.length<=sz)
  (a1:∀T',OS E sz enc v (xs.set i z') T'->aG false P N R ops l env (M T') K):aG false P N R ops (⟨none,.store t x y,ty,pos,af,none⟩::l) env H K:=
 aG.oO λa w F L ro=>by
  obtain⟨H1,H2,V,D⟩:=sa.h
  subst V
  have o:=aa2 j
  have hi:i<xs.length:=(abi.1 j).1
  have a2:xs≠[]:=λe=>by subst e;simp at j
  have a0:=d.len z o
  have I:(enc z').length=sz:=by rw[m,nY (by omega),a0]
  rcases d.h with⟨_,rfl,_⟩|⟨b,off,c,C,rfl,rfl,O,Q,S,U⟩
  ·exact absurd rfl a2
  ·have X:=L.2 (b,.cells c E (0,0)) (by simp)
   have Y:c=c.toList.toArray:=by simp
   have a4:p=.pointer (some ⟨b,off+i*sz+k,none⟩):=by
    subst hp
    simp only[eK,cK,lE]
   subst a4
   have a7:c.toList.length=c.size:=abh
   have r:off+i*sz+k+cs.length<=c.toList.length:=by
    have f:(i+1)*sz<=C*sz:=aaZ _ (by omega)
    rw[Nat.succ_mul]at f
    omega
   have a5:=xR (P:=P) (t:=t) (n:=n) (b:=b) (off:=off+i*sz+k) (E:=E) (v:=u) (cs:=cs) (vs:=c.toList) (w:=w) hc hn (by rw[<-Y];exact X) ho r
   have a6:∀x∈xs.set i z',(enc x).length=sz:=λx g=>(List.mem_or_eq_of_mem_set g).elim (d.len x) (λe=>by rw[e];exact I)
   have a3:∀x∈xs.set i z',∀c∈enc x,Go.Proofs.YtkkmbiojicgobaaGreatDoor.aw c=true:=λx g=>(List.mem_or_eq_of_mem_set g).elim (d.one x) (λe=>by
    rw[e,m]
    intro c hc
    simp only[iY,abo]at hc
    rcases hc with(hc|hc)|hc
    ·exact d.one z o c (aba hc)
    ·exact ho c hc
    ·exact d.one z o c (List.mem_of_mem_drop hc))
   refine⟨eC w b (.cells (cc c.toList (off+i*sz+k) cs).toArray E (0,0)),_,.inl ?_,?_,?_,a1 [(b,.cells (cc c.toList (off+i*sz+k) cs).toArray E (0,0))] ⟨a6,a3,.inr ⟨b,off,_,C,by rw[List.length_set],rfl,by rw[List.length_set];exact O,Q,?_,?_⟩⟩⟩
   ·simp[execOp,F.eval g,F.eval hy,a5]
   ·rw[D];exact Frame.set (T1:=[]) (T2:=[])
   ·rw[D];exact Sat.set (T1:=[]) (T2:=[]) L
   ·rw[aa8,nY r,abh];exact S
   ·have f:=vy d.len j I m hl
    rw[f]
    have Z:=jP d.len
    have G:i*sz+k+cs.length<=(xs.flatMap enc).length:=by
     rw[Z]
     have f:(i+1)*sz<=xs.length*sz:=aaZ _ (by omega)
     rw[Nat.succ_mul]at f;omega
    intro q J
    rw[nY G]at J
    have W:=U q J
    rw[aaL,sM r,sM G,abD,W]
    by_cases A:q<i*sz+k
    ·rw[aaE (show off+q<off+i*sz+k by omega),aaE A]
    ·rw[aaD (show ¬off+q<off+i*sz+k by omega),aaD A]
     by_cases B:q<i*sz+k+cs.length
     ·rw[aaE (show off+q<off+i*sz+k+cs.length by omega),aaE B,show off+q-(off+i*sz+k)=q-(i*sz+k) by omega]
     ·rw[aaD (show ¬off+q<off+i*sz+k+cs.length by omega),aaD B]
theorem yU(p:Value):cK p 0=p:=by
 unfold cK
 split
 ·rename_i a;rfl
 ·rfl
theorem tG{v:Value}{k:Nat}:cK (eK v k) 0=eK v k:=yU _
theorem kT{vs cs:List Value}(h:cs.length=vs.length):cc vs 0 cs=cs:=by rw[iY];simp[h]
theorem aG.ft{t:TypeId}{x y:Operand}{E sz:Nat}{enc:α->List Value}{v:Value}{xs:List α}{z:α}{T:ax}{e:ax->aV}(i:Nat)(b:OS E sz enc v xs T)(d:xs[i]? =some z) [j:fm H T e] [s:Sz P t sz](z':α)
  (f:∀T',OS E sz enc v (xs.set i z') T'->aG false P N R ops l env (e T') K)(ho:∀c∈enc z',Go.Proofs.YtkkmbiojicgobaaGreatDoor.aw c=true)(a:(enc z').length=sz:=by rfl)(g:ev env x=some (eK v (i*sz)):=by rfl)(h:ev env y=some (.agg (enc z').toArray):=by rfl):
  aG false P N R ops (⟨none,.store t x y,ty,pos,af,none⟩::l) env H K:=
 aG.sW (k:=0) (cs:=enc z') i b d g tG.symm h rfl a ho (kT (by rw[a,b.len z (aa2 d)])).symm (by omega) f
theorem aG.eM{t:TypeId}{x y:Operand}{E:Nat}{enc:α->List Value}{v u:Value}{xs:List α}{z:α}{T:ax}{c:ax->aV}(i:Nat)(a:OS E 1 enc v xs T)(b:xs[i]? =some z) [h:fm H T c] [s:Sz P t 1](z':α)
  (d:∀T',OS E 1 enc v (xs.set i z') T'->aG false P N R ops l env (c T') K)(e:enc z'=[u]:=by rfl)(ho:Go.Proofs.YtkkmbiojicgobaaGreatDoor.aw u=true:=by rfl)(f:ev env x=some (eK v (i*1)):=by rfl)(g:ev env y=some u:=by rfl):
  aG false P N R ops (⟨none,.store t x y,ty,pos,af,none⟩::l) env H K:=
 aG.sW (k:=0) (cs:=[u]) i a b f tG.symm g (oz ho) rfl (by simpa using ho) (by rw[e,kT (by rw[a.len z (aa2 b)];rfl)]) (by simp) d
end
end
section
inductive CK where
 |i (k:IntKind)
 |s
 |b
def jB:CK->Value->Prop
 | .i k,.int k' _=>k'=k
 | .s,.string _=>True
 | .b,.bool _=>True
 |_,_=>False
def fC:List CK->List Value->Prop
 |[],[]=>True
 |k::ks,v::vs=>jB k v/\fC ks vs
 |_,_=>False
def oy:Value->Value->Bool
 | .int _ a,.int _ b=>a==b
 | .string a,.string b=>decide (a=b)
 | .bool a,.bool b=>a==b
 |_,_=>false
def jf:List Value->List Value->Bool
 |[],[]=>true
 |a::l,b::l2=>oy a b&&jf l l2
 |_,_=>false
def pack:Bool->List Value->Value
 |false,[x]=>x
 |_,xs=>.agg xs.toArray
theorem fC.length:∀{ks:List CK} {vs:List Value},fC ks vs->vs.length=ks.length
 |[],[],_=>rfl
 |_::ks,_::vs,h=>by simp[fC.length (ks:=ks) (vs:=vs) h.2]
 |[],_::_,h=>h.elim
 |_::_,[],h=>h.elim
theorem fC.split:∀{ks ks':List CK} {vs:List Value},fC (ks++ks') vs->fC ks (vs.take ks.length)/\fC ks' (vs.drop ks.length)
 |[],ks',vs,h=>by simpa[fC]using h
 |k::ks,ks',v::vs,h=>by
  have:=fC.split (ks:=ks) (ks':=ks') (vs:=vs) h.2
  exact⟨⟨h.1,this.1⟩,this.2⟩
 |_::_,_,[],h=>h.elim
theorem ux:∀(n:Nat) {xs ys:List Value},n<=xs.length->n<=ys.length->jf xs ys=(jf (xs.take n) (ys.take n)&&jf (xs.drop n) (ys.drop n))
 |0,xs,ys,_,_=>by simp[jf]
 |n+1,x::xs,y::ys,h1,h2=>by
  simp only[aaV]at h1 h2
  simp only[jf,List.take_succ_cons,List.drop_succ_cons]
  rw[ux n (by omega) (by omega),Bool.and_assoc]
 |n+1,[],_,h1,_=>by simp at h1
 |n+1,_::_,[],_,h2=>by simp at h2
class jd(P:Program)(t:TypeId)(n:outParam Nat)(ks:outParam (List CK))(agg:outParam Bool):Prop where
 ne:0<n
 eq:∀d,n<=d->∀w xs ys,fC ks xs->fC ks ys->(Op.equalIn d t (pack agg xs) (pack agg ys)).run P w=.ok (jf xs ys) w
 ck:∀d,n<=d->∀e w xs,fC ks xs->(Instr.checkKey e d t (pack agg xs)).run P w=.ok () w
 part:∀w (X:List Value) off xs,(X.drop off).take ks.length=xs->xs.length=ks.length->(part t X.toArray off).run P w=.ok (pack agg xs) w
def m0(e:Bool)(d:Nat)(xs:Array Value):List Field→Sem Unit
 |[]=>pure ()
 |f::fs=>if f.name≠ "_" then do Instr.checkKey e d f.type (←part f.type xs f.offset);m0 e d xs fs else m0 e d xs fs
structure ki(P:Program)(n off:Nat)(fs:List Field)(ks:List CK):Prop where
 eq:∀d,n<=d->∀w (X Y xs ys:List Value),X.drop off=xs->Y.drop off=ys->fC ks xs->fC ks ys->(Op.eqFields d X.toArray Y.toArray fs).run P w=.ok (jf xs ys) w
 ck:∀d,n<=d->∀e w (X xs:List Value),X.drop off=xs->fC ks xs->(m0 e d X.toArray fs).run P w=.ok () w
section
variable{P:Program}
theorem me{k:CK}{xs:List Value}(h:fC [k] xs):∃x,xs=[x]/\jB k x:=by
 match xs,h with
 |[x],h=>exact⟨x,rfl,h.1⟩
theorem sx{t:TypeId}(a:dj P t false)(w:World)(X:List Value)(off:Nat)(xs:List Value)(h:(X.drop off).take 1=xs)(c:xs.length=1):(part t X.toArray off).run P w=.ok (pack false xs) w:=by
 match xs,c with
 |[x],_=>
  have d:X[off]? =some x:=by
   have b:=aaM (λl:List Value=>l[0]?) h
   simpa[List.getElem?_take,abC]using b
  simp[Go.part,a.h,d,pack]
theorem jd.int{t:TypeId}{k:IntKind}(u:bP P t (.int k))(c:dj P t false):jd P t 1 [.i k] false where
 ne:=by decide
 eq d hd w xs ys hx hy:=by
  obtain⟨x,rfl,a⟩:=me hx
  obtain⟨y,rfl,b⟩:=me hy
  obtain⟨d,rfl⟩:∃d',d=d'+1:=⟨d-1,by omega⟩
  cases x<;>simp only[jB]at a
  cases y<;>simp only[jB]at b
  subst a;subst b
  simp[pack,Op.equalIn,run_underlying u.h,jf,oy]
 ck d hd e w xs hx:=by
  obtain⟨x,rfl,a⟩:=me hx
  obtain⟨d,rfl⟩:∃d',d=d'+1:=⟨d-1,by omega⟩
  simp[pack,Instr.checkKey,run_underlying u.h]
 part w X off xs h hl:=sx c w X off xs h hl
theorem jd.str{t:TypeId}(u:bP P t .string)(b:dj P t false):jd P t 1 [.s] false where
 ne:=by decide
 eq d hd w xs ys hx hy:=by
  obtain⟨x,rfl,a⟩:=me hx
  obtain⟨y,rfl,c⟩:=me hy
  obtain⟨d,rfl⟩:∃d',d=d'+1:=⟨d-1,by omega⟩
  cases x<;>simp only[jB]at a
  cases y<;>simp only[jB]at c
  simp[pack,Op.equalIn,run_underlying u.h,jf,oy,qa]
 ck d hd e w xs hx:=by
  obtain⟨x,rfl,a⟩:=me hx
  obtain⟨d,rfl⟩:∃d',d=d'+1:=⟨d-1,by omega⟩
  simp[pack,Instr.checkKey,run_underlying u.h]
 part w X off xs h hl:=sx b w X off xs h hl
theorem jd.bool{t:TypeId}(u:bP P t .bool)(c:dj P t false):jd P t 1 [.b] false where
 ne:=by decide
 eq d hd w xs ys hx hy:=by
  obtain⟨x,rfl,a⟩:=me hx
  obtain⟨y,rfl,f⟩:=me hy
  obtain⟨d,rfl⟩:∃d',d=d'+1:=⟨d-1,by omega⟩
  cases x<;>simp only[jB]at a
  cases y<;>simp only[jB]at f
  simp[pack,Op.equalIn,run_underlying u.h,jf,oy]
 ck d hd e w xs hx:=by
  obtain⟨x,rfl,a⟩:=me hx
  obtain⟨d,rfl⟩:∃d',d=d'+1:=⟨d-1,by omega⟩
  simp[pack,Instr.checkKey,run_underlying u.h]
 part w X off xs h hl:=sx c w X off xs h hl
theorem ki.nil{n off:Nat}:ki P n off [] [] where
 eq d hd w X Y xs ys hx hy h1 h2:=by
  cases xs<;>cases ys<;>simp_all[fC,Op.eqFields,jf]
 ck d hd e w X xs hx h1:=rfl
theorem ki.cons{n m off:Nat}{f:Field}{fs:List Field}{kf ks:List CK}{agg:Bool}(ef:jd P f.type m kf agg)(h:ki P n (off+kf.length) fs ks)(hm:m≤n:=by decide)(ho:f.offset=off:=by rfl)(hn:f.name≠ "_":=by decide):ki P n off (f::fs) (kf++ks) where
 eq d hd w X Y xs ys hx hy h1 h2:=by
  obtain⟨a1,a2⟩:=h1.split
  obtain⟨b1,b2⟩:=h2.split
  have l1:=h1.length
  have l2:=h2.length
  rw[aa0]at l1 l2
  have e1:=ef.part w X off (xs.take kf.length) (by rw[hx]) a1.length
  have e2:=ef.part w Y off (ys.take kf.length) (by rw[hy]) b1.length
  have e3:=ef.eq d (by omega) w _ _ a1 b1
  have e4:=h.eq d hd w X Y (xs.drop kf.length) (ys.drop kf.length) (by rw[←hx,List.drop_drop]) (by rw[←hy,List.drop_drop]) a2 b2
  simp only[Op.eqFields,hn,ne_eq,abj,aaJ,ho,Sem.run_bind,e1,e2,e3,Result.andThen_ok]
  rw[ux kf.length (xs:=xs) (ys:=ys) (by omega) (by omega)]
  cases jf (xs.take kf.length) (ys.take kf.length)
  ·simp
  ·simp only[abb,aaH,aaG,Bool.true_and];exact e4
 ck d hd e w X xs hx h1:=by
  obtain⟨a1,a2⟩:=h1.split
  have e1:=ef.part w X off (xs.take kf.length) (by rw[hx]) a1.length
  have e3:=ef.ck d (by omega) e w _ a1
  have e4:=h.ck d hd e w X (xs.drop kf.length) (by rw[←hx,List.drop_drop]) a2
  simp only[m0,hn,ne_eq,abj,aaJ,ho,Sem.run_bind,e1,e3,Result.andThen_ok]
  exact e4
theorem MU{t:TypeId}{c:Array Field}(e:Bool)(d:Nat)(xs:Array Value)(w:World)(g:P.underlying t=some (.struct c)):(Instr.checkKey e (d+1) t (.agg xs)).run P w=(m0 e d xs c.toList).run P w:=by
 simp only[Instr.checkKey,Sem.run_bind,run_underlying g,Result.andThen_ok]
 rw[<-Array.forIn_toList]
 generalize c.toList=fl
 clear g
 induction fl generalizing w with
 |nil=>simp[m0]
 |cons f fl ih=>
  simp only[List.forIn_cons,m0,Sem.run_bind,Sem.run_ite]
  split
  ·generalize (part f.type xs f.offset).run P w=r1
   cases r1 with
   |ok a w1=>
    simp only[Result.andThen_ok]
    generalize (Instr.checkKey e d f.type a).run P w1=r2
    cases r2 with
    |ok b w2=>simp only[Result.andThen_ok,Sem.run_pure];exact ih w2
    |halt x w2=>rfl
   |halt x w1=>rfl
  ·simp only[Sem.run_pure,Result.andThen_ok]
   exact ih w
theorem ki.more{n m off:Nat}{f:Field}{fs:List Field}{kf ks ks':List CK}{agg:Bool}(ef:jd P f.type m kf agg)(h:ki P n (off+kf.length) fs ks)(hk:ks'=kf++ks:=by rfl)(hm:m≤n:=by decide)(ho:f.offset=off:=by rfl)(hn:f.name≠ "_":=by decide):ki P n off (f::fs) ks':=by
 subst hk;exact ki.cons ef h hm ho hn
theorem jd.struct{t n:Nat}{a:Array Field}{ks:List CK}(u:P.underlying t=some (.struct a))(g:P.stoodInHeld t=false)(c:dj P t true)(sz:Sz P t ks.length)(h:ki P n 0 a.toList ks):jd P t (n+1) ks true where
 ne:=by omega
 eq d hd w xs ys hx hy:=by
  obtain⟨d,rfl⟩:∃d',d=d'+1:=⟨d-1,by omega⟩
  have b:P.fieldsOf t=a:=by simp[Program.fieldsOf,u]
  have:=run_equalIn_struct (P:=P) w d t xs.toArray ys.toArray (by rw[b];exact u) g
  rw[b]at this
  have e:=h.eq d (by omega) w xs ys xs ys (by simp) (by simp) hx hy
  rw[e]at this
  exact this
 ck d hd e w xs hx:=by
  obtain⟨d,rfl⟩:∃d',d=d'+1:=⟨d-1,by omega⟩
  have f:=h.ck d (by omega) e w xs xs (by simp) hx
  have:=MU (P:=P) e d xs.toArray w u
  rw[f]at this
  exact this
 part w X off xs h hl:=by
  have:X.toArray.extract off (off+ks.length)=xs.toArray:=by
   rw[List.extract_toArray,List.extract_eq_take_drop, <-h]
   congr 2
   omega
  simp only[Go.part,Sem.run_bind,c.h,Result.andThen_ok,aaJ,sz.h,this]
  rfl
end
end
section
variable{κ β:Type} [DecidableEq κ]
def aU(k:κ):List (κ×β)->Option β
 |[]=>none
 |(k',x)::r=>if k=k' then some x else aU k r
def iB(k:κ)(x:β):List (κ×β)->List (κ×β)
 |[]=>[(k,x)]
 |(k',y)::r=>if k=k' then(k',x)::r else(k',y)::iB k x r
def eG(k:κ):List (κ×β)->List (κ×β)
 |[]=>[]
 |(k',y)::r=>if k=k' then r else(k',y)::eG k r
theorem fH{k:κ}{x:β}:∀{M:List (κ×β)},aU k M=some x->(k,x)∈M
 |[],h=>by cases h
 |(k',y)::r,h=>by
  simp only[aU]at h
  split at h
  ·rename_i a;subst a;simp only[abq]at h;subst h;simp
  ·exact abE _ (fH h)
theorem iA{k:κ}:∀{M:List (κ×β)},aU k M=none↔k∉M.map (·.1)
 |[]=>by simp[aU]
 |(k',y)::r=>by
  simp only[aU,aaF,aaK,not_or]
  split
  ·rename_i a;simp[a]
  ·rename_i a;simp[a,iA]
theorem gC{k:κ}{x:β}:∀{M:List (κ×β)},(M.map (·.1)).Nodup->(k,x)∈M->aU k M=some x
 |[],_,h=>by simp at h
 |(k',y)::r,hn,h=>by
  simp only[aaF,abc]at hn
  simp only[aU]
  rcases aaK.1 h with h0|h0
  ·injection h0 with h1 h2;subst h1;subst h2;simp
  ·split
   ·rename_i a;subst a;exact absurd (aaP.2 ⟨_,h0,rfl⟩) hn.1
   ·exact gC hn.2 h0
theorem sj{k:κ}{x:β}:∀{M:List (κ×β)},(iB k x M).map (·.1)=if k∈M.map (·.1)then M.map (·.1)else M.map (·.1)++[k]
 |[]=>by simp[iB]
 |(k',y)::r=>by
  simp only[iB]
  split
  ·rename_i a;subst a;simp
  ·rename_i a
   simp only[aaF,sj,aaK]
   by_cases h:k∈r.map (·.1)
   ·simp[h]
   ·simp[h,a]
theorem wu{k:κ}{x:β}{M:List (κ×β)}(h:(M.map (·.1)).Nodup):((iB k x M).map (·.1)).Nodup:=by
 rw[sj]
 split
 ·exact h
 ·rename_i f
  exact abr.2 ⟨h,by simp,λa d b c e=>by simp only[aa9]at c;subst c;subst e;exact f d⟩
theorem sh{k:κ}:∀{M:List (κ×β)},∀p∈eG k M,p∈M
 |[],p,h=>by simp[eG]at h
 |(k',y)::r,p,h=>by
  simp only[eG]at h
  split at h
  ·exact abE _ h
  ·rcases aaK.1 h with h|h
   ·rw[h];simp
   ·exact abE _ (sh p h)
theorem wh{k:κ}:∀{M:List (κ×β)},(eG k M).Sublist M
 |[]=>by simp[eG]
 |(k',y)::r=>by
  simp only[eG]
  split
  ·exact List.sublist_cons_self _ _
  ·exact(wh).cons_cons _
theorem K7{k:κ}{M:List (κ×β)}(h:(M.map (·.1)).Nodup):((eG k M).map (·.1)).Nodup:=h.sublist (wh.map _)
theorem wg{k:κ}:∀{M:List (κ×β)},(eG k M).length=if(aU k M).isSome then M.length-1 else M.length
 |[]=>by simp[eG,aU]
 |(k',y)::r=>by
  simp only[eG,aU]
  split
  ·simp
  ·simp only[aaV,wg]
   split
   ·rename_i h
    have:r≠[]:=λe=>by subst e;simp[aU]at h
    have:=abF.2 this
    omega
   ·rfl
def jj(k:κ):List κ->List MapEntry->Nat->Option (Nat×Value)
 |k'::ks,e::es,i=>if k=k' then some (i,e.val)else jj k ks es (i+1)
 |_,_,_=>none
class iS(P:Program)(kt:TypeId)(encK:κ->Value):Prop where
 find:∀(k:κ) (es:List MapEntry) (ks:List κ) w,es.map (·.key)=ks.map encK->(Instr.findKey kt (encK k) es).run P w=.ok (jj k ks es 0) w
 ck:∀e k w,(Instr.checkKey e 10000 kt (encK k)).run P w=.ok () w
 same:∀k,Instr.sameBits 10000 (encK k) (encK k)=true
theorem xO{P:Program}{kt:TypeId}{encK:κ->Value}(a:∀k k' w,(Op.equal kt (encK k) (encK k')).run P w=.ok (decide (k=k')) w)(k:κ):
  ∀(es:List MapEntry) (ks:List κ) (i:Nat) w,es.map (·.key)=ks.map encK->(Instr.findAsking kt (encK k) es i).run P w=.ok (jj k ks es i) w
 |[],ks,i,w,h=>by
  cases ks with
  |nil=>rfl
  |cons _ _=>simp at h
 |e::es,[],i,w,h=>by simp at h
 |e::es,k'::ks,i,w,h=>by
  simp only[aaF,abt]at h
  simp only[Instr.findAsking,Sem.run_bind,h.1,a,Result.andThen_ok,jj]
  by_cases b:k=k'
  ·simp[b]
  ·simp only[b,aa3,aaH,aaG]
   exact xO a k es ks (i+1) w h.2
theorem vp{d:TypeDesc}{encK:κ->Value}(b:∀k k',Instr.sameNow d (encK k) (encK k')=some (decide (k=k')))(k:κ):
  ∀(es:List MapEntry) (ks:List κ) (i:Nat),es.map (·.key)=ks.map encK->Instr.findNow d (encK k) es i=some (jj k ks es i)
 |[],ks,i,h=>by
  cases ks with
  |nil=>rfl
  |cons _ _=>simp at h
 |e::es,[],i,h=>by simp at h
 |e::es,k'::ks,i,h=>by
  simp only[aaF,abt]at h
  simp only[Instr.findNow,h.1,b,jj]
  by_cases a:k=k'
  ·simp[a]
  ·simp only[a,aa3,aaG]
   exact vp b k es ks (i+1) h.2
theorem M7{ks:List CK}:∀{xs:List Value},fC ks xs->∀x∈xs,Instr.sameBits 9999 x x=true:=by
 induction ks with
 |nil=>intro xs h x hx;cases xs<;>simp_all[fC]
 |cons k ks ih=>
  intro xs h x hx
  cases xs with
  |nil=>simp at hx
  |cons y ys=>
   rcases aaK.1 hx with rfl|hx
   ·have:=h.1
    cases k<;>cases x<;>first|exact this.elim|simp[Instr.sameBits,qa]
   ·exact ih h.2 x hx
theorem iS.agg{P:Program}{kt n:Nat}{ks:List CK}{a:κ->List Value}(e:jd P kt n ks true){c:Array Field}(u:P.underlying kt=some (.struct c))(d:Nat.ble n 10000=true)(b:∀k,fC ks (a k))(m:∀k k',jf (a k) (a k')=decide (k=k')):iS P kt (λk:κ=>.agg (a k).toArray) where
 find k es ks' w h:=by
  have o:∀(k k':κ) w,(Op.equal kt (.agg (a k).toArray) (.agg (a k').toArray)).run P w=.ok (decide (k=k')) w:=λk k' w=>by
   rw[<-m];exact e.eq 10000 (aa4 d) w _ _ (b k) (b k')
  have g:=xO o k es ks' 0 w h
  simp only[Instr.findKey,Sem.run_bind,run_underlying u,Result.andThen_ok]
  cases es with
  |nil=>
   cases ks' with
   |nil=>rfl
   |cons _ _=>simp at h
  |cons e es=>
   have:Instr.findNow (.struct c) (.agg (a k).toArray) (e::es) 0=none:=rfl
   rw[this]
   exact g
 ck em k w:=e.ck 10000 (aa4 d) em w _ (b k)
 same k:=by
  have h:=M7 (b k)
  show((a k).toArray.size==(a k).toArray.size&&((a k).toArray.toList.zip (a k).toArray.toList).all λ(x,y)=>Instr.sameBits 9999 x y)=true
  simp only[abG,Bool.true_and]
  rw[List.all_eq_true]
  intro p f
  have:p.1=p.2/\p.1∈a k:=by
   have j:=List.of_mem_zip f
   have l:p.1=p.2:=by
    obtain⟨i,r,rfl⟩:=aa5.1 f
    simp
   exact⟨l,by simpa using j.1⟩
  obtain⟨x,y⟩:=p
  simp only at this⊢
  obtain⟨rfl,q⟩:=this
  exact h x q
theorem iS.str{P:Program}{kt:Nat}(u:bP P kt .string)(a:dj P kt false):iS P kt (λs:ByteArray=>.string s) where
 find k es ks w h:=by
  have:=vp (d:=.string) (encK:=λs:ByteArray=>Value.string s) (λk b=>by simp[Instr.sameNow,qa]) k es ks 0 h
  simp only[Instr.findKey,Sem.run_bind,run_underlying u.h,Result.andThen_ok,this]
  rfl
 ck em k w:=(jd.str u a).ck 10000 (by decide) em w [.string k] ⟨trivial,trivial⟩
 same k:=by simp[Instr.sameBits,qa]
def jL(encK:κ->Value)(encV:β->Value)(es:List MapEntry)(M:List (κ×β)):Prop:=es.map (λe=>(e.key,e.val))=M.map λp=>(encK p.1,encV p.2)
omit [DecidableEq κ] in
theorem jL.keys{encK:κ->Value}{b:β->Value}{a:List MapEntry}{M:List (κ×β)}(h:jL encK b a M):a.map (·.key)=(M.map (·.1)).map encK:=by
 have:=aaM (List.map Prod.fst) h
 simpa[Function.comp_def]using this
omit [DecidableEq κ] in
theorem jL.length{encK:κ->Value}{b:β->Value}{a:List MapEntry}{M:List (κ×β)}(h:jL encK b a M):a.length=M.length:=by
 have:=aaM List.length h
 simpa using this
theorem vY{encK:κ->Value}{a:β->Value}(k:κ):∀{es:List MapEntry} {M:List (κ×β)} (i:Nat),jL encK a es M->
  (jj k (M.map (·.1)) es i).map (·.2)=(aU k M).map a
 |[],[],_,_=>rfl
 |[],_::_,_,h=>by simp[jL]at h
 |_::_,[],_,h=>by simp[jL]at h
 |e::es,(k',x)::M,i,h=>by
  simp only[jL,aaF,abt,aa1]at h
  simp only[aaF,jj,aU]
  split
  ·simp[h.1.2]
  ·exact vY k (i+1) h.2
structure gH(encK:κ->Value)(encV:β->Value)(es:Array MapEntry)(clock:Nat)(M:List (κ×β)):Prop where
 jg:jL encK encV es.toList M
 nd:(M.map (·.1)).Nodup
 born:∀e∈es.toList,e.born<clock
 km:(es.toList.map (·.born)).Nodup
def RM(R:av)(encK:κ->Value)(encV:β->Value)(m:Value)(M:List (κ×β)):Prop:=∃b es clock,m=.map (some b)/\R b (.map es clock)/\gH encK encV es clock M
def MS(encK:κ->Value)(encV:β->Value)(m:Value)(M:List (κ×β))(T:ax):Prop:=∃b es clock,m=.map (some b)/\T=[(b,.map es clock)]/\gH encK encV es clock M
omit [DecidableEq κ] in
theorem MS.rm{R:av}{encK:κ->Value}{a:β->Value}{m:Value}{M:List (κ×β)}{T:ax}(h:MS encK a m M T)(g:∀p∈T,R p.1 p.2):RM R encK a m M:=by
 obtain⟨b,d,c,e,rfl,f⟩:=h
 exact⟨b,d,c,e,g (b,_) (by simp),f⟩
omit [DecidableEq κ] in
theorem MS.rx{R:av}{H:aV}{encK:κ->Value}{a:β->Value}{m:Value}{M:List (κ×β)}{T:ax}{c:ax->aV}(h:MS encK a m M T) [s:fm H T c]:RM (Rx R H) encK a m M:=h.rm λp b=>.inr (s.mem p b)
omit [DecidableEq κ] in
theorem RM.mono{R R':av}{encK:κ->Value}{a:β->Value}{m:Value}{M:List (κ×β)}(h:RM R encK a m M)(i:∀b o,R b o->R' b o):RM R' encK a m M:=by
 obtain⟨b,d,c,e,f,g⟩:=h
 exact⟨b,d,c,e,i _ _ f,g⟩
omit [DecidableEq κ] in
theorem MS.nil{encK:κ->Value}{a:β->Value}{b:Nat}:MS encK a (.map (some b)) ([]:List (κ×β)) [(b,.map #[] 0)]:=
 ⟨b,#[],0,rfl,rfl,⟨by simp[jL],by simp,by simp,by simp⟩⟩
omit [DecidableEq κ] in
theorem MS.nd{encK:κ->Value}{a:β->Value}{m:Value}{M:List (κ×β)}{T:ax}(h:MS encK a m M T):(M.map (·.1)).Nodup:=by obtain⟨b,e,d,_,_,c⟩:=h;exact c.nd
theorem lv{P:Program}{b:Nat}{c:Array MapEntry}{a:Nat}{w:World}(h:w.heap[b]? =some (.map c a)):(getObj b).run P w=.ok (.map c a) w:=by
 simp[getObj,Sem.run,h]
theorem qO{P:Program}{b:Nat}{c:Array MapEntry}{a:Nat}{o:Obj}{w:World}(h:w.heap[b]? =some (.map c a)):(setObj b o).run P w=.ok () (eC w b o):=by
 simp[setObj,Sem.run,h,eC]
theorem vW{k:κ}:∀{ks:List κ} {es:List MapEntry} {i:Nat},ks.length=es.length->(jj k ks es i=none↔k∉ks)
 |[],es,i,h=>by simp[jj]
 |k'::ks,[],i,h=>by simp at h
 |k'::ks,e::es,i,h=>by
  simp only[aaV,abH]at h
  simp only[jj,aaK,not_or]
  split
  ·rename_i a;simp[a]
  ·rename_i a;rw[vW h];simp[a]
theorem vX{k:κ}:∀{ks:List κ} {es:List MapEntry} {i j:Nat} {v:Value},jj k ks es i=some (j,v)->i<=j/\ks[j-i]? =some k/\∃e,es[j-i]? =some e/\e.val=v
 |[],es,i,j,v,h=>by simp[jj]at h
 |k'::ks,[],i,j,v,h=>by simp[jj]at h
 |k'::ks,e::es,i,j,v,h=>by
  simp only[jj]at h
  split at h
  ·rename_i b
   simp only[abq,aa1]at h
   obtain⟨rfl,rfl⟩:=h
   simp[b]
  ·have:=vX h
   have a:j-i=(j-(i+1))+1:=by omega
   rw[a]
   exact⟨by omega,by simpa using this.2.1,by simpa using this.2.2⟩
theorem wq{k:κ}{x:β}:∀{M:List (κ×β)} {j:Nat},(M.map (·.1)).Nodup->(M.map (·.1))[j]? =some k->iB k x M=M.set j (k,x)
 |[],j,_,h=>by simp at h
 |(k',y)::r,0,hn,h=>by
  simp at h;subst h;simp[iB]
 |(k',y)::r,j+1,hn,h=>by
  simp only[aaF,abc]at hn
  simp only[aaF,aaU]at h
  have a:k≠k':=λe=>hn.1 (e▸aa2 h)
  simp only[iB,aaD a,List.set_cons_succ,wq hn.2 h]
theorem o3{k:κ}{x:β}:∀{M:List (κ×β)},k∉M.map (·.1)->iB k x M=M++[(k,x)]
 |[],_=>rfl
 |(k',y)::r,h=>by
  simp only[aaF,aaK,not_or]at h
  simp only[iB,aaD h.1,o3 h.2,abn]
theorem se{k:κ}:∀{M:List (κ×β)} {j:Nat},(M.map (·.1)).Nodup->(M.map (·.1))[j]? =some k->eG k M=M.eraseIdx j
 |[],j,_,h=>by simp at h
 |(k',y)::r,0,hn,h=>by
  simp at h;subst h;simp[eG]
 |(k',y)::r,j+1,hn,h=>by
  simp only[aaF,abc]at hn
  simp only[aaF,aaU]at h
  have a:k≠k':=λe=>hn.1 (e▸aa2 h)
  simp only[eG,aaD a,List.eraseIdx_cons_succ,se hn.2 h]
theorem sf{k:κ}:∀{M:List (κ×β)},k∉M.map (·.1)->eG k M=M
 |[],_=>rfl
 |(k',y)::r,h=>by
  simp only[aaF,aaK,not_or]at h
  simp only[eG,aaD h.1,sf h.2]
omit [DecidableEq κ] in
theorem sd{α γ:Type}(f:α->γ):∀(l:List α) (j:Nat),(l.eraseIdx j).map f=(l.map f).eraseIdx j
 |[],_=>rfl
 |_::_,0=>rfl
 |a::l,j+1=>by simp[sd f l j]
theorem gH.find{P:Program}{kt:Nat}{encK:κ->Value}{f:β->Value}{a:Array MapEntry}{g:Nat}{M:List (κ×β)}(h:gH encK f a g M) [i:iS P kt encK](k:κ)(w:World):
    ∃r,(Instr.findKey kt (encK k) a.toList).run P w=.ok r w/\r.map (·.2)=(aU k M).map f/\
     (match r with
      |none=>k∉M.map (·.1)
      |some (j,_)=>(M.map (·.1))[j]? =some k/\∃e,a[j]? =some e/\e.key=encK k):=by
  refine⟨_,i.find k a.toList (M.map (·.1)) w h.jg.keys,vY k 0 h.jg,?_⟩
  cases hl:jj k (M.map (·.1)) a.toList 0 with
  |none=>exact(vW (by rw[abk,h.jg.length])).1 hl
  |some jv=>
   obtain⟨j,v⟩:=jv
   obtain⟨_,b,e,c,_⟩:=vX hl
   simp only[Nat.sub_zero]at b c
   refine⟨b,e,by simpa using c,?_⟩
   have d:=aaM (λl:List Value=>l[j]?) h.jg.keys
   simp only[aaN,c,aaQ]at d
   rw[<-aaN,b]at d
   simpa using d
theorem gH.update{encK:κ->Value}{b:β->Value}{a:Array MapEntry}{g:Nat}{M:List (κ×β)}(h:gH encK b a g M){k:κ}{j:Nat}(x:β)(p:(M.map (·.1))[j]? =some k):
  gH encK b (a.modify j λe=>{e with key:=encK k,val:=b x}) g (iB k x M):=by
 have f:(a.modify j λe=>{e with key:=encK k,val:=b x}).toList=a.toList.modify j λe=>{e with key:=encK k,val:=b x}:=by
  apply abl;intro i
  simp[abI]
 have n:(a.toList.modify j λe=>{e with key:=encK k,val:=b x}).map (·.born)=a.toList.map (·.born):=by
  apply abl;intro i
  simp only[aaN,abI]
  split<;>simp[Function.comp_def]
 refine⟨?_,wu h.nd,?_,?_⟩
 ·rw[f,wq h.nd p]
  unfold jL
  have:=h.jg
  unfold jL at this
  apply abl;intro i
  have o:=aaM (λl:List (Value×Value)=>l[i]?) this
  simp only[aaN]at o
  simp only[aaN,abI,abJ]
  by_cases d:j=i
  ·subst d
   have t:j<M.length:=by
    have:=(abi.1 p).1
    simpa using this
   simp only[aaJ,t,aaQ]
   cases c:a.toList[j]? with
   |none=>
    have:=List.getElem?_eq_none_iff.1 c
    rw[h.jg.length]at this
    omega
   |some e=>rfl
  ·rw[aaD d, <-o]
   cases a.toList[i]? <;>simp[d]
 ·intro e c
  rw[f]at c
  have m:e.born∈(a.toList.modify j λe=>{e with key:=encK k,val:=b x}).map (·.born):=abu c
  rw[n]at m
  obtain⟨q,s,r⟩:=aaP.1 m
  rw[<-r];exact h.born q s
 ·rw[f,n];exact h.km
theorem gH.insert{encK:κ->Value}{d:β->Value}{f:Array MapEntry}{c:Nat}{M:List (κ×β)}(h:gH encK d f c M){k:κ}(x:β)(m:k∉M.map (·.1)):
  gH encK d (f.push {key:=encK k,val:=d x,born:=c}) (c+1) (iB k x M):=by
 refine⟨?_,wu h.nd,?_,?_⟩
 ·have:=h.jg
  unfold jL at this⊢
  rw[o3 m]
  simp[this]
 ·intro e he
  simp only[Array.toList_push,abo,aa9]at he
  rcases he with he|rfl
  ·have:=h.born e he;omega
  ·simp
 ·simp only[Array.toList_push,List.map_append,aaF,List.map_nil]
  refine abr.2 ⟨h.km,by simp,?_⟩
  intro a i b j e
  simp only[aa9]at j
  obtain⟨g,l,rfl⟩:=aaP.1 i
  have:=h.born g l
  omega
theorem gH.delete{encK:κ->Value}{d:β->Value}{a:Array MapEntry}{c:Nat}{M:List (κ×β)}(h:gH encK d a c M){k:κ}{j:Nat}(g:(M.map (·.1))[j]? =some k):
  gH encK d (a.eraseIdxIfInBounds j) c (eG k M):=by
 have b:(a.eraseIdxIfInBounds j).toList=a.toList.eraseIdx j:=by simp
 refine⟨?_,K7 h.nd,?_,?_⟩
 ·have:=h.jg
  unfold jL at this⊢
  rw[b,se h.nd g,sd,sd,this]
 ·intro e f
  rw[b]at f
  exact h.born e (List.mem_of_mem_eraseIdx f)
 ·rw[b]
  exact h.km.sublist ((List.eraseIdx_sublist ..).map _)
end
section
variable{κ β:Type} [DecidableEq κ]
def It(Rd:av)(encK:κ->Value)(encV:β->Value)(m:Value)(M:List (κ×β))(it:Value)(todo:List κ)(Ti:ax):Prop:=
 ∃b es clock r seen,m=.map (some b)/\Rd b (.map es clock)/\gH encK encV es clock M/\it=.pointer (some ⟨r,0,none⟩)/\Ti=[(r,.mapIter (some b) clock seen clock)]/\
  todo=((es.toList.zip M).filter λp=> !seen.contains p.1.born).map (·.2.1)
section
variable{P:Program}{N:Nat}{R:av}{ops:Array Oper}{l:List Oper}{env:Env}{H:aV}{K:Env->aV->Prop}{ty:TypeId}{pos:String}{af:Array Edge}{m:Bool}
variable{encK:κ->Value}{encV:β->Value}{mp:Value}{M:List (κ×β)}{T:ax}{upd:ax->aV}
theorem nj{w:World}(s:Sat w H)(r:RO w R H):∀b o,Rx R H b o->w.heap[b]? =some o:=λb o h=>by
 rcases h with h|h
 ·exact(r b o h).1
 ·exact s.2 _ h
theorem xQ{x k:Value}{kt f t:TypeId}{z:Value}{key:κ}{w:World}{ok:Bool}{b:Nat}{e:Array MapEntry}{d:Nat}(ut:bP P t (.map kt f))(l:iS P kt encK)(m:Zr P f z)(i:w.heap[b]? =some (.map e d))(h:gH encK encV e d M):
  (Instr.lookup t (.map (some b)) (encK key) ok).run P w=.ok (if ok then .tuple #[((aU key M).map encV).getD z,.bool (aU key M).isSome]else((aU key M).map encV).getD z) w:=by
 obtain⟨r,g,a,n⟩:=h.find (P:=P) (kt:=kt) key w
 unfold Instr.lookup
 simp only[Sem.run_bind,run_underlying ut.h,Result.andThen_ok,lv i,l.ck,g,Sem.run_pure]
 cases r with
 |none=>
  simp only[Option.map_none]at a
  have c:aU key M=none:=by simpa using a.symm
  simp[c,m.h]
 |some jv=>
  obtain⟨j,v⟩:=jv
  simp only[aaQ]at a
  rw[<-a]
  have c:(aU key M).isSome=true:=by
   have:=aaM Option.isSome a
   simpa using this.symm
  simp[c]
theorem aP.kP{x y:Operand}{t kt c:TypeId}{z:Value}{key:κ}(h:RM (Rx R H) encK encV mp M)(j:ev env x=some mp)(l:ev env y=some (encK key)) [ut:bP P t (.map kt c)] [m:iS P kt encK] [o:Zr P c z]:
  aP P R env H (.lookup t x y true) ty (.tuple [((aU key M).map encV).getD z,.bool (aU key M).isSome].toArray):=λa w d u p g e s n=>by
 obtain⟨b,r,q,rfl,f,i⟩:=h
 have:=xQ (P:=P) (x:=.nilFunc) (k:=.nilFunc) (t:=t) (ok:=true) (key:=key) ut m o (nj s n _ _ f) i
 simp[execOp,e.eval j,e.eval l,this]
theorem aP.K4{x y:Operand}{t kt c:TypeId}{z:Value}{key:κ}(h:RM (Rx R H) encK encV mp M)(j:ev env x=some mp)(l:ev env y=some (encK key)) [ut:bP P t (.map kt c)] [m:iS P kt encK] [o:Zr P c z]:
  aP P R env H (.lookup t x y false) ty (((aU key M).map encV).getD z):=λa w d u p g e s n=>by
 obtain⟨b,r,q,rfl,f,i⟩:=h
 have:=xQ (P:=P) (x:=.nilFunc) (k:=.nilFunc) (t:=t) (ok:=false) (key:=key) ut m o (nj s n _ _ f) i
 simp[execOp,e.eval j,e.eval l,this]
omit [DecidableEq κ] in
theorem aP.r9{x:Operand}{t kt e:TypeId}(h:RM (Rx R H) encK encV mp M)(m:ev env x=some mp) [ut:bP P t (.map kt e)]:aP P R env H (.call ⟨.builtin .len,#[x],#[t]⟩) ty (.int .i64 M.length):=λa w d q o g j s n=>by
 obtain⟨b,c,p,rfl,f,i⟩:=h
 have k:=i.jg.length
 have l:c.size=M.length:=by simpa using k
 simp[execOp,resolve,j.eval m,invoke,builtin,Builtin.len_,run_underlying ut.h,lv (nj s n _ _ f),goInt,l]
omit [DecidableEq κ] in
theorem MW(n:Nat){t kt a:TypeId}{w:World}{p:Option Nat}(ut:P.underlying t=some (.map kt a)):(Op.equalIn (n+1) t (.map p) (.map none)).run P w=.ok p.isNone w:=by
 cases p<;>simp[Op.equalIn,run_underlying ut]
omit [DecidableEq κ] in
theorem aP.qz{x y:Operand}{t u kt c:TypeId}{p:Option Nat}(e:ev env x=some (.map p))(f:ev env y=some (.map none)) [ut:bP P t (.map kt c)]:aP P R env H (.binOp .neq t x y u) ty (.bool !p.isNone):=λa w d j i g b _ _=>
 qN (op:=.move x) (b.eval e) (b.eval f) (mH rfl) rfl (MW _ ut.h)
theorem lS{w:World}{H1 H2:aV}{b:Nat}{o o':Obj}(s:Sat w (H1++[(b,o)]::H2)):Frame w (H1++[(b,o)]::H2) (eC w b o') (H1++[(b,o')]::H2)/\Sat (eC w b o') (H1++[(b,o')]::H2):=
 ⟨Frame.set (T1:=[]) (T2:=[]),Sat.set (T1:=[]) (T2:=[]) s⟩
omit [DecidableEq κ] in
theorem KT{b:Nat}{m k:Array MapEntry}{j:Nat}{l:List (κ×β)}(z:gH encK encV m j M)(A:gH encK encV k j l)(x:k.toList.map (·.born)=m.toList.map (·.born))(y:l.map (·.1)=M.map (·.1)){q:Value}{todo:List κ}{o:ax}
  (h:It (sg [(b,.map m j)]) encK encV (.map (some b)) M q todo o):It (sg [(b,.map k j)]) encK encV (.map (some b)) l q todo o:=by
 obtain⟨s,C,t,r,n,g,d,i,u,v,w⟩:=h
 simp only[sg,aa9,aa1,Obj.map.injEq]at d
 obtain⟨rfl,rfl,rfl⟩:=d
 refine⟨s,k,t,r,n,g,by simp[sg],A,u,v,?_⟩
 rw[w]
 have B:∀(e c:List MapEntry) (N f:List (κ×β)),c.map (·.born)=e.map (·.born)->f.map (·.1)=N.map (·.1)->e.length=N.length->
   ((e.zip N).filter λp=> !n.contains p.1.born).map (·.2.1)=((c.zip f).filter λp=> !n.contains p.1.born).map (·.2.1):=by
  intro e
  induction e with
  |nil=>intro c N f g d i;cases c<;>simp_all
  |cons a e ih=>
   intro c N f g d i
   cases c with
   |nil=>simp at g
   |cons a' c=>cases N with
    |nil=>simp at i
    |cons p N=>cases f with
     |nil=>simp at d
     |cons p' f=>
      simp only[aaF,abt]at g d
      simp only[aaV,abH]at i
      have:=ih c N f g.2 d.2 i
      simp only[abK,aaR,g.1]
      split
      ·simp only[aaF,this,d.1]
      ·exact this
 exact B _ _ _ _ x y (z.jg.length)
theorem M2{P:Program}{kt l t:TypeId}{key:κ}{x:β}{w:World}{b:Nat}{a:Array MapEntry}{d:Nat}(ut:bP P t (.map kt l))(g:iS P kt encK)(c:w.heap[b]? =some (.map a d))(h:gH encK encV a d M):
  ∃es' clock',(Instr.mapUpdate t (.map (some b)) (encK key) (encV x)).run P w=.ok () (eC w b (.map es' clock'))/\gH encK encV es' clock' (iB key x M)/\
   (key∈M.map (·.1)->clock'=d/\es'.toList.map (·.born)=a.toList.map (·.born)):=by
 obtain⟨r,k,s,f⟩:=h.find (P:=P) (kt:=kt) key w
 cases r with
 |none=>
  refine⟨_,_,?_,h.insert x f,λq=>absurd q f⟩
  unfold Instr.mapUpdate
  simp only[Sem.run_bind,run_underlying ut.h,Result.andThen_ok,lv c,g.ck,k,qO c]
 |some jv=>
  obtain⟨j,v⟩:=jv
  obtain⟨m,e,n,o⟩:=f
  refine⟨_,_,?_,h.update x m,λ_=>⟨rfl,?_⟩⟩
  ·unfold Instr.mapUpdate
   simp only[Sem.run_bind,run_underlying ut.h,Result.andThen_ok,lv c,g.ck,k,n,aaQ,Option.getD_some,o]
   have:(Instr.keyThatStays (encK key) (encK key)).run P w=.ok (encK key) w:=by
    unfold Instr.keyThatStays
    rw[g.same];rfl
   rw[this]
   simp only[Result.andThen_ok,qO c]
  ·apply abl;intro i
   simp only[aaN,abD,Array.getElem?_modify]
   split
   ·rename_i p;subst p;cases a[j]? <;>simp
   ·rfl
theorem aG.update{t kt p:TypeId}{x y z:Operand}{key:κ}{u:β}(h:MS encK encV mp M T) [L:fm H T upd] [ut:bP P t (.map kt p)] [I:iS P kt encK](E:ev env x=some mp)(F:ev env y=some (encK key))(G:ev env z=some (encV u))
  (C:∀T',MS encK encV mp (iB key u M) T'->(key∈M.map (·.1)->∀it todo Ti,It (sg T) encK encV mp M it todo Ti->It (sg T') encK encV mp (iB key u M) it todo Ti)->aG false P N R ops l env (upd T') K):
  aG false P N R ops (⟨none,.mapUpdate t x y z,ty,pos,af,none⟩::l) env H K:=
 aG.oO λa w e s S=>by
  obtain⟨b,o,m,rfl,rfl,i⟩:=h
  obtain⟨O,Q,n,g⟩:=L.h
  subst n
  have q:w.heap[b]? =some (.map o m):=s.2 (b,_) (by simp)
  obtain⟨d,c,D,k,A⟩:=M2 (P:=P) (key:=key) (x:=u) ut I q i
  obtain⟨f,J⟩:=lS (o':=.map d c) s
  refine⟨_,upd [(b,.map d c)],.inl ?_,by rw[g];exact f,by rw[g];exact J,C _ ⟨b,d,c,rfl,rfl,k⟩ λj it todo Ti B=>?_⟩
  ·simp[execOp,e.eval E,e.eval F,e.eval G,D]
  ·obtain⟨v,r⟩:=A j
   subst v
   exact KT i k r (by rw[sj,aaE j]) B
theorem MV{P:Program}{kt s t:TypeId}{key:κ}{w:World}{b:Nat}{i:Array MapEntry}{l:Nat}{ty:TypeId}{t2:TypeId}(ut:bP P t (.map kt s))(q:iS P kt encK)(m:w.heap[b]? =some (.map i l))(h:gH encK encV i l M):
  ∃es',(Builtin.delete_ #[t,t2] ty #[.map (some b),encK key]).run P w=.ok (.tuple #[]) (eC w b (.map es' l))/\gH encK encV es' l (eG key M)/\
   ∀seen:Array Nat,((es'.toList.zip (eG key M)).filter λp=> !seen.contains p.1.born).map (·.2.1)=(((i.toList.zip M).filter λp=> !seen.contains p.1.born).map (·.2.1)).filter λk=>decide (k≠key):=by
 obtain⟨r,d,g,c⟩:=h.find (P:=P) (kt:=kt) key w
 have o:∀(e:List MapEntry) (N:List (κ×β)) (seen:Array Nat),key∉N.map (·.1)->(((e.zip N).filter λp=> !seen.contains p.1.born).map (·.2.1)).filter (λk=>decide (k≠key))=((e.zip N).filter λp=> !seen.contains p.1.born).map (·.2.1):=by
  intro e N seen u
  rw[List.filter_eq_self]
  intro k x
  obtain⟨p,B,rfl⟩:=aaP.1 x
  have C:=(List.of_mem_zip ((abm.1 B).1:(p.1,p.2)∈e.zip N)).2
  simp only[ne_eq,decide_eq_true_eq]
  exact λe=>u (e▸abu (f:=(·.1)) C)
 cases r with
 |none=>
  refine⟨i,?_,by rw[sf c];exact h,λseen=>by rw[sf c,o _ _ _ c]⟩
  unfold Builtin.delete_
  simp only[aaL,abf,aaU,Sem.run_bind,run_underlying ut.h,Result.andThen_ok,lv m,q.ck,d,qO m,Sem.run_pure]
 |some jv=>
  obtain⟨j,v⟩:=jv
  obtain⟨n,e,E,F⟩:=c
  refine⟨i.eraseIdxIfInBounds j,?_,h.delete n,λseen=>?_⟩
  ·unfold Builtin.delete_
   simp only[aaL,abf,aaU,Sem.run_bind,run_underlying ut.h,Result.andThen_ok,lv m,q.ck,d,qO m,Sem.run_pure]
  ·have y:(i.eraseIdxIfInBounds j).toList=i.toList.eraseIdx j:=by simp
   rw[y,se h.nd n]
   have D:∀(e:List MapEntry) (N:List (κ×β)) (j:Nat),(N.map (·.1)).Nodup->(N.map (·.1))[j]? =some key->e.length=N.length->
     (((e.eraseIdx j).zip (N.eraseIdx j)).filter λp=> !seen.contains p.1.born).map (·.2.1)=(((e.zip N).filter λp=> !seen.contains p.1.born).map (·.2.1)).filter λk=>decide (k≠key):=by
    intro e
    induction e with
    |nil=>intro N j d g c;cases N<;>simp_all
    |cons a e ih=>
     intro N j d g c
     cases N with
     |nil=>simp at c
     |cons p N=>
      simp only[aaF,abc]at d
      simp only[aaV,abH]at c
      cases j with
      |zero=>
       simp at g
       have z:key∉N.map (·.1):=g▸d.1
       have:=o e N seen z
       simp only[List.eraseIdx_cons_zero,abK,aaR]
       split
       ·simp only[aaF,aaR,g,ne_eq,not_true,aa3,aaH,aaG];exact this.symm
       ·exact this.symm
      |succ j=>
       simp only[aaF,aaU]at g
       have A:p.1≠key:=λe=>d.1 (e▸aa2 g)
       have:=ih N j d.2 g c
       simp only[List.eraseIdx_cons_succ,abK,aaR]
       split
       ·simp only[aaF,aaR,A,ne_eq,abj,decide_true,aaJ,this]
       ·exact this
   exact D _ _ _ h.nd n h.jg.length
theorem aG.delete{t t2 kt q:TypeId}{x y:Operand}{key:κ}(h:MS encK encV mp M T) [Q:fm H T upd] [ut:bP P t (.map kt q)] [L:iS P kt encK](I:ev env x=some mp)(J:ev env y=some (encK key))
  (F:∀T',MS encK encV mp (eG key M) T'->(∀it todo Ti,It (sg T) encK encV mp M it todo Ti->It (sg T') encK encV mp (eG key M) it (todo.filter λk=>decide (k≠key)) Ti)->aG false P N R ops l env (upd T') K):
  aG false P N R ops (⟨none,.call ⟨.builtin .delete,#[x,y],#[t,t2]⟩,ty,pos,af,none⟩::l) env H K:=
 aG.oO λa w i s Y=>by
  obtain⟨b,p,c,rfl,rfl,B⟩:=h
  obtain⟨U,V,o,e⟩:=Q.h
  subst o
  have C:w.heap[b]? =some (.map p c):=s.2 (b,_) (by simp)
  obtain⟨d,G,j,D⟩:=MV (P:=P) (key:=key) (ty:=ty) (t2:=t2) ut L C B
  obtain⟨f,O⟩:=lS (o':=.map d c) s
  refine⟨_,upd [(b,.map d c)],.inr ⟨.tuple #[],?_⟩,by rw[e];exact f,by rw[e];exact O,F _ ⟨b,d,c,rfl,rfl,j⟩ λit todo Ti E=>?_⟩
  ·simp[execOp,resolve,i.eval I,i.eval J,invoke,builtin,G]
  ·obtain⟨m,W,n,r,S,u,g,X,v,z,A⟩:=E
   simp only[sg,aa9,aa1,Obj.map.injEq]at g
   obtain⟨rfl,rfl,rfl⟩:=g
   exact⟨m,d,n,r,S,u,by simp[sg],j,v,z,by rw[A,D]⟩
omit [DecidableEq κ] in
theorem aG.range{d:Nat}{x:Operand}{t kt k:TypeId}{e:av}(h:RM e encK encV mp M)(v:∀b o,e b o->Rx R H b o)(y:ev env x=some mp) [ut:bP P t (.map kt k)]
  (u:∀it Ti,It e encK encV mp M it (M.map (·.1)) Ti->aG false P N R ops l ((d,it)::env) (Ti::H) K)(q:Nat.blt d N=true:=by rfl):
  aG false P N R ops (⟨some d,.range t x,ty,pos,af,none⟩::l) env H K:=
 aG.l8 q λa w m s z=>by
  obtain⟨b,c,f,rfl,g,i⟩:=h
  have n:=nj s z _ _ (v _ _ g)
  refine⟨.pointer (some ⟨w.heap.size,0,none⟩),w.alloc (.mapIter (some b) f #[] f),_,?_,Frame.alloc w H _,Sat.alloc s _,u _ _ ⟨b,c,f,w.heap.size,#[],rfl,g,i,rfl,rfl,?_⟩⟩
  ·simp[execOp,m.eval y,Instr.range,run_underlying ut.h,lv n,newObj,Sem.run]
  ·have r:(c.toList.zip M).filter (λp=> !(#[]:Array Nat).contains p.1.born)=c.toList.zip M:=by
    rw[List.filter_eq_self];intro p _;simp
   rw[r]
   have A:=i.jg.length
   have:(c.toList.zip M).map (·.2)=M:=List.map_snd_zip (by omega)
   have j:=aaM (List.map (·.1)) this
   rw[List.map_map]at j
   exact j.symm
theorem aG.next{d:Nat}{x:Operand}{Rd:av}{it:Value}{todo:List κ}{Ti:ax}(h:It Rd encK encV mp M it todo Ti) [sa:fm H Ti upd](hrd:∀b o,Rd b o->Rx R H b o)(hx:ev env x=some it)
  (h0:todo=[]->aG false P N R ops l ((d,.tuple [.bool false].toArray)::env) H K)
  (hn:∀k u Ti',k∈todo->aU k M=some u->It Rd encK encV mp M it (todo.filter λk'=>decide (k'≠k)) Ti'->aG false P N R ops l ((d,.tuple [.bool true,encK k,encV u].toArray)::env) (upd Ti') K)(hd:Nat.blt d N=true:=by rfl):
  aG false P N R ops (⟨some d,.next x false,ty,pos,af,none⟩::l) env H K:=
 aG.l8 hd λa w ha s ro=>by
  obtain⟨b,es,clock,r,seen,rfl,h2,h3,rfl,rfl,h6⟩:=h
  obtain⟨H1,H2,e1,e2⟩:=sa.h
  have hb:=nj s ro _ _ (hrd _ _ h2)
  subst e1
  have hr:w.heap[r]? =some (.mapIter (some b) clock seen clock):=s.2 (r,_) (by simp)
  have hgi:(getObj r).run P w=.ok (.mapIter (some b) clock seen clock) w:=by simp[getObj,Sem.run,hr]
  have hl:=h3.jg.length
  have hbo:=h3.born
  -- what may come
  have hleft:es.filter (λe=> !seen.contains e.born)=((es.toList.filter λe=> !seen.contains e.born)).toArray:=by
   apply Array.toList_inj.1;rw[Array.toList_filter]
  have htodo:(es.toList.filter λe=> !seen.contains e.born).length=todo.length:=by
   rw[h6,abk]
   have:((es.toList.zip M).filter λp=> !seen.contains p.1.born).length=(((es.toList.zip M).map (·.1)).filter λe=> !seen.contains e.born).length:=by
    rw[List.filter_map,abk];rfl
   rw[this,List.map_fst_zip (by omega)]
  have hguard:(!seen.isEmpty&& !es.isEmpty&&es.all (λe=>decide (e.born≥clock)))=false:=by
   cases hes:es.toList with
   |nil=>
    have:es= #[]:=by simpa using hes
    simp[this]
   |cons e rest=>
    have h1:=hbo e (by rw[hes];simp)
    have:es.all (λe=>decide (e.born≥clock))=false:=by
     rw[<-Array.all_toList,hes]
     simp;omega
    rw[this,Bool.and_false]
  have hold:(es.filter λe=> !seen.contains e.born).filter (λe=>decide (e.born<clock))=es.filter λe=> !seen.contains e.born:=by
   rw[Array.filter_eq_self]
   intro e he
   have:=hbo e (by simpa using(abv.1 he).1)
   simpa using this
  have hnew:(es.filter λe=> !seen.contains e.born).filter (λe=>decide (e.born≥clock))= #[]:=by
   rw[Array.filter_eq_empty_iff]
   intro e he
   have:=hbo e (by simpa using(abv.1 he).1)
   simpa using this
  by_cases ht:todo=[]
  ·refine⟨.tuple #[.bool false],w,_,?_,Frame.refl _ _,s,h0 ht⟩
   have he:es.filter (λe=> !seen.contains e.born)= #[]:=by
    rw[hleft]
    have:(es.toList.filter λe=> !seen.contains e.born)=[]:=abg (by rw[htodo,ht];rfl)
    rw[this]
   have hc:(choose (.mapNext 1)).run P w=.ok 0 w:=by simp[choose,Sem.run,Question.forced]
   simp only[execOp,ha.eval hx,Instr.next,Sem.run_bind,hgi,lv hb,Result.andThen_ok,hguard,aaH,aaG,he]
   simp[hc]
  ·have hne:(es.filter λe=> !seen.contains e.born).isEmpty=false:=by
    rw[hleft]
    cases hf:(es.toList.filter λe=> !seen.contains e.born)with
    |nil=>rw[hf]at htodo;exact absurd (abg htodo.symm) ht
    |cons _ _=>rfl
   have hpos:0<todo.length:=abF.2 ht
   have hsz:(es.filter λe=> !seen.contains e.born).size=todo.length:=by rw[hleft];simpa using htodo
   obtain⟨n,w1,hc,hlt,hw1⟩:∃n w1,(choose (.mapNext todo.length)).run P w=.ok n w1/\n<todo.length/\∃q,w1={w with drawn:=q}:=by
    by_cases h1:todo.length<=1
    ·exact⟨0,w,by simp[choose,Sem.run,Question.forced,h1],hpos,w.drawn,rfl⟩
    ·exact⟨_,_,by simp only[choose,Sem.run,Question.forced,h1,aa3,aaH,aaG];rfl,by simp only[Question.cut];exact Nat.mod_lt _ hpos,_,rfl⟩
   obtain⟨q,rfl⟩:=hw1
   have hn':n<(es.toList.filter λe=> !seen.contains e.born).length:=by rw[htodo];exact hlt
   generalize he:(es.toList.filter λe=> !seen.contains e.born)[n]=e
   have hem:e∈es.toList.filter λe=> !seen.contains e.born:=he▸abw hn'
   obtain⟨hes,hns⟩:=abm.1 hem
   obtain⟨j,hj,hje⟩:=aa5.1 hes
   have hjM:j<M.length:=by omega
   have hpair:(e.key,e.val)=(encK M[j].1,encV M[j].2):=by
    have:=aaM (λl:List (Value×Value)=>l[j]?) h3.jg
    simp only[aaN,aaO hj,aaO hjM,aaQ,abq,hje]at this
    exact this
   injection hpair with hp1 hp2
   have hzip:(e,M[j])∈es.toList.zip M:=by
    refine aa5.2 ⟨j,by rw[abx];omega,?_⟩
    simp only[aby,hje]
   have hkt:M[j].1∈todo:=by
    rw[h6]
    exact aaP.2 ⟨(e,M[j]),abm.2 ⟨hzip,hns⟩,rfl⟩
   have hget:aU M[j].1 M=some M[j].2:=gC h3.nd (abw hjM)
   have hrun:(execOp a.eval ⟨some d,.next x false,ty,pos,af,none⟩).run P w=.ok (.value (.tuple #[.bool true,e.key,e.val])) (eC {w with drawn:=q} r (.mapIter (some b) clock (seen.push e.born) clock)):=by
    have hcand:∀(A:Array MapEntry),A.isEmpty=false->(if A.isEmpty=true then #[none]else #[])++(A++ #[]).map some=A.map some:=λA hA=>by simp[hA]
    have hget2:((es.filter λe=> !seen.contains e.born).map some)[n]? =some (some e):=by
     rw[hleft]
     simp only[List.map_toArray,aaL,aaN,aaO hn',he,aaQ]
    have hset:(setObj r (.mapIter (some b) clock (seen.push e.born) clock)).run P {w with drawn:=q}=.ok () (eC {w with drawn:=q} r (.mapIter (some b) clock (seen.push e.born) clock)):=by
     have:({w with drawn:=q}:World).heap[r]? =some (.mapIter (some b) clock seen clock):=hr
     simp[setObj,Sem.run,this,eC]
    simp only[execOp,ha.eval hx,Instr.next,Sem.run_bind,hgi,lv hb,Result.andThen_ok,hguard,aaH,aaG,hold,hnew]
    rw[hcand _ hne]
    simp only[Array.size_map,hsz,hc,Result.andThen_ok,hget2,Sem.run_bind,hset,Sem.run_pure]
   obtain⟨f,s'⟩:=lS (w:={w with drawn:=q}) (o':=.mapIter (some b) clock (seen.push e.born) clock) (s.drew q)
   refine⟨_,_,upd [(r,.mapIter (some b) clock (seen.push e.born) clock)],hrun,by rw[e2];exact(Frame.drew w _ q).trans f,by rw[e2];exact s',?_⟩
   rw[hp1,hp2]
   refine hn M[j].1 M[j].2 _ hkt hget ⟨b,es,clock,r,seen.push e.born,rfl,h2,h3,rfl,rfl,?_⟩
   rw[h6]
   -- the one that came is no more to come, all others are
   have key:∀(l:List (MapEntry×(κ×β))),(∀p∈l,(p.1.born=e.born↔p.2.1=M[j].1))->
     ((l.filter λp=> !seen.contains p.1.born).map (·.2.1)).filter (λk'=>decide (k'≠M[j].1))=(l.filter λp=> !(seen.push e.born).contains p.1.born).map (·.2.1):=by
    intro l
    induction l with
    |nil=>intro _;rfl
    |cons p l ih=>
     intro hp
     have h1:=hp p (by simp)
     have h2:=ih λq hq=>hp q (by simp[hq])
     simp only[abz]at h2
     simp only[aaR,abz]
     by_cases hc:seen.contains p.1.born=true
     ·simp only[hc,abb,aaH,aaG,Bool.true_or];exact h2
     ·simp only[Bool.not_eq_true]at hc
      simp only[hc,aa7,aaJ,Bool.false_or,aaF,aaR]
      by_cases hb:p.1.born=e.born
      ·have:=h1.1 hb
       simp only[this,ne_eq,not_true,aa3,aaH,aaG,hb,abG,abb];simpa only[ne_eq]using h2
      ·have hk:¬p.2.1=M[j].1:=λhk=>hb (h1.2 hk)
       have hb':(p.1.born==e.born)=false:=by simpa using hb
       simp only[hk,ne_eq,abj,decide_true,aaJ,hb',aa7,aaF]
       exact aaM _ (by simpa only[ne_eq]using h2)
   refine key _ λp hp=>?_
   obtain⟨i,hi,hpi⟩:=aa5.1 hp
   have hi':i<es.toList.length:=by simp only[abx]at hi;omega
   have hiM:i<M.length:=by omega
   rw[aby]at hpi
   subst hpi
   simp only
   constructor
   ·intro hb
    have:i=j:=(abA (h:=h3.km) (i:=i) (j:=j) (h₀:=by simpa using hi') (h₁:=by simpa using hj)).1 (by rw[aaW,aaW,hb,hje])
    subst this;rfl
   ·intro hk
    have:i=j:=(abA (h:=h3.nd) (i:=i) (j:=j) (h₀:=by simpa using hiM) (h₁:=by simpa using hjM)).1 (by rw[aaW,aaW];exact hk)
    subst this;rw[hje]
end
end
section
def marked(n:Nat):List Nat->Array Bool
 |[]=>Array.replicate n false
 |i::d=>(marked n d).setIfInBounds i true
def p4(Q':Act->World->Prop):Exit->Act->World->Prop
 | .normal,a,w=>Q' a w
 |_,_,_=>False
structure kh(ops:Array Oper)(listed:Array Bool):Prop where
 size:listed.size=ops.size
 cl:∀j oj,ops[j]? =some oj->listed.getD j false=true->∀e∈oj.after,Region.binds .any e=true->listed.getD e.on false=true
theorem kh.set{b:Array Oper}{a:Array Bool}{i:Nat}(h:kh b a)(n:i∈Region.ready .any b a):kh b (a.setIfInBounds i true):=by
 obtain⟨_,p,o,m⟩:=mem_ready.1 n
 refine⟨by simp[h.size],λj l g k e d c=>?_⟩
 by_cases f:i=j
 ·subst f
  have:l=p:=Option.some.inj (g.symm.trans o)
  subst this
  exact getD_set_true (m e d c)
 ·rw[getD_set_ne false f]at k
  exact getD_set_true (h.cl j l g k e d c)
def oi(ops:Array Oper):Nat->Nat->Nat->Bool
 |0,_,_=>false
 |f+1,k,i=>match ops[k]? with
  |some o=>o.after.any λe=>Region.binds .any e&&(Nat.beq e.on i||oi ops f e.on i)
  |none=>false
theorem kh.waits{c:Array Oper}{b:Array Bool}(h:kh c b){i:Nat}:∀(f k:Nat),oi c f k i=true->b.getD k false=true->b.getD i false=true
 |0,k,hw,_=>by simp[oi]at hw
 |f+1,k,hw,hk=>by
  unfold oi at hw
  cases ho:c[k]? with
  |none=>simp[ho]at hw
  |some o=>
   simp only[ho]at hw
   obtain⟨e,g,a⟩:=Array.any_eq_true'.1 hw
   simp only[abL,Bool.or_eq_true]at a
   have d:=h.cl k o ho hk e g a.1
   rcases a.2 with h3|h3
   ·rwa [Nat.eq_of_beq_eq_true h3]at d
   ·exact h.waits f e.on h3 d
def rh(listed listed':Array Bool):Prop:=∀j,listed.getD j false=true->listed'.getD j false=true
def pX(P:Program)(ops:Array Oper)(Q:Exit->Act->World->Prop)(S:Array Bool->World->Prop):Nat->Array Bool->Act->World->Prop
 |0,listed,a,w=>Region.ready .any ops listed=[]/\Q .normal a w
 |fuel+1,listed,a,w=>
  (Region.ready .any ops listed=[]->Q .normal a w)/\
  ∀i∈Region.ready .any ops listed,wpOp P ops Q i (λa' w'=>S (listed.setIfInBounds i true) w'/\pX P ops Q S fuel (listed.setIfInBounds i true) a' w') a w
theorem tq{P:Program}{b:Array Oper}{Q:Exit->Act->World->Prop}{S:Array Bool->World->Prop}:∀(fuel:Nat) (listed:Array Bool) (a:Act) (w:World),pX P b Q S fuel listed a w->wpAny P .any b Q fuel listed a w
 |0,_,_,_,h=>h
 |fuel+1,_,_,_,h=>⟨h.1,λi e=>wpOp_mono (λc f d=>tq fuel _ c f d.2) (h.2 i e)⟩
def jx(P:Program)(ops:Array Oper)(S:Array Bool->World->Prop)(listed:Array Bool)(i:Nat)(o:Oper)(v:Value)(a:Act):Prop:=
 (Region.wanted o (yielded ops a.tmps)=true/\∀l',rh listed l'->kh ops l'->l'.getD i true=false->∀w,S l' w->(execOp a.eval o).run P w=.ok (.value v) w)\/
 (Region.wanted o (yielded ops a.tmps)=false/\v=undef)
section
variable{P:Program}{ops:Array Oper}{Q:Exit->Act->World->Prop}{S:Array Bool->World->Prop}
theorem jx.sup{c b:Array Bool}{i:Nat}{o:Oper}{v:Value}{a:Act}(h:jx P ops S c i o v a)(m:rh c b):jx P ops S b i o v a:=
 h.imp (λ⟨d,e⟩=>⟨d,λp l f g w n=>e p (λj k=>l j (m j k)) f g w n⟩) id
theorem jx.of_same{c:Array Bool}{i:Nat}{o:Oper}{v:Value}{a b:Act}(f:jx P ops S c i o v a)(d:execOp b.eval o=execOp a.eval o)
  (e:Region.wanted o (yielded ops b.tmps)=Region.wanted o (yielded ops a.tmps)):jx P ops S c i o v b:=by
 unfold jx at *
 rw[d,e]
 exact f
theorem jx.wpOp{i:Nat}{o:Oper}{v:Value}{a:Act}{b:Array Bool}(f:ops[i]? =some o)(k:jx P ops S b i o v a)(e:kh ops b)(g:b.getD i true=false)
  {K:Act->World->Prop}{w:World}(d:S b w)(h:K (a.put o.dst v) w):wpOp P ops Q i K a w:=by
 unfold Go.wpOp
 simp only[f]
 rcases k with⟨c,j⟩|⟨c,rfl⟩
 ·simp only[c,aaJ,Oper.wp,j b (λ_ h=>h) e g w d,Oper.upon];exact .inl h
 ·simp only[c,aaH,aaG];exact h
theorem O8{i j:Nat}{g k:Oper}{v:Value}{q:Array Bool}(D:ops[j]? =some k)(C:g.apart ops k=true)
  (F:∀cs b,g.op≠ .select cs b)(B:∀cs b,k.op≠ .select cs b)
  (z:∀c a w,Q (.panic c) (a.put g.dst v) w->Q (.panic c) a w){K:Act->World->Prop}{a:Act}{w:World}
  (l:jx P ops S q i g v a)(h:wpOp P ops Q j K (a.put g.dst v) w):
  wpOp P ops Q j (λa' w'=>jx P ops S q i g v a'/\K (a'.put g.dst v) w') a w:=by
 obtain⟨s,m,y⟩:=Oper.apart_spec C
 have o:∀(a:Act),jx P ops S q i g v a->∀u,jx P ops S q i g v (a.put k.dst u):=λa l u=>
  l.of_same (execOp_put g F a k.dst u y) (wanted_put g a k.dst u y)
 have G:∀d,jx P ops S q i g v {a with defers:=d::a.defers}:=λd=>l.of_same rfl rfl
 unfold Go.wpOp at *
 simp only[D]at *
 rw[wanted_put k a g.dst v s]at h
 split
 ·rename_i t
  simp only[t,aaJ]at h
  rcases h with h|⟨A,E⟩
  case inr=>exact .inr ⟨by unfold Oper.asks at *;rw[execOp_put k B a g.dst v s]at A;exact A,E⟩
  refine .inl ?_
  unfold Oper.wp at *
  rw[execOp_put k B a g.dst v s]at h
  generalize (execOp a.eval k).run P w=r at *
  cases r with
  |ok n w'=>
   cases n<;>simp only[Oper.upon]at h⊢
   case value u=>exact⟨o a l u,by rw[<-Act.put_comm a v u m];exact h⟩
   case skip=>exact⟨o a l _,by rw[<-Act.put_comm a v undef m];exact h⟩
   case defer d=>
    refine⟨o _ (G d) _,?_⟩
    rw[<-Act.put_comm _ v undef m, <-Act.put_defers]
    exact h
   case enter f args=>
    refine Calls.mono h λe H p=>?_
    cases e with
    |returned u=>exact⟨o a l u,by rw[<-Act.put_comm a v u m];exact p⟩
    |panicked c=>exact z _ _ _ p
    |outgrown=>exact p
   case row row args=>exact Rows.mono h λu H p=>⟨o a l u,by rw[<-Act.put_comm a v u m];exact p⟩
  |halt x w'=>
   cases x<;>simp only[Oper.upon]at h⊢
   case panic u=>exact z _ _ _ h
 ·rename_i t
  simp only[t]at h
  exact⟨o a l _,by rw[<-Act.put_comm a v undef m];exact h⟩
theorem O7{i:Nat}{m:Oper}{v:Value}(y:∀l w,S (l.setIfInBounds i true) w↔S l w)(u:ops[i]? =some m)(G:∀(j:Nat) (o:Oper) cs b,ops[j]? =some o->o.op≠ .select cs b)
  (N:∀c a w,Q (.panic c) (a.put m.dst v) w->Q (.panic c) a w):
  ∀(fuel:Nat) (listed:Array Bool) (a:Act) (w:World),
   (∀j oj,ops[j]? =some oj->j≠i->listed.getD j true=false->(∀e∈oj.after,Region.binds .any e=true->e.on≠i)->m.apart ops oj=true)->
   i∈Region.ready .any ops listed->kh ops listed->jx P ops S listed i m v a->S listed w->
   pX P ops Q S fuel (listed.setIfInBounds i true) (a.put m.dst v) w->pX P ops Q S (fuel+1) listed a w:=by
 intro fuel
 induction fuel with
 |zero=>
  intro listed a w _ d s t n H
  refine⟨λh=>(by rw[h]at d;cases d),λj p=>?_⟩
  by_cases f:j=i
  ·subst f;exact t.wpOp u s (mem_ready.1 d).1 n ⟨(y _ _).2 n,H⟩
  ·have:=ready_mono p f
   rw[H.1]at this
   cases this
 |succ fuel ih=>
  intro listed a w D d s t n H
  refine⟨λh=>(by rw[h]at d;cases d),λj p=>?_⟩
  by_cases f:j=i
  ·subst f;exact t.wpOp u s (mem_ready.1 d).1 n ⟨(y _ _).2 n,H⟩
  ·have g:=H.2 j (ready_mono p f)
   obtain⟨F,oj,x,O⟩:=mem_ready.1 p
   have a0:∀e∈oj.after,Region.binds .any e=true->e.on≠i:=λe U T V=>by
    have g:=O e U T
    have z:=(mem_ready.1 d).1
    rw[V]at g
    rcases aaS i listed.size with h'|h'
    ·simp[h']at z g;rw[z]at g;cases g
    ·simp[Array.getElem?_eq_none h']at g
   have K:=O8 x (D j oj x f F a0) (λcs b=>G i m cs b u) (λcs b=>G j oj cs b x) N t g
   have W:∀k r,ops[k]? =some r->k≠i->(listed.setIfInBounds j true).getD k true=false->
     (∀e∈r.after,Region.binds .any e=true->e.on≠i)->m.apart ops r=true:=λk r X Y I Z=>by
    refine D k r X Y ?_ Z
    by_cases E:j=k
    ·subst E;exact F
    ·rw[getD_set_ne true E]at I;exact I
   have a1:rh listed (listed.setIfInBounds j true):=λq hq=>getD_set_true hq
   refine wpOp_mono (λJ w' L=>?_) K
   obtain⟨M,A,B⟩:=L
   rw[Array.setIfInBounds_comm _ _ (Ne.symm f)]at A B
   have C:=(y _ _).1 A
   exact⟨C,ih (listed.setIfInBounds j true) J w' W (ready_mono d (Ne.symm f)) (s.set p) (M.sup a1) C B⟩
end
def lY(R:av)(Ho:aV)(Ms:List Nat)(l:Array Bool)(w:World):Prop:=
 (∀b o,R b o->w.heap[b]? =some o)/\((∀k∈Ms,l.getD k false=false)->Sat w Ho/\RO w R Ho)
theorem lY.same{R:av}{c:aV}{b:List Nat}{i:Nat}(f:b.contains i=false)(l:Array Bool)(w:World):lY R c b (l.setIfInBounds i true) w↔lY R c b l w:=by
 have d:∀k∈b,i≠k:=λk a e=>by subst e;simp[a]at f
 unfold lY
 refine and_congr_right λ_=>?_
 have:(∀k∈b,(l.setIfInBounds i true).getD k false=false)↔∀k∈b,l.getD k false=false:=⟨λh k a=>by have:=h k a;rwa [getD_set_ne false (d k a)]at this,λh k a=>by rw[getD_set_ne false (d k a)];exact h k a⟩
 rw[this]
class la(A B:aV):Prop where h:∃G:ax,B.flatten.Perm (A.flatten++G)
instance la.refl(A:aV):la A A:=⟨⟨[],by simp⟩⟩
instance la.cons(A B:aV)(T:ax) [s:la A B]:la A (T::B):=⟨by
 obtain⟨G,h⟩:=s.h
 refine⟨T++G,?_⟩
 rw[aaX]
 refine(h.append_left T).trans ?_
 rw[<-aaI, <-aaI]
 exact aa6.append_right _⟩
theorem la.sat{A B:aV}(s:la A B){w:World}(h:Sat w B):Sat w A:=aT.sat s.h h
theorem la.ro{A B:aV}(s:la A B){w:World}{R:av}(h:RO w R B):RO w R A:=λb o a=>⟨(h b o a).1,λp d=>by
 obtain⟨G,c⟩:=s.h
 exact(h b o a).2 p (c.mem_iff.2 (abM _ d))⟩
def RA(P:Program)(N:Nat)(R:av)(ops:Array Oper)(Ho:aV)(Ms:List Nat)(done:List Nat)(env:Env)(H:aV)(K:Env->aV->Prop):Prop:=
 ∀(Q':Act->World->Prop) (w0:World) (H0:aV),(∀env' H' a' w',K env' H'->St N R a' w' env' H' w0 H0->Q' a' w')->
  kh ops (marked ops.size done)->∀a w,St N R a w env H w0 H0->lY R Ho Ms (marked ops.size done) w->pX P ops (p4 Q') (lY R Ho Ms) (ops.size-done.length) (marked ops.size done) a w
section
variable{P:Program}{N:Nat}{R:av}{ops:Array Oper}{l:List Oper}{env:Env}{H Ho:aV}{Ms:List Nat}{K:Env->aV->Prop}{Q:Exit->Env->aV->Prop}{m:Bool}{done:List Nat}
theorem St.nN{a:Act}{w c:World}{b:aV}(is:List Nat)(s:St N R a w env H c b):St N (Rx R (rest is H)) a w env (take is H) w (take is H):=
 ⟨s.defers,s.size,s.env,(mv s.sat).1,RO.split s.sat s.ro,Frame.refl _ _⟩
theorem St.back{a d:Act}{w w' g:World}{c H':aV}{e:Env}(is:List Nat)(s:St N R a w env H g c)(b:St N (Rx R (rest is H)) d w' e H' w (take is H)):St N R d w' e (H'++rest is H) g c:=by
 obtain⟨h,f⟩:=nl s.sat b.sat b.fr
 exact⟨b.defers,b.size,b.env,h,s.ro.frame f,s.fr.trans f⟩
theorem aG.nN(is:List Nat)(h:aG m P N (Rx R (rest is H)) ops l env (take is H) λenv' H'=>K env' (H'++rest is H)):aG m P N R ops l env H K:=λb j f c a w s=>
 h b w (take is H) (λenv' H' g i d e=>c _ _ _ _ d (s.back is e)) a w (s.nN is)
theorem kh.none(b:Array Oper):kh b (marked b.size []):=⟨by simp[marked],λj d c a=>by
 simp only[marked,Array.getD_eq_getD_getElem?,Array.getElem?_replicate]at a
 split at a<;>simp at a⟩
theorem bQ.qG{id:Nat}(is:List Nat)(i:List Nat)(q:P.follows .mixedOrders=true)(h:RA P N (Rx R (rest is H)) l.toArray (take is H) i [] env (take is H) λenv' H'=>Q .normal env' (H'++rest is H)):bQ P N R (.region id l.toArray true) env H Q:=
 λj t g m a w s=>by
  have f:St N R a {w with drawn:=w.drawn+1} env H t g:=s.step (Frame.drew w H _) (s.sat.drew _)
  have c:=f.nN is
  have k:=h (j .normal) _ _ (λenv' H' u v p r=>m _ _ _ _ _ p (f.back is r)) (kh.none _) a _ c ⟨λb o n=>(c.ro b o n).1,λ_=>⟨c.sat,c.ro⟩⟩
  refine wp_mono (wp_region_any q (tq _ _ _ _ k)) λe a w d=>?_
  cases e with
  |normal=>exact d
  |_=>exact d.elim
theorem bQ.cW{id:Nat}(g:List Nat)(p:P.follows .mixedOrders=true)(h:RA P N R l.toArray H g [] env H (Q .normal)):bQ P N R (.region id l.toArray true) env H Q:=
 λi r f k a w s=>by
  have c:St N R a {w with drawn:=w.drawn+1} env H r f:=s.step (Frame.drew w H _) (s.sat.drew _)
  have j:=h (i .normal) _ _ (λv t u x n q=>k _ _ _ _ _ n q) (kh.none _) a _ c ⟨λb o m=>(c.ro b o m).1,λ_=>⟨c.sat,c.ro⟩⟩
  refine wp_mono (wp_region_any p (tq _ _ _ _ j)) λe a w d=>?_
  cases e with
  |normal=>exact d
  |_=>exact d.elim
theorem RA.nil(c:Region.ready .any ops (marked ops.size done)=[])(h:K env H):RA P N R ops Ho Ms done env H K:=λe f d b _ a w s _=>by
 cases ops.size-done.length with
 |zero=>exact⟨c,b _ _ _ _ h s⟩
 |succ n=>exact⟨λ_=>b _ _ _ _ h s,by rw[c];simp⟩
def tk(own:Bool)(ops:Array Oper)(Ms done:List Nat)(i:Nat):Bool:=
 Region.noSelect ops&&Region.free .any ops (marked ops.size done) i&&(Region.ready .any ops (marked ops.size done)).contains i&&Nat.blt done.length ops.size&& !Ms.contains i&&(!own||Ms.all λk=>oi ops ops.size k i)
theorem RA.qW{dst:Option Nat}{op:Op}{ty:TypeId}{e:String}{d:Array Edge}{g:Option (Nat×Bool)}{v:Value}(u:Bool)(i:Nat)(q:ops[i]? =some ⟨dst,op,ty,e,d,g⟩)
  (U:∀a,eW a env->(Region.wanted ⟨dst,op,ty,e,d,g⟩ (yielded ops a.tmps)=true/\∀w,(∀b o,R b o->w.heap[b]? =some o)->(u=true->Sat w Ho/\RO w R Ho)->(execOp a.eval ⟨dst,op,ty,e,d,g⟩).run P w=.ok (.value v) w)\/
   (Region.wanted ⟨dst,op,ty,e,d,g⟩ (yielded ops a.tmps)=false/\v=undef))
  (m:tk u ops Ms done i=true)
  (J:∀a w w0 H0,St N R a w env H w0 H0->∃env',St N R (a.put dst v) w env' H w0 H0/\RA P N R ops Ho Ms (i::done) env' H K):RA P N R ops Ho Ms done env H K:=λx w0 H0 E n a w s p=>by
 simp only[tk,abL]at m
 obtain⟨⟨⟨⟨⟨y,z⟩,A⟩,B⟩,C⟩,D⟩:=m
 have X:done.length<ops.size:=aa4 B
 have G:ops.size-done.length=(ops.size-(i::done).length)+1:=by simp only[aaV];omega
 have j:Ms.contains i=false:=by simpa using C
 have h:i∈Region.ready .any ops (marked ops.size done):=by simpa using A
 rw[G]
 obtain⟨env',V,L⟩:=J a w w0 H0 s
 refine O7 (λl w=>lY.same j l w) q (Region.noSelect_spec y) (λc a w O=>O.elim) _ _ a w (Region.free_spec q z) h n ?_ p (L x w0 H0 E (n.set h) _ w V ((lY.same j _ _).2 p))
 refine(U a s.env).imp (λ⟨S,Q⟩=>⟨S,λt _ F f W r=>Q W r.1 λM=>r.2 λk I=>?_⟩) id
 subst M
 have T:oi ops ops.size k i=true:=by
  have:=D
  simp only[abb,Bool.false_or]at this
  exact List.all_eq_true.1 this k I
 cases hlk:t.getD k false with
 |false=>rfl
 |true=>
  have:=F.waits _ _ T hlk
  rcases aaS i t.size with h'|h'
  ·simp[h']at this f;rw[this]at f;cases f
  ·simp[Array.getElem?_eq_none h']at this
theorem RA.take{d:Nat}{op:Op}{ty:TypeId}{e:String}{c:Array Edge}{v:Value}(i:Nat)(k:ops[i]? =some ⟨some d,op,ty,e,c,none⟩)(m:aP P R env [] op ty v)
  (h:tk false ops Ms done i=true)(l:RA P N R ops Ho Ms (i::done) ((d,v)::env) H K)(j:Nat.blt d N=true:=by rfl):RA P N R ops Ho Ms done env H K:=
 RA.qW false i k (λa f=>.inl ⟨by simp[Region.wanted],λw n _=>m a w (some d) e c none f ⟨by simp,by simp⟩ (λb o g=>⟨n b o g,by simp⟩)⟩) h
  λa w q p s=>⟨_,s.put v j,l⟩
theorem RA.eE{d:Nat}{op:Op}{ty:TypeId}{e:String}{b:Array Edge}{v:Value}(i:Nat)(j:ops[i]? =some ⟨some d,op,ty,e,b,none⟩)(l:aP P R env Ho op ty v)
  (g:tk true ops Ms done i=true)(k:RA P N R ops Ho Ms (i::done) ((d,v)::env) H K)(h:Nat.blt d N=true:=by rfl):RA P N R ops Ho Ms done env H K:=
 RA.qW true i j (λa f=>.inl ⟨by simp[Region.wanted],λw _ c=>l a w (some d) e b none f (c rfl).1 (c rfl).2⟩) g
  λa w n m s=>⟨_,s.put v h,k⟩
theorem RA.NX{d j t:Nat}{g:Bool}{op:Op}{ty:TypeId}{f:String}{b:Array Edge}{v:Value}(i:Nat)(l:ops[i]? =some ⟨some d,op,ty,f,b,some (j,g)⟩)(p:Env.get? env t=some (.bool g))(o:aP P R env Ho op ty v)
  (h:tk true ops Ms done i=true)(n:RA P N R ops Ho Ms (i::done) ((d,v)::env) H K)(m:jQ ops j=some t:=by rfl)(k:Nat.blt d N=true:=by rfl):RA P N R ops Ho Ms done env H K:=
 RA.qW true i l (λa c=>.inl ⟨by simp[Region.wanted,q8 c m p],λw _ e=>o a w (some d) f b _ c (e rfl).1 (e rfl).2⟩) h
  λa w r q s=>⟨_,s.put v k,n⟩
theorem RA.lA{d j t:Nat}{c b:Bool}{op:Op}{ty:TypeId}{q:String}{e:Array Edge}(i:Nat)(l:ops[i]? =some ⟨some d,op,ty,q,e,some (j,c)⟩)(p:Env.get? env t=some (.bool b))(g:(b==c)=false)
  (h:tk false ops Ms done i=true)(n:RA P N R ops Ho Ms (i::done) ((d,undef)::env) H K)(m:jQ ops j=some t:=by rfl)(k:Nat.blt d N=true:=by rfl):RA P N R ops Ho Ms done env H K:=by
 have o:¬b=c:=by simpa using g
 exact RA.qW false i l (λa f=>.inr ⟨by simp[Region.wanted,q8 f m p,o],rfl⟩) h
  λa w u r s=>⟨_,s.put undef k,n⟩
theorem Ox{o:Oper}{a:Act}{w:World}{f g:Act->World->Prop}{i:Act->World->Prop}{j:Exit->Act->World->Prop}(d:∀a w,f a w->g a w)(h:o.wp P a w f (p4 i)):o.wp P a w g j:=by
 unfold Oper.wp at *
 generalize (execOp a.eval o).run P w=r at *
 cases r with
 |ok n w'=>
  cases n<;>simp only[Oper.upon]at h⊢ <;>first
   |exact d _ _ h
   |exact Calls.mono h (λe l b=>by
     cases e with
     |returned v=>exact d _ _ b
     |panicked c=>exact b.elim
     |outgrown=>obtain⟨a,w,k⟩:=b;exact k.elim)
   |exact Rows.mono h (λ_ _ b=>d _ _ b)
 |halt x w'=>cases x<;>simp only[Oper.upon]at h⊢ <;>exact h.elim
theorem RA.op{o:Oper}{a:Act}{w f:World}{b:aV}{i:Act->World->Prop}{c:Act->World->Prop}{g:Env->aV->Prop}(k:Nat)(d:ops[k]? =some o)(h:aG false P N R ops [o] env H g)
  (j:∀env' H' a' w',g env' H'->St N R a' w' env' H' f b->c a' w')(s:St N R a w env H f b):wpOp P ops (p4 i) k c a w:=by
 have h1:=h (p4 c) f b (λenv' H' a' w' d l=>j _ _ _ _ d l) a w s
 unfold wpOp
 simp only[d]
 simp only[wpList]at h1
 split
 ·rename_i e
  rw[aaE e]at h1
  rcases h1 with h1|⟨_,m,n,h1⟩
  ·exact .inl (Ox (λ_ _ h=>h) h1)
  ·exact h1.elim
 ·rename_i e
  rw[aaD e]at h1
  exact h1
theorem Kx{l:Array Bool}{i:Nat}(a:i<l.size):(l.setIfInBounds i true).getD i false=true:=by simp[a]
def Next(P:Program)(N:Nat)(R:av)(ops:Array Oper)(Ho:aV)(Ms:List Nat)(done:List Nat)(K:Env->aV->Prop)(i:Nat)(env':Env)(H':aV):Prop:=
 (((i::done).any λk=>Ms.contains k&&Nat.blt k ops.size)=true\/la Ho H')/\RA P N R ops Ho Ms (i::done) env' H' K
theorem we(n:Nat):∀l,(marked n l).size=n
 |[]=>by simp[marked]
 |i::l=>by simp[marked,we n l]
theorem wc{n k:Nat}(a:k<n):∀{l:List Nat},k∈l->(marked n l).getD k false=true
 |i::l,h=>by
  rcases aaK.1 h with rfl|h
  ·exact Kx (by rw[we];exact a)
  ·exact getD_set_true (wc a h)
theorem Next.mod{i:Nat}(a:((i::done).any λk=>Ms.contains k&&Nat.blt k ops.size)=true)(h:RA P N R ops Ho Ms (i::done) env H K):Next P N R ops Ho Ms done K i env H:=⟨.inl a,h⟩
theorem Next.sub{i:Nat}(h:RA P N R ops Ho Ms (i::done) env H K)(a:la Ho H:=by infer_instance):Next P N R ops Ho Ms done K i env H:=⟨.inr a,h⟩
theorem RA.ye(is:List Nat)(j:Region.ready .any ops (marked ops.size done)=is)(A:is≠[])(z:Nat.blt done.length ops.size=true)
  (h:∀i∈is,∃o,ops[i]? =some o/\aG false P N R ops [o] env H (Next P N R ops Ho Ms done K i)):RA P N R ops Ho Ms done env H K:=λn E m t x a w s I=>by
 have J:done.length<ops.size:=aa4 z
 have y:∀i,ops.size-done.length=(ops.size-(i::done).length)+1:=λi=>by simp only[aaV];omega
 rw[y 0]
 refine⟨λr=>absurd (j▸r) A,λk f=>?_⟩
 obtain⟨o,C,u⟩:=h k (j▸f)
 refine RA.op k C u (λG F p l g c=>?_) s
 have e:lY R Ho Ms ((marked ops.size done).setIfInBounds k true) l:=by
  refine⟨λb o v=>(c.ro b o v).1,λB=>?_⟩
  rcases g.1 with hm|hs
  ·obtain⟨q,D,hm⟩:=List.any_eq_true.1 hm
   simp only[abL]at hm
   have d:=B q (by simpa using hm.1)
   rw[show(marked ops.size done).setIfInBounds k true=marked ops.size (k::done)from rfl,wc (aa4 hm.2) D]at d
   cases d
  ·exact⟨hs.sat c.sat,hs.ro c.ro⟩
 exact⟨e,g.2 n E m t (x.set f) p l c e⟩
theorem RA.step{o:Oper}(i:Nat)(a:ops[i]? =some o)(d:Region.ready .any ops (marked ops.size done)=[i])(c:Nat.blt done.length ops.size=true)
  (h:aG false P N R ops [o] env H (Next P N R ops Ho Ms done K i)):RA P N R ops Ho Ms done env H K:=
 RA.ye [i] d (by simp) c λk b=>by
  obtain rfl:k=i:=by simpa using b
  exact⟨o,a,h⟩
theorem RA.mR{a b:Oper}(i j:Nat)(e:ops[i]? =some a)(f:ops[j]? =some b)(h:Region.ready .any ops (marked ops.size done)=[i,j])(g:Nat.blt done.length ops.size=true)
  (c:aG false P N R ops [a] env H (Next P N R ops Ho Ms done K i))(d:aG false P N R ops [b] env H (Next P N R ops Ho Ms done K j)):RA P N R ops Ho Ms done env H K:=
 RA.ye [i,j] h (by simp) g λk hk=>by
  rcases aaK.1 hk with rfl|hk
  ·exact⟨a,e,c⟩
  ·obtain rfl:k=j:=by simpa using hk
   exact⟨b,f,d⟩
end
section
variable{P:Program}{N:Nat}{R:av}{ops:Array Oper}{l:List Oper}{env:Env}{H:aV}{K:Env->aV->Prop}{Q:Exit->Env->aV->Prop}{m:Bool}{ty:TypeId}
theorem aG.gT{j t:Nat}{b d:Bool}{dst:Option Nat}{op:Op}{ty:TypeId}{c:String}{a:Array Edge}(e:b=d)(g:aG m P N R ops (⟨dst,op,ty,c,a,none⟩::l) env H K)(f:jQ ops j=some t:=by rfl)(h:Env.get? env t=some (.bool b):=by rfl):
  aG m P N R ops (⟨dst,op,ty,c,a,some (j,d)⟩::l) env H K:=aG.gt (by rw[h,e]) g f
theorem aG.gF{j t d:Nat}{b a:Bool}{op:Op}{ty:TypeId}{k:String}{c:Array Edge}(e:b= !a)(h:aG m P N R ops l ((d,undef)::env) H K)(g:jQ ops j=some t:=by rfl)(i:Env.get? env t=some (.bool b):=by rfl)(f:Nat.blt d N=true:=by rfl):
  aG m P N R ops (⟨some d,op,ty,k,c,some (j,a)⟩::l) env H K:=aG.gf i (by subst e;cases a<;>rfl) h g f
theorem aG.split{t:Nat}{b:Bool}(d:Env.get? env t=some (.bool b))(c:b=true->aG m P N R ops l env H K)(a:b=false->aG m P N R ops l env H K):aG m P N R ops l env H K:=by
 cases b
 ·exact a rfl
 ·exact c rfl
theorem aP.aY{c x y:Operand}{b:Bool}{u:Value}(a:b=true)(d:ev env c=some (.bool b):=by rfl)(e:ev env x=some u:=by rfl):aP P R env H (.pick c x y) ty u:=by
 subst a;exact aP.ca d e
theorem aP.aS{c x y:Operand}{b:Bool}{v:Value}(a:b=false)(d:ev env c=some (.bool b):=by rfl)(e:ev env y=some v:=by rfl):aP P R env H (.pick c x y) ty v:=by
 subst a;exact aP.bY d e
theorem bQ.dF{c:Operand}{x y:Code}(h:bQ P N R x env H Q)(a:ev env c=some (.bool true):=by rfl):bQ P N R (.cond c x y) env H Q:=bQ.cond a (λ_=>h) (λh=>by cases h)
theorem bQ.bZ{c:Operand}{x y:Code}(h:bQ P N R y env H Q)(a:ev env c=some (.bool false):=by rfl):bQ P N R (.cond c x y) env H Q:=bQ.cond a (λh=>by cases h) (λ_=>h)
theorem RA.split{e:Array Oper}{a:aV}{c d:List Nat}{t:Nat}{b:Bool}(h:Env.get? env t=some (.bool b))(g:b=true->RA P N R e a c d env H K)(f:b=false->RA P N R e a c d env H K):RA P N R e a c d env H K:=by
 cases b
 ·exact f rfl
 ·exact g rfl
def qu{X:Type}(I:X->Prop)(e:X->Env)(h:X->aV)(Q:Exit->Env->aV->Prop):Exit->Env->aV->Prop
 | .normal,env,H=>∃x,I x/\bh env (e x)/\aT H (h x)
 |ex,env,H=>Q ex env H
theorem bQ.cut{X:Type}{c:Code}(I:X->Prop)(e:X->Env)(h:X->aV)(k:bQ P N R c env H (qu I e h Q))(j:∀x,I x->Q .normal (e x) (h x)):bQ P N R c env H Q:=λi p g b a w s=>
 k i p g (λl t q r u d f=>by
  cases l with
  |normal=>obtain⟨x,m,n,o⟩:=d;exact b _ _ _ _ _ (j x m) (f.le n o)
  |_=>exact b _ _ _ _ _ d f) a w s
theorem aB{X:Type}{I:X->Prop}{e:X->Env}{h:X->aV}(x:X)(a:I x)(b:bh env (e x))(c:aT H (h x)):qu I e h Q .normal env H:=⟨x,a,b,c⟩
theorem iW{X:Type}{I:X->Prop}{e:X->Env}{h:X->aV}(a:Q .ret env H):qu I e h Q .ret env H:=a
theorem bf{X:Type}{I:X->Prop}{e:X->Env}{h:X->aV}{μ:X->Nat}{n:Nat}(x:X)(a:I x)(d:μ x<n)(b:bh env (e x))(c:aT H (h x)):oY (λenv' H'=>∃x',I x'/\μ x'<n/\bh env' (e x')/\aT H' (h x')) Q .normal env H:=⟨x,a,d,b,c⟩
theorem aP.inc{x y:Operand}{t u:TypeId}{n:Nat}(c:n<9223372036854775807)(a:ev env x=some (.int .i64 (n:Int)):=by rfl)(b:ev env y=some (.int .i64 1):=by rfl):aP P R env H (.binOp .add t x y u) ty (.int .i64 ((n+1:Nat):Int)):=by
 have h:=aP.add (P:=P) (R:=R) (H:=H) (ty:=ty) (t:=t) (u:=u) a b
 have:IntKind.i64.wrap ((n:Int)+1)=((n+1:Nat):Int):=by
  rw[IntWalk.i64_in _ (by omega)];omega
 rw[this]at h
 exact h
theorem aG.hole(h:aG m P N R ops l env H K):aG m P N R ops l env H K:=h
end
section
variable{P:Program}{N:Nat}{R:av}{ops:Array Oper}{l:List Oper}{env:Env}{H:aV}{K:Env->aV->Prop}{Q:Exit->Env->aV->Prop}{m:Bool}{d:Nat}{ty:TypeId}{pos:String}{af:Array Edge}{x:Operand}
theorem aG.mo{v:Value}(h:ev env x=some v)(b:aG m P N R ops l ((d,v)::env) H K)(a:Nat.blt d N=true:=by rfl):aG m P N R ops (⟨some d,.move x,ty,pos,af,none⟩::l) env H K:=.q (.move h) b a
theorem aG.ag{v:Value}(h:ev env x=some v)(b:aG m P N R ops l ((d,v)::env) H K)(a:Nat.blt d N=true:=by rfl):aG m P N R ops (⟨some d,.assign x,ty,pos,af,none⟩::l) env H K:=.q (.assign h) b a
theorem aG.lo{t:TypeId}{p u:Value}{vs r:List Value}(e:ev env x=some p) [f:dj P t false] [rc:RC R H p vs](b:aG m P N R ops l ((d,u)::env) H K)(c:vs=u::r:=by rfl)(a:Nat.blt d N=true:=by rfl):aG m P N R ops (⟨some d,.load t x,ty,pos,af,none⟩::l) env H K:=.q (.bN e c) b a
theorem aG.nc{p:Value}{vs:List Value}(c:ev env x=some p) [rc:RC R H p vs](b:aG m P N R ops l ((d,p)::env) H K)(a:Nat.blt d N=true:=by rfl):aG m P N R ops (⟨some d,.nilCheck x,ty,pos,af,none⟩::l) env H K:=.q (.nilCheck c) b a
theorem aG.fa{s:TypeId}{f off:Nat}{p:Value}{vs:List Value}(c:ev env x=some p) [e:bk P s f off] [rc:RC R H p vs](b:aG m P N R ops l ((d,cK p off)::env) H K)(a:Nat.blt d N=true:=by rfl):aG m P N R ops (⟨some d,.fieldAddr s x f,ty,pos,af,none⟩::l) env H K:=.q (.fieldAddr c) b a
theorem aG.zn{y:Code}(h:bQ P N R y env H Q):aG m P N R ops [] env H (kS P N R y Q .normal):=.nil (aD h)
theorem aG.zs{y z:Code}(h:bQ P N R z env H (kS P N R y Q)):aG m P N R ops [] env H (kS P N R (.seq z y) Q .normal):=.nil (aD (.seq h))
theorem aG.z{y:Code}{id:Nat}(h:aG false P N R l.toArray l env H (kS P N R y Q .normal)):aG m P N R ops [] env H (kS P N R (.seq (.region id l.toArray false) y) Q .normal):=.nil (aD (.seq (.region h)))
theorem aG.gX{op:Op}{j t:Nat}{a b:Bool}(g:aG m P N R ops l ((d,undef)::env) H K)(f:jQ ops j=some t:=by rfl)(h:Env.get? env t=some (.bool b):=by rfl)(c:(b==a)=false:=by rfl)(e:Nat.blt d N=true:=by rfl):aG m P N R ops (⟨some d,op,ty,pos,af,some (j,a)⟩::l) env H K:=.gf h c g f e
theorem aG.az{v:Value}{y:Code}(h:ev env x=some v)(b:bQ P N R y ((d,v)::env) H Q)(a:Nat.blt d N=true:=by rfl):aG m P N R ops [⟨some d,.assign x,ty,pos,af,none⟩] env H (kS P N R y Q .normal):=.q (.assign h) (.nil (aD b)) a
theorem bQ.sr{y:Code}{id:Nat}(h:aG false P N R l.toArray l env H (kS P N R y Q .normal)):bQ P N R (.seq (.region id l.toArray false) y) env H Q:=.seq (.region h)
theorem bQ.kn{y:Code}(h:bQ P N R y env H Q):bQ P N R .skip env H (kS P N R y Q):=.skip (aD h)
end
end
section
theorem PC.of{R:av}{b:Nat}{vs:List Value}{E:TypeId}{fr:Nat×Nat}(h:R b (.cells vs.toArray E fr)):PC R (.pointer (some ⟨b,0,none⟩)) vs:=
 (RC.here (R:=R) (H:=[]) (b:=b) (vs:=vs) (E:=E) (fr:=fr)).h.mono λa o h'=>by
  rcases h' with h'|h'
  ·exact h'
  ·simp at h';obtain⟨rfl,rfl⟩:=h';exact h
instance PC.rx{R:av}{H:aV}{p:Value}{vs:List Value} [h:PC R p vs]:PC (Rx R H) p vs:=h.mono λ_ _=>.inl
instance PC.rc{R:av}{H:aV}{p:Value}{vs:List Value} [h:RC R H p vs]:PC (Rx R H) p vs:=h.h
section
variable{P:Program}{N:Nat}{R R':av}{ops:Array Oper}{l:List Oper}{env:Env}{H:aV}{K:Env->aV->Prop}{T:ax}{upd:ax->aV}
theorem Spec.at{f:FuncId}{m:List Value}{H1 H2:aV}{T:ax}{Post:Value->ax->Prop}(h:Spec P f m R' [T] λv H'=>∃T',H'=[T']/\Post v T')(C:∀b o,R' b o->R b o):Spec P f m R (H1++T::H2) λv H'=>∃T',H'=H1++T'::H2/\Post v T':=λw D s=>by
 have g:(H1++T::H2).flatten.Perm ([T]++(H1++H2)).flatten:=by
  simp only[aaY,aaX,abB,aaT]
  rw[<-aaI, <-aaI]
  exact aa6.append_right _
 have k:Sat w ([T]++(H1++H2)):=D.perm g
 have y:take [0] ([T]++(H1++H2))=[T]:=rfl
 have n:rest [0] ([T]++(H1++H2))=H1++H2:=rfl
 have F:RO w R ([T]++(H1++H2)):=λb o c=>⟨(s b o c).1,λp d=>(s b o c).2 p (g.mem_iff.2 d)⟩
 obtain⟨u,G,x⟩:=mv (is:=[0]) k
 have l:=RO.split (is:=[0]) k F
 rw[y]at u l x;rw[n]at l G x
 refine(h w u λb o c=>l b o (.inl (C b o c))).mono λe H ⟨v,H',i,⟨T',z,j⟩,E,A⟩=>?_
 subst z
 obtain⟨t,a⟩:=nl (is:=[0]) (H':=[T']) k E A
 rw[n]at t a
 have r:([T']++(H1++H2)).flatten.Perm (H1++T'::H2).flatten:=by
  simp only[aaY,aaX,abB,aaT]
  rw[<-aaI, <-aaI]
  exact aa6.append_right _
 refine⟨v,_,i,⟨T',rfl,j⟩,t.perm r,⟨a.le,λb c B=>a.iK b c λp d=>B p (g.mem_iff.2 d),λp d=>?_,a.os,a.output,a.tape⟩⟩
 rcases a.kL p (r.mem_iff.2 d)with⟨q,j,i⟩|hge
 ·exact .inl ⟨q,g.mem_iff.2 j,i⟩
 ·exact .inr hge
theorem aG.aM{d:Nat}{ty:TypeId}{k:String}{a:Array Edge}{f:FuncId} [e:ay P f]{xs:List Operand}{b:Array TypeId}{vs:List Value}{Post:Value->Prop}
  (j:Spec P f vs (Rx R H) [] λv H'=>Post v/\H'=[])(i:∀v,Post v->aG false P N R ops l ((d,v)::env) H K)(hxs:hN env xs=some vs:=by rfl)(h:Nat.blt d N=true:=by rfl):
  aG false P N R ops (⟨some d,.call ⟨.value (.func f),xs.toArray,b⟩,ty,k,a,none⟩::l) env H K:=
 aG.call [] j (λv H' ⟨c,g⟩=>by subst g;exact i v c) hxs h
theorem aG.da{d:Nat}{ty:TypeId}{k:String}{a:Array Edge}{f:FuncId} [e:ay P f]{xs:List Operand}{b:Array TypeId}{vs:List Value}{Post:Value->ax->Prop}
  (j:Spec P f vs (Rx R H) [] λv H'=>∃T,H'=[T]/\Post v T)(i:∀v T,Post v T->aG false P N R ops l ((d,v)::env) (T::H) K)(hxs:hN env xs=some vs:=by rfl)(h:Nat.blt d N=true:=by rfl):
  aG false P N R ops (⟨some d,.call ⟨.value (.func f),xs.toArray,b⟩,ty,k,a,none⟩::l) env H K:=
 aG.call [] j (λv H' ⟨T,c,g⟩=>by subst c;exact i v T g) hxs h
theorem qV:∀(H:aV),take (H.map λ_=>0) H=H
 |[]=>rfl
 |T::r=>by simp only[aaF,take,aZ,List.getD_cons_zero,qV r]
theorem nV:∀(H:aV),rest (H.map λ_=>0) H=[]
 |[]=>rfl
 |T::r=>by simp only[aaF,rest,aZ,nV r]
theorem aG.zK{dst:Option Nat}{op:Op}{ty:TypeId}{e:String}{c:Array Edge}{f:FuncId}{vs:List Value}{Post:Value->ax->Prop} [q:fm H T upd]
  (p:∀a w,eW a env->(execOp a.eval ⟨dst,op,ty,e,c,none⟩).run P w=.ok (.enter f vs.toArray) w)
  (n:Spec P f vs R' [T] λv H'=>∃T',H'=[T']/\Post v T')(m:∀b o,R' b o->R b o)
  (k:∀v T',Post v T'->match dst with
   |some d=>Nat.blt d N=true/\aG false P N R ops l ((d,v)::env) (upd T') K
   |none=>aG false P N R ops l env (upd T') K):
  aG false P N R ops (⟨dst,op,ty,e,c,none⟩::l) env H K:=by
 obtain⟨H1,H2,g,i⟩:=q.h
 refine .qe (H.map λ_=>0) (Post:=λv H'=>∃T',H'=H1++T'::H2/\Post v T') p ?_ ?_
 ·rw[qV,nV]
  have:=Spec.at (H1:=H1) (H2:=H2) n m
  rw[<-g]at this
  exact this.weaken λb o j=>.inl j
 ·intro v H' ⟨T',e1,e2⟩
  rw[nV,aaT,e1, <-i]
  exact k v T' e2
theorem aG.bW{d:Nat}{ty:TypeId}{n:String}{b:Array Edge}{f:FuncId} [e:ay P f]{xs:List Operand}{c:Array TypeId}{vs:List Value}{Post:Value->ax->Prop}
  (m:Spec P f vs R [T] λv H'=>∃T',H'=[T']/\Post v T')(j:∀v T',Post v T'->aG false P N R ops l ((d,v)::env) (upd T') K) [o:fm H T upd](hxs:hN env xs=some vs:=by rfl)(i:Nat.blt d N=true:=by rfl):
  aG false P N R ops (⟨some d,.call ⟨.value (.func f),xs.toArray,c⟩,ty,n,b,none⟩::l) env H K:=
 aG.zK (λa w g=>sK hxs a w g) m (λ_ _ h=>h) (λv T' k=>⟨i,j v T' k⟩)
theorem Kg{cs zs:List Value}{k:Nat}(h:zs.length=k)(b:cs.length=k):gA ((List.range 1).map λi=>(i*k,k)) zs [(0,.agg cs.toArray)]=some cs:=by
 subst b
 have e:Nat.ble cs.length cs.length=true:=Nat.ble_eq_true_of_le (abd _)
 have a:zs.drop cs.length=[]:=List.drop_eq_nil_of_le (by omega)
 simp[gA,iY,h,List.range_succ,e,a]
theorem Kf{v:Value}{zs:List Value}(c:aw v=true)(h:zs.length=1):gA ((List.range 1).map λi=>(i*1,1)) zs [(0,v)]=some [v]:=by
 have a:zs.drop 1=[]:=List.drop_eq_nil_of_le (by omega)
 have b:zs.tail=[]:=by rw[<-List.drop_one];exact a
 cases v<;>simp_all[gA,iY,List.range_succ,aw]
theorem aG.fP{d:Nat}{T E:TypeId}{k:Nat}{z:Value}{cs:List Value}{x:Operand}{ty:TypeId}{j:String}{a:Array Edge} [ut:bP P T (.slice E)] [sz:Sz P E k] [m:Zr P E z]
  (g:∀b,aG false P N R ops l ((d,.slice (some ⟨b,0,none⟩) 1 1)::env) ([(b,.cells cs.toArray E (0,0))]::H) K)(i:ev env x=some (.agg cs.toArray):=by rfl)(f:cs.length=k:=by rfl)(h:Nat.ble (1*k) (2^24)=true:=by rfl)(e:Nat.beq (1*k) 0=false:=by rfl)(c:Nat.blt d N=true:=by rfl):
  aG false P N R ops (⟨some d,.buildSlice T 1 [(0,x)].toArray,ty,j,a,none⟩::l) env H K:=
 aG.buildSlice (z:=z) (zs:=((Array.range (1*k)).map (z.cells[· % z.cells.size]!)).toList) (parts:=[(0,.agg cs.toArray)]) h e rfl (by simp[lI,i]) (Kg (by simp) f) g c
theorem aG.ig{d:Nat}{T E:TypeId}{z v:Value}{x:Operand}{ty:TypeId}{g:String}{a:Array Edge} [ut:bP P T (.slice E)] [sz:Sz P E 1] [i:Zr P E z] [o:One v]
  (e:∀b,aG false P N R ops l ((d,.slice (some ⟨b,0,none⟩) 1 1)::env) ([(b,.cells [v].toArray E (0,0))]::H) K)(f:ev env x=some v:=by rfl)(c:Nat.blt d N=true:=by rfl):
  aG false P N R ops (⟨some d,.buildSlice T 1 [(0,x)].toArray,ty,g,a,none⟩::l) env H K:=
 aG.buildSlice (z:=z) (zs:=((Array.range (1*1)).map (z.cells[· % z.cells.size]!)).toList) (parts:=[(0,v)]) rfl rfl rfl (by simp[lI,f]) (Kf o.h (by simp)) e c
theorem aG.oc{m:Bool}{d:Nat}{x:Operand}{xl b:Option Operand}{t e E:TypeId}{sz:Nat}{α:Type}{enc:α->List Value}{v:Value}{xs:List α}{ty:TypeId}{u:String}{c:Array Edge}(lo a:Nat)(h:OS E sz enc v xs T) [ut:bP P t (.slice e)] [s:Sz P e sz](i:fy env xl 0 lo)(j:fy env b xs.length a)(k:lo<=a)(n:a<=xs.length)
  (p:∀v',OS E sz enc v' ((xs.drop lo).take (a-lo)) T->aG m P N R ops l ((d,v')::env) H K)(r:ev env x=some v:=by rfl)(o:Nat.blt d N=true:=by rfl):
  aG m P N R ops (⟨some d,.slice t x xl b none,ty,u,c,none⟩::l) env H K:=by
 obtain⟨v',f,g⟩:=aP.oc (P:=P) (R:=R) (H:=H) (ty:=ty) (t:=t) lo a h i j k n r
 exact aG.q g (p v' f) o
theorem RA.oc{f:aV}{b c:List Nat}{d:Nat}{x:Operand}{xl g:Option Operand}{t e E:TypeId}{sz:Nat}{α:Type}{enc:α->List Value}{v:Value}{xs:List α}{ty:TypeId}{z:String}{j:Array Edge}(i:Nat)(u:ops[i]? =some ⟨some d,.slice t x xl g none,ty,z,j,none⟩)(lo a:Nat)(h:OS E sz enc v xs T) [ut:bP P t (.slice e)] [s:Sz P e sz](m:fy env xl 0 lo)(n:fy env g xs.length a)(o:lo<=a)(p:a<=xs.length)
  (y:ev env x=some v)(q:tk false ops b c i=true)(w:∀v',OS E sz enc v' ((xs.drop lo).take (a-lo)) T->RA P N R ops f b (i::c) ((d,v')::env) H K)(r:Nat.blt d N=true:=by rfl):
  RA P N R ops f b c env H K:=by
 obtain⟨v',k,l⟩:=aP.oc (P:=P) (R:=R) (H:=[]) (ty:=ty) (t:=t) lo a h m n o p y
 exact RA.take i u l q (w v' k) r
theorem RA.bb{c:aV}{a b:List Nat}{d:Nat}{x y:Operand}{t e E:TypeId}{sz:Nat}{α:Type}{enc:α->List Value}{v:Value}{xs:List α}{ty:TypeId}{B:String}{g:Array Edge}{k:IntKind}{j:Int}{z:α}(i:Nat)(n:ops[i]? =some ⟨some d,.indexAddr t x y,ty,B,g,none⟩)(q:Nat)(h:OS E sz enc v xs T)(f:xs[q]? =some z) [ut:bP P t (.slice e)] [s:Sz P e sz]
  (w:ev env x=some v)(A:ev env y=some (.int k j))(o:j=(q:Int))(l:tk false ops a b i=true)(r:PS T (eK v (q*sz)) (enc z)->RA P N R ops c a (i::b) ((d,eK v (q*sz))::env) H K)(m:Nat.blt d N=true:=by rfl):
  RA P N R ops c a b env H K:=
 RA.take i n (aP.cu q (h.rs (R:=sg T) λp u=>u) f w A o) l (r ⟨h.pc f⟩) m
theorem aP.mN{ty:TypeId}{x:Operand}{p:Value}{b:Addr}(f:ev env x=some p)(e:p=.pointer (some b):=by rfl):aP P R env H (.nilCheck x) ty p:=λa w d i h g c _ _=>by
 subst e
 simp[execOp,c.eval f]
theorem aP.gy{ty:TypeId}{x:Operand}{s:TypeId}{f off:Nat}{p:Value}{b:Addr}(j:ev env x=some p) [c:bk P s f off](i:p=.pointer (some b):=by rfl):aP P R env H (.fieldAddr s x f) ty (cK p off):=λa w d l k g e _ _=>by
 subst i
 have:=c.h b w
 simp[execOp,e.eval j,this,cK]
end
end
section
section
variable{P:Program}{N:Nat}{R R':av}{ops:Array Oper}{l:List Oper}{env:Env}{H:aV}{K:Env->aV->Prop}{T:ax}{upd:ax->aV}{ty:TypeId}{pos:String}{af:Array Edge}{α:Type}
def kA(sz lo hi:Nat)(p:Option Addr)(cap:Nat):Value:=.slice (if cap=lo then p else p.map (·.add (lo*sz))) (hi-lo) (cap-lo)
theorem aP.sR{x:Operand}{xl f:Option Operand}{t e:TypeId}{sz n cap:Nat}{p:Option Addr}(lo b:Nat) [ut:bP P t (.slice e)] [s:Sz P e sz](h:fy env xl 0 lo)(i:fy env f n b)(j:lo<=b)(k:b<=cap)(l:ev env x=some (.slice p n cap):=by rfl):
  aP P R env H (.slice t x xl f none) ty (kA sz lo b p cap):=λa w d o m g c _ _=>by
 have:=pd (P:=P) (w:=w) (p:=p) (n:=n) (cap:=cap) c h i j k (t:=t) (e:=e) (sz:=sz)
 simp only[execOp,c.eval l,Option.map_none]
 rw[Sem.run_bind,this]
 rfl
theorem OS.shape{E:TypeId}{sz:Nat}{enc:α->List Value}{v:Value}{xs:List α}(h:OS E sz enc v xs T):∃p cap,v=.slice p xs.length cap/\xs.length<=cap:=by
 rcases h.h with⟨a,d,_⟩|⟨b,f,c,cap,a,_,e,_⟩
 ·exact⟨none,0,by rw[a,d];rfl,by simp[d]⟩
 ·exact⟨_,cap,a,e⟩
theorem OS.head{E:TypeId}{sz n cap:Nat}{p:Option Addr}{enc:α->List Value}{xs:List α}(h:OS E sz enc (.slice p n cap) xs T)(lo:Nat)(l:lo<=xs.length):OS E sz enc (kA sz 0 lo p cap) (xs.take lo) T:=by
 have m:(xs.take lo).length=lo:=by simp;omega
 refine⟨λx e=>h.len x (aba e),λx e=>h.one x (aba e),?_⟩
 rcases h.h with⟨a,d,f⟩|⟨b,o,c,q,a,d,f,i,j,k⟩
 ·cases a
  subst d
  obtain rfl:lo=0:=by simpa using l
  exact .inl ⟨by simp[kA],by simp,f⟩
 ·cases a
  refine .inr ⟨b,o,c,cap,?_,d,by omega,i,j,by simpa using k.piece h.len 0 lo⟩
  rw[m]
  by_cases g:cap=0
  ·simp[kA,g]
  ·simp[kA,g,Addr.add]
theorem Pc(z:List Value)(n:Nat)(h:∀u∈z,aw u=true):∀u∈(Builtin.zeroCells z.toArray n).toList,aw u=true:=by
 intro u a
 simp only[Builtin.zeroCells,Array.toList_map,aaP]at a
 obtain⟨i,b,rfl⟩:=a
 have c:i<n*z.length:=by simpa using b
 have d:0<z.length:=by
  rcases Nat.eq_zero_or_pos z.length with h0|h0
  ·rw[h0]at c;omega
  ·exact h0
 have:i % z.length<z.length:=Nat.mod_lt _ d
 simp only[aa8]
 rw[getElem!_pos z.toArray (i % z.length) (by simpa using this)]
 exact h _ (by simp)
theorem Row.cc{c:Array Value}{off k:Nat}{cs vs:List Value}(h:Row c off cs)(f:off+cs.length<=k)(e:k+vs.length<=c.size):Row (Go.Proofs.YtkkmbiojicgobaaGreatDoor.cc c.toList k vs).toArray off cs:=λj d=>by
 have a:=h j d
 have b:=sM (vs:=c.toList) (cs:=vs) (off:=k) (by simpa using e) (off+j)
 simp only[aaL]
 rw[b,aaE (by omega)]
 simpa using a
theorem aG.Aa{x:Operand}{t E sz n cap:Nat}{p:Option Addr}{enc:α->List Value}{xs:List α}{zs:List Value}{z:Value}(lo:Nat)(h:OS E sz enc (.slice p n cap) xs T) [Y:fm H T upd] [ut:bP P t (.slice E)] [Z:Zr P E z]
  (Q:lo<=xs.length)(d:ev env x=some (kA sz lo n p cap))(C:∀T',OS E sz enc (kA sz 0 lo p cap) (xs.take lo) T'->aG false P N R ops l env (upd T') K)
  (D:z.cells=zs.toArray:=by rfl)(X:zs.length=sz:=by rfl)(ho:∀u∈zs,Go.Proofs.YtkkmbiojicgobaaGreatDoor.aw u=true:=by simp[Go.Proofs.YtkkmbiojicgobaaGreatDoor.aw]):
  aG false P N R ops (⟨none,.call ⟨.builtin .clear,#[x],#[t]⟩,ty,pos,af,none⟩::l) env H K:=
 aG.oO λa w v s ro=>by
  obtain⟨H1,H2,o,f⟩:=Y.h
  have U:=h.shape
  obtain⟨e,a1,F,a2⟩:=U
  cases F
  by_cases A:xs.length-lo=0
  ·refine⟨w,H,.inr ⟨.tuple #[],?_⟩,Frame.refl w H,s,?_⟩
   ·have O:∀(e:Option Addr) (k:Nat),(Builtin.clear_ #[t] ty #[.slice e 0 k]).run P w=.ok (.tuple #[]) w:=λe k=>by cases e<;>simp[Builtin.clear_,run_underlying ut.h]
    simp only[kA,A]at d
    simp[execOp,resolve,v.eval d,invoke,builtin,O]
   ·have:=C T (h.head lo Q)
    rwa [f, <-o]at this
  ·rcases h.h with⟨q,g,r⟩|⟨b,off,c,a0,q,g,r,G,I,J⟩
   ·subst g;simp at A
   ·cases q
    subst g;subst o
    have V:¬cap=lo:=by omega
    have M:w.heap[b]? =some (.cells c E (0,0)):=s.2 (b,_) (by simp)
    have W:(if cap=lo then some (⟨b,off,none⟩:Addr)else(some (⟨b,off,none⟩:Addr)).map (·.add (lo*sz)))=some ⟨b,off+lo*sz,none⟩:=by
     rw[aaD V,aaQ,lE]
    have j:(Builtin.zeroCells z.cells (xs.length-lo)).toList.length=(xs.length-lo)*sz:=by rw[abh,yM,D];simp[X]
    have y:off+lo*sz+(xs.length-lo)*sz<=c.size:=by
     have h7:lo*sz+(xs.length-lo)*sz=xs.length*sz:=by rw[<-Nat.add_mul];congr 1;omega
     have h8:xs.length*sz<=cap*sz:=aaZ _ r
     omega
    have i:=pf (P:=P) (b:=b) (off:=off+lo*sz) (E:=E) (Builtin.zeroCells z.cells (xs.length-lo)).toList 0 c.toList w (by simpa using M) (by rw[D];exact Pc zs _ ho) (by rw[j];simp;omega)
    refine⟨_,upd [(b,.cells (Go.Proofs.YtkkmbiojicgobaaGreatDoor.cc c.toList (off+lo*sz) (Builtin.zeroCells z.cells (xs.length-lo)).toList).toArray E (0,0))],.inr ⟨.tuple #[],?_⟩,by rw[f];exact(lS (o':=_) s).1,by rw[f];exact(lS (o':=_) s).2,C _ ?_⟩
    ·obtain⟨m,S⟩:∃m,xs.length-lo=m+1:=⟨xs.length-lo-1,by omega⟩
     simp only[Nat.add_zero]at i
     simp only[kA,W]at d
     rw[S]at i d⊢
     simp[execOp,resolve,v.eval d,invoke,builtin,Builtin.clear_,run_underlying ut.h,Z.h,i]
    ·refine⟨λx d=>h.len x (aba d),λx d=>h.one x (aba d),.inr ⟨b,off,_,cap,?_,rfl,by simp;omega,G,?_,?_⟩⟩
     ·have:(xs.take lo).length=lo:=by simp;omega
      rw[this]
      by_cases B:cap=0
      ·simp[kA,B]
      ·simp[kA,B,Addr.add]
     ·have:=nY (vs:=c.toList) (cs:=(Builtin.zeroCells z.cells (xs.length-lo)).toList) (off:=off+lo*sz) (by rw[j];simpa using y)
      simp only[aa8,this]
      simpa using I
     ·have L:Row c off ((xs.take lo).flatMap enc):=by simpa using J.piece h.len 0 lo
      refine L.cc ?_ (by rw[j];exact y)
      rw[jP (sz:=sz) (λx d=>h.len x (aba d))]
      simp;exact aaZ _ (Nat.min_le_left _ _)
theorem MX(n:Nat){t e:TypeId}{w:World}{p:Option Addr}{a c b d:Nat}(ut:P.underlying t=some (.slice e)):(Op.equalIn (n+1) t (.slice p a c) (.slice none b d)).run P w=.ok p.isNone w:=by
 cases p<;>simp[Op.equalIn,run_underlying ut]
theorem aP.AA{x y:Operand}{t u e n c:Nat}{p:Option Addr}{k f:Nat}(i:ev env x=some (.slice p n c))(j:ev env y=some (.slice none k f)) [ut:bP P t (.slice e)]:aP P R env H (.binOp .eql t x y u) ty (.bool p.isNone):=λa w d m l g b _ _=>
 qK (op:=.move x) (b.eval i) (b.eval j) (mH rfl) rfl (MX _ ut.h)
theorem aG.zu{d:Nat}{T E k:Nat} [ut:bP P T (.slice E)] [sz:Sz P E k](g:∀b,aG false P N R ops l ((d,.slice (some ⟨b,0,none⟩) 0 0)::env) ([(b,.cells [].toArray E (0,0))]::H) K)(f:Nat.blt d N=true:=by rfl):
  aG false P N R ops (⟨some d,.buildSlice T 0 [].toArray,ty,pos,af,none⟩::l) env H K:=
 aG.fresh (v:=λb=>.slice (some ⟨b,0,none⟩) 0 0) f (λa w i s j=>⟨w.drawn,by
  have c:(execOp a.eval ⟨some d,.buildSlice T 0 [].toArray,ty,pos,af,none⟩)=(do pure (.value (<-Instr.buildSlice T 0 #[]))):=by
   show(do pure (Next.value (<-Instr.buildSlice T 0 ((#[]:Array (Nat×Operand)).map λx:Nat×Operand=>(x.1,a.eval x.2)))))=_
   rw[Array.map_empty]
  rw[c]
  have e:((Array.range 0).map λx=>(default:Value))= #[]:=by apply Array.eq_empty_of_size_eq_zero;simp
  simp[Instr.buildSlice,run_underlying ut.h,sz.h,Instr.fill,mn,e]⟩) g
theorem OS.empty{E sz b:Nat}{enc:α->List Value}:OS E sz enc (.slice (some ⟨b,0,none⟩) 0 0) ([]:List α) [(b,.cells [].toArray E (0,0))]:=
 ⟨by simp,by simp,.inr ⟨b,0,_,0,rfl,rfl,by simp,by simp,by simp,λk a=>by simp at a⟩⟩
theorem RS.Lh{sz n c:Nat}{enc:α->List Value}{xs:List α}(h:RS R sz enc (.slice none n c) xs):xs=[]:=by
 obtain⟨p,e,a,_,_,h4⟩:=h.h
 cases a
 rcases h4 with h4|⟨b,g,c,E,f,d,_⟩
 ·exact h4
 ·cases d
end
end
section
section
variable{P:Program}{N:Nat}{R R':av}{ops:Array Oper}{l:List Oper}{env:Env}{H:aV}{K:Env->aV->Prop}{T:ax}{upd:ax->aV}{ty:TypeId}{pos:String}{af:Array Edge}
theorem aG.zN{dst:Option Nat}{op:Op}(is:List Nat){f:FuncId}{vs:List Value}{Post:Value->aV->Prop}
  (u:∀a w,eW a env->Sat w H->RO w R H->(execOp a.eval ⟨dst,op,ty,pos,af,none⟩).run P w=.ok (.enter f vs.toArray) w)
  (r:Spec P f vs (Rx R (rest is H)) (take is H) Post)
  (p:∀v H',Post v H'->match dst with
   |some d=>Nat.blt d N=true/\aG false P N R ops l ((d,v)::env) (H'++rest is H) K
   |none=>aG false P N R ops l env (H'++rest is H) K):
  aG false P N R ops (⟨dst,op,ty,pos,af,none⟩::l) env H K:=λg m c h a w s=>by
 simp only[wpList,Region.wanted,aaJ]
 refine .inl ?_
 rw[Oper.wp,u a w s.env s.sat s.ro]
 obtain⟨x,y,z⟩:=mv (is:=is) s.sat
 refine(r w x (RO.split s.sat s.ro)).mono λe k ⟨v,H',n,q,t,o⟩=>?_
 subst n
 obtain⟨i,j⟩:=nl s.sat t o
 have b:=p v H' q
 cases dst with
 |some d=>exact b.2 g m c h _ k ((s.step j i).put v b.1)
 |none=>exact b g m c h _ k (s.step j i)
class yS(P:Program)(t:TypeId)(name:String)(f:outParam FuncId):Prop where
 h:∀(v:Value) w,(Go.method (P.types.size+Made.depth) t v name).run P w=.ok (f,v) w
theorem Pr{t:TypeId}{name:String}{f:FuncId} [m:yS P t name f] [e:ay P f]{x:Operand}{v:Value}{xs:List Operand}{c:Array TypeId}{vs:List Value}{dst:Option Nat}{g:Option (Nat×Bool)}(o:ev env x=some (.iface t v))(hxs:hN env xs=some vs)(a:Act)(w:World)(b:eW a env):
  (execOp a.eval ⟨dst,.call ⟨.invoke x name,xs.toArray,c⟩,ty,pos,af,g⟩).run P w=.ok (.enter f (v::vs).toArray) w:=by
 have d:=b.m6 hxs
 have i:=b.eval o
 have j:=e.h (v::vs).toArray w
 have k:callMethod (.iface t v) name vs.toArray=(do let (f,r)<-Go.method ((<-program).types.size+Made.depth) t v name;callFunc f (#[r]++vs.toArray)):=rfl
 have l:(callMethod (.iface t v) name vs.toArray).run P w=.ok (.enter f (v::vs).toArray) w:=by
  rw[k]
  simp[m.h,j]
 have n:(invoke (.fn (.method name) #[]) (#[.iface t v]++vs.toArray)).run P w=.ok (.enter f (v::vs).toArray) w:=by
  have:invoke (.fn (.method name) #[]) (#[.iface t v]++vs.toArray)=callMethod (.iface t v) name vs.toArray:=by simp[invoke]
  rw[this];exact l
 simp only[execOp,resolve,d,i]
 exact n
def ju(P:Program)(D:av)(t:TypeId)(v:Value)(name:String)(f:FuncId)(r:Value):Prop:=
 ∀w,(∀b o,D b o->w.heap[b]? =some o)->(Go.method (P.types.size+Made.depth) t v name).run P w=.ok (f,r) w
theorem ju.mono{D a:av}{t:TypeId}{v:Value}{name:String}{f:FuncId}{r:Value}(h:ju P D t v name f r)(d:∀b o,D b o->a b o):ju P a t v name f r:=λw e=>h w λb o c=>e b o (d b o c)
theorem MZ{D:av}{t:TypeId}{name:String}{f:FuncId}{v r:Value}(m:ju P D t v name f r)(e:ay P f){x:Operand}{xs:List Operand}{d:Array TypeId}{vs:List Value}{dst:Option Nat}{g:Option (Nat×Bool)}(s:ev env x=some (.iface t v))(hxs:hN env xs=some vs)(a:Act)(w:World)(c:eW a env)
  (q:∀b o,D b o->w.heap[b]? =some o):(execOp a.eval ⟨dst,.call ⟨.invoke x name,xs.toArray,d⟩,ty,pos,af,g⟩).run P w=.ok (.enter f (r::vs).toArray) w:=by
 have i:=c.m6 hxs
 have j:=c.eval s
 have k:=e.h (r::vs).toArray w
 have l:callMethod (.iface t v) name vs.toArray=(do let (f,r)<-Go.method ((<-program).types.size+Made.depth) t v name;callFunc f (#[r]++vs.toArray)):=rfl
 have n:(callMethod (.iface t v) name vs.toArray).run P w=.ok (.enter f (r::vs).toArray) w:=by
  rw[l]
  simp[m w q,k]
 have p:(invoke (.fn (.method name) #[]) (#[.iface t v]++vs.toArray)).run P w=.ok (.enter f (r::vs).toArray) w:=by
  have:invoke (.fn (.method name) #[]) (#[.iface t v]++vs.toArray)=callMethod (.iface t v) name vs.toArray:=by simp[invoke]
  rw[this];exact n
 simp only[execOp,resolve,i,j]
 exact p
def gW(P:Program)(t:TypeId)(v:Value)(name:String)(vs:List Value)(R:av)(T:ax)(Post:Value->ax->Prop):Prop:=
 ∃f r,ju P (Rx R [T]) t v name f r/\ay P f/\Spec P f (r::vs) R [T] λu H'=>∃T',H'=[T']/\Post u T'
theorem gW.weaken{t:TypeId}{v:Value}{name:String}{vs:List Value}{Post:Value->ax->Prop}(h:gW P t v name vs R' T Post)(a:∀b o,R' b o->R b o):gW P t v name vs R T Post:=by
 obtain⟨f,r,c,d,e⟩:=h
 exact⟨f,r,c.mono λb o g=>g.imp (a b o) id,d,e.weaken a⟩
theorem gW.mono{t:TypeId}{v:Value}{name:String}{vs:List Value}{Post a:Value->ax->Prop}(h:gW P t v name vs R T Post)(g:∀u T',Post u T'->a u T'):gW P t v name vs R T a:=by
 obtain⟨f,r,b,c,d⟩:=h
 exact⟨f,r,b,c,d.mono λu j ⟨T',e,i⟩=>⟨T',e,g _ _ i⟩⟩
theorem aG.zJ{dst:Option Nat}{x:Operand}{t:TypeId}{v:Value}{name:String}{xs:List Operand}{j:Array TypeId}{vs:List Value}{Post:Value->ax->Prop} [C:fm H T upd]
  (g:gW P t v name vs R T Post)(B:ev env x=some (.iface t v))(hxs:hN env xs=some vs)
  (q:∀u T',Post u T'->match dst with
   |some d=>Nat.blt d N=true/\aG false P N R ops l ((d,u)::env) (upd T') K
   |none=>aG false P N R ops l env (upd T') K):
  aG false P N R ops (⟨dst,.call ⟨.invoke x name,xs.toArray,j⟩,ty,pos,af,none⟩::l) env H K:=by
 obtain⟨f,r,k,m,n⟩:=g
 obtain⟨c,e,rfl,A⟩:=C.h
 refine .zN (H:=c++T::e) ((c++T::e).map λ_=>0) (f:=f) (vs:=r::vs) (Post:=λu i=>∃T',i=c++T'::e/\Post u T') (λa w p g z=>MZ k m B hxs a w p λb o hb=>?_) ?_ (λu i s=>?_)
 ·rcases hb with hb|hb
  ·exact(z b o hb).1
  ·exact g.2 (b,o) (by simp at hb⊢;exact .inr (.inl hb))
 ·rw[qV]
  exact n.at λb o hb=>.inl hb
 ·obtain⟨T',rfl,y⟩:=s
  have:=q u T' y
  rw[A T']at this
  rw[nV,aaT]
  cases dst<;>exact this
theorem aG.jN{d:Nat}{x:Operand}{t:TypeId}{v:Value}{name:String}{xs:List Operand}{a:Array TypeId}{vs:List Value}{Post:Value->ax->Prop}
  (f:gW P t v name vs R T Post)(c:∀u T',Post u T'->aG false P N R ops l ((d,u)::env) (upd T') K) [h:fm H T upd](g:ev env x=some (.iface t v):=by rfl)(hxs:hN env xs=some vs:=by rfl)(b:Nat.blt d N=true:=by rfl):
  aG false P N R ops (⟨some d,.call ⟨.invoke x name,xs.toArray,a⟩,ty,pos,af,none⟩::l) env H K:=
 aG.zJ f g hxs λu T' e=>⟨b,c u T' e⟩
theorem aP.i64{op:Op}{z:Int}(c:Int)(h:aP P R env H op ty (.int .i64 (IntKind.i64.wrap z)))(e:z=c/\ -9223372036854775808<=c/\c<=9223372036854775807):aP P R env H op ty (.int .i64 c):=by
 obtain⟨rfl,a,b⟩:=e
 rw[IntWalk.i64_in _ (by omega)]at h
 exact h
theorem s0{j:Nat}:((j:Int)-1).tdiv 2=(((j-1)/2:Nat):Int):=by
 rcases Nat.eq_zero_or_pos j with h|h
 ·subst h;decide
 ·rw[Int.tdiv_eq_ediv_of_nonneg (by omega)];omega
theorem ju.ptr{D:av}{t e:TypeId}{v:Value}{name:String}{f:FuncId}{c:TypeInfo}(k:∀w,(typeInfo t).run P w=.ok c w)(d:(c.methods.find? (·.name==name)).map (λm=>(m.path.isEmpty,m.func))=some (true,some (f,true)))
  (l:bP P t (.pointer e))(b:Nat.beq P.types.size 0=false):ju P D t v name f v:=λw _=>by
 obtain⟨n,i⟩:∃n,P.types.size+Made.depth=n+1:=⟨P.types.size+Made.depth-1,by have:P.types.size≠0:=λe=>(by rw[e]at b;cases b);omega⟩
 rw[i]
 obtain⟨m,g,a⟩:=Option.map_eq_some_iff.1 d
 simp only[aa1]at a
 have j:m.path= #[]:=by simpa using a.1
 unfold Go.method
 simp[k,g,j,a.2,follow,receiverAt,run_underlying l.h,Place.get]
theorem M3{b:Array TypeId}{t:TypeId}{a:Addr}{s m:ByteArray}{w:World}:(Builtin.ssaWrapNilChk_ b t #[.pointer (some a),.string s,.string m]).run P w=.ok (.pointer (some a)) w:=rfl
theorem ju.val{D:av}{t e:TypeId}{v u:Value}{us:List Value}{name:String}{f:FuncId}{g:TypeInfo}(y:∀w,(typeInfo t).run P w=.ok g w)(q:(g.methods.find? (·.name==name)).map (λm=>(m.path.isEmpty,m.func))=some (true,some (f,false)))
  (z:bP P t (.pointer e))(d:Nat.beq P.types.size 0=false)(i:dj P e false)(o:PC D v (u::us)):ju P D t v name f u:=λw A=>by
 obtain⟨n,s⟩:∃n,P.types.size+Made.depth=n+1:=⟨P.types.size+Made.depth-1,by have:P.types.size≠0:=λe=>(by rw[e]at d;cases d);omega⟩
 rw[s]
 obtain⟨m,r,a⟩:=Option.map_eq_some_iff.1 q
 simp only[aa1]at a
 have x:m.path= #[]:=by simpa using a.1
 obtain⟨b,B,c,E,C,rfl,l,p⟩:=o.h
 have j:=p 0 (by simp)
 have k:w.cell? ⟨b,B,none⟩=some u:=by
  simp[World.cell?,A _ _ l]
  simpa using j
 unfold Go.method
 simp only[Sem.run_bind,y,Result.andThen_ok,r,x,a.2,follow,receiverAt,Sem.run_pure,Array.isEmpty_empty,aaJ]
 simp only[run_underlying z.h,Result.andThen_ok,Place.get,Sem.run_bind,Sem.run_pure,strVal,M3,asAddr,loadVar,i.h,xP k,aaH,aaG]
end
end
section
variable{α:Type}
def swp(L:List α)(i k:Nat):List α:=match L[i]?,L[k]? with
 |some x,some y=>(L.set i y).set k x
 |_,_=>L
theorem fk{L:List α}{i k:Nat}{x y:α}(a:L[i]? =some x)(b:L[k]? =some y):swp L i k=(L.set i y).set k x:=by simp[swp,a,b]
theorem jZ{L:List α}{i k:Nat}:(swp L i k).length=L.length:=by
 unfold swp;split<;>simp
theorem fc{L:List α}{i k:Nat}(c:i<L.length)(d:k<L.length)(j:Nat):(swp L i k)[j]? =if j=k then L[i]? else if j=i then L[k]? else L[j]? :=by
 rw[fk (aaO c) (aaO d),abJ,abJ]
 by_cases a:k=j
 ·subst a;simp[d,aaO c]
 ·by_cases b:i=j
  ·subst b
   simp[a,Ne.symm a,c,aaO d]
  ·simp[a,b,Ne.symm a,Ne.symm b]
theorem lz{L:List α}{i k:Nat}:(swp L i k).Perm L:=by
 unfold swp
 split
 ·rename_i x y a b
  obtain⟨c,rfl⟩:=abi.1 a
  obtain⟨d,rfl⟩:=abi.1 b
  exact List.set_set_perm c d
 ·exact .refl _
structure SO(lt:α->α->Bool):Prop where
 fK:∀x,lt x x=false
 tr:∀x y z,lt x y=true->lt y z=true->lt x z=true
 gU:∀x y z,lt x y=false->lt y z=false->lt x z=false
theorem SO.kH{lt:α->α->Bool}(h:SO lt){x y:α}(a:lt x y=true):lt y x=false:=by
 cases hy:lt y x with
 |false=>rfl
 |true=>have:=h.tr _ _ _ a hy;rw[h.fK]at this;cases this
def bR(k:Nat):Nat:=(k-1)/2
def gj(lt:α->α->Bool)(L:List α)(a k:Nat):Prop:=∀x y,L[a]? =some x->L[k]? =some y->lt y x=false
def fD(lt:α->α->Bool)(L:List α)(n:Nat):Prop:=∀k,0<k->k<n->gj lt L (bR k) k
structure Up(lt:α->α->Bool)(L:List α)(n j:Nat):Prop where
 e:∀k,0<k->k<n->k≠j->gj lt L (bR k) k
 b:∀k,0<k->k<n->bR k=j->0<j->gj lt L (bR j) k
structure kj(lt:α->α->Bool)(L:List α)(n i:Nat):Prop where
 e:∀k,0<k->k<n->k≠i->bR k≠i->gj lt L (bR k) k
 b:∀k,0<k->k<n->bR k=i->0<i->gj lt L (bR i) k
theorem fQ{k:Nat}(h:0<k):bR k<k:=by unfold bR;omega
section
variable{lt:α->α->Bool}{L:List α}{n i j:Nat}
theorem Up.yf(h:Up lt L n 0):fD lt L n:=λk a b=>h.e k a b (by omega)
theorem Up.stop(h:Up lt L n j)(c:gj lt L (bR j) j):fD lt L n:=λk b d=>by
 by_cases a:k=j
 ·subst a;exact c
 ·exact h.e k b d a
theorem gj.gV{b:List α}{a k c k':Nat}(h:gj lt L a k)(d:b[c]? =L[a]?)(e:b[k']? =L[k]?):gj lt b c k':=λx y f g=>h x y (d▸f) (e▸g)
theorem Up.step(r:SO lt)(h:Up lt L n j)(w:0<j)(D:j<n)(E:n<=L.length){x y:α}(B:L[j]? =some x)(o:L[bR j]? =some y)(z:lt x y=true):Up lt (swp L (bR j) j) n (bR j):=by
 have F:=fQ w
 have g:=λk=>fc (L:=L) (i:=bR j) (k:=j) (by omega) (by omega) k
 refine⟨λk f l m=>?_,λk f l m A=>?_⟩
 ·by_cases a:k=j
  ·subst a
   intro u v c d
   rw[g,aaD (by omega),aaE rfl,B]at c
   rw[g,aaE rfl,o]at d
   cases c;cases d
   exact r.kH z
  ·by_cases p:bR k=bR j
   ·intro u v c d
    rw[p,g,aaD (by omega),aaE rfl,B]at c
    rw[g,aaD a,aaD m]at d
    cases c
    have t:=h.e k f l a y v (by rw[p];exact o) d
    cases hc:lt v x with
    |false=>rfl
    |true=>rw[r.tr _ _ _ hc z]at t;cases t
   ·by_cases q:bR k=j
    ·refine(h.b k f l q w).gV ?_ ?_
     ·rw[q,g,aaE rfl]
     ·rw[g,aaD a,aaD m]
    ·refine(h.e k f l a).gV ?_ ?_
     ·rw[g,aaD q,aaD p]
     ·rw[g,aaD a,aaD m]
 ·have G:=fQ A
  have s:=h.e (bR j) A (by omega) (by omega)
  by_cases a:k=j
  ·subst a
   refine s.gV ?_ ?_
   ·rw[g,aaD (by omega),aaD (by omega)]
   ·rw[g,aaE rfl]
  ·have C:k≠bR j:=by have:=fQ f;omega
   intro u v c d
   rw[g,aaD (by omega),aaD (by omega)]at c
   rw[g,aaD a,aaD C]at d
   exact r.gU _ _ _ (h.e k f l a y v (by rw[m];exact o) d) (s u y c o)
theorem kj.step(D:SO lt)(h:kj lt L n i)(s:0<j)(w:j<n)(F:n<=L.length)(q:bR j=i){x y:α}(t:L[j]? =some x)(C:L[i]? =some y)(A:lt x y=true)
  (B:∀c z,0<c->c<n->bR c=i->L[c]? =some z->lt z x=false):kj lt (swp L i j) n j/\gj lt (swp L i j) (bR j) j:=by
 have E:i<j:=q▸fQ s
 have g:=λk=>fc (L:=L) (i:=i) (k:=j) (by omega) (by omega) k
 refine⟨⟨λk a p f r=>?_,λk a p r _=>?_⟩,?_⟩
 ·by_cases d:k=i
  ·subst d
   have G:=fQ a
   refine(h.b j s w q a).gV ?_ ?_
   ·rw[g,aaD (by omega),aaD (by omega)]
   ·rw[g,aaD f,aaE rfl]
  ·by_cases o:bR k=i
   ·intro u v l m
    rw[o,g,aaD (by omega),aaE rfl,t]at l
    rw[g,aaD f,aaD d]at m
    cases l
    exact B k v a p o m
   ·refine(h.e k a p d o).gV ?_ ?_
    ·rw[g,aaD r,aaD o]
    ·rw[g,aaD f,aaD d]
 ·have f:k≠j:=by have:=fQ a;omega
  have d:k≠i:=by have:=fQ a;omega
  refine(h.e k a p d (by omega)).gV ?_ ?_
  ·rw[q,r,g,aaD (by omega),aaE rfl]
  ·rw[g,aaD f,aaD d]
 ·intro u v l m
  rw[q,g,aaD (by omega),aaE rfl,t]at l
  rw[g,aaE rfl,C]at m
  cases l;cases m
  exact D.kH A
theorem kj.stop(h:kj lt L n i)(g:∀c,0<c->c<n->bR c=i->gj lt L i c):Up lt L n i:=
 ⟨λk f d j=>by
  by_cases a:bR k=i
  ·rw[a];exact g k f d a
  ·exact h.e k f d j a,h.b⟩
theorem fD.hole(o:SO lt)(h:fD lt L n)(r:n<=L.length){e:List α}(c:∀k,k<n->k≠i->e[k]? =L[k]?):kj lt e n i:=by
 refine⟨λk b a m d=>?_,λk b a d g=>?_⟩
 ·have:=fQ b
  exact(h k b a).gV (c _ (by omega) d) (c _ a m)
 ·have p:=fQ b
  have q:=fQ g
  intro u v j l
  rw[c _ (by omega) (by omega)]at j
  rw[c _ a (by omega)]at l
  have f:L[i]? =some (L[i]'(by omega)):=aaO _
  exact o.gU _ _ _ (h k b a _ v (by rw[d];exact f) l) (h i g (by omega) u _ j f)
theorem fD.push(h:fD lt L L.length)(x:α):Up lt (L++[x]) (L.length+1) L.length:=by
 refine⟨λk a c d=>?_,λk a c e _=>?_⟩
 ·have b:=fQ a
  refine(h k a (by omega)).gV ?_ ?_<;>rw[abp (by omega)]
 ·have b:=fQ a
  omega
theorem fD.mono{m:Nat}(h:fD lt L n)(c:m<=n):fD lt L m:=λk a b=>h k a (by omega)
theorem fD.gV{a:List α}(h:fD lt L n)(d:∀k,k<n->a[k]? =L[k]?):fD lt a n:=λk b c=>by
 have:=fQ b
 exact(h k b c).gV (d _ (by omega)) (d _ c)
theorem fD.least(c:SO lt)(h:fD lt L L.length){x:α}(g:L[0]? =some x):∀(k:Nat) (y:α),L[k]? =some y->lt y x=false:=by
 intro k
 induction k using Nat.strongRecOn with
 |_ k ih=>
  intro y a
  by_cases d:k=0
  ·subst d;rw[g]at a;cases a;exact c.fK _
  ·have f:=fQ (k:=k) (by omega)
   have e:=(abi.1 a).1
   have b:L[bR k]? =some (L[bR k]'(by omega)):=aaO _
   exact c.gU _ _ _ (h k (by omega) e _ y b a) (ih (bR k) f _ b)
end
end
section
theorem aT.trans{A B C:aV}(h:aT A B)(a:aT B C):aT A C:=by
 obtain⟨G,h⟩:=h
 obtain⟨b,a⟩:=a
 refine⟨b++G,h.trans ?_⟩
 rw[<-aaI]
 exact a.append_right G
def fv(T:ax)(b:Nat)(o:Obj):ax:=T.map λp=>if p.1=b then(b,o)else p
theorem te{T:ax}{b:Nat}{o:Obj}(j:Nat):(fv T b o)[j]? =T[j]?.map λp=>if p.1=b then(b,o)else p:=by simp[fv]
theorem tg{T a:ax}{b:Nat}{o:Obj}(h:T.Perm a):(fv T b o).Perm (fv a b o):=h.map _
theorem tf{T:ax}{b:Nat}{o:Obj}(h:∀p∈T,p.1≠b):fv T b o=T:=by
 unfold fv
 conv=>rhs;rw[<-List.map_id T]
 exact List.map_congr_left λp a=>by simp[h p a]
theorem Ow{T1 T2:ax}{b:Nat}{o o':Obj}(d:((T1++(b,o)::T2).map (·.1)).Nodup):fv (T1++(b,o)::T2) b o'=T1++(b,o')::T2:=by
 simp only[List.map_append,aaF,abr,abc]at d
 obtain⟨_,⟨g,_⟩,h⟩:=d
 have e:fv T1 b o'=T1:=tf λp c a=>h p.1 (abu c) b (by simp) a
 have f:fv T2 b o'=T2:=tf λp c a=>g (a▸abu c)
 have:fv (T1++(b,o)::T2) b o'=fv T1 b o'++(b,o')::fv T2 b o':=by simp[fv]
 rw[this,e,f]
theorem RS.qw{α:Type}{R:av}{b n E sz:Nat}{cs:List Value}{fr:Nat×Nat}{enc:α->List Value}{xs:List α}(a:R b (.cells cs.toArray E fr))(c:xs.flatMap enc=cs)(d:∀x∈xs,(enc x).length=sz)(ho:∀x∈xs,∀u∈enc x,Go.Proofs.YtkkmbiojicgobaaGreatDoor.aw u=true)(f:xs.length=n:=by rfl)(e:Nat.ble n 9223372036854775807=true:=by rfl):
  RS R sz enc (.slice (some ⟨b,0,none⟩) n n) xs:=
 ⟨d,ho,_,n,by rw[f],by omega,by have:=aa4 e;unfold maxLen;omega,.inr ⟨b,0,_,E,fr,rfl,a,λk g=>by subst c;simp⟩⟩
theorem RS.lits{α:Type}{R:av}{H:aV}{b n E sz:Nat}{cs:List Value}{fr:Nat×Nat}{enc:α->List Value}{xs:List α}(a:xs.flatMap enc=cs)(c:∀x∈xs,(enc x).length=sz)(ho:∀x∈xs,∀u∈enc x,Go.Proofs.YtkkmbiojicgobaaGreatDoor.aw u=true)(e:xs.length=n:=by rfl)(d:Nat.ble n 9223372036854775807=true:=by rfl):
  RS (Rx R ([(b,.cells cs.toArray E fr)]::H)) sz enc (.slice (some ⟨b,0,none⟩) n n) xs:=RS.qw (E:=E) (fr:=fr) (.inr (by simp)) a c ho e d
theorem Ov{T:ax}{b a:Nat}{o o':Obj}(h:(a,o')∈T)(c:a≠b):(a,o')∈fv T b o:=aaP.2 ⟨_,h,by simp[c]⟩
theorem yC{T:ax}{b:Nat}{o o':Obj}(h:(b,o')∈T):(b,o)∈fv T b o:=aaP.2 ⟨_,h,by simp⟩
def idx{α:Type}:Nat->List α->List (Nat×α)
 |_,[]=>[]
 |i,x::l=>(i,x)::idx (i+1) l
theorem Kh{a:List (Nat×Nat)}{zs:List Value}{i off:Nat}{v:Value}{r:List (Nat×Value)}(d:a[i]? =some (off,1))(e:aw v=true)(c:off+1<=zs.length):gA a zs ((i,v)::r)=gA a (cc zs off [v]) r:=by
 have b:Nat.ble (off+1) zs.length=true:=Nat.ble_eq_true_of_le c
 simp only[gA,d]
 cases v<;>first|(cases e;done)|simp[b]
theorem vf{n:Nat}:∀(vs zs:List Value) (i:Nat),i+vs.length=n->zs.length=n->(∀v∈vs,aw v=true)->gA ((List.range n).map λi=>(i*1,1)) zs (idx i vs)=some (zs.take i++vs)
 |[],zs,i,h,hz,_=>by
  simp only[idx,gA,aaT]
  rw[List.take_of_length_le (by simp at h;omega)]
 |v::vs,zs,i,h,hz,ho=>by
  simp only[aaV]at h
  have b:((List.range n).map λi=>(i*1,1))[i]? =some (i*1,1):=by
   rw[aaN,List.getElem?_range (by omega)];rfl
  simp only[idx]
  rw[Kh b (ho v (by simp)) (by omega),vf vs _ (i+1) (by omega) (by rw[nY (by simp;omega)];exact hz) λu c=>ho u (by simp[c])]
  simp only[iY,Nat.mul_one,aaI]
  rw[List.take_append,List.take_of_length_le (by simp;omega)]
  have a:i+1-(zs.take i).length=1:=by rw[abe];omega
  rw[a];simp
theorem Ki{n:Nat}{vs zs:List Value}(b:vs.length=n)(a:zs.length=n)(ho:∀v∈vs,aw v=true):gA ((List.range n).map λi=>(i*1,1)) zs (idx 0 vs)=some vs:=by
 rw[vf vs zs 0 (by omega) a ho];simp
section
variable{P:Program}{N:Nat}{R R':av}{ops:Array Oper}{l:List Oper}{env:Env}{H:aV}{K:Env->aV->Prop}{Q:Exit->Env->aV->Prop}{T:ax}{upd:ax->aV}{ty:TypeId}{pos:String}{af:Array Edge}{m:Bool}
theorem aG.nodup(h:(H.flatten.map (·.1)).Nodup->aG m P N R ops l env H K):aG m P N R ops l env H K:=λc e b d a w s=>h s.sat.1 c e b d a w s
theorem Spec.nodup{f:FuncId}{a:List Value}{Post:Value->aV->Prop}(h:(H.flatten.map (·.1)).Nodup->Spec P f a R H Post):Spec P f a R H Post:=λw b c=>h b.1 w b c
theorem Spec.iK{f:FuncId}{b:List Value}{Post:Value->Prop}(h:Spec P f b (Rx R H) [] λv H'=>Post v/\H'=[]):Spec P f b R H λv H'=>Post v/\H'=H:=λw a j=>by
 obtain⟨n,o,p⟩:=mv (is:=[]) a
 refine(h w n (RO.split (is:=[]) a j)).mono λe q ⟨v,H',d,⟨i,c⟩,k,g⟩=>?_
 subst c
 obtain⟨l,m⟩:=nl (is:=[]) a k g
 exact⟨v,H,d,⟨i,rfl⟩,l,m⟩
theorem gW.iK{t:TypeId}{v r:Value}{name:String}{vs:List Value}{f:FuncId}{Post:Value->Prop}(c:ju P (Rx R [T]) t v name f r) [e:ay P f](h:Spec P f (r::vs) (Rx R [T]) [] λv H'=>Post v/\H'=[]):gW P t v name vs R T λu T'=>Post u/\T'=T:=
 ⟨f,r,c,e,h.iK.mono λu H' ⟨a,b⟩=>⟨T,b,a,rfl⟩⟩
theorem PS.of{b:Nat}{vs:List Value}{E:TypeId}{fr:Nat×Nat}(h:(b,.cells vs.toArray E fr)∈T):PS T (.pointer (some ⟨b,0,none⟩)) vs:=⟨PC.of h⟩
theorem aG.sV{t:TypeId}{x y:Operand}{v:Value}{vs:List Value}{b off E:Nat}(m:(b,.cells vs.toArray E (0,0))∈T) [r:fm H T upd] [sz:Sz P t 1](f:aG false P N R ops l env (upd (fv T b (.cells (cc vs off [v]).toArray E (0,0)))) K)
  (k:off+1<=vs.length:=by first|decide|exact aa4 rfl)(p:ev env x=some (.pointer (some ⟨b,off,none⟩)):=by rfl)(q:ev env y=some v:=by rfl)(ho:aw v=true:=by rfl):
  aG false P N R ops (⟨none,.store t x y,ty,pos,af,none⟩::l) env H K:=by
 refine .nodup λg=>?_
 obtain⟨a,c,j⟩:=List.append_of_mem m
 obtain⟨d,e,rfl,o⟩:=r.h
 have n:(T.map (·.1)).Nodup:=by
  simp only[aaY,aaX,List.map_append,abr]at g
  exact g.2.1.1
 subst j
 rw[Ow n]at f
 have wr:Wr (d++(a++(b,.cells vs.toArray E (0,0))::c)::e) (.pointer (some ⟨b,off,none⟩)) vs off (λi=>upd (a++(b,.cells i.toArray E (0,0))::c)):=⟨b,E,d,e,a,c,rfl,rfl,λi=>o _⟩
 exact aG.sX p q (oz ho) rfl (wr:=wr) (by simpa using ho) k f
theorem aG.qd{d:Nat}{T E n:Nat}{z:Value}{xs:List (Nat×Operand)}(vs:List Value) [ut:bP P T (.slice E)] [sz:Sz P E 1] [j:Zr P E z]
  (f:∀b,aG false P N R ops l ((d,.slice (some ⟨b,0,none⟩) n n)::env) ([(b,.cells vs.toArray E (0,0))]::H) K)
  (i:lI env xs=some (idx 0 vs):=by rfl)(e:vs.length=n:=by rfl)(ho:∀v∈vs,Go.Proofs.YtkkmbiojicgobaaGreatDoor.aw v=true:=by simp[Go.Proofs.YtkkmbiojicgobaaGreatDoor.aw])(h:Nat.ble (n*1) (2^24)=true:=by rfl)(c:Nat.beq (n*1) 0=false:=by rfl)(g:(idx 0 vs).all (λp=>Nat.blt p.1 n)=true:=by rfl)(a:Nat.blt d N=true:=by rfl):
  aG false P N R ops (⟨some d,.buildSlice T n xs.toArray,ty,pos,af,none⟩::l) env H K:=
 aG.buildSlice (z:=z) (zs:=((Array.range (n*1)).map (z.cells[· % z.cells.size]!)).toList) (parts:=idx 0 vs) h c rfl i (Ki e (by simp) ho) f a g
theorem Spec.nN{f:FuncId}{b:List Value}{Post:Value->aV->Prop}(is:List Nat)(h:Spec P f b (Rx R (rest is H)) (take is H) Post):Spec P f b R H λv H'=>∃H1,H'=H1++rest is H/\Post v H1:=λw a i=>by
 obtain⟨m,n,o⟩:=mv (is:=is) a
 refine(h w m (RO.split a i)).mono λe p ⟨v,H',c,g,j,d⟩=>?_
 obtain⟨k,l⟩:=nl a j d
 exact⟨v,_,c,⟨H',rfl,g⟩,k,l⟩
theorem aP.tR{x:Operand}{i t:TypeId}{v:Value}{b:TypeDesc} [ut:bP P t b](e:(match b with| .interface _=>false|_=>true)=true:=by rfl)(f:ev env x=some (.iface t v):=by rfl):aP P R env H (.typeAssert x i t false) ty v:=λa w d k j g c _ _=>by
 cases b<;>first|(cases e;done)|simp[execOp,c.eval f,Instr.typeAssert,run_underlying ut.h]
theorem Spec.flat{f:FuncId}{a:List Value}{Post:Value->aV->Prop}(h:Spec P f a R H λv H'=>∃H1 T',H'=H1/\H1.flatten.Perm T'/\Post v [T']):Spec P f a R H Post:=λw l k=>
 (h w l k).mono λe n ⟨v,H',d,⟨H1,T',c,i,j⟩,m,g⟩=>by
  subst c
  have b:aT H' [T']:=⟨[],by simpa using i⟩
  exact⟨v,[T'],d,j,b.sat m,g.trans (b.frame n)⟩
theorem aG.sub{H':aV}(e:aT H H')(h:aG m P N R ops l env H' K):aG m P N R ops l env H K:=λc f b d a w s=>h c f b d a w (s.le (bh.refl env) e)
theorem aT.merge(is:List Nat)(H:aV):aT H ((take is H).flatten::rest is H):=⟨[],by simpa using my is H⟩
theorem aG.merge(is:List Nat)(h:aG m P N R ops l env ((take is H).flatten::rest is H) K):aG m P N R ops l env H K:=h.sub (aT.merge is H)
theorem aT.bu{H H':aV}(h:H.flatten.Perm H'.flatten):aT H H':=⟨[],by simpa using h⟩
theorem M1{t:TypeId}{s:ByteArray}{lo d:Nat}{xl e:Option Operand}{a:Act}{w:World}(m:eW a env) [ut:bP P t .string](f:fy env xl 0 lo)(b:fy env e s.size d)(i:lo<=d)(j:d<=s.size):
  (Instr.sliceAt t (.string s) (xl.map a.eval) (e.map a.eval) none).run P w=.ok (.string (s.extract lo d)) w:=by
 have c:∀{x:Operand} {k:IntKind} {y n:Nat} {code:BoundsCode},ev env x=some (.int k n)->n<=y->(Instr.sliceBound (a.eval x) y code).run P w=.ok n w:=λr p=>run_sliceBound (m.eval r) p
 unfold Instr.sliceAt
 simp only[Sem.run_bind,run_underlying ut.h,Result.andThen_ok]
 unfold Instr.slice
 simp only[Sem.run_bind,run_underlying ut.h,Result.andThen_ok]
 unfold Instr.sliceBounds
 cases xl with
 |none=>
  simp only[fy]at f
  subst f
  cases e with
  |none=>simp only[fy]at b;subst b;simp
  |some o=>obtain⟨k,g⟩:=b;simp[c g j]
 |some q=>
  obtain⟨u,l⟩:=f
  cases e with
  |none=>simp only[fy]at b;subst b;simp[c l i]
  |some o=>obtain⟨k,g⟩:=b;simp[c g j,c l i]
theorem aP.sS{x:Operand}{xl e:Option Operand}{t:TypeId}{s:ByteArray}(lo b:Nat) [ut:bP P t .string](f:fy env xl 0 lo)(h:fy env e s.size b)(i:lo<=b)(j:b<=s.size)(k:ev env x=some (.string s):=by rfl):
  aP P R env H (.slice t x xl e none) ty (.string (s.extract lo b)):=λa w d m l g c _ _=>by
 have:=M1 (P:=P) (w:=w) (s:=s) c f h i j (t:=t)
 simp only[execOp,c.eval k,Option.map_none]
 rw[Sem.run_bind,this]
 rfl
theorem aG.gK{d t:Nat}{f:FuncId}{first captured:List Value} [e:ay P f]{xs:List Operand}{a:Array TypeId}{vs:List Value}{Post:Value->Prop}
  (i:Spec P f (first++vs++captured) (Rx R H) [] λv H'=>Post v/\H'=[])(g:∀v,Post v->aG false P N R ops l ((d,v)::env) H K)
  (j:Env.get? env t=some (.func (.func f) first.toArray captured.toArray):=by rfl)(hxs:hN env xs=some vs:=by rfl)(c:Nat.blt d N=true:=by rfl):
  aG false P N R ops (⟨some d,.call ⟨.value (.tmp t),xs.toArray,a⟩,ty,pos,af,none⟩::l) env H K:=
 aG.zL [] (first:=first) (captured:=captured) j i (λv H' h=>by obtain⟨b,rfl⟩:=h;exact g v b) hxs c
theorem Pb{a:Act}{j t:Nat}(c:eW a env)(b:jQ ops j=some t)(d:Env.get? env t=some undef):yielded ops a.tmps j=none:=by
 unfold jQ at b
 have:=c t _ d
 simp[yielded,b,this,undef]
theorem aG.cX{j t d:Nat}{c:Bool}{op:Op}(o:Env.get? env t=some undef)(n:aG m P N R ops l ((d,undef)::env) H K)(k:jQ ops j=some t:=by rfl)(i:Nat.blt d N=true:=by rfl):
  aG m P N R ops (⟨some d,op,ty,pos,af,some (j,c)⟩::l) env H K:=λf p e g a w s=>by
 have b:¬Region.wanted ⟨some d,op,ty,pos,af,some (j,c)⟩ (yielded ops a.tmps)=true:=by
  simp[Region.wanted,Pb s.env k o]
 have h:=n f p e g _ w (s.put undef i)
 cases m
 ·simp only[wpList]
  rw[aaD b]
  exact h
 ·simp only[wpStill]
  rw[aaD b]
  exact h
theorem aG.jW{d:Nat}{x:Operand}{xl b:Option Operand}{t e:TypeId}{sz:Nat}{α:Type}{enc:α->List Value}{v:Value}{xs:List α}(lo a:Nat)(h:RS R' sz enc v xs) [ut:bP P t (.slice e)] [s:Sz P e sz](g:fy env xl 0 lo)(i:fy env b xs.length a)(j:lo<=a)(k:a<=xs.length)
  (o:∀v',RS R' sz enc v' ((xs.drop lo).take (a-lo))->aG m P N R ops l ((d,v')::env) H K)(p:ev env x=some v:=by rfl)(n:Nat.blt d N=true:=by rfl):
  aG m P N R ops (⟨some d,.slice t x xl b none,ty,pos,af,none⟩::l) env H K:=by
 obtain⟨v',c,f⟩:=aP.jW (P:=P) (R:=R) (H:=H) (ty:=ty) (t:=t) lo a h g i j k p
 exact aG.q f (o v' c) n
end
end
section
section
variable{P:Program}{N:Nat}{R R':av}{ops:Array Oper}{l:List Oper}{env:Env}{H:aV}{K:Env->aV->Prop}{Q:Exit->Env->aV->Prop}{T:ax}{upd:ax->aV}{ty:TypeId}{pos:String}{af:Array Edge}{m:Bool}
theorem aP.cast{op:Op}{v v':Value}(h:aP P R env H op ty v)(e:v=v'):aP P R env H op ty v':=e▸h
theorem RS.left{α:Type}{T1 T2:ax}{sz:Nat}{enc:α->List Value}{v:Value}{xs:List α}(h:RS (sg T1) sz enc v xs):RS (sg (T1++T2)) sz enc v xs:=h.mono λb o a=>abM _ a
theorem RS.right{α:Type}{T1 T2:ax}{sz:Nat}{enc:α->List Value}{v:Value}{xs:List α}(h:RS (sg T2) sz enc v xs):RS (sg (T1++T2)) sz enc v xs:=h.mono λb o a=>List.mem_append_right _ a
theorem OS.sg{α:Type}{E sz:Nat}{enc:α->List Value}{v:Value}{xs:List α}(h:OS E sz enc v xs T):RS (Go.Proofs.YtkkmbiojicgobaaGreatDoor.sg T) sz enc v xs:=h.rs λ_ a=>a
theorem RA.cZ{a:aV}{c e:List Nat}{d j t:Nat}{f b:Bool}{op:Op}{v:Value}(i:Nat)(l:ops[i]? =some ⟨some d,op,ty,pos,af,some (j,f)⟩)(p:Env.get? env t=some (.bool b))(g:b=f)(o:aP P R env a op ty v)
  (h:tk true ops c e i=true)(n:RA P N R ops a c (i::e) ((d,v)::env) H K)(m:jQ ops j=some t:=by rfl)(k:Nat.blt d N=true:=by rfl):RA P N R ops a c e env H K:=
 RA.NX i l (g▸p) o h n m k
end
abbrev bl(b:Nat)(cs:List Value)(t:TypeId):ax:=[(b,.cells cs.toArray t (0,0))]
abbrev sZ:Value:=.slice none 0 0
abbrev pT(b:Nat):Value:=.pointer (some ⟨b,0,none⟩)
abbrev iN(n:Nat):Value:=.int .i64 (n:Int)
section
variable{P:Program}{N:Nat}{R:av}{ops:Array Oper}{l:List Oper}{env:Env}{H Ho:aV}{Ms done:List Nat}{K:Env->aV->Prop}{m:Bool}{d:Nat}{ty:TypeId}{pos:String}{af:Array Edge}
theorem aG.ia{op:Op}{z:Int}(c:Nat)(h:aP P R env H op ty (.int .i64 (IntKind.i64.wrap z)))(b:aG m P N R ops l ((d,.int .i64 ((c:Nat):Int))::env) H K)(e:z=(c:Int)/\ -9223372036854775808<=(c:Int)/\(c:Int)<=9223372036854775807:=by(refine⟨?_,?_,?_⟩<;>omega))(a:Nat.blt d N=true:=by rfl):aG m P N R ops (⟨some d,op,ty,pos,af,none⟩::l) env H K:=.q (.i64 (c:Int) h e) b a
theorem RA.tK{op:Op}{v:Value}(i:Nat)(c:ops[i]? =some ⟨some d,op,ty,pos,af,none⟩)(f:aP P R env [] op ty v)(e:RA P N R ops Ho Ms (i::done) ((d,v)::env) H K)(a:tk false ops Ms done i=true:=by kernel_rfl)(b:Nat.blt d N=true:=by rfl):RA P N R ops Ho Ms done env H K:=.take i c f a e b
theorem RA.tO{op:Op}{v:Value}(i:Nat)(c:ops[i]? =some ⟨some d,op,ty,pos,af,none⟩)(f:aP P R env Ho op ty v)(e:RA P N R ops Ho Ms (i::done) ((d,v)::env) H K)(a:tk true ops Ms done i=true:=by kernel_rfl)(b:Nat.blt d N=true:=by rfl):RA P N R ops Ho Ms done env H K:=.eE i c f a e b
theorem RA.sT{o:Oper}(i:Nat)(a:ops[i]? =some o)(h:aG false P N R ops [o] env H (Next P N R ops Ho Ms done K i))(c:Region.ready .any ops (marked ops.size done)=[i]:=by kernel_rfl)(b:Nat.blt done.length ops.size=true:=by rfl):RA P N R ops Ho Ms done env H K:=.step i a c b h
theorem aO{Post:Value->aV->Prop}{t:Nat}{v:Value}(h:Env.get? env t=some v)(a:Post v []):pb P R [.tmp t] Post .ret env H:=aR v (.one (.tmp h)) (.none _) a
theorem Ps:∀b o,R b o->Rx R H b o:=λ_ _ h=>.inl h
end
theorem dQ{a b:Nat}(h:decide ((a:Int)<(b:Int))=true):a<b:=by have:=of_decide_eq_true h;omega
theorem Pm{a b:Nat}(h:decide ((a:Int)<(b:Int))=false):b<=a:=by have:=of_decide_eq_false h;omega
theorem dN{α:Type}{l:List α}{i:Nat}(h:i<l.length):∃x,l[i]? =some x:=⟨_,aaO h⟩
theorem bC{α:Type}{l:List α}{i:Nat}(h:i<l.length):l[i]? =some l[i]:=aaO h
theorem bU{α:Type}{l:List α}{i:Nat}{a:α}(h:l[i]? =some a):a∈l:=aa2 h
theorem bx{p:Prop} [i:Decidable p](h:decide p=true):p:=of_decide_eq_true h
theorem bo{p:Prop} [i:Decidable p](h:decide p=false):¬p:=of_decide_eq_false h
theorem rH{H:aV}:aT H H:=.refl _
theorem aI(is:List Nat){H:aV}:aT H (take is H):=.pick is H
end
section
variable{α:Type}
inductive RP(a b:Nat):List α->List α->Prop
 |refl (xs:List α):RP a b xs xs
 |step {xs ys:List α} {i j:Nat}:RP a b xs ys->a<=i->i<b->a<=j->j<b->b<=ys.length->RP a b xs (swp ys i j)
section
variable{a b a' b':Nat}{xs ys zs:List α}
theorem RP.length(h:RP a b xs ys):ys.length=xs.length:=by
 induction h with
 |refl=>rfl
 |step _ _ _ _ _ _ ih=>rw[jZ,ih]
theorem RP.perm(h:RP a b xs ys):ys.Perm xs:=by
 induction h with
 |refl=>exact .refl _
 |step _ _ _ _ _ _ ih=>exact lz.trans ih
theorem RP.out(h:RP a b xs ys){k:Nat}(c:k<a\/b<=k):ys[k]? =xs[k]? :=by
 induction h with
 |refl=>rfl
 |step _ h1 h2 h3 h4 h5 ih=>rw[fc (by omega) (by omega),aaD (by omega),aaD (by omega),ih]
theorem RP.all(h:RP a b xs ys){p:α->Prop}(f:∀(k:Nat) (x:α),a<=k->k<b->xs[k]? =some x->p x):∀(k:Nat) (x:α),a<=k->k<b->ys[k]? =some x->p x:=by
 induction h with
 |refl=>exact f
 |step _ h1 h2 h3 h4 h5 ih=>
  intro k x d e c
  rw[fc (by omega) (by omega)]at c
  split at c
  ·exact ih _ x h1 h2 c
  ·split at c
   ·exact ih _ x h3 h4 c
   ·exact ih k x d e c
theorem RP.trans(h:RP a b xs ys)(c:RP a b ys zs):RP a b xs zs:=by
 induction c with
 |refl=>exact h
 |step _ h1 h2 h3 h4 h5 ih=>exact .step ih h1 h2 h3 h4 h5
theorem RP.mono(h:RP a b xs ys)(c:a'<=a)(d:b<=b')(e:b'<=xs.length):RP a' b' xs ys:=by
 induction h with
 |refl=>exact .refl _
 |step h0 h1 h2 h3 h4 h5 ih=>exact .step ih (by omega) (by omega) (by omega) (by omega) (by rw[h0.length];omega)
theorem RP.one{i j:Nat}(c:a<=i)(d:i<b)(e:a<=j)(f:j<b)(g:b<=xs.length):RP a b xs (swp xs i j):=.step (.refl xs) c d e f g
end
section
variable{lt:α->α->Bool}{a b a0 b0 mid:Nat}{xs ys zs:List α}
def SR(lt:α->α->Bool)(xs:List α)(a b:Nat):Prop:=∀i j,a<=i->i<j->j<b->gj lt xs i j
def OX(lt:α->α->Bool)(xs:List α)(a0 b0 a b:Nat):Prop:=∀i j,a0<=i->i<j->j<b0->(i<a\/b<=j)->gj lt xs i j
theorem OX.start:OX lt xs a0 b0 a0 b0:=λi j a b c d=>by omega
theorem OX.jX(h:OX lt xs a0 b0 a b)(g:SR lt xs a b):SR lt xs a0 b0:=λi j d c e=>by
 by_cases f:i<a\/b<=j
 ·exact h i j d c e f
 ·exact g i j (by omega) c (by omega)
theorem OX.rp(h:OX lt xs a0 b0 a b)(c:RP a b xs ys)(r:a0<=a)(s:b<=b0):OX lt ys a0 b0 a b:=λi j f n g h4 x y d e=>by
 rcases h4 with h4|h4
 ·rw[c.out (.inl h4)]at d
  by_cases l:j<a\/b<=j
  ·rw[c.out l]at e
   exact h i j f n g (.inl h4) x y d e
  ·exact c.all (p:=λy=>lt y x=false) (λk z o q m=>h i k f (by omega) (by omega) (.inl h4) x z d m) j y (by omega) (by omega) e
 ·rw[c.out (.inr h4)]at e
  by_cases l:i<a\/b<=i
  ·rw[c.out l]at d
   exact h i j f n g (.inr h4) x y d e
  ·exact c.all (p:=λx=>lt y x=false) (λk z o q m=>h k j (by omega) (by omega) g (.inr h4) z y m e) i x (by omega) (by omega) d
structure Part(lt:α->α->Bool)(xs:List α)(a mid b:Nat)(p:α):Prop where
 lo:a<=mid
 hi:mid<b
 at_:xs[mid]? =some p
 left:∀(k:Nat) (x:α),a<=k->k<mid->xs[k]? =some x->lt x p=true
 right:∀(k:Nat) (x:α),mid<k->k<b->xs[k]? =some x->lt x p=false
theorem Part.MO{p:α}(h:Part lt xs a mid b p)(c:RP a mid xs ys):Part lt ys a mid b p:=
 ⟨h.lo,h.hi,by rw[c.out (.inr (abd _))];exact h.at_,c.all h.left,λk x d e f=>h.right k x d e (by rw[<-c.out (.inr (by omega))];exact f)⟩
theorem Part.MP{p:α}(h:Part lt xs a mid b p)(d:RP (mid+1) b xs ys):Part lt ys a mid b p:=
 ⟨h.lo,h.hi,by rw[d.out (.inl (by omega))];exact h.at_,λk x f c e=>h.left k x f c (by rw[<-d.out (.inl (by omega))];exact e),
  λk x f c e=>d.all (p:=λx=>lt x p=false) (λk x i g=>h.right k x (by omega) g) k x (by omega) c e⟩
theorem Part.pair(k:SO lt){p:α}(h:Part lt xs a mid b p){i j:Nat}(l:a<=i)(m:i<j)(e:j<b)(n:i<=mid)(o:mid<=j):gj lt xs i j:=λx y d c=>by
 rcases aaS i mid with hi|hi
 ·have f:=h.left i x l hi d
  rcases aaS mid j with hj|hj
  ·have g:=h.right j y hj e c
   cases hc:lt y x with
   |false=>rfl
   |true=>rw[k.tr _ _ _ hc f]at g;cases g
  ·have:j=mid:=by omega
   subst this
   rw[h.at_]at c;cases c
   exact k.kH f
 ·have:i=mid:=by omega
  subst this
  rw[h.at_]at d;cases d
  exact h.right j y (by omega) e c
theorem OX.left(s:SO lt){p:α}(h:OX lt xs a0 b0 a b)(d:Part lt xs a mid b p)(e:RP a mid xs ys)(r:SR lt ys a mid)(l:a0<=a)(m:b<=b0)(n:b<=xs.length):OX lt ys a0 b0 (mid+1) b:=λi j f c g t=>by
 have o:=h.rp (e.mono (abd a) (Nat.le_of_lt d.hi) n) l m
 have q:=d.MO e
 by_cases k:i<a\/b<=j
 ·exact o i j f c g k
 ·rcases aaS j mid with hj|hj
  ·exact r i j (by omega) c hj
  ·exact q.pair s (by omega) c (by omega) (by omega) hj
theorem OX.right(s:SO lt){p:α}(h:OX lt xs a0 b0 a b)(d:Part lt xs a mid b p)(e:RP (mid+1) b xs ys)(r:SR lt ys (mid+1) b)(l:a0<=a)(m:b<=b0)(n:b<=xs.length):OX lt ys a0 b0 a mid:=λi j f c g t=>by
 have u:=d.lo
 have o:=h.rp (e.mono (by omega) (abd b) n) l m
 have q:=d.MP e
 by_cases k:i<a\/b<=j
 ·exact o i j f c g k
 ·rcases aaS mid i with hi|hi
  ·exact r i j (by omega) c (by omega)
  ·exact q.pair s (by omega) c (by omega) hi (by omega)
structure p3(lt:α->α->Bool)(xs:List α)(a mid b:Nat)(p:α):Prop where
 lo:a<mid
 hi:mid<=b
 left:∀(k:Nat) (x:α),a<=k->k<mid->xs[k]? =some x->lt x p=false/\lt p x=false
 right:∀(k:Nat) (x:α),mid<=k->k<b->xs[k]? =some x->lt p x=true
theorem OX.eqs(g:SO lt){p:α}(h:OX lt xs a0 b0 a b)(e:p3 lt xs a mid b p):OX lt xs a0 b0 mid b:=λi j k l m s=>by
 by_cases n:i<a\/b<=j
 ·exact h i j k l m n
 ·intro x y o f
  obtain⟨q,c⟩:=e.left i x (by omega) (by omega) o
  rcases aaS j mid with hj|hj
  ·obtain⟨d,r⟩:=e.left j y (by omega) hj f
   exact g.gU _ _ _ d c
  ·have d:=e.right j y hj (by omega) f
   cases hc:lt y x with
   |false=>rfl
   |true=>rw[g.tr _ _ _ d hc]at c;cases c
def kZ(lt:α->α->Bool)(xs:List α)(a j n:Nat):Prop:=∀i k,a<=i->i<k->k<n->k≠j->gj lt xs i k
theorem SR.ins(h:SR lt xs a b):kZ lt xs a b (b+1):=λi k c d e f=>h i k c d (by omega)
theorem kZ.done(o:SO lt){j n:Nat}(h:kZ lt xs a j n)(r:n<=xs.length)(q:j<n)(he:j=a\/a<j/\gj lt xs (j-1) j):SR lt xs a n:=λi k b e f=>by
 by_cases c:k=j
 ·subst c
  rcases he with he|⟨p,he⟩
  ·omega
  ·by_cases g:i=k-1
   ·subst g;exact he
   ·intro x y l m
    have d:xs[k-1]? =some (xs[k-1]'(by omega)):=bC _
    exact o.gU _ _ _ (he _ y d m) (h i (k-1) b (by omega) (by omega) (by omega) x _ l d)
 ·exact h i k b e f c
theorem kZ.step(t:SO lt){j n:Nat}(h:kZ lt xs a j n)(A:n<=xs.length)(z:j<n)(w:a<j){x y:α}(r:xs[j]? =some x)(s:xs[j-1]? =some y)(q:lt x y=true):kZ lt (swp xs j (j-1)) a (j-1) n:=λi k f p d e=>by
 have g:=λk=>fc (L:=xs) (i:=j) (k:=j-1) (by omega) (by omega) k
 by_cases b:k=j
 ·subst b
  by_cases c:i=k-1
  ·subst c
   intro u v m o
   rw[g,aaE rfl,r]at m
   rw[g,aaD (by omega),aaE rfl,s]at o
   cases m;cases o
   exact t.kH q
  ·refine(h i (k-1) f (by omega) (by omega) (by omega)).gV ?_ ?_
   ·rw[g,aaD c,aaD (by omega)]
   ·rw[g,aaD (by omega),aaE rfl]
 ·by_cases c:i=j
  ·subst c
   refine(h (i-1) k (by omega) (by omega) d b).gV ?_ ?_
   ·rw[g,aaD (by omega),aaE rfl]
   ·rw[g,aaD e,aaD b]
  ·by_cases l:i=j-1
   ·subst l
    refine(h j k (by omega) (by omega) d b).gV ?_ ?_
    ·rw[g,aaE rfl]
    ·rw[g,aaD e,aaD b]
   ·refine(h i k f p d b).gV ?_ ?_
    ·rw[g,aaD l,aaD c]
    ·rw[g,aaD e,aaD b]
end
end
section
variable{α:Type}
def gi(P:Program)(f:FuncId)(caps:List Value)(R:av)(pk:α->Value)(c:α->α->Int)(ok:α->Prop):Prop:=
 ∀x y,ok x->ok y->∀R',(∀b o,R b o->R' b o)->Spec P f ([pk x,pk y]++caps) R' [] λv H'=>v=.int .i64 (c x y)/\H'=[]
theorem gi.mono{P:Program}{f:FuncId}{caps:List Value}{R R':av}{a:α->Value}{c:α->α->Int}{ok:α->Prop}(h:gi P f caps R a c ok)(i:∀b o,R b o->R' b o):gi P f caps R' a c ok:=λx y j k d e=>h x y j k d λb o g=>e b o (i b o g)
def aA(c:α->α->Int)(x y:α):Bool:=decide (c x y<0)
def jt(lt:α->α->Bool)(L:List α)(n lo:Nat):Prop:=∀k,0<k->k<n->lo<=bR k->gj lt L (bR k) k
structure kk(lt:α->α->Bool)(L:List α)(n lo i:Nat):Prop where
 e:∀k,0<k->k<n->k≠i->bR k≠i->lo<=bR k->gj lt L (bR k) k
 b:∀k,0<k->k<n->bR k=i->0<i->lo<=bR i->gj lt L (bR i) k
 u:0<i->lo<=bR i->gj lt L (bR i) i
section
variable{lt:α->α->Bool}{L:List α}{n i j lo:Nat}
theorem kk.step(E:SO lt)(h:kk lt L n lo i)(G:lo<=i)(t:0<j)(A:j<n)(H:n<=L.length)(q:bR j=i){x y:α}(w:L[j]? =some x)(D:L[i]? =some y)(B:lt x y=true)
  (C:∀c z,0<c->c<n->bR c=i->L[c]? =some z->lt z x=false):kk lt (swp L i j) n lo j:=by
 have F:i<j:=q▸fQ t
 have g:=λk=>fc (L:=L) (i:=i) (k:=j) (by omega) (by omega) k
 refine⟨λk a p f s r=>?_,λk a p s _ r=>?_,λ_ _=>?_⟩
 ·by_cases d:k=i
  ·subst d
   have I:=fQ a
   refine(h.b j t A q a r).gV ?_ ?_
   ·rw[g,aaD (by omega),aaD (by omega)]
   ·rw[g,aaD f,aaE rfl]
  ·by_cases o:bR k=i
   ·intro u v l m
    rw[o,g,aaD (by omega),aaE rfl,w]at l
    rw[g,aaD f,aaD d]at m
    cases l
    exact C k v a p o m
   ·refine(h.e k a p d o r).gV ?_ ?_
    ·rw[g,aaD s,aaD o]
    ·rw[g,aaD f,aaD d]
 ·have f:k≠j:=by have:=fQ a;omega
  have d:k≠i:=by have:=fQ a;omega
  refine(h.e k a p d (by omega) (by omega)).gV ?_ ?_
  ·rw[q,s,g,aaD (by omega),aaE rfl]
  ·rw[g,aaD f,aaD d]
 ·intro u v l m
  rw[q,g,aaD (by omega),aaE rfl,w]at l
  rw[g,aaE rfl,D]at m
  cases l;cases m
  exact E.kH B
theorem kk.stop(h:kk lt L n lo i)(j:∀c,0<c->c<n->bR c=i->gj lt L i c):jt lt L n lo:=λk b d g=>by
 by_cases a:bR k=i
 ·rw[a];exact j k b d a
 ·by_cases f:k=i
  ·subst f;exact h.u b g
  ·exact h.e k b d f a g
theorem jt.hole(h:jt lt L n (lo+1)):kk lt L n lo lo:=
 ⟨λk c b _ f e=>h k c b (by omega),λk _ _ _ a d=>by have:=fQ a;omega,λa d=>by have:=fQ a;omega⟩
theorem jt.vL(h:jt lt L (n+1) 0){b:List α}(c:∀k,0<k->k<n->b[k]? =L[k]?):kk lt b n 0 0:=
 ⟨λk a e _ f _=>by
  have:=fQ a
  exact(h k a (by omega) (Nat.zero_le _)).gV (c _ (by omega) (by omega)) (c _ a e),λk _ _ _ d _=>by omega,λd _=>by omega⟩
theorem jt.top(c:SO lt)(h:jt lt L n 0)(i:n<=L.length){x:α}(g:L[0]? =some x):∀(k:Nat) (y:α),k<n->L[k]? =some y->lt y x=false:=by
 intro k
 induction k using Nat.strongRecOn with
 |_ k ih=>
  intro y e a
  by_cases d:k=0
  ·subst d;rw[g]at a;cases a;exact c.fK _
  ·have f:=fQ (k:=k) (by omega)
   have b:L[bR k]? =some (L[bR k]'(by omega)):=bC _
   exact c.gU _ _ _ (h k (by omega) e (Nat.zero_le _) _ y b a) (ih (bR k) f _ (by omega) b)
theorem SO.rev(c:SO lt):SO (λx y=>lt y x):=⟨c.fK,λx y z a b=>c.tr _ _ _ b a,λx y z a b=>c.gU _ _ _ b a⟩
theorem iH(xs:List α)(f k:Nat):(xs.drop f)[k]? =xs[f+k]? :=by rw[abC]
theorem qk{xs:List α}{f i j:Nat}(c:f+i<xs.length)(d:f+j<xs.length):(swp xs (f+i) (f+j)).drop f=swp (xs.drop f) i j:=by
 apply abl
 intro k
 rw[iH,fc c d,fc (by rw[List.length_drop];omega) (by rw[List.length_drop];omega),iH,iH,iH]
 by_cases a:k=j
 ·subst a;simp
 ·by_cases b:k=i
  ·subst b;simp[a]
  ·rw[aaD (by omega),aaD (by omega),aaD a,aaD b]
theorem OX.last{xs:List α}{a b m:Nat}{x:α}(h:OX lt xs a b a (m+1))(l:a<=m)(q:m+1<=b)(A:b<=xs.length)(t:xs[a]? =some x)(r:∀(k:Nat) (y:α),a<=k->k<=m->xs[k]? =some y->lt x y=false):OX lt (swp xs a m) a b a m:=λi j c f g z=>by
 have d:RP a (m+1) xs (swp xs a m):=RP.one (abd _) (by omega) l (by omega) (by omega)
 by_cases n:m+1<=j
 ·exact h.rp d (abd _) q i j c f g (.inr n)
 ·have:j=m:=by omega
  subst this
  intro u w s e
  rw[fc (by omega) (by omega),aaE rfl,t]at e
  cases e
  exact d.all (p:=λy=>lt x y=false) (λk y o B v=>r k y o (by omega) v) i u c (by omega) s
end
end
section
section
variable{P:Program}{R:av}{env:Env}{H:aV}{ty:TypeId}{x y:Operand}{t u:TypeId}{k k2:IntKind}{m n:Int}
theorem aP.ox(c:ev env x=some (.int k m):=by rfl)(e:ev env y=some (.int k n):=by rfl):aP P R env H (.binOp .and t x y u) ty (.int k (k.wrap (BitVec.ofInt k.bits m&&&BitVec.ofInt k.bits n).toNat)):=λa w d h f g b _ _=>by
 simp[execOp,b.eval c,b.eval e,eqGuard,binOp,Op.intBits]
theorem aP.gq(c:ev env x=some (.int k m):=by rfl)(e:ev env y=some (.int k n):=by rfl):aP P R env H (.binOp .or t x y u) ty (.int k (k.wrap (BitVec.ofInt k.bits m|||BitVec.ofInt k.bits n).toNat)):=λa w d h f g b _ _=>by
 simp[execOp,b.eval c,b.eval e,eqGuard,binOp,Op.intBits]
theorem aP.q7(c:ev env x=some (.int k m):=by rfl)(e:ev env y=some (.int k n):=by rfl):aP P R env H (.binOp .xor t x y u) ty (.int k (k.wrap (BitVec.ofInt k.bits m^^^BitVec.ofInt k.bits n).toNat)):=λa w d h f g b _ _=>by
 simp[execOp,b.eval c,b.eval e,eqGuard,binOp,Op.intBits]
theorem aP.po(c:ev env x=some (.int k m):=by rfl)(e:ev env y=some (.int k2 n):=by rfl)(i:0<=n:=by first|decide|omega):aP P R env H (.binOp .shl t x y u) ty (.int k (k.wrap (m*2^(min n.toNat k.bits)))):=λa w d j f g b _ _=>by
 have h:¬n<0:=by omega
 simp[execOp,b.eval c,b.eval e,eqGuard,binOp,Op.shift,h]
theorem aP.qT(c:ev env x=some (.int k m):=by rfl)(e:ev env y=some (.int k2 n):=by rfl)(i:0<=n:=by first|decide|omega):aP P R env H (.binOp .shr t x y u) ty (.int k (m.fdiv (2^(min n.toNat k.bits)))):=λa w d j f g b _ _=>by
 have h:¬n<0:=by omega
 simp[execOp,b.eval c,b.eval e,eqGuard,binOp,Op.shift,h]
end
theorem nn{z:Int}(a:0<=z)(b:z<18446744073709551616):IntKind.u64.wrap z=z:=by
 have:IntKind.u64.wrap z=z % 18446744073709551616:=by simp[IntKind.wrap,IntKind.bits,IntKind.signed]
 rw[this];omega
theorem yK{z:Int}(a: -9223372036854775808<=z)(b:z<=9223372036854775807):IntKind.i64.wrap z=z:=IntWalk.i64_in _ (by omega)
theorem tL{z q:Int}(a:0<=q)(b:q<18446744073709551616):0<=IntKind.u64.wrap (BitVec.ofInt IntKind.u64.bits z&&&BitVec.ofInt IntKind.u64.bits q).toNat/\IntKind.u64.wrap (BitVec.ofInt IntKind.u64.bits z&&&BitVec.ofInt IntKind.u64.bits q).toNat<=q:=by
 have e:(BitVec.ofInt IntKind.u64.bits q).toNat=q.toNat:=by
  simp[IntKind.bits,BitVec.toNat_ofInt];omega
 have c:(BitVec.ofInt IntKind.u64.bits z&&&BitVec.ofInt IntKind.u64.bits q).toNat<=q.toNat:=by
  rw[BitVec.toNat_and, <-e];exact Nat.and_le_right
 rw[nn (by omega) (by omega)]
 omega
end
section
variable{α:Type}{lt:α->α->Bool}{a b i j:Nat}{xs ys:List α}
def LB(lt:α->α->Bool)(xs:List α)(a b:Nat):Prop:=0<a->∀k,a<=k->k<b->gj lt xs (a-1) k
theorem LB.rp(h:LB lt xs a b)(d:RP a b xs ys):LB lt ys a b:=λf k g i x y e c=>by
 rw[d.out (.inl (by omega))]at e
 exact d.all (p:=λy=>lt y x=false) (λk y j l c=>h f k j l x y e c) k y g i c
theorem SR.snoc(d:SO lt)(h:SR lt xs a i)(c:a<i)(e:i<xs.length)(b:gj lt xs (i-1) i):SR lt xs a (i+1):=h.ins.done d (by omega) (by omega) (.inr ⟨c,b⟩)
theorem SR.yk{p q:Nat}(h:SR lt xs a i)(g:i<=p)(j:i<=q)(b:p<xs.length)(c:q<xs.length):SR lt (swp xs p q) a i:=λu w d e f=>
 (h u w d e f).gV (by rw[fc b c,aaD (by omega),aaD (by omega)]) (by rw[fc b c,aaD (by omega),aaD (by omega)])
theorem SR.yj(h:SR lt xs a i)(b:i<xs.length):kZ lt (swp xs i (i-1)) a (i-1) i:=λu w c d e f=>
 (h u w c d e).gV (by rw[fc b (by omega),aaD (by omega),aaD (by omega)]) (by rw[fc b (by omega),aaD (by omega),aaD (by omega)])
theorem OX.lb{c d:Nat}(h:OX lt xs c d a b)(i:LB lt xs c d)(l:c<=a)(m:b<=d):LB lt xs a b:=λe k f j=>by
 by_cases g:a=c
 ·subst g;exact i e k f (by omega)
 ·exact h (a-1) k (by omega) (by omega) (by omega) (.inl (by omega))
end
section
section
variable{α:Type}{lt:α->α->Bool}{q:α->Bool}{ys:List α}{a b i j:Nat}{p:α}
structure PQ(q:α->Bool)(ys:List α)(a i j b:Nat)(p:α):Prop where
 i0:a<i
 ij:i<=j+1
 jb:j<b
 at_:ys[a]? =some p
 left:∀(k:Nat) (x:α),a<k->k<i->ys[k]? =some x->q x=true
 right:∀(k:Nat) (x:α),j<k->k<b->ys[k]? =some x->q x=false
theorem PQ.start(e:a<b)(h:ys[a]? =some p):PQ q ys a (a+1) (b-1) b p:=
 ⟨Nat.lt_succ_self _,by omega,by omega,h,λk x c d=>by omega,λk x c d=>by omega⟩
theorem PQ.inc(h:PQ q ys a i j b p)(l:i<=j){x:α}(f:ys[i]? =some x)(e:q x=true):PQ q ys a (i+1) j b p:=
 ⟨by have:=h.i0;omega,by omega,h.jb,h.at_,λk y d g c=>by
  rcases aaS k i with hk|hk
  ·exact h.left k y d hk c
  ·have:k=i:=by omega
   subst this
   rw[f]at c;cases c;exact e,h.right⟩
theorem PQ.dec(h:PQ q ys a i j b p)(l:i<=j){x:α}(f:ys[j]? =some x)(e:q x=false):PQ q ys a i (j-1) b p:=
 ⟨h.i0,by have:=h.i0;omega,by have:=h.jb;omega,h.at_,h.left,λk y g d c=>by
  rcases aaS j k with hk|hk
  ·exact h.right k y hk d c
  ·have:k=j:=by omega
   subst this
   rw[f]at c;cases c;exact e⟩
theorem PQ.sw(h:PQ q ys a i j b p)(s:i<=j)(t:b<=ys.length){x y:α}(r:ys[i]? =some x)(l:ys[j]? =some y)(o:q x=false)(f:q y=true):i<j/\PQ q (swp ys i j) a (i+1) (j-1) b p:=by
 have v:=h.i0
 have w:=h.jb
 have u:i≠j:=λe=>by
  subst e
  rw[r]at l;cases l
  rw[o]at f;cases f
 have g:=λk=>fc (L:=ys) (i:=i) (k:=j) (by omega) (by omega) k
 refine⟨by omega,by omega,by omega,by omega,?_,λk z m n c=>?_,λk z m n c=>?_⟩
 ·rw[g,aaD (by omega),aaD (by omega)];exact h.at_
 ·rw[g,aaD (by omega)]at c
  by_cases d:k=i
  ·rw[aaE d,l]at c;cases c;exact f
  ·rw[aaD d]at c;exact h.left k z m (by omega) c
 ·rw[g]at c
  by_cases d:k=j
  ·rw[aaE d,r]at c;cases c;exact o
  ·rw[aaD d,aaD (by omega)]at c;exact h.right k z (by omega) n c
theorem PQ.fin(h:PQ (λx=>lt x p) ys a i j b p)(m:j<i)(n:b<=ys.length):Part lt (swp ys j a) a j b p:=by
 have o:=h.i0
 have q:=h.ij
 have l:=h.jb
 have g:=λk=>fc (L:=ys) (i:=j) (k:=a) (by omega) (by omega) k
 refine⟨by omega,l,?_,λk z e f c=>?_,λk z e f c=>?_⟩
 ·rw[g]
  by_cases d:j=a
  ·rw[aaE d,d];exact h.at_
  ·rw[aaD d,aaE rfl];exact h.at_
 ·rw[g]at c
  by_cases d:k=a
  ·rw[aaE d]at c
   exact h.left j z (by omega) (by omega) c
  ·rw[aaD d,aaD (by omega)]at c
   exact h.left k z (by omega) (by omega) c
 ·rw[g,aaD (by omega),aaD (by omega)]at c
  exact h.right k z e f c
theorem PQ.vl(m:SO lt)(h:PQ (λx=> !lt p x) ys a i j b p)(n:j<i)(g:∀(k:Nat) (x:α),a<=k->k<b->ys[k]? =some x->lt x p=false):p3 lt ys a i b p:=by
 have l:=h.i0
 have o:=h.ij
 have q:=h.jb
 refine⟨l,by omega,λk z e d c=>⟨g k z e (by omega) c,?_⟩,λk z e d c=>?_⟩
 ·by_cases f:k=a
  ·subst f
   rw[h.at_]at c;cases c;exact m.fK _
  ·simpa using h.left k z (by omega) d c
 ·simpa using h.right k z (by omega) d c
theorem Part.lb(h:Part lt ys a j b p):LB lt ys (j+1) b:=λ_ k d e x y c f=>by
 rw[Nat.add_sub_cancel,h.at_]at c
 cases c
 exact h.right k y d e f
theorem LB.less(h:LB lt ys a b){c:Nat}(g:c<=b):LB lt ys a c:=λd k e f=>h d k e (by omega)
theorem LB.wB(j:SO lt)(h:LB lt ys a b)(c:0<a){x:α}(g:ys[a-1]? =some x)(f:lt x p=false):∀(k:Nat) (y:α),a<=k->k<b->ys[k]? =some y->lt y p=false:=λk y d e i=>
 j.gU _ _ _ (h c k d e x y g i) f
end
end
section
variable{κ β:Type} [DecidableEq κ]
def oq(Rd:av)(encK:κ->Value)(encV:β->Value)(m:Value)(M:List (κ×β))(it:Value)(todo:List κ)(k:κ)(u:β)(Ti:ax):Prop:=
 ∃(b:Nat) (es:Array MapEntry) (clock r:Nat) (seen:Array Nat) (e:MapEntry),m=.map (some b)/\Rd b (.map es clock)/\gH encK encV es clock M/\it=pT r/\Ti=[(r,.mapIter (some b) clock (seen.push e.born) clock)]/\e∈es.toList/\e.key=encK k/\e.val=encV u/\
  todo=((es.toList.zip M).filter λp=> !(seen.push e.born).contains p.1.born).map (·.2.1)
omit [DecidableEq κ] in
theorem oq.it{a:av}{encK:κ->Value}{d:β->Value}{m:Value}{M:List (κ×β)}{it:Value}{todo:List κ}{k:κ}{u:β}{c:ax}(h:oq a encK d m M it todo k u c):It a encK d m M it todo c:=by
 obtain⟨b,g,f,r,q,e,i,j,l,n,o,s,t,v,p⟩:=h
 exact⟨b,g,f,r,q.push e.born,i,j,l,n,o,p⟩
theorem vw(e:MapEntry):∀(l:List MapEntry),(l.map (·.born)).Nodup->e∈l->l.find? (·.born==e.born)=some e
 |[],_,h=>by cases h
 |x::l,hn,h=>by
  have a:=abc.1 hn
  rcases aaK.1 h with rfl|h
  ·simp
  ·have:x.born≠e.born:=λb=>a.1 (aaP.2 ⟨e,h,b.symm⟩)
   simp[this,vw e l a.2 h]
section
variable{P:Program}{N:Nat}{R:av}{ops:Array Oper}{l:List Oper}{env:Env}{H:aV}{K:Env->aV->Prop}{ty:TypeId}{pos:String}{af:Array Edge}{m:Bool}
variable{encK:κ->Value}{encV:β->Value}{mp:Value}{M:List (κ×β)}{T:ax}{upd:ax->aV}
theorem aG.Le{d:Nat}{x:Operand}{Rd:av}{it:Value}{todo:List κ}{Ti:ax}(h:It Rd encK encV mp M it todo Ti) [sa:fm H Ti upd](hrd:∀b o,Rd b o->Rx R H b o)(hx:ev env x=some it)
  (h0:todo=[]->aG false P N R ops l ((d,.tuple [.bool false].toArray)::env) H K)
  (hn:∀k u Ti',k∈todo->aU k M=some u->oq Rd encK encV mp M it (todo.filter λk'=>decide (k'≠k)) k u Ti'->aG false P N R ops l ((d,.tuple [.bool true,encK k,encV u].toArray)::env) (upd Ti') K)(hd:Nat.blt d N=true:=by rfl):
  aG false P N R ops (⟨some d,.next x false,ty,pos,af,none⟩::l) env H K:=
 aG.l8 hd λa w ha s ro=>by
  obtain⟨b,es,clock,r,seen,rfl,h2,h3,rfl,rfl,h6⟩:=h
  obtain⟨H1,H2,e1,e2⟩:=sa.h
  have hb:=nj s ro _ _ (hrd _ _ h2)
  subst e1
  have hr:w.heap[r]? =some (.mapIter (some b) clock seen clock):=s.2 (r,_) (by simp)
  have hgi:(getObj r).run P w=.ok (.mapIter (some b) clock seen clock) w:=by simp[getObj,Sem.run,hr]
  have hl:=h3.jg.length
  have hbo:=h3.born
  -- what may come
  have hleft:es.filter (λe=> !seen.contains e.born)=((es.toList.filter λe=> !seen.contains e.born)).toArray:=by
   apply Array.toList_inj.1;rw[Array.toList_filter]
  have htodo:(es.toList.filter λe=> !seen.contains e.born).length=todo.length:=by
   rw[h6,abk]
   have:((es.toList.zip M).filter λp=> !seen.contains p.1.born).length=(((es.toList.zip M).map (·.1)).filter λe=> !seen.contains e.born).length:=by
    rw[List.filter_map,abk];rfl
   rw[this,List.map_fst_zip (by omega)]
  have hguard:(!seen.isEmpty&& !es.isEmpty&&es.all (λe=>decide (e.born≥clock)))=false:=by
   cases hes:es.toList with
   |nil=>
    have:es= #[]:=by simpa using hes
    simp[this]
   |cons e rest=>
    have h1:=hbo e (by rw[hes];simp)
    have:es.all (λe=>decide (e.born≥clock))=false:=by
     rw[<-Array.all_toList,hes]
     simp;omega
    rw[this,Bool.and_false]
  have hold:(es.filter λe=> !seen.contains e.born).filter (λe=>decide (e.born<clock))=es.filter λe=> !seen.contains e.born:=by
   rw[Array.filter_eq_self]
   intro e he
   have:=hbo e (by simpa using(abv.1 he).1)
   simpa using this
  have hnew:(es.filter λe=> !seen.contains e.born).filter (λe=>decide (e.born≥clock))= #[]:=by
   rw[Array.filter_eq_empty_iff]
   intro e he
   have:=hbo e (by simpa using(abv.1 he).1)
   simpa using this
  by_cases ht:todo=[]
  ·refine⟨.tuple #[.bool false],w,_,?_,Frame.refl _ _,s,h0 ht⟩
   have he:es.filter (λe=> !seen.contains e.born)= #[]:=by
    rw[hleft]
    have:(es.toList.filter λe=> !seen.contains e.born)=[]:=abg (by rw[htodo,ht];rfl)
    rw[this]
   have hc:(choose (.mapNext 1)).run P w=.ok 0 w:=by simp[choose,Sem.run,Question.forced]
   simp only[execOp,ha.eval hx,Instr.next,Sem.run_bind,hgi,lv hb,Result.andThen_ok,hguard,aaH,aaG,he]
   simp[hc]
  ·have hne:(es.filter λe=> !seen.contains e.born).isEmpty=false:=by
    rw[hleft]
    cases hf:(es.toList.filter λe=> !seen.contains e.born)with
    |nil=>rw[hf]at htodo;exact absurd (abg htodo.symm) ht
    |cons _ _=>rfl
   have hpos:0<todo.length:=abF.2 ht
   have hsz:(es.filter λe=> !seen.contains e.born).size=todo.length:=by rw[hleft];simpa using htodo
   obtain⟨n,w1,hc,hlt,hw1⟩:∃n w1,(choose (.mapNext todo.length)).run P w=.ok n w1/\n<todo.length/\∃q,w1={w with drawn:=q}:=by
    by_cases h1:todo.length<=1
    ·exact⟨0,w,by simp[choose,Sem.run,Question.forced,h1],hpos,w.drawn,rfl⟩
    ·exact⟨_,_,by simp only[choose,Sem.run,Question.forced,h1,aa3,aaH,aaG];rfl,by simp only[Question.cut];exact Nat.mod_lt _ hpos,_,rfl⟩
   obtain⟨q,rfl⟩:=hw1
   have hn':n<(es.toList.filter λe=> !seen.contains e.born).length:=by rw[htodo];exact hlt
   generalize he:(es.toList.filter λe=> !seen.contains e.born)[n]=e
   have hem:e∈es.toList.filter λe=> !seen.contains e.born:=he▸abw hn'
   obtain⟨hes,hns⟩:=abm.1 hem
   obtain⟨j,hj,hje⟩:=aa5.1 hes
   have hjM:j<M.length:=by omega
   have hpair:(e.key,e.val)=(encK M[j].1,encV M[j].2):=by
    have:=aaM (λl:List (Value×Value)=>l[j]?) h3.jg
    simp only[aaN,bC hj,bC hjM,aaQ,abq,hje]at this
    exact this
   injection hpair with hp1 hp2
   have hzip:(e,M[j])∈es.toList.zip M:=by
    refine aa5.2 ⟨j,by rw[abx];omega,?_⟩
    simp only[aby,hje]
   have hkt:M[j].1∈todo:=by
    rw[h6]
    exact aaP.2 ⟨(e,M[j]),abm.2 ⟨hzip,hns⟩,rfl⟩
   have hget:aU M[j].1 M=some M[j].2:=gC h3.nd (abw hjM)
   have hrun:(execOp a.eval ⟨some d,.next x false,ty,pos,af,none⟩).run P w=.ok (.value (.tuple #[.bool true,e.key,e.val])) (eC {w with drawn:=q} r (.mapIter (some b) clock (seen.push e.born) clock)):=by
    have hcand:∀(A:Array MapEntry),A.isEmpty=false->(if A.isEmpty=true then #[none]else #[])++(A++ #[]).map some=A.map some:=λA hA=>by simp[hA]
    have hget2:((es.filter λe=> !seen.contains e.born).map some)[n]? =some (some e):=by
     rw[hleft]
     simp only[List.map_toArray,aaL,aaN,bC hn',he,aaQ]
    have hset:(setObj r (.mapIter (some b) clock (seen.push e.born) clock)).run P {w with drawn:=q}=.ok () (eC {w with drawn:=q} r (.mapIter (some b) clock (seen.push e.born) clock)):=by
     have:({w with drawn:=q}:World).heap[r]? =some (.mapIter (some b) clock seen clock):=hr
     simp[setObj,Sem.run,this,eC]
    simp only[execOp,ha.eval hx,Instr.next,Sem.run_bind,hgi,lv hb,Result.andThen_ok,hguard,aaH,aaG,hold,hnew]
    rw[hcand _ hne]
    simp only[Array.size_map,hsz,hc,Result.andThen_ok,hget2,Sem.run_bind,hset,Sem.run_pure]
   obtain⟨f,s'⟩:=lS (w:={w with drawn:=q}) (o':=.mapIter (some b) clock (seen.push e.born) clock) (s.drew q)
   refine⟨_,_,upd [(r,.mapIter (some b) clock (seen.push e.born) clock)],hrun,by rw[e2];exact(Frame.drew w _ q).trans f,by rw[e2];exact s',?_⟩
   rw[hp1,hp2]
   refine hn M[j].1 M[j].2 _ hkt hget ⟨b,es,clock,r,seen,e,rfl,h2,h3,rfl,rfl,hes,hp1,hp2,?_⟩
   rw[h6]
   -- the one that came is no more to come, all others are
   have key:∀(l:List (MapEntry×(κ×β))),(∀p∈l,(p.1.born=e.born↔p.2.1=M[j].1))->
     ((l.filter λp=> !seen.contains p.1.born).map (·.2.1)).filter (λk'=>decide (k'≠M[j].1))=(l.filter λp=> !(seen.push e.born).contains p.1.born).map (·.2.1):=by
    intro l
    induction l with
    |nil=>intro _;rfl
    |cons p l ih=>
     intro hp
     have h1:=hp p (by simp)
     have h2:=ih λq hq=>hp q (by simp[hq])
     simp only[abz]at h2
     simp only[aaR,abz]
     by_cases hc:seen.contains p.1.born=true
     ·simp only[hc,abb,aaH,aaG,Bool.true_or];exact h2
     ·simp only[Bool.not_eq_true]at hc
      simp only[hc,aa7,aaJ,Bool.false_or,aaF,aaR]
      by_cases hb:p.1.born=e.born
      ·have:=h1.1 hb
       simp only[this,ne_eq,not_true,aa3,aaH,aaG,hb,abG,abb];simpa only[ne_eq]using h2
      ·have hk:¬p.2.1=M[j].1:=λhk=>hb (h1.2 hk)
       have hb':(p.1.born==e.born)=false:=by simpa using hb
       simp only[hk,ne_eq,abj,decide_true,aaJ,hb',aa7,aaF]
       exact aaM _ (by simpa only[ne_eq]using h2)
   refine key _ λp hp=>?_
   obtain⟨i,hi,hpi⟩:=aa5.1 hp
   have hi':i<es.toList.length:=by simp only[abx]at hi;omega
   have hiM:i<M.length:=by omega
   rw[aby]at hpi
   subst hpi
   simp only
   constructor
   ·intro hb
    have:i=j:=(abA (h:=h3.km) (i:=i) (j:=j) (h₀:=by simpa using hi') (h₁:=by simpa using hj)).1 (by rw[aaW,aaW,hb,hje])
    subst this;rfl
   ·intro hk
    have:i=j:=(abA (h:=h3.nd) (i:=i) (j:=j) (h₀:=by simpa using hiM) (h₁:=by simpa using hjM)).1 (by rw[aaW,aaW];exact hk)
    subst this;rw[hje]
omit [DecidableEq κ] in
theorem aP.entry{x:Operand}{c:av}{l:Value}{todo:List κ}{k:κ}{u:β}{f:ax}(h:oq c encK encV mp M l todo k u f) [F:fm H f upd](C:∀b o,c b o->Rx R H b o)(D:ev env x=some l):
  aP P R env H (.entry x) ty (.tuple [encK k,encV u].toArray):=λa w d O K g y s E=>by
 obtain⟨b,j,i,r,G,e,rfl,n,p,rfl,rfl,q,t,v,N⟩:=h
 obtain⟨I,J,m,L⟩:=F.h
 have z:=nj s E _ _ (C _ _ n)
 subst m
 have B:w.heap[r]? =some (.mapIter (some b) i (G.push e.born) i):=s.2 (r,_) (by simp)
 have A:j.find? (·.born==e.born)=some e:=by rw[<-Array.find?_toList];exact vw e j.toList p.km q
 rw[<-t, <-v]
 simp only[execOp,y.eval D,Instr.entry,getObj,Sem.run_bind,Sem.run,B,z,Result.andThen,Array.back?_push,bne_self_eq_false,aaH,aaG,A]
 rfl
theorem fm.same{H:aV}{T:ax}{a:ax->aV}(s:fm H T a):a T=H:=by
 obtain⟨d,e,b,c⟩:=s.h
 rw[c,b]
theorem aG.nf{d:Nat}{x:Operand}{a:av}{f:Value}{todo:List κ}{c:ax}(h:It a encK encV mp M f todo c) [s:fm H c upd](p:∀b o,a b o->Rx R H b o)(r:ev env x=some f)
  (g:∀(b:Bool) (rest:List Value) (Ti':ax),(b=false->todo=[])->(b=true->∃k u,k∈todo/\aU k M=some u/\oq a encK encV mp M f (todo.filter λk'=>decide (k'≠k)) k u Ti')->aG false P N R ops l ((d,.tuple (.bool b::rest).toArray)::env) (upd Ti') K)(m:Nat.blt d N=true:=by rfl):
  aG false P N R ops (⟨some d,.next x false,ty,pos,af,none⟩::l) env H K:=
 aG.Le h p r
  (λi=>by
   have:=g false [] c (λ_=>i) (λe=>by cases e)
   rw[s.same]at this
   exact this)
  (λk u Ti' n q j=>g true [encK k,encV u] Ti' (λe=>by cases e) (λ_=>⟨k,u,n,q,j⟩)) m
end
theorem mP{A B:ax}{b:Nat}{o:Obj}(h:sg A b o):sg (A++B) b o:=abM B h
theorem kU{A B:ax}{b:Nat}{o:Obj}(h:sg B b o):sg (A++B) b o:=List.mem_append_right A h
theorem SR.ordered{α:Type}{lt:α->α->Bool}{ys:List α}(h:SR lt ys 0 ys.length):ys.Pairwise λp r=>lt r p=false:=by
 rw[List.pairwise_iff_getElem]
 intro i j b a c
 exact h i j (Nat.zero_le _) c a _ _ (bC b) (bC a)
theorem RA.gg{P:Program}{N:Nat}{R:av}{a:Array Oper}{env:Env}{H g:aV}{e:List Nat}{K:Env->aV->Prop}{f:List Nat}{d j t:Nat}{h b c:Bool}{op:Op}{ty:TypeId}{u:String}{k:Array Edge}(i:Nat)(o:a[i]? =some ⟨some d,op,ty,u,k,some (j,h)⟩)(r:Env.get? env t=some (.bool b))(l:b=c)(s:(c==h)=false)
  (m:tk false a e f i=true)(q:RA P N R a g e (i::f) ((d,undef)::env) H K)(p:jQ a j=some t:=by rfl)(n:Nat.blt d N=true:=by rfl):RA P N R a g e f env H K:=
 RA.lA i o r (by rw[l];exact s) m q p n
end
section
section
variable{P:Program}{N:Nat}{R R':av}{ops:Array Oper}{l:List Oper}{env:Env}{H:aV}{K:Env->aV->Prop}{T:ax}{upd:ax->aV}
theorem Spec.zf{f:FuncId}{m:List Value}{H1 H2:aV}{T:ax}{Post:Value->ax->Prop}(h:Spec P f m (Rx R (H1++H2)) [T] λv H'=>∃T',H'=[T']/\Post v T'):Spec P f m R (H1++T::H2) λv H'=>∃T',H'=H1++T'::H2/\Post v T':=λw C s=>by
 have g:(H1++T::H2).flatten.Perm ([T]++(H1++H2)).flatten:=by
  simp only[aaY,aaX,abB,aaT]
  rw[<-aaI, <-aaI]
  exact aa6.append_right _
 have k:Sat w ([T]++(H1++H2)):=C.perm g
 have y:take [0] ([T]++(H1++H2))=[T]:=rfl
 have n:rest [0] ([T]++(H1++H2))=H1++H2:=rfl
 have E:RO w R ([T]++(H1++H2)):=λb o d=>⟨(s b o d).1,λp c=>(s b o d).2 p (g.mem_iff.2 c)⟩
 obtain⟨u,F,x⟩:=mv (is:=[0]) k
 have l:=RO.split (is:=[0]) k E
 rw[y]at u l x;rw[n]at l F x
 refine(h w u l).mono λe G ⟨v,H',i,⟨T',z,j⟩,D,A⟩=>?_
 subst z
 obtain⟨t,a⟩:=nl (is:=[0]) (H':=[T']) k D A
 rw[n]at t a
 have r:([T']++(H1++H2)).flatten.Perm (H1++T'::H2).flatten:=by
  simp only[aaY,aaX,abB,aaT]
  rw[<-aaI, <-aaI]
  exact aa6.append_right _
 refine⟨v,_,i,⟨T',rfl,j⟩,t.perm r,⟨a.le,λb d B=>a.iK b d λp c=>B p (g.mem_iff.2 c),λp c=>?_,a.os,a.output,a.tape⟩⟩
 rcases a.kL p (r.mem_iff.2 c)with⟨q,j,i⟩|hge
 ·exact .inl ⟨q,g.mem_iff.2 j,i⟩
 ·exact .inr hge
theorem aG.zM{dst:Option Nat}{op:Op}{ty:TypeId}{g:String}{c:Array Edge}{f:FuncId}{vs:List Value}{Post:Value->ax->Prop} [n:fm H T upd]
  (m:∀a w,eW a env->(execOp a.eval ⟨dst,op,ty,g,c,none⟩).run P w=.ok (.enter f vs.toArray) w)
  (k:Spec P f vs (Rx R (upd [])) [T] λv H'=>∃T',H'=[T']/\Post v T')
  (j:∀v T',Post v T'->match dst with
   |some d=>Nat.blt d N=true/\aG false P N R ops l ((d,v)::env) (upd T') K
   |none=>aG false P N R ops l env (upd T') K):
  aG false P N R ops (⟨dst,op,ty,g,c,none⟩::l) env H K:=by
 obtain⟨H1,H2,i,e⟩:=n.h
 refine .qe (H.map λ_=>0) (Post:=λv H'=>∃T',H'=H1++T'::H2/\Post v T') m ?_ ?_
 ·rw[qV,nV,i]
  refine Spec.zf (H1:=H1) (H2:=H2) (k.weaken λb o hb=>?_)
  rw[e]at hb
  rcases hb with hb|hb
  ·exact .inl (.inl hb)
  ·exact .inr (by simpa using hb)
 ·intro v H' ⟨T',e1,e2⟩
  rw[nV,aaT,e1, <-e]
  exact j v T' e2
theorem aG.jO{d:Nat}{ty:TypeId}{m:String}{b:Array Edge}{f:FuncId} [e:ay P f]{xs:List Operand}{c:Array TypeId}{vs:List Value}{Post:Value->ax->Prop} [n:fm H T upd]
  (k:Spec P f vs (Rx R (upd [])) [T] λv H'=>∃T',H'=[T']/\Post v T')(i:∀v T',Post v T'->aG false P N R ops l ((d,v)::env) (upd T') K)(hxs:hN env xs=some vs:=by rfl)(h:Nat.blt d N=true:=by rfl):
  aG false P N R ops (⟨some d,.call ⟨.value (.func f),xs.toArray,c⟩,ty,m,b,none⟩::l) env H K:=
 aG.zM (λa w g=>sK hxs a w g) k (λv T' j=>⟨h,i v T' j⟩)
theorem aT.open_{S:aV}(i:Nat)(a:H.getD i []=S.flatten):aT H (S++aZ i H):=⟨[],by rw[aaT,aaY, <-a];exact rL i H⟩
end
end
section
section
variable{P:Program}{N:Nat}{R:av}{env:Env}{H:aV}{Q:Exit->Env->aV->Prop}
theorem bQ.ml{X:Type}{c:Code}{G:aV}(E:Env)(I:X->Prop)(e:X->Env->Env)(h:X->aV->aV)(μ:X->Nat)(a:X)(b:I a)(d:bh env (e a E))(f:aT H (h a G))
  (g:∀x,I x->bQ P N R c (e x E) (h x G) (oY (λenv' H'=>∃x',I x'/\μ x'<μ x/\bh env' (e x' E)/\aT H' (h x' G)) Q)):bQ P N R (.loop c) env H Q:=
 bQ.loop I (λx=>e x E) (λx=>h x G) μ a b d f g
theorem bQ.ld{X:Type}{c:Code}(E:Env)(d:bh env E)(I:X->Prop)(e:X->Env->Env)(h:X->aV)(b:bQ P N R c env H (qu I (λx=>e x E) h Q))(a:∀x,I x->Q .normal (e x E) (h x)):bQ P N R c env H Q:=
 bQ.cut I (λx=>e x E) h b a
theorem aT.Ld:aT H ([]::H):=⟨[],by simp⟩
theorem bh.m1{c:Env}{t:Nat}{b a:Bool}(h:bh env c)(d:Env.get? env t=some (.bool b))(e:b=a):bh env ((t,.bool a)::c):=h.cons (e▸d)
theorem jM.lJ{d e f g i:ResultVar}{j k l m n:Value}(u:RV R H env P d j)(v:RV R H env P e k)(x:RV R H env P f l)(y:RV R H env P g m)(z:RV R H env P i n):jM P R [d,e,f,g,i] env H (.tuple #[j,k,l,m,n]):=λa w B A b s c=>by
 have o:=u.h a w b s c
 have p:=v.h a w b s c
 have q:=x.h a w b s c
 have r:=y.h a w b s c
 have t:=z.h a w b s c
 rw[qH,A]
 simp[o,p,q,r,t]
end
end
section
set_option linter.unusedVariables false
section
variable{κ β:Type} [DecidableEq κ]
variable{P:Program}{N:Nat}{R:av}{ops:Array Oper}{l:List Oper}{env:Env}{H:aV}{K:Env->aV->Prop}{T:ax}{upd:ax->aV}{ty:TypeId}{pos:String}{af:Array Edge}
variable{encK:κ->Value}{encV:β->Value}{mp:Value}{M:List (κ×β)}
theorem aP.vZ{x y:Operand}{t kt a:TypeId}{z v:Value}{key:κ}(h:RM (Rx R H) encK encV mp M)(c:ev env x=some mp)(d:ev env y=some (encK key))(b:((aU key M).map encV).getD z=v) [ut:bP P t (.map kt a)] [e:iS P kt encK] [f:Zr P a z]:
  aP P R env H (.lookup t x y false) ty v:=b▸aP.K4 h c d
theorem aP.u64{op:Op}{z:Int}(c:Int)(h:aP P R env H op ty (.int .u64 (IntKind.u64.wrap z)))(e:z=c/\0<=c/\c<=18446744073709551615):aP P R env H op ty (.int .u64 c):=by
 obtain⟨rfl,b,d⟩:=e
 have a:IntKind.u64.wrap z=z:=by
  simp[IntKind.wrap,IntKind.bits,IntKind.signed]
  omega
 rw[a]at h
 exact h
end
section
variable{α:Type}{lt:α->α->Bool}
def dh(lt:α->α->Bool)(p:α):List α->List α
 |[]=>[p]
 |r::L=>if lt p r then p::r::L else r::dh lt p L
theorem vH{p:α}:∀{X Y:List α},X.any (lt p)=true->dh lt p (X++Y)=dh lt p X++Y
 |[],Y,h=>by simp at h
 |r::X,Y,h=>by
  simp only[abn,dh]
  split
  ·rfl
  ·rename_i a
   have:X.any (lt p)=true:=by simpa[a]using h
   rw[vH this];rfl
theorem rX{p:α}:∀{X Y:List α},X.any (lt p)=false->dh lt p (X++Y)=X++dh lt p Y
 |[],Y,h=>rfl
 |r::X,Y,h=>by
  simp only[List.any_cons,Bool.or_eq_false_iff]at h
  simp only[abn,dh,h.1]
  rw[rX h.2];rfl
theorem eT{p:α}:∀{L:List α},(dh lt p L).Perm (p::L)
 |[]=>.refl _
 |r::L=>by
  simp only[dh]
  split
  ·exact .refl _
  ·exact((eT (L:=L)).cons r).trans (List.Perm.swap p r L)
theorem nE(c:∀x y z,lt x y=true->lt y z=true->lt x z=true){p:α}:∀{L:List α},(L.Pairwise λx y=>lt x y=true)->(∀y∈L,lt p y=true\/lt y p=true)->(dh lt p L).Pairwise λx y=>lt x y=true
 |[],_,_=>by simp[dh]
 |r::L,h,hp=>by
  have b:=abN.1 h
  simp only[dh]
  split
  ·rename_i a
   refine abN.2 ⟨λx hx=>?_,h⟩
   rcases aaK.1 hx with rfl|hx
   ·exact a
   ·exact c _ _ _ a (b.1 x hx)
  ·rename_i a
   refine abN.2 ⟨λx hx=>?_,nE c b.2 λy d=>hp y (by simp[d])⟩
   rcases aaK.1 (eT.mem_iff.1 hx)with rfl|hx
   ·rcases hp r (by simp)with h2|h2
    ·exact absurd h2 a
    ·exact h2
   ·exact b.1 x hx
theorem jR{p:α}{L:List α}(h:L.any (lt p)=false):dh lt p L=L++[p]:=by
 have:=rX (Y:=[]) h
 simpa[dh]using this
theorem dX{p:α}{L:List α}:(dh lt p L).length=L.length+1:=by
 simpa using(eT (lt:=lt) (p:=p) (L:=L)).length_eq
def cU(lt:α->α->Bool)(p:α)(X:List α):List α:=if X.any (lt p)then dh lt p X else X
theorem lK{p:α}{X:List α}:(cU lt p X).length<=X.length+1:=by
 unfold cU
 split
 ·rw[dX];omega
 ·omega
def jh(lt:α->α->Bool)(p:α)(X:List α)(x:α):List α:=cU lt p X++if !X.any (lt p)&&lt p x then [p]else []
theorem rV{p x:α}{L:List α}{i:Nat}(a:L[i]? =some x):(L.take (i+1)).any (lt p)=((L.take i).any (lt p)||lt p x):=by
 rw[List.take_add_one,a];simp
theorem oT{p x:α}{L:List α}{i:Nat}(b:L[i]? =some x):jh lt p (L.take i) x++[x]=cU lt p (L.take (i+1)):=by
 have c:=rV (lt:=lt) (p:=p) b
 have a:L.take (i+1)=L.take i++[x]:=by rw[List.take_add_one,b];rfl
 unfold jh cU
 rw[c]
 cases h:(L.take i).any (lt p)with
 |true=>simp[a,vH h]
 |false=>
  cases h':lt p x with
  |true=>simp[a,rX h,dh,h']
  |false=>simp[a]
theorem mI{p x:α}{L:List α}{i:Nat}(c:L[i]? =some x)(b:(!(L.take i).any (lt p))=true)(a:lt p x=true):jh lt p (L.take i) x=cU lt p (L.take i)++[p]/\(L.take (i+1)).any (lt p)=true:=by
 refine⟨?_,by rw[rV c,a,Bool.or_true]⟩
 unfold jh
 rw[b,a];rfl
theorem im{p x:α}{L:List α}{i:Nat}(c:L[i]? =some x)(b:(!(L.take i).any (lt p))=false\/lt p x=false):jh lt p (L.take i) x=cU lt p (L.take i)/\(L.take (i+1)).any (lt p)=(L.take i).any (lt p):=by
 rw[rV c]
 unfold jh
 rcases b with h|h
 ·have a:(L.take i).any (lt p)=true:=by simpa using h
  simp[a]
 ·simp[h]
end
end
end Go.Proofs.YtkkmbiojicgobaaGreatDoor

/- What the law 'ExpandRight' uses. No condition. -/
import Derived.IntWalk
import Derived.Test.YtenilfmlfldogaaGreatDoorKExpandRightA
set_option linter.unusedVariables false
namespace Go.Proofs.YtenilfmlfldogaaGreatDoor
set_option linter.defProp false
def aa6:=@if_neg
def aa7:=@if_pos
def aa8:=@List.map_cons
def aa9:=@List.append_assoc
def aba:=@if_false
def abb:=@Bool.false_eq_true
def abc:=@List.mem_cons
def abd:=@if_true
def abe:=@congrArg
def abf:=@List.getElem?_map
def abg:=@Nat.lt_or_ge
def abh:=@List.getElem?_toArray
def abi:=@Option.map_some
def abj:=@List.length_append
def abk:=@Nat.le_of_ble_eq_true
def abl:=@List.append_nil
def abm:=@List.getElem?_eq_getElem
def abn:=@List.perm_append_comm
def abo:=@List.flatten_cons
def abp:=@Prod.mk.injEq
def abq:=@List.length_cons
def abr:=@Nat.le_refl
def abt:=@List.length_take
def abu:=@List.flatten_append
def abv:=@List.cons_append
def abw:=@Nat.mul_le_mul_right
def abx:=@List.mem_singleton
def aby:=@List.mem_of_getElem?
def abz:=@Option.some.injEq
def abA:=@List.mem_map
def abB:=@List.ext_getElem?
def abC:=@List.getElem_map
def abD:=@List.mem_append
def abE:=@List.getElem?_cons_succ
def abF:=@Bool.not_false
def abG:=@List.size_toArray
def abH:=@Array.length_toList
def abI:=@List.getElem?_append_left
def abJ:=@List.getElem?_eq_some_iff
def abK:=@Bool.not_true
def abL:=@List.cons.injEq
def abM:=@decide_false
def abN:=@List.mem_iff_getElem
def abO:=@Array.getElem?_modify
def abP:=@List.flatten_nil
def abQ:=@List.getElem?_drop
def abR:=@List.getElem?_cons_zero
def abS:=@List.eq_nil_of_length_eq_zero
def abT:=@Array.getElem?_toList
def abU:=@List.mem_of_mem_take
def abV:=@not_false_eq_true
def abW:=@List.getElem?_modify
def abX:=@List.getElem?_set
def abY:=@List.filter_cons
def abZ:=@Bool.and_eq_true
def ab0:=@List.mem_append_left
def ab1:=@List.take_of_length_le
def ab2:=@List.take_add_one
def ab3:=@List.pairwise_cons
section
variable{α β:Type}
theorem uK{vs cs:List Value}{off:Nat}(h:off+cs.length<=vs.length)(i:Nat):(dh vs off cs)[i]? =if i<off then vs[i]? else if i<off+cs.length then cs[i-off]? else vs[i]? :=by
 have e:min off vs.length=off:=by omega
 simp only[iH,aa9,List.getElem?_append,abt,e,abQ]
 by_cases a:i<off
 ·simp[a]
 ·by_cases b:i<off+cs.length
  ·simp[a,b,show i-off<cs.length by omega]
  ·simp[a,b,show ¬i-off<cs.length by omega,show off+cs.length+(i-off-cs.length)=i by omega]
theorem qz(b off n:Nat):(⟨b,off,none⟩:Addr).add n=⟨b,off+n,none⟩:=by
 simp only[Addr.add];split
 ·rename_i a;subst a;rfl
 ·rfl
theorem xF(a:Nat):∀(r c:Nat),256<=c->Builtin.growBy a r c<=max c (2*a)
 |0,c,_=>by simp[Builtin.growBy];omega
 |r+1,c,h=>by
  simp only[Builtin.growBy]
  split
  ·omega
  ·have:=xF a r (c+(c+768)/4) (by omega)
   omega
theorem nextslicecap_le{need old:Nat}(h:old<need):Builtin.nextslicecap need old<=2*need:=by
 unfold Builtin.nextslicecap
 split
 ·omega
 ·split
  ·omega
  ·have:=xF need 4 old (by omega)
   omega
theorem Az(z:Array Value)(n:Nat):(Builtin.zeroCells z n).size=n*z.size:=by simp[Builtin.zeroCells]
theorem r8{P:Program}{R:aw}{sz:Nat}{enc:α->List Value}{v:Value}{xs:List α}{w:World}(h:RS R sz enc v xs)(l:∀b o,R b o->w.heap[b]? =some o):(Builtin.firstCells sz xs.length v).run P w=.ok (xs.flatMap enc).toArray w:=by
 obtain⟨p,m,rfl,q,r,f⟩:=h.h
 rcases f with rfl|⟨b,off,c,E,n,rfl,d,e⟩
 ·cases p with
  |none=>rfl
  |some a=>simp[Builtin.firstCells,loadCells,loadCellsFrom]
 ·have g:=l _ _ d
  have k:=jg h.len
  have:=run_loadCellsFrom (P:=P) (w:=w) (b:=b) (off:=off) (xs.flatMap enc) 0 #[] (λj i=>by
   have:=e j i
   simp[World.cell?,g,this])
  simp only[Builtin.firstCells,loadCells]
  rw[<-k,this]
  simp
theorem OM{P:Program}{R:aw}{sz:Nat}{enc:α->List Value}{v:Value}{xs:List α}{w:World}(h:RS R sz enc v xs):(Builtin.lenOf v).run P w=.ok xs.length w:=by
 obtain⟨p,a,rfl,_⟩:=h.h
 rfl
theorem NJ{p:oa}{A T B:aH}:(p::(A++(T++B))).Perm (A++(p::B)++T):=by
 have a:(A++(T++B)).Perm (A++B++T):=by
  rw[aa9]
  exact abn.append_left A
 have b:(p::(A++B++T)).Perm (A++(p::B)++T):=by
  have:(p::(A++B)).Perm (A++p::B):=List.perm_middle.symm
  exact this.append_right T
 exact(a.cons p).trans b
theorem bp.front{H1 H2:aN}{T:aH}{p:oa}:bp ([p]::(H1++T::H2)) (H1++[p]::H2):=⟨T,by
 simp only[abo,abu,abv,List.nil_append]
 exact NJ⟩
theorem OF{P:Program}{R:aw}{H1 H2:aN}{T:aH}{E sz bytes:Nat}{enc:α->List Value}{v u:Value}{xs ys:List α}{w:World}{ta tb tb' t:TypeId}{z:Value}
  (hv:OS E sz enc v xs T)(hu:RS (Rx R (H1++T::H2)) sz enc u ys)(ua:bS P ta (.slice E))(ub:bS P tb (.slice tb'))(s:Sz P E sz)(by_:By P E bytes)(zr:Zr P E z)(hz:z.cells.size=sz)(hb0:0<bytes)(hb:(xs.length+ys.length)*bytes<=2^47)
  (sat:Sat w (H1++T::H2))(ro:RO w R (H1++T::H2)):
  ∃v' w' T',(Builtin.append_ #[ta,tb] t #[v,u]).run P w=.ok v' w'/\OS E sz enc v' (xs++ys) T'/\Frame w (H1++T::H2) w' (H1++T'::H2)/\Sat w' (H1++T'::H2):=by
 have hw:∀b o,Rx R (H1++T::H2) b o->w.heap[b]? =some o:=λb o h=>by
  rcases h with h|h
  ·exact(ro b o h).1
  ·exact sat.2 _ h
 have hfu:=r8 (P:=P) hu hw
 have hlu:=OM (P:=P) (w:=w) hu
 have hlen:∀x∈xs++ys,(enc x).length=sz:=λx hx=>(abD.1 hx).elim (hv.len x) (hu.len x)
 have hone:∀x∈xs++ys,∀c∈enc x,Go.Proofs.YtenilfmlfldogaaGreatDoor.aq c=true:=λx hx=>(abD.1 hx).elim (hv.one x) (hu.one x)
 have hneed:xs.length+ys.length<=2^47:=Nat.le_trans (Nat.le_mul_of_pos_right _ hb0) hb
 have hone':∀c∈ys.flatMap enc,Go.Proofs.YtenilfmlfldogaaGreatDoor.aq c=true:=λc hc=>by
  obtain⟨y,hy,hcy⟩:=List.mem_flatMap.1 hc
  exact hu.one y hy c hcy
 -- the two ways
 have grow:∀(p:Option Addr) (cap:Nat),v=.slice p xs.length cap->¬xs.length+ys.length<=cap->(Builtin.firstCells sz xs.length v).run P {w with drawn:=w.drawn+1}=.ok (xs.flatMap enc).toArray {w with drawn:=w.drawn+1}->
   ∃v' w' T',(Builtin.append_ #[ta,tb] t #[v,u]).run P w=.ok v' w'/\OS E sz enc v' (xs++ys) T'/\Frame w (H1++T::H2) w' (H1++T'::H2)/\Sat w' (H1++T'::H2):=by
  intro p cap hvp hcap hfv
  obtain⟨i,hi,hib⟩:=by_.h w
  have hcut:∃q,xs.length+ys.length<=q/\q<=maxLen/\q=Question.cut (.appendCap (xs.length+ys.length) cap E) (w.tape w.drawn (.appendCap (xs.length+ys.length) cap E)):=by
   refine⟨_,?_,?_,rfl⟩
   ·simp only[Question.cut];omega
   ·simp only[Question.cut]
    have:w.tape w.drawn (.appendCap (xs.length+ys.length) cap E) % (2^63-(xs.length+ys.length))<2^63-(xs.length+ys.length):=Nat.mod_lt _ (by omega)
    unfold maxLen;omega
  obtain⟨q,hq1,hq2,hq3⟩:=hcut
  have hfu':(Builtin.firstCells sz ys.length u).run P {w with drawn:=w.drawn+1}=.ok (ys.flatMap enc).toArray {w with drawn:=w.drawn+1}:=r8 (P:=P) hu (λb o h=>hw b o h)
  have hn1:¬((xs.length+ys.length:Nat):Int)>IntKind.i64.max:=by
   have:IntKind.i64.max=9223372036854775807:=by decide
   omega
  have hn2:¬Builtin.nextslicecap (xs.length+ys.length) cap*bytes>2^48:=by
   have h1:=nextslicecap_le (need:=xs.length+ys.length) (old:=cap) (by omega)
   have h2:=abw bytes h1
   rw[Nat.mul_assoc]at h2
   omega
  have hrun:(Builtin.append_ #[ta,tb] t #[v,u]).run P w=.ok (.slice (some ⟨w.heap.size,0,none⟩) (xs.length+ys.length) q)
    (World.alloc {w with drawn:=w.drawn+1} (.cells ((xs.flatMap enc).toArray++(ys.flatMap enc).toArray++Builtin.zeroCells z.cells (q-(xs.length+ys.length))) E)):=by
   subst hvp
   simp only[Builtin.append_]
   simp only[abh,abR,abE,Sem.run_bind,run_underlying ua.h,run_underlying ub.h,Result.andThen_ok,s.h,Sem.run_pure]
   have hm:((TypeDesc.slice tb') matches .int _)=false:=rfl
   simp only[abb,aba,hlu,Result.andThen_ok,aa6 hcap,false_or,hn1,false_and,hi,hib,aa6 hn2,Sem.run_bind]
   have hch:(choose (.appendCap (xs.length+ys.length) cap E)).run P w=.ok (Question.cut (.appendCap (xs.length+ys.length) cap E) (w.tape w.drawn (.appendCap (xs.length+ys.length) cap E))) {w with drawn:=w.drawn+1}:=by
    simp[choose,Sem.run,Question.forced]
   rw[hch, <-hq3]
   obtain⟨i',hi',hib'⟩:=by_.h {w with drawn:=w.drawn+1}
   have har:∀n,(askRoom n).run P {w with drawn:=w.drawn+1}=.ok () {w with drawn:=w.drawn+1}:=λn=>by
    unfold askRoom;split<;>rfl
   simp only[Result.andThen_ok,hi',har,hfv,abF,abd,hfu',zr.h,lU]
   rfl
  have hz':(Builtin.zeroCells z.cells (q-(xs.length+ys.length))).size=(q-(xs.length+ys.length))*sz:=by rw[Az,hz]
  generalize hC:(xs.flatMap enc).toArray++(ys.flatMap enc).toArray++Builtin.zeroCells z.cells (q-(xs.length+ys.length))=C at hrun
  have hsize:0+q*sz<=C.size:=by
   have h1:=jg hv.len
   have h2:=jg hu.len
   rw[<-hC]
   simp only[Array.size_append,abG,h1,h2,hz']
   rw[<-Nat.add_mul, <-Nat.add_mul,Nat.zero_add]
   exact abw _ (by omega)
  have hrow:Row C 0 ((xs++ys).flatMap enc):=by
   intro k hk
   rw[<-hC]
   rw[List.flatMap_append]at hk⊢
   have hsz:k<((xs.flatMap enc).toArray++(ys.flatMap enc).toArray).size:=by
    rw[abj]at hk
    simpa only[Array.size_append,abG]using hk
   rw[Nat.zero_add,Array.getElem?_append_left hsz,List.append_toArray (xs.flatMap enc) (ys.flatMap enc),abh]
  clear hC hz' hfu hlu hfu' hq3
  have hos:OS E sz enc (.slice (some ⟨w.heap.size,0,none⟩) (xs.length+ys.length) q) (xs++ys) [(w.heap.size,.cells C E (0,0))]:=
   ⟨hlen,hone,.inr ⟨w.heap.size,0,C,q,by rw[abj],rfl,by rw[abj];exact hq1,hq2,hsize,hrow⟩⟩
  have f:=(Frame.drew w (H1++T::H2) (w.drawn+1)).trans (Frame.alloc {w with drawn:=w.drawn+1} (H1++T::H2) (.cells C E (0,0)))
  have f2:Frame w (H1++T::H2) (World.alloc {w with drawn:=w.drawn+1} (.cells C E)) (H1++[(w.heap.size,.cells C E (0,0))]::H2):=f.trans (bp.front.frame _)
  have s2:Sat (World.alloc {w with drawn:=w.drawn+1} (.cells C E)) (H1++[(w.heap.size,.cells C E (0,0))]::H2):=bp.front.sat (Sat.alloc (w:={w with drawn:=w.drawn+1}) (sat.drew _) _)
  exact⟨_,_,_,hrun,hos,f2,s2⟩
 rcases hv.h with⟨rfl,rfl,rfl⟩|⟨b,off,c,cap,rfl,rfl,g3,g4,g5,g6⟩
 ·by_cases h0:ys.length=0
  ·have hy:ys=[]:=abS h0
   subst hy
   refine⟨.slice none 0 0,w,[],?_,OS.nil,Frame.refl _ _,sat⟩
   simp only[Builtin.append_]
   simp only[abh,abR,abE,Sem.run_bind,run_underlying ua.h,run_underlying ub.h,Result.andThen_ok,s.h,Sem.run_pure,abb,aba,hlu]
   have hfu0:(Builtin.firstCells sz 0 u).run P w=.ok #[] w:=hfu
   simp[hfu0]
  ·exact grow none 0 rfl (by simp only[List.length_nil];omega) rfl
 ·by_cases hcap:xs.length+ys.length<=cap
  ·have hb:=sat.2 (b,.cells c E (0,0)) (by simp)
   have hc:c=c.toList.toArray:=by simp
   have hl1:=jg hv.len
   have hl2:=jg hu.len
   have hroom:off+xs.length*sz+(ys.flatMap enc).length<=c.toList.length:=by
    rw[hl2,abH,Nat.add_assoc, <-Nat.add_mul]
    exact Nat.le_trans (Nat.add_le_add_left (abw _ hcap) _) g5
   have hst:=r9 (P:=P) (b:=b) (off:=off+xs.length*sz) (E:=E) (ys.flatMap enc) 0 c.toList w (by rw[<-hc];exact hb) hone' (by simpa using hroom)
   rw[Nat.add_zero]at hst
   have hadd:(⟨b,off,none⟩:Addr).add (xs.length*sz)=⟨b,off+xs.length*sz,none⟩:=by
    simp only[Addr.add];split
    ·rename_i h0;rw[h0];rfl
    ·rfl
   refine⟨.slice (some ⟨b,off,none⟩) (xs.length+ys.length) cap,ew w b (.cells (dh c.toList (off+xs.length*sz) (ys.flatMap enc)).toArray E (0,0)),[(b,.cells (dh c.toList (off+xs.length*sz) (ys.flatMap enc)).toArray E (0,0))],?_,⟨hlen,hone,.inr ⟨b,off,_,cap,by rw[abj],rfl,by rw[abj];exact hcap,g4,?_,?_⟩⟩,Frame.set (T1:=[]) (T2:=[]),Sat.set (T1:=[]) (T2:=[]) sat⟩
   ·simp only[Builtin.append_]
    simp only[abh,abR,abE,Sem.run_bind,run_underlying ua.h,run_underlying ub.h,Result.andThen_ok,s.h,Sem.run_pure,abb,aba,hlu,aa7 hcap,abF,abd,hfu,hadd,hst]
   ·rw[abG,oT hroom,abH];exact g5
   ·intro k hk
    rw[List.flatMap_append]at hk⊢
    rw[abh]
    have hle:off+xs.length*sz<=c.toList.length:=by omega
    by_cases h1:k<(xs.flatMap enc).length
    ·have h2:=g6 k h1
     rw[hl1]at h1
     rw[iH,aa9,abI (by rw[abt];omega),List.getElem?_take_of_lt (by omega),abT,h2,abI (by omega)]
    ·rw[abj]at hk
     rw[hl1]at h1 hk
     rw[iH,aa9,List.getElem?_append_right (by rw[abt];omega),abt,Nat.min_eq_left hle,
      abI (by omega),List.getElem?_append_right (by omega),hl1]
     congr 1
     omega
  ·refine grow _ cap rfl hcap ?_
   refine r8 (P:=P) (R:=sg [(b,.cells c E (0,0))]) (hv.rs λp hp=>hp) λb' o' h'=>?_
   simp only[sg,abx,abp]at h'
   obtain⟨e1,e2⟩:=h'
   subst e1;subst e2
   exact sat.2 (b',.cells c E (0,0)) (by simp)
section
variable{P:Program}{N:Nat}{R:aw}{ops:Array Oper}{l:List Oper}{env:Env}{H:aN}{K:Env->aN->Prop}{ty:TypeId}{pos:String}{af:Array Edge}{m:Bool}
theorem aO.append{d:Nat}{x y:Operand}{f tb M E sz b:Nat}{enc:α->List Value}{v u z:Value}{xs ys:List α}{T:aH}{g:aH->aN}(C:OS E sz enc v xs T)(B:RS (Rx R H) sz enc u ys) [L:fA H T g] [O:bS P f (.slice E)] [Q:bS P tb (.slice M)] [s:Sz P E sz] [i:By P E b] [U:Zr P E z]
  (k:(xs.length+ys.length)*b<=2^47)(p:∀v' T',OS E sz enc v' (xs++ys) T'->aO false P N R ops l ((d,v')::env) (g T') K)
  (D:ev env x=some v:=by rfl)(F:ev env y=some u:=by rfl)(G:z.cells.size=sz:=by rfl)(m:0<b:=by decide)(n:Nat.blt d N=true:=by rfl):
  aO false P N R ops (⟨some d,.call ⟨.builtin .append,#[x,y],#[f,tb]⟩,ty,pos,af,none⟩::l) env H K:=
 aO.mv n λa w e J I=>by
  obtain⟨V,W,j,c⟩:=L.h
  subst j
  obtain⟨v',S,T',r,q,o,A⟩:=OF (t:=ty) C B O Q s i U G m k J I
  refine⟨v',S,_,?_,?_,?_,p v' T' q⟩
  ·simp[execOp,resolve,e.eval D,e.eval F,invoke,builtin,r]
  ·rw[c];exact o
  ·rw[c];exact A
theorem aO.qh{t:TypeId}{x y:Operand}{E sz n k:Nat}{enc:α->List Value}{v p u:Value}{xs:List α}{z z':α}{cs:List Value}{T:aH}{M:aH->aN}(i:Nat)(d:OS E sz enc v xs T)(j:xs[i]? =some z) [sa:fA H T M] [s:Sz P t n]
  (g:ev env x=some p)(hp:p=jy (fB v (i*sz)) k)(hy:ev env y=some u)(hc:u.cells=cs.toArray)(hn:cs.length=n)(ho:∀c∈cs,Go.Proofs.YtenilfmlfldogaaGreatDoor.aq c=true)(m:enc z'=dh (enc z) k cs)(hl:k+cs.length<=sz)
  (a1:∀T',OS E sz enc v (xs.set i z') T'->aO false P N R ops l env (M T') K):aO false P N R ops (⟨none,.store t x y,ty,pos,af,none⟩::l) env H K:=
 aO.qQ λa w F L ro=>by
  obtain⟨H1,H2,V,D⟩:=sa.h
  subst V
  have o:=aby j
  have hi:i<xs.length:=(abJ.1 j).1
  have a2:xs≠[]:=λe=>by subst e;simp at j
  have a0:=d.len z o
  have I:(enc z').length=sz:=by rw[m,oT (by omega),a0]
  rcases d.h with⟨_,rfl,_⟩|⟨b,off,c,C,rfl,rfl,O,Q,S,U⟩
  ·exact absurd rfl a2
  ·have X:=L.2 (b,.cells c E (0,0)) (by simp)
   have Y:c=c.toList.toArray:=by simp
   have a4:p=.pointer (some ⟨b,off+i*sz+k,none⟩):=by
    subst hp
    simp only[fB,jy,qz]
   subst a4
   have a7:c.toList.length=c.size:=abH
   have r:off+i*sz+k+cs.length<=c.toList.length:=by
    have f:(i+1)*sz<=C*sz:=abw _ (by omega)
    rw[Nat.succ_mul]at f
    omega
   have a5:=zH (P:=P) (t:=t) (n:=n) (b:=b) (off:=off+i*sz+k) (E:=E) (v:=u) (cs:=cs) (vs:=c.toList) (w:=w) hc hn (by rw[<-Y];exact X) ho r
   have a6:∀x∈xs.set i z',(enc x).length=sz:=λx g=>(List.mem_or_eq_of_mem_set g).elim (d.len x) (λe=>by rw[e];exact I)
   have a3:∀x∈xs.set i z',∀c∈enc x,Go.Proofs.YtenilfmlfldogaaGreatDoor.aq c=true:=λx g=>(List.mem_or_eq_of_mem_set g).elim (d.one x) (λe=>by
    rw[e,m]
    intro c hc
    simp only[iH,abD]at hc
    rcases hc with(hc|hc)|hc
    ·exact d.one z o c (abU hc)
    ·exact ho c hc
    ·exact d.one z o c (List.mem_of_mem_drop hc))
   refine⟨ew w b (.cells (dh c.toList (off+i*sz+k) cs).toArray E (0,0)),_,.inl ?_,?_,?_,a1 [(b,.cells (dh c.toList (off+i*sz+k) cs).toArray E (0,0))] ⟨a6,a3,.inr ⟨b,off,_,C,by rw[List.length_set],rfl,by rw[List.length_set];exact O,Q,?_,?_⟩⟩⟩
   ·simp[execOp,F.eval g,F.eval hy,a5]
   ·rw[D];exact Frame.set (T1:=[]) (T2:=[])
   ·rw[D];exact Sat.set (T1:=[]) (T2:=[]) L
   ·rw[abG,oT r,abH];exact S
   ·have f:=xx d.len j I m hl
    rw[f]
    have Z:=jg d.len
    have G:i*sz+k+cs.length<=(xs.flatMap enc).length:=by
     rw[Z]
     have f:(i+1)*sz<=xs.length*sz:=abw _ (by omega)
     rw[Nat.succ_mul]at f;omega
    intro q J
    rw[oT G]at J
    have W:=U q J
    rw[abh,uK r,uK G,abT,W]
    by_cases A:q<i*sz+k
    ·rw[aa7 (show off+q<off+i*sz+k by omega),aa7 A]
    ·rw[aa6 (show ¬off+q<off+i*sz+k by omega),aa6 A]
     by_cases B:q<i*sz+k+cs.length
     ·rw[aa7 (show off+q<off+i*sz+k+cs.length by omega),aa7 B,show off+q-(off+i*sz+k)=q-(i*sz+k) by omega]
     ·rw[aa6 (show ¬off+q<off+i*sz+k+cs.length by omega),aa6 B]
theorem AV(p:Value):jy p 0=p:=by
 unfold jy
 split
 ·rename_i a;rfl
 ·rfl
theorem vP{v:Value}{k:Nat}:jy (fB v k) 0=fB v k:=AV _
theorem zK{vs cs:List Value}(h:cs.length=vs.length):dh vs 0 cs=cs:=by rw[iH];simp[h]
theorem aO.eG{t:TypeId}{x y:Operand}{E sz:Nat}{enc:α->List Value}{v:Value}{xs:List α}{z:α}{T:aH}{e:aH->aN}(i:Nat)(b:OS E sz enc v xs T)(d:xs[i]? =some z) [j:fA H T e] [s:Sz P t sz](z':α)
  (f:∀T',OS E sz enc v (xs.set i z') T'->aO false P N R ops l env (e T') K)(ho:∀c∈enc z',Go.Proofs.YtenilfmlfldogaaGreatDoor.aq c=true)(a:(enc z').length=sz:=by rfl)(g:ev env x=some (fB v (i*sz)):=by rfl)(h:ev env y=some (.agg (enc z').toArray):=by rfl):
  aO false P N R ops (⟨none,.store t x y,ty,pos,af,none⟩::l) env H K:=
 aO.qh (k:=0) (cs:=enc z') i b d g vP.symm h rfl a ho (zK (by rw[a,b.len z (aby d)])).symm (by omega) f
theorem aO.l8{t:TypeId}{x y:Operand}{E:Nat}{enc:α->List Value}{v u:Value}{xs:List α}{z:α}{T:aH}{c:aH->aN}(i:Nat)(a:OS E 1 enc v xs T)(b:xs[i]? =some z) [h:fA H T c] [s:Sz P t 1](z':α)
  (d:∀T',OS E 1 enc v (xs.set i z') T'->aO false P N R ops l env (c T') K)(e:enc z'=[u]:=by rfl)(ho:Go.Proofs.YtenilfmlfldogaaGreatDoor.aq u=true:=by rfl)(f:ev env x=some (fB v (i*1)):=by rfl)(g:ev env y=some u:=by rfl):
  aO false P N R ops (⟨none,.store t x y,ty,pos,af,none⟩::l) env H K:=
 aO.qh (k:=0) (cs:=[u]) i a b f vP.symm g (og ho) rfl (by simpa using ho) (by rw[e,zK (by rw[a.len z (aby b)];rfl)]) (by simp) d
end
end
section
inductive CK where
 |i (k:IntKind)
 |s
 |b
def jc:CK->Value->Prop
 | .i k,.int k' _=>k'=k
 | .s,.string _=>True
 | .b,.bool _=>True
 |_,_=>False
def eJ:List CK->List Value->Prop
 |[],[]=>True
 |k::ks,v::vs=>jc k v/\eJ ks vs
 |_,_=>False
def mU:Value->Value->Bool
 | .int _ a,.int _ b=>a==b
 | .string a,.string b=>decide (a=b)
 | .bool a,.bool b=>a==b
 |_,_=>false
def eP:List Value->List Value->Bool
 |[],[]=>true
 |a::l,b::l2=>mU a b&&eP l l2
 |_,_=>false
def pack:Bool->List Value->Value
 |false,[x]=>x
 |_,xs=>.agg xs.toArray
theorem eJ.length:∀{ks:List CK} {vs:List Value},eJ ks vs->vs.length=ks.length
 |[],[],_=>rfl
 |_::ks,_::vs,h=>by simp[eJ.length (ks:=ks) (vs:=vs) h.2]
 |[],_::_,h=>h.elim
 |_::_,[],h=>h.elim
theorem eJ.split:∀{ks ks':List CK} {vs:List Value},eJ (ks++ks') vs->eJ ks (vs.take ks.length)/\eJ ks' (vs.drop ks.length)
 |[],ks',vs,h=>by simpa[eJ]using h
 |k::ks,ks',v::vs,h=>by
  have:=eJ.split (ks:=ks) (ks':=ks') (vs:=vs) h.2
  exact⟨⟨h.1,this.1⟩,this.2⟩
 |_::_,_,[],h=>h.elim
theorem wo:∀(n:Nat) {xs ys:List Value},n<=xs.length->n<=ys.length->eP xs ys=(eP (xs.take n) (ys.take n)&&eP (xs.drop n) (ys.drop n))
 |0,xs,ys,_,_=>by simp[eP]
 |n+1,x::xs,y::ys,h1,h2=>by
  simp only[abq]at h1 h2
  simp only[eP,List.take_succ_cons,List.drop_succ_cons]
  rw[wo n (by omega) (by omega),Bool.and_assoc]
 |n+1,[],_,h1,_=>by simp at h1
 |n+1,_::_,[],_,h2=>by simp at h2
class fp(P:Program)(t:TypeId)(n:outParam Nat)(ks:outParam (List CK))(agg:outParam Bool):Prop where
 ne:0<n
 eq:∀d,n<=d->∀w xs ys,eJ ks xs->eJ ks ys->(Op.equalIn d t (pack agg xs) (pack agg ys)).run P w=.ok (eP xs ys) w
 ck:∀d,n<=d->∀e w xs,eJ ks xs->(Instr.checkKey e d t (pack agg xs)).run P w=.ok () w
 part:∀w (X:List Value) off xs,(X.drop off).take ks.length=xs->xs.length=ks.length->(part t X.toArray off).run P w=.ok (pack agg xs) w
def nz(e:Bool)(d:Nat)(xs:Array Value):List Field→Sem Unit
 |[]=>pure ()
 |f::fs=>if f.name≠ "_" then do Instr.checkKey e d f.type (←part f.type xs f.offset);nz e d xs fs else nz e d xs fs
structure eV(P:Program)(n off:Nat)(fs:List Field)(ks:List CK):Prop where
 eq:∀d,n<=d->∀w (X Y xs ys:List Value),X.drop off=xs->Y.drop off=ys->eJ ks xs->eJ ks ys->(Op.eqFields d X.toArray Y.toArray fs).run P w=.ok (eP xs ys) w
 ck:∀d,n<=d->∀e w (X xs:List Value),X.drop off=xs->eJ ks xs->(nz e d X.toArray fs).run P w=.ok () w
section
variable{P:Program}
theorem mx{k:CK}{xs:List Value}(h:eJ [k] xs):∃x,xs=[x]/\jc k x:=by
 match xs,h with
 |[x],h=>exact⟨x,rfl,h.1⟩
theorem um{t:TypeId}(a:cR P t false)(w:World)(X:List Value)(off:Nat)(xs:List Value)(h:(X.drop off).take 1=xs)(c:xs.length=1):(part t X.toArray off).run P w=.ok (pack false xs) w:=by
 match xs,c with
 |[x],_=>
  have d:X[off]? =some x:=by
   have b:=abe (λl:List Value=>l[0]?) h
   simpa[List.getElem?_take,abQ]using b
  simp[Go.part,a.h,d,pack]
theorem fp.int{t:TypeId}{k:IntKind}(u:bS P t (.int k))(c:cR P t false):fp P t 1 [.i k] false where
 ne:=by decide
 eq d hd w xs ys hx hy:=by
  obtain⟨x,rfl,a⟩:=mx hx
  obtain⟨y,rfl,b⟩:=mx hy
  obtain⟨d,rfl⟩:∃d',d=d'+1:=⟨d-1,by omega⟩
  cases x<;>simp only[jc]at a
  cases y<;>simp only[jc]at b
  subst a;subst b
  simp[pack,Op.equalIn,run_underlying u.h,eP,mU]
 ck d hd e w xs hx:=by
  obtain⟨x,rfl,a⟩:=mx hx
  obtain⟨d,rfl⟩:∃d',d=d'+1:=⟨d-1,by omega⟩
  simp[pack,Instr.checkKey,run_underlying u.h]
 part w X off xs h hl:=um c w X off xs h hl
theorem fp.str{t:TypeId}(u:bS P t .string)(b:cR P t false):fp P t 1 [.s] false where
 ne:=by decide
 eq d hd w xs ys hx hy:=by
  obtain⟨x,rfl,a⟩:=mx hx
  obtain⟨y,rfl,c⟩:=mx hy
  obtain⟨d,rfl⟩:∃d',d=d'+1:=⟨d-1,by omega⟩
  cases x<;>simp only[jc]at a
  cases y<;>simp only[jc]at c
  simp[pack,Op.equalIn,run_underlying u.h,eP,mU,qJ]
 ck d hd e w xs hx:=by
  obtain⟨x,rfl,a⟩:=mx hx
  obtain⟨d,rfl⟩:∃d',d=d'+1:=⟨d-1,by omega⟩
  simp[pack,Instr.checkKey,run_underlying u.h]
 part w X off xs h hl:=um b w X off xs h hl
theorem fp.bool{t:TypeId}(u:bS P t .bool)(c:cR P t false):fp P t 1 [.b] false where
 ne:=by decide
 eq d hd w xs ys hx hy:=by
  obtain⟨x,rfl,a⟩:=mx hx
  obtain⟨y,rfl,f⟩:=mx hy
  obtain⟨d,rfl⟩:∃d',d=d'+1:=⟨d-1,by omega⟩
  cases x<;>simp only[jc]at a
  cases y<;>simp only[jc]at f
  simp[pack,Op.equalIn,run_underlying u.h,eP,mU]
 ck d hd e w xs hx:=by
  obtain⟨x,rfl,a⟩:=mx hx
  obtain⟨d,rfl⟩:∃d',d=d'+1:=⟨d-1,by omega⟩
  simp[pack,Instr.checkKey,run_underlying u.h]
 part w X off xs h hl:=um c w X off xs h hl
theorem eV.nil{n off:Nat}:eV P n off [] [] where
 eq d hd w X Y xs ys hx hy h1 h2:=by
  cases xs<;>cases ys<;>simp_all[eJ,Op.eqFields,eP]
 ck d hd e w X xs hx h1:=rfl
theorem eV.cons{n m off:Nat}{f:Field}{fs:List Field}{kf ks:List CK}{agg:Bool}(ef:fp P f.type m kf agg)(h:eV P n (off+kf.length) fs ks)(hm:m≤n:=by decide)(ho:f.offset=off:=by rfl)(hn:f.name≠ "_":=by decide):eV P n off (f::fs) (kf++ks) where
 eq d hd w X Y xs ys hx hy h1 h2:=by
  obtain⟨a1,a2⟩:=h1.split
  obtain⟨b1,b2⟩:=h2.split
  have l1:=h1.length
  have l2:=h2.length
  rw[abj]at l1 l2
  have e1:=ef.part w X off (xs.take kf.length) (by rw[hx]) a1.length
  have e2:=ef.part w Y off (ys.take kf.length) (by rw[hy]) b1.length
  have e3:=ef.eq d (by omega) w _ _ a1 b1
  have e4:=h.eq d hd w X Y (xs.drop kf.length) (ys.drop kf.length) (by rw[←hx,List.drop_drop]) (by rw[←hy,List.drop_drop]) a2 b2
  simp only[Op.eqFields,hn,ne_eq,abV,abd,ho,Sem.run_bind,e1,e2,e3,Result.andThen_ok]
  rw[wo kf.length (xs:=xs) (ys:=ys) (by omega) (by omega)]
  cases eP (xs.take kf.length) (ys.take kf.length)
  ·simp
  ·simp only[abK,abb,aba,Bool.true_and];exact e4
 ck d hd e w X xs hx h1:=by
  obtain⟨a1,a2⟩:=h1.split
  have e1:=ef.part w X off (xs.take kf.length) (by rw[hx]) a1.length
  have e3:=ef.ck d (by omega) e w _ a1
  have e4:=h.ck d hd e w X (xs.drop kf.length) (by rw[←hx,List.drop_drop]) a2
  simp only[nz,hn,ne_eq,abV,abd,ho,Sem.run_bind,e1,e3,Result.andThen_ok]
  exact e4
theorem OH{t:TypeId}{c:Array Field}(e:Bool)(d:Nat)(xs:Array Value)(w:World)(g:P.underlying t=some (.struct c)):(Instr.checkKey e (d+1) t (.agg xs)).run P w=(nz e d xs c.toList).run P w:=by
 simp only[Instr.checkKey,Sem.run_bind,run_underlying g,Result.andThen_ok]
 rw[<-Array.forIn_toList]
 generalize c.toList=fl
 clear g
 induction fl generalizing w with
 |nil=>simp[nz]
 |cons f fl ih=>
  simp only[List.forIn_cons,nz,Sem.run_bind,Sem.run_ite]
  split
  ·generalize (part f.type xs f.offset).run P w=r1
   cases r1 with
   |ok a w1=>
    simp only[Result.andThen_ok]
    generalize (Instr.checkKey e d f.type a).run P w1=r2
    cases r2 with
    |ok b w2=>simp only[Result.andThen_ok,Sem.run_pure];exact ih w2
    |halt x w2=>rfl
   |halt x w1=>rfl
  ·simp only[Sem.run_pure,Result.andThen_ok]
   exact ih w
theorem eV.more{n m off:Nat}{f:Field}{fs:List Field}{kf ks ks':List CK}{agg:Bool}(ef:fp P f.type m kf agg)(h:eV P n (off+kf.length) fs ks)(hk:ks'=kf++ks:=by rfl)(hm:m≤n:=by decide)(ho:f.offset=off:=by rfl)(hn:f.name≠ "_":=by decide):eV P n off (f::fs) ks':=by
 subst hk;exact eV.cons ef h hm ho hn
theorem fp.struct{t n:Nat}{a:Array Field}{ks:List CK}(u:P.underlying t=some (.struct a))(g:P.stoodInHeld t=false)(c:cR P t true)(sz:Sz P t ks.length)(h:eV P n 0 a.toList ks):fp P t (n+1) ks true where
 ne:=by omega
 eq d hd w xs ys hx hy:=by
  obtain⟨d,rfl⟩:∃d',d=d'+1:=⟨d-1,by omega⟩
  have b:P.fieldsOf t=a:=by simp[Program.fieldsOf,u]
  have:=run_equalIn_struct (P:=P) w d t xs.toArray ys.toArray (by rw[b];exact u) g
  rw[b]at this
  have e:=h.eq d (by omega) w xs ys xs ys (by simp) (by simp) hx hy
  rw[e]at this
  exact this
 ck d hd e w xs hx:=by
  obtain⟨d,rfl⟩:∃d',d=d'+1:=⟨d-1,by omega⟩
  have f:=h.ck d (by omega) e w xs xs (by simp) hx
  have:=OH (P:=P) e d xs.toArray w u
  rw[f]at this
  exact this
 part w X off xs h hl:=by
  have:X.toArray.extract off (off+ks.length)=xs.toArray:=by
   rw[List.extract_toArray,List.extract_eq_take_drop, <-h]
   congr 2
   omega
  simp only[Go.part,Sem.run_bind,c.h,Result.andThen_ok,abd,sz.h,this]
  rfl
class qp(P:Program)(t:TypeId):Prop where h:P.eqGuardType P.depth t=false
section
variable{R:aw}{env:Env}{H:aN}{ty:TypeId}{x y:Operand}{t u n:Nat}{ks:List CK}{xs ys:List Value}
theorem bo.nE [e:fp P t n ks true] [g:qp P t](j:ev env x=some (.agg xs.toArray))(k:ev env y=some (.agg ys.toArray))(c:eJ ks xs)(f:eJ ks ys)(i:Nat.ble n 10000=true:=by rfl):
  bo P R env H (.binOp .eql t x y u) ty (.bool (eP xs ys)):=λa w d o l m b _ _=>
 uF (op:=.move x) (b.eval j) (b.eval k) (run_eqGuard_agg w .eql t x y _ _ g.h) rfl (e.eq _ (abk i) w xs ys c f)
end
end
end
section
variable{κ β:Type} [DecidableEq κ]
def db(k:κ):List (κ×β)->Option β
 |[]=>none
 |(k',x)::r=>if k=k' then some x else db k r
def dD(k:κ)(x:β):List (κ×β)->List (κ×β)
 |[]=>[(k,x)]
 |(k',y)::r=>if k=k' then(k',x)::r else(k',y)::dD k x r
theorem tW{k:κ}{x:β}:∀{M:List (κ×β)},db k M=some x->(k,x)∈M
 |[],h=>by cases h
 |(k',y)::r,h=>by
  simp only[db]at h
  split at h
  ·rename_i a;subst a;simp only[abz]at h;subst h;simp
  ·exact List.mem_cons_of_mem _ (tW h)
theorem tU{k:κ}:∀{M:List (κ×β)},db k M=none↔k∉M.map (·.1)
 |[]=>by simp[db]
 |(k',y)::r=>by
  simp only[db,aa8,abc,not_or]
  split
  ·rename_i a;simp[a]
  ·rename_i a;simp[a,tU]
theorem tV{k:κ}{x:β}:∀{M:List (κ×β)},(M.map (·.1)).Nodup->(k,x)∈M->db k M=some x
 |[],_,h=>by simp at h
 |(k',y)::r,hn,h=>by
  simp only[aa8,List.nodup_cons]at hn
  simp only[db]
  rcases abc.1 h with h0|h0
  ·injection h0 with h1 h2;subst h1;subst h2;simp
  ·split
   ·rename_i a;subst a;exact absurd (abA.2 ⟨_,h0,rfl⟩) hn.1
   ·exact tV hn.2 h0
theorem rD{k:κ}{x:β}:∀{M:List (κ×β)},(dD k x M).map (·.1)=if k∈M.map (·.1)then M.map (·.1)else M.map (·.1)++[k]
 |[]=>by simp[dD]
 |(k',y)::r=>by
  simp only[dD]
  split
  ·rename_i a;subst a;simp
  ·rename_i a
   simp only[aa8,rD,abc]
   by_cases h:k∈r.map (·.1)
   ·simp[h]
   ·simp[h,a]
theorem yC{k:κ}{x:β}{M:List (κ×β)}(h:(M.map (·.1)).Nodup):((dD k x M).map (·.1)).Nodup:=by
 rw[rD]
 split
 ·exact h
 ·rename_i f
  exact List.nodup_append.2 ⟨h,by simp,λa d b c e=>by simp only[abx]at c;subst c;subst e;exact f d⟩
theorem nR{k k':κ}{x:β}:∀{M:List (κ×β)},db k' (dD k x M)=if k'=k then some x else db k' M
 |[]=>by simp[dD,db]
 |(k1,y)::r=>by
  simp only[dD]
  split
  ·rename_i a;subst a
   simp only[db]
   split<;>simp_all
  ·rename_i a
   simp only[db,nR]
   split
   ·rename_i b;subst b;rw[aa6 (λe=>a e.symm)]
   ·rfl
def jk(k:κ):List κ->List MapEntry->Nat->Option (Nat×Value)
 |k'::ks,e::es,i=>if k=k' then some (i,e.val)else jk k ks es (i+1)
 |_,_,_=>none
class fq(P:Program)(kt:TypeId)(encK:κ->Value):Prop where
 find:∀(k:κ) (es:List MapEntry) (ks:List κ) w,es.map (·.key)=ks.map encK->(Instr.findKey kt (encK k) es).run P w=.ok (jk k ks es 0) w
 ck:∀e k w,(Instr.checkKey e 10000 kt (encK k)).run P w=.ok () w
 same:∀k,Instr.sameBits 10000 (encK k) (encK k)=true
theorem zE{P:Program}{kt:TypeId}{encK:κ->Value}(a:∀k k' w,(Op.equal kt (encK k) (encK k')).run P w=.ok (decide (k=k')) w)(k:κ):
  ∀(es:List MapEntry) (ks:List κ) (i:Nat) w,es.map (·.key)=ks.map encK->(Instr.findAsking kt (encK k) es i).run P w=.ok (jk k ks es i) w
 |[],ks,i,w,h=>by
  cases ks with
  |nil=>rfl
  |cons _ _=>simp at h
 |e::es,[],i,w,h=>by simp at h
 |e::es,k'::ks,i,w,h=>by
  simp only[aa8,abL]at h
  simp only[Instr.findAsking,Sem.run_bind,h.1,a,Result.andThen_ok,jk]
  by_cases b:k=k'
  ·simp[b]
  ·simp only[b,abM,abb,aba]
   exact zE a k es ks (i+1) w h.2
theorem tm{d:TypeDesc}{encK:κ->Value}(b:∀k k',Instr.sameNow d (encK k) (encK k')=some (decide (k=k')))(k:κ):
  ∀(es:List MapEntry) (ks:List κ) (i:Nat),es.map (·.key)=ks.map encK->Instr.findNow d (encK k) es i=some (jk k ks es i)
 |[],ks,i,h=>by
  cases ks with
  |nil=>rfl
  |cons _ _=>simp at h
 |e::es,[],i,h=>by simp at h
 |e::es,k'::ks,i,h=>by
  simp only[aa8,abL]at h
  simp only[Instr.findNow,h.1,b,jk]
  by_cases a:k=k'
  ·simp[a]
  ·simp only[a,abM,aba]
   exact tm b k es ks (i+1) h.2
theorem O0{ks:List CK}:∀{xs:List Value},eJ ks xs->∀x∈xs,Instr.sameBits 9999 x x=true:=by
 induction ks with
 |nil=>intro xs h x hx;cases xs<;>simp_all[eJ]
 |cons k ks ih=>
  intro xs h x hx
  cases xs with
  |nil=>simp at hx
  |cons y ys=>
   rcases abc.1 hx with rfl|hx
   ·have:=h.1
    cases k<;>cases x<;>first|exact this.elim|simp[Instr.sameBits,qJ]
   ·exact ih h.2 x hx
theorem fq.agg{P:Program}{kt n:Nat}{ks:List CK}{a:κ->List Value}(e:fp P kt n ks true){c:Array Field}(u:P.underlying kt=some (.struct c))(d:Nat.ble n 10000=true)(b:∀k,eJ ks (a k))(m:∀k k',eP (a k) (a k')=decide (k=k')):fq P kt (λk:κ=>.agg (a k).toArray) where
 find k es ks' w h:=by
  have o:∀(k k':κ) w,(Op.equal kt (.agg (a k).toArray) (.agg (a k').toArray)).run P w=.ok (decide (k=k')) w:=λk k' w=>by
   rw[<-m];exact e.eq 10000 (abk d) w _ _ (b k) (b k')
  have g:=zE o k es ks' 0 w h
  simp only[Instr.findKey,Sem.run_bind,run_underlying u,Result.andThen_ok]
  cases es with
  |nil=>
   cases ks' with
   |nil=>rfl
   |cons _ _=>simp at h
  |cons e es=>
   have:Instr.findNow (.struct c) (.agg (a k).toArray) (e::es) 0=none:=rfl
   rw[this]
   exact g
 ck em k w:=e.ck 10000 (abk d) em w _ (b k)
 same k:=by
  have h:=O0 (b k)
  show((a k).toArray.size==(a k).toArray.size&&((a k).toArray.toList.zip (a k).toArray.toList).all λ(x,y)=>Instr.sameBits 9999 x y)=true
  simp only[beq_self_eq_true,Bool.true_and]
  rw[List.all_eq_true]
  intro p f
  have:p.1=p.2/\p.1∈a k:=by
   have j:=List.of_mem_zip f
   have l:p.1=p.2:=by
    obtain⟨i,r,rfl⟩:=abN.1 f
    simp
   exact⟨l,by simpa using j.1⟩
  obtain⟨x,y⟩:=p
  simp only at this⊢
  obtain⟨rfl,q⟩:=this
  exact h x q
theorem fq.str{P:Program}{kt:Nat}(u:bS P kt .string)(a:cR P kt false):fq P kt (λs:ByteArray=>.string s) where
 find k es ks w h:=by
  have:=tm (d:=.string) (encK:=λs:ByteArray=>Value.string s) (λk b=>by simp[Instr.sameNow,qJ]) k es ks 0 h
  simp only[Instr.findKey,Sem.run_bind,run_underlying u.h,Result.andThen_ok,this]
  rfl
 ck em k w:=(fp.str u a).ck 10000 (by decide) em w [.string k] ⟨trivial,trivial⟩
 same k:=by simp[Instr.sameBits,qJ]
theorem fq.int{P:Program}{kt:Nat}{q:IntKind}(u:bS P kt (.int q))(a:cR P kt false):fq P kt (λs:Int=>.int q s) where
 find k es ks w h:=by
  have:=tm (d:=.int q) (encK:=λs:Int=>Value.int q s) (λk b=>by simp[Instr.sameNow];rfl) k es ks 0 h
  simp only[Instr.findKey,Sem.run_bind,run_underlying u.h,Result.andThen_ok,this]
  rfl
 ck em k w:=(fp.int u a).ck 10000 (by decide) em w [.int q k] ⟨rfl,trivial⟩
 same k:=by simp[Instr.sameBits]
def ka(encK:κ->Value)(encV:β->Value)(es:List MapEntry)(M:List (κ×β)):Prop:=es.map (λe=>(e.key,e.val))=M.map λp=>(encK p.1,encV p.2)
omit [DecidableEq κ] in
theorem ka.keys{encK:κ->Value}{b:β->Value}{a:List MapEntry}{M:List (κ×β)}(h:ka encK b a M):a.map (·.key)=(M.map (·.1)).map encK:=by
 have:=abe (List.map Prod.fst) h
 simpa[Function.comp_def]using this
omit [DecidableEq κ] in
theorem ka.length{encK:κ->Value}{b:β->Value}{a:List MapEntry}{M:List (κ×β)}(h:ka encK b a M):a.length=M.length:=by
 have:=abe List.length h
 simpa using this
theorem yr{encK:κ->Value}{a:β->Value}(k:κ):∀{es:List MapEntry} {M:List (κ×β)} (i:Nat),ka encK a es M->
  (jk k (M.map (·.1)) es i).map (·.2)=(db k M).map a
 |[],[],_,_=>rfl
 |[],_::_,_,h=>by simp[ka]at h
 |_::_,[],_,h=>by simp[ka]at h
 |e::es,(k',x)::M,i,h=>by
  simp only[ka,aa8,abL,abp]at h
  simp only[aa8,jk,db]
  split
  ·simp[h.1.2]
  ·exact yr k (i+1) h.2
structure ir(encK:κ->Value)(encV:β->Value)(es:Array MapEntry)(clock:Nat)(M:List (κ×β)):Prop where
 kg:ka encK encV es.toList M
 nd:(M.map (·.1)).Nodup
 born:∀e∈es.toList,e.born<clock
 pa:(es.toList.map (·.born)).Nodup
def RM(R:aw)(encK:κ->Value)(encV:β->Value)(m:Value)(M:List (κ×β)):Prop:=∃b es clock,m=.map (some b)/\R b (.map es clock)/\ir encK encV es clock M
def MS(encK:κ->Value)(encV:β->Value)(m:Value)(M:List (κ×β))(T:aH):Prop:=∃b es clock,m=.map (some b)/\T=[(b,.map es clock)]/\ir encK encV es clock M
omit [DecidableEq κ] in
theorem MS.rm{R:aw}{encK:κ->Value}{a:β->Value}{m:Value}{M:List (κ×β)}{T:aH}(h:MS encK a m M T)(g:∀p∈T,R p.1 p.2):RM R encK a m M:=by
 obtain⟨b,d,c,e,rfl,f⟩:=h
 exact⟨b,d,c,e,g (b,_) (by simp),f⟩
omit [DecidableEq κ] in
theorem MS.rx{R:aw}{H:aN}{encK:κ->Value}{a:β->Value}{m:Value}{M:List (κ×β)}{T:aH}{c:aH->aN}(h:MS encK a m M T) [s:fA H T c]:RM (Rx R H) encK a m M:=h.rm λp b=>.inr (s.mem p b)
omit [DecidableEq κ] in
theorem RM.mono{R R':aw}{encK:κ->Value}{a:β->Value}{m:Value}{M:List (κ×β)}(h:RM R encK a m M)(i:∀b o,R b o->R' b o):RM R' encK a m M:=by
 obtain⟨b,d,c,e,f,g⟩:=h
 exact⟨b,d,c,e,i _ _ f,g⟩
omit [DecidableEq κ] in
theorem MS.nil{encK:κ->Value}{a:β->Value}{b:Nat}:MS encK a (.map (some b)) ([]:List (κ×β)) [(b,.map #[] 0)]:=
 ⟨b,#[],0,rfl,rfl,⟨by simp[ka],by simp,by simp,by simp⟩⟩
omit [DecidableEq κ] in
theorem MS.one{encK:κ->Value}{a:β->Value}{m:Value}{M:List (κ×β)}{T:aH}(h:MS encK a m M T):One m:=⟨by obtain⟨b,d,c,rfl,_⟩:=h;rfl⟩
omit [DecidableEq κ] in
theorem RM.one{R:aw}{encK:κ->Value}{a:β->Value}{m:Value}{M:List (κ×β)}(h:RM R encK a m M):One m:=⟨by obtain⟨b,d,c,rfl,_⟩:=h;rfl⟩
omit [DecidableEq κ] in
theorem MS.nd{encK:κ->Value}{a:β->Value}{m:Value}{M:List (κ×β)}{T:aH}(h:MS encK a m M T):(M.map (·.1)).Nodup:=by obtain⟨b,e,d,_,_,c⟩:=h;exact c.nd
omit [DecidableEq κ] in
theorem RM.nd{R:aw}{encK:κ->Value}{a:β->Value}{m:Value}{M:List (κ×β)}(h:RM R encK a m M):(M.map (·.1)).Nodup:=by obtain⟨b,e,d,_,_,c⟩:=h;exact c.nd
theorem l7{P:Program}{b:Nat}{c:Array MapEntry}{a:Nat}{w:World}(h:w.heap[b]? =some (.map c a)):(getObj b).run P w=.ok (.map c a) w:=by
 simp[getObj,Sem.run,h]
theorem qd{P:Program}{b:Nat}{c:Array MapEntry}{a:Nat}{o:Obj}{w:World}(h:w.heap[b]? =some (.map c a)):(setObj b o).run P w=.ok () (ew w b o):=by
 simp[setObj,Sem.run,h,ew]
theorem yp{k:κ}:∀{ks:List κ} {es:List MapEntry} {i:Nat},ks.length=es.length->(jk k ks es i=none↔k∉ks)
 |[],es,i,h=>by simp[jk]
 |k'::ks,[],i,h=>by simp at h
 |k'::ks,e::es,i,h=>by
  simp only[abq,Nat.add_right_cancel_iff]at h
  simp only[jk,abc,not_or]
  split
  ·rename_i a;simp[a]
  ·rename_i a;rw[yp h];simp[a]
theorem yq{k:κ}:∀{ks:List κ} {es:List MapEntry} {i j:Nat} {v:Value},jk k ks es i=some (j,v)->i<=j/\ks[j-i]? =some k/\∃e,es[j-i]? =some e/\e.val=v
 |[],es,i,j,v,h=>by simp[jk]at h
 |k'::ks,[],i,j,v,h=>by simp[jk]at h
 |k'::ks,e::es,i,j,v,h=>by
  simp only[jk]at h
  split at h
  ·rename_i b
   simp only[abz,abp]at h
   obtain⟨rfl,rfl⟩:=h
   simp[b]
  ·have:=yq h
   have a:j-i=(j-(i+1))+1:=by omega
   rw[a]
   exact⟨by omega,by simpa using this.2.1,by simpa using this.2.2⟩
theorem yA{k:κ}{x:β}:∀{M:List (κ×β)} {j:Nat},(M.map (·.1)).Nodup->(M.map (·.1))[j]? =some k->dD k x M=M.set j (k,x)
 |[],j,_,h=>by simp at h
 |(k',y)::r,0,hn,h=>by
  simp at h;subst h;simp[dD]
 |(k',y)::r,j+1,hn,h=>by
  simp only[aa8,List.nodup_cons]at hn
  simp only[aa8,abE]at h
  have a:k≠k':=λe=>hn.1 (e▸aby h)
  simp only[dD,aa6 a,List.set_cons_succ,yA hn.2 h]
theorem mB{k:κ}{x:β}:∀{M:List (κ×β)},k∉M.map (·.1)->dD k x M=M++[(k,x)]
 |[],_=>rfl
 |(k',y)::r,h=>by
  simp only[aa8,abc,not_or]at h
  simp only[dD,aa6 h.1,mB h.2,abv]
theorem ir.find{P:Program}{kt:Nat}{encK:κ->Value}{f:β->Value}{a:Array MapEntry}{g:Nat}{M:List (κ×β)}(h:ir encK f a g M) [i:fq P kt encK](k:κ)(w:World):
    ∃r,(Instr.findKey kt (encK k) a.toList).run P w=.ok r w/\r.map (·.2)=(db k M).map f/\
     (match r with
      |none=>k∉M.map (·.1)
      |some (j,_)=>(M.map (·.1))[j]? =some k/\∃e,a[j]? =some e/\e.key=encK k):=by
  refine⟨_,i.find k a.toList (M.map (·.1)) w h.kg.keys,yr k 0 h.kg,?_⟩
  cases hl:jk k (M.map (·.1)) a.toList 0 with
  |none=>exact(yp (by rw[List.length_map,h.kg.length])).1 hl
  |some jv=>
   obtain⟨j,v⟩:=jv
   obtain⟨_,b,e,c,_⟩:=yq hl
   simp only[Nat.sub_zero]at b c
   refine⟨b,e,by simpa using c,?_⟩
   have d:=abe (λl:List Value=>l[j]?) h.kg.keys
   simp only[abf,c,abi]at d
   rw[<-abf,b]at d
   simpa using d
theorem ir.update{encK:κ->Value}{b:β->Value}{a:Array MapEntry}{g:Nat}{M:List (κ×β)}(h:ir encK b a g M){k:κ}{j:Nat}(x:β)(p:(M.map (·.1))[j]? =some k):
  ir encK b (a.modify j λe=>{e with key:=encK k,val:=b x}) g (dD k x M):=by
 have f:(a.modify j λe=>{e with key:=encK k,val:=b x}).toList=a.toList.modify j λe=>{e with key:=encK k,val:=b x}:=by
  apply abB;intro i
  simp[abW]
 have n:(a.toList.modify j λe=>{e with key:=encK k,val:=b x}).map (·.born)=a.toList.map (·.born):=by
  apply abB;intro i
  simp only[abf,abW]
  split<;>simp[Function.comp_def]
 refine⟨?_,yC h.nd,?_,?_⟩
 ·rw[f,yA h.nd p]
  unfold ka
  have:=h.kg
  unfold ka at this
  apply abB;intro i
  have o:=abe (λl:List (Value×Value)=>l[i]?) this
  simp only[abf]at o
  simp only[abf,abW,abX]
  by_cases d:j=i
  ·subst d
   have t:j<M.length:=by
    have:=(abJ.1 p).1
    simpa using this
   simp only[abd,t,abi]
   cases c:a.toList[j]? with
   |none=>
    have:=List.getElem?_eq_none_iff.1 c
    rw[h.kg.length]at this
    omega
   |some e=>rfl
  ·rw[aa6 d, <-o]
   cases a.toList[i]? <;>simp[d]
 ·intro e c
  rw[f]at c
  have m:e.born∈(a.toList.modify j λe=>{e with key:=encK k,val:=b x}).map (·.born):=List.mem_map_of_mem c
  rw[n]at m
  obtain⟨q,s,r⟩:=abA.1 m
  rw[<-r];exact h.born q s
 ·rw[f,n];exact h.pa
theorem ir.insert{encK:κ->Value}{d:β->Value}{f:Array MapEntry}{c:Nat}{M:List (κ×β)}(h:ir encK d f c M){k:κ}(x:β)(m:k∉M.map (·.1)):
  ir encK d (f.push {key:=encK k,val:=d x,born:=c}) (c+1) (dD k x M):=by
 refine⟨?_,yC h.nd,?_,?_⟩
 ·have:=h.kg
  unfold ka at this⊢
  rw[mB m]
  simp[this]
 ·intro e he
  simp only[Array.toList_push,abD,abx]at he
  rcases he with he|rfl
  ·have:=h.born e he;omega
  ·simp
 ·simp only[Array.toList_push,List.map_append,aa8,List.map_nil]
  refine List.nodup_append.2 ⟨h.pa,by simp,?_⟩
  intro a i b j e
  simp only[abx]at j
  obtain⟨g,l,rfl⟩:=abA.1 i
  have:=h.born g l
  omega
end
section
variable{κ β:Type} [DecidableEq κ]
def It(Rd:aw)(encK:κ->Value)(encV:β->Value)(m:Value)(M:List (κ×β))(it:Value)(todo:List κ)(Ti:aH):Prop:=
 ∃b es clock r seen,m=.map (some b)/\Rd b (.map es clock)/\ir encK encV es clock M/\it=.pointer (some ⟨r,0,none⟩)/\Ti=[(r,.mapIter (some b) clock seen clock)]/\
  todo=((es.toList.zip M).filter λp=> !seen.contains p.1.born).map (·.2.1)
section
variable{P:Program}{N:Nat}{R:aw}{ops:Array Oper}{l:List Oper}{env:Env}{H:aN}{K:Env->aN->Prop}{ty:TypeId}{pos:String}{af:Array Edge}{m:Bool}
variable{encK:κ->Value}{encV:β->Value}{mp:Value}{M:List (κ×β)}{T:aH}{upd:aH->aN}
theorem oO{w:World}(s:Sat w H)(r:RO w R H):∀b o,Rx R H b o->w.heap[b]? =some o:=λb o h=>by
 rcases h with h|h
 ·exact(r b o h).1
 ·exact s.2 _ h
theorem zG{x k:Value}{kt f t:TypeId}{z:Value}{key:κ}{w:World}{ok:Bool}{b:Nat}{e:Array MapEntry}{d:Nat}(ut:bS P t (.map kt f))(l:fq P kt encK)(m:Zr P f z)(i:w.heap[b]? =some (.map e d))(h:ir encK encV e d M):
  (Instr.lookup t (.map (some b)) (encK key) ok).run P w=.ok (if ok then .tuple #[((db key M).map encV).getD z,.bool (db key M).isSome]else((db key M).map encV).getD z) w:=by
 obtain⟨r,g,a,n⟩:=h.find (P:=P) (kt:=kt) key w
 unfold Instr.lookup
 simp only[Sem.run_bind,run_underlying ut.h,Result.andThen_ok,l7 i,l.ck,g,Sem.run_pure]
 cases r with
 |none=>
  simp only[Option.map_none]at a
  have c:db key M=none:=by simpa using a.symm
  simp[c,m.h]
 |some jv=>
  obtain⟨j,v⟩:=jv
  simp only[abi]at a
  rw[<-a]
  have c:(db key M).isSome=true:=by
   have:=abe Option.isSome a
   simpa using this.symm
  simp[c]
theorem bo.oz{x y:Operand}{t kt c:TypeId}{z:Value}{key:κ}(h:RM (Rx R H) encK encV mp M)(j:ev env x=some mp)(l:ev env y=some (encK key)) [ut:bS P t (.map kt c)] [m:fq P kt encK] [o:Zr P c z]:
  bo P R env H (.lookup t x y true) ty (.tuple [((db key M).map encV).getD z,.bool (db key M).isSome].toArray):=λa w d u p g e s n=>by
 obtain⟨b,r,q,rfl,f,i⟩:=h
 have:=zG (P:=P) (x:=.nilFunc) (k:=.nilFunc) (t:=t) (ok:=true) (key:=key) ut m o (oO s n _ _ f) i
 simp[execOp,e.eval j,e.eval l,this]
theorem bo.Mp{x y:Operand}{t kt c:TypeId}{z:Value}{key:κ}(h:RM (Rx R H) encK encV mp M)(j:ev env x=some mp)(l:ev env y=some (encK key)) [ut:bS P t (.map kt c)] [m:fq P kt encK] [o:Zr P c z]:
  bo P R env H (.lookup t x y false) ty (((db key M).map encV).getD z):=λa w d u p g e s n=>by
 obtain⟨b,r,q,rfl,f,i⟩:=h
 have:=zG (P:=P) (x:=.nilFunc) (k:=.nilFunc) (t:=t) (ok:=false) (key:=key) ut m o (oO s n _ _ f) i
 simp[execOp,e.eval j,e.eval l,this]
omit [DecidableEq κ] in
theorem bo.yh{x:Operand}{t kt e:TypeId}(h:RM (Rx R H) encK encV mp M)(m:ev env x=some mp) [ut:bS P t (.map kt e)]:bo P R env H (.call ⟨.builtin .len,#[x],#[t]⟩) ty (.int .i64 M.length):=λa w d q o g j s n=>by
 obtain⟨b,c,p,rfl,f,i⟩:=h
 have k:=i.kg.length
 have l:c.size=M.length:=by simpa using k
 simp[execOp,resolve,j.eval m,invoke,builtin,Builtin.len_,run_underlying ut.h,l7 (oO s n _ _ f),goInt,l]
theorem nY{w:World}{H1 H2:aN}{b:Nat}{o o':Obj}(s:Sat w (H1++[(b,o)]::H2)):Frame w (H1++[(b,o)]::H2) (ew w b o') (H1++[(b,o')]::H2)/\Sat (ew w b o') (H1++[(b,o')]::H2):=
 ⟨Frame.set (T1:=[]) (T2:=[]),Sat.set (T1:=[]) (T2:=[]) s⟩
omit [DecidableEq κ] in
theorem Lw{b:Nat}{m k:Array MapEntry}{j:Nat}{l:List (κ×β)}(z:ir encK encV m j M)(A:ir encK encV k j l)(x:k.toList.map (·.born)=m.toList.map (·.born))(y:l.map (·.1)=M.map (·.1)){q:Value}{todo:List κ}{o:aH}
  (h:It (sg [(b,.map m j)]) encK encV (.map (some b)) M q todo o):It (sg [(b,.map k j)]) encK encV (.map (some b)) l q todo o:=by
 obtain⟨s,C,t,r,n,g,d,i,u,v,w⟩:=h
 simp only[sg,abx,abp,Obj.map.injEq]at d
 obtain⟨rfl,rfl,rfl⟩:=d
 refine⟨s,k,t,r,n,g,by simp[sg],A,u,v,?_⟩
 rw[w]
 have B:∀(e c:List MapEntry) (N f:List (κ×β)),c.map (·.born)=e.map (·.born)->f.map (·.1)=N.map (·.1)->e.length=N.length->
   ((e.zip N).filter λp=> !n.contains p.1.born).map (·.2.1)=((c.zip f).filter λp=> !n.contains p.1.born).map (·.2.1):=by
  intro e
  induction e with
  |nil=>intro c N f g d i;cases c<;>simp_all
  |cons a e ih=>
   intro c N f g d i
   cases c with
   |nil=>simp at g
   |cons a' c=>cases N with
    |nil=>simp at i
    |cons p N=>cases f with
     |nil=>simp at d
     |cons p' f=>
      simp only[aa8,abL]at g d
      simp only[abq,Nat.add_right_cancel_iff]at i
      have:=ih c N f g.2 d.2 i
      simp only[List.zip_cons_cons,abY,g.1]
      split
      ·simp only[aa8,this,d.1]
      ·exact this
 exact B _ _ _ _ x y (z.kg.length)
theorem OQ{P:Program}{kt l t:TypeId}{key:κ}{x:β}{w:World}{b:Nat}{a:Array MapEntry}{d:Nat}(ut:bS P t (.map kt l))(g:fq P kt encK)(c:w.heap[b]? =some (.map a d))(h:ir encK encV a d M):
  ∃es' clock',(Instr.mapUpdate t (.map (some b)) (encK key) (encV x)).run P w=.ok () (ew w b (.map es' clock'))/\ir encK encV es' clock' (dD key x M)/\
   (key∈M.map (·.1)->clock'=d/\es'.toList.map (·.born)=a.toList.map (·.born)):=by
 obtain⟨r,k,s,f⟩:=h.find (P:=P) (kt:=kt) key w
 cases r with
 |none=>
  refine⟨_,_,?_,h.insert x f,λq=>absurd q f⟩
  unfold Instr.mapUpdate
  simp only[Sem.run_bind,run_underlying ut.h,Result.andThen_ok,l7 c,g.ck,k,qd c]
 |some jv=>
  obtain⟨j,v⟩:=jv
  obtain⟨m,e,n,o⟩:=f
  refine⟨_,_,?_,h.update x m,λ_=>⟨rfl,?_⟩⟩
  ·unfold Instr.mapUpdate
   simp only[Sem.run_bind,run_underlying ut.h,Result.andThen_ok,l7 c,g.ck,k,n,abi,Option.getD_some,o]
   have:(Instr.keyThatStays (encK key) (encK key)).run P w=.ok (encK key) w:=by
    unfold Instr.keyThatStays
    rw[g.same];rfl
   rw[this]
   simp only[Result.andThen_ok,qd c]
  ·apply abB;intro i
   simp only[abf,abT,abO]
   split
   ·rename_i p;subst p;cases a[j]? <;>simp
   ·rfl
theorem aO.update{t kt p:TypeId}{x y z:Operand}{key:κ}{u:β}(h:MS encK encV mp M T) [L:fA H T upd] [ut:bS P t (.map kt p)] [I:fq P kt encK](E:ev env x=some mp)(F:ev env y=some (encK key))(G:ev env z=some (encV u))
  (C:∀T',MS encK encV mp (dD key u M) T'->(key∈M.map (·.1)->∀it todo Ti,It (sg T) encK encV mp M it todo Ti->It (sg T') encK encV mp (dD key u M) it todo Ti)->aO false P N R ops l env (upd T') K):
  aO false P N R ops (⟨none,.mapUpdate t x y z,ty,pos,af,none⟩::l) env H K:=
 aO.qQ λa w e s S=>by
  obtain⟨b,o,m,rfl,rfl,i⟩:=h
  obtain⟨O,Q,n,g⟩:=L.h
  subst n
  have q:w.heap[b]? =some (.map o m):=s.2 (b,_) (by simp)
  obtain⟨d,c,D,k,A⟩:=OQ (P:=P) (key:=key) (x:=u) ut I q i
  obtain⟨f,J⟩:=nY (o':=.map d c) s
  refine⟨_,upd [(b,.map d c)],.inl ?_,by rw[g];exact f,by rw[g];exact J,C _ ⟨b,d,c,rfl,rfl,k⟩ λj it todo Ti B=>?_⟩
  ·simp[execOp,e.eval E,e.eval F,e.eval G,D]
  ·obtain⟨v,r⟩:=A j
   subst v
   exact Lw i k r (by rw[rD,aa7 j]) B
omit [DecidableEq κ] in
theorem aO.range{d:Nat}{x:Operand}{t kt k:TypeId}{e:aw}(h:RM e encK encV mp M)(v:∀b o,e b o->Rx R H b o)(y:ev env x=some mp) [ut:bS P t (.map kt k)]
  (u:∀it Ti,It e encK encV mp M it (M.map (·.1)) Ti->aO false P N R ops l ((d,it)::env) (Ti::H) K)(q:Nat.blt d N=true:=by rfl):
  aO false P N R ops (⟨some d,.range t x,ty,pos,af,none⟩::l) env H K:=
 aO.mv q λa w m s z=>by
  obtain⟨b,c,f,rfl,g,i⟩:=h
  have n:=oO s z _ _ (v _ _ g)
  refine⟨.pointer (some ⟨w.heap.size,0,none⟩),w.alloc (.mapIter (some b) f #[] f),_,?_,Frame.alloc w H _,Sat.alloc s _,u _ _ ⟨b,c,f,w.heap.size,#[],rfl,g,i,rfl,rfl,?_⟩⟩
  ·simp[execOp,m.eval y,Instr.range,run_underlying ut.h,l7 n,newObj,Sem.run]
  ·have r:(c.toList.zip M).filter (λp=> !(#[]:Array Nat).contains p.1.born)=c.toList.zip M:=by
    rw[List.filter_eq_self];intro p _;simp
   rw[r]
   have A:=i.kg.length
   have:(c.toList.zip M).map (·.2)=M:=List.map_snd_zip (by omega)
   have j:=abe (List.map (·.1)) this
   rw[List.map_map]at j
   exact j.symm
end
end
section
def marked(n:Nat):List Nat->Array Bool
 |[]=>Array.replicate n false
 |i::d=>(marked n d).setIfInBounds i true
def qw(Q':Act->World->Prop):Exit->Act->World->Prop
 | .normal,a,w=>Q' a w
 |_,_,_=>False
structure jZ(ops:Array Oper)(listed:Array Bool):Prop where
 size:listed.size=ops.size
 cl:∀j oj,ops[j]? =some oj->listed.getD j false=true->∀e∈oj.after,Region.binds .any e=true->listed.getD e.on false=true
theorem jZ.set{b:Array Oper}{a:Array Bool}{i:Nat}(h:jZ b a)(n:i∈Region.ready .any b a):jZ b (a.setIfInBounds i true):=by
 obtain⟨_,p,o,m⟩:=mem_ready.1 n
 refine⟨by simp[h.size],λj l g k e d c=>?_⟩
 by_cases f:i=j
 ·subst f
  have:l=p:=Option.some.inj (g.symm.trans o)
  subst this
  exact getD_set_true (m e d c)
 ·rw[getD_set_ne false f]at k
  exact getD_set_true (h.cl j l g k e d c)
def oY(ops:Array Oper):Nat->Nat->Nat->Bool
 |0,_,_=>false
 |f+1,k,i=>match ops[k]? with
  |some o=>o.after.any λe=>Region.binds .any e&&(Nat.beq e.on i||oY ops f e.on i)
  |none=>false
theorem jZ.waits{c:Array Oper}{b:Array Bool}(h:jZ c b){i:Nat}:∀(f k:Nat),oY c f k i=true->b.getD k false=true->b.getD i false=true
 |0,k,hw,_=>by simp[oY]at hw
 |f+1,k,hw,hk=>by
  unfold oY at hw
  cases ho:c[k]? with
  |none=>simp[ho]at hw
  |some o=>
   simp only[ho]at hw
   obtain⟨e,g,a⟩:=Array.any_eq_true'.1 hw
   simp only[abZ,Bool.or_eq_true]at a
   have d:=h.cl k o ho hk e g a.1
   rcases a.2 with h3|h3
   ·rwa [Nat.eq_of_beq_eq_true h3]at d
   ·exact h.waits f e.on h3 d
def sO(listed listed':Array Bool):Prop:=∀j,listed.getD j false=true->listed'.getD j false=true
def ql(P:Program)(ops:Array Oper)(Q:Exit->Act->World->Prop)(S:Array Bool->World->Prop):Nat->Array Bool->Act->World->Prop
 |0,listed,a,w=>Region.ready .any ops listed=[]/\Q .normal a w
 |fuel+1,listed,a,w=>
  (Region.ready .any ops listed=[]->Q .normal a w)/\
  ∀i∈Region.ready .any ops listed,wpOp P ops Q i (λa' w'=>S (listed.setIfInBounds i true) w'/\ql P ops Q S fuel (listed.setIfInBounds i true) a' w') a w
theorem u4{P:Program}{b:Array Oper}{Q:Exit->Act->World->Prop}{S:Array Bool->World->Prop}:∀(fuel:Nat) (listed:Array Bool) (a:Act) (w:World),ql P b Q S fuel listed a w->wpAny P .any b Q fuel listed a w
 |0,_,_,_,h=>h
 |fuel+1,_,_,_,h=>⟨h.1,λi e=>wpOp_mono (λc f d=>u4 fuel _ c f d.2) (h.2 i e)⟩
def jx(P:Program)(ops:Array Oper)(S:Array Bool->World->Prop)(listed:Array Bool)(i:Nat)(o:Oper)(v:Value)(a:Act):Prop:=
 (Region.wanted o (yielded ops a.tmps)=true/\∀l',sO listed l'->jZ ops l'->l'.getD i true=false->∀w,S l' w->(execOp a.eval o).run P w=.ok (.value v) w)\/
 (Region.wanted o (yielded ops a.tmps)=false/\v=undef)
section
variable{P:Program}{ops:Array Oper}{Q:Exit->Act->World->Prop}{S:Array Bool->World->Prop}
theorem jx.sup{c b:Array Bool}{i:Nat}{o:Oper}{v:Value}{a:Act}(h:jx P ops S c i o v a)(m:sO c b):jx P ops S b i o v a:=
 h.imp (λ⟨d,e⟩=>⟨d,λp l f g w n=>e p (λj k=>l j (m j k)) f g w n⟩) id
theorem jx.of_same{c:Array Bool}{i:Nat}{o:Oper}{v:Value}{a b:Act}(f:jx P ops S c i o v a)(d:execOp b.eval o=execOp a.eval o)
  (e:Region.wanted o (yielded ops b.tmps)=Region.wanted o (yielded ops a.tmps)):jx P ops S c i o v b:=by
 unfold jx at *
 rw[d,e]
 exact f
theorem jx.wpOp{i:Nat}{o:Oper}{v:Value}{a:Act}{b:Array Bool}(f:ops[i]? =some o)(k:jx P ops S b i o v a)(e:jZ ops b)(g:b.getD i true=false)
  {K:Act->World->Prop}{w:World}(d:S b w)(h:K (a.put o.dst v) w):wpOp P ops Q i K a w:=by
 unfold Go.wpOp
 simp only[f]
 rcases k with⟨c,j⟩|⟨c,rfl⟩
 ·simp only[c,abd,Oper.wp,j b (λ_ h=>h) e g w d,Oper.upon];exact .inl h
 ·simp only[c,abb,aba];exact h
theorem Qq{i j:Nat}{g k:Oper}{v:Value}{q:Array Bool}(D:ops[j]? =some k)(C:g.apart ops k=true)
  (F:∀cs b,g.op≠ .select cs b)(B:∀cs b,k.op≠ .select cs b)
  (z:∀c a w,Q (.panic c) (a.put g.dst v) w->Q (.panic c) a w){K:Act->World->Prop}{a:Act}{w:World}
  (l:jx P ops S q i g v a)(h:wpOp P ops Q j K (a.put g.dst v) w):
  wpOp P ops Q j (λa' w'=>jx P ops S q i g v a'/\K (a'.put g.dst v) w') a w:=by
 obtain⟨s,m,y⟩:=Oper.apart_spec C
 have o:∀(a:Act),jx P ops S q i g v a->∀u,jx P ops S q i g v (a.put k.dst u):=λa l u=>
  l.of_same (execOp_put g F a k.dst u y) (wanted_put g a k.dst u y)
 have G:∀d,jx P ops S q i g v {a with defers:=d::a.defers}:=λd=>l.of_same rfl rfl
 unfold Go.wpOp at *
 simp only[D]at *
 rw[wanted_put k a g.dst v s]at h
 split
 ·rename_i t
  simp only[t,abd]at h
  rcases h with h|⟨A,E⟩
  case inr=>exact .inr ⟨by unfold Oper.asks at *;rw[execOp_put k B a g.dst v s]at A;exact A,E⟩
  refine .inl ?_
  unfold Oper.wp at *
  rw[execOp_put k B a g.dst v s]at h
  generalize (execOp a.eval k).run P w=r at *
  cases r with
  |ok n w'=>
   cases n<;>simp only[Oper.upon]at h⊢
   case value u=>exact⟨o a l u,by rw[<-Act.put_comm a v u m];exact h⟩
   case skip=>exact⟨o a l _,by rw[<-Act.put_comm a v undef m];exact h⟩
   case defer d=>
    refine⟨o _ (G d) _,?_⟩
    rw[<-Act.put_comm _ v undef m, <-Act.put_defers]
    exact h
   case enter f args=>
    refine Calls.mono h λe H p=>?_
    cases e with
    |returned u=>exact⟨o a l u,by rw[<-Act.put_comm a v u m];exact p⟩
    |panicked c=>exact z _ _ _ p
    |outgrown=>exact p
   case row row args=>exact Rows.mono h λu H p=>⟨o a l u,by rw[<-Act.put_comm a v u m];exact p⟩
  |halt x w'=>
   cases x<;>simp only[Oper.upon]at h⊢
   case panic u=>exact z _ _ _ h
 ·rename_i t
  simp only[t]at h
  exact⟨o a l _,by rw[<-Act.put_comm a v undef m];exact h⟩
theorem Qp{i:Nat}{m:Oper}{v:Value}(y:∀l w,S (l.setIfInBounds i true) w↔S l w)(u:ops[i]? =some m)(G:∀(j:Nat) (o:Oper) cs b,ops[j]? =some o->o.op≠ .select cs b)
  (N:∀c a w,Q (.panic c) (a.put m.dst v) w->Q (.panic c) a w):
  ∀(fuel:Nat) (listed:Array Bool) (a:Act) (w:World),
   (∀j oj,ops[j]? =some oj->j≠i->listed.getD j true=false->(∀e∈oj.after,Region.binds .any e=true->e.on≠i)->m.apart ops oj=true)->
   i∈Region.ready .any ops listed->jZ ops listed->jx P ops S listed i m v a->S listed w->
   ql P ops Q S fuel (listed.setIfInBounds i true) (a.put m.dst v) w->ql P ops Q S (fuel+1) listed a w:=by
 intro fuel
 induction fuel with
 |zero=>
  intro listed a w _ d s t n H
  refine⟨λh=>(by rw[h]at d;cases d),λj p=>?_⟩
  by_cases f:j=i
  ·subst f;exact t.wpOp u s (mem_ready.1 d).1 n ⟨(y _ _).2 n,H⟩
  ·have:=ready_mono p f
   rw[H.1]at this
   cases this
 |succ fuel ih=>
  intro listed a w D d s t n H
  refine⟨λh=>(by rw[h]at d;cases d),λj p=>?_⟩
  by_cases f:j=i
  ·subst f;exact t.wpOp u s (mem_ready.1 d).1 n ⟨(y _ _).2 n,H⟩
  ·have g:=H.2 j (ready_mono p f)
   obtain⟨F,oj,x,O⟩:=mem_ready.1 p
   have a0:∀e∈oj.after,Region.binds .any e=true->e.on≠i:=λe U T V=>by
    have g:=O e U T
    have z:=(mem_ready.1 d).1
    rw[V]at g
    rcases abg i listed.size with h'|h'
    ·simp[h']at z g;rw[z]at g;cases g
    ·simp[Array.getElem?_eq_none h']at g
   have K:=Qq x (D j oj x f F a0) (λcs b=>G i m cs b u) (λcs b=>G j oj cs b x) N t g
   have W:∀k r,ops[k]? =some r->k≠i->(listed.setIfInBounds j true).getD k true=false->
     (∀e∈r.after,Region.binds .any e=true->e.on≠i)->m.apart ops r=true:=λk r X Y I Z=>by
    refine D k r X Y ?_ Z
    by_cases E:j=k
    ·subst E;exact F
    ·rw[getD_set_ne true E]at I;exact I
   have a1:sO listed (listed.setIfInBounds j true):=λq hq=>getD_set_true hq
   refine wpOp_mono (λJ w' L=>?_) K
   obtain⟨M,A,B⟩:=L
   rw[Array.setIfInBounds_comm _ _ (Ne.symm f)]at A B
   have C:=(y _ _).1 A
   exact⟨C,ih (listed.setIfInBounds j true) J w' W (ready_mono d (Ne.symm f)) (s.set p) (M.sup a1) C B⟩
end
def mg(R:aw)(Ho:aN)(Ms:List Nat)(l:Array Bool)(w:World):Prop:=
 (∀b o,R b o->w.heap[b]? =some o)/\((∀k∈Ms,l.getD k false=false)->Sat w Ho/\RO w R Ho)
theorem mg.same{R:aw}{c:aN}{b:List Nat}{i:Nat}(f:b.contains i=false)(l:Array Bool)(w:World):mg R c b (l.setIfInBounds i true) w↔mg R c b l w:=by
 have d:∀k∈b,i≠k:=λk a e=>by subst e;simp[a]at f
 unfold mg
 refine and_congr_right λ_=>?_
 have:(∀k∈b,(l.setIfInBounds i true).getD k false=false)↔∀k∈b,l.getD k false=false:=⟨λh k a=>by have:=h k a;rwa [getD_set_ne false (d k a)]at this,λh k a=>by rw[getD_set_ne false (d k a)];exact h k a⟩
 rw[this]
class kY(A B:aN):Prop where h:∃G:aH,B.flatten.Perm (A.flatten++G)
instance kY.refl(A:aN):kY A A:=⟨⟨[],by simp⟩⟩
instance kY.cons(A B:aN)(T:aH) [s:kY A B]:kY A (T::B):=⟨by
 obtain⟨G,h⟩:=s.h
 refine⟨T++G,?_⟩
 rw[abo]
 refine(h.append_left T).trans ?_
 rw[<-aa9, <-aa9]
 exact abn.append_right _⟩
theorem kY.sat{A B:aN}(s:kY A B){w:World}(h:Sat w B):Sat w A:=bp.sat s.h h
theorem kY.ro{A B:aN}(s:kY A B){w:World}{R:aw}(h:RO w R B):RO w R A:=λb o a=>⟨(h b o a).1,λp d=>by
 obtain⟨G,c⟩:=s.h
 exact(h b o a).2 p (c.mem_iff.2 (ab0 _ d))⟩
def RA(P:Program)(N:Nat)(R:aw)(ops:Array Oper)(Ho:aN)(Ms:List Nat)(done:List Nat)(env:Env)(H:aN)(K:Env->aN->Prop):Prop:=
 ∀(Q':Act->World->Prop) (w0:World) (H0:aN),(∀env' H' a' w',K env' H'->St N R a' w' env' H' w0 H0->Q' a' w')->
  jZ ops (marked ops.size done)->∀a w,St N R a w env H w0 H0->mg R Ho Ms (marked ops.size done) w->ql P ops (qw Q') (mg R Ho Ms) (ops.size-done.length) (marked ops.size done) a w
section
variable{P:Program}{N:Nat}{R:aw}{ops:Array Oper}{l:List Oper}{env:Env}{H Ho:aN}{Ms:List Nat}{K:Env->aN->Prop}{Q:Exit->Env->aN->Prop}{m:Bool}{done:List Nat}
theorem St.rq{a:Act}{w c:World}{b:aN}(is:List Nat)(s:St N R a w env H c b):St N (Rx R (rest is H)) a w env (take is H) w (take is H):=
 ⟨s.defers,s.size,s.env,(na s.sat).1,RO.split s.sat s.ro,Frame.refl _ _⟩
theorem St.back{a d:Act}{w g h:World}{c H':aN}{e:Env}(is:List Nat)(s:St N R a w env H h c)(b:St N (Rx R (rest is H)) d g e H' w (take is H)):St N R d g e (H'++rest is H) h c:=by
 obtain⟨i,f⟩:=oP s.sat b.sat b.fr
 exact⟨b.defers,b.size,b.env,i,s.ro.frame f,s.fr.trans f⟩
theorem aO.rq(is:List Nat)(h:aO m P N (Rx R (rest is H)) ops l env (take is H) λenv' H'=>K env' (H'++rest is H)):aO m P N R ops l env H K:=λb j f c a w s=>
 h b w (take is H) (λenv' H' g i d e=>c _ _ _ _ d (s.back is e)) a w (s.rq is)
theorem jZ.none(b:Array Oper):jZ b (marked b.size []):=⟨by simp[marked],λj d c a=>by
 simp only[marked,Array.getD_eq_getD_getElem?,Array.getElem?_replicate]at a
 split at a<;>simp at a⟩
theorem bF.zt{id:Nat}(is:List Nat)(i:List Nat)(q:P.follows .mixedOrders=true)(h:RA P N (Rx R (rest is H)) l.toArray (take is H) i [] env (take is H) λenv' H'=>Q .normal env' (H'++rest is H)):bF P N R (.region id l.toArray true) env H Q:=
 λj t g m a w s=>by
  have f:St N R a {w with drawn:=w.drawn+1} env H t g:=s.step (Frame.drew w H _) (s.sat.drew _)
  have c:=f.rq is
  have k:=h (j .normal) _ _ (λenv' H' u v p r=>m _ _ _ _ _ p (f.back is r)) (jZ.none _) a _ c ⟨λb o n=>(c.ro b o n).1,λ_=>⟨c.sat,c.ro⟩⟩
  refine wp_mono (wp_region_any q (u4 _ _ _ _ k)) λe a w d=>?_
  cases e with
  |normal=>exact d
  |_=>exact d.elim
theorem bF.dg{id:Nat}(g:List Nat)(p:P.follows .mixedOrders=true)(h:RA P N R l.toArray H g [] env H (Q .normal)):bF P N R (.region id l.toArray true) env H Q:=
 λi r f k a w s=>by
  have c:St N R a {w with drawn:=w.drawn+1} env H r f:=s.step (Frame.drew w H _) (s.sat.drew _)
  have j:=h (i .normal) _ _ (λv t u x n q=>k _ _ _ _ _ n q) (jZ.none _) a _ c ⟨λb o m=>(c.ro b o m).1,λ_=>⟨c.sat,c.ro⟩⟩
  refine wp_mono (wp_region_any p (u4 _ _ _ _ j)) λe a w d=>?_
  cases e with
  |normal=>exact d
  |_=>exact d.elim
theorem RA.nil(c:Region.ready .any ops (marked ops.size done)=[])(h:K env H):RA P N R ops Ho Ms done env H K:=λe f d b _ a w s _=>by
 cases ops.size-done.length with
 |zero=>exact⟨c,b _ _ _ _ h s⟩
 |succ n=>exact⟨λ_=>b _ _ _ _ h s,by rw[c];simp⟩
def tk(own:Bool)(ops:Array Oper)(Ms done:List Nat)(i:Nat):Bool:=
 Region.noSelect ops&&Region.free .any ops (marked ops.size done) i&&(Region.ready .any ops (marked ops.size done)).contains i&&Nat.blt done.length ops.size&& !Ms.contains i&&(!own||Ms.all λk=>oY ops ops.size k i)
theorem RA.su{dst:Option Nat}{op:Op}{ty:TypeId}{e:String}{d:Array Edge}{g:Option (Nat×Bool)}{v:Value}(u:Bool)(i:Nat)(q:ops[i]? =some ⟨dst,op,ty,e,d,g⟩)
  (U:∀a,eI a env->(Region.wanted ⟨dst,op,ty,e,d,g⟩ (yielded ops a.tmps)=true/\∀w,(∀b o,R b o->w.heap[b]? =some o)->(u=true->Sat w Ho/\RO w R Ho)->(execOp a.eval ⟨dst,op,ty,e,d,g⟩).run P w=.ok (.value v) w)\/
   (Region.wanted ⟨dst,op,ty,e,d,g⟩ (yielded ops a.tmps)=false/\v=undef))
  (m:tk u ops Ms done i=true)
  (J:∀a w w0 H0,St N R a w env H w0 H0->∃env',St N R (a.put dst v) w env' H w0 H0/\RA P N R ops Ho Ms (i::done) env' H K):RA P N R ops Ho Ms done env H K:=λx w0 H0 E n a w s p=>by
 simp only[tk,abZ]at m
 obtain⟨⟨⟨⟨⟨y,z⟩,A⟩,B⟩,C⟩,D⟩:=m
 have X:done.length<ops.size:=abk B
 have G:ops.size-done.length=(ops.size-(i::done).length)+1:=by simp only[abq];omega
 have j:Ms.contains i=false:=by simpa using C
 have h:i∈Region.ready .any ops (marked ops.size done):=by simpa using A
 rw[G]
 obtain⟨env',V,L⟩:=J a w w0 H0 s
 refine Qp (λl w=>mg.same j l w) q (Region.noSelect_spec y) (λc a w O=>O.elim) _ _ a w (Region.free_spec q z) h n ?_ p (L x w0 H0 E (n.set h) _ w V ((mg.same j _ _).2 p))
 refine(U a s.env).imp (λ⟨S,Q⟩=>⟨S,λt _ F f W r=>Q W r.1 λM=>r.2 λk I=>?_⟩) id
 subst M
 have T:oY ops ops.size k i=true:=by
  have:=D
  simp only[abK,Bool.false_or]at this
  exact List.all_eq_true.1 this k I
 cases hlk:t.getD k false with
 |false=>rfl
 |true=>
  have:=F.waits _ _ T hlk
  rcases abg i t.size with h'|h'
  ·simp[h']at this f;rw[this]at f;cases f
  ·simp[Array.getElem?_eq_none h']at this
theorem RA.take{d:Nat}{op:Op}{ty:TypeId}{e:String}{c:Array Edge}{v:Value}(i:Nat)(k:ops[i]? =some ⟨some d,op,ty,e,c,none⟩)(m:bo P R env [] op ty v)
  (h:tk false ops Ms done i=true)(l:RA P N R ops Ho Ms (i::done) ((d,v)::env) H K)(j:Nat.blt d N=true:=by rfl):RA P N R ops Ho Ms done env H K:=
 RA.su false i k (λa f=>.inl ⟨by simp[Region.wanted],λw n _=>m a w (some d) e c none f ⟨by simp,by simp⟩ (λb o g=>⟨n b o g,by simp⟩)⟩) h
  λa w q p s=>⟨_,s.put v j,l⟩
theorem RA.hZ{d:Nat}{op:Op}{ty:TypeId}{e:String}{b:Array Edge}{v:Value}(i:Nat)(j:ops[i]? =some ⟨some d,op,ty,e,b,none⟩)(l:bo P R env Ho op ty v)
  (g:tk true ops Ms done i=true)(k:RA P N R ops Ho Ms (i::done) ((d,v)::env) H K)(h:Nat.blt d N=true:=by rfl):RA P N R ops Ho Ms done env H K:=
 RA.su true i j (λa f=>.inl ⟨by simp[Region.wanted],λw _ c=>l a w (some d) e b none f (c rfl).1 (c rfl).2⟩) g
  λa w n m s=>⟨_,s.put v h,k⟩
theorem RA.P0{d j t:Nat}{g:Bool}{op:Op}{ty:TypeId}{f:String}{b:Array Edge}{v:Value}(i:Nat)(l:ops[i]? =some ⟨some d,op,ty,f,b,some (j,g)⟩)(p:Env.get? env t=some (.bool g))(o:bo P R env Ho op ty v)
  (h:tk true ops Ms done i=true)(n:RA P N R ops Ho Ms (i::done) ((d,v)::env) H K)(m:jS ops j=some t:=by rfl)(k:Nat.blt d N=true:=by rfl):RA P N R ops Ho Ms done env H K:=
 RA.su true i l (λa c=>.inl ⟨by simp[Region.wanted,sE c m p],λw _ e=>o a w (some d) f b _ c (e rfl).1 (e rfl).2⟩) h
  λa w r q s=>⟨_,s.put v k,n⟩
theorem RA.PZ{d j t:Nat}{c b:Bool}{op:Op}{ty:TypeId}{q:String}{e:Array Edge}(i:Nat)(l:ops[i]? =some ⟨some d,op,ty,q,e,some (j,c)⟩)(p:Env.get? env t=some (.bool b))(g:(b==c)=false)
  (h:tk false ops Ms done i=true)(n:RA P N R ops Ho Ms (i::done) ((d,undef)::env) H K)(m:jS ops j=some t:=by rfl)(k:Nat.blt d N=true:=by rfl):RA P N R ops Ho Ms done env H K:=by
 have o:¬b=c:=by simpa using g
 exact RA.su false i l (λa f=>.inr ⟨by simp[Region.wanted,sE f m p,o],rfl⟩) h
  λa w u r s=>⟨_,s.put undef k,n⟩
theorem Qj{o:Oper}{a:Act}{w:World}{f g:Act->World->Prop}{i:Act->World->Prop}{j:Exit->Act->World->Prop}(d:∀a w,f a w->g a w)(h:o.wp P a w f (qw i)):o.wp P a w g j:=by
 unfold Oper.wp at *
 generalize (execOp a.eval o).run P w=r at *
 cases r with
 |ok n w'=>
  cases n<;>simp only[Oper.upon]at h⊢ <;>first
   |exact d _ _ h
   |exact Calls.mono h (λe l b=>by
     cases e with
     |returned v=>exact d _ _ b
     |panicked c=>exact b.elim
     |outgrown=>obtain⟨a,w,k⟩:=b;exact k.elim)
   |exact Rows.mono h (λ_ _ b=>d _ _ b)
 |halt x w'=>cases x<;>simp only[Oper.upon]at h⊢ <;>exact h.elim
theorem RA.op{o:Oper}{a:Act}{w f:World}{b:aN}{i:Act->World->Prop}{c:Act->World->Prop}{g:Env->aN->Prop}(k:Nat)(d:ops[k]? =some o)(h:aO false P N R ops [o] env H g)
  (j:∀env' H' a' w',g env' H'->St N R a' w' env' H' f b->c a' w')(s:St N R a w env H f b):wpOp P ops (qw i) k c a w:=by
 have h1:=h (qw c) f b (λenv' H' a' w' d l=>j _ _ _ _ d l) a w s
 unfold wpOp
 simp only[d]
 simp only[wpList]at h1
 split
 ·rename_i e
  rw[aa7 e]at h1
  rcases h1 with h1|⟨_,m,n,h1⟩
  ·exact .inl (Qj (λ_ _ h=>h) h1)
  ·exact h1.elim
 ·rename_i e
  rw[aa6 e]at h1
  exact h1
theorem Lb{l:Array Bool}{i:Nat}(a:i<l.size):(l.setIfInBounds i true).getD i false=true:=by simp[a]
def Next(P:Program)(N:Nat)(R:aw)(ops:Array Oper)(Ho:aN)(Ms:List Nat)(done:List Nat)(K:Env->aN->Prop)(i:Nat)(env':Env)(H':aN):Prop:=
 (((i::done).any λk=>Ms.contains k&&Nat.blt k ops.size)=true\/kY Ho H')/\RA P N R ops Ho Ms (i::done) env' H' K
theorem yw(n:Nat):∀l,(marked n l).size=n
 |[]=>by simp[marked]
 |i::l=>by simp[marked,yw n l]
theorem yv{n k:Nat}(a:k<n):∀{l:List Nat},k∈l->(marked n l).getD k false=true
 |i::l,h=>by
  rcases abc.1 h with rfl|h
  ·exact Lb (by rw[yw];exact a)
  ·exact getD_set_true (yv a h)
theorem Next.mod{i:Nat}(a:((i::done).any λk=>Ms.contains k&&Nat.blt k ops.size)=true)(h:RA P N R ops Ho Ms (i::done) env H K):Next P N R ops Ho Ms done K i env H:=⟨.inl a,h⟩
theorem Next.sub{i:Nat}(h:RA P N R ops Ho Ms (i::done) env H K)(a:kY Ho H:=by infer_instance):Next P N R ops Ho Ms done K i env H:=⟨.inr a,h⟩
theorem RA.z7(is:List Nat)(j:Region.ready .any ops (marked ops.size done)=is)(A:is≠[])(z:Nat.blt done.length ops.size=true)
  (h:∀i∈is,∃o,ops[i]? =some o/\aO false P N R ops [o] env H (Next P N R ops Ho Ms done K i)):RA P N R ops Ho Ms done env H K:=λn E m t x a w s I=>by
 have J:done.length<ops.size:=abk z
 have y:∀i,ops.size-done.length=(ops.size-(i::done).length)+1:=λi=>by simp only[abq];omega
 rw[y 0]
 refine⟨λr=>absurd (j▸r) A,λk f=>?_⟩
 obtain⟨o,C,u⟩:=h k (j▸f)
 refine RA.op k C u (λG F p l g c=>?_) s
 have e:mg R Ho Ms ((marked ops.size done).setIfInBounds k true) l:=by
  refine⟨λb o v=>(c.ro b o v).1,λB=>?_⟩
  rcases g.1 with hm|hs
  ·obtain⟨q,D,hm⟩:=List.any_eq_true.1 hm
   simp only[abZ]at hm
   have d:=B q (by simpa using hm.1)
   rw[show(marked ops.size done).setIfInBounds k true=marked ops.size (k::done)from rfl,yv (abk hm.2) D]at d
   cases d
  ·exact⟨hs.sat c.sat,hs.ro c.ro⟩
 exact⟨e,g.2 n E m t (x.set f) p l c e⟩
theorem RA.step{o:Oper}(i:Nat)(a:ops[i]? =some o)(d:Region.ready .any ops (marked ops.size done)=[i])(c:Nat.blt done.length ops.size=true)
  (h:aO false P N R ops [o] env H (Next P N R ops Ho Ms done K i)):RA P N R ops Ho Ms done env H K:=
 RA.z7 [i] d (by simp) c λk b=>by
  obtain rfl:k=i:=by simpa using b
  exact⟨o,a,h⟩
theorem RA.kR{a b:Oper}(i j:Nat)(e:ops[i]? =some a)(f:ops[j]? =some b)(h:Region.ready .any ops (marked ops.size done)=[i,j])(g:Nat.blt done.length ops.size=true)
  (c:aO false P N R ops [a] env H (Next P N R ops Ho Ms done K i))(d:aO false P N R ops [b] env H (Next P N R ops Ho Ms done K j)):RA P N R ops Ho Ms done env H K:=
 RA.z7 [i,j] h (by simp) g λk hk=>by
  rcases abc.1 hk with rfl|hk
  ·exact⟨a,e,c⟩
  ·obtain rfl:k=j:=by simpa using hk
   exact⟨b,f,d⟩
end
section
variable{P:Program}{N:Nat}{R:aw}{ops:Array Oper}{l:List Oper}{env:Env}{H:aN}{K:Env->aN->Prop}{Q:Exit->Env->aN->Prop}{m:Bool}{ty:TypeId}
theorem aO.gT{j t:Nat}{b d:Bool}{dst:Option Nat}{op:Op}{ty:TypeId}{c:String}{a:Array Edge}(e:b=d)(g:aO m P N R ops (⟨dst,op,ty,c,a,none⟩::l) env H K)(f:jS ops j=some t:=by rfl)(h:Env.get? env t=some (.bool b):=by rfl):
  aO m P N R ops (⟨dst,op,ty,c,a,some (j,d)⟩::l) env H K:=aO.gt (by rw[h,e]) g f
theorem aO.gF{j t d:Nat}{b a:Bool}{op:Op}{ty:TypeId}{k:String}{c:Array Edge}(e:b= !a)(h:aO m P N R ops l ((d,undef)::env) H K)(g:jS ops j=some t:=by rfl)(i:Env.get? env t=some (.bool b):=by rfl)(f:Nat.blt d N=true:=by rfl):
  aO m P N R ops (⟨some d,op,ty,k,c,some (j,a)⟩::l) env H K:=aO.gf i (by subst e;cases a<;>rfl) h g f
theorem aO.split{t:Nat}{b:Bool}(d:Env.get? env t=some (.bool b))(c:b=true->aO m P N R ops l env H K)(a:b=false->aO m P N R ops l env H K):aO m P N R ops l env H K:=by
 cases b
 ·exact a rfl
 ·exact c rfl
theorem bo.aZ{c x y:Operand}{b:Bool}{u:Value}(a:b=true)(d:ev env c=some (.bool b):=by rfl)(e:ev env x=some u:=by rfl):bo P R env H (.pick c x y) ty u:=by
 subst a;exact bo.ca d e
theorem bo.aX{c x y:Operand}{b:Bool}{v:Value}(a:b=false)(d:ev env c=some (.bool b):=by rfl)(e:ev env y=some v:=by rfl):bo P R env H (.pick c x y) ty v:=by
 subst a;exact bo.cb d e
theorem bF.eQ{c:Operand}{x y:Code}(h:bF P N R x env H Q)(a:ev env c=some (.bool true):=by rfl):bF P N R (.cond c x y) env H Q:=bF.cond a (λ_=>h) (λh=>by cases h)
theorem bF.bQ{c:Operand}{x y:Code}(h:bF P N R y env H Q)(a:ev env c=some (.bool false):=by rfl):bF P N R (.cond c x y) env H Q:=bF.cond a (λh=>by cases h) (λ_=>h)
theorem RA.split{e:Array Oper}{a:aN}{c d:List Nat}{t:Nat}{b:Bool}(h:Env.get? env t=some (.bool b))(g:b=true->RA P N R e a c d env H K)(f:b=false->RA P N R e a c d env H K):RA P N R e a c d env H K:=by
 cases b
 ·exact f rfl
 ·exact g rfl
def rb{X:Type}(I:X->Prop)(e:X->Env)(h:X->aN)(Q:Exit->Env->aN->Prop):Exit->Env->aN->Prop
 | .normal,env,H=>∃x,I x/\dK env (e x)/\bp H (h x)
 |ex,env,H=>Q ex env H
theorem bF.cut{X:Type}{c:Code}(I:X->Prop)(e:X->Env)(h:X->aN)(k:bF P N R c env H (rb I e h Q))(j:∀x,I x->Q .normal (e x) (h x)):bF P N R c env H Q:=λi p g b a w s=>
 k i p g (λl t q r u d f=>by
  cases l with
  |normal=>obtain⟨x,m,n,o⟩:=d;exact b _ _ _ _ _ (j x m) (f.le n o)
  |_=>exact b _ _ _ _ _ d f) a w s
theorem aG{X:Type}{I:X->Prop}{e:X->Env}{h:X->aN}(x:X)(a:I x)(b:dK env (e x))(c:bp H (h x)):rb I e h Q .normal env H:=⟨x,a,b,c⟩
theorem gW{X:Type}{I:X->Prop}{e:X->Env}{h:X->aN}(a:Q .ret env H):rb I e h Q .ret env H:=a
theorem aW{X:Type}{I:X->Prop}{e:X->Env}{h:X->aN}{μ:X->Nat}{n:Nat}(x:X)(a:I x)(d:μ x<n)(b:dK env (e x))(c:bp H (h x)):pS (λenv' H'=>∃x',I x'/\μ x'<n/\dK env' (e x')/\bp H' (h x')) Q .normal env H:=⟨x,a,d,b,c⟩
theorem bo.inc{x y:Operand}{t u:TypeId}{n:Nat}(c:n<9223372036854775807)(a:ev env x=some (.int .i64 (n:Int)):=by rfl)(b:ev env y=some (.int .i64 1):=by rfl):bo P R env H (.binOp .add t x y u) ty (.int .i64 ((n+1:Nat):Int)):=by
 have h:=bo.add (P:=P) (R:=R) (H:=H) (ty:=ty) (t:=t) (u:=u) a b
 have:IntKind.i64.wrap ((n:Int)+1)=((n+1:Nat):Int):=by
  rw[IntWalk.i64_in _ (by omega)];omega
 rw[this]at h
 exact h
theorem aO.hole(h:aO m P N R ops l env H K):aO m P N R ops l env H K:=h
end
section
variable{P:Program}{N:Nat}{R:aw}{ops:Array Oper}{l:List Oper}{env:Env}{H:aN}{K:Env->aN->Prop}{Q:Exit->Env->aN->Prop}{m:Bool}{d:Nat}{ty:TypeId}{pos:String}{af:Array Edge}{x:Operand}
theorem aO.mo{v:Value}(h:ev env x=some v)(b:aO m P N R ops l ((d,v)::env) H K)(a:Nat.blt d N=true:=by rfl):aO m P N R ops (⟨some d,.move x,ty,pos,af,none⟩::l) env H K:=.q (.move h) b a
theorem aO.ag{v:Value}(h:ev env x=some v)(b:aO m P N R ops l ((d,v)::env) H K)(a:Nat.blt d N=true:=by rfl):aO m P N R ops (⟨some d,.assign x,ty,pos,af,none⟩::l) env H K:=.q (.assign h) b a
theorem aO.lo{t:TypeId}{p u:Value}{vs r:List Value}(e:ev env x=some p) [f:cR P t false] [rc:RC R H p vs](b:aO m P N R ops l ((d,u)::env) H K)(c:vs=u::r:=by rfl)(a:Nat.blt d N=true:=by rfl):aO m P N R ops (⟨some d,.load t x,ty,pos,af,none⟩::l) env H K:=.q (.cO e c) b a
theorem aO.nc{p:Value}{vs:List Value}(c:ev env x=some p) [rc:RC R H p vs](b:aO m P N R ops l ((d,p)::env) H K)(a:Nat.blt d N=true:=by rfl):aO m P N R ops (⟨some d,.nilCheck x,ty,pos,af,none⟩::l) env H K:=.q (.nilCheck c) b a
theorem aO.fa{s:TypeId}{f off:Nat}{p:Value}{vs:List Value}(c:ev env x=some p) [e:ba P s f off] [rc:RC R H p vs](b:aO m P N R ops l ((d,jy p off)::env) H K)(a:Nat.blt d N=true:=by rfl):aO m P N R ops (⟨some d,.fieldAddr s x f,ty,pos,af,none⟩::l) env H K:=.q (.fieldAddr c) b a
theorem aO.zn{y:Code}(h:bF P N R y env H Q):aO m P N R ops [] env H (kQ P N R y Q .normal):=.nil (ay h)
theorem aO.zs{y z:Code}(h:bF P N R z env H (kQ P N R y Q)):aO m P N R ops [] env H (kQ P N R (.seq z y) Q .normal):=.nil (ay (.seq h))
theorem aO.z{y:Code}{id:Nat}(h:aO false P N R l.toArray l env H (kQ P N R y Q .normal)):aO m P N R ops [] env H (kQ P N R (.seq (.region id l.toArray false) y) Q .normal):=.nil (ay (.seq (.region h)))
theorem aO.gX{op:Op}{j t:Nat}{a b:Bool}(g:aO m P N R ops l ((d,undef)::env) H K)(f:jS ops j=some t:=by rfl)(h:Env.get? env t=some (.bool b):=by rfl)(c:(b==a)=false:=by rfl)(e:Nat.blt d N=true:=by rfl):aO m P N R ops (⟨some d,op,ty,pos,af,some (j,a)⟩::l) env H K:=.gf h c g f e
theorem aO.az{v:Value}{y:Code}(h:ev env x=some v)(b:bF P N R y ((d,v)::env) H Q)(a:Nat.blt d N=true:=by rfl):aO m P N R ops [⟨some d,.assign x,ty,pos,af,none⟩] env H (kQ P N R y Q .normal):=.q (.assign h) (.nil (ay b)) a
theorem bF.sr{y:Code}{id:Nat}(h:aO false P N R l.toArray l env H (kQ P N R y Q .normal)):bF P N R (.seq (.region id l.toArray false) y) env H Q:=.seq (.region h)
theorem bF.kn{y:Code}(h:bF P N R y env H Q):bF P N R .skip env H (kQ P N R y Q):=.skip (ay h)
end
end
section
theorem PC.of{R:aw}{b:Nat}{vs:List Value}{E:TypeId}{fr:Nat×Nat}(h:R b (.cells vs.toArray E fr)):PC R (.pointer (some ⟨b,0,none⟩)) vs:=
 (RC.here (R:=R) (H:=[]) (b:=b) (vs:=vs) (E:=E) (fr:=fr)).h.mono λa o h'=>by
  rcases h' with h'|h'
  ·exact h'
  ·simp at h';obtain⟨rfl,rfl⟩:=h';exact h
instance PC.rc{R:aw}{H:aN}{p:Value}{vs:List Value} [h:RC R H p vs]:PC (Rx R H) p vs:=h.h
section
variable{P:Program}{N:Nat}{R R':aw}{ops:Array Oper}{l:List Oper}{env:Env}{H:aN}{K:Env->aN->Prop}{T:aH}{upd:aH->aN}
theorem Spec.at{f:FuncId}{m:List Value}{H1 H2:aN}{T:aH}{Post:Value->aH->Prop}(h:Spec P f m R' [T] λv H'=>∃T',H'=[T']/\Post v T')(C:∀b o,R' b o->R b o):Spec P f m R (H1++T::H2) λv H'=>∃T',H'=H1++T'::H2/\Post v T':=λw D s=>by
 have g:(H1++T::H2).flatten.Perm ([T]++(H1++H2)).flatten:=by
  simp only[abu,abo,abP,abl]
  rw[<-aa9, <-aa9]
  exact abn.append_right _
 have k:Sat w ([T]++(H1++H2)):=D.perm g
 have y:take [0] ([T]++(H1++H2))=[T]:=rfl
 have n:rest [0] ([T]++(H1++H2))=H1++H2:=rfl
 have F:RO w R ([T]++(H1++H2)):=λb o c=>⟨(s b o c).1,λp d=>(s b o c).2 p (g.mem_iff.2 d)⟩
 obtain⟨u,G,x⟩:=na (is:=[0]) k
 have l:=RO.split (is:=[0]) k F
 rw[y]at u l x;rw[n]at l G x
 refine(h w u λb o c=>l b o (.inl (C b o c))).mono λe H ⟨v,H',i,⟨T',z,j⟩,E,A⟩=>?_
 subst z
 obtain⟨t,a⟩:=oP (is:=[0]) (H':=[T']) k E A
 rw[n]at t a
 have r:([T']++(H1++H2)).flatten.Perm (H1++T'::H2).flatten:=by
  simp only[abu,abo,abP,abl]
  rw[<-aa9, <-aa9]
  exact abn.append_right _
 refine⟨v,_,i,⟨T',rfl,j⟩,t.perm r,⟨a.le,λb c B=>a.iS b c λp d=>B p (g.mem_iff.2 d),λp d=>?_,a.os,a.output,a.tape⟩⟩
 rcases a.ke p (r.mem_iff.2 d)with⟨q,j,i⟩|hge
 ·exact .inl ⟨q,g.mem_iff.2 j,i⟩
 ·exact .inr hge
theorem aO.aR{d:Nat}{ty:TypeId}{k:String}{a:Array Edge}{f:FuncId} [e:aT P f]{xs:List Operand}{b:Array TypeId}{vs:List Value}{Post:Value->Prop}
  (j:Spec P f vs (Rx R H) [] λv H'=>Post v/\H'=[])(i:∀v,Post v->aO false P N R ops l ((d,v)::env) H K)(hxs:jf env xs=some vs:=by rfl)(h:Nat.blt d N=true:=by rfl):
  aO false P N R ops (⟨some d,.call ⟨.value (.func f),xs.toArray,b⟩,ty,k,a,none⟩::l) env H K:=
 aO.call [] j (λv H' ⟨c,g⟩=>by subst g;exact i v c) hxs h
theorem aO.dq{d:Nat}{ty:TypeId}{k:String}{a:Array Edge}{f:FuncId} [e:aT P f]{xs:List Operand}{b:Array TypeId}{vs:List Value}{Post:Value->aH->Prop}
  (j:Spec P f vs (Rx R H) [] λv H'=>∃T,H'=[T]/\Post v T)(i:∀v T,Post v T->aO false P N R ops l ((d,v)::env) (T::H) K)(hxs:jf env xs=some vs:=by rfl)(h:Nat.blt d N=true:=by rfl):
  aO false P N R ops (⟨some d,.call ⟨.value (.func f),xs.toArray,b⟩,ty,k,a,none⟩::l) env H K:=
 aO.call [] j (λv H' ⟨T,c,g⟩=>by subst c;exact i v T g) hxs h
theorem uT:∀(H:aN),take (H.map λ_=>0) H=H
 |[]=>rfl
 |T::r=>by simp only[aa8,take,bK,List.getD_cons_zero,uT r]
theorem qa:∀(H:aN),rest (H.map λ_=>0) H=[]
 |[]=>rfl
 |T::r=>by simp only[aa8,rest,bK,qa r]
theorem aO.Bg{dst:Option Nat}{op:Op}{ty:TypeId}{e:String}{c:Array Edge}{f:FuncId}{vs:List Value}{Post:Value->aH->Prop} [q:fA H T upd]
  (p:∀a w,eI a env->(execOp a.eval ⟨dst,op,ty,e,c,none⟩).run P w=.ok (.enter f vs.toArray) w)
  (n:Spec P f vs R' [T] λv H'=>∃T',H'=[T']/\Post v T')(m:∀b o,R' b o->R b o)
  (k:∀v T',Post v T'->match dst with
   |some d=>Nat.blt d N=true/\aO false P N R ops l ((d,v)::env) (upd T') K
   |none=>aO false P N R ops l env (upd T') K):
  aO false P N R ops (⟨dst,op,ty,e,c,none⟩::l) env H K:=by
 obtain⟨H1,H2,g,i⟩:=q.h
 refine .qM (H.map λ_=>0) (Post:=λv H'=>∃T',H'=H1++T'::H2/\Post v T') p ?_ ?_
 ·rw[uT,qa]
  have:=Spec.at (H1:=H1) (H2:=H2) n m
  rw[<-g]at this
  exact this.weaken λb o j=>.inl j
 ·intro v H' ⟨T',e1,e2⟩
  rw[qa,abl,e1, <-i]
  exact k v T' e2
theorem aO.cr{d:Nat}{ty:TypeId}{n:String}{b:Array Edge}{f:FuncId} [e:aT P f]{xs:List Operand}{c:Array TypeId}{vs:List Value}{Post:Value->aH->Prop}
  (m:Spec P f vs R [T] λv H'=>∃T',H'=[T']/\Post v T')(j:∀v T',Post v T'->aO false P N R ops l ((d,v)::env) (upd T') K) [o:fA H T upd](hxs:jf env xs=some vs:=by rfl)(i:Nat.blt d N=true:=by rfl):
  aO false P N R ops (⟨some d,.call ⟨.value (.func f),xs.toArray,c⟩,ty,n,b,none⟩::l) env H K:=
 aO.Bg (λa w g=>uE hxs a w g) m (λ_ _ h=>h) (λv T' k=>⟨i,j v T' k⟩)
theorem K0{cs zs:List Value}{k:Nat}(h:zs.length=k)(b:cs.length=k):gV ((List.range 1).map λi=>(i*k,k)) zs [(0,.agg cs.toArray)]=some cs:=by
 subst b
 have e:Nat.ble cs.length cs.length=true:=Nat.ble_eq_true_of_le (abr _)
 have a:zs.drop cs.length=[]:=List.drop_eq_nil_of_le (by omega)
 simp[gV,iH,h,List.range_succ,e,a]
theorem KZ{v:Value}{zs:List Value}(c:aq v=true)(h:zs.length=1):gV ((List.range 1).map λi=>(i*1,1)) zs [(0,v)]=some [v]:=by
 have a:zs.drop 1=[]:=List.drop_eq_nil_of_le (by omega)
 have b:zs.tail=[]:=by rw[<-List.drop_one];exact a
 cases v<;>simp_all[gV,iH,List.range_succ,aq]
theorem aO.ez{d:Nat}{T E:TypeId}{k:Nat}{z:Value}{cs:List Value}{x:Operand}{ty:TypeId}{j:String}{a:Array Edge} [ut:bS P T (.slice E)] [sz:Sz P E k] [m:Zr P E z]
  (g:∀b,aO false P N R ops l ((d,.slice (some ⟨b,0,none⟩) 1 1)::env) ([(b,.cells cs.toArray E (0,0))]::H) K)(i:ev env x=some (.agg cs.toArray):=by rfl)(f:cs.length=k:=by rfl)(h:Nat.ble (1*k) (2^24)=true:=by rfl)(e:Nat.beq (1*k) 0=false:=by rfl)(c:Nat.blt d N=true:=by rfl):
  aO false P N R ops (⟨some d,.buildSlice T 1 [(0,x)].toArray,ty,j,a,none⟩::l) env H K:=
 aO.buildSlice (z:=z) (zs:=((Array.range (1*k)).map (z.cells[· % z.cells.size]!)).toList) (parts:=[(0,.agg cs.toArray)]) h e rfl (by simp[mw,i]) (K0 (by simp) f) g c
theorem aO.jB{d:Nat}{T E:TypeId}{z v:Value}{x:Operand}{ty:TypeId}{g:String}{a:Array Edge} [ut:bS P T (.slice E)] [sz:Sz P E 1] [i:Zr P E z] [o:One v]
  (e:∀b,aO false P N R ops l ((d,.slice (some ⟨b,0,none⟩) 1 1)::env) ([(b,.cells [v].toArray E (0,0))]::H) K)(f:ev env x=some v:=by rfl)(c:Nat.blt d N=true:=by rfl):
  aO false P N R ops (⟨some d,.buildSlice T 1 [(0,x)].toArray,ty,g,a,none⟩::l) env H K:=
 aO.buildSlice (z:=z) (zs:=((Array.range (1*1)).map (z.cells[· % z.cells.size]!)).toList) (parts:=[(0,v)]) rfl rfl rfl (by simp[mw,f]) (KZ o.h (by simp)) e c
theorem RA.bH{c:aN}{a b:List Nat}{d:Nat}{x y:Operand}{t e E:TypeId}{sz:Nat}{α:Type}{enc:α->List Value}{v:Value}{xs:List α}{ty:TypeId}{B:String}{g:Array Edge}{k:IntKind}{j:Int}{z:α}(i:Nat)(n:ops[i]? =some ⟨some d,.indexAddr t x y,ty,B,g,none⟩)(q:Nat)(h:OS E sz enc v xs T)(f:xs[q]? =some z) [ut:bS P t (.slice e)] [s:Sz P e sz]
  (w:ev env x=some v)(A:ev env y=some (.int k j))(o:j=(q:Int))(l:tk false ops a b i=true)(r:PS T (fB v (q*sz)) (enc z)->RA P N R ops c a (i::b) ((d,fB v (q*sz))::env) H K)(m:Nat.blt d N=true:=by rfl):
  RA P N R ops c a b env H K:=
 RA.take i n (bo.bI q (h.rs (R:=sg T) λp u=>u) f w A o) l (r ⟨h.pc f⟩) m
theorem bo.oC{ty:TypeId}{x:Operand}{p:Value}{b:Addr}(f:ev env x=some p)(e:p=.pointer (some b):=by rfl):bo P R env H (.nilCheck x) ty p:=λa w d i h g c _ _=>by
 subst e
 simp[execOp,c.eval f]
theorem bo.gA{ty:TypeId}{x:Operand}{s:TypeId}{f off:Nat}{p:Value}{b:Addr}(j:ev env x=some p) [c:ba P s f off](i:p=.pointer (some b):=by rfl):bo P R env H (.fieldAddr s x f) ty (jy p off):=λa w d l k g e _ _=>by
 subst i
 have:=c.h b w
 simp[execOp,e.eval j,this,jy]
end
end
section
section
variable{P:Program}{N:Nat}{R R':aw}{ops:Array Oper}{l:List Oper}{env:Env}{H:aN}{K:Env->aN->Prop}{T:aH}{upd:aH->aN}{ty:TypeId}{pos:String}{af:Array Edge}{α:Type}
def rU(sz lo hi:Nat)(p:Option Addr)(cap:Nat):Value:=.slice (if cap=lo then p else p.map (·.add (lo*sz))) (hi-lo) (cap-lo)
theorem OS.shape{E:TypeId}{sz:Nat}{enc:α->List Value}{v:Value}{xs:List α}(h:OS E sz enc v xs T):∃p cap,v=.slice p xs.length cap/\xs.length<=cap:=by
 rcases h.h with⟨a,d,_⟩|⟨b,f,c,cap,a,_,e,_⟩
 ·exact⟨none,0,by rw[a,d];rfl,by simp[d]⟩
 ·exact⟨_,cap,a,e⟩
theorem OS.head{E:TypeId}{sz n cap:Nat}{p:Option Addr}{enc:α->List Value}{xs:List α}(h:OS E sz enc (.slice p n cap) xs T)(lo:Nat)(l:lo<=xs.length):OS E sz enc (rU sz 0 lo p cap) (xs.take lo) T:=by
 have m:(xs.take lo).length=lo:=by simp;omega
 refine⟨λx e=>h.len x (abU e),λx e=>h.one x (abU e),?_⟩
 rcases h.h with⟨a,d,f⟩|⟨b,o,c,q,a,d,f,i,j,k⟩
 ·cases a
  subst d
  obtain rfl:lo=0:=by simpa using l
  exact .inl ⟨by simp[rU],by simp,f⟩
 ·cases a
  refine .inr ⟨b,o,c,cap,?_,d,by omega,i,j,by simpa using k.piece h.len 0 lo⟩
  rw[m]
  by_cases g:cap=0
  ·simp[rU,g]
  ·simp[rU,g,Addr.add]
theorem Row.dh{c:Array Value}{off k:Nat}{cs vs:List Value}(h:Row c off cs)(f:off+cs.length<=k)(e:k+vs.length<=c.size):Row (Go.Proofs.YtenilfmlfldogaaGreatDoor.dh c.toList k vs).toArray off cs:=λj d=>by
 have a:=h j d
 have b:=uK (vs:=c.toList) (cs:=vs) (off:=k) (by simpa using e) (off+j)
 simp only[abh]
 rw[b,aa7 (by omega)]
 simpa using a
theorem OJ(n:Nat){t e:TypeId}{w:World}{p:Option Addr}{a c b d:Nat}(ut:P.underlying t=some (.slice e)):(Op.equalIn (n+1) t (.slice p a c) (.slice none b d)).run P w=.ok p.isNone w:=by
 cases p<;>simp[Op.equalIn,run_underlying ut]
theorem bo.qT{x y:Operand}{t u e n c:Nat}{p:Option Addr}{k f:Nat}(i:ev env x=some (.slice p n c))(j:ev env y=some (.slice none k f)) [ut:bS P t (.slice e)]:bo P R env H (.binOp .eql t x y u) ty (.bool p.isNone):=λa w d m l g b _ _=>
 uF (op:=.move x) (b.eval i) (b.eval j) (oo rfl) rfl (OJ _ ut.h)
theorem aO.qK{d:Nat}{T E k:Nat} [ut:bS P T (.slice E)] [sz:Sz P E k](g:∀b,aO false P N R ops l ((d,.slice (some ⟨b,0,none⟩) 0 0)::env) ([(b,.cells [].toArray E (0,0))]::H) K)(f:Nat.blt d N=true:=by rfl):
  aO false P N R ops (⟨some d,.buildSlice T 0 [].toArray,ty,pos,af,none⟩::l) env H K:=
 aO.fresh (v:=λb=>.slice (some ⟨b,0,none⟩) 0 0) f (λa w i s j=>⟨w.drawn,by
  have c:(execOp a.eval ⟨some d,.buildSlice T 0 [].toArray,ty,pos,af,none⟩)=(do pure (.value (<-Instr.buildSlice T 0 #[]))):=by
   show(do pure (Next.value (<-Instr.buildSlice T 0 ((#[]:Array (Nat×Operand)).map λx:Nat×Operand=>(x.1,a.eval x.2)))))=_
   rw[Array.map_empty]
  rw[c]
  have e:((Array.range 0).map λx=>(default:Value))= #[]:=by apply Array.eq_empty_of_size_eq_zero;simp
  simp[Instr.buildSlice,run_underlying ut.h,sz.h,Instr.fill,lU,e]⟩) g
theorem OS.empty{E sz b:Nat}{enc:α->List Value}:OS E sz enc (.slice (some ⟨b,0,none⟩) 0 0) ([]:List α) [(b,.cells [].toArray E (0,0))]:=
 ⟨by simp,by simp,.inr ⟨b,0,_,0,rfl,rfl,by simp,by simp,by simp,λk a=>by simp at a⟩⟩
theorem RS.rI{sz n c:Nat}{enc:α->List Value}{xs:List α}(h:RS R sz enc (.slice none n c) xs):xs=[]:=by
 obtain⟨p,e,a,_,_,h4⟩:=h.h
 cases a
 rcases h4 with h4|⟨b,g,c,E,f,d,_⟩
 ·exact h4
 ·cases d
end
end
section
section
variable{P:Program}{N:Nat}{R R':aw}{ops:Array Oper}{l:List Oper}{env:Env}{H:aN}{K:Env->aN->Prop}{T:aH}{upd:aH->aN}{ty:TypeId}{pos:String}{af:Array Edge}
def mj(P:Program)(D:aw)(t:TypeId)(v:Value)(name:String)(f:FuncId)(r:Value):Prop:=
 ∀w,(∀b o,D b o->w.heap[b]? =some o)->(Go.method (P.types.size+Made.depth) t v name).run P w=.ok (f,r) w
theorem mj.mono{D a:aw}{t:TypeId}{v:Value}{name:String}{f:FuncId}{r:Value}(h:mj P D t v name f r)(d:∀b o,D b o->a b o):mj P a t v name f r:=λw e=>h w λb o c=>e b o (d b o c)
def o0(P:Program)(t:TypeId)(v:Value)(name:String)(vs:List Value)(R:aw)(T:aH)(Post:Value->aH->Prop):Prop:=
 ∃f r,mj P (Rx R [T]) t v name f r/\aT P f/\Spec P f (r::vs) R [T] λu H'=>∃T',H'=[T']/\Post u T'
theorem o0.weaken{t:TypeId}{v:Value}{name:String}{vs:List Value}{Post:Value->aH->Prop}(h:o0 P t v name vs R' T Post)(a:∀b o,R' b o->R b o):o0 P t v name vs R T Post:=by
 obtain⟨f,r,c,d,e⟩:=h
 exact⟨f,r,c.mono λb o g=>g.imp (a b o) id,d,e.weaken a⟩
theorem bo.i64{op:Op}{z:Int}(c:Int)(h:bo P R env H op ty (.int .i64 (IntKind.i64.wrap z)))(e:z=c/\ -9223372036854775808<=c/\c<=9223372036854775807):bo P R env H op ty (.int .i64 c):=by
 obtain⟨rfl,a,b⟩:=e
 rw[IntWalk.i64_in _ (by omega)]at h
 exact h
theorem P4{j:Nat}:((j:Int)-1).tdiv 2=(((j-1)/2:Nat):Int):=by
 rcases Nat.eq_zero_or_pos j with h|h
 ·subst h;decide
 ·rw[Int.tdiv_eq_ediv_of_nonneg (by omega)];omega
theorem mj.ptr{D:aw}{t e:TypeId}{v:Value}{name:String}{f:FuncId}{c:TypeInfo}(k:∀w,(typeInfo t).run P w=.ok c w)(d:(c.methods.find? (·.name==name)).map (λm=>(m.path.isEmpty,m.func))=some (true,some (f,true)))
  (l:bS P t (.pointer e))(b:Nat.beq P.types.size 0=false):mj P D t v name f v:=λw _=>by
 obtain⟨n,i⟩:∃n,P.types.size+Made.depth=n+1:=⟨P.types.size+Made.depth-1,by have:P.types.size≠0:=λe=>(by rw[e]at b;cases b);omega⟩
 rw[i]
 obtain⟨m,g,a⟩:=Option.map_eq_some_iff.1 d
 simp only[abp]at a
 have j:m.path= #[]:=by simpa using a.1
 unfold Go.method
 simp[k,g,j,a.2,follow,receiverAt,run_underlying l.h,Place.get]
theorem OR{b:Array TypeId}{t:TypeId}{a:Addr}{s m:ByteArray}{w:World}:(Builtin.ssaWrapNilChk_ b t #[.pointer (some a),.string s,.string m]).run P w=.ok (.pointer (some a)) w:=rfl
theorem mj.val{D:aw}{t e:TypeId}{v u:Value}{us:List Value}{name:String}{f:FuncId}{g:TypeInfo}(y:∀w,(typeInfo t).run P w=.ok g w)(q:(g.methods.find? (·.name==name)).map (λm=>(m.path.isEmpty,m.func))=some (true,some (f,false)))
  (z:bS P t (.pointer e))(d:Nat.beq P.types.size 0=false)(i:cR P e false)(o:PC D v (u::us)):mj P D t v name f u:=λw A=>by
 obtain⟨n,s⟩:∃n,P.types.size+Made.depth=n+1:=⟨P.types.size+Made.depth-1,by have:P.types.size≠0:=λe=>(by rw[e]at d;cases d);omega⟩
 rw[s]
 obtain⟨m,r,a⟩:=Option.map_eq_some_iff.1 q
 simp only[abp]at a
 have x:m.path= #[]:=by simpa using a.1
 obtain⟨b,B,c,E,C,rfl,l,p⟩:=o.h
 have j:=p 0 (by simp)
 have k:w.cell? ⟨b,B,none⟩=some u:=by
  simp[World.cell?,A _ _ l]
  simpa using j
 unfold Go.method
 simp only[Sem.run_bind,y,Result.andThen_ok,r,x,a.2,follow,receiverAt,Sem.run_pure,Array.isEmpty_empty,abd]
 simp only[run_underlying z.h,Result.andThen_ok,Place.get,Sem.run_bind,Sem.run_pure,strVal,OR,asAddr,loadVar,i.h,zF k,abb,aba]
end
end
section
variable{α:Type}
def dS(L:List α)(i k:Nat):List α:=match L[i]?,L[k]? with
 |some x,some y=>(L.set i y).set k x
 |_,_=>L
theorem jr{L:List α}{i k:Nat}{x y:α}(a:L[i]? =some x)(b:L[k]? =some y):dS L i k=(L.set i y).set k x:=by simp[dS,a,b]
theorem sq{L:List α}{i k:Nat}:(dS L i k).length=L.length:=by
 unfold dS;split<;>simp
theorem js{L:List α}{i k:Nat}(c:i<L.length)(d:k<L.length)(j:Nat):(dS L i k)[j]? =if j=k then L[i]? else if j=i then L[k]? else L[j]? :=by
 rw[jr (abm c) (abm d),abX,abX]
 by_cases a:k=j
 ·subst a;simp[d,abm c]
 ·by_cases b:i=j
  ·subst b
   simp[a,Ne.symm a,c,abm d]
  ·simp[a,b,Ne.symm a,Ne.symm b]
theorem PY{L:List α}{i k:Nat}:(dS L i k).Perm L:=by
 unfold dS
 split
 ·rename_i x y a b
  obtain⟨c,rfl⟩:=abJ.1 a
  obtain⟨d,rfl⟩:=abJ.1 b
  exact List.set_set_perm c d
 ·exact .refl _
structure SO(lt:α->α->Bool):Prop where
 lN:∀x,lt x x=false
 tr:∀x y z,lt x y=true->lt y z=true->lt x z=true
 lV:∀x y z,lt x y=false->lt y z=false->lt x z=false
theorem SO.qG{lt:α->α->Bool}(h:SO lt){x y:α}(a:lt x y=true):lt y x=false:=by
 cases hy:lt y x with
 |false=>rfl
 |true=>have:=h.tr _ _ _ a hy;rw[h.lN]at this;cases this
def dl(k:Nat):Nat:=(k-1)/2
def gl(lt:α->α->Bool)(L:List α)(a k:Nat):Prop:=∀x y,L[a]? =some x->L[k]? =some y->lt y x=false
def mO(lt:α->α->Bool)(L:List α)(n:Nat):Prop:=∀k,0<k->k<n->gl lt L (dl k) k
structure Up(lt:α->α->Bool)(L:List α)(n j:Nat):Prop where
 e:∀k,0<k->k<n->k≠j->gl lt L (dl k) k
 b:∀k,0<k->k<n->dl k=j->0<j->gl lt L (dl j) k
structure sH(lt:α->α->Bool)(L:List α)(n i:Nat):Prop where
 e:∀k,0<k->k<n->k≠i->dl k≠i->gl lt L (dl k) k
 b:∀k,0<k->k<n->dl k=i->0<i->gl lt L (dl i) k
theorem jH{k:Nat}(h:0<k):dl k<k:=by unfold dl;omega
section
variable{lt:α->α->Bool}{L:List α}{n i j:Nat}
theorem Up.stop(h:Up lt L n j)(c:gl lt L (dl j) j):mO lt L n:=λk b d=>by
 by_cases a:k=j
 ·subst a;exact c
 ·exact h.e k b d a
theorem gl.jU{b:List α}{a k c k':Nat}(h:gl lt L a k)(d:b[c]? =L[a]?)(e:b[k']? =L[k]?):gl lt b c k':=λx y f g=>h x y (d▸f) (e▸g)
theorem sH.stop(h:sH lt L n i)(g:∀c,0<c->c<n->dl c=i->gl lt L i c):Up lt L n i:=
 ⟨λk f d j=>by
  by_cases a:dl k=i
  ·rw[a];exact g k f d a
  ·exact h.e k f d j a,h.b⟩
theorem mO.hole(o:SO lt)(h:mO lt L n)(r:n<=L.length){e:List α}(c:∀k,k<n->k≠i->e[k]? =L[k]?):sH lt e n i:=by
 refine⟨λk b a m d=>?_,λk b a d g=>?_⟩
 ·have:=jH b
  exact(h k b a).jU (c _ (by omega) d) (c _ a m)
 ·have p:=jH b
  have q:=jH g
  intro u v j l
  rw[c _ (by omega) (by omega)]at j
  rw[c _ a (by omega)]at l
  have f:L[i]? =some (L[i]'(by omega)):=abm _
  exact o.lV _ _ _ (h k b a _ v (by rw[d];exact f) l) (h i g (by omega) u _ j f)
theorem mO.push(h:mO lt L L.length)(x:α):Up lt (L++[x]) (L.length+1) L.length:=by
 refine⟨λk a c d=>?_,λk a c e _=>?_⟩
 ·have b:=jH a
  refine(h k a (by omega)).jU ?_ ?_<;>rw[abI (by omega)]
 ·have b:=jH a
  omega
theorem mO.jU{a:List α}(h:mO lt L n)(d:∀k,k<n->a[k]? =L[k]?):mO lt a n:=λk b c=>by
 have:=jH b
 exact(h k b c).jU (d _ (by omega)) (d _ c)
end
end
section
theorem bp.trans{A B C:aN}(h:bp A B)(a:bp B C):bp A C:=by
 obtain⟨G,h⟩:=h
 obtain⟨b,a⟩:=a
 refine⟨b++G,h.trans ?_⟩
 rw[<-aa9]
 exact a.append_right G
theorem RS.Mn{α:Type}{R:aw}{b n E sz:Nat}{cs:List Value}{fr:Nat×Nat}{enc:α->List Value}{xs:List α}(a:R b (.cells cs.toArray E fr))(c:xs.flatMap enc=cs)(d:∀x∈xs,(enc x).length=sz)(ho:∀x∈xs,∀u∈enc x,Go.Proofs.YtenilfmlfldogaaGreatDoor.aq u=true)(f:xs.length=n:=by rfl)(e:Nat.ble n 9223372036854775807=true:=by rfl):
  RS R sz enc (.slice (some ⟨b,0,none⟩) n n) xs:=
 ⟨d,ho,_,n,by rw[f],by omega,by have:=abk e;unfold maxLen;omega,.inr ⟨b,0,_,E,fr,rfl,a,λk g=>by subst c;simp⟩⟩
theorem RS.lits{α:Type}{R:aw}{H:aN}{b n E sz:Nat}{cs:List Value}{fr:Nat×Nat}{enc:α->List Value}{xs:List α}(a:xs.flatMap enc=cs)(c:∀x∈xs,(enc x).length=sz)(ho:∀x∈xs,∀u∈enc x,Go.Proofs.YtenilfmlfldogaaGreatDoor.aq u=true)(e:xs.length=n:=by rfl)(d:Nat.ble n 9223372036854775807=true:=by rfl):
  RS (Rx R ([(b,.cells cs.toArray E fr)]::H)) sz enc (.slice (some ⟨b,0,none⟩) n n) xs:=RS.Mn (E:=E) (fr:=fr) (.inr (by simp)) a c ho e d
def idx{α:Type}:Nat->List α->List (Nat×α)
 |_,[]=>[]
 |i,x::l=>(i,x)::idx (i+1) l
theorem K1{a:List (Nat×Nat)}{zs:List Value}{i off:Nat}{v:Value}{r:List (Nat×Value)}(d:a[i]? =some (off,1))(e:aq v=true)(c:off+1<=zs.length):gV a zs ((i,v)::r)=gV a (dh zs off [v]) r:=by
 have b:Nat.ble (off+1) zs.length=true:=Nat.ble_eq_true_of_le c
 simp only[gV,d]
 cases v<;>first|(cases e;done)|simp[b]
theorem xk{n:Nat}:∀(vs zs:List Value) (i:Nat),i+vs.length=n->zs.length=n->(∀v∈vs,aq v=true)->gV ((List.range n).map λi=>(i*1,1)) zs (idx i vs)=some (zs.take i++vs)
 |[],zs,i,h,hz,_=>by
  simp only[idx,gV,abl]
  rw[ab1 (by simp at h;omega)]
 |v::vs,zs,i,h,hz,ho=>by
  simp only[abq]at h
  have b:((List.range n).map λi=>(i*1,1))[i]? =some (i*1,1):=by
   rw[abf,List.getElem?_range (by omega)];rfl
  simp only[idx]
  rw[K1 b (ho v (by simp)) (by omega),xk vs _ (i+1) (by omega) (by rw[oT (by simp;omega)];exact hz) λu c=>ho u (by simp[c])]
  simp only[iH,Nat.mul_one,aa9]
  rw[List.take_append,ab1 (by simp;omega)]
  have a:i+1-(zs.take i).length=1:=by rw[abt];omega
  rw[a];simp
theorem K2{n:Nat}{vs zs:List Value}(b:vs.length=n)(a:zs.length=n)(ho:∀v∈vs,aq v=true):gV ((List.range n).map λi=>(i*1,1)) zs (idx 0 vs)=some vs:=by
 rw[xk vs zs 0 (by omega) a ho];simp
section
variable{P:Program}{N:Nat}{R R':aw}{ops:Array Oper}{l:List Oper}{env:Env}{H:aN}{K:Env->aN->Prop}{Q:Exit->Env->aN->Prop}{T:aH}{upd:aH->aN}{ty:TypeId}{pos:String}{af:Array Edge}{m:Bool}
theorem Spec.iS{f:FuncId}{b:List Value}{Post:Value->Prop}(h:Spec P f b (Rx R H) [] λv H'=>Post v/\H'=[]):Spec P f b R H λv H'=>Post v/\H'=H:=λw a j=>by
 obtain⟨n,o,p⟩:=na (is:=[]) a
 refine(h w n (RO.split (is:=[]) a j)).mono λe q ⟨v,H',d,⟨i,c⟩,k,g⟩=>?_
 subst c
 obtain⟨l,m⟩:=oP (is:=[]) a k g
 exact⟨v,H,d,⟨i,rfl⟩,l,m⟩
theorem o0.iS{t:TypeId}{v r:Value}{name:String}{vs:List Value}{f:FuncId}{Post:Value->Prop}(c:mj P (Rx R [T]) t v name f r) [e:aT P f](h:Spec P f (r::vs) (Rx R [T]) [] λv H'=>Post v/\H'=[]):o0 P t v name vs R T λu T'=>Post u/\T'=T:=
 ⟨f,r,c,e,h.iS.mono λu H' ⟨a,b⟩=>⟨T,b,a,rfl⟩⟩
theorem PS.of{b:Nat}{vs:List Value}{E:TypeId}{fr:Nat×Nat}(h:(b,.cells vs.toArray E fr)∈T):PS T (.pointer (some ⟨b,0,none⟩)) vs:=⟨PC.of h⟩
theorem aO.v8{d:Nat}{T E n:Nat}{z:Value}{xs:List (Nat×Operand)}(vs:List Value) [ut:bS P T (.slice E)] [sz:Sz P E 1] [j:Zr P E z]
  (f:∀b,aO false P N R ops l ((d,.slice (some ⟨b,0,none⟩) n n)::env) ([(b,.cells vs.toArray E (0,0))]::H) K)
  (i:mw env xs=some (idx 0 vs):=by rfl)(e:vs.length=n:=by rfl)(ho:∀v∈vs,Go.Proofs.YtenilfmlfldogaaGreatDoor.aq v=true:=by simp[Go.Proofs.YtenilfmlfldogaaGreatDoor.aq])(h:Nat.ble (n*1) (2^24)=true:=by rfl)(c:Nat.beq (n*1) 0=false:=by rfl)(g:(idx 0 vs).all (λp=>Nat.blt p.1 n)=true:=by rfl)(a:Nat.blt d N=true:=by rfl):
  aO false P N R ops (⟨some d,.buildSlice T n xs.toArray,ty,pos,af,none⟩::l) env H K:=
 aO.buildSlice (z:=z) (zs:=((Array.range (n*1)).map (z.cells[· % z.cells.size]!)).toList) (parts:=idx 0 vs) h c rfl i (K2 e (by simp) ho) f a g
theorem Spec.rq{f:FuncId}{b:List Value}{Post:Value->aN->Prop}(is:List Nat)(h:Spec P f b (Rx R (rest is H)) (take is H) Post):Spec P f b R H λv H'=>∃H1,H'=H1++rest is H/\Post v H1:=λw a i=>by
 obtain⟨m,n,o⟩:=na (is:=is) a
 refine(h w m (RO.split a i)).mono λe p ⟨v,H',c,g,j,d⟩=>?_
 obtain⟨k,l⟩:=oP a j d
 exact⟨v,_,c,⟨H',rfl,g⟩,k,l⟩
theorem Spec.flat{f:FuncId}{a:List Value}{Post:Value->aN->Prop}(h:Spec P f a R H λv H'=>∃H1 T',H'=H1/\H1.flatten.Perm T'/\Post v [T']):Spec P f a R H Post:=λw l k=>
 (h w l k).mono λe n ⟨v,H',d,⟨H1,T',c,i,j⟩,m,g⟩=>by
  subst c
  have b:bp H' [T']:=⟨[],by simpa using i⟩
  exact⟨v,[T'],d,j,b.sat m,g.trans (b.frame n)⟩
theorem aO.sub{H':aN}(e:bp H H')(h:aO m P N R ops l env H' K):aO m P N R ops l env H K:=λc f b d a w s=>h c f b d a w (s.le (dK.refl env) e)
theorem bp.eu{H H':aN}(h:H.flatten.Perm H'.flatten):bp H H':=⟨[],by simpa using h⟩
theorem OO{t:TypeId}{s:ByteArray}{lo d:Nat}{i e:Option Operand}{a:Act}{w:World}(p:eI a env) [ut:bS P t .string](f:jl env i 0 lo)(b:jl env e s.size d)(j:lo<=d)(l:d<=s.size):
  (Instr.sliceAt t (.string s) (i.map a.eval) (e.map a.eval) none).run P w=.ok (.string (s.extract lo d)) w:=by
 have c:∀{x:Operand} {k:IntKind} {y n:Nat} {code:BoundsCode},ev env x=some (.int k n)->n<=y->(Instr.sliceBound (a.eval x) y code).run P w=.ok n w:=λu r=>run_sliceBound (p.eval u) r
 unfold Instr.sliceAt
 simp only[Sem.run_bind,run_underlying ut.h,Result.andThen_ok]
 unfold Instr.slice
 simp only[Sem.run_bind,run_underlying ut.h,Result.andThen_ok]
 unfold Instr.sliceBounds
 cases i with
 |none=>
  simp only[jl]at f
  subst f
  cases e with
  |none=>simp only[jl]at b;subst b;simp
  |some o=>obtain⟨k,g⟩:=b;simp[c g l]
 |some q=>
  obtain⟨v,m⟩:=f
  cases e with
  |none=>simp only[jl]at b;subst b;simp[c m j]
  |some o=>obtain⟨k,g⟩:=b;simp[c g l,c m j]
theorem bo.jK{x:Operand}{f e:Option Operand}{t:TypeId}{s:ByteArray}(lo b:Nat) [ut:bS P t .string](h:jl env f 0 lo)(i:jl env e s.size b)(j:lo<=b)(k:b<=s.size)(l:ev env x=some (.string s):=by rfl):
  bo P R env H (.slice t x f e none) ty (.string (s.extract lo b)):=λa w d n m g c _ _=>by
 have:=OO (P:=P) (w:=w) (s:=s) c h i j k (t:=t)
 simp only[execOp,c.eval l,Option.map_none]
 rw[Sem.run_bind,this]
 rfl
theorem aO.fY{d t:Nat}{f:FuncId}{first captured:List Value} [e:aT P f]{xs:List Operand}{a:Array TypeId}{vs:List Value}{Post:Value->Prop}
  (i:Spec P f (first++vs++captured) (Rx R H) [] λv H'=>Post v/\H'=[])(g:∀v,Post v->aO false P N R ops l ((d,v)::env) H K)
  (j:Env.get? env t=some (.func (.func f) first.toArray captured.toArray):=by rfl)(hxs:jf env xs=some vs:=by rfl)(c:Nat.blt d N=true:=by rfl):
  aO false P N R ops (⟨some d,.call ⟨.value (.tmp t),xs.toArray,a⟩,ty,pos,af,none⟩::l) env H K:=
 aO.Bh [] (first:=first) (captured:=captured) j i (λv H' h=>by obtain⟨b,rfl⟩:=h;exact g v b) hxs c
theorem Qv{a:Act}{j t:Nat}(c:eI a env)(b:jS ops j=some t)(d:Env.get? env t=some undef):yielded ops a.tmps j=none:=by
 unfold jS at b
 have:=c t _ d
 simp[yielded,b,this,undef]
theorem aO.du{j t d:Nat}{c:Bool}{op:Op}(o:Env.get? env t=some undef)(n:aO m P N R ops l ((d,undef)::env) H K)(k:jS ops j=some t:=by rfl)(i:Nat.blt d N=true:=by rfl):
  aO m P N R ops (⟨some d,op,ty,pos,af,some (j,c)⟩::l) env H K:=λf p e g a w s=>by
 have b:¬Region.wanted ⟨some d,op,ty,pos,af,some (j,c)⟩ (yielded ops a.tmps)=true:=by
  simp[Region.wanted,Qv s.env k o]
 have h:=n f p e g _ w (s.put undef i)
 cases m
 ·simp only[wpList]
  rw[aa6 b]
  exact h
 ·simp only[wpStill]
  rw[aa6 b]
  exact h
theorem aO.nZ{d:Nat}{x:Operand}{c b:Option Operand}{t e:TypeId}{sz:Nat}{α:Type}{enc:α->List Value}{v:Value}{xs:List α}(lo a:Nat)(h:RS R' sz enc v xs) [ut:bS P t (.slice e)] [s:Sz P e sz](i:jl env c 0 lo)(j:jl env b xs.length a)(k:lo<=a)(n:a<=xs.length)
  (p:∀v',RS R' sz enc v' ((xs.drop lo).take (a-lo))->aO m P N R ops l ((d,v')::env) H K)(r:ev env x=some v:=by rfl)(o:Nat.blt d N=true:=by rfl):
  aO m P N R ops (⟨some d,.slice t x c b none,ty,pos,af,none⟩::l) env H K:=by
 obtain⟨v',f,g⟩:=bo.nZ (P:=P) (R:=R) (H:=H) (ty:=ty) (t:=t) lo a h i j k n r
 exact aO.q g (p v' f) o
end
end
section
section
variable{P:Program}{N:Nat}{R R':aw}{ops:Array Oper}{l:List Oper}{env:Env}{H:aN}{K:Env->aN->Prop}{Q:Exit->Env->aN->Prop}{T:aH}{upd:aH->aN}{ty:TypeId}{pos:String}{af:Array Edge}{m:Bool}
theorem bo.cast{op:Op}{v v':Value}(h:bo P R env H op ty v)(e:v=v'):bo P R env H op ty v':=e▸h
theorem RS.left{α:Type}{T1 T2:aH}{sz:Nat}{enc:α->List Value}{v:Value}{xs:List α}(h:RS (sg T1) sz enc v xs):RS (sg (T1++T2)) sz enc v xs:=h.mono λb o a=>ab0 _ a
theorem OS.sg{α:Type}{E sz:Nat}{enc:α->List Value}{v:Value}{xs:List α}(h:OS E sz enc v xs T):RS (Go.Proofs.YtenilfmlfldogaaGreatDoor.sg T) sz enc v xs:=h.rs λ_ a=>a
theorem RA.iJ{a:aN}{c e:List Nat}{d j t:Nat}{f b:Bool}{op:Op}{v:Value}(i:Nat)(l:ops[i]? =some ⟨some d,op,ty,pos,af,some (j,f)⟩)(p:Env.get? env t=some (.bool b))(g:b=f)(o:bo P R env a op ty v)
  (h:tk true ops c e i=true)(n:RA P N R ops a c (i::e) ((d,v)::env) H K)(m:jS ops j=some t:=by rfl)(k:Nat.blt d N=true:=by rfl):RA P N R ops a c e env H K:=
 RA.P0 i l (g▸p) o h n m k
end
abbrev bl(b:Nat)(cs:List Value)(t:TypeId):aH:=[(b,.cells cs.toArray t (0,0))]
abbrev sZ:Value:=.slice none 0 0
abbrev pT(b:Nat):Value:=.pointer (some ⟨b,0,none⟩)
abbrev iN(n:Nat):Value:=.int .i64 (n:Int)
section
variable{P:Program}{N:Nat}{R:aw}{ops:Array Oper}{l:List Oper}{env:Env}{H Ho:aN}{Ms done:List Nat}{K:Env->aN->Prop}{m:Bool}{d:Nat}{ty:TypeId}{pos:String}{af:Array Edge}
theorem aO.ia{op:Op}{z:Int}(c:Nat)(h:bo P R env H op ty (.int .i64 (IntKind.i64.wrap z)))(b:aO m P N R ops l ((d,.int .i64 ((c:Nat):Int))::env) H K)(e:z=(c:Int)/\ -9223372036854775808<=(c:Int)/\(c:Int)<=9223372036854775807:=by(refine⟨?_,?_,?_⟩<;>omega))(a:Nat.blt d N=true:=by rfl):aO m P N R ops (⟨some d,op,ty,pos,af,none⟩::l) env H K:=.q (.i64 (c:Int) h e) b a
theorem RA.tK{op:Op}{v:Value}(i:Nat)(c:ops[i]? =some ⟨some d,op,ty,pos,af,none⟩)(f:bo P R env [] op ty v)(e:RA P N R ops Ho Ms (i::done) ((d,v)::env) H K)(a:tk false ops Ms done i=true:=by kernel_rfl)(b:Nat.blt d N=true:=by rfl):RA P N R ops Ho Ms done env H K:=.take i c f a e b
theorem RA.tO{op:Op}{v:Value}(i:Nat)(c:ops[i]? =some ⟨some d,op,ty,pos,af,none⟩)(f:bo P R env Ho op ty v)(e:RA P N R ops Ho Ms (i::done) ((d,v)::env) H K)(a:tk true ops Ms done i=true:=by kernel_rfl)(b:Nat.blt d N=true:=by rfl):RA P N R ops Ho Ms done env H K:=.hZ i c f a e b
theorem RA.sT{o:Oper}(i:Nat)(a:ops[i]? =some o)(h:aO false P N R ops [o] env H (Next P N R ops Ho Ms done K i))(c:Region.ready .any ops (marked ops.size done)=[i]:=by kernel_rfl)(b:Nat.blt done.length ops.size=true:=by rfl):RA P N R ops Ho Ms done env H K:=.step i a c b h
theorem aM{Post:Value->aN->Prop}{t:Nat}{v:Value}(h:Env.get? env t=some v)(a:Post v []):rY P R [.tmp t] Post .ret env H:=bu v (.one (.tmp h)) (.none _) a
theorem cZ:∀b o,R b o->Rx R H b o:=λ_ _ h=>.inl h
end
theorem cF{a b:Nat}(h:decide ((a:Int)<(b:Int))=true):a<b:=by have:=of_decide_eq_true h;omega
theorem jh{a b:Nat}(h:decide ((a:Int)<(b:Int))=false):b<=a:=by have:=of_decide_eq_false h;omega
theorem cm{α:Type}{l:List α}{i:Nat}(h:i<l.length):∃x,l[i]? =some x:=⟨_,abm h⟩
theorem bE{α:Type}{l:List α}{i:Nat}(h:i<l.length):l[i]? =some l[i]:=abm h
theorem aV{α:Type}{l:List α}{i:Nat}{a:α}(h:l[i]? =some a):a∈l:=aby h
theorem cq{p:Prop} [i:Decidable p](h:decide p=true):p:=of_decide_eq_true h
theorem bC{p:Prop} [i:Decidable p](h:decide p=false):¬p:=of_decide_eq_false h
theorem rH{H:aN}:bp H H:=.refl _
theorem aQ(is:List Nat){H:aN}:bp H (take is H):=.pick is H
end
section
variable{α:Type}
inductive RP(a b:Nat):List α->List α->Prop
 |refl (xs:List α):RP a b xs xs
 |step {xs ys:List α} {i j:Nat}:RP a b xs ys->a<=i->i<b->a<=j->j<b->b<=ys.length->RP a b xs (dS ys i j)
section
variable{a b a' b':Nat}{xs ys zs:List α}
theorem RP.length(h:RP a b xs ys):ys.length=xs.length:=by
 induction h with
 |refl=>rfl
 |step _ _ _ _ _ _ ih=>rw[sq,ih]
theorem RP.perm(h:RP a b xs ys):ys.Perm xs:=by
 induction h with
 |refl=>exact .refl _
 |step _ _ _ _ _ _ ih=>exact PY.trans ih
theorem RP.out(h:RP a b xs ys){k:Nat}(c:k<a\/b<=k):ys[k]? =xs[k]? :=by
 induction h with
 |refl=>rfl
 |step _ h1 h2 h3 h4 h5 ih=>rw[js (by omega) (by omega),aa6 (by omega),aa6 (by omega),ih]
theorem RP.all(h:RP a b xs ys){p:α->Prop}(f:∀(k:Nat) (x:α),a<=k->k<b->xs[k]? =some x->p x):∀(k:Nat) (x:α),a<=k->k<b->ys[k]? =some x->p x:=by
 induction h with
 |refl=>exact f
 |step _ h1 h2 h3 h4 h5 ih=>
  intro k x d e c
  rw[js (by omega) (by omega)]at c
  split at c
  ·exact ih _ x h1 h2 c
  ·split at c
   ·exact ih _ x h3 h4 c
   ·exact ih k x d e c
theorem RP.trans(h:RP a b xs ys)(c:RP a b ys zs):RP a b xs zs:=by
 induction c with
 |refl=>exact h
 |step _ h1 h2 h3 h4 h5 ih=>exact .step ih h1 h2 h3 h4 h5
theorem RP.mono(h:RP a b xs ys)(c:a'<=a)(d:b<=b')(e:b'<=xs.length):RP a' b' xs ys:=by
 induction h with
 |refl=>exact .refl _
 |step h0 h1 h2 h3 h4 h5 ih=>exact .step ih (by omega) (by omega) (by omega) (by omega) (by rw[h0.length];omega)
theorem RP.one{i j:Nat}(c:a<=i)(d:i<b)(e:a<=j)(f:j<b)(g:b<=xs.length):RP a b xs (dS xs i j):=.step (.refl xs) c d e f g
end
section
variable{lt:α->α->Bool}{a b a0 b0 mid:Nat}{xs ys zs:List α}
def SR(lt:α->α->Bool)(xs:List α)(a b:Nat):Prop:=∀i j,a<=i->i<j->j<b->gl lt xs i j
def OX(lt:α->α->Bool)(xs:List α)(a0 b0 a b:Nat):Prop:=∀i j,a0<=i->i<j->j<b0->(i<a\/b<=j)->gl lt xs i j
theorem OX.start:OX lt xs a0 b0 a0 b0:=λi j a b c d=>by omega
theorem OX.n3(h:OX lt xs a0 b0 a b)(g:SR lt xs a b):SR lt xs a0 b0:=λi j d c e=>by
 by_cases f:i<a\/b<=j
 ·exact h i j d c e f
 ·exact g i j (by omega) c (by omega)
theorem OX.rp(h:OX lt xs a0 b0 a b)(c:RP a b xs ys)(r:a0<=a)(s:b<=b0):OX lt ys a0 b0 a b:=λi j f n g h4 x y d e=>by
 rcases h4 with h4|h4
 ·rw[c.out (.inl h4)]at d
  by_cases l:j<a\/b<=j
  ·rw[c.out l]at e
   exact h i j f n g (.inl h4) x y d e
  ·exact c.all (p:=λy=>lt y x=false) (λk z o q m=>h i k f (by omega) (by omega) (.inl h4) x z d m) j y (by omega) (by omega) e
 ·rw[c.out (.inr h4)]at e
  by_cases l:i<a\/b<=i
  ·rw[c.out l]at d
   exact h i j f n g (.inr h4) x y d e
  ·exact c.all (p:=λx=>lt y x=false) (λk z o q m=>h k j (by omega) (by omega) g (.inr h4) z y m e) i x (by omega) (by omega) d
structure Part(lt:α->α->Bool)(xs:List α)(a mid b:Nat)(p:α):Prop where
 lo:a<=mid
 hi:mid<b
 at_:xs[mid]? =some p
 left:∀(k:Nat) (x:α),a<=k->k<mid->xs[k]? =some x->lt x p=true
 right:∀(k:Nat) (x:α),mid<k->k<b->xs[k]? =some x->lt x p=false
theorem Part.OA{p:α}(h:Part lt xs a mid b p)(c:RP a mid xs ys):Part lt ys a mid b p:=
 ⟨h.lo,h.hi,by rw[c.out (.inr (abr _))];exact h.at_,c.all h.left,λk x d e f=>h.right k x d e (by rw[<-c.out (.inr (by omega))];exact f)⟩
theorem Part.OB{p:α}(h:Part lt xs a mid b p)(d:RP (mid+1) b xs ys):Part lt ys a mid b p:=
 ⟨h.lo,h.hi,by rw[d.out (.inl (by omega))];exact h.at_,λk x f c e=>h.left k x f c (by rw[<-d.out (.inl (by omega))];exact e),
  λk x f c e=>d.all (p:=λx=>lt x p=false) (λk x i g=>h.right k x (by omega) g) k x (by omega) c e⟩
theorem Part.pair(k:SO lt){p:α}(h:Part lt xs a mid b p){i j:Nat}(l:a<=i)(m:i<j)(e:j<b)(n:i<=mid)(o:mid<=j):gl lt xs i j:=λx y d c=>by
 rcases abg i mid with hi|hi
 ·have f:=h.left i x l hi d
  rcases abg mid j with hj|hj
  ·have g:=h.right j y hj e c
   cases hc:lt y x with
   |false=>rfl
   |true=>rw[k.tr _ _ _ hc f]at g;cases g
  ·have:j=mid:=by omega
   subst this
   rw[h.at_]at c;cases c
   exact k.qG f
 ·have:i=mid:=by omega
  subst this
  rw[h.at_]at d;cases d
  exact h.right j y (by omega) e c
theorem OX.left(s:SO lt){p:α}(h:OX lt xs a0 b0 a b)(d:Part lt xs a mid b p)(e:RP a mid xs ys)(r:SR lt ys a mid)(l:a0<=a)(m:b<=b0)(n:b<=xs.length):OX lt ys a0 b0 (mid+1) b:=λi j f c g t=>by
 have o:=h.rp (e.mono (abr a) (Nat.le_of_lt d.hi) n) l m
 have q:=d.OA e
 by_cases k:i<a\/b<=j
 ·exact o i j f c g k
 ·rcases abg j mid with hj|hj
  ·exact r i j (by omega) c hj
  ·exact q.pair s (by omega) c (by omega) (by omega) hj
theorem OX.right(s:SO lt){p:α}(h:OX lt xs a0 b0 a b)(d:Part lt xs a mid b p)(e:RP (mid+1) b xs ys)(r:SR lt ys (mid+1) b)(l:a0<=a)(m:b<=b0)(n:b<=xs.length):OX lt ys a0 b0 a mid:=λi j f c g t=>by
 have u:=d.lo
 have o:=h.rp (e.mono (by omega) (abr b) n) l m
 have q:=d.OB e
 by_cases k:i<a\/b<=j
 ·exact o i j f c g k
 ·rcases abg mid i with hi|hi
  ·exact r i j (by omega) c (by omega)
  ·exact q.pair s (by omega) c (by omega) hi (by omega)
structure sK(lt:α->α->Bool)(xs:List α)(a mid b:Nat)(p:α):Prop where
 lo:a<mid
 hi:mid<=b
 left:∀(k:Nat) (x:α),a<=k->k<mid->xs[k]? =some x->lt x p=false/\lt p x=false
 right:∀(k:Nat) (x:α),mid<=k->k<b->xs[k]? =some x->lt p x=true
theorem OX.eqs(g:SO lt){p:α}(h:OX lt xs a0 b0 a b)(e:sK lt xs a mid b p):OX lt xs a0 b0 mid b:=λi j k l m s=>by
 by_cases n:i<a\/b<=j
 ·exact h i j k l m n
 ·intro x y o f
  obtain⟨q,c⟩:=e.left i x (by omega) (by omega) o
  rcases abg j mid with hj|hj
  ·obtain⟨d,r⟩:=e.left j y (by omega) hj f
   exact g.lV _ _ _ d c
  ·have d:=e.right j y hj (by omega) f
   cases hc:lt y x with
   |false=>rfl
   |true=>rw[g.tr _ _ _ d hc]at c;cases c
def mh(lt:α->α->Bool)(xs:List α)(a j n:Nat):Prop:=∀i k,a<=i->i<k->k<n->k≠j->gl lt xs i k
theorem SR.ins(h:SR lt xs a b):mh lt xs a b (b+1):=λi k c d e f=>h i k c d (by omega)
theorem mh.done(o:SO lt){j n:Nat}(h:mh lt xs a j n)(r:n<=xs.length)(q:j<n)(he:j=a\/a<j/\gl lt xs (j-1) j):SR lt xs a n:=λi k b e f=>by
 by_cases c:k=j
 ·subst c
  rcases he with he|⟨p,he⟩
  ·omega
  ·by_cases g:i=k-1
   ·subst g;exact he
   ·intro x y l m
    have d:xs[k-1]? =some (xs[k-1]'(by omega)):=bE _
    exact o.lV _ _ _ (he _ y d m) (h i (k-1) b (by omega) (by omega) (by omega) x _ l d)
 ·exact h i k b e f c
theorem mh.step(t:SO lt){j n:Nat}(h:mh lt xs a j n)(A:n<=xs.length)(z:j<n)(w:a<j){x y:α}(r:xs[j]? =some x)(s:xs[j-1]? =some y)(q:lt x y=true):mh lt (dS xs j (j-1)) a (j-1) n:=λi k f p d e=>by
 have g:=λk=>js (L:=xs) (i:=j) (k:=j-1) (by omega) (by omega) k
 by_cases b:k=j
 ·subst b
  by_cases c:i=k-1
  ·subst c
   intro u v m o
   rw[g,aa7 rfl,r]at m
   rw[g,aa6 (by omega),aa7 rfl,s]at o
   cases m;cases o
   exact t.qG q
  ·refine(h i (k-1) f (by omega) (by omega) (by omega)).jU ?_ ?_
   ·rw[g,aa6 c,aa6 (by omega)]
   ·rw[g,aa6 (by omega),aa7 rfl]
 ·by_cases c:i=j
  ·subst c
   refine(h (i-1) k (by omega) (by omega) d b).jU ?_ ?_
   ·rw[g,aa6 (by omega),aa7 rfl]
   ·rw[g,aa6 e,aa6 b]
  ·by_cases l:i=j-1
   ·subst l
    refine(h j k (by omega) (by omega) d b).jU ?_ ?_
    ·rw[g,aa7 rfl]
    ·rw[g,aa6 e,aa6 b]
   ·refine(h i k f p d b).jU ?_ ?_
    ·rw[g,aa6 l,aa6 c]
    ·rw[g,aa6 e,aa6 b]
end
end
section
variable{α:Type}
def iO(P:Program)(f:FuncId)(caps:List Value)(R:aw)(pk:α->Value)(c:α->α->Int)(ok:α->Prop):Prop:=
 ∀x y,ok x->ok y->∀R',(∀b o,R b o->R' b o)->Spec P f ([pk x,pk y]++caps) R' [] λv H'=>v=.int .i64 (c x y)/\H'=[]
theorem iO.mono{P:Program}{f:FuncId}{caps:List Value}{R R':aw}{a:α->Value}{c:α->α->Int}{ok:α->Prop}(h:iO P f caps R a c ok)(i:∀b o,R b o->R' b o):iO P f caps R' a c ok:=λx y j k d e=>h x y j k d λb o g=>e b o (i b o g)
def bW(c:α->α->Int)(x y:α):Bool:=decide (c x y<0)
def kW(lt:α->α->Bool)(L:List α)(n lo:Nat):Prop:=∀k,0<k->k<n->lo<=dl k->gl lt L (dl k) k
structure lC(lt:α->α->Bool)(L:List α)(n lo i:Nat):Prop where
 e:∀k,0<k->k<n->k≠i->dl k≠i->lo<=dl k->gl lt L (dl k) k
 b:∀k,0<k->k<n->dl k=i->0<i->lo<=dl i->gl lt L (dl i) k
 u:0<i->lo<=dl i->gl lt L (dl i) i
section
variable{lt:α->α->Bool}{L:List α}{n i j lo:Nat}
theorem lC.step(E:SO lt)(h:lC lt L n lo i)(G:lo<=i)(t:0<j)(A:j<n)(H:n<=L.length)(q:dl j=i){x y:α}(w:L[j]? =some x)(D:L[i]? =some y)(B:lt x y=true)
  (C:∀c z,0<c->c<n->dl c=i->L[c]? =some z->lt z x=false):lC lt (dS L i j) n lo j:=by
 have F:i<j:=q▸jH t
 have g:=λk=>js (L:=L) (i:=i) (k:=j) (by omega) (by omega) k
 refine⟨λk a p f s r=>?_,λk a p s _ r=>?_,λ_ _=>?_⟩
 ·by_cases d:k=i
  ·subst d
   have I:=jH a
   refine(h.b j t A q a r).jU ?_ ?_
   ·rw[g,aa6 (by omega),aa6 (by omega)]
   ·rw[g,aa6 f,aa7 rfl]
  ·by_cases o:dl k=i
   ·intro u v l m
    rw[o,g,aa6 (by omega),aa7 rfl,w]at l
    rw[g,aa6 f,aa6 d]at m
    cases l
    exact C k v a p o m
   ·refine(h.e k a p d o r).jU ?_ ?_
    ·rw[g,aa6 s,aa6 o]
    ·rw[g,aa6 f,aa6 d]
 ·have f:k≠j:=by have:=jH a;omega
  have d:k≠i:=by have:=jH a;omega
  refine(h.e k a p d (by omega) (by omega)).jU ?_ ?_
  ·rw[q,s,g,aa6 (by omega),aa7 rfl]
  ·rw[g,aa6 f,aa6 d]
 ·intro u v l m
  rw[q,g,aa6 (by omega),aa7 rfl,w]at l
  rw[g,aa7 rfl,D]at m
  cases l;cases m
  exact E.qG B
theorem lC.stop(h:lC lt L n lo i)(j:∀c,0<c->c<n->dl c=i->gl lt L i c):kW lt L n lo:=λk b d g=>by
 by_cases a:dl k=i
 ·rw[a];exact j k b d a
 ·by_cases f:k=i
  ·subst f;exact h.u b g
  ·exact h.e k b d f a g
theorem kW.hole(h:kW lt L n (lo+1)):lC lt L n lo lo:=
 ⟨λk c b _ f e=>h k c b (by omega),λk _ _ _ a d=>by have:=jH a;omega,λa d=>by have:=jH a;omega⟩
theorem kW.Lp(h:kW lt L (n+1) 0){b:List α}(c:∀k,0<k->k<n->b[k]? =L[k]?):lC lt b n 0 0:=
 ⟨λk a e _ f _=>by
  have:=jH a
  exact(h k a (by omega) (Nat.zero_le _)).jU (c _ (by omega) (by omega)) (c _ a e),λk _ _ _ d _=>by omega,λd _=>by omega⟩
theorem kW.top(c:SO lt)(h:kW lt L n 0)(i:n<=L.length){x:α}(g:L[0]? =some x):∀(k:Nat) (y:α),k<n->L[k]? =some y->lt y x=false:=by
 intro k
 induction k using Nat.strongRecOn with
 |_ k ih=>
  intro y e a
  by_cases d:k=0
  ·subst d;rw[g]at a;cases a;exact c.lN _
  ·have f:=jH (k:=k) (by omega)
   have b:L[dl k]? =some (L[dl k]'(by omega)):=bE _
   exact c.lV _ _ _ (h k (by omega) e (Nat.zero_le _) _ y b a) (ih (dl k) f _ (by omega) b)
theorem SO.rev(c:SO lt):SO (λx y=>lt y x):=⟨c.lN,λx y z a b=>c.tr _ _ _ b a,λx y z a b=>c.lV _ _ _ b a⟩
theorem ld(xs:List α)(f k:Nat):(xs.drop f)[k]? =xs[f+k]? :=by rw[abQ]
theorem wG{xs:List α}{f i j:Nat}(c:f+i<xs.length)(d:f+j<xs.length):(dS xs (f+i) (f+j)).drop f=dS (xs.drop f) i j:=by
 apply abB
 intro k
 rw[ld,js c d,js (by rw[List.length_drop];omega) (by rw[List.length_drop];omega),ld,ld,ld]
 by_cases a:k=j
 ·subst a;simp
 ·by_cases b:k=i
  ·subst b;simp[a]
  ·rw[aa6 (by omega),aa6 (by omega),aa6 a,aa6 b]
theorem OX.last{xs:List α}{a b m:Nat}{x:α}(h:OX lt xs a b a (m+1))(l:a<=m)(q:m+1<=b)(A:b<=xs.length)(t:xs[a]? =some x)(r:∀(k:Nat) (y:α),a<=k->k<=m->xs[k]? =some y->lt x y=false):OX lt (dS xs a m) a b a m:=λi j c f g z=>by
 have d:RP a (m+1) xs (dS xs a m):=RP.one (abr _) (by omega) l (by omega) (by omega)
 by_cases n:m+1<=j
 ·exact h.rp d (abr _) q i j c f g (.inr n)
 ·have:j=m:=by omega
  subst this
  intro u w s e
  rw[js (by omega) (by omega),aa7 rfl,t]at e
  cases e
  exact d.all (p:=λy=>lt x y=false) (λk y o B v=>r k y o (by omega) v) i u c (by omega) s
end
end
section
section
variable{P:Program}{R:aw}{env:Env}{H:aN}{ty:TypeId}{x y:Operand}{t u:TypeId}{k k2:IntKind}{m n:Int}
theorem bo.qE(c:ev env x=some (.int k m):=by rfl)(e:ev env y=some (.int k n):=by rfl):bo P R env H (.binOp .and t x y u) ty (.int k (k.wrap (BitVec.ofInt k.bits m&&&BitVec.ofInt k.bits n).toNat)):=λa w d h f g b _ _=>by
 simp[execOp,b.eval c,b.eval e,eqGuard,binOp,Op.intBits]
theorem bo.ey(c:ev env x=some (.int k m):=by rfl)(e:ev env y=some (.int k n):=by rfl):bo P R env H (.binOp .or t x y u) ty (.int k (k.wrap (BitVec.ofInt k.bits m|||BitVec.ofInt k.bits n).toNat)):=λa w d h f g b _ _=>by
 simp[execOp,b.eval c,b.eval e,eqGuard,binOp,Op.intBits]
theorem bo.u5(c:ev env x=some (.int k m):=by rfl)(e:ev env y=some (.int k n):=by rfl):bo P R env H (.binOp .xor t x y u) ty (.int k (k.wrap (BitVec.ofInt k.bits m^^^BitVec.ofInt k.bits n).toNat)):=λa w d h f g b _ _=>by
 simp[execOp,b.eval c,b.eval e,eqGuard,binOp,Op.intBits]
theorem bo.lu(c:ev env x=some (.int k m):=by rfl)(e:ev env y=some (.int k2 n):=by rfl)(i:0<=n:=by first|decide|omega):bo P R env H (.binOp .shl t x y u) ty (.int k (k.wrap (m*2^(min n.toNat k.bits)))):=λa w d j f g b _ _=>by
 have h:¬n<0:=by omega
 simp[execOp,b.eval c,b.eval e,eqGuard,binOp,Op.shift,h]
theorem bo.Pw(c:ev env x=some (.int k m):=by rfl)(e:ev env y=some (.int k2 n):=by rfl)(i:0<=n:=by first|decide|omega):bo P R env H (.binOp .shr t x y u) ty (.int k (m.fdiv (2^(min n.toNat k.bits)))):=λa w d j f g b _ _=>by
 have h:¬n<0:=by omega
 simp[execOp,b.eval c,b.eval e,eqGuard,binOp,Op.shift,h]
end
theorem qm{z:Int}(a:0<=z)(b:z<18446744073709551616):IntKind.u64.wrap z=z:=by
 have:IntKind.u64.wrap z=z % 18446744073709551616:=by simp[IntKind.wrap,IntKind.bits,IntKind.signed]
 rw[this];omega
theorem Qt{z:Int}(a: -9223372036854775808<=z)(b:z<=9223372036854775807):IntKind.i64.wrap z=z:=IntWalk.i64_in _ (by omega)
theorem A2{z q:Int}(a:0<=q)(b:q<18446744073709551616):0<=IntKind.u64.wrap (BitVec.ofInt IntKind.u64.bits z&&&BitVec.ofInt IntKind.u64.bits q).toNat/\IntKind.u64.wrap (BitVec.ofInt IntKind.u64.bits z&&&BitVec.ofInt IntKind.u64.bits q).toNat<=q:=by
 have e:(BitVec.ofInt IntKind.u64.bits q).toNat=q.toNat:=by
  simp[IntKind.bits,BitVec.toNat_ofInt];omega
 have c:(BitVec.ofInt IntKind.u64.bits z&&&BitVec.ofInt IntKind.u64.bits q).toNat<=q.toNat:=by
  rw[BitVec.toNat_and, <-e];exact Nat.and_le_right
 rw[qm (by omega) (by omega)]
 omega
end
section
variable{α:Type}{lt:α->α->Bool}{a b i j:Nat}{xs ys:List α}
def LB(lt:α->α->Bool)(xs:List α)(a b:Nat):Prop:=0<a->∀k,a<=k->k<b->gl lt xs (a-1) k
theorem LB.rp(h:LB lt xs a b)(d:RP a b xs ys):LB lt ys a b:=λf k g i x y e c=>by
 rw[d.out (.inl (by omega))]at e
 exact d.all (p:=λy=>lt y x=false) (λk y j l c=>h f k j l x y e c) k y g i c
theorem SR.snoc(d:SO lt)(h:SR lt xs a i)(c:a<i)(e:i<xs.length)(b:gl lt xs (i-1) i):SR lt xs a (i+1):=h.ins.done d (by omega) (by omega) (.inr ⟨c,b⟩)
theorem SR.PX{p q:Nat}(h:SR lt xs a i)(g:i<=p)(j:i<=q)(b:p<xs.length)(c:q<xs.length):SR lt (dS xs p q) a i:=λu w d e f=>
 (h u w d e f).jU (by rw[js b c,aa6 (by omega),aa6 (by omega)]) (by rw[js b c,aa6 (by omega),aa6 (by omega)])
theorem SR.PW(h:SR lt xs a i)(b:i<xs.length):mh lt (dS xs i (i-1)) a (i-1) i:=λu w c d e f=>
 (h u w c d e).jU (by rw[js b (by omega),aa6 (by omega),aa6 (by omega)]) (by rw[js b (by omega),aa6 (by omega),aa6 (by omega)])
theorem OX.lb{c d:Nat}(h:OX lt xs c d a b)(i:LB lt xs c d)(l:c<=a)(m:b<=d):LB lt xs a b:=λe k f j=>by
 by_cases g:a=c
 ·subst g;exact i e k f (by omega)
 ·exact h (a-1) k (by omega) (by omega) (by omega) (.inl (by omega))
end
section
section
variable{α:Type}{lt:α->α->Bool}{q:α->Bool}{ys:List α}{a b i j:Nat}{p:α}
structure PQ(q:α->Bool)(ys:List α)(a i j b:Nat)(p:α):Prop where
 i0:a<i
 ij:i<=j+1
 jb:j<b
 at_:ys[a]? =some p
 left:∀(k:Nat) (x:α),a<k->k<i->ys[k]? =some x->q x=true
 right:∀(k:Nat) (x:α),j<k->k<b->ys[k]? =some x->q x=false
theorem PQ.start(e:a<b)(h:ys[a]? =some p):PQ q ys a (a+1) (b-1) b p:=
 ⟨Nat.lt_succ_self _,by omega,by omega,h,λk x c d=>by omega,λk x c d=>by omega⟩
theorem PQ.inc(h:PQ q ys a i j b p)(l:i<=j){x:α}(f:ys[i]? =some x)(e:q x=true):PQ q ys a (i+1) j b p:=
 ⟨by have:=h.i0;omega,by omega,h.jb,h.at_,λk y d g c=>by
  rcases abg k i with hk|hk
  ·exact h.left k y d hk c
  ·have:k=i:=by omega
   subst this
   rw[f]at c;cases c;exact e,h.right⟩
theorem PQ.dec(h:PQ q ys a i j b p)(l:i<=j){x:α}(f:ys[j]? =some x)(e:q x=false):PQ q ys a i (j-1) b p:=
 ⟨h.i0,by have:=h.i0;omega,by have:=h.jb;omega,h.at_,h.left,λk y g d c=>by
  rcases abg j k with hk|hk
  ·exact h.right k y hk d c
  ·have:k=j:=by omega
   subst this
   rw[f]at c;cases c;exact e⟩
theorem PQ.sw(h:PQ q ys a i j b p)(s:i<=j)(t:b<=ys.length){x y:α}(r:ys[i]? =some x)(l:ys[j]? =some y)(o:q x=false)(f:q y=true):i<j/\PQ q (dS ys i j) a (i+1) (j-1) b p:=by
 have v:=h.i0
 have w:=h.jb
 have u:i≠j:=λe=>by
  subst e
  rw[r]at l;cases l
  rw[o]at f;cases f
 have g:=λk=>js (L:=ys) (i:=i) (k:=j) (by omega) (by omega) k
 refine⟨by omega,by omega,by omega,by omega,?_,λk z m n c=>?_,λk z m n c=>?_⟩
 ·rw[g,aa6 (by omega),aa6 (by omega)];exact h.at_
 ·rw[g,aa6 (by omega)]at c
  by_cases d:k=i
  ·rw[aa7 d,l]at c;cases c;exact f
  ·rw[aa6 d]at c;exact h.left k z m (by omega) c
 ·rw[g]at c
  by_cases d:k=j
  ·rw[aa7 d,r]at c;cases c;exact o
  ·rw[aa6 d,aa6 (by omega)]at c;exact h.right k z (by omega) n c
theorem PQ.fin(h:PQ (λx=>lt x p) ys a i j b p)(m:j<i)(n:b<=ys.length):Part lt (dS ys j a) a j b p:=by
 have o:=h.i0
 have q:=h.ij
 have l:=h.jb
 have g:=λk=>js (L:=ys) (i:=j) (k:=a) (by omega) (by omega) k
 refine⟨by omega,l,?_,λk z e f c=>?_,λk z e f c=>?_⟩
 ·rw[g]
  by_cases d:j=a
  ·rw[aa7 d,d];exact h.at_
  ·rw[aa6 d,aa7 rfl];exact h.at_
 ·rw[g]at c
  by_cases d:k=a
  ·rw[aa7 d]at c
   exact h.left j z (by omega) (by omega) c
  ·rw[aa6 d,aa6 (by omega)]at c
   exact h.left k z (by omega) (by omega) c
 ·rw[g,aa6 (by omega),aa6 (by omega)]at c
  exact h.right k z e f c
theorem PQ.K4(m:SO lt)(h:PQ (λx=> !lt p x) ys a i j b p)(n:j<i)(g:∀(k:Nat) (x:α),a<=k->k<b->ys[k]? =some x->lt x p=false):sK lt ys a i b p:=by
 have l:=h.i0
 have o:=h.ij
 have q:=h.jb
 refine⟨l,by omega,λk z e d c=>⟨g k z e (by omega) c,?_⟩,λk z e d c=>?_⟩
 ·by_cases f:k=a
  ·subst f
   rw[h.at_]at c;cases c;exact m.lN _
  ·simpa using h.left k z (by omega) d c
 ·simpa using h.right k z (by omega) d c
theorem Part.lb(h:Part lt ys a j b p):LB lt ys (j+1) b:=λ_ k d e x y c f=>by
 rw[Nat.add_sub_cancel,h.at_]at c
 cases c
 exact h.right k y d e f
theorem LB.less(h:LB lt ys a b){c:Nat}(g:c<=b):LB lt ys a c:=λd k e f=>h d k e (by omega)
theorem LB.M7(j:SO lt)(h:LB lt ys a b)(c:0<a){x:α}(g:ys[a-1]? =some x)(f:lt x p=false):∀(k:Nat) (y:α),a<=k->k<b->ys[k]? =some y->lt y p=false:=λk y d e i=>
 j.lV _ _ _ (h c k d e x y g i) f
end
end
section
variable{κ β:Type} [DecidableEq κ]
def o4(Rd:aw)(encK:κ->Value)(encV:β->Value)(m:Value)(M:List (κ×β))(it:Value)(todo:List κ)(k:κ)(u:β)(Ti:aH):Prop:=
 ∃(b:Nat) (es:Array MapEntry) (clock r:Nat) (seen:Array Nat) (e:MapEntry),m=.map (some b)/\Rd b (.map es clock)/\ir encK encV es clock M/\it=pT r/\Ti=[(r,.mapIter (some b) clock (seen.push e.born) clock)]/\e∈es.toList/\e.key=encK k/\e.val=encV u/\
  todo=((es.toList.zip M).filter λp=> !(seen.push e.born).contains p.1.born).map (·.2.1)
omit [DecidableEq κ] in
theorem o4.it{a:aw}{encK:κ->Value}{d:β->Value}{m:Value}{M:List (κ×β)}{it:Value}{todo:List κ}{k:κ}{u:β}{c:aH}(h:o4 a encK d m M it todo k u c):It a encK d m M it todo c:=by
 obtain⟨b,g,f,r,q,e,i,j,l,n,o,s,t,v,p⟩:=h
 exact⟨b,g,f,r,q.push e.born,i,j,l,n,o,p⟩
theorem xv(e:MapEntry):∀(l:List MapEntry),(l.map (·.born)).Nodup->e∈l->l.find? (·.born==e.born)=some e
 |[],_,h=>by cases h
 |x::l,hn,h=>by
  have a:=List.nodup_cons.1 hn
  rcases abc.1 h with rfl|h
  ·simp
  ·have:x.born≠e.born:=λb=>a.1 (abA.2 ⟨e,h,b.symm⟩)
   simp[this,xv e l a.2 h]
section
variable{P:Program}{N:Nat}{R:aw}{ops:Array Oper}{l:List Oper}{env:Env}{H:aN}{K:Env->aN->Prop}{ty:TypeId}{pos:String}{af:Array Edge}{m:Bool}
variable{encK:κ->Value}{encV:β->Value}{mp:Value}{M:List (κ×β)}{T:aH}{upd:aH->aN}
theorem aO.MT{d:Nat}{x:Operand}{Rd:aw}{it:Value}{todo:List κ}{Ti:aH}(h:It Rd encK encV mp M it todo Ti) [sa:fA H Ti upd](hrd:∀b o,Rd b o->Rx R H b o)(hx:ev env x=some it)
  (h0:todo=[]->aO false P N R ops l ((d,.tuple [.bool false].toArray)::env) H K)
  (hn:∀k u Ti',k∈todo->db k M=some u->o4 Rd encK encV mp M it (todo.filter λk'=>decide (k'≠k)) k u Ti'->aO false P N R ops l ((d,.tuple [.bool true,encK k,encV u].toArray)::env) (upd Ti') K)(hd:Nat.blt d N=true:=by rfl):
  aO false P N R ops (⟨some d,.next x false,ty,pos,af,none⟩::l) env H K:=
 aO.mv hd λa w ha s ro=>by
  obtain⟨b,es,clock,r,seen,rfl,h2,h3,rfl,rfl,h6⟩:=h
  obtain⟨H1,H2,e1,e2⟩:=sa.h
  have hb:=oO s ro _ _ (hrd _ _ h2)
  subst e1
  have hr:w.heap[r]? =some (.mapIter (some b) clock seen clock):=s.2 (r,_) (by simp)
  have hgi:(getObj r).run P w=.ok (.mapIter (some b) clock seen clock) w:=by simp[getObj,Sem.run,hr]
  have hl:=h3.kg.length
  have hbo:=h3.born
  -- what may come
  have hleft:es.filter (λe=> !seen.contains e.born)=((es.toList.filter λe=> !seen.contains e.born)).toArray:=by
   apply Array.toList_inj.1;rw[Array.toList_filter]
  have htodo:(es.toList.filter λe=> !seen.contains e.born).length=todo.length:=by
   rw[h6,List.length_map]
   have:((es.toList.zip M).filter λp=> !seen.contains p.1.born).length=(((es.toList.zip M).map (·.1)).filter λe=> !seen.contains e.born).length:=by
    rw[List.filter_map,List.length_map];rfl
   rw[this,List.map_fst_zip (by omega)]
  have hguard:(!seen.isEmpty&& !es.isEmpty&&es.all (λe=>decide (e.born≥clock)))=false:=by
   cases hes:es.toList with
   |nil=>
    have:es= #[]:=by simpa using hes
    simp[this]
   |cons e rest=>
    have h1:=hbo e (by rw[hes];simp)
    have:es.all (λe=>decide (e.born≥clock))=false:=by
     rw[<-Array.all_toList,hes]
     simp;omega
    rw[this,Bool.and_false]
  have hold:(es.filter λe=> !seen.contains e.born).filter (λe=>decide (e.born<clock))=es.filter λe=> !seen.contains e.born:=by
   rw[Array.filter_eq_self]
   intro e he
   have:=hbo e (by simpa using(Array.mem_filter.1 he).1)
   simpa using this
  have hnew:(es.filter λe=> !seen.contains e.born).filter (λe=>decide (e.born≥clock))= #[]:=by
   rw[Array.filter_eq_empty_iff]
   intro e he
   have:=hbo e (by simpa using(Array.mem_filter.1 he).1)
   simpa using this
  by_cases ht:todo=[]
  ·refine⟨.tuple #[.bool false],w,_,?_,Frame.refl _ _,s,h0 ht⟩
   have he:es.filter (λe=> !seen.contains e.born)= #[]:=by
    rw[hleft]
    have:(es.toList.filter λe=> !seen.contains e.born)=[]:=abS (by rw[htodo,ht];rfl)
    rw[this]
   have hc:(choose (.mapNext 1)).run P w=.ok 0 w:=by simp[choose,Sem.run,Question.forced]
   simp only[execOp,ha.eval hx,Instr.next,Sem.run_bind,hgi,l7 hb,Result.andThen_ok,hguard,abb,aba,he]
   simp[hc]
  ·have hne:(es.filter λe=> !seen.contains e.born).isEmpty=false:=by
    rw[hleft]
    cases hf:(es.toList.filter λe=> !seen.contains e.born)with
    |nil=>rw[hf]at htodo;exact absurd (abS htodo.symm) ht
    |cons _ _=>rfl
   have hpos:0<todo.length:=List.length_pos_iff.2 ht
   have hsz:(es.filter λe=> !seen.contains e.born).size=todo.length:=by rw[hleft];simpa using htodo
   obtain⟨n,w1,hc,hlt,hw1⟩:∃n w1,(choose (.mapNext todo.length)).run P w=.ok n w1/\n<todo.length/\∃q,w1={w with drawn:=q}:=by
    by_cases h1:todo.length<=1
    ·exact⟨0,w,by simp[choose,Sem.run,Question.forced,h1],hpos,w.drawn,rfl⟩
    ·exact⟨_,_,by simp only[choose,Sem.run,Question.forced,h1,abM,abb,aba];rfl,by simp only[Question.cut];exact Nat.mod_lt _ hpos,_,rfl⟩
   obtain⟨q,rfl⟩:=hw1
   have hn':n<(es.toList.filter λe=> !seen.contains e.born).length:=by rw[htodo];exact hlt
   generalize he:(es.toList.filter λe=> !seen.contains e.born)[n]=e
   have hem:e∈es.toList.filter λe=> !seen.contains e.born:=he▸List.getElem_mem hn'
   obtain⟨hes,hns⟩:=List.mem_filter.1 hem
   obtain⟨j,hj,hje⟩:=abN.1 hes
   have hjM:j<M.length:=by omega
   have hpair:(e.key,e.val)=(encK M[j].1,encV M[j].2):=by
    have:=abe (λl:List (Value×Value)=>l[j]?) h3.kg
    simp only[abf,bE hj,bE hjM,abi,abz,hje]at this
    exact this
   injection hpair with hp1 hp2
   have hzip:(e,M[j])∈es.toList.zip M:=by
    refine abN.2 ⟨j,by rw[List.length_zip];omega,?_⟩
    simp only[List.getElem_zip,hje]
   have hkt:M[j].1∈todo:=by
    rw[h6]
    exact abA.2 ⟨(e,M[j]),List.mem_filter.2 ⟨hzip,hns⟩,rfl⟩
   have hget:db M[j].1 M=some M[j].2:=tV h3.nd (List.getElem_mem hjM)
   have hrun:(execOp a.eval ⟨some d,.next x false,ty,pos,af,none⟩).run P w=.ok (.value (.tuple #[.bool true,e.key,e.val])) (ew {w with drawn:=q} r (.mapIter (some b) clock (seen.push e.born) clock)):=by
    have hcand:∀(A:Array MapEntry),A.isEmpty=false->(if A.isEmpty=true then #[none]else #[])++(A++ #[]).map some=A.map some:=λA hA=>by simp[hA]
    have hget2:((es.filter λe=> !seen.contains e.born).map some)[n]? =some (some e):=by
     rw[hleft]
     simp only[List.map_toArray,abh,abf,bE hn',he,abi]
    have hset:(setObj r (.mapIter (some b) clock (seen.push e.born) clock)).run P {w with drawn:=q}=.ok () (ew {w with drawn:=q} r (.mapIter (some b) clock (seen.push e.born) clock)):=by
     have:({w with drawn:=q}:World).heap[r]? =some (.mapIter (some b) clock seen clock):=hr
     simp[setObj,Sem.run,this,ew]
    simp only[execOp,ha.eval hx,Instr.next,Sem.run_bind,hgi,l7 hb,Result.andThen_ok,hguard,abb,aba,hold,hnew]
    rw[hcand _ hne]
    simp only[Array.size_map,hsz,hc,Result.andThen_ok,hget2,Sem.run_bind,hset,Sem.run_pure]
   obtain⟨f,s'⟩:=nY (w:={w with drawn:=q}) (o':=.mapIter (some b) clock (seen.push e.born) clock) (s.drew q)
   refine⟨_,_,upd [(r,.mapIter (some b) clock (seen.push e.born) clock)],hrun,by rw[e2];exact(Frame.drew w _ q).trans f,by rw[e2];exact s',?_⟩
   rw[hp1,hp2]
   refine hn M[j].1 M[j].2 _ hkt hget ⟨b,es,clock,r,seen,e,rfl,h2,h3,rfl,rfl,hes,hp1,hp2,?_⟩
   rw[h6]
   -- the one that came is no more to come, all others are
   have key:∀(l:List (MapEntry×(κ×β))),(∀p∈l,(p.1.born=e.born↔p.2.1=M[j].1))->
     ((l.filter λp=> !seen.contains p.1.born).map (·.2.1)).filter (λk'=>decide (k'≠M[j].1))=(l.filter λp=> !(seen.push e.born).contains p.1.born).map (·.2.1):=by
    intro l
    induction l with
    |nil=>intro _;rfl
    |cons p l ih=>
     intro hp
     have h1:=hp p (by simp)
     have h2:=ih λq hq=>hp q (by simp[hq])
     simp only[Array.contains_push]at h2
     simp only[abY,Array.contains_push]
     by_cases hc:seen.contains p.1.born=true
     ·simp only[hc,abK,abb,aba,Bool.true_or];exact h2
     ·simp only[Bool.not_eq_true]at hc
      simp only[hc,abF,abd,Bool.false_or,aa8,abY]
      by_cases hb:p.1.born=e.born
      ·have:=h1.1 hb
       simp only[this,ne_eq,not_true,abM,abb,aba,hb,beq_self_eq_true,abK];simpa only[ne_eq]using h2
      ·have hk:¬p.2.1=M[j].1:=λhk=>hb (h1.2 hk)
       have hb':(p.1.born==e.born)=false:=by simpa using hb
       simp only[hk,ne_eq,abV,decide_true,abd,hb',abF,aa8]
       exact abe _ (by simpa only[ne_eq]using h2)
   refine key _ λp hp=>?_
   obtain⟨i,hi,hpi⟩:=abN.1 hp
   have hi':i<es.toList.length:=by simp only[List.length_zip]at hi;omega
   have hiM:i<M.length:=by omega
   rw[List.getElem_zip]at hpi
   subst hpi
   simp only
   constructor
   ·intro hb
    have:i=j:=(List.getElem_inj (h:=h3.pa) (i:=i) (j:=j) (h₀:=by simpa using hi') (h₁:=by simpa using hj)).1 (by rw[abC,abC,hb,hje])
    subst this;rfl
   ·intro hk
    have:i=j:=(List.getElem_inj (h:=h3.nd) (i:=i) (j:=j) (h₀:=by simpa using hiM) (h₁:=by simpa using hjM)).1 (by rw[abC,abC];exact hk)
    subst this;rw[hje]
omit [DecidableEq κ] in
theorem bo.entry{x:Operand}{c:aw}{l:Value}{todo:List κ}{k:κ}{u:β}{f:aH}(h:o4 c encK encV mp M l todo k u f) [F:fA H f upd](C:∀b o,c b o->Rx R H b o)(D:ev env x=some l):
  bo P R env H (.entry x) ty (.tuple [encK k,encV u].toArray):=λa w d O K g y s E=>by
 obtain⟨b,j,i,r,G,e,rfl,n,p,rfl,rfl,q,t,v,N⟩:=h
 obtain⟨I,J,m,L⟩:=F.h
 have z:=oO s E _ _ (C _ _ n)
 subst m
 have B:w.heap[r]? =some (.mapIter (some b) i (G.push e.born) i):=s.2 (r,_) (by simp)
 have A:j.find? (·.born==e.born)=some e:=by rw[<-Array.find?_toList];exact xv e j.toList p.pa q
 rw[<-t, <-v]
 simp only[execOp,y.eval D,Instr.entry,getObj,Sem.run_bind,Sem.run,B,z,Result.andThen,Array.back?_push,bne_self_eq_false,abb,aba,A]
 rfl
theorem fA.same{H:aN}{T:aH}{a:aH->aN}(s:fA H T a):a T=H:=by
 obtain⟨d,e,b,c⟩:=s.h
 rw[c,b]
theorem aO.MR{d:Nat}{x:Operand}{a:aw}{f:Value}{todo:List κ}{c:aH}(h:It a encK encV mp M f todo c) [s:fA H c upd](p:∀b o,a b o->Rx R H b o)(r:ev env x=some f)
  (g:∀(b:Bool) (rest:List Value) (Ti':aH),(b=false->todo=[])->(b=true->∃k u,k∈todo/\db k M=some u/\o4 a encK encV mp M f (todo.filter λk'=>decide (k'≠k)) k u Ti')->aO false P N R ops l ((d,.tuple (.bool b::rest).toArray)::env) (upd Ti') K)(m:Nat.blt d N=true:=by rfl):
  aO false P N R ops (⟨some d,.next x false,ty,pos,af,none⟩::l) env H K:=
 aO.MT h p r
  (λi=>by
   have:=g false [] c (λ_=>i) (λe=>by cases e)
   rw[s.same]at this
   exact this)
  (λk u Ti' n q j=>g true [encK k,encV u] Ti' (λe=>by cases e) (λ_=>⟨k,u,n,q,j⟩)) m
end
theorem hU{A B:aH}{b:Nat}{o:Obj}(h:sg A b o):sg (A++B) b o:=ab0 B h
theorem gh{A B:aH}{b:Nat}{o:Obj}(h:sg B b o):sg (A++B) b o:=List.mem_append_right A h
theorem SR.ordered{α:Type}{lt:α->α->Bool}{ys:List α}(h:SR lt ys 0 ys.length):ys.Pairwise λp r=>lt r p=false:=by
 rw[List.pairwise_iff_getElem]
 intro i j b a c
 exact h i j (Nat.zero_le _) c a _ _ (bE b) (bE a)
theorem RA.iI{P:Program}{N:Nat}{R:aw}{a:Array Oper}{env:Env}{H g:aN}{e:List Nat}{K:Env->aN->Prop}{f:List Nat}{d j t:Nat}{h b c:Bool}{op:Op}{ty:TypeId}{u:String}{k:Array Edge}(i:Nat)(o:a[i]? =some ⟨some d,op,ty,u,k,some (j,h)⟩)(r:Env.get? env t=some (.bool b))(l:b=c)(s:(c==h)=false)
  (m:tk false a e f i=true)(q:RA P N R a g e (i::f) ((d,undef)::env) H K)(p:jS a j=some t:=by rfl)(n:Nat.blt d N=true:=by rfl):RA P N R a g e f env H K:=
 RA.PZ i o r (by rw[l];exact s) m q p n
end
section
section
variable{P:Program}{N:Nat}{R R':aw}{ops:Array Oper}{l:List Oper}{env:Env}{H:aN}{K:Env->aN->Prop}{T:aH}{upd:aH->aN}
theorem Spec.A5{f:FuncId}{m:List Value}{H1 H2:aN}{T:aH}{Post:Value->aH->Prop}(h:Spec P f m (Rx R (H1++H2)) [T] λv H'=>∃T',H'=[T']/\Post v T'):Spec P f m R (H1++T::H2) λv H'=>∃T',H'=H1++T'::H2/\Post v T':=λw C s=>by
 have g:(H1++T::H2).flatten.Perm ([T]++(H1++H2)).flatten:=by
  simp only[abu,abo,abP,abl]
  rw[<-aa9, <-aa9]
  exact abn.append_right _
 have k:Sat w ([T]++(H1++H2)):=C.perm g
 have y:take [0] ([T]++(H1++H2))=[T]:=rfl
 have n:rest [0] ([T]++(H1++H2))=H1++H2:=rfl
 have E:RO w R ([T]++(H1++H2)):=λb o d=>⟨(s b o d).1,λp c=>(s b o d).2 p (g.mem_iff.2 c)⟩
 obtain⟨u,F,x⟩:=na (is:=[0]) k
 have l:=RO.split (is:=[0]) k E
 rw[y]at u l x;rw[n]at l F x
 refine(h w u l).mono λe G ⟨v,H',i,⟨T',z,j⟩,D,A⟩=>?_
 subst z
 obtain⟨t,a⟩:=oP (is:=[0]) (H':=[T']) k D A
 rw[n]at t a
 have r:([T']++(H1++H2)).flatten.Perm (H1++T'::H2).flatten:=by
  simp only[abu,abo,abP,abl]
  rw[<-aa9, <-aa9]
  exact abn.append_right _
 refine⟨v,_,i,⟨T',rfl,j⟩,t.perm r,⟨a.le,λb d B=>a.iS b d λp c=>B p (g.mem_iff.2 c),λp c=>?_,a.os,a.output,a.tape⟩⟩
 rcases a.ke p (r.mem_iff.2 c)with⟨q,j,i⟩|hge
 ·exact .inl ⟨q,g.mem_iff.2 j,i⟩
 ·exact .inr hge
theorem aO.Bj{dst:Option Nat}{op:Op}{ty:TypeId}{g:String}{c:Array Edge}{f:FuncId}{vs:List Value}{Post:Value->aH->Prop} [n:fA H T upd]
  (m:∀a w,eI a env->(execOp a.eval ⟨dst,op,ty,g,c,none⟩).run P w=.ok (.enter f vs.toArray) w)
  (k:Spec P f vs (Rx R (upd [])) [T] λv H'=>∃T',H'=[T']/\Post v T')
  (j:∀v T',Post v T'->match dst with
   |some d=>Nat.blt d N=true/\aO false P N R ops l ((d,v)::env) (upd T') K
   |none=>aO false P N R ops l env (upd T') K):
  aO false P N R ops (⟨dst,op,ty,g,c,none⟩::l) env H K:=by
 obtain⟨H1,H2,i,e⟩:=n.h
 refine .qM (H.map λ_=>0) (Post:=λv H'=>∃T',H'=H1++T'::H2/\Post v T') m ?_ ?_
 ·rw[uT,qa,i]
  refine Spec.A5 (H1:=H1) (H2:=H2) (k.weaken λb o hb=>?_)
  rw[e]at hb
  rcases hb with hb|hb
  ·exact .inl (.inl hb)
  ·exact .inr (by simpa using hb)
 ·intro v H' ⟨T',e1,e2⟩
  rw[qa,abl,e1, <-e]
  exact j v T' e2
theorem aO.Bi{d:Nat}{ty:TypeId}{m:String}{b:Array Edge}{f:FuncId} [e:aT P f]{xs:List Operand}{c:Array TypeId}{vs:List Value}{Post:Value->aH->Prop} [n:fA H T upd]
  (k:Spec P f vs (Rx R (upd [])) [T] λv H'=>∃T',H'=[T']/\Post v T')(i:∀v T',Post v T'->aO false P N R ops l ((d,v)::env) (upd T') K)(hxs:jf env xs=some vs:=by rfl)(h:Nat.blt d N=true:=by rfl):
  aO false P N R ops (⟨some d,.call ⟨.value (.func f),xs.toArray,c⟩,ty,m,b,none⟩::l) env H K:=
 aO.Bj (λa w g=>uE hxs a w g) k (λv T' j=>⟨h,i v T' j⟩)
end
end
section
section
variable{P:Program}{N:Nat}{R:aw}{env:Env}{H:aN}{Q:Exit->Env->aN->Prop}
theorem bF.cL{X:Type}{c:Code}{G:aN}(E:Env)(I:X->Prop)(e:X->Env->Env)(h:X->aN->aN)(μ:X->Nat)(a:X)(b:I a)(d:dK env (e a E))(f:bp H (h a G))
  (g:∀x,I x->bF P N R c (e x E) (h x G) (pS (λenv' H'=>∃x',I x'/\μ x'<μ x/\dK env' (e x' E)/\bp H' (h x' G)) Q)):bF P N R (.loop c) env H Q:=
 bF.loop I (λx=>e x E) (λx=>h x G) μ a b d f g
theorem bF.dt{X:Type}{c:Code}(E:Env)(d:dK env E)(I:X->Prop)(e:X->Env->Env)(h:X->aN)(b:bF P N R c env H (rb I (λx=>e x E) h Q))(a:∀x,I x->Q .normal (e x E) (h x)):bF P N R c env H Q:=
 bF.cut I (λx=>e x E) h b a
theorem bp.jT:bp H ([]::H):=⟨[],by simp⟩
theorem bp.iG:bp H ([]::[]::H):=⟨[],by simp⟩
theorem bp.MP:bp H ([]::[]::[]::H):=⟨[],by simp⟩
theorem dK.wy{a:Env}{t:Nat}{v v':Value}(h:dK env a)(b:Env.get? env t=some v)(e:v=v'):dK env ((t,v')::a):=h.cons (e▸b)
theorem dK.cy{c:Env}{t:Nat}{b a:Bool}(h:dK env c)(d:Env.get? env t=some (.bool b))(e:b=a):dK env ((t,.bool a)::c):=h.cons (e▸d)
theorem dK.mW{c:Env}{t:Nat}{k:IntKind}{b a:Int}(h:dK env c)(d:Env.get? env t=some (.int k b))(e:b=a):dK env ((t,.int k a)::c):=h.cons (e▸d)
theorem bo.Mx{x y:Operand}{t u ty:TypeId}{k h:IntKind}{m n:Int}(c:ev env x=some (.int k m):=by rfl)(f:ev env y=some (.int h n):=by rfl):bo P R env H (.call ⟨.builtin .max,#[x,y],#[t,u]⟩) ty (.int k (max m n)):=λa w d j i g b _ _=>by
 have e:(if n>m then n else m)=max m n:=by rw[Int.max_def];split<;>split<;>omega
 simp[execOp,resolve,b.eval c,b.eval f,invoke,builtin,Builtin.max_,Builtin.max2,e]
theorem kF.tn{d e f g i:ResultVar}{j k l m n:Value}(u:RV R H env P d j)(v:RV R H env P e k)(x:RV R H env P f l)(y:RV R H env P g m)(z:RV R H env P i n):kF P R [d,e,f,g,i] env H (.tuple #[j,k,l,m,n]):=λa w B A b s c=>by
 have o:=u.h a w b s c
 have p:=v.h a w b s c
 have q:=x.h a w b s c
 have r:=y.h a w b s c
 have t:=z.h a w b s c
 rw[uA,A]
 simp[o,p,q,r,t]
end
section
variable{α:Type}{l:List α}{i:Nat}{x:α}{f:α->Bool}
theorem er(a:l[i]? =some x):l.take (i+1)=l.take i++[x]:=by rw[ab2,a];rfl
theorem sS(b:l[i]? =some x)(h:(l.take i).any f=false)(a:f x=false):(l.take (i+1)).any f=false:=by rw[er b,List.any_append,h];simp[a]
theorem qF(b:l[i]? =some x)(a:f x=true):l.any f=true:=List.any_eq_true.2 ⟨x,aV b,a⟩
theorem mR(b:l[i]? =some x)(h:(l.take i).all f=true)(a:f x=true):(l.take (i+1)).all f=true:=by rw[er b,List.all_append,h];simp[a]
theorem k3(b:l[i]? =some x)(a:f x=false):l.all f=false:=List.all_eq_false.2 ⟨x,aV b,by simp[a]⟩
theorem dN(h:l.length<=i):l.take i=l:=ab1 h
end
end
section
set_option linter.unusedVariables false
section
variable{κ β:Type} [DecidableEq κ]
variable{P:Program}{N:Nat}{R:aw}{ops:Array Oper}{l:List Oper}{env:Env}{H:aN}{K:Env->aN->Prop}{T:aH}{upd:aH->aN}{ty:TypeId}{pos:String}{af:Array Edge}
variable{encK:κ->Value}{encV:β->Value}{mp:Value}{M:List (κ×β)}
def ME(encK:κ->Value)(encV:β->Value)(m:Value)(M:List (κ×β))(key:κ)(s:Value)(T:aH):Prop:=
 ∃(b:Nat) (es:Array MapEntry) (clock j:Nat) (e:MapEntry) (M1:List (κ×β)),m=.map (some b)/\T=[(b,.map es clock)]/\ir encK encV es clock M1/\(M1.map (·.1))[j]? =some key/\es[j]? =some e/\e.key=encK key/\s=goInt (e.born:Nat)/\∀u,dD key u M1=dD key u M
theorem MD{k:κ}{x y:β}{M:List (κ×β)}(h:k∉M.map (·.1)):dD k y (dD k x M)=dD k y M:=by
 rw[mB h,mB h]
 induction M with
 |nil=>simp[dD]
 |cons p M ih=>
  obtain⟨a,z⟩:=p
  simp only[aa8,abc,not_or]at h
  simp only[abv,dD,aa6 h.1,ih h.2]
theorem aO.mapEntry{d:Nat}{t kt E:TypeId}{x y:Operand}{key:κ}{z:Value}(u0:β)(h:MS encK encV mp M T) [sa:fA H T upd](L:ev env x=some mp)(O:ev env y=some (encK key)) [ut:bS P t (.map kt E)] [C:fq P kt encK] [zr:Zr P E z](Z:encV u0=z)
  (J:∀T' s,ME encK encV mp M key s T'->aO false P N R ops l ((d,.tuple [((db key M).map encV).getD z,s].toArray)::env) (upd T') K)(S:Nat.blt d N=true:=by rfl):
  aO false P N R ops (⟨some d,.mapEntry t x y,ty,pos,af,none⟩::l) env H K:=
 aO.mv S λa w o s ro=>by
  obtain⟨b,g,c,rfl,rfl,m⟩:=h
  obtain⟨H1,H2,Q,k⟩:=sa.h
  subst Q
  have p:w.heap[b]? =some (.map g c):=s.2 (b,_) (by simp)
  obtain⟨r,F,G,n⟩:=m.find (P:=P) (kt:=kt) key w
  cases r with
  |none=>
   obtain⟨f,D⟩:=nY (o':=.map (g.push {key:=encK key,val:=z,born:=c}) (c+1)) s
   have I:=m.insert u0 n
   rw[Z]at I
   have q:db key M=none:=by simpa using G.symm
   refine⟨.tuple [z,goInt c].toArray,_,upd [(b,.map (g.push {key:=encK key,val:=z,born:=c}) (c+1))],?_,by rw[k];exact f,by rw[k];exact D,?_⟩
   ·simp only[execOp,o.eval L,o.eval O]
    simp[Instr.mapEntry,run_underlying ut.h,l7 p,C.ck,F,zr.h,qd p]
   ·have W:z=((db key M).map encV).getD z:=by rw[q];rfl
    have:=J [(b,.map (g.push {key:=encK key,val:=z,born:=c}) (c+1))] (goInt c) ⟨b,_,_,g.size,{key:=encK key,val:=z,born:=c},dD key u0 M,rfl,rfl,I,by
     rw[mB n]
     have:=m.kg.length
     simp at this⊢
     simp[this],by simp,rfl,rfl,λu=>MD n⟩
    rw[<-W]at this
    exact this
  |some jv=>
   obtain⟨j,v⟩:=jv
   obtain⟨q,e,A,B⟩:=n
   have U:(g.modify j λe=>{e with key:=encK key})=g:=by
    apply Array.ext_getElem?
    intro i
    rw[abO]
    split
    ·rename_i V
     subst V
     rw[A]
     simp only[abi,abz]
     rw[<-B]
    ·rfl
   obtain⟨f,D⟩:=nY (o':=.map g c) s
   have Y:v=((db key M).map encV).getD z:=by rw[<-G];rfl
   refine⟨.tuple [v,goInt e.born].toArray,_,upd [(b,.map g c)],?_,by rw[k];exact f,by rw[k];exact D,?_⟩
   ·have X:(Instr.keyThatStays (encK key) (encK key)).run P w=.ok (encK key) w:=by
     unfold Instr.keyThatStays
     rw[C.same];rfl
    simp only[execOp,o.eval L,o.eval O]
    simp[Instr.mapEntry,run_underlying ut.h,l7 p,C.ck,F,A,B,X,U,qd p]
   ·rw[Y]
    exact J _ _ ⟨b,g,c,j,e,M,rfl,rfl,m,q,A,B,rfl,λu=>rfl⟩
theorem bo.m3{x y:Operand}{t kt a:TypeId}{z v:Value}{key:κ}(h:RM (Rx R H) encK encV mp M)(c:ev env x=some mp)(d:ev env y=some (encK key))(b:((db key M).map encV).getD z=v) [ut:bS P t (.map kt a)] [e:fq P kt encK] [f:Zr P a z]:
  bo P R env H (.lookup t x y false) ty v:=b▸bo.Mp h c d
theorem aO.entryStore{t:TypeId}{x y z:Operand}{key:κ}{s:Value}{u:β}(h:ME encK encV mp M key s T) [Q:fA H T upd](I:ev env x=some mp)(J:ev env y=some s)(L:ev env z=some (encV u))
  (E:∀T',MS encK encV mp (dD key u M) T'->aO false P N R ops l env (upd T') K):
  aO false P N R ops (⟨none,.entryStore t x y z,ty,pos,af,none⟩::l) env H K:=
 aO.qQ λa w k s X=>by
  obtain⟨b,c,d,j,e,V,rfl,rfl,o,A,p,B,rfl,G⟩:=h
  obtain⟨S,U,v,n⟩:=Q.h
  subst v
  have q:w.heap[b]? =some (.map c d):=s.2 (b,_) (by simp)
  have r:=o.update u A
  rw[G]at r
  have C:(c.modify j λe=>{e with val:=encV u})=c.modify j λe=>{e with key:=encK key,val:=encV u}:=by
   apply Array.ext_getElem?
   intro i
   rw[abO,abO]
   split
   ·rename_i m
    subst m
    rw[p]
    simp only[abi,abz]
    rw[<-B]
   ·rfl
  have D:c.findIdx? (λx=>(x.born:Int)==(e.born:Int))=some j:=by
   have g:=(Array.getElem?_eq_some_iff.1 p)
   have W:=g.1
   rw[Array.findIdx?_eq_some_iff_getElem]
   refine⟨g.1,by rw[g.2];simp,λi m=>?_⟩
   have F:=List.pairwise_iff_getElem.1 o.pa i j (by simp;omega) (by simp;omega) m
   simp only[abC,Array.getElem_toList,g.2]at F
   simp only[beq_iff_eq]
   omega
  obtain⟨f,O⟩:=nY (o':=.map (c.modify j λe=>{e with key:=encK key,val:=encV u}) d) s
  refine⟨_,upd [(b,.map (c.modify j λe=>{e with key:=encK key,val:=encV u}) d)],.inl ?_,by rw[n];exact f,by rw[n];exact O,E _ ⟨b,_,d,rfl,rfl,r⟩⟩
  simp only[execOp,k.eval I,k.eval J,k.eval L]
  simp[Instr.entryStore,l7 q,asInt,asIntOf,goInt,D,C,qd q]
theorem bo.u64{op:Op}{z:Int}(c:Int)(h:bo P R env H op ty (.int .u64 (IntKind.u64.wrap z)))(e:z=c/\0<=c/\c<=18446744073709551615):bo P R env H op ty (.int .u64 c):=by
 obtain⟨rfl,b,d⟩:=e
 have a:IntKind.u64.wrap z=z:=by
  simp[IntKind.wrap,IntKind.bits,IntKind.signed]
  omega
 rw[a]at h
 exact h
theorem Spec.NI{f:FuncId}{i:List Value}{H':aN}{Post:Value->aN->Prop}(h:H.flatten.Perm H'.flatten)(s:Spec P f i R H' Post):Spec P f i R H Post:=λw u j=>by
 have l:Sat w H':=u.perm h
 have m:RO w R H':=λb o d=>⟨(j b o d).1,λp c=>(j b o d).2 p (h.mem_iff.2 c)⟩
 refine(s w l m).mono λe y ⟨v,k,g,c,x,a⟩=>⟨v,k,g,c,x,a.le,λb d r=>a.iS b d λp n=>r p (h.mem_iff.2 n),λp c=>?_,a.os,a.output,a.tape⟩
 rcases a.ke p c with⟨q,t,g⟩|hge
 ·exact .inl ⟨q,h.mem_iff.2 t,g⟩
 ·exact .inr hge
end
section
variable{α:Type}{lt:α->α->Bool}
def gN(lt:α->α->Bool)(p:α):List α->List α
 |[]=>[p]
 |r::L=>if lt p r then p::r::L else r::gN lt p L
theorem xC{p:α}:∀{X Y:List α},X.any (lt p)=true->gN lt p (X++Y)=gN lt p X++Y
 |[],Y,h=>by simp at h
 |r::X,Y,h=>by
  simp only[abv,gN]
  split
  ·rfl
  ·rename_i a
   have:X.any (lt p)=true:=by simpa[a]using h
   rw[xC this];rfl
theorem tt{p:α}:∀{X Y:List α},X.any (lt p)=false->gN lt p (X++Y)=X++gN lt p Y
 |[],Y,h=>rfl
 |r::X,Y,h=>by
  simp only[List.any_cons,Bool.or_eq_false_iff]at h
  simp only[abv,gN,h.1]
  rw[tt h.2];rfl
theorem qZ{p:α}:∀{L:List α},(gN lt p L).Perm (p::L)
 |[]=>.refl _
 |r::L=>by
  simp only[gN]
  split
  ·exact .refl _
  ·exact((qZ (L:=L)).cons r).trans (List.Perm.swap p r L)
theorem xD(c:∀x y z,lt x y=true->lt y z=true->lt x z=true){p:α}:∀{L:List α},(L.Pairwise λx y=>lt x y=true)->(∀y∈L,lt p y=true\/lt y p=true)->(gN lt p L).Pairwise λx y=>lt x y=true
 |[],_,_=>by simp[gN]
 |r::L,h,hp=>by
  have b:=ab3.1 h
  simp only[gN]
  split
  ·rename_i a
   refine ab3.2 ⟨λx hx=>?_,h⟩
   rcases abc.1 hx with rfl|hx
   ·exact a
   ·exact c _ _ _ a (b.1 x hx)
  ·rename_i a
   refine ab3.2 ⟨λx hx=>?_,xD c b.2 λy d=>hp y (by simp[d])⟩
   rcases abc.1 (qZ.mem_iff.1 hx)with rfl|hx
   ·rcases hp r (by simp)with h2|h2
    ·exact absurd h2 a
    ·exact h2
   ·exact b.1 x hx
theorem Lc{p:α}{L:List α}(h:L.any (lt p)=false):gN lt p L=L++[p]:=by
 have:=tt (Y:=[]) h
 simpa[gN]using this
theorem Ld{p:α}{L:List α}:(gN lt p L).length=L.length+1:=by
 simpa using(qZ (lt:=lt) (p:=p) (L:=L)).length_eq
def kh(lt:α->α->Bool)(p:α)(X:List α):List α:=if X.any (lt p)then gN lt p X else X
theorem xE{p:α}{X:List α}:(kh lt p X).length<=X.length+1:=by
 unfold kh
 split
 ·rw[Ld];omega
 ·omega
def mY(lt:α->α->Bool)(p:α)(X:List α)(x:α):List α:=kh lt p X++if !X.any (lt p)&&lt p x then [p]else []
theorem tq{p x:α}{L:List α}{i:Nat}(a:L[i]? =some x):(L.take (i+1)).any (lt p)=((L.take i).any (lt p)||lt p x):=by
 rw[ab2,a];simp
theorem Le{p x:α}{L:List α}{i:Nat}(b:L[i]? =some x):mY lt p (L.take i) x++[x]=kh lt p (L.take (i+1)):=by
 have c:=tq (lt:=lt) (p:=p) b
 have a:L.take (i+1)=L.take i++[x]:=by rw[ab2,b];rfl
 unfold mY kh
 rw[c]
 cases h:(L.take i).any (lt p)with
 |true=>simp[a,xC h]
 |false=>
  cases h':lt p x with
  |true=>simp[a,tt h,gN,h']
  |false=>simp[a]
theorem Lf{p x:α}{L:List α}{i:Nat}(c:L[i]? =some x)(b:(!(L.take i).any (lt p))=true)(a:lt p x=true):mY lt p (L.take i) x=kh lt p (L.take i)++[p]/\(L.take (i+1)).any (lt p)=true:=by
 refine⟨?_,by rw[tq c,a,Bool.or_true]⟩
 unfold mY
 rw[b,a];rfl
theorem tu{p x:α}{L:List α}{i:Nat}(c:L[i]? =some x)(b:(!(L.take i).any (lt p))=false\/lt p x=false):mY lt p (L.take i) x=kh lt p (L.take i)/\(L.take (i+1)).any (lt p)=(L.take i).any (lt p):=by
 rw[tq c]
 unfold mY
 rcases b with h|h
 ·have a:(L.take i).any (lt p)=true:=by simpa using h
  simp[a]
 ·simp[h]
end
end
end Go.Proofs.YtenilfmlfldogaaGreatDoor

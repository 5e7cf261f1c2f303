/- What the law 'OpDecodes' uses. No condition. -/
import Derived.IntWalk
import Derived.Test.YtgppncmdpcefhaaGreatDoorKOpDecodesA
set_option linter.unusedVariables false
set_option linter.unusedSimpArgs false
namespace Go.Proofs.YtgppncmdpcefhaaGreatDoor
set_option linter.defProp false
def aay:=@if_neg
def aaz:=@if_pos
def aaA:=@List.map_cons
def aaB:=@if_false
def aaC:=@Bool.false_eq_true
def aaD:=@List.append_assoc
def aaE:=@List.getElem?_toArray
def aaF:=@if_true
def aaG:=@List.mem_cons
def aaH:=@List.getElem?_eq_getElem
def aaI:=@congrArg
def aaJ:=@Nat.lt_or_ge
def aaK:=@List.append_nil
def aaL:=@List.getElem?_cons_succ
def aaM:=@List.filter_cons
def aaN:=@List.getElem_map
def aaO:=@List.flatten_cons
def aaP:=@List.flatten_append
def aaQ:=@List.mem_of_getElem?
def aaR:=@List.mem_map
def aaS:=@decide_false
def aaT:=@Nat.le_of_ble_eq_true
def aaU:=@List.mem_iff_getElem
def aaV:=@List.getElem?_map
def aaW:=@List.perm_append_comm
def aaX:=@Bool.not_false
def aaY:=@List.length_append
def aaZ:=@Prod.mk.injEq
def aa0:=@List.nodup_cons
def aa1:=@Nat.le_refl
def aa2:=@List.length_take
def aa3:=@Nat.mul_le_mul_right
def aa4:=@List.getElem?_cons_zero
def aa5:=@List.eq_nil_of_length_eq_zero
def aa6:=@List.length_cons
def aa7:=@List.length_map
def aa8:=@Option.map_some
def aa9:=@List.mem_filter
def aba:=@Bool.not_true
def abb:=@List.size_toArray
def abc:=@Array.length_toList
def abd:=@List.getElem?_append_left
def abe:=@List.getElem?_eq_some_iff
def abf:=@Option.some.injEq
def abg:=@Array.mem_filter
def abh:=@List.getElem_mem
def abi:=@List.length_zip
def abj:=@List.getElem_zip
def abk:=@Array.contains_push
def abl:=@List.getElem_inj
def abm:=@List.flatten_nil
def abn:=@List.getElem?_drop
def abo:=@List.append_toArray
def abp:=@List.mem_of_mem_take
def abq:=@beq_self_eq_true
def abr:=@List.mem_map_of_mem
def abt:=@not_false_eq_true
def abu:=@Bool.and_eq_true
def abv:=@List.mem_append_left
def abw:=@List.pairwise_cons
section
variable{α β:Type}
theorem nj{vs cs:List Value}{off:Nat}(h:off+cs.length<=vs.length)(i:Nat):(cg vs off cs)[i]? =if i<off then vs[i]? else if i<off+cs.length then cs[i-off]? else vs[i]? :=by
 have e:min off vs.length=off:=by omega
 simp only[fb,aaD,List.getElem?_append,aa2,e,abn]
 by_cases a:i<off
 ·simp[a]
 ·by_cases b:i<off+cs.length
  ·simp[a,b,show i-off<cs.length by omega]
  ·simp[a,b,show ¬i-off<cs.length by omega,show off+cs.length+(i-off-cs.length)=i by omega]
theorem kT(b off n:Nat):(⟨b,off,none⟩:Addr).add n=⟨b,off+n,none⟩:=by
 simp only[Addr.add];split
 ·rename_i a;subst a;rfl
 ·rfl
theorem n9(a:Nat):∀(r c:Nat),256<=c->Builtin.growBy a r c<=max c (2*a)
 |0,c,_=>by simp[Builtin.growBy];omega
 |r+1,c,h=>by
  simp only[Builtin.growBy]
  split
  ·omega
  ·have:=n9 a r (c+(c+768)/4) (by omega)
   omega
theorem nextslicecap_le{need old:Nat}(h:old<need):Builtin.nextslicecap need old<=2*need:=by
 unfold Builtin.nextslicecap
 split
 ·omega
 ·split
  ·omega
  ·have:=n9 need 4 old (by omega)
   omega
theorem C0(z:Array Value)(n:Nat):(Builtin.zeroCells z n).size=n*z.size:=by simp[Builtin.zeroCells]
theorem nb{P:Program}{R:aC}{sz:Nat}{enc:α->List Value}{v:Value}{xs:List α}{w:World}(h:RS R sz enc v xs)(l:∀b o,R b o->w.heap[b]? =some o):(Builtin.firstCells sz xs.length v).run P w=.ok (xs.flatMap enc).toArray w:=by
 obtain⟨p,m,rfl,q,r,f⟩:=h.h
 rcases f with rfl|⟨b,off,c,E,n,rfl,d,e⟩
 ·cases p with
  |none=>rfl
  |some a=>simp[Builtin.firstCells,loadCells,loadCellsFrom]
 ·have g:=l _ _ d
  have k:=gi h.len
  have:=run_loadCellsFrom (P:=P) (w:=w) (b:=b) (off:=off) (xs.flatMap enc) 0 #[] (λj i=>by
   have:=e j i
   simp[World.cell?,g,this])
  simp only[Builtin.firstCells,loadCells]
  rw[<-k,this]
  simp
theorem BU{P:Program}{R:aC}{sz:Nat}{enc:α->List Value}{v:Value}{xs:List α}{w:World}(h:RS R sz enc v xs):(Builtin.lenOf v).run P w=.ok xs.length w:=by
 obtain⟨p,a,rfl,_⟩:=h.h
 rfl
theorem Bn{p:jM}{A T B:ay}:(p::(A++(T++B))).Perm (A++(p::B)++T):=by
 have a:(A++(T++B)).Perm (A++B++T):=by
  rw[aaD]
  exact aaW.append_left A
 have b:(p::(A++B++T)).Perm (A++(p::B)++T):=by
  have:(p::(A++B)).Perm (A++p::B):=List.perm_middle.symm
  exact this.append_right T
 exact(a.cons p).trans b
theorem bJ.front{H1 H2:aN}{T:ay}{p:jM}:bJ ([p]::(H1++T::H2)) (H1++[p]::H2):=⟨T,by
 simp only[aaO,aaP,List.cons_append,List.nil_append]
 exact Bn⟩
theorem BO{P:Program}{R:aC}{H1 H2:aN}{T:ay}{E sz bytes:Nat}{enc:α->List Value}{v u:Value}{xs ys:List α}{w:World}{ta tb tb' t:TypeId}{z:Value}
  (hv:OS E sz enc v xs T)(hu:RS (Rx R (H1++T::H2)) sz enc u ys)(ua:bF P ta (.slice E))(ub:bF P tb (.slice tb'))(s:Sz P E sz)(by_:By P E bytes)(zr:Zr P E z)(hz:z.cells.size=sz)(hb0:0<bytes)(hb:(xs.length+ys.length)*bytes<=2^47)
  (sat:Sat w (H1++T::H2))(ro:RO w R (H1++T::H2)):
  ∃v' w' T',(Builtin.append_ #[ta,tb] t #[v,u]).run P w=.ok v' w'/\OS E sz enc v' (xs++ys) T'/\Frame w (H1++T::H2) w' (H1++T'::H2)/\Sat w' (H1++T'::H2):=by
 have hw:∀b o,Rx R (H1++T::H2) b o->w.heap[b]? =some o:=λb o h=>by
  rcases h with h|h
  ·exact(ro b o h).1
  ·exact sat.2 _ h
 have hfu:=nb (P:=P) hu hw
 have hlu:=BU (P:=P) (w:=w) hu
 have hlen:∀x∈xs++ys,(enc x).length=sz:=λx hx=>(List.mem_append.1 hx).elim (hv.len x) (hu.len x)
 have hone:∀x∈xs++ys,∀c∈enc x,Go.Proofs.YtgppncmdpcefhaaGreatDoor.aF c=true:=λx hx=>(List.mem_append.1 hx).elim (hv.one x) (hu.one x)
 have hneed:xs.length+ys.length<=2^47:=Nat.le_trans (Nat.le_mul_of_pos_right _ hb0) hb
 have hone':∀c∈ys.flatMap enc,Go.Proofs.YtgppncmdpcefhaaGreatDoor.aF c=true:=λc hc=>by
  obtain⟨y,hy,hcy⟩:=List.mem_flatMap.1 hc
  exact hu.one y hy c hcy
 -- the two ways
 have grow:∀(p:Option Addr) (cap:Nat),v=.slice p xs.length cap->¬xs.length+ys.length<=cap->(Builtin.firstCells sz xs.length v).run P {w with drawn:=w.drawn+1}=.ok (xs.flatMap enc).toArray {w with drawn:=w.drawn+1}->
   ∃v' w' T',(Builtin.append_ #[ta,tb] t #[v,u]).run P w=.ok v' w'/\OS E sz enc v' (xs++ys) T'/\Frame w (H1++T::H2) w' (H1++T'::H2)/\Sat w' (H1++T'::H2):=by
  intro p cap hvp hcap hfv
  obtain⟨i,hi,hib⟩:=by_.h w
  have hcut:∃q,xs.length+ys.length<=q/\q<=maxLen/\q=Question.cut (.appendCap (xs.length+ys.length) cap E) (w.tape w.drawn (.appendCap (xs.length+ys.length) cap E)):=by
   refine⟨_,?_,?_,rfl⟩
   ·simp only[Question.cut];omega
   ·simp only[Question.cut]
    have:w.tape w.drawn (.appendCap (xs.length+ys.length) cap E) % (2^63-(xs.length+ys.length))<2^63-(xs.length+ys.length):=Nat.mod_lt _ (by omega)
    unfold maxLen;omega
  obtain⟨q,hq1,hq2,hq3⟩:=hcut
  have hfu':(Builtin.firstCells sz ys.length u).run P {w with drawn:=w.drawn+1}=.ok (ys.flatMap enc).toArray {w with drawn:=w.drawn+1}:=nb (P:=P) hu (λb o h=>hw b o h)
  have hn1:¬((xs.length+ys.length:Nat):Int)>IntKind.i64.max:=by
   have:IntKind.i64.max=9223372036854775807:=by decide
   omega
  have hn2:¬Builtin.nextslicecap (xs.length+ys.length) cap*bytes>2^48:=by
   have h1:=nextslicecap_le (need:=xs.length+ys.length) (old:=cap) (by omega)
   have h2:=aa3 bytes h1
   rw[Nat.mul_assoc]at h2
   omega
  have hrun:(Builtin.append_ #[ta,tb] t #[v,u]).run P w=.ok (.slice (some ⟨w.heap.size,0,none⟩) (xs.length+ys.length) q)
    (World.alloc {w with drawn:=w.drawn+1} (.cells ((xs.flatMap enc).toArray++(ys.flatMap enc).toArray++Builtin.zeroCells z.cells (q-(xs.length+ys.length))) E)):=by
   subst hvp
   simp only[Builtin.append_]
   simp only[aaE,aa4,aaL,Sem.run_bind,run_underlying ua.h,run_underlying ub.h,Result.andThen_ok,s.h,Sem.run_pure]
   have hm:((TypeDesc.slice tb') matches .int _)=false:=rfl
   simp only[aaC,aaB,hlu,Result.andThen_ok,aay hcap,false_or,hn1,false_and,hi,hib,aay hn2,Sem.run_bind]
   have hch:(choose (.appendCap (xs.length+ys.length) cap E)).run P w=.ok (Question.cut (.appendCap (xs.length+ys.length) cap E) (w.tape w.drawn (.appendCap (xs.length+ys.length) cap E))) {w with drawn:=w.drawn+1}:=by
    simp[choose,Sem.run,Question.forced]
   rw[hch, <-hq3]
   obtain⟨i',hi',hib'⟩:=by_.h {w with drawn:=w.drawn+1}
   have har:∀n,(askRoom n).run P {w with drawn:=w.drawn+1}=.ok () {w with drawn:=w.drawn+1}:=λn=>by
    unfold askRoom;split<;>rfl
   simp only[Result.andThen_ok,hi',har,hfv,aaX,aaF,hfu',zr.h,jt]
   rfl
  have hz':(Builtin.zeroCells z.cells (q-(xs.length+ys.length))).size=(q-(xs.length+ys.length))*sz:=by rw[C0,hz]
  generalize hC:(xs.flatMap enc).toArray++(ys.flatMap enc).toArray++Builtin.zeroCells z.cells (q-(xs.length+ys.length))=C at hrun
  have hsize:0+q*sz<=C.size:=by
   have h1:=gi hv.len
   have h2:=gi hu.len
   rw[<-hC]
   simp only[Array.size_append,abb,h1,h2,hz']
   rw[<-Nat.add_mul, <-Nat.add_mul,Nat.zero_add]
   exact aa3 _ (by omega)
  have hrow:Row C 0 ((xs++ys).flatMap enc):=by
   intro k hk
   rw[<-hC]
   rw[List.flatMap_append]at hk⊢
   have hsz:k<((xs.flatMap enc).toArray++(ys.flatMap enc).toArray).size:=by
    rw[aaY]at hk
    simpa only[Array.size_append,abb]using hk
   rw[Nat.zero_add,Array.getElem?_append_left hsz,abo (xs.flatMap enc) (ys.flatMap enc),aaE]
  clear hC hz' hfu hlu hfu' hq3
  have hos:OS E sz enc (.slice (some ⟨w.heap.size,0,none⟩) (xs.length+ys.length) q) (xs++ys) [(w.heap.size,.cells C E (0,0))]:=
   ⟨hlen,hone,.inr ⟨w.heap.size,0,C,q,by rw[aaY],rfl,by rw[aaY];exact hq1,hq2,hsize,hrow⟩⟩
  have f:=(Frame.drew w (H1++T::H2) (w.drawn+1)).trans (Frame.alloc {w with drawn:=w.drawn+1} (H1++T::H2) (.cells C E (0,0)))
  have f2:Frame w (H1++T::H2) (World.alloc {w with drawn:=w.drawn+1} (.cells C E)) (H1++[(w.heap.size,.cells C E (0,0))]::H2):=f.trans (bJ.front.frame _)
  have s2:Sat (World.alloc {w with drawn:=w.drawn+1} (.cells C E)) (H1++[(w.heap.size,.cells C E (0,0))]::H2):=bJ.front.sat (Sat.alloc (w:={w with drawn:=w.drawn+1}) (sat.drew _) _)
  exact⟨_,_,_,hrun,hos,f2,s2⟩
 rcases hv.h with⟨rfl,rfl,rfl⟩|⟨b,off,c,cap,rfl,rfl,g3,g4,g5,g6⟩
 ·by_cases h0:ys.length=0
  ·have hy:ys=[]:=aa5 h0
   subst hy
   refine⟨.slice none 0 0,w,[],?_,OS.nil,Frame.refl _ _,sat⟩
   simp only[Builtin.append_]
   simp only[aaE,aa4,aaL,Sem.run_bind,run_underlying ua.h,run_underlying ub.h,Result.andThen_ok,s.h,Sem.run_pure,aaC,aaB,hlu]
   have hfu0:(Builtin.firstCells sz 0 u).run P w=.ok #[] w:=hfu
   simp[hfu0]
  ·exact grow none 0 rfl (by simp only[List.length_nil];omega) rfl
 ·by_cases hcap:xs.length+ys.length<=cap
  ·have hb:=sat.2 (b,.cells c E (0,0)) (by simp)
   have hc:c=c.toList.toArray:=by simp
   have hl1:=gi hv.len
   have hl2:=gi hu.len
   have hroom:off+xs.length*sz+(ys.flatMap enc).length<=c.toList.length:=by
    rw[hl2,abc,Nat.add_assoc, <-Nat.add_mul]
    exact Nat.le_trans (Nat.add_le_add_left (aa3 _ hcap) _) g5
   have hst:=ni (P:=P) (b:=b) (off:=off+xs.length*sz) (E:=E) (ys.flatMap enc) 0 c.toList w (by rw[<-hc];exact hb) hone' (by simpa using hroom)
   rw[Nat.add_zero]at hst
   have hadd:(⟨b,off,none⟩:Addr).add (xs.length*sz)=⟨b,off+xs.length*sz,none⟩:=by
    simp only[Addr.add];split
    ·rename_i h0;rw[h0];rfl
    ·rfl
   refine⟨.slice (some ⟨b,off,none⟩) (xs.length+ys.length) cap,cX w b (.cells (cg c.toList (off+xs.length*sz) (ys.flatMap enc)).toArray E (0,0)),[(b,.cells (cg c.toList (off+xs.length*sz) (ys.flatMap enc)).toArray E (0,0))],?_,⟨hlen,hone,.inr ⟨b,off,_,cap,by rw[aaY],rfl,by rw[aaY];exact hcap,g4,?_,?_⟩⟩,Frame.set (T1:=[]) (T2:=[]),Sat.set (T1:=[]) (T2:=[]) sat⟩
   ·simp only[Builtin.append_]
    simp only[aaE,aa4,aaL,Sem.run_bind,run_underlying ua.h,run_underlying ub.h,Result.andThen_ok,s.h,Sem.run_pure,aaC,aaB,hlu,aaz hcap,aaX,aaF,hfu,hadd,hst]
   ·rw[abb,kG hroom,abc];exact g5
   ·intro k hk
    rw[List.flatMap_append]at hk⊢
    rw[aaE]
    have hle:off+xs.length*sz<=c.toList.length:=by omega
    by_cases h1:k<(xs.flatMap enc).length
    ·have h2:=g6 k h1
     rw[hl1]at h1
     rw[fb,aaD,abd (by rw[aa2];omega),List.getElem?_take_of_lt (by omega),Array.getElem?_toList,h2,abd (by omega)]
    ·rw[aaY]at hk
     rw[hl1]at h1 hk
     rw[fb,aaD,List.getElem?_append_right (by rw[aa2];omega),aa2,Nat.min_eq_left hle,
      abd (by omega),List.getElem?_append_right (by omega),hl1]
     congr 1
     omega
  ·refine grow _ cap rfl hcap ?_
   refine nb (P:=P) (R:=sg [(b,.cells c E (0,0))]) (hv.rs λp hp=>hp) λb' o' h'=>?_
   simp only[sg,List.mem_singleton,aaZ]at h'
   obtain⟨e1,e2⟩:=h'
   subst e1;subst e2
   exact sat.2 (b',.cells c E (0,0)) (by simp)
section
variable{P:Program}{N:Nat}{R:aC}{ops:Array Oper}{l:List Oper}{env:Env}{H:aN}{K:Env->aN->Prop}{ty:TypeId}{pos:String}{af:Array Edge}{m:Bool}
theorem aH.append{d:Nat}{x y:Operand}{f tb M E sz b:Nat}{enc:α->List Value}{v u z:Value}{xs ys:List α}{T:ay}{g:ay->aN}(C:OS E sz enc v xs T)(B:RS (Rx R H) sz enc u ys) [L:dt H T g] [O:bF P f (.slice E)] [Q:bF P tb (.slice M)] [s:Sz P E sz] [i:By P E b] [U:Zr P E z]
  (k:(xs.length+ys.length)*b<=2^47)(p:∀v' T',OS E sz enc v' (xs++ys) T'->aH false P N R ops l ((d,v')::env) (g T') K)
  (D:ev env x=some v:=by rfl)(F:ev env y=some u:=by rfl)(G:z.cells.size=sz:=by rfl)(m:0<b:=by decide)(n:Nat.blt d N=true:=by rfl):
  aH false P N R ops (⟨some d,.call ⟨.builtin .append,#[x,y],#[f,tb]⟩,ty,pos,af,none⟩::l) env H K:=
 aH.jk n λa w e J I=>by
  obtain⟨V,W,j,c⟩:=L.h
  subst j
  obtain⟨v',S,T',r,q,o,A⟩:=BO (t:=ty) C B O Q s i U G m k J I
  refine⟨v',S,_,?_,?_,?_,p v' T' q⟩
  ·simp[execOp,resolve,e.eval D,e.eval F,invoke,builtin,r]
  ·rw[c];exact o
  ·rw[c];exact A
theorem aH.drop(is:List Nat)(h:aH m P N R ops l env (rest is H) K):aH m P N R ops l env H K:=λc e b d a w s=>
 h c e b d a w (s.le (dI.refl env) (bJ.drop is H))
theorem aH.pu{t:TypeId}{x y:Operand}{E sz n k:Nat}{enc:α->List Value}{v p u:Value}{xs:List α}{z z':α}{cs:List Value}{T:ay}{M:ay->aN}(i:Nat)(d:OS E sz enc v xs T)(j:xs[i]? =some z) [sa:dt H T M] [s:Sz P t n]
  (g:ev env x=some p)(hp:p=fh (eB v (i*sz)) k)(hy:ev env y=some u)(hc:u.cells=cs.toArray)(hn:cs.length=n)(ho:∀c∈cs,Go.Proofs.YtgppncmdpcefhaaGreatDoor.aF c=true)(m:enc z'=cg (enc z) k cs)(hl:k+cs.length<=sz)
  (a1:∀T',OS E sz enc v (xs.set i z') T'->aH false P N R ops l env (M T') K):aH false P N R ops (⟨none,.store t x y,ty,pos,af,none⟩::l) env H K:=
 aH.mG λa w F L ro=>by
  obtain⟨H1,H2,V,D⟩:=sa.h
  subst V
  have o:=aaQ j
  have hi:i<xs.length:=(abe.1 j).1
  have a2:xs≠[]:=λe=>by subst e;simp at j
  have a0:=d.len z o
  have I:(enc z').length=sz:=by rw[m,kG (by omega),a0]
  rcases d.h with⟨_,rfl,_⟩|⟨b,off,c,C,rfl,rfl,O,Q,S,U⟩
  ·exact absurd rfl a2
  ·have X:=L.2 (b,.cells c E (0,0)) (by simp)
   have Y:c=c.toList.toArray:=by simp
   have a4:p=.pointer (some ⟨b,off+i*sz+k,none⟩):=by
    subst hp
    simp only[eB,fh,kT]
   subst a4
   have a7:c.toList.length=c.size:=abc
   have r:off+i*sz+k+cs.length<=c.toList.length:=by
    have f:(i+1)*sz<=C*sz:=aa3 _ (by omega)
    rw[Nat.succ_mul]at f
    omega
   have a5:=o3 (P:=P) (t:=t) (n:=n) (b:=b) (off:=off+i*sz+k) (E:=E) (v:=u) (cs:=cs) (vs:=c.toList) (w:=w) hc hn (by rw[<-Y];exact X) ho r
   have a6:∀x∈xs.set i z',(enc x).length=sz:=λx g=>(List.mem_or_eq_of_mem_set g).elim (d.len x) (λe=>by rw[e];exact I)
   have a3:∀x∈xs.set i z',∀c∈enc x,Go.Proofs.YtgppncmdpcefhaaGreatDoor.aF c=true:=λx g=>(List.mem_or_eq_of_mem_set g).elim (d.one x) (λe=>by
    rw[e,m]
    intro c hc
    simp only[fb,List.mem_append]at hc
    rcases hc with(hc|hc)|hc
    ·exact d.one z o c (abp hc)
    ·exact ho c hc
    ·exact d.one z o c (List.mem_of_mem_drop hc))
   refine⟨cX w b (.cells (cg c.toList (off+i*sz+k) cs).toArray E (0,0)),_,.inl ?_,?_,?_,a1 [(b,.cells (cg c.toList (off+i*sz+k) cs).toArray E (0,0))] ⟨a6,a3,.inr ⟨b,off,_,C,by rw[List.length_set],rfl,by rw[List.length_set];exact O,Q,?_,?_⟩⟩⟩
   ·simp[execOp,F.eval g,F.eval hy,a5]
   ·rw[D];exact Frame.set (T1:=[]) (T2:=[])
   ·rw[D];exact Sat.set (T1:=[]) (T2:=[]) L
   ·rw[abb,kG r,abc];exact S
   ·have f:=n3 d.len j I m hl
    rw[f]
    have Z:=gi d.len
    have G:i*sz+k+cs.length<=(xs.flatMap enc).length:=by
     rw[Z]
     have f:(i+1)*sz<=xs.length*sz:=aa3 _ (by omega)
     rw[Nat.succ_mul]at f;omega
    intro q J
    rw[kG G]at J
    have W:=U q J
    rw[aaE,nj r,nj G,Array.getElem?_toList,W]
    by_cases A:q<i*sz+k
    ·rw[aaz (show off+q<off+i*sz+k by omega),aaz A]
    ·rw[aay (show ¬off+q<off+i*sz+k by omega),aay A]
     by_cases B:q<i*sz+k+cs.length
     ·rw[aaz (show off+q<off+i*sz+k+cs.length by omega),aaz B,show off+q-(off+i*sz+k)=q-(i*sz+k) by omega]
     ·rw[aay (show ¬off+q<off+i*sz+k+cs.length by omega),aay B]
theorem pZ(p:Value):fh p 0=p:=by
 unfold fh
 split
 ·rename_i a;rfl
 ·rfl
theorem nA{v:Value}{k:Nat}:fh (eB v k) 0=eB v k:=pZ _
theorem pd{vs cs:List Value}(h:cs.length=vs.length):cg vs 0 cs=cs:=by rw[fb];simp[h]
theorem aH.bh{t:TypeId}{x y:Operand}{E sz:Nat}{enc:α->List Value}{v:Value}{xs:List α}{z:α}{T:ay}{e:ay->aN}(i:Nat)(b:OS E sz enc v xs T)(d:xs[i]? =some z) [j:dt H T e] [s:Sz P t sz](z':α)
  (f:∀T',OS E sz enc v (xs.set i z') T'->aH false P N R ops l env (e T') K)(ho:∀c∈enc z',Go.Proofs.YtgppncmdpcefhaaGreatDoor.aF c=true)(a:(enc z').length=sz:=by rfl)(g:ev env x=some (eB v (i*sz)):=by rfl)(h:ev env y=some (.agg (enc z').toArray):=by rfl):
  aH false P N R ops (⟨none,.store t x y,ty,pos,af,none⟩::l) env H K:=
 aH.pu (k:=0) (cs:=enc z') i b d g nA.symm h rfl a ho (pd (by rw[a,b.len z (aaQ d)])).symm (by omega) f
theorem aH.lQ{t:TypeId}{x y:Operand}{E:Nat}{enc:α->List Value}{v u:Value}{xs:List α}{z:α}{T:ay}{c:ay->aN}(i:Nat)(a:OS E 1 enc v xs T)(b:xs[i]? =some z) [h:dt H T c] [s:Sz P t 1](z':α)
  (d:∀T',OS E 1 enc v (xs.set i z') T'->aH false P N R ops l env (c T') K)(e:enc z'=[u]:=by rfl)(ho:Go.Proofs.YtgppncmdpcefhaaGreatDoor.aF u=true:=by rfl)(f:ev env x=some (eB v (i*1)):=by rfl)(g:ev env y=some u:=by rfl):
  aH false P N R ops (⟨none,.store t x y,ty,pos,af,none⟩::l) env H K:=
 aH.pu (k:=0) (cs:=[u]) i a b f nA.symm g (kX ho) rfl (by simpa using ho) (by rw[e,pd (by rw[a.len z (aaQ b)];rfl)]) (by simp) d
end
end
section
inductive CK where
 |i (k:IntKind)
 |s
 |b
def gB:CK->Value->Prop
 | .i k,.int k' _=>k'=k
 | .s,.string _=>True
 | .b,.bool _=>True
 |_,_=>False
def fp:List CK->List Value->Prop
 |[],[]=>True
 |k::ks,v::vs=>gB k v/\fp ks vs
 |_,_=>False
def iS:Value->Value->Bool
 | .int _ a,.int _ b=>a==b
 | .string a,.string b=>decide (a=b)
 | .bool a,.bool b=>a==b
 |_,_=>false
def fi:List Value->List Value->Bool
 |[],[]=>true
 |a::l,b::l2=>iS a b&&fi l l2
 |_,_=>false
def pack:Bool->List Value->Value
 |false,[x]=>x
 |_,xs=>.agg xs.toArray
theorem fp.length:∀{ks:List CK} {vs:List Value},fp ks vs->vs.length=ks.length
 |[],[],_=>rfl
 |_::ks,_::vs,h=>by simp[fp.length (ks:=ks) (vs:=vs) h.2]
 |[],_::_,h=>h.elim
 |_::_,[],h=>h.elim
class iu(P:Program)(t:TypeId)(n:outParam Nat)(ks:outParam (List CK))(agg:outParam Bool):Prop where
 ne:0<n
 eq:∀d,n<=d->∀w xs ys,fp ks xs->fp ks ys->(Op.equalIn d t (pack agg xs) (pack agg ys)).run P w=.ok (fi xs ys) w
 ck:∀d,n<=d->∀e w xs,fp ks xs->(Instr.checkKey e d t (pack agg xs)).run P w=.ok () w
 part:∀w (X:List Value) off xs,(X.drop off).take ks.length=xs->xs.length=ks.length->(part t X.toArray off).run P w=.ok (pack agg xs) w
section
variable{P:Program}
theorem hE{k:CK}{xs:List Value}(h:fp [k] xs):∃x,xs=[x]/\gB k x:=by
 match xs,h with
 |[x],h=>exact⟨x,rfl,h.1⟩
theorem mY{t:TypeId}(a:cx P t false)(w:World)(X:List Value)(off:Nat)(xs:List Value)(h:(X.drop off).take 1=xs)(c:xs.length=1):(part t X.toArray off).run P w=.ok (pack false xs) w:=by
 match xs,c with
 |[x],_=>
  have d:X[off]? =some x:=by
   have b:=aaI (λl:List Value=>l[0]?) h
   simpa[List.getElem?_take,abn]using b
  simp[Go.part,a.h,d,pack]
theorem iu.int{t:TypeId}{k:IntKind}(u:bF P t (.int k))(c:cx P t false):iu P t 1 [.i k] false where
 ne:=by decide
 eq d hd w xs ys hx hy:=by
  obtain⟨x,rfl,a⟩:=hE hx
  obtain⟨y,rfl,b⟩:=hE hy
  obtain⟨d,rfl⟩:∃d',d=d'+1:=⟨d-1,by omega⟩
  cases x<;>simp only[gB]at a
  cases y<;>simp only[gB]at b
  subst a;subst b
  simp[pack,Op.equalIn,run_underlying u.h,fi,iS]
 ck d hd e w xs hx:=by
  obtain⟨x,rfl,a⟩:=hE hx
  obtain⟨d,rfl⟩:∃d',d=d'+1:=⟨d-1,by omega⟩
  simp[pack,Instr.checkKey,run_underlying u.h]
 part w X off xs h hl:=mY c w X off xs h hl
theorem iu.str{t:TypeId}(u:bF P t .string)(b:cx P t false):iu P t 1 [.s] false where
 ne:=by decide
 eq d hd w xs ys hx hy:=by
  obtain⟨x,rfl,a⟩:=hE hx
  obtain⟨y,rfl,c⟩:=hE hy
  obtain⟨d,rfl⟩:∃d',d=d'+1:=⟨d-1,by omega⟩
  cases x<;>simp only[gB]at a
  cases y<;>simp only[gB]at c
  simp[pack,Op.equalIn,run_underlying u.h,fi,iS,kV]
 ck d hd e w xs hx:=by
  obtain⟨x,rfl,a⟩:=hE hx
  obtain⟨d,rfl⟩:∃d',d=d'+1:=⟨d-1,by omega⟩
  simp[pack,Instr.checkKey,run_underlying u.h]
 part w X off xs h hl:=mY b w X off xs h hl
theorem iu.bool{t:TypeId}(u:bF P t .bool)(c:cx P t false):iu P t 1 [.b] false where
 ne:=by decide
 eq d hd w xs ys hx hy:=by
  obtain⟨x,rfl,a⟩:=hE hx
  obtain⟨y,rfl,f⟩:=hE hy
  obtain⟨d,rfl⟩:∃d',d=d'+1:=⟨d-1,by omega⟩
  cases x<;>simp only[gB]at a
  cases y<;>simp only[gB]at f
  simp[pack,Op.equalIn,run_underlying u.h,fi,iS]
 ck d hd e w xs hx:=by
  obtain⟨x,rfl,a⟩:=hE hx
  obtain⟨d,rfl⟩:∃d',d=d'+1:=⟨d-1,by omega⟩
  simp[pack,Instr.checkKey,run_underlying u.h]
 part w X off xs h hl:=mY c w X off xs h hl
end
end
section
variable{κ β:Type} [DecidableEq κ]
def da(k:κ):List (κ×β)->Option β
 |[]=>none
 |(k',x)::r=>if k=k' then some x else da k r
def gM(k:κ)(x:β):List (κ×β)->List (κ×β)
 |[]=>[(k,x)]
 |(k',y)::r=>if k=k' then(k',x)::r else(k',y)::gM k x r
def eu(k:κ):List (κ×β)->List (κ×β)
 |[]=>[]
 |(k',y)::r=>if k=k' then r else(k',y)::eu k r
theorem iZ{k:κ}{x:β}:∀{M:List (κ×β)},da k M=some x->(k,x)∈M
 |[],h=>by cases h
 |(k',y)::r,h=>by
  simp only[da]at h
  split at h
  ·rename_i a;subst a;simp only[abf]at h;subst h;simp
  ·exact List.mem_cons_of_mem _ (iZ h)
theorem oz{k:κ}:∀{M:List (κ×β)},da k M=none↔k∉M.map (·.1)
 |[]=>by simp[da]
 |(k',y)::r=>by
  simp only[da,aaA,aaG,not_or]
  split
  ·rename_i a;simp[a]
  ·rename_i a;simp[a,oz]
theorem gj{k:κ}{x:β}:∀{M:List (κ×β)},(M.map (·.1)).Nodup->(k,x)∈M->da k M=some x
 |[],_,h=>by simp at h
 |(k',y)::r,hn,h=>by
  simp only[aaA,aa0]at hn
  simp only[da]
  rcases aaG.1 h with h0|h0
  ·injection h0 with h1 h2;subst h1;subst h2;simp
  ·split
   ·rename_i a;subst a;exact absurd (aaR.2 ⟨_,h0,rfl⟩) hn.1
   ·exact gj hn.2 h0
theorem ow{k:κ}:∀{M:List (κ×β)},(eu k M).Sublist M
 |[]=>by simp[eu]
 |(k',y)::r=>by
  simp only[eu]
  split
  ·exact List.sublist_cons_self _ _
  ·exact(ow).cons_cons _
theorem AT{k:κ}{M:List (κ×β)}(h:(M.map (·.1)).Nodup):((eu k M).map (·.1)).Nodup:=h.sublist (ow.map _)
def eV(k:κ):List κ->List MapEntry->Nat->Option (Nat×Value)
 |k'::ks,e::es,i=>if k=k' then some (i,e.val)else eV k ks es (i+1)
 |_,_,_=>none
class gR(P:Program)(kt:TypeId)(encK:κ->Value):Prop where
 find:∀(k:κ) (es:List MapEntry) (ks:List κ) w,es.map (·.key)=ks.map encK->(Instr.findKey kt (encK k) es).run P w=.ok (eV k ks es 0) w
 ck:∀e k w,(Instr.checkKey e 10000 kt (encK k)).run P w=.ok () w
 same:∀k,Instr.sameBits 10000 (encK k) (encK k)=true
theorem o0{P:Program}{kt:TypeId}{encK:κ->Value}(a:∀k k' w,(Op.equal kt (encK k) (encK k')).run P w=.ok (decide (k=k')) w)(k:κ):
  ∀(es:List MapEntry) (ks:List κ) (i:Nat) w,es.map (·.key)=ks.map encK->(Instr.findAsking kt (encK k) es i).run P w=.ok (eV k ks es i) w
 |[],ks,i,w,h=>by
  cases ks with
  |nil=>rfl
  |cons _ _=>simp at h
 |e::es,[],i,w,h=>by simp at h
 |e::es,k'::ks,i,w,h=>by
  simp only[aaA,List.cons.injEq]at h
  simp only[Instr.findAsking,Sem.run_bind,h.1,a,Result.andThen_ok,eV]
  by_cases b:k=k'
  ·simp[b]
  ·simp only[b,aaS,aaC,aaB]
   exact o0 a k es ks (i+1) w h.2
theorem n0{d:TypeDesc}{encK:κ->Value}(b:∀k k',Instr.sameNow d (encK k) (encK k')=some (decide (k=k')))(k:κ):
  ∀(es:List MapEntry) (ks:List κ) (i:Nat),es.map (·.key)=ks.map encK->Instr.findNow d (encK k) es i=some (eV k ks es i)
 |[],ks,i,h=>by
  cases ks with
  |nil=>rfl
  |cons _ _=>simp at h
 |e::es,[],i,h=>by simp at h
 |e::es,k'::ks,i,h=>by
  simp only[aaA,List.cons.injEq]at h
  simp only[Instr.findNow,h.1,b,eV]
  by_cases a:k=k'
  ·simp[a]
  ·simp only[a,aaS,aaB]
   exact n0 b k es ks (i+1) h.2
theorem BX{ks:List CK}:∀{xs:List Value},fp ks xs->∀x∈xs,Instr.sameBits 9999 x x=true:=by
 induction ks with
 |nil=>intro xs h x hx;cases xs<;>simp_all[fp]
 |cons k ks ih=>
  intro xs h x hx
  cases xs with
  |nil=>simp at hx
  |cons y ys=>
   rcases aaG.1 hx with rfl|hx
   ·have:=h.1
    cases k<;>cases x<;>first|exact this.elim|simp[Instr.sameBits,kV]
   ·exact ih h.2 x hx
theorem gR.agg{P:Program}{kt n:Nat}{ks:List CK}{a:κ->List Value}(e:iu P kt n ks true){c:Array Field}(u:P.underlying kt=some (.struct c))(d:Nat.ble n 10000=true)(b:∀k,fp ks (a k))(m:∀k k',fi (a k) (a k')=decide (k=k')):gR P kt (λk:κ=>.agg (a k).toArray) where
 find k es ks' w h:=by
  have o:∀(k k':κ) w,(Op.equal kt (.agg (a k).toArray) (.agg (a k').toArray)).run P w=.ok (decide (k=k')) w:=λk k' w=>by
   rw[<-m];exact e.eq 10000 (aaT d) w _ _ (b k) (b k')
  have g:=o0 o k es ks' 0 w h
  simp only[Instr.findKey,Sem.run_bind,run_underlying u,Result.andThen_ok]
  cases es with
  |nil=>
   cases ks' with
   |nil=>rfl
   |cons _ _=>simp at h
  |cons e es=>
   have:Instr.findNow (.struct c) (.agg (a k).toArray) (e::es) 0=none:=rfl
   rw[this]
   exact g
 ck em k w:=e.ck 10000 (aaT d) em w _ (b k)
 same k:=by
  have h:=BX (b k)
  show((a k).toArray.size==(a k).toArray.size&&((a k).toArray.toList.zip (a k).toArray.toList).all λ(x,y)=>Instr.sameBits 9999 x y)=true
  simp only[abq,Bool.true_and]
  rw[List.all_eq_true]
  intro p f
  have:p.1=p.2/\p.1∈a k:=by
   have j:=List.of_mem_zip f
   have l:p.1=p.2:=by
    obtain⟨i,r,rfl⟩:=aaU.1 f
    simp
   exact⟨l,by simpa using j.1⟩
  obtain⟨x,y⟩:=p
  simp only at this⊢
  obtain⟨rfl,q⟩:=this
  exact h x q
theorem gR.str{P:Program}{kt:Nat}(u:bF P kt .string)(a:cx P kt false):gR P kt (λs:ByteArray=>.string s) where
 find k es ks w h:=by
  have:=n0 (d:=.string) (encK:=λs:ByteArray=>Value.string s) (λk b=>by simp[Instr.sameNow,kV]) k es ks 0 h
  simp only[Instr.findKey,Sem.run_bind,run_underlying u.h,Result.andThen_ok,this]
  rfl
 ck em k w:=(iu.str u a).ck 10000 (by decide) em w [.string k] ⟨trivial,trivial⟩
 same k:=by simp[Instr.sameBits,kV]
def fW(encK:κ->Value)(encV:β->Value)(es:List MapEntry)(M:List (κ×β)):Prop:=es.map (λe=>(e.key,e.val))=M.map λp=>(encK p.1,encV p.2)
omit [DecidableEq κ] in
theorem fW.keys{encK:κ->Value}{b:β->Value}{a:List MapEntry}{M:List (κ×β)}(h:fW encK b a M):a.map (·.key)=(M.map (·.1)).map encK:=by
 have:=aaI (List.map Prod.fst) h
 simpa[Function.comp_def]using this
omit [DecidableEq κ] in
theorem fW.length{encK:κ->Value}{b:β->Value}{a:List MapEntry}{M:List (κ×β)}(h:fW encK b a M):a.length=M.length:=by
 have:=aaI List.length h
 simpa using this
theorem ot{encK:κ->Value}{a:β->Value}(k:κ):∀{es:List MapEntry} {M:List (κ×β)} (i:Nat),fW encK a es M->
  (eV k (M.map (·.1)) es i).map (·.2)=(da k M).map a
 |[],[],_,_=>rfl
 |[],_::_,_,h=>by simp[fW]at h
 |_::_,[],_,h=>by simp[fW]at h
 |e::es,(k',x)::M,i,h=>by
  simp only[fW,aaA,List.cons.injEq,aaZ]at h
  simp only[aaA,eV,da]
  split
  ·simp[h.1.2]
  ·exact ot k (i+1) h.2
structure fX(encK:κ->Value)(encV:β->Value)(es:Array MapEntry)(clock:Nat)(M:List (κ×β)):Prop where
 gh:fW encK encV es.toList M
 nd:(M.map (·.1)).Nodup
 born:∀e∈es.toList,e.born<clock
 bQ:(es.toList.map (·.born)).Nodup
def RM(R:aC)(encK:κ->Value)(encV:β->Value)(m:Value)(M:List (κ×β)):Prop:=∃b es clock,m=.map (some b)/\R b (.map es clock)/\fX encK encV es clock M
def MS(encK:κ->Value)(encV:β->Value)(m:Value)(M:List (κ×β))(T:ay):Prop:=∃b es clock,m=.map (some b)/\T=[(b,.map es clock)]/\fX encK encV es clock M
omit [DecidableEq κ] in
theorem MS.rm{R:aC}{encK:κ->Value}{a:β->Value}{m:Value}{M:List (κ×β)}{T:ay}(h:MS encK a m M T)(g:∀p∈T,R p.1 p.2):RM R encK a m M:=by
 obtain⟨b,d,c,e,rfl,f⟩:=h
 exact⟨b,d,c,e,g (b,_) (by simp),f⟩
omit [DecidableEq κ] in
theorem MS.nil{encK:κ->Value}{a:β->Value}{b:Nat}:MS encK a (.map (some b)) ([]:List (κ×β)) [(b,.map #[] 0)]:=
 ⟨b,#[],0,rfl,rfl,⟨by simp[fW],by simp,by simp,by simp⟩⟩
omit [DecidableEq κ] in
theorem MS.one{encK:κ->Value}{a:β->Value}{m:Value}{M:List (κ×β)}{T:ay}(h:MS encK a m M T):One m:=⟨by obtain⟨b,d,c,rfl,_⟩:=h;rfl⟩
omit [DecidableEq κ] in
theorem MS.nd{encK:κ->Value}{a:β->Value}{m:Value}{M:List (κ×β)}{T:ay}(h:MS encK a m M T):(M.map (·.1)).Nodup:=by obtain⟨b,e,d,_,_,c⟩:=h;exact c.nd
theorem jd{P:Program}{b:Nat}{c:Array MapEntry}{a:Nat}{w:World}(h:w.heap[b]? =some (.map c a)):(getObj b).run P w=.ok (.map c a) w:=by
 simp[getObj,Sem.run,h]
theorem o2{P:Program}{b:Nat}{c:Array MapEntry}{a:Nat}{o:Obj}{w:World}(h:w.heap[b]? =some (.map c a)):(setObj b o).run P w=.ok () (cX w b o):=by
 simp[setObj,Sem.run,h,cX]
theorem oo{k:κ}:∀{ks:List κ} {es:List MapEntry} {i:Nat},ks.length=es.length->(eV k ks es i=none↔k∉ks)
 |[],es,i,h=>by simp[eV]
 |k'::ks,[],i,h=>by simp at h
 |k'::ks,e::es,i,h=>by
  simp only[aa6,Nat.add_right_cancel_iff]at h
  simp only[eV,aaG,not_or]
  split
  ·rename_i a;simp[a]
  ·rename_i a;rw[oo h];simp[a]
theorem oq{k:κ}:∀{ks:List κ} {es:List MapEntry} {i j:Nat} {v:Value},eV k ks es i=some (j,v)->i<=j/\ks[j-i]? =some k/\∃e,es[j-i]? =some e/\e.val=v
 |[],es,i,j,v,h=>by simp[eV]at h
 |k'::ks,[],i,j,v,h=>by simp[eV]at h
 |k'::ks,e::es,i,j,v,h=>by
  simp only[eV]at h
  split at h
  ·rename_i b
   simp only[abf,aaZ]at h
   obtain⟨rfl,rfl⟩:=h
   simp[b]
  ·have:=oq h
   have a:j-i=(j-(i+1))+1:=by omega
   rw[a]
   exact⟨by omega,by simpa using this.2.1,by simpa using this.2.2⟩
theorem AV{k:κ}{x:β}:∀{M:List (κ×β)} {j:Nat},(M.map (·.1)).Nodup->(M.map (·.1))[j]? =some k->gM k x M=M.set j (k,x)
 |[],j,_,h=>by simp at h
 |(k',y)::r,0,hn,h=>by
  simp at h;subst h;simp[gM]
 |(k',y)::r,j+1,hn,h=>by
  simp only[aaA,aa0]at hn
  simp only[aaA,aaL]at h
  have a:k≠k':=λe=>hn.1 (e▸aaQ h)
  simp only[gM,aay a,List.set_cons_succ,AV hn.2 h]
theorem oA{k:κ}{x:β}:∀{M:List (κ×β)},k∉M.map (·.1)->gM k x M=M++[(k,x)]
 |[],_=>rfl
 |(k',y)::r,h=>by
  simp only[aaA,aaG,not_or]at h
  simp only[gM,aay h.1,oA h.2,List.cons_append]
theorem mT{k:κ}:∀{M:List (κ×β)} {j:Nat},(M.map (·.1)).Nodup->(M.map (·.1))[j]? =some k->eu k M=M.eraseIdx j
 |[],j,_,h=>by simp at h
 |(k',y)::r,0,hn,h=>by
  simp at h;subst h;simp[eu]
 |(k',y)::r,j+1,hn,h=>by
  simp only[aaA,aa0]at hn
  simp only[aaA,aaL]at h
  have a:k≠k':=λe=>hn.1 (e▸aaQ h)
  simp only[eu,aay a,List.eraseIdx_cons_succ,mT hn.2 h]
theorem mU{k:κ}:∀{M:List (κ×β)},k∉M.map (·.1)->eu k M=M
 |[],_=>rfl
 |(k',y)::r,h=>by
  simp only[aaA,aaG,not_or]at h
  simp only[eu,aay h.1,mU h.2]
omit [DecidableEq κ] in
theorem mS{α γ:Type}(f:α->γ):∀(l:List α) (j:Nat),(l.eraseIdx j).map f=(l.map f).eraseIdx j
 |[],_=>rfl
 |_::_,0=>rfl
 |a::l,j+1=>by simp[mS f l j]
theorem fX.find{P:Program}{kt:Nat}{encK:κ->Value}{f:β->Value}{a:Array MapEntry}{g:Nat}{M:List (κ×β)}(h:fX encK f a g M) [i:gR P kt encK](k:κ)(w:World):
    ∃r,(Instr.findKey kt (encK k) a.toList).run P w=.ok r w/\r.map (·.2)=(da k M).map f/\
     (match r with
      |none=>k∉M.map (·.1)
      |some (j,_)=>(M.map (·.1))[j]? =some k/\∃e,a[j]? =some e/\e.key=encK k):=by
  refine⟨_,i.find k a.toList (M.map (·.1)) w h.gh.keys,ot k 0 h.gh,?_⟩
  cases hl:eV k (M.map (·.1)) a.toList 0 with
  |none=>exact(oo (by rw[aa7,h.gh.length])).1 hl
  |some jv=>
   obtain⟨j,v⟩:=jv
   obtain⟨_,b,e,c,_⟩:=oq hl
   simp only[Nat.sub_zero]at b c
   refine⟨b,e,by simpa using c,?_⟩
   have d:=aaI (λl:List Value=>l[j]?) h.gh.keys
   simp only[aaV,c,aa8]at d
   rw[<-aaV,b]at d
   simpa using d
theorem fX.delete{encK:κ->Value}{d:β->Value}{a:Array MapEntry}{c:Nat}{M:List (κ×β)}(h:fX encK d a c M){k:κ}{j:Nat}(g:(M.map (·.1))[j]? =some k):
  fX encK d (a.eraseIdxIfInBounds j) c (eu k M):=by
 have b:(a.eraseIdxIfInBounds j).toList=a.toList.eraseIdx j:=by simp
 refine⟨?_,AT h.nd,?_,?_⟩
 ·have:=h.gh
  unfold fW at this⊢
  rw[b,mT h.nd g,mS,mS,this]
 ·intro e f
  rw[b]at f
  exact h.born e (List.mem_of_mem_eraseIdx f)
 ·rw[b]
  exact h.bQ.sublist ((List.eraseIdx_sublist ..).map _)
end
section
variable{κ β:Type} [DecidableEq κ]
def It(Rd:aC)(encK:κ->Value)(encV:β->Value)(m:Value)(M:List (κ×β))(it:Value)(todo:List κ)(Ti:ay):Prop:=
 ∃b es clock r seen,m=.map (some b)/\Rd b (.map es clock)/\fX encK encV es clock M/\it=.pointer (some ⟨r,0,none⟩)/\Ti=[(r,.mapIter (some b) clock seen clock)]/\
  todo=((es.toList.zip M).filter λp=> !seen.contains p.1.born).map (·.2.1)
section
variable{P:Program}{N:Nat}{R:aC}{ops:Array Oper}{l:List Oper}{env:Env}{H:aN}{K:Env->aN->Prop}{ty:TypeId}{pos:String}{af:Array Edge}{m:Bool}
variable{encK:κ->Value}{encV:β->Value}{mp:Value}{M:List (κ×β)}{T:ay}{upd:ay->aN}
theorem kB{w:World}(s:Sat w H)(r:RO w R H):∀b o,Rx R H b o->w.heap[b]? =some o:=λb o h=>by
 rcases h with h|h
 ·exact(r b o h).1
 ·exact s.2 _ h
omit [DecidableEq κ] in
theorem BQ(n:Nat){t kt a:TypeId}{w:World}{p:Option Nat}(ut:P.underlying t=some (.map kt a)):(Op.equalIn (n+1) t (.map p) (.map none)).run P w=.ok p.isNone w:=by
 cases p<;>simp[Op.equalIn,run_underlying ut]
omit [DecidableEq κ] in
theorem aV.lu{x y:Operand}{t u kt c:TypeId}{p:Option Nat}(e:ev env x=some (.map p))(f:ev env y=some (.map none)) [ut:bF P t (.map kt c)]:aV P R env H (.binOp .neq t x y u) ty (.bool !p.isNone):=λa w d j i g b _ _=>
 ng (op:=.move x) (b.eval e) (b.eval f) (jl rfl) rfl (BQ _ ut.h)
theorem nk{w:World}{H1 H2:aN}{b:Nat}{o o':Obj}(s:Sat w (H1++[(b,o)]::H2)):Frame w (H1++[(b,o)]::H2) (cX w b o') (H1++[(b,o')]::H2)/\Sat (cX w b o') (H1++[(b,o')]::H2):=
 ⟨Frame.set (T1:=[]) (T2:=[]),Sat.set (T1:=[]) (T2:=[]) s⟩
theorem BP{P:Program}{kt s t:TypeId}{key:κ}{w:World}{b:Nat}{i:Array MapEntry}{l:Nat}{ty:TypeId}{t2:TypeId}(ut:bF P t (.map kt s))(q:gR P kt encK)(m:w.heap[b]? =some (.map i l))(h:fX encK encV i l M):
  ∃es',(Builtin.delete_ #[t,t2] ty #[.map (some b),encK key]).run P w=.ok (.tuple #[]) (cX w b (.map es' l))/\fX encK encV es' l (eu key M)/\
   ∀seen:Array Nat,((es'.toList.zip (eu key M)).filter λp=> !seen.contains p.1.born).map (·.2.1)=(((i.toList.zip M).filter λp=> !seen.contains p.1.born).map (·.2.1)).filter λk=>decide (k≠key):=by
 obtain⟨r,d,g,c⟩:=h.find (P:=P) (kt:=kt) key w
 have o:∀(e:List MapEntry) (N:List (κ×β)) (seen:Array Nat),key∉N.map (·.1)->(((e.zip N).filter λp=> !seen.contains p.1.born).map (·.2.1)).filter (λk=>decide (k≠key))=((e.zip N).filter λp=> !seen.contains p.1.born).map (·.2.1):=by
  intro e N seen u
  rw[List.filter_eq_self]
  intro k x
  obtain⟨p,B,rfl⟩:=aaR.1 x
  have C:=(List.of_mem_zip ((aa9.1 B).1:(p.1,p.2)∈e.zip N)).2
  simp only[ne_eq,decide_eq_true_eq]
  exact λe=>u (e▸abr (f:=(·.1)) C)
 cases r with
 |none=>
  refine⟨i,?_,by rw[mU c];exact h,λseen=>by rw[mU c,o _ _ _ c]⟩
  unfold Builtin.delete_
  simp only[aaE,aa4,aaL,Sem.run_bind,run_underlying ut.h,Result.andThen_ok,jd m,q.ck,d,o2 m,Sem.run_pure]
 |some jv=>
  obtain⟨j,v⟩:=jv
  obtain⟨n,e,E,F⟩:=c
  refine⟨i.eraseIdxIfInBounds j,?_,h.delete n,λseen=>?_⟩
  ·unfold Builtin.delete_
   simp only[aaE,aa4,aaL,Sem.run_bind,run_underlying ut.h,Result.andThen_ok,jd m,q.ck,d,o2 m,Sem.run_pure]
  ·have y:(i.eraseIdxIfInBounds j).toList=i.toList.eraseIdx j:=by simp
   rw[y,mT h.nd n]
   have D:∀(e:List MapEntry) (N:List (κ×β)) (j:Nat),(N.map (·.1)).Nodup->(N.map (·.1))[j]? =some key->e.length=N.length->
     (((e.eraseIdx j).zip (N.eraseIdx j)).filter λp=> !seen.contains p.1.born).map (·.2.1)=(((e.zip N).filter λp=> !seen.contains p.1.born).map (·.2.1)).filter λk=>decide (k≠key):=by
    intro e
    induction e with
    |nil=>intro N j d g c;cases N<;>simp_all
    |cons a e ih=>
     intro N j d g c
     cases N with
     |nil=>simp at c
     |cons p N=>
      simp only[aaA,aa0]at d
      simp only[aa6,Nat.add_right_cancel_iff]at c
      cases j with
      |zero=>
       simp at g
       have z:key∉N.map (·.1):=g▸d.1
       have:=o e N seen z
       simp only[List.eraseIdx_cons_zero,List.zip_cons_cons,aaM]
       split
       ·simp only[aaA,aaM,g,ne_eq,not_true,aaS,aaC,aaB];exact this.symm
       ·exact this.symm
      |succ j=>
       simp only[aaA,aaL]at g
       have A:p.1≠key:=λe=>d.1 (e▸aaQ g)
       have:=ih N j d.2 g c
       simp only[List.eraseIdx_cons_succ,List.zip_cons_cons,aaM]
       split
       ·simp only[aaA,aaM,A,ne_eq,abt,decide_true,aaF,this]
       ·exact this
   exact D _ _ _ h.nd n h.gh.length
theorem aH.delete{t t2 kt q:TypeId}{x y:Operand}{key:κ}(h:MS encK encV mp M T) [Q:dt H T upd] [ut:bF P t (.map kt q)] [L:gR P kt encK](I:ev env x=some mp)(J:ev env y=some (encK key))
  (F:∀T',MS encK encV mp (eu key M) T'->(∀it todo Ti,It (sg T) encK encV mp M it todo Ti->It (sg T') encK encV mp (eu key M) it (todo.filter λk=>decide (k≠key)) Ti)->aH false P N R ops l env (upd T') K):
  aH false P N R ops (⟨none,.call ⟨.builtin .delete,#[x,y],#[t,t2]⟩,ty,pos,af,none⟩::l) env H K:=
 aH.mG λa w i s Y=>by
  obtain⟨b,p,c,rfl,rfl,B⟩:=h
  obtain⟨U,V,o,e⟩:=Q.h
  subst o
  have C:w.heap[b]? =some (.map p c):=s.2 (b,_) (by simp)
  obtain⟨d,G,j,D⟩:=BP (P:=P) (key:=key) (ty:=ty) (t2:=t2) ut L C B
  obtain⟨f,O⟩:=nk (o':=.map d c) s
  refine⟨_,upd [(b,.map d c)],.inr ⟨.tuple #[],?_⟩,by rw[e];exact f,by rw[e];exact O,F _ ⟨b,d,c,rfl,rfl,j⟩ λit todo Ti E=>?_⟩
  ·simp[execOp,resolve,i.eval I,i.eval J,invoke,builtin,G]
  ·obtain⟨m,W,n,r,S,u,g,X,v,z,A⟩:=E
   simp only[sg,List.mem_singleton,aaZ,Obj.map.injEq]at g
   obtain⟨rfl,rfl,rfl⟩:=g
   exact⟨m,d,n,r,S,u,by simp[sg],j,v,z,by rw[A,D]⟩
omit [DecidableEq κ] in
theorem aH.range{d:Nat}{x:Operand}{t kt k:TypeId}{e:aC}(h:RM e encK encV mp M)(v:∀b o,e b o->Rx R H b o)(y:ev env x=some mp) [ut:bF P t (.map kt k)]
  (u:∀it Ti,It e encK encV mp M it (M.map (·.1)) Ti->aH false P N R ops l ((d,it)::env) (Ti::H) K)(q:Nat.blt d N=true:=by rfl):
  aH false P N R ops (⟨some d,.range t x,ty,pos,af,none⟩::l) env H K:=
 aH.jk q λa w m s z=>by
  obtain⟨b,c,f,rfl,g,i⟩:=h
  have n:=kB s z _ _ (v _ _ g)
  refine⟨.pointer (some ⟨w.heap.size,0,none⟩),w.alloc (.mapIter (some b) f #[] f),_,?_,Frame.alloc w H _,Sat.alloc s _,u _ _ ⟨b,c,f,w.heap.size,#[],rfl,g,i,rfl,rfl,?_⟩⟩
  ·simp[execOp,m.eval y,Instr.range,run_underlying ut.h,jd n,newObj,Sem.run]
  ·have r:(c.toList.zip M).filter (λp=> !(#[]:Array Nat).contains p.1.born)=c.toList.zip M:=by
    rw[List.filter_eq_self];intro p _;simp
   rw[r]
   have A:=i.gh.length
   have:(c.toList.zip M).map (·.2)=M:=List.map_snd_zip (by omega)
   have j:=aaI (List.map (·.1)) this
   rw[List.map_map]at j
   exact j.symm
theorem aH.next{d:Nat}{x:Operand}{Rd:aC}{it:Value}{todo:List κ}{Ti:ay}(h:It Rd encK encV mp M it todo Ti) [sa:dt H Ti upd](hrd:∀b o,Rd b o->Rx R H b o)(hx:ev env x=some it)
  (h0:todo=[]->aH false P N R ops l ((d,.tuple [.bool false].toArray)::env) H K)
  (hn:∀k u Ti',k∈todo->da k M=some u->It Rd encK encV mp M it (todo.filter λk'=>decide (k'≠k)) Ti'->aH false P N R ops l ((d,.tuple [.bool true,encK k,encV u].toArray)::env) (upd Ti') K)(hd:Nat.blt d N=true:=by rfl):
  aH false P N R ops (⟨some d,.next x false,ty,pos,af,none⟩::l) env H K:=
 aH.jk hd λa w ha s ro=>by
  obtain⟨b,es,clock,r,seen,rfl,h2,h3,rfl,rfl,h6⟩:=h
  obtain⟨H1,H2,e1,e2⟩:=sa.h
  have hb:=kB s ro _ _ (hrd _ _ h2)
  subst e1
  have hr:w.heap[r]? =some (.mapIter (some b) clock seen clock):=s.2 (r,_) (by simp)
  have hgi:(getObj r).run P w=.ok (.mapIter (some b) clock seen clock) w:=by simp[getObj,Sem.run,hr]
  have hl:=h3.gh.length
  have hbo:=h3.born
  -- what may come
  have hleft:es.filter (λe=> !seen.contains e.born)=((es.toList.filter λe=> !seen.contains e.born)).toArray:=by
   apply Array.toList_inj.1;rw[Array.toList_filter]
  have htodo:(es.toList.filter λe=> !seen.contains e.born).length=todo.length:=by
   rw[h6,aa7]
   have:((es.toList.zip M).filter λp=> !seen.contains p.1.born).length=(((es.toList.zip M).map (·.1)).filter λe=> !seen.contains e.born).length:=by
    rw[List.filter_map,aa7];rfl
   rw[this,List.map_fst_zip (by omega)]
  have hguard:(!seen.isEmpty&& !es.isEmpty&&es.all (λe=>decide (e.born≥clock)))=false:=by
   cases hes:es.toList with
   |nil=>
    have:es= #[]:=by simpa using hes
    simp[this]
   |cons e rest=>
    have h1:=hbo e (by rw[hes];simp)
    have:es.all (λe=>decide (e.born≥clock))=false:=by
     rw[<-Array.all_toList,hes]
     simp;omega
    rw[this,Bool.and_false]
  have hold:(es.filter λe=> !seen.contains e.born).filter (λe=>decide (e.born<clock))=es.filter λe=> !seen.contains e.born:=by
   rw[Array.filter_eq_self]
   intro e he
   have:=hbo e (by simpa using(abg.1 he).1)
   simpa using this
  have hnew:(es.filter λe=> !seen.contains e.born).filter (λe=>decide (e.born≥clock))= #[]:=by
   rw[Array.filter_eq_empty_iff]
   intro e he
   have:=hbo e (by simpa using(abg.1 he).1)
   simpa using this
  by_cases ht:todo=[]
  ·refine⟨.tuple #[.bool false],w,_,?_,Frame.refl _ _,s,h0 ht⟩
   have he:es.filter (λe=> !seen.contains e.born)= #[]:=by
    rw[hleft]
    have:(es.toList.filter λe=> !seen.contains e.born)=[]:=aa5 (by rw[htodo,ht];rfl)
    rw[this]
   have hc:(choose (.mapNext 1)).run P w=.ok 0 w:=by simp[choose,Sem.run,Question.forced]
   simp only[execOp,ha.eval hx,Instr.next,Sem.run_bind,hgi,jd hb,Result.andThen_ok,hguard,aaC,aaB,he]
   simp[hc]
  ·have hne:(es.filter λe=> !seen.contains e.born).isEmpty=false:=by
    rw[hleft]
    cases hf:(es.toList.filter λe=> !seen.contains e.born)with
    |nil=>rw[hf]at htodo;exact absurd (aa5 htodo.symm) ht
    |cons _ _=>rfl
   have hpos:0<todo.length:=List.length_pos_iff.2 ht
   have hsz:(es.filter λe=> !seen.contains e.born).size=todo.length:=by rw[hleft];simpa using htodo
   obtain⟨n,w1,hc,hlt,hw1⟩:∃n w1,(choose (.mapNext todo.length)).run P w=.ok n w1/\n<todo.length/\∃q,w1={w with drawn:=q}:=by
    by_cases h1:todo.length<=1
    ·exact⟨0,w,by simp[choose,Sem.run,Question.forced,h1],hpos,w.drawn,rfl⟩
    ·exact⟨_,_,by simp only[choose,Sem.run,Question.forced,h1,aaS,aaC,aaB];rfl,by simp only[Question.cut];exact Nat.mod_lt _ hpos,_,rfl⟩
   obtain⟨q,rfl⟩:=hw1
   have hn':n<(es.toList.filter λe=> !seen.contains e.born).length:=by rw[htodo];exact hlt
   generalize he:(es.toList.filter λe=> !seen.contains e.born)[n]=e
   have hem:e∈es.toList.filter λe=> !seen.contains e.born:=he▸abh hn'
   obtain⟨hes,hns⟩:=aa9.1 hem
   obtain⟨j,hj,hje⟩:=aaU.1 hes
   have hjM:j<M.length:=by omega
   have hpair:(e.key,e.val)=(encK M[j].1,encV M[j].2):=by
    have:=aaI (λl:List (Value×Value)=>l[j]?) h3.gh
    simp only[aaV,aaH hj,aaH hjM,aa8,abf,hje]at this
    exact this
   injection hpair with hp1 hp2
   have hzip:(e,M[j])∈es.toList.zip M:=by
    refine aaU.2 ⟨j,by rw[abi];omega,?_⟩
    simp only[abj,hje]
   have hkt:M[j].1∈todo:=by
    rw[h6]
    exact aaR.2 ⟨(e,M[j]),aa9.2 ⟨hzip,hns⟩,rfl⟩
   have hget:da M[j].1 M=some M[j].2:=gj h3.nd (abh hjM)
   have hrun:(execOp a.eval ⟨some d,.next x false,ty,pos,af,none⟩).run P w=.ok (.value (.tuple #[.bool true,e.key,e.val])) (cX {w with drawn:=q} r (.mapIter (some b) clock (seen.push e.born) clock)):=by
    have hcand:∀(A:Array MapEntry),A.isEmpty=false->(if A.isEmpty=true then #[none]else #[])++(A++ #[]).map some=A.map some:=λA hA=>by simp[hA]
    have hget2:((es.filter λe=> !seen.contains e.born).map some)[n]? =some (some e):=by
     rw[hleft]
     simp only[List.map_toArray,aaE,aaV,aaH hn',he,aa8]
    have hset:(setObj r (.mapIter (some b) clock (seen.push e.born) clock)).run P {w with drawn:=q}=.ok () (cX {w with drawn:=q} r (.mapIter (some b) clock (seen.push e.born) clock)):=by
     have:({w with drawn:=q}:World).heap[r]? =some (.mapIter (some b) clock seen clock):=hr
     simp[setObj,Sem.run,this,cX]
    simp only[execOp,ha.eval hx,Instr.next,Sem.run_bind,hgi,jd hb,Result.andThen_ok,hguard,aaC,aaB,hold,hnew]
    rw[hcand _ hne]
    simp only[Array.size_map,hsz,hc,Result.andThen_ok,hget2,Sem.run_bind,hset,Sem.run_pure]
   obtain⟨f,s'⟩:=nk (w:={w with drawn:=q}) (o':=.mapIter (some b) clock (seen.push e.born) clock) (s.drew q)
   refine⟨_,_,upd [(r,.mapIter (some b) clock (seen.push e.born) clock)],hrun,by rw[e2];exact(Frame.drew w _ q).trans f,by rw[e2];exact s',?_⟩
   rw[hp1,hp2]
   refine hn M[j].1 M[j].2 _ hkt hget ⟨b,es,clock,r,seen.push e.born,rfl,h2,h3,rfl,rfl,?_⟩
   rw[h6]
   -- the one that came is no more to come, all others are
   have key:∀(l:List (MapEntry×(κ×β))),(∀p∈l,(p.1.born=e.born↔p.2.1=M[j].1))->
     ((l.filter λp=> !seen.contains p.1.born).map (·.2.1)).filter (λk'=>decide (k'≠M[j].1))=(l.filter λp=> !(seen.push e.born).contains p.1.born).map (·.2.1):=by
    intro l
    induction l with
    |nil=>intro _;rfl
    |cons p l ih=>
     intro hp
     have h1:=hp p (by simp)
     have h2:=ih λq hq=>hp q (by simp[hq])
     simp only[abk]at h2
     simp only[aaM,abk]
     by_cases hc:seen.contains p.1.born=true
     ·simp only[hc,aba,aaC,aaB,Bool.true_or];exact h2
     ·simp only[Bool.not_eq_true]at hc
      simp only[hc,aaX,aaF,Bool.false_or,aaA,aaM]
      by_cases hb:p.1.born=e.born
      ·have:=h1.1 hb
       simp only[this,ne_eq,not_true,aaS,aaC,aaB,hb,abq,aba];simpa only[ne_eq]using h2
      ·have hk:¬p.2.1=M[j].1:=λhk=>hb (h1.2 hk)
       have hb':(p.1.born==e.born)=false:=by simpa using hb
       simp only[hk,ne_eq,abt,decide_true,aaF,hb',aaX,aaA]
       exact aaI _ (by simpa only[ne_eq]using h2)
   refine key _ λp hp=>?_
   obtain⟨i,hi,hpi⟩:=aaU.1 hp
   have hi':i<es.toList.length:=by simp only[abi]at hi;omega
   have hiM:i<M.length:=by omega
   rw[abj]at hpi
   subst hpi
   simp only
   constructor
   ·intro hb
    have:i=j:=(abl (h:=h3.bQ) (i:=i) (j:=j) (h₀:=by simpa using hi') (h₁:=by simpa using hj)).1 (by rw[aaN,aaN,hb,hje])
    subst this;rfl
   ·intro hk
    have:i=j:=(abl (h:=h3.nd) (i:=i) (j:=j) (h₀:=by simpa using hiM) (h₁:=by simpa using hjM)).1 (by rw[aaN,aaN];exact hk)
    subst this;rw[hje]
end
end
section
def marked(n:Nat):List Nat->Array Bool
 |[]=>Array.replicate n false
 |i::d=>(marked n d).setIfInBounds i true
def kR(Q':Act->World->Prop):Exit->Act->World->Prop
 | .normal,a,w=>Q' a w
 |_,_,_=>False
structure fC(ops:Array Oper)(listed:Array Bool):Prop where
 size:listed.size=ops.size
 cl:∀j oj,ops[j]? =some oj->listed.getD j false=true->∀e∈oj.after,Region.binds .any e=true->listed.getD e.on false=true
theorem fC.set{b:Array Oper}{a:Array Bool}{i:Nat}(h:fC b a)(n:i∈Region.ready .any b a):fC b (a.setIfInBounds i true):=by
 obtain⟨_,p,o,m⟩:=mem_ready.1 n
 refine⟨by simp[h.size],λj l g k e d c=>?_⟩
 by_cases f:i=j
 ·subst f
  have:l=p:=Option.some.inj (g.symm.trans o)
  subst this
  exact getD_set_true (m e d c)
 ·rw[getD_set_ne false f]at k
  exact getD_set_true (h.cl j l g k e d c)
def jL(ops:Array Oper):Nat->Nat->Nat->Bool
 |0,_,_=>false
 |f+1,k,i=>match ops[k]? with
  |some o=>o.after.any λe=>Region.binds .any e&&(Nat.beq e.on i||jL ops f e.on i)
  |none=>false
theorem fC.waits{c:Array Oper}{b:Array Bool}(h:fC c b){i:Nat}:∀(f k:Nat),jL c f k i=true->b.getD k false=true->b.getD i false=true
 |0,k,hw,_=>by simp[jL]at hw
 |f+1,k,hw,hk=>by
  unfold jL at hw
  cases ho:c[k]? with
  |none=>simp[ho]at hw
  |some o=>
   simp only[ho]at hw
   obtain⟨e,g,a⟩:=Array.any_eq_true'.1 hw
   simp only[abu,Bool.or_eq_true]at a
   have d:=h.cl k o ho hk e g a.1
   rcases a.2 with h3|h3
   ·rwa [Nat.eq_of_beq_eq_true h3]at d
   ·exact h.waits f e.on h3 d
def mj(listed listed':Array Bool):Prop:=∀j,listed.getD j false=true->listed'.getD j false=true
def kO(P:Program)(ops:Array Oper)(Q:Exit->Act->World->Prop)(S:Array Bool->World->Prop):Nat->Array Bool->Act->World->Prop
 |0,listed,a,w=>Region.ready .any ops listed=[]/\Q .normal a w
 |fuel+1,listed,a,w=>
  (Region.ready .any ops listed=[]->Q .normal a w)/\
  ∀i∈Region.ready .any ops listed,wpOp P ops Q i (λa' w'=>S (listed.setIfInBounds i true) w'/\kO P ops Q S fuel (listed.setIfInBounds i true) a' w') a w
theorem nw{P:Program}{b:Array Oper}{Q:Exit->Act->World->Prop}{S:Array Bool->World->Prop}:∀(fuel:Nat) (listed:Array Bool) (a:Act) (w:World),kO P b Q S fuel listed a w->wpAny P .any b Q fuel listed a w
 |0,_,_,_,h=>h
 |fuel+1,_,_,_,h=>⟨h.1,λi e=>wpOp_mono (λc f d=>nw fuel _ c f d.2) (h.2 i e)⟩
def fg(P:Program)(ops:Array Oper)(S:Array Bool->World->Prop)(listed:Array Bool)(i:Nat)(o:Oper)(v:Value)(a:Act):Prop:=
 (Region.wanted o (yielded ops a.tmps)=true/\∀l',mj listed l'->fC ops l'->l'.getD i true=false->∀w,S l' w->(execOp a.eval o).run P w=.ok (.value v) w)\/
 (Region.wanted o (yielded ops a.tmps)=false/\v=undef)
section
variable{P:Program}{ops:Array Oper}{Q:Exit->Act->World->Prop}{S:Array Bool->World->Prop}
theorem fg.sup{c b:Array Bool}{i:Nat}{o:Oper}{v:Value}{a:Act}(h:fg P ops S c i o v a)(m:mj c b):fg P ops S b i o v a:=
 h.imp (λ⟨d,e⟩=>⟨d,λp l f g w n=>e p (λj k=>l j (m j k)) f g w n⟩) id
theorem fg.of_same{c:Array Bool}{i:Nat}{o:Oper}{v:Value}{a b:Act}(f:fg P ops S c i o v a)(d:execOp b.eval o=execOp a.eval o)
  (e:Region.wanted o (yielded ops b.tmps)=Region.wanted o (yielded ops a.tmps)):fg P ops S c i o v b:=by
 unfold fg at *
 rw[d,e]
 exact f
theorem fg.wpOp{i:Nat}{o:Oper}{v:Value}{a:Act}{b:Array Bool}(f:ops[i]? =some o)(k:fg P ops S b i o v a)(e:fC ops b)(g:b.getD i true=false)
  {K:Act->World->Prop}{w:World}(d:S b w)(h:K (a.put o.dst v) w):wpOp P ops Q i K a w:=by
 unfold Go.wpOp
 simp only[f]
 rcases k with⟨c,j⟩|⟨c,rfl⟩
 ·simp only[c,aaF,Oper.wp,j b (λ_ h=>h) e g w d,Oper.upon];exact .inl h
 ·simp only[c,aaC,aaB];exact h
theorem CV{i j:Nat}{g k:Oper}{v:Value}{q:Array Bool}(D:ops[j]? =some k)(C:g.apart ops k=true)
  (F:∀cs b,g.op≠ .select cs b)(B:∀cs b,k.op≠ .select cs b)
  (z:∀c a w,Q (.panic c) (a.put g.dst v) w->Q (.panic c) a w){K:Act->World->Prop}{a:Act}{w:World}
  (l:fg P ops S q i g v a)(h:wpOp P ops Q j K (a.put g.dst v) w):
  wpOp P ops Q j (λa' w'=>fg P ops S q i g v a'/\K (a'.put g.dst v) w') a w:=by
 obtain⟨s,m,y⟩:=Oper.apart_spec C
 have o:∀(a:Act),fg P ops S q i g v a->∀u,fg P ops S q i g v (a.put k.dst u):=λa l u=>
  l.of_same (execOp_put g F a k.dst u y) (wanted_put g a k.dst u y)
 have G:∀d,fg P ops S q i g v {a with defers:=d::a.defers}:=λd=>l.of_same rfl rfl
 unfold Go.wpOp at *
 simp only[D]at *
 rw[wanted_put k a g.dst v s]at h
 split
 ·rename_i t
  simp only[t,aaF]at h
  rcases h with h|⟨A,E⟩
  case inr=>exact .inr ⟨by unfold Oper.asks at *;rw[execOp_put k B a g.dst v s]at A;exact A,E⟩
  refine .inl ?_
  unfold Oper.wp at *
  rw[execOp_put k B a g.dst v s]at h
  generalize (execOp a.eval k).run P w=r at *
  cases r with
  |ok n w'=>
   cases n<;>simp only[Oper.upon]at h⊢
   case value u=>exact⟨o a l u,by rw[<-Act.put_comm a v u m];exact h⟩
   case skip=>exact⟨o a l _,by rw[<-Act.put_comm a v undef m];exact h⟩
   case defer d=>
    refine⟨o _ (G d) _,?_⟩
    rw[<-Act.put_comm _ v undef m, <-Act.put_defers]
    exact h
   case enter f args=>
    refine Calls.mono h λe H p=>?_
    cases e with
    |returned u=>exact⟨o a l u,by rw[<-Act.put_comm a v u m];exact p⟩
    |panicked c=>exact z _ _ _ p
    |outgrown=>exact p
   case row row args=>exact Rows.mono h λu H p=>⟨o a l u,by rw[<-Act.put_comm a v u m];exact p⟩
  |halt x w'=>
   cases x<;>simp only[Oper.upon]at h⊢
   case panic u=>exact z _ _ _ h
 ·rename_i t
  simp only[t]at h
  exact⟨o a l _,by rw[<-Act.put_comm a v undef m];exact h⟩
theorem CU{i:Nat}{m:Oper}{v:Value}(y:∀l w,S (l.setIfInBounds i true) w↔S l w)(u:ops[i]? =some m)(G:∀(j:Nat) (o:Oper) cs b,ops[j]? =some o->o.op≠ .select cs b)
  (N:∀c a w,Q (.panic c) (a.put m.dst v) w->Q (.panic c) a w):
  ∀(fuel:Nat) (listed:Array Bool) (a:Act) (w:World),
   (∀j oj,ops[j]? =some oj->j≠i->listed.getD j true=false->(∀e∈oj.after,Region.binds .any e=true->e.on≠i)->m.apart ops oj=true)->
   i∈Region.ready .any ops listed->fC ops listed->fg P ops S listed i m v a->S listed w->
   kO P ops Q S fuel (listed.setIfInBounds i true) (a.put m.dst v) w->kO P ops Q S (fuel+1) listed a w:=by
 intro fuel
 induction fuel with
 |zero=>
  intro listed a w _ d s t n H
  refine⟨λh=>(by rw[h]at d;cases d),λj p=>?_⟩
  by_cases f:j=i
  ·subst f;exact t.wpOp u s (mem_ready.1 d).1 n ⟨(y _ _).2 n,H⟩
  ·have:=ready_mono p f
   rw[H.1]at this
   cases this
 |succ fuel ih=>
  intro listed a w D d s t n H
  refine⟨λh=>(by rw[h]at d;cases d),λj p=>?_⟩
  by_cases f:j=i
  ·subst f;exact t.wpOp u s (mem_ready.1 d).1 n ⟨(y _ _).2 n,H⟩
  ·have g:=H.2 j (ready_mono p f)
   obtain⟨F,oj,x,O⟩:=mem_ready.1 p
   have a0:∀e∈oj.after,Region.binds .any e=true->e.on≠i:=λe U T V=>by
    have g:=O e U T
    have z:=(mem_ready.1 d).1
    rw[V]at g
    rcases aaJ i listed.size with h'|h'
    ·simp[h']at z g;rw[z]at g;cases g
    ·simp[Array.getElem?_eq_none h']at g
   have K:=CV x (D j oj x f F a0) (λcs b=>G i m cs b u) (λcs b=>G j oj cs b x) N t g
   have W:∀k r,ops[k]? =some r->k≠i->(listed.setIfInBounds j true).getD k true=false->
     (∀e∈r.after,Region.binds .any e=true->e.on≠i)->m.apart ops r=true:=λk r X Y I Z=>by
    refine D k r X Y ?_ Z
    by_cases E:j=k
    ·subst E;exact F
    ·rw[getD_set_ne true E]at I;exact I
   have a1:mj listed (listed.setIfInBounds j true):=λq hq=>getD_set_true hq
   refine wpOp_mono (λJ w' L=>?_) K
   obtain⟨M,A,B⟩:=L
   rw[Array.setIfInBounds_comm _ _ (Ne.symm f)]at A B
   have C:=(y _ _).1 A
   exact⟨C,ih (listed.setIfInBounds j true) J w' W (ready_mono d (Ne.symm f)) (s.set p) (M.sup a1) C B⟩
end
def gQ(R:aC)(Ho:aN)(Ms:List Nat)(l:Array Bool)(w:World):Prop:=
 (∀b o,R b o->w.heap[b]? =some o)/\((∀k∈Ms,l.getD k false=false)->Sat w Ho/\RO w R Ho)
theorem gQ.same{R:aC}{c:aN}{b:List Nat}{i:Nat}(f:b.contains i=false)(l:Array Bool)(w:World):gQ R c b (l.setIfInBounds i true) w↔gQ R c b l w:=by
 have d:∀k∈b,i≠k:=λk a e=>by subst e;simp[a]at f
 unfold gQ
 refine and_congr_right λ_=>?_
 have:(∀k∈b,(l.setIfInBounds i true).getD k false=false)↔∀k∈b,l.getD k false=false:=⟨λh k a=>by have:=h k a;rwa [getD_set_ne false (d k a)]at this,λh k a=>by rw[getD_set_ne false (d k a)];exact h k a⟩
 rw[this]
class fZ(A B:aN):Prop where h:∃G:ay,B.flatten.Perm (A.flatten++G)
instance fZ.refl(A:aN):fZ A A:=⟨⟨[],by simp⟩⟩
instance fZ.cons(A B:aN)(T:ay) [s:fZ A B]:fZ A (T::B):=⟨by
 obtain⟨G,h⟩:=s.h
 refine⟨T++G,?_⟩
 rw[aaO]
 refine(h.append_left T).trans ?_
 rw[<-aaD, <-aaD]
 exact aaW.append_right _⟩
theorem fZ.sat{A B:aN}(s:fZ A B){w:World}(h:Sat w B):Sat w A:=bJ.sat s.h h
theorem fZ.ro{A B:aN}(s:fZ A B){w:World}{R:aC}(h:RO w R B):RO w R A:=λb o a=>⟨(h b o a).1,λp d=>by
 obtain⟨G,c⟩:=s.h
 exact(h b o a).2 p (c.mem_iff.2 (abv _ d))⟩
def RA(P:Program)(N:Nat)(R:aC)(ops:Array Oper)(Ho:aN)(Ms:List Nat)(done:List Nat)(env:Env)(H:aN)(K:Env->aN->Prop):Prop:=
 ∀(Q':Act->World->Prop) (w0:World) (H0:aN),(∀env' H' a' w',K env' H'->St N R a' w' env' H' w0 H0->Q' a' w')->
  fC ops (marked ops.size done)->∀a w,St N R a w env H w0 H0->gQ R Ho Ms (marked ops.size done) w->kO P ops (kR Q') (gQ R Ho Ms) (ops.size-done.length) (marked ops.size done) a w
section
variable{P:Program}{N:Nat}{R:aC}{ops:Array Oper}{l:List Oper}{env:Env}{H Ho:aN}{Ms:List Nat}{K:Env->aN->Prop}{Q:Exit->Env->aN->Prop}{m:Bool}{done:List Nat}
theorem St.kp{a:Act}{w c:World}{b:aN}(is:List Nat)(s:St N R a w env H c b):St N (Rx R (rest is H)) a w env (take is H) w (take is H):=
 ⟨s.defers,s.size,s.env,(ig s.sat).1,RO.split s.sat s.ro,Frame.refl _ _⟩
theorem St.back{a d:Act}{w g h:World}{c H':aN}{e:Env}(is:List Nat)(s:St N R a w env H h c)(b:St N (Rx R (rest is H)) d g e H' w (take is H)):St N R d g e (H'++rest is H) h c:=by
 obtain⟨i,f⟩:=je s.sat b.sat b.fr
 exact⟨b.defers,b.size,b.env,i,s.ro.frame f,s.fr.trans f⟩
theorem aH.kp(is:List Nat)(h:aH m P N (Rx R (rest is H)) ops l env (take is H) λenv' H'=>K env' (H'++rest is H)):aH m P N R ops l env H K:=λb j f c a w s=>
 h b w (take is H) (λenv' H' g i d e=>c _ _ _ _ d (s.back is e)) a w (s.kp is)
theorem fC.none(b:Array Oper):fC b (marked b.size []):=⟨by simp[marked],λj d c a=>by
 simp only[marked,Array.getD_eq_getD_getElem?,Array.getElem?_replicate]at a
 split at a<;>simp at a⟩
theorem bk.jE{id:Nat}(is:List Nat)(i:List Nat)(q:P.follows .mixedOrders=true)(h:RA P N (Rx R (rest is H)) l.toArray (take is H) i [] env (take is H) λenv' H'=>Q .normal env' (H'++rest is H)):bk P N R (.region id l.toArray true) env H Q:=
 λj t g m a w s=>by
  have f:St N R a {w with drawn:=w.drawn+1} env H t g:=s.step (Frame.drew w H _) (s.sat.drew _)
  have c:=f.kp is
  have k:=h (j .normal) _ _ (λenv' H' u v p r=>m _ _ _ _ _ p (f.back is r)) (fC.none _) a _ c ⟨λb o n=>(c.ro b o n).1,λ_=>⟨c.sat,c.ro⟩⟩
  refine wp_mono (wp_region_any q (nw _ _ _ _ k)) λe a w d=>?_
  cases e with
  |normal=>exact d
  |_=>exact d.elim
theorem bk.bN{id:Nat}(g:List Nat)(p:P.follows .mixedOrders=true)(h:RA P N R l.toArray H g [] env H (Q .normal)):bk P N R (.region id l.toArray true) env H Q:=
 λi r f k a w s=>by
  have c:St N R a {w with drawn:=w.drawn+1} env H r f:=s.step (Frame.drew w H _) (s.sat.drew _)
  have j:=h (i .normal) _ _ (λv t u x n q=>k _ _ _ _ _ n q) (fC.none _) a _ c ⟨λb o m=>(c.ro b o m).1,λ_=>⟨c.sat,c.ro⟩⟩
  refine wp_mono (wp_region_any p (nw _ _ _ _ j)) λe a w d=>?_
  cases e with
  |normal=>exact d
  |_=>exact d.elim
theorem RA.nil(c:Region.ready .any ops (marked ops.size done)=[])(h:K env H):RA P N R ops Ho Ms done env H K:=λe f d b _ a w s _=>by
 cases ops.size-done.length with
 |zero=>exact⟨c,b _ _ _ _ h s⟩
 |succ n=>exact⟨λ_=>b _ _ _ _ h s,by rw[c];simp⟩
def tk(own:Bool)(ops:Array Oper)(Ms done:List Nat)(i:Nat):Bool:=
 Region.noSelect ops&&Region.free .any ops (marked ops.size done) i&&(Region.ready .any ops (marked ops.size done)).contains i&&Nat.blt done.length ops.size&& !Ms.contains i&&(!own||Ms.all λk=>jL ops ops.size k i)
theorem RA.pC{dst:Option Nat}{op:Op}{ty:TypeId}{e:String}{d:Array Edge}{g:Option (Nat×Bool)}{v:Value}(u:Bool)(i:Nat)(q:ops[i]? =some ⟨dst,op,ty,e,d,g⟩)
  (U:∀a,dd a env->(Region.wanted ⟨dst,op,ty,e,d,g⟩ (yielded ops a.tmps)=true/\∀w,(∀b o,R b o->w.heap[b]? =some o)->(u=true->Sat w Ho/\RO w R Ho)->(execOp a.eval ⟨dst,op,ty,e,d,g⟩).run P w=.ok (.value v) w)\/
   (Region.wanted ⟨dst,op,ty,e,d,g⟩ (yielded ops a.tmps)=false/\v=undef))
  (m:tk u ops Ms done i=true)
  (J:∀a w w0 H0,St N R a w env H w0 H0->∃env',St N R (a.put dst v) w env' H w0 H0/\RA P N R ops Ho Ms (i::done) env' H K):RA P N R ops Ho Ms done env H K:=λx w0 H0 E n a w s p=>by
 simp only[tk,abu]at m
 obtain⟨⟨⟨⟨⟨y,z⟩,A⟩,B⟩,C⟩,D⟩:=m
 have X:done.length<ops.size:=aaT B
 have G:ops.size-done.length=(ops.size-(i::done).length)+1:=by simp only[aa6];omega
 have j:Ms.contains i=false:=by simpa using C
 have h:i∈Region.ready .any ops (marked ops.size done):=by simpa using A
 rw[G]
 obtain⟨env',V,L⟩:=J a w w0 H0 s
 refine CU (λl w=>gQ.same j l w) q (Region.noSelect_spec y) (λc a w O=>O.elim) _ _ a w (Region.free_spec q z) h n ?_ p (L x w0 H0 E (n.set h) _ w V ((gQ.same j _ _).2 p))
 refine(U a s.env).imp (λ⟨S,Q⟩=>⟨S,λt _ F f W r=>Q W r.1 λM=>r.2 λk I=>?_⟩) id
 subst M
 have T:jL ops ops.size k i=true:=by
  have:=D
  simp only[aba,Bool.false_or]at this
  exact List.all_eq_true.1 this k I
 cases hlk:t.getD k false with
 |false=>rfl
 |true=>
  have:=F.waits _ _ T hlk
  rcases aaJ i t.size with h'|h'
  ·simp[h']at this f;rw[this]at f;cases f
  ·simp[Array.getElem?_eq_none h']at this
theorem RA.take{d:Nat}{op:Op}{ty:TypeId}{e:String}{c:Array Edge}{v:Value}(i:Nat)(k:ops[i]? =some ⟨some d,op,ty,e,c,none⟩)(m:aV P R env [] op ty v)
  (h:tk false ops Ms done i=true)(l:RA P N R ops Ho Ms (i::done) ((d,v)::env) H K)(j:Nat.blt d N=true:=by rfl):RA P N R ops Ho Ms done env H K:=
 RA.pC false i k (λa f=>.inl ⟨by simp[Region.wanted],λw n _=>m a w (some d) e c none f ⟨by simp,by simp⟩ (λb o g=>⟨n b o g,by simp⟩)⟩) h
  λa w q p s=>⟨_,s.put v j,l⟩
theorem RA.cA{d:Nat}{op:Op}{ty:TypeId}{e:String}{b:Array Edge}{v:Value}(i:Nat)(j:ops[i]? =some ⟨some d,op,ty,e,b,none⟩)(l:aV P R env Ho op ty v)
  (g:tk true ops Ms done i=true)(k:RA P N R ops Ho Ms (i::done) ((d,v)::env) H K)(h:Nat.blt d N=true:=by rfl):RA P N R ops Ho Ms done env H K:=
 RA.pC true i j (λa f=>.inl ⟨by simp[Region.wanted],λw _ c=>l a w (some d) e b none f (c rfl).1 (c rfl).2⟩) g
  λa w n m s=>⟨_,s.put v h,k⟩
theorem CC{o:Oper}{a:Act}{w:World}{f g:Act->World->Prop}{i:Act->World->Prop}{j:Exit->Act->World->Prop}(d:∀a w,f a w->g a w)(h:o.wp P a w f (kR i)):o.wp P a w g j:=by
 unfold Oper.wp at *
 generalize (execOp a.eval o).run P w=r at *
 cases r with
 |ok n w'=>
  cases n<;>simp only[Oper.upon]at h⊢ <;>first
   |exact d _ _ h
   |exact Calls.mono h (λe l b=>by
     cases e with
     |returned v=>exact d _ _ b
     |panicked c=>exact b.elim
     |outgrown=>obtain⟨a,w,k⟩:=b;exact k.elim)
   |exact Rows.mono h (λ_ _ b=>d _ _ b)
 |halt x w'=>cases x<;>simp only[Oper.upon]at h⊢ <;>exact h.elim
theorem RA.op{o:Oper}{a:Act}{w f:World}{b:aN}{i:Act->World->Prop}{c:Act->World->Prop}{g:Env->aN->Prop}(k:Nat)(d:ops[k]? =some o)(h:aH false P N R ops [o] env H g)
  (j:∀env' H' a' w',g env' H'->St N R a' w' env' H' f b->c a' w')(s:St N R a w env H f b):wpOp P ops (kR i) k c a w:=by
 have h1:=h (kR c) f b (λenv' H' a' w' d l=>j _ _ _ _ d l) a w s
 unfold wpOp
 simp only[d]
 simp only[wpList]at h1
 split
 ·rename_i e
  rw[aaz e]at h1
  rcases h1 with h1|⟨_,m,n,h1⟩
  ·exact .inl (CC (λ_ _ h=>h) h1)
  ·exact h1.elim
 ·rename_i e
  rw[aay e]at h1
  exact h1
theorem Ax{l:Array Bool}{i:Nat}(a:i<l.size):(l.setIfInBounds i true).getD i false=true:=by simp[a]
def Next(P:Program)(N:Nat)(R:aC)(ops:Array Oper)(Ho:aN)(Ms:List Nat)(done:List Nat)(K:Env->aN->Prop)(i:Nat)(env':Env)(H':aN):Prop:=
 (((i::done).any λk=>Ms.contains k&&Nat.blt k ops.size)=true\/fZ Ho H')/\RA P N R ops Ho Ms (i::done) env' H' K
theorem ov(n:Nat):∀l,(marked n l).size=n
 |[]=>by simp[marked]
 |i::l=>by simp[marked,ov n l]
theorem ou{n k:Nat}(a:k<n):∀{l:List Nat},k∈l->(marked n l).getD k false=true
 |i::l,h=>by
  rcases aaG.1 h with rfl|h
  ·exact Ax (by rw[ov];exact a)
  ·exact getD_set_true (ou a h)
theorem Next.mod{i:Nat}(a:((i::done).any λk=>Ms.contains k&&Nat.blt k ops.size)=true)(h:RA P N R ops Ho Ms (i::done) env H K):Next P N R ops Ho Ms done K i env H:=⟨.inl a,h⟩
theorem Next.sub{i:Nat}(h:RA P N R ops Ho Ms (i::done) env H K)(a:fZ Ho H:=by infer_instance):Next P N R ops Ho Ms done K i env H:=⟨.inr a,h⟩
theorem RA.pn(is:List Nat)(j:Region.ready .any ops (marked ops.size done)=is)(A:is≠[])(z:Nat.blt done.length ops.size=true)
  (h:∀i∈is,∃o,ops[i]? =some o/\aH false P N R ops [o] env H (Next P N R ops Ho Ms done K i)):RA P N R ops Ho Ms done env H K:=λn E m t x a w s I=>by
 have J:done.length<ops.size:=aaT z
 have y:∀i,ops.size-done.length=(ops.size-(i::done).length)+1:=λi=>by simp only[aa6];omega
 rw[y 0]
 refine⟨λr=>absurd (j▸r) A,λk f=>?_⟩
 obtain⟨o,C,u⟩:=h k (j▸f)
 refine RA.op k C u (λG F p l g c=>?_) s
 have e:gQ R Ho Ms ((marked ops.size done).setIfInBounds k true) l:=by
  refine⟨λb o v=>(c.ro b o v).1,λB=>?_⟩
  rcases g.1 with hm|hs
  ·obtain⟨q,D,hm⟩:=List.any_eq_true.1 hm
   simp only[abu]at hm
   have d:=B q (by simpa using hm.1)
   rw[show(marked ops.size done).setIfInBounds k true=marked ops.size (k::done)from rfl,ou (aaT hm.2) D]at d
   cases d
  ·exact⟨hs.sat c.sat,hs.ro c.ro⟩
 exact⟨e,g.2 n E m t (x.set f) p l c e⟩
theorem RA.step{o:Oper}(i:Nat)(a:ops[i]? =some o)(d:Region.ready .any ops (marked ops.size done)=[i])(c:Nat.blt done.length ops.size=true)
  (h:aH false P N R ops [o] env H (Next P N R ops Ho Ms done K i)):RA P N R ops Ho Ms done env H K:=
 RA.pn [i] d (by simp) c λk b=>by
  obtain rfl:k=i:=by simpa using b
  exact⟨o,a,h⟩
theorem RA.Cg{a b:Oper}(i j:Nat)(e:ops[i]? =some a)(f:ops[j]? =some b)(h:Region.ready .any ops (marked ops.size done)=[i,j])(g:Nat.blt done.length ops.size=true)
  (c:aH false P N R ops [a] env H (Next P N R ops Ho Ms done K i))(d:aH false P N R ops [b] env H (Next P N R ops Ho Ms done K j)):RA P N R ops Ho Ms done env H K:=
 RA.pn [i,j] h (by simp) g λk hk=>by
  rcases aaG.1 hk with rfl|hk
  ·exact⟨a,e,c⟩
  ·obtain rfl:k=j:=by simpa using hk
   exact⟨b,f,d⟩
end
section
variable{P:Program}{N:Nat}{R:aC}{ops:Array Oper}{l:List Oper}{env:Env}{H:aN}{K:Env->aN->Prop}{Q:Exit->Env->aN->Prop}{m:Bool}{ty:TypeId}
theorem aH.gT{j t:Nat}{b d:Bool}{dst:Option Nat}{op:Op}{ty:TypeId}{c:String}{a:Array Edge}(e:b=d)(g:aH m P N R ops (⟨dst,op,ty,c,a,none⟩::l) env H K)(f:iW ops j=some t:=by rfl)(h:Env.get? env t=some (.bool b):=by rfl):
  aH m P N R ops (⟨dst,op,ty,c,a,some (j,d)⟩::l) env H K:=aH.gt (by rw[h,e]) g f
theorem aH.gF{j t d:Nat}{b a:Bool}{op:Op}{ty:TypeId}{k:String}{c:Array Edge}(e:b= !a)(h:aH m P N R ops l ((d,undef)::env) H K)(g:iW ops j=some t:=by rfl)(i:Env.get? env t=some (.bool b):=by rfl)(f:Nat.blt d N=true:=by rfl):
  aH m P N R ops (⟨some d,op,ty,k,c,some (j,a)⟩::l) env H K:=aH.gf i (by subst e;cases a<;>rfl) h g f
theorem aH.split{t:Nat}{b:Bool}(d:Env.get? env t=some (.bool b))(c:b=true->aH m P N R ops l env H K)(a:b=false->aH m P N R ops l env H K):aH m P N R ops l env H K:=by
 cases b
 ·exact a rfl
 ·exact c rfl
theorem aV.bX{c x y:Operand}{b:Bool}{u:Value}(a:b=true)(d:ev env c=some (.bool b):=by rfl)(e:ev env x=some u:=by rfl):aV P R env H (.pick c x y) ty u:=by
 subst a;exact aV.eX d e
theorem aV.bU{c x y:Operand}{b:Bool}{v:Value}(a:b=false)(d:ev env c=some (.bool b):=by rfl)(e:ev env y=some v:=by rfl):aV P R env H (.pick c x y) ty v:=by
 subst a;exact aV.iE d e
theorem bk.jj{c:Operand}{x y:Code}(h:bk P N R x env H Q)(a:ev env c=some (.bool true):=by rfl):bk P N R (.cond c x y) env H Q:=bk.cond a (λ_=>h) (λh=>by cases h)
theorem bk.bB{c:Operand}{x y:Code}(h:bk P N R y env H Q)(a:ev env c=some (.bool false):=by rfl):bk P N R (.cond c x y) env H Q:=bk.cond a (λh=>by cases h) (λ_=>h)
def mP{X:Type}(I:X->Prop)(e:X->Env)(h:X->aN)(Q:Exit->Env->aN->Prop):Exit->Env->aN->Prop
 | .normal,env,H=>∃x,I x/\dI env (e x)/\bJ H (h x)
 |ex,env,H=>Q ex env H
theorem bk.cut{X:Type}{c:Code}(I:X->Prop)(e:X->Env)(h:X->aN)(k:bk P N R c env H (mP I e h Q))(j:∀x,I x->Q .normal (e x) (h x)):bk P N R c env H Q:=λi p g b a w s=>
 k i p g (λl t q r u d f=>by
  cases l with
  |normal=>obtain⟨x,m,n,o⟩:=d;exact b _ _ _ _ _ (j x m) (f.le n o)
  |_=>exact b _ _ _ _ _ d f) a w s
theorem ax{X:Type}{I:X->Prop}{e:X->Env}{h:X->aN}(x:X)(a:I x)(b:dI env (e x))(c:bJ H (h x)):mP I e h Q .normal env H:=⟨x,a,b,c⟩
theorem ki{X:Type}{I:X->Prop}{e:X->Env}{h:X->aN}(a:Q .ret env H):mP I e h Q .ret env H:=a
theorem aS{X:Type}{I:X->Prop}{e:X->Env}{h:X->aN}{μ:X->Nat}{n:Nat}(x:X)(a:I x)(d:μ x<n)(b:dI env (e x))(c:bJ H (h x)):ll (λenv' H'=>∃x',I x'/\μ x'<n/\dI env' (e x')/\bJ H' (h x')) Q .normal env H:=⟨x,a,d,b,c⟩
theorem aV.inc{x y:Operand}{t u:TypeId}{n:Nat}(c:n<9223372036854775807)(a:ev env x=some (.int .i64 (n:Int)):=by rfl)(b:ev env y=some (.int .i64 1):=by rfl):aV P R env H (.binOp .add t x y u) ty (.int .i64 ((n+1:Nat):Int)):=by
 have h:=aV.add (P:=P) (R:=R) (H:=H) (ty:=ty) (t:=t) (u:=u) a b
 have:IntKind.i64.wrap ((n:Int)+1)=((n+1:Nat):Int):=by
  rw[IntWalk.i64_in _ (by omega)];omega
 rw[this]at h
 exact h
theorem aH.hole(h:aH m P N R ops l env H K):aH m P N R ops l env H K:=h
end
section
variable{P:Program}{N:Nat}{R:aC}{ops:Array Oper}{l:List Oper}{env:Env}{H:aN}{K:Env->aN->Prop}{Q:Exit->Env->aN->Prop}{m:Bool}{d:Nat}{ty:TypeId}{pos:String}{af:Array Edge}{x:Operand}
theorem aH.mo{v:Value}(h:ev env x=some v)(b:aH m P N R ops l ((d,v)::env) H K)(a:Nat.blt d N=true:=by rfl):aH m P N R ops (⟨some d,.move x,ty,pos,af,none⟩::l) env H K:=.q (.move h) b a
theorem aH.ag{v:Value}(h:ev env x=some v)(b:aH m P N R ops l ((d,v)::env) H K)(a:Nat.blt d N=true:=by rfl):aH m P N R ops (⟨some d,.assign x,ty,pos,af,none⟩::l) env H K:=.q (.assign h) b a
theorem aH.lo{t:TypeId}{p u:Value}{vs r:List Value}(e:ev env x=some p) [f:cx P t false] [rc:RC R H p vs](b:aH m P N R ops l ((d,u)::env) H K)(c:vs=u::r:=by rfl)(a:Nat.blt d N=true:=by rfl):aH m P N R ops (⟨some d,.load t x,ty,pos,af,none⟩::l) env H K:=.q (.cj e c) b a
theorem aH.nc{p:Value}{vs:List Value}(c:ev env x=some p) [rc:RC R H p vs](b:aH m P N R ops l ((d,p)::env) H K)(a:Nat.blt d N=true:=by rfl):aH m P N R ops (⟨some d,.nilCheck x,ty,pos,af,none⟩::l) env H K:=.q (.nilCheck c) b a
theorem aH.fa{s:TypeId}{f off:Nat}{p:Value}{vs:List Value}(c:ev env x=some p) [e:ba P s f off] [rc:RC R H p vs](b:aH m P N R ops l ((d,fh p off)::env) H K)(a:Nat.blt d N=true:=by rfl):aH m P N R ops (⟨some d,.fieldAddr s x f,ty,pos,af,none⟩::l) env H K:=.q (.fieldAddr c) b a
theorem aH.zn{y:Code}(h:bk P N R y env H Q):aH m P N R ops [] env H (fU P N R y Q .normal):=.nil (aI h)
theorem aH.zs{y z:Code}(h:bk P N R z env H (fU P N R y Q)):aH m P N R ops [] env H (fU P N R (.seq z y) Q .normal):=.nil (aI (.seq h))
theorem aH.z{y:Code}{id:Nat}(h:aH false P N R l.toArray l env H (fU P N R y Q .normal)):aH m P N R ops [] env H (fU P N R (.seq (.region id l.toArray false) y) Q .normal):=.nil (aI (.seq (.region h)))
theorem aH.gX{op:Op}{j t:Nat}{a b:Bool}(g:aH m P N R ops l ((d,undef)::env) H K)(f:iW ops j=some t:=by rfl)(h:Env.get? env t=some (.bool b):=by rfl)(c:(b==a)=false:=by rfl)(e:Nat.blt d N=true:=by rfl):aH m P N R ops (⟨some d,op,ty,pos,af,some (j,a)⟩::l) env H K:=.gf h c g f e
theorem aH.az{v:Value}{y:Code}(h:ev env x=some v)(b:bk P N R y ((d,v)::env) H Q)(a:Nat.blt d N=true:=by rfl):aH m P N R ops [⟨some d,.assign x,ty,pos,af,none⟩] env H (fU P N R y Q .normal):=.q (.assign h) (.nil (aI b)) a
theorem bk.sr{y:Code}{id:Nat}(h:aH false P N R l.toArray l env H (fU P N R y Q .normal)):bk P N R (.seq (.region id l.toArray false) y) env H Q:=.seq (.region h)
theorem bk.kn{y:Code}(h:bk P N R y env H Q):bk P N R .skip env H (fU P N R y Q):=.skip (aI h)
end
end
section
theorem PC.of{R:aC}{b:Nat}{vs:List Value}{E:TypeId}{fr:Nat×Nat}(h:R b (.cells vs.toArray E fr)):PC R (.pointer (some ⟨b,0,none⟩)) vs:=
 (RC.here (R:=R) (H:=[]) (b:=b) (vs:=vs) (E:=E) (fr:=fr)).h.mono λa o h'=>by
  rcases h' with h'|h'
  ·exact h'
  ·simp at h';obtain⟨rfl,rfl⟩:=h';exact h
instance PC.rc{R:aC}{H:aN}{p:Value}{vs:List Value} [h:RC R H p vs]:PC (Rx R H) p vs:=h.h
section
variable{P:Program}{N:Nat}{R R':aC}{ops:Array Oper}{l:List Oper}{env:Env}{H:aN}{K:Env->aN->Prop}{T:ay}{upd:ay->aN}
theorem Spec.at{f:FuncId}{m:List Value}{H1 H2:aN}{T:ay}{Post:Value->ay->Prop}(h:Spec P f m R' [T] λv H'=>∃T',H'=[T']/\Post v T')(C:∀b o,R' b o->R b o):Spec P f m R (H1++T::H2) λv H'=>∃T',H'=H1++T'::H2/\Post v T':=λw D s=>by
 have g:(H1++T::H2).flatten.Perm ([T]++(H1++H2)).flatten:=by
  simp only[aaP,aaO,abm,aaK]
  rw[<-aaD, <-aaD]
  exact aaW.append_right _
 have k:Sat w ([T]++(H1++H2)):=D.perm g
 have y:take [0] ([T]++(H1++H2))=[T]:=rfl
 have n:rest [0] ([T]++(H1++H2))=H1++H2:=rfl
 have F:RO w R ([T]++(H1++H2)):=λb o c=>⟨(s b o c).1,λp d=>(s b o c).2 p (g.mem_iff.2 d)⟩
 obtain⟨u,G,x⟩:=ig (is:=[0]) k
 have l:=RO.split (is:=[0]) k F
 rw[y]at u l x;rw[n]at l G x
 refine(h w u λb o c=>l b o (.inl (C b o c))).mono λe H ⟨v,H',i,⟨T',z,j⟩,E,A⟩=>?_
 subst z
 obtain⟨t,a⟩:=je (is:=[0]) (H':=[T']) k E A
 rw[n]at t a
 have r:([T']++(H1++H2)).flatten.Perm (H1++T'::H2).flatten:=by
  simp only[aaP,aaO,abm,aaK]
  rw[<-aaD, <-aaD]
  exact aaW.append_right _
 refine⟨v,_,i,⟨T',rfl,j⟩,t.perm r,⟨a.le,λb c B=>a.eK b c λp d=>B p (g.mem_iff.2 d),λp d=>?_,a.os,a.output,a.tape⟩⟩
 rcases a.fS p (r.mem_iff.2 d)with⟨q,j,i⟩|hge
 ·exact .inl ⟨q,g.mem_iff.2 j,i⟩
 ·exact .inr hge
theorem aH.bx{d:Nat}{ty:TypeId}{k:String}{a:Array Edge}{f:FuncId} [e:aL P f]{xs:List Operand}{b:Array TypeId}{vs:List Value}{Post:Value->Prop}
  (j:Spec P f vs (Rx R H) [] λv H'=>Post v/\H'=[])(i:∀v,Post v->aH false P N R ops l ((d,v)::env) H K)(hxs:eJ env xs=some vs:=by rfl)(h:Nat.blt d N=true:=by rfl):
  aH false P N R ops (⟨some d,.call ⟨.value (.func f),xs.toArray,b⟩,ty,k,a,none⟩::l) env H K:=
 aH.call [] j (λv H' ⟨c,g⟩=>by subst g;exact i v c) hxs h
theorem aH.bY{d:Nat}{ty:TypeId}{k:String}{a:Array Edge}{f:FuncId} [e:aL P f]{xs:List Operand}{b:Array TypeId}{vs:List Value}{Post:Value->ay->Prop}
  (j:Spec P f vs (Rx R H) [] λv H'=>∃T,H'=[T]/\Post v T)(i:∀v T,Post v T->aH false P N R ops l ((d,v)::env) (T::H) K)(hxs:eJ env xs=some vs:=by rfl)(h:Nat.blt d N=true:=by rfl):
  aH false P N R ops (⟨some d,.call ⟨.value (.func f),xs.toArray,b⟩,ty,k,a,none⟩::l) env H K:=
 aH.call [] j (λv H' ⟨T,c,g⟩=>by subst c;exact i v T g) hxs h
theorem lS:∀(H:aN),take (H.map λ_=>0) H=H
 |[]=>rfl
 |T::r=>by simp only[aaA,take,bM,List.getD_cons_zero,lS r]
theorem jF:∀(H:aN),rest (H.map λ_=>0) H=[]
 |[]=>rfl
 |T::r=>by simp only[aaA,rest,bM,jF r]
theorem aH.nG{dst:Option Nat}{op:Op}{ty:TypeId}{e:String}{c:Array Edge}{f:FuncId}{vs:List Value}{Post:Value->ay->Prop} [q:dt H T upd]
  (p:∀a w,dd a env->(execOp a.eval ⟨dst,op,ty,e,c,none⟩).run P w=.ok (.enter f vs.toArray) w)
  (n:Spec P f vs R' [T] λv H'=>∃T',H'=[T']/\Post v T')(m:∀b o,R' b o->R b o)
  (k:∀v T',Post v T'->match dst with
   |some d=>Nat.blt d N=true/\aH false P N R ops l ((d,v)::env) (upd T') K
   |none=>aH false P N R ops l env (upd T') K):
  aH false P N R ops (⟨dst,op,ty,e,c,none⟩::l) env H K:=by
 obtain⟨H1,H2,g,i⟩:=q.h
 refine .kW (H.map λ_=>0) (Post:=λv H'=>∃T',H'=H1++T'::H2/\Post v T') p ?_ ?_
 ·rw[lS,jF]
  have:=Spec.at (H1:=H1) (H2:=H2) n m
  rw[<-g]at this
  exact this.weaken λb o j=>.inl j
 ·intro v H' ⟨T',e1,e2⟩
  rw[jF,aaK,e1, <-i]
  exact k v T' e2
theorem aH.aQ{d:Nat}{ty:TypeId}{n:String}{b:Array Edge}{f:FuncId} [e:aL P f]{xs:List Operand}{c:Array TypeId}{vs:List Value}{Post:Value->ay->Prop}
  (m:Spec P f vs R [T] λv H'=>∃T',H'=[T']/\Post v T')(j:∀v T',Post v T'->aH false P N R ops l ((d,v)::env) (upd T') K) [o:dt H T upd](hxs:eJ env xs=some vs:=by rfl)(i:Nat.blt d N=true:=by rfl):
  aH false P N R ops (⟨some d,.call ⟨.value (.func f),xs.toArray,c⟩,ty,n,b,none⟩::l) env H K:=
 aH.nG (λa w g=>m9 hxs a w g) m (λ_ _ h=>h) (λv T' k=>⟨i,j v T' k⟩)
theorem Ak{cs zs:List Value}{k:Nat}(h:zs.length=k)(b:cs.length=k):ep ((List.range 1).map λi=>(i*k,k)) zs [(0,.agg cs.toArray)]=some cs:=by
 subst b
 have e:Nat.ble cs.length cs.length=true:=Nat.ble_eq_true_of_le (aa1 _)
 have a:zs.drop cs.length=[]:=List.drop_eq_nil_of_le (by omega)
 simp[ep,fb,h,List.range_succ,e,a]
theorem Aj{v:Value}{zs:List Value}(c:aF v=true)(h:zs.length=1):ep ((List.range 1).map λi=>(i*1,1)) zs [(0,v)]=some [v]:=by
 have a:zs.drop 1=[]:=List.drop_eq_nil_of_le (by omega)
 have b:zs.tail=[]:=by rw[<-List.drop_one];exact a
 cases v<;>simp_all[ep,fb,List.range_succ,aF]
theorem aH.iQ{d:Nat}{T E:TypeId}{k:Nat}{z:Value}{cs:List Value}{x:Operand}{ty:TypeId}{j:String}{a:Array Edge} [ut:bF P T (.slice E)] [sz:Sz P E k] [m:Zr P E z]
  (g:∀b,aH false P N R ops l ((d,.slice (some ⟨b,0,none⟩) 1 1)::env) ([(b,.cells cs.toArray E (0,0))]::H) K)(i:ev env x=some (.agg cs.toArray):=by rfl)(f:cs.length=k:=by rfl)(h:Nat.ble (1*k) (2^24)=true:=by rfl)(e:Nat.beq (1*k) 0=false:=by rfl)(c:Nat.blt d N=true:=by rfl):
  aH false P N R ops (⟨some d,.buildSlice T 1 [(0,x)].toArray,ty,j,a,none⟩::l) env H K:=
 aH.buildSlice (z:=z) (zs:=((Array.range (1*k)).map (z.cells[· % z.cells.size]!)).toList) (parts:=[(0,.agg cs.toArray)]) h e rfl (by simp[hB,i]) (Ak (by simp) f) g c
theorem aH.jg{d:Nat}{T E:TypeId}{z v:Value}{x:Operand}{ty:TypeId}{g:String}{a:Array Edge} [ut:bF P T (.slice E)] [sz:Sz P E 1] [i:Zr P E z] [o:One v]
  (e:∀b,aH false P N R ops l ((d,.slice (some ⟨b,0,none⟩) 1 1)::env) ([(b,.cells [v].toArray E (0,0))]::H) K)(f:ev env x=some v:=by rfl)(c:Nat.blt d N=true:=by rfl):
  aH false P N R ops (⟨some d,.buildSlice T 1 [(0,x)].toArray,ty,g,a,none⟩::l) env H K:=
 aH.buildSlice (z:=z) (zs:=((Array.range (1*1)).map (z.cells[· % z.cells.size]!)).toList) (parts:=[(0,v)]) rfl rfl rfl (by simp[hB,f]) (Aj o.h (by simp)) e c
theorem aH.kH{m:Bool}{d:Nat}{x:Operand}{c b:Option Operand}{t e E:TypeId}{sz:Nat}{α:Type}{enc:α->List Value}{v:Value}{xs:List α}{ty:TypeId}{w:String}{f:Array Edge}(lo a:Nat)(h:OS E sz enc v xs T) [ut:bF P t (.slice e)] [s:Sz P e sz](j:fj env c 0 lo)(k:fj env b xs.length a)(n:lo<=a)(o:a<=xs.length)
  (r:∀v',OS E sz enc v' ((xs.drop lo).take (a-lo)) T->aH m P N R ops l ((d,v')::env) H K)(u:ev env x=some v:=by rfl)(p:Nat.blt d N=true:=by rfl):
  aH m P N R ops (⟨some d,.slice t x c b none,ty,w,f,none⟩::l) env H K:=by
 obtain⟨v',g,i⟩:=aV.kH (P:=P) (R:=R) (H:=H) (ty:=ty) (t:=t) lo a h j k n o u
 exact aH.q i (r v' g) p
theorem RA.kH{f:aN}{b c:List Nat}{d:Nat}{x:Operand}{j g:Option Operand}{t e E:TypeId}{sz:Nat}{α:Type}{enc:α->List Value}{v:Value}{xs:List α}{ty:TypeId}{A:String}{k:Array Edge}(i:Nat)(w:ops[i]? =some ⟨some d,.slice t x j g none,ty,A,k,none⟩)(lo a:Nat)(h:OS E sz enc v xs T) [ut:bF P t (.slice e)] [s:Sz P e sz](n:fj env j 0 lo)(o:fj env g xs.length a)(p:lo<=a)(q:a<=xs.length)
  (z:ev env x=some v)(r:tk false ops b c i=true)(y:∀v',OS E sz enc v' ((xs.drop lo).take (a-lo)) T->RA P N R ops f b (i::c) ((d,v')::env) H K)(u:Nat.blt d N=true:=by rfl):
  RA P N R ops f b c env H K:=by
 obtain⟨v',l,m⟩:=aV.kH (P:=P) (R:=R) (H:=[]) (ty:=ty) (t:=t) lo a h n o p q z
 exact RA.take i w m r (y v' l) u
theorem RA.ar{c:aN}{a b:List Nat}{d:Nat}{x y:Operand}{t e E:TypeId}{sz:Nat}{α:Type}{enc:α->List Value}{v:Value}{xs:List α}{ty:TypeId}{B:String}{g:Array Edge}{k:IntKind}{j:Int}{z:α}(i:Nat)(n:ops[i]? =some ⟨some d,.indexAddr t x y,ty,B,g,none⟩)(q:Nat)(h:OS E sz enc v xs T)(f:xs[q]? =some z) [ut:bF P t (.slice e)] [s:Sz P e sz]
  (w:ev env x=some v)(A:ev env y=some (.int k j))(o:j=(q:Int))(l:tk false ops a b i=true)(r:PS T (eB v (q*sz)) (enc z)->RA P N R ops c a (i::b) ((d,eB v (q*sz))::env) H K)(m:Nat.blt d N=true:=by rfl):
  RA P N R ops c a b env H K:=
 RA.take i n (aV.dm q (h.rs (R:=sg T) λp u=>u) f w A o) l (r ⟨h.pc f⟩) m
theorem aV.mW{ty:TypeId}{x:Operand}{p:Value}{b:Addr}(f:ev env x=some p)(e:p=.pointer (some b):=by rfl):aV P R env H (.nilCheck x) ty p:=λa w d i h g c _ _=>by
 subst e
 simp[execOp,c.eval f]
theorem aV.ee{ty:TypeId}{x:Operand}{s:TypeId}{f off:Nat}{p:Value}{b:Addr}(j:ev env x=some p) [c:ba P s f off](i:p=.pointer (some b):=by rfl):aV P R env H (.fieldAddr s x f) ty (fh p off):=λa w d l k g e _ _=>by
 subst i
 have:=c.h b w
 simp[execOp,e.eval j,this,fh]
end
end
section
section
variable{P:Program}{N:Nat}{R R':aC}{ops:Array Oper}{l:List Oper}{env:Env}{H:aN}{K:Env->aN->Prop}{T:ay}{upd:ay->aN}{ty:TypeId}{pos:String}{af:Array Edge}{α:Type}
def lA(sz lo hi:Nat)(p:Option Addr)(cap:Nat):Value:=.slice (if cap=lo then p else p.map (·.add (lo*sz))) (hi-lo) (cap-lo)
theorem OS.shape{E:TypeId}{sz:Nat}{enc:α->List Value}{v:Value}{xs:List α}(h:OS E sz enc v xs T):∃p cap,v=.slice p xs.length cap/\xs.length<=cap:=by
 rcases h.h with⟨a,d,_⟩|⟨b,f,c,cap,a,_,e,_⟩
 ·exact⟨none,0,by rw[a,d];rfl,by simp[d]⟩
 ·exact⟨_,cap,a,e⟩
theorem OS.head{E:TypeId}{sz n cap:Nat}{p:Option Addr}{enc:α->List Value}{xs:List α}(h:OS E sz enc (.slice p n cap) xs T)(lo:Nat)(l:lo<=xs.length):OS E sz enc (lA sz 0 lo p cap) (xs.take lo) T:=by
 have m:(xs.take lo).length=lo:=by simp;omega
 refine⟨λx e=>h.len x (abp e),λx e=>h.one x (abp e),?_⟩
 rcases h.h with⟨a,d,f⟩|⟨b,o,c,q,a,d,f,i,j,k⟩
 ·cases a
  subst d
  obtain rfl:lo=0:=by simpa using l
  exact .inl ⟨by simp[lA],by simp,f⟩
 ·cases a
  refine .inr ⟨b,o,c,cap,?_,d,by omega,i,j,by simpa using k.piece h.len 0 lo⟩
  rw[m]
  by_cases g:cap=0
  ·simp[lA,g]
  ·simp[lA,g,Addr.add]
theorem Row.cg{c:Array Value}{off k:Nat}{cs vs:List Value}(h:Row c off cs)(f:off+cs.length<=k)(e:k+vs.length<=c.size):Row (Go.Proofs.YtgppncmdpcefhaaGreatDoor.cg c.toList k vs).toArray off cs:=λj d=>by
 have a:=h j d
 have b:=nj (vs:=c.toList) (cs:=vs) (off:=k) (by simpa using e) (off+j)
 simp only[aaE]
 rw[b,aaz (by omega)]
 simpa using a
theorem aH.mw{d t:Nat}{f:FuncId}{first captured:List Value} [e:aL P f]{xs:List Operand}{c:Array TypeId}{vs:List Value}{Post:Value->ay->Prop}
  (n:Spec P f (first++vs++captured) R [T] λv H'=>∃T',H'=[T']/\Post v T')(k:∀v T',Post v T'->aH false P N R ops l ((d,v)::env) (upd T') K) [p:dt H T upd]
  (o:Env.get? env t=some (.func (.func f) first.toArray captured.toArray):=by rfl)(hxs:eJ env xs=some vs:=by rfl)(j:Nat.blt d N=true:=by rfl):
  aH false P N R ops (⟨some d,.call ⟨.value (.tmp t),xs.toArray,c⟩,ty,pos,af,none⟩::l) env H K:=
 aH.nG (λa w b=>by
  have g:=b.kc hxs
  have i:a.eval (.tmp t)=_:=b.eval o
  simp only[execOp,resolve,g,i,Deferred.ofValue]
  have:=e.h (first++vs++captured).toArray w
  rw[<-abo, <-abo]at this⊢
  exact this) n (λ_ _ h=>h) (λv T' m=>⟨j,k v T' m⟩)
theorem BR(n:Nat){t e:TypeId}{w:World}{p:Option Addr}{a c b d:Nat}(ut:P.underlying t=some (.slice e)):(Op.equalIn (n+1) t (.slice p a c) (.slice none b d)).run P w=.ok p.isNone w:=by
 cases p<;>simp[Op.equalIn,run_underlying ut]
theorem aV.mJ{x y:Operand}{t u e n c:Nat}{p:Option Addr}{k f:Nat}(i:ev env x=some (.slice p n c))(j:ev env y=some (.slice none k f)) [ut:bF P t (.slice e)]:aV P R env H (.binOp .eql t x y u) ty (.bool p.isNone):=λa w d m l g b _ _=>
 na (op:=.move x) (b.eval i) (b.eval j) (jl rfl) rfl (BR _ ut.h)
theorem aH.nF{d:Nat}{T E k:Nat} [ut:bF P T (.slice E)] [sz:Sz P E k](g:∀b,aH false P N R ops l ((d,.slice (some ⟨b,0,none⟩) 0 0)::env) ([(b,.cells [].toArray E (0,0))]::H) K)(f:Nat.blt d N=true:=by rfl):
  aH false P N R ops (⟨some d,.buildSlice T 0 [].toArray,ty,pos,af,none⟩::l) env H K:=
 aH.fresh (v:=λb=>.slice (some ⟨b,0,none⟩) 0 0) f (λa w i s j=>⟨w.drawn,by
  have c:(execOp a.eval ⟨some d,.buildSlice T 0 [].toArray,ty,pos,af,none⟩)=(do pure (.value (<-Instr.buildSlice T 0 #[]))):=by
   show(do pure (Next.value (<-Instr.buildSlice T 0 ((#[]:Array (Nat×Operand)).map λx:Nat×Operand=>(x.1,a.eval x.2)))))=_
   rw[Array.map_empty]
  rw[c]
  have e:((Array.range 0).map λx=>(default:Value))= #[]:=by apply Array.eq_empty_of_size_eq_zero;simp
  simp[Instr.buildSlice,run_underlying ut.h,sz.h,Instr.fill,jt,e]⟩) g
theorem OS.empty{E sz b:Nat}{enc:α->List Value}:OS E sz enc (.slice (some ⟨b,0,none⟩) 0 0) ([]:List α) [(b,.cells [].toArray E (0,0))]:=
 ⟨by simp,by simp,.inr ⟨b,0,_,0,rfl,rfl,by simp,by simp,by simp,λk a=>by simp at a⟩⟩
theorem RS.AZ{sz n c:Nat}{enc:α->List Value}{xs:List α}(h:RS R sz enc (.slice none n c) xs):xs=[]:=by
 obtain⟨p,e,a,_,_,h4⟩:=h.h
 cases a
 rcases h4 with h4|⟨b,g,c,E,f,d,_⟩
 ·exact h4
 ·cases d
end
end
section
section
variable{P:Program}{N:Nat}{R R':aC}{ops:Array Oper}{l:List Oper}{env:Env}{H:aN}{K:Env->aN->Prop}{T:ay}{upd:ay->aN}{ty:TypeId}{pos:String}{af:Array Edge}
theorem aH.qh{dst:Option Nat}{op:Op}(is:List Nat){f:FuncId}{vs:List Value}{Post:Value->aN->Prop}
  (u:∀a w,dd a env->Sat w H->RO w R H->(execOp a.eval ⟨dst,op,ty,pos,af,none⟩).run P w=.ok (.enter f vs.toArray) w)
  (r:Spec P f vs (Rx R (rest is H)) (take is H) Post)
  (p:∀v H',Post v H'->match dst with
   |some d=>Nat.blt d N=true/\aH false P N R ops l ((d,v)::env) (H'++rest is H) K
   |none=>aH false P N R ops l env (H'++rest is H) K):
  aH false P N R ops (⟨dst,op,ty,pos,af,none⟩::l) env H K:=λg m c h a w s=>by
 simp only[wpList,Region.wanted,aaF]
 refine .inl ?_
 rw[Oper.wp,u a w s.env s.sat s.ro]
 obtain⟨x,y,z⟩:=ig (is:=is) s.sat
 refine(r w x (RO.split s.sat s.ro)).mono λe k ⟨v,H',n,q,t,o⟩=>?_
 subst n
 obtain⟨i,j⟩:=je s.sat t o
 have b:=p v H' q
 cases dst with
 |some d=>exact b.2 g m c h _ k ((s.step j i).put v b.1)
 |none=>exact b g m c h _ k (s.step j i)
class pX(P:Program)(t:TypeId)(name:String)(f:outParam FuncId):Prop where
 h:∀(v:Value) w,(Go.method (P.types.size+Made.depth) t v name).run P w=.ok (f,v) w
theorem De{t:TypeId}{name:String}{f:FuncId} [m:pX P t name f] [e:aL P f]{x:Operand}{v:Value}{xs:List Operand}{c:Array TypeId}{vs:List Value}{dst:Option Nat}{g:Option (Nat×Bool)}(o:ev env x=some (.iface t v))(hxs:eJ env xs=some vs)(a:Act)(w:World)(b:dd a env):
  (execOp a.eval ⟨dst,.call ⟨.invoke x name,xs.toArray,c⟩,ty,pos,af,g⟩).run P w=.ok (.enter f (v::vs).toArray) w:=by
 have d:=b.kc hxs
 have i:=b.eval o
 have j:=e.h (v::vs).toArray w
 have k:callMethod (.iface t v) name vs.toArray=(do let (f,r)<-Go.method ((<-program).types.size+Made.depth) t v name;callFunc f (#[r]++vs.toArray)):=rfl
 have l:(callMethod (.iface t v) name vs.toArray).run P w=.ok (.enter f (v::vs).toArray) w:=by
  rw[k]
  simp[m.h,j]
 have n:(invoke (.fn (.method name) #[]) (#[.iface t v]++vs.toArray)).run P w=.ok (.enter f (v::vs).toArray) w:=by
  have:invoke (.fn (.method name) #[]) (#[.iface t v]++vs.toArray)=callMethod (.iface t v) name vs.toArray:=by simp[invoke]
  rw[this];exact l
 simp only[execOp,resolve,d,i]
 exact n
def fq(P:Program)(D:aC)(t:TypeId)(v:Value)(name:String)(f:FuncId)(r:Value):Prop:=
 ∀w,(∀b o,D b o->w.heap[b]? =some o)->(Go.method (P.types.size+Made.depth) t v name).run P w=.ok (f,r) w
theorem fq.mono{D a:aC}{t:TypeId}{v:Value}{name:String}{f:FuncId}{r:Value}(h:fq P D t v name f r)(d:∀b o,D b o->a b o):fq P a t v name f r:=λw e=>h w λb o c=>e b o (d b o c)
theorem BT{D:aC}{t:TypeId}{name:String}{f:FuncId}{v r:Value}(m:fq P D t v name f r)(e:aL P f){x:Operand}{xs:List Operand}{d:Array TypeId}{vs:List Value}{dst:Option Nat}{g:Option (Nat×Bool)}(s:ev env x=some (.iface t v))(hxs:eJ env xs=some vs)(a:Act)(w:World)(c:dd a env)
  (q:∀b o,D b o->w.heap[b]? =some o):(execOp a.eval ⟨dst,.call ⟨.invoke x name,xs.toArray,d⟩,ty,pos,af,g⟩).run P w=.ok (.enter f (r::vs).toArray) w:=by
 have i:=c.kc hxs
 have j:=c.eval s
 have k:=e.h (r::vs).toArray w
 have l:callMethod (.iface t v) name vs.toArray=(do let (f,r)<-Go.method ((<-program).types.size+Made.depth) t v name;callFunc f (#[r]++vs.toArray)):=rfl
 have n:(callMethod (.iface t v) name vs.toArray).run P w=.ok (.enter f (r::vs).toArray) w:=by
  rw[l]
  simp[m w q,k]
 have p:(invoke (.fn (.method name) #[]) (#[.iface t v]++vs.toArray)).run P w=.ok (.enter f (r::vs).toArray) w:=by
  have:invoke (.fn (.method name) #[]) (#[.iface t v]++vs.toArray)=callMethod (.iface t v) name vs.toArray:=by simp[invoke]
  rw[this];exact n
 simp only[execOp,resolve,i,j]
 exact p
def eO(P:Program)(t:TypeId)(v:Value)(name:String)(vs:List Value)(R:aC)(T:ay)(Post:Value->ay->Prop):Prop:=
 ∃f r,fq P (Rx R [T]) t v name f r/\aL P f/\Spec P f (r::vs) R [T] λu H'=>∃T',H'=[T']/\Post u T'
theorem eO.weaken{t:TypeId}{v:Value}{name:String}{vs:List Value}{Post:Value->ay->Prop}(h:eO P t v name vs R' T Post)(a:∀b o,R' b o->R b o):eO P t v name vs R T Post:=by
 obtain⟨f,r,c,d,e⟩:=h
 exact⟨f,r,c.mono λb o g=>g.imp (a b o) id,d,e.weaken a⟩
theorem eO.mono{t:TypeId}{v:Value}{name:String}{vs:List Value}{Post a:Value->ay->Prop}(h:eO P t v name vs R T Post)(g:∀u T',Post u T'->a u T'):eO P t v name vs R T a:=by
 obtain⟨f,r,b,c,d⟩:=h
 exact⟨f,r,b,c,d.mono λu j ⟨T',e,i⟩=>⟨T',e,g _ _ i⟩⟩
theorem aH.qd{dst:Option Nat}{x:Operand}{t:TypeId}{v:Value}{name:String}{xs:List Operand}{j:Array TypeId}{vs:List Value}{Post:Value->ay->Prop} [C:dt H T upd]
  (g:eO P t v name vs R T Post)(B:ev env x=some (.iface t v))(hxs:eJ env xs=some vs)
  (q:∀u T',Post u T'->match dst with
   |some d=>Nat.blt d N=true/\aH false P N R ops l ((d,u)::env) (upd T') K
   |none=>aH false P N R ops l env (upd T') K):
  aH false P N R ops (⟨dst,.call ⟨.invoke x name,xs.toArray,j⟩,ty,pos,af,none⟩::l) env H K:=by
 obtain⟨f,r,k,m,n⟩:=g
 obtain⟨c,e,rfl,A⟩:=C.h
 refine .qh (H:=c++T::e) ((c++T::e).map λ_=>0) (f:=f) (vs:=r::vs) (Post:=λu i=>∃T',i=c++T'::e/\Post u T') (λa w p g z=>BT k m B hxs a w p λb o hb=>?_) ?_ (λu i s=>?_)
 ·rcases hb with hb|hb
  ·exact(z b o hb).1
  ·exact g.2 (b,o) (by simp at hb⊢;exact .inr (.inl hb))
 ·rw[lS]
  exact n.at λb o hb=>.inl hb
 ·obtain⟨T',rfl,y⟩:=s
  have:=q u T' y
  rw[A T']at this
  rw[jF,aaK]
  cases dst<;>exact this
theorem aH.jh{d:Nat}{x:Operand}{t:TypeId}{v:Value}{name:String}{xs:List Operand}{a:Array TypeId}{vs:List Value}{Post:Value->ay->Prop}
  (f:eO P t v name vs R T Post)(c:∀u T',Post u T'->aH false P N R ops l ((d,u)::env) (upd T') K) [h:dt H T upd](g:ev env x=some (.iface t v):=by rfl)(hxs:eJ env xs=some vs:=by rfl)(b:Nat.blt d N=true:=by rfl):
  aH false P N R ops (⟨some d,.call ⟨.invoke x name,xs.toArray,a⟩,ty,pos,af,none⟩::l) env H K:=
 aH.qd f g hxs λu T' e=>⟨b,c u T' e⟩
theorem aV.i64{op:Op}{z:Int}(c:Int)(h:aV P R env H op ty (.int .i64 (IntKind.i64.wrap z)))(e:z=c/\ -9223372036854775808<=c/\c<=9223372036854775807):aV P R env H op ty (.int .i64 c):=by
 obtain⟨rfl,a,b⟩:=e
 rw[IntWalk.i64_in _ (by omega)]at h
 exact h
theorem kM{j:Nat}:((j:Int)-1).tdiv 2=(((j-1)/2:Nat):Int):=by
 rcases Nat.eq_zero_or_pos j with h|h
 ·subst h;decide
 ·rw[Int.tdiv_eq_ediv_of_nonneg (by omega)];omega
theorem fq.ptr{D:aC}{t e:TypeId}{v:Value}{name:String}{f:FuncId}{c:TypeInfo}(k:∀w,(typeInfo t).run P w=.ok c w)(d:(c.methods.find? (·.name==name)).map (λm=>(m.path.isEmpty,m.func))=some (true,some (f,true)))
  (l:bF P t (.pointer e))(b:Nat.beq P.types.size 0=false):fq P D t v name f v:=λw _=>by
 obtain⟨n,i⟩:∃n,P.types.size+Made.depth=n+1:=⟨P.types.size+Made.depth-1,by have:P.types.size≠0:=λe=>(by rw[e]at b;cases b);omega⟩
 rw[i]
 obtain⟨m,g,a⟩:=Option.map_eq_some_iff.1 d
 simp only[aaZ]at a
 have j:m.path= #[]:=by simpa using a.1
 unfold Go.method
 simp[k,g,j,a.2,follow,receiverAt,run_underlying l.h,Place.get]
theorem BV{b:Array TypeId}{t:TypeId}{a:Addr}{s m:ByteArray}{w:World}:(Builtin.ssaWrapNilChk_ b t #[.pointer (some a),.string s,.string m]).run P w=.ok (.pointer (some a)) w:=rfl
theorem fq.val{D:aC}{t e:TypeId}{v u:Value}{us:List Value}{name:String}{f:FuncId}{g:TypeInfo}(y:∀w,(typeInfo t).run P w=.ok g w)(q:(g.methods.find? (·.name==name)).map (λm=>(m.path.isEmpty,m.func))=some (true,some (f,false)))
  (z:bF P t (.pointer e))(d:Nat.beq P.types.size 0=false)(i:cx P e false)(o:PC D v (u::us)):fq P D t v name f u:=λw A=>by
 obtain⟨n,s⟩:∃n,P.types.size+Made.depth=n+1:=⟨P.types.size+Made.depth-1,by have:P.types.size≠0:=λe=>(by rw[e]at d;cases d);omega⟩
 rw[s]
 obtain⟨m,r,a⟩:=Option.map_eq_some_iff.1 q
 simp only[aaZ]at a
 have x:m.path= #[]:=by simpa using a.1
 obtain⟨b,B,c,E,C,rfl,l,p⟩:=o.h
 have j:=p 0 (by simp)
 have k:w.cell? ⟨b,B,none⟩=some u:=by
  simp[World.cell?,A _ _ l]
  simpa using j
 unfold Go.method
 simp only[Sem.run_bind,y,Result.andThen_ok,r,x,a.2,follow,receiverAt,Sem.run_pure,Array.isEmpty_empty,aaF]
 simp only[run_underlying z.h,Result.andThen_ok,Place.get,Sem.run_bind,Sem.run_pure,strVal,BV,asAddr,loadVar,i.h,o1 k,aaC,aaB]
end
end
section
variable{α:Type}
def bi(L:List α)(i k:Nat):List α:=match L[i]?,L[k]? with
 |some x,some y=>(L.set i y).set k x
 |_,_=>L
theorem bP{L:List α}{i k:Nat}{x y:α}(a:L[i]? =some x)(b:L[k]? =some y):bi L i k=(L.set i y).set k x:=by simp[bi,a,b]
theorem eh{L:List α}{i k:Nat}:(bi L i k).length=L.length:=by
 unfold bi;split<;>simp
theorem cR{L:List α}{i k:Nat}(c:i<L.length)(d:k<L.length)(j:Nat):(bi L i k)[j]? =if j=k then L[i]? else if j=i then L[k]? else L[j]? :=by
 rw[bP (aaH c) (aaH d),List.getElem?_set,List.getElem?_set]
 by_cases a:k=j
 ·subst a;simp[d,aaH c]
 ·by_cases b:i=j
  ·subst b
   simp[a,Ne.symm a,c,aaH d]
  ·simp[a,b,Ne.symm a,Ne.symm b]
theorem lR{L:List α}{i k:Nat}:(bi L i k).Perm L:=by
 unfold bi
 split
 ·rename_i x y a b
  obtain⟨c,rfl⟩:=abe.1 a
  obtain⟨d,rfl⟩:=abe.1 b
  exact List.set_set_perm c d
 ·exact .refl _
structure SO(lt:α->α->Bool):Prop where
 cG:∀x,lt x x=false
 tr:∀x y z,lt x y=true->lt y z=true->lt x z=true
 dD:∀x y z,lt x y=false->lt y z=false->lt x z=false
theorem SO.fR{lt:α->α->Bool}(h:SO lt){x y:α}(a:lt x y=true):lt y x=false:=by
 cases hy:lt y x with
 |false=>rfl
 |true=>have:=h.tr _ _ _ a hy;rw[h.cG]at this;cases this
def aX(k:Nat):Nat:=(k-1)/2
def dR(lt:α->α->Bool)(L:List α)(a k:Nat):Prop:=∀x y,L[a]? =some x->L[k]? =some y->lt y x=false
def dZ(lt:α->α->Bool)(L:List α)(n:Nat):Prop:=∀k,0<k->k<n->dR lt L (aX k) k
structure Up(lt:α->α->Bool)(L:List α)(n j:Nat):Prop where
 e:∀k,0<k->k<n->k≠j->dR lt L (aX k) k
 b:∀k,0<k->k<n->aX k=j->0<j->dR lt L (aX j) k
structure gr(lt:α->α->Bool)(L:List α)(n i:Nat):Prop where
 e:∀k,0<k->k<n->k≠i->aX k≠i->dR lt L (aX k) k
 b:∀k,0<k->k<n->aX k=i->0<i->dR lt L (aX i) k
theorem dO{k:Nat}(h:0<k):aX k<k:=by unfold aX;omega
section
variable{lt:α->α->Bool}{L:List α}{n i j:Nat}
theorem Up.Ch(h:Up lt L n 0):dZ lt L n:=λk a b=>h.e k a b (by omega)
theorem Up.stop(h:Up lt L n j)(c:dR lt L (aX j) j):dZ lt L n:=λk b d=>by
 by_cases a:k=j
 ·subst a;exact c
 ·exact h.e k b d a
theorem dR.eL{b:List α}{a k c k':Nat}(h:dR lt L a k)(d:b[c]? =L[a]?)(e:b[k']? =L[k]?):dR lt b c k':=λx y f g=>h x y (d▸f) (e▸g)
theorem gr.step(D:SO lt)(h:gr lt L n i)(s:0<j)(w:j<n)(F:n<=L.length)(q:aX j=i){x y:α}(t:L[j]? =some x)(C:L[i]? =some y)(A:lt x y=true)
  (B:∀c z,0<c->c<n->aX c=i->L[c]? =some z->lt z x=false):gr lt (bi L i j) n j/\dR lt (bi L i j) (aX j) j:=by
 have E:i<j:=q▸dO s
 have g:=λk=>cR (L:=L) (i:=i) (k:=j) (by omega) (by omega) k
 refine⟨⟨λk a p f r=>?_,λk a p r _=>?_⟩,?_⟩
 ·by_cases d:k=i
  ·subst d
   have G:=dO a
   refine(h.b j s w q a).eL ?_ ?_
   ·rw[g,aay (by omega),aay (by omega)]
   ·rw[g,aay f,aaz rfl]
  ·by_cases o:aX k=i
   ·intro u v l m
    rw[o,g,aay (by omega),aaz rfl,t]at l
    rw[g,aay f,aay d]at m
    cases l
    exact B k v a p o m
   ·refine(h.e k a p d o).eL ?_ ?_
    ·rw[g,aay r,aay o]
    ·rw[g,aay f,aay d]
 ·have f:k≠j:=by have:=dO a;omega
  have d:k≠i:=by have:=dO a;omega
  refine(h.e k a p d (by omega)).eL ?_ ?_
  ·rw[q,r,g,aay (by omega),aaz rfl]
  ·rw[g,aay f,aay d]
 ·intro u v l m
  rw[q,g,aay (by omega),aaz rfl,t]at l
  rw[g,aaz rfl,C]at m
  cases l;cases m
  exact D.fR A
theorem gr.stop(h:gr lt L n i)(g:∀c,0<c->c<n->aX c=i->dR lt L i c):Up lt L n i:=
 ⟨λk f d j=>by
  by_cases a:aX k=i
  ·rw[a];exact g k f d a
  ·exact h.e k f d j a,h.b⟩
theorem dZ.hole(o:SO lt)(h:dZ lt L n)(r:n<=L.length){e:List α}(c:∀k,k<n->k≠i->e[k]? =L[k]?):gr lt e n i:=by
 refine⟨λk b a m d=>?_,λk b a d g=>?_⟩
 ·have:=dO b
  exact(h k b a).eL (c _ (by omega) d) (c _ a m)
 ·have p:=dO b
  have q:=dO g
  intro u v j l
  rw[c _ (by omega) (by omega)]at j
  rw[c _ a (by omega)]at l
  have f:L[i]? =some (L[i]'(by omega)):=aaH _
  exact o.dD _ _ _ (h k b a _ v (by rw[d];exact f) l) (h i g (by omega) u _ j f)
theorem dZ.push(h:dZ lt L L.length)(x:α):Up lt (L++[x]) (L.length+1) L.length:=by
 refine⟨λk a c d=>?_,λk a c e _=>?_⟩
 ·have b:=dO a
  refine(h k a (by omega)).eL ?_ ?_<;>rw[abd (by omega)]
 ·have b:=dO a
  omega
theorem dZ.mono{m:Nat}(h:dZ lt L n)(c:m<=n):dZ lt L m:=λk a b=>h k a (by omega)
theorem dZ.eL{a:List α}(h:dZ lt L n)(d:∀k,k<n->a[k]? =L[k]?):dZ lt a n:=λk b c=>by
 have:=dO b
 exact(h k b c).eL (d _ (by omega)) (d _ c)
theorem dZ.least(c:SO lt)(h:dZ lt L L.length){x:α}(g:L[0]? =some x):∀(k:Nat) (y:α),L[k]? =some y->lt y x=false:=by
 intro k
 induction k using Nat.strongRecOn with
 |_ k ih=>
  intro y a
  by_cases d:k=0
  ·subst d;rw[g]at a;cases a;exact c.cG _
  ·have f:=dO (k:=k) (by omega)
   have e:=(abe.1 a).1
   have b:L[aX k]? =some (L[aX k]'(by omega)):=aaH _
   exact c.dD _ _ _ (h k (by omega) e _ y b a) (ih (aX k) f _ b)
end
end
section
theorem bJ.trans{A B C:aN}(h:bJ A B)(a:bJ B C):bJ A C:=by
 obtain⟨G,h⟩:=h
 obtain⟨b,a⟩:=a
 refine⟨b++G,h.trans ?_⟩
 rw[<-aaD]
 exact a.append_right G
def ei(T:ay)(b:Nat)(o:Obj):ay:=T.map λp=>if p.1=b then(b,o)else p
theorem pJ{T:ay}{b:Nat}{o:Obj}(j:Nat):(ei T b o)[j]? =T[j]?.map λp=>if p.1=b then(b,o)else p:=by simp[ei]
theorem pL{T a:ay}{b:Nat}{o:Obj}(h:T.Perm a):(ei T b o).Perm (ei a b o):=h.map _
theorem pK{T:ay}{b:Nat}{o:Obj}(h:∀p∈T,p.1≠b):ei T b o=T:=by
 unfold ei
 conv=>rhs;rw[<-List.map_id T]
 exact List.map_congr_left λp a=>by simp[h p a]
theorem CA{T1 T2:ay}{b:Nat}{o o':Obj}(d:((T1++(b,o)::T2).map (·.1)).Nodup):ei (T1++(b,o)::T2) b o'=T1++(b,o')::T2:=by
 simp only[List.map_append,aaA,List.nodup_append,aa0]at d
 obtain⟨_,⟨g,_⟩,h⟩:=d
 have e:ei T1 b o'=T1:=pK λp c a=>h p.1 (abr c) b (by simp) a
 have f:ei T2 b o'=T2:=pK λp c a=>g (a▸abr c)
 have:ei (T1++(b,o)::T2) b o'=ei T1 b o'++(b,o')::ei T2 b o':=by simp[ei]
 rw[this,e,f]
theorem RS.AQ{α:Type}{R:aC}{b n E sz:Nat}{cs:List Value}{fr:Nat×Nat}{enc:α->List Value}{xs:List α}(a:R b (.cells cs.toArray E fr))(c:xs.flatMap enc=cs)(d:∀x∈xs,(enc x).length=sz)(ho:∀x∈xs,∀u∈enc x,Go.Proofs.YtgppncmdpcefhaaGreatDoor.aF u=true)(f:xs.length=n:=by rfl)(e:Nat.ble n 9223372036854775807=true:=by rfl):
  RS R sz enc (.slice (some ⟨b,0,none⟩) n n) xs:=
 ⟨d,ho,_,n,by rw[f],by omega,by have:=aaT e;unfold maxLen;omega,.inr ⟨b,0,_,E,fr,rfl,a,λk g=>by subst c;simp⟩⟩
theorem RS.lits{α:Type}{R:aC}{H:aN}{b n E sz:Nat}{cs:List Value}{fr:Nat×Nat}{enc:α->List Value}{xs:List α}(a:xs.flatMap enc=cs)(c:∀x∈xs,(enc x).length=sz)(ho:∀x∈xs,∀u∈enc x,Go.Proofs.YtgppncmdpcefhaaGreatDoor.aF u=true)(e:xs.length=n:=by rfl)(d:Nat.ble n 9223372036854775807=true:=by rfl):
  RS (Rx R ([(b,.cells cs.toArray E fr)]::H)) sz enc (.slice (some ⟨b,0,none⟩) n n) xs:=RS.AQ (E:=E) (fr:=fr) (.inr (by simp)) a c ho e d
theorem Cz{T:ay}{b a:Nat}{o o':Obj}(h:(a,o')∈T)(c:a≠b):(a,o')∈ei T b o:=aaR.2 ⟨_,h,by simp[c]⟩
theorem CB{T:ay}{b:Nat}{o o':Obj}(h:(b,o')∈T):(b,o)∈ei T b o:=aaR.2 ⟨_,h,by simp⟩
def idx{α:Type}:Nat->List α->List (Nat×α)
 |_,[]=>[]
 |i,x::l=>(i,x)::idx (i+1) l
theorem Al{a:List (Nat×Nat)}{zs:List Value}{i off:Nat}{v:Value}{r:List (Nat×Value)}(d:a[i]? =some (off,1))(e:aF v=true)(c:off+1<=zs.length):ep a zs ((i,v)::r)=ep a (cg zs off [v]) r:=by
 have b:Nat.ble (off+1) zs.length=true:=Nat.ble_eq_true_of_le c
 simp only[ep,d]
 cases v<;>first|(cases e;done)|simp[b]
theorem nV{n:Nat}:∀(vs zs:List Value) (i:Nat),i+vs.length=n->zs.length=n->(∀v∈vs,aF v=true)->ep ((List.range n).map λi=>(i*1,1)) zs (idx i vs)=some (zs.take i++vs)
 |[],zs,i,h,hz,_=>by
  simp only[idx,ep,aaK]
  rw[List.take_of_length_le (by simp at h;omega)]
 |v::vs,zs,i,h,hz,ho=>by
  simp only[aa6]at h
  have b:((List.range n).map λi=>(i*1,1))[i]? =some (i*1,1):=by
   rw[aaV,List.getElem?_range (by omega)];rfl
  simp only[idx]
  rw[Al b (ho v (by simp)) (by omega),nV vs _ (i+1) (by omega) (by rw[kG (by simp;omega)];exact hz) λu c=>ho u (by simp[c])]
  simp only[fb,Nat.mul_one,aaD]
  rw[List.take_append,List.take_of_length_le (by simp;omega)]
  have a:i+1-(zs.take i).length=1:=by rw[aa2];omega
  rw[a];simp
theorem Am{n:Nat}{vs zs:List Value}(b:vs.length=n)(a:zs.length=n)(ho:∀v∈vs,aF v=true):ep ((List.range n).map λi=>(i*1,1)) zs (idx 0 vs)=some vs:=by
 rw[nV vs zs 0 (by omega) a ho];simp
section
variable{P:Program}{N:Nat}{R R':aC}{ops:Array Oper}{l:List Oper}{env:Env}{H:aN}{K:Env->aN->Prop}{Q:Exit->Env->aN->Prop}{T:ay}{upd:ay->aN}{ty:TypeId}{pos:String}{af:Array Edge}{m:Bool}
theorem aH.nodup(h:(H.flatten.map (·.1)).Nodup->aH m P N R ops l env H K):aH m P N R ops l env H K:=λc e b d a w s=>h s.sat.1 c e b d a w s
theorem Spec.nodup{f:FuncId}{a:List Value}{Post:Value->aN->Prop}(h:(H.flatten.map (·.1)).Nodup->Spec P f a R H Post):Spec P f a R H Post:=λw b c=>h b.1 w b c
theorem Spec.eK{f:FuncId}{b:List Value}{Post:Value->Prop}(h:Spec P f b (Rx R H) [] λv H'=>Post v/\H'=[]):Spec P f b R H λv H'=>Post v/\H'=H:=λw a j=>by
 obtain⟨n,o,p⟩:=ig (is:=[]) a
 refine(h w n (RO.split (is:=[]) a j)).mono λe q ⟨v,H',d,⟨i,c⟩,k,g⟩=>?_
 subst c
 obtain⟨l,m⟩:=je (is:=[]) a k g
 exact⟨v,H,d,⟨i,rfl⟩,l,m⟩
theorem eO.eK{t:TypeId}{v r:Value}{name:String}{vs:List Value}{f:FuncId}{Post:Value->Prop}(c:fq P (Rx R [T]) t v name f r) [e:aL P f](h:Spec P f (r::vs) (Rx R [T]) [] λv H'=>Post v/\H'=[]):eO P t v name vs R T λu T'=>Post u/\T'=T:=
 ⟨f,r,c,e,h.eK.mono λu H' ⟨a,b⟩=>⟨T,b,a,rfl⟩⟩
theorem PS.of{b:Nat}{vs:List Value}{E:TypeId}{fr:Nat×Nat}(h:(b,.cells vs.toArray E fr)∈T):PS T (.pointer (some ⟨b,0,none⟩)) vs:=⟨PC.of h⟩
theorem aH.pt{t:TypeId}{x y:Operand}{v:Value}{vs:List Value}{b off E:Nat}(m:(b,.cells vs.toArray E (0,0))∈T) [r:dt H T upd] [sz:Sz P t 1](f:aH false P N R ops l env (upd (ei T b (.cells (cg vs off [v]).toArray E (0,0)))) K)
  (k:off+1<=vs.length:=by first|decide|exact aaT rfl)(p:ev env x=some (.pointer (some ⟨b,off,none⟩)):=by rfl)(q:ev env y=some v:=by rfl)(ho:aF v=true:=by rfl):
  aH false P N R ops (⟨none,.store t x y,ty,pos,af,none⟩::l) env H K:=by
 refine .nodup λg=>?_
 obtain⟨a,c,j⟩:=List.append_of_mem m
 obtain⟨d,e,rfl,o⟩:=r.h
 have n:(T.map (·.1)).Nodup:=by
  simp only[aaP,aaO,List.map_append,List.nodup_append]at g
  exact g.2.1.1
 subst j
 rw[CA n]at f
 have wr:Wr (d++(a++(b,.cells vs.toArray E (0,0))::c)::e) (.pointer (some ⟨b,off,none⟩)) vs off (λi=>upd (a++(b,.cells i.toArray E (0,0))::c)):=⟨b,E,d,e,a,c,rfl,rfl,λi=>o _⟩
 exact aH.nq p q (kX ho) rfl (wr:=wr) (by simpa using ho) k f
theorem aH.iR{d:Nat}{T E n:Nat}{z:Value}{xs:List (Nat×Operand)}(vs:List Value) [ut:bF P T (.slice E)] [sz:Sz P E 1] [j:Zr P E z]
  (f:∀b,aH false P N R ops l ((d,.slice (some ⟨b,0,none⟩) n n)::env) ([(b,.cells vs.toArray E (0,0))]::H) K)
  (i:hB env xs=some (idx 0 vs):=by rfl)(e:vs.length=n:=by rfl)(ho:∀v∈vs,Go.Proofs.YtgppncmdpcefhaaGreatDoor.aF v=true:=by simp[Go.Proofs.YtgppncmdpcefhaaGreatDoor.aF])(h:Nat.ble (n*1) (2^24)=true:=by rfl)(c:Nat.beq (n*1) 0=false:=by rfl)(g:(idx 0 vs).all (λp=>Nat.blt p.1 n)=true:=by rfl)(a:Nat.blt d N=true:=by rfl):
  aH false P N R ops (⟨some d,.buildSlice T n xs.toArray,ty,pos,af,none⟩::l) env H K:=
 aH.buildSlice (z:=z) (zs:=((Array.range (n*1)).map (z.cells[· % z.cells.size]!)).toList) (parts:=idx 0 vs) h c rfl i (Am e (by simp) ho) f a g
theorem Spec.kp{f:FuncId}{b:List Value}{Post:Value->aN->Prop}(is:List Nat)(h:Spec P f b (Rx R (rest is H)) (take is H) Post):Spec P f b R H λv H'=>∃H1,H'=H1++rest is H/\Post v H1:=λw a i=>by
 obtain⟨m,n,o⟩:=ig (is:=is) a
 refine(h w m (RO.split a i)).mono λe p ⟨v,H',c,g,j,d⟩=>?_
 obtain⟨k,l⟩:=je a j d
 exact⟨v,_,c,⟨H',rfl,g⟩,k,l⟩
theorem aV.p3{x:Operand}{i t:TypeId}{v:Value}{b:TypeDesc} [ut:bF P t b](e:(match b with| .interface _=>false|_=>true)=true:=by rfl)(f:ev env x=some (.iface t v):=by rfl):aV P R env H (.typeAssert x i t false) ty v:=λa w d k j g c _ _=>by
 cases b<;>first|(cases e;done)|simp[execOp,c.eval f,Instr.typeAssert,run_underlying ut.h]
theorem Spec.flat{f:FuncId}{a:List Value}{Post:Value->aN->Prop}(h:Spec P f a R H λv H'=>∃H1 T',H'=H1/\H1.flatten.Perm T'/\Post v [T']):Spec P f a R H Post:=λw l k=>
 (h w l k).mono λe n ⟨v,H',d,⟨H1,T',c,i,j⟩,m,g⟩=>by
  subst c
  have b:bJ H' [T']:=⟨[],by simpa using i⟩
  exact⟨v,[T'],d,j,b.sat m,g.trans (b.frame n)⟩
theorem aH.sub{H':aN}(e:bJ H H')(h:aH m P N R ops l env H' K):aH m P N R ops l env H K:=λc f b d a w s=>h c f b d a w (s.le (dI.refl env) e)
theorem bJ.cW{H H':aN}(h:H.flatten.Perm H'.flatten):bJ H H':=⟨[],by simpa using h⟩
theorem aH.bV{d t:Nat}{f:FuncId}{first captured:List Value} [e:aL P f]{xs:List Operand}{a:Array TypeId}{vs:List Value}{Post:Value->Prop}
  (i:Spec P f (first++vs++captured) (Rx R H) [] λv H'=>Post v/\H'=[])(g:∀v,Post v->aH false P N R ops l ((d,v)::env) H K)
  (j:Env.get? env t=some (.func (.func f) first.toArray captured.toArray):=by rfl)(hxs:eJ env xs=some vs:=by rfl)(c:Nat.blt d N=true:=by rfl):
  aH false P N R ops (⟨some d,.call ⟨.value (.tmp t),xs.toArray,a⟩,ty,pos,af,none⟩::l) env H K:=
 aH.qe [] (first:=first) (captured:=captured) j i (λv H' h=>by obtain⟨b,rfl⟩:=h;exact g v b) hxs c
theorem aH.jI{d:Nat}{x:Operand}{c b:Option Operand}{t e:TypeId}{sz:Nat}{α:Type}{enc:α->List Value}{v:Value}{xs:List α}(lo a:Nat)(h:RS R' sz enc v xs) [ut:bF P t (.slice e)] [s:Sz P e sz](i:fj env c 0 lo)(j:fj env b xs.length a)(k:lo<=a)(n:a<=xs.length)
  (p:∀v',RS R' sz enc v' ((xs.drop lo).take (a-lo))->aH m P N R ops l ((d,v')::env) H K)(r:ev env x=some v:=by rfl)(o:Nat.blt d N=true:=by rfl):
  aH m P N R ops (⟨some d,.slice t x c b none,ty,pos,af,none⟩::l) env H K:=by
 obtain⟨v',f,g⟩:=aV.jI (P:=P) (R:=R) (H:=H) (ty:=ty) (t:=t) lo a h i j k n r
 exact aH.q g (p v' f) o
end
end
section
section
variable{P:Program}{N:Nat}{R R':aC}{ops:Array Oper}{l:List Oper}{env:Env}{H:aN}{K:Env->aN->Prop}{Q:Exit->Env->aN->Prop}{T:ay}{upd:ay->aN}{ty:TypeId}{pos:String}{af:Array Edge}{m:Bool}
theorem aV.cast{op:Op}{v v':Value}(h:aV P R env H op ty v)(e:v=v'):aV P R env H op ty v':=e▸h
theorem RS.pb{α:Type}{sz:Nat}{enc:α->List Value}{v:Value}{xs:List α}(h:RS (sg T) sz enc v xs) [c:dt H T upd]:RS (Rx R H) sz enc v xs:=h.mono λb o a=>.inr (c.mem (b,o) a)
theorem RS.left{α:Type}{T1 T2:ay}{sz:Nat}{enc:α->List Value}{v:Value}{xs:List α}(h:RS (sg T1) sz enc v xs):RS (sg (T1++T2)) sz enc v xs:=h.mono λb o a=>abv _ a
theorem RS.right{α:Type}{T1 T2:ay}{sz:Nat}{enc:α->List Value}{v:Value}{xs:List α}(h:RS (sg T2) sz enc v xs):RS (sg (T1++T2)) sz enc v xs:=h.mono λb o a=>List.mem_append_right _ a
theorem OS.sg{α:Type}{E sz:Nat}{enc:α->List Value}{v:Value}{xs:List α}(h:OS E sz enc v xs T):RS (Go.Proofs.YtgppncmdpcefhaaGreatDoor.sg T) sz enc v xs:=h.rs λ_ a=>a
end
abbrev bl(b:Nat)(cs:List Value)(t:TypeId):ay:=[(b,.cells cs.toArray t (0,0))]
abbrev sZ:Value:=.slice none 0 0
abbrev pT(b:Nat):Value:=.pointer (some ⟨b,0,none⟩)
abbrev iN(n:Nat):Value:=.int .i64 (n:Int)
section
variable{P:Program}{N:Nat}{R:aC}{ops:Array Oper}{l:List Oper}{env:Env}{H Ho:aN}{Ms done:List Nat}{K:Env->aN->Prop}{m:Bool}{d:Nat}{ty:TypeId}{pos:String}{af:Array Edge}
theorem aH.ia{op:Op}{z:Int}(c:Nat)(h:aV P R env H op ty (.int .i64 (IntKind.i64.wrap z)))(b:aH m P N R ops l ((d,.int .i64 ((c:Nat):Int))::env) H K)(e:z=(c:Int)/\ -9223372036854775808<=(c:Int)/\(c:Int)<=9223372036854775807:=by(refine⟨?_,?_,?_⟩<;>omega))(a:Nat.blt d N=true:=by rfl):aH m P N R ops (⟨some d,op,ty,pos,af,none⟩::l) env H K:=.q (.i64 (c:Int) h e) b a
theorem RA.tK{op:Op}{v:Value}(i:Nat)(c:ops[i]? =some ⟨some d,op,ty,pos,af,none⟩)(f:aV P R env [] op ty v)(e:RA P N R ops Ho Ms (i::done) ((d,v)::env) H K)(a:tk false ops Ms done i=true:=by kernel_rfl)(b:Nat.blt d N=true:=by rfl):RA P N R ops Ho Ms done env H K:=.take i c f a e b
theorem RA.tO{op:Op}{v:Value}(i:Nat)(c:ops[i]? =some ⟨some d,op,ty,pos,af,none⟩)(f:aV P R env Ho op ty v)(e:RA P N R ops Ho Ms (i::done) ((d,v)::env) H K)(a:tk true ops Ms done i=true:=by kernel_rfl)(b:Nat.blt d N=true:=by rfl):RA P N R ops Ho Ms done env H K:=.cA i c f a e b
theorem RA.sT{o:Oper}(i:Nat)(a:ops[i]? =some o)(h:aH false P N R ops [o] env H (Next P N R ops Ho Ms done K i))(c:Region.ready .any ops (marked ops.size done)=[i]:=by kernel_rfl)(b:Nat.blt done.length ops.size=true:=by rfl):RA P N R ops Ho Ms done env H K:=.step i a c b h
theorem cf{Post:Value->aN->Prop}{t:Nat}{v:Value}(h:Env.get? env t=some v)(a:Post v []):lF P R [.tmp t] Post .ret env H:=bb v (.one (.tmp h)) (.none _) a
theorem Df:∀b o,R b o->Rx R H b o:=λ_ _ h=>.inl h
end
theorem cO{a b:Nat}(h:decide ((a:Int)<(b:Int))=true):a<b:=by have:=of_decide_eq_true h;omega
theorem C6{a b:Nat}(h:decide ((a:Int)<(b:Int))=false):b<=a:=by have:=of_decide_eq_false h;omega
theorem eo{α:Type}{l:List α}{i:Nat}(h:i<l.length):∃x,l[i]? =some x:=⟨_,aaH h⟩
theorem aE{α:Type}{l:List α}{i:Nat}(h:i<l.length):l[i]? =some l[i]:=aaH h
theorem aG{α:Type}{l:List α}{i:Nat}{a:α}(h:l[i]? =some a):a∈l:=aaQ h
theorem bp{p:Prop} [i:Decidable p](h:decide p=true):p:=of_decide_eq_true h
theorem bc{p:Prop} [i:Decidable p](h:decide p=false):¬p:=of_decide_eq_false h
theorem rH{H:aN}:bJ H H:=.refl _
theorem cw(is:List Nat){H:aN}:bJ H (take is H):=.pick is H
end
section
variable{α:Type}
inductive RP(a b:Nat):List α->List α->Prop
 |refl (xs:List α):RP a b xs xs
 |step {xs ys:List α} {i j:Nat}:RP a b xs ys->a<=i->i<b->a<=j->j<b->b<=ys.length->RP a b xs (bi ys i j)
section
variable{a b a' b':Nat}{xs ys zs:List α}
theorem RP.length(h:RP a b xs ys):ys.length=xs.length:=by
 induction h with
 |refl=>rfl
 |step _ _ _ _ _ _ ih=>rw[eh,ih]
theorem RP.perm(h:RP a b xs ys):ys.Perm xs:=by
 induction h with
 |refl=>exact .refl _
 |step _ _ _ _ _ _ ih=>exact lR.trans ih
theorem RP.out(h:RP a b xs ys){k:Nat}(c:k<a\/b<=k):ys[k]? =xs[k]? :=by
 induction h with
 |refl=>rfl
 |step _ h1 h2 h3 h4 h5 ih=>rw[cR (by omega) (by omega),aay (by omega),aay (by omega),ih]
theorem RP.all(h:RP a b xs ys){p:α->Prop}(f:∀(k:Nat) (x:α),a<=k->k<b->xs[k]? =some x->p x):∀(k:Nat) (x:α),a<=k->k<b->ys[k]? =some x->p x:=by
 induction h with
 |refl=>exact f
 |step _ h1 h2 h3 h4 h5 ih=>
  intro k x d e c
  rw[cR (by omega) (by omega)]at c
  split at c
  ·exact ih _ x h1 h2 c
  ·split at c
   ·exact ih _ x h3 h4 c
   ·exact ih k x d e c
theorem RP.trans(h:RP a b xs ys)(c:RP a b ys zs):RP a b xs zs:=by
 induction c with
 |refl=>exact h
 |step _ h1 h2 h3 h4 h5 ih=>exact .step ih h1 h2 h3 h4 h5
theorem RP.mono(h:RP a b xs ys)(c:a'<=a)(d:b<=b')(e:b'<=xs.length):RP a' b' xs ys:=by
 induction h with
 |refl=>exact .refl _
 |step h0 h1 h2 h3 h4 h5 ih=>exact .step ih (by omega) (by omega) (by omega) (by omega) (by rw[h0.length];omega)
theorem RP.one{i j:Nat}(c:a<=i)(d:i<b)(e:a<=j)(f:j<b)(g:b<=xs.length):RP a b xs (bi xs i j):=.step (.refl xs) c d e f g
end
section
variable{lt:α->α->Bool}{a b a0 b0 mid:Nat}{xs ys zs:List α}
def SR(lt:α->α->Bool)(xs:List α)(a b:Nat):Prop:=∀i j,a<=i->i<j->j<b->dR lt xs i j
def OX(lt:α->α->Bool)(xs:List α)(a0 b0 a b:Nat):Prop:=∀i j,a0<=i->i<j->j<b0->(i<a\/b<=j)->dR lt xs i j
theorem OX.start:OX lt xs a0 b0 a0 b0:=λi j a b c d=>by omega
theorem OX.cS(h:OX lt xs a0 b0 a b)(g:SR lt xs a b):SR lt xs a0 b0:=λi j d c e=>by
 by_cases f:i<a\/b<=j
 ·exact h i j d c e f
 ·exact g i j (by omega) c (by omega)
theorem OX.rp(h:OX lt xs a0 b0 a b)(c:RP a b xs ys)(r:a0<=a)(s:b<=b0):OX lt ys a0 b0 a b:=λi j f n g h4 x y d e=>by
 rcases h4 with h4|h4
 ·rw[c.out (.inl h4)]at d
  by_cases l:j<a\/b<=j
  ·rw[c.out l]at e
   exact h i j f n g (.inl h4) x y d e
  ·exact c.all (p:=λy=>lt y x=false) (λk z o q m=>h i k f (by omega) (by omega) (.inl h4) x z d m) j y (by omega) (by omega) e
 ·rw[c.out (.inr h4)]at e
  by_cases l:i<a\/b<=i
  ·rw[c.out l]at d
   exact h i j f n g (.inr h4) x y d e
  ·exact c.all (p:=λx=>lt y x=false) (λk z o q m=>h k j (by omega) (by omega) g (.inr h4) z y m e) i x (by omega) (by omega) d
structure Part(lt:α->α->Bool)(xs:List α)(a mid b:Nat)(p:α):Prop where
 lo:a<=mid
 hi:mid<b
 at_:xs[mid]? =some p
 left:∀(k:Nat) (x:α),a<=k->k<mid->xs[k]? =some x->lt x p=true
 right:∀(k:Nat) (x:α),mid<k->k<b->xs[k]? =some x->lt x p=false
theorem Part.BL{p:α}(h:Part lt xs a mid b p)(c:RP a mid xs ys):Part lt ys a mid b p:=
 ⟨h.lo,h.hi,by rw[c.out (.inr (aa1 _))];exact h.at_,c.all h.left,λk x d e f=>h.right k x d e (by rw[<-c.out (.inr (by omega))];exact f)⟩
theorem Part.BM{p:α}(h:Part lt xs a mid b p)(d:RP (mid+1) b xs ys):Part lt ys a mid b p:=
 ⟨h.lo,h.hi,by rw[d.out (.inl (by omega))];exact h.at_,λk x f c e=>h.left k x f c (by rw[<-d.out (.inl (by omega))];exact e),
  λk x f c e=>d.all (p:=λx=>lt x p=false) (λk x i g=>h.right k x (by omega) g) k x (by omega) c e⟩
theorem Part.pair(k:SO lt){p:α}(h:Part lt xs a mid b p){i j:Nat}(l:a<=i)(m:i<j)(e:j<b)(n:i<=mid)(o:mid<=j):dR lt xs i j:=λx y d c=>by
 rcases aaJ i mid with hi|hi
 ·have f:=h.left i x l hi d
  rcases aaJ mid j with hj|hj
  ·have g:=h.right j y hj e c
   cases hc:lt y x with
   |false=>rfl
   |true=>rw[k.tr _ _ _ hc f]at g;cases g
  ·have:j=mid:=by omega
   subst this
   rw[h.at_]at c;cases c
   exact k.fR f
 ·have:i=mid:=by omega
  subst this
  rw[h.at_]at d;cases d
  exact h.right j y (by omega) e c
theorem OX.left(s:SO lt){p:α}(h:OX lt xs a0 b0 a b)(d:Part lt xs a mid b p)(e:RP a mid xs ys)(r:SR lt ys a mid)(l:a0<=a)(m:b<=b0)(n:b<=xs.length):OX lt ys a0 b0 (mid+1) b:=λi j f c g t=>by
 have o:=h.rp (e.mono (aa1 a) (Nat.le_of_lt d.hi) n) l m
 have q:=d.BL e
 by_cases k:i<a\/b<=j
 ·exact o i j f c g k
 ·rcases aaJ j mid with hj|hj
  ·exact r i j (by omega) c hj
  ·exact q.pair s (by omega) c (by omega) (by omega) hj
theorem OX.right(s:SO lt){p:α}(h:OX lt xs a0 b0 a b)(d:Part lt xs a mid b p)(e:RP (mid+1) b xs ys)(r:SR lt ys (mid+1) b)(l:a0<=a)(m:b<=b0)(n:b<=xs.length):OX lt ys a0 b0 a mid:=λi j f c g t=>by
 have u:=d.lo
 have o:=h.rp (e.mono (by omega) (aa1 b) n) l m
 have q:=d.BM e
 by_cases k:i<a\/b<=j
 ·exact o i j f c g k
 ·rcases aaJ mid i with hi|hi
  ·exact r i j (by omega) c (by omega)
  ·exact q.pair s (by omega) c (by omega) hi (by omega)
structure iM(lt:α->α->Bool)(xs:List α)(a mid b:Nat)(p:α):Prop where
 lo:a<mid
 hi:mid<=b
 left:∀(k:Nat) (x:α),a<=k->k<mid->xs[k]? =some x->lt x p=false/\lt p x=false
 right:∀(k:Nat) (x:α),mid<=k->k<b->xs[k]? =some x->lt p x=true
theorem OX.eqs(g:SO lt){p:α}(h:OX lt xs a0 b0 a b)(e:iM lt xs a mid b p):OX lt xs a0 b0 mid b:=λi j k l m s=>by
 by_cases n:i<a\/b<=j
 ·exact h i j k l m n
 ·intro x y o f
  obtain⟨q,c⟩:=e.left i x (by omega) (by omega) o
  rcases aaJ j mid with hj|hj
  ·obtain⟨d,r⟩:=e.left j y (by omega) hj f
   exact g.dD _ _ _ d c
  ·have d:=e.right j y hj (by omega) f
   cases hc:lt y x with
   |false=>rfl
   |true=>rw[g.tr _ _ _ d hc]at c;cases c
def eP(lt:α->α->Bool)(xs:List α)(a j n:Nat):Prop:=∀i k,a<=i->i<k->k<n->k≠j->dR lt xs i k
theorem SR.ins(h:SR lt xs a b):eP lt xs a b (b+1):=λi k c d e f=>h i k c d (by omega)
theorem eP.done(o:SO lt){j n:Nat}(h:eP lt xs a j n)(r:n<=xs.length)(q:j<n)(he:j=a\/a<j/\dR lt xs (j-1) j):SR lt xs a n:=λi k b e f=>by
 by_cases c:k=j
 ·subst c
  rcases he with he|⟨p,he⟩
  ·omega
  ·by_cases g:i=k-1
   ·subst g;exact he
   ·intro x y l m
    have d:xs[k-1]? =some (xs[k-1]'(by omega)):=aE _
    exact o.dD _ _ _ (he _ y d m) (h i (k-1) b (by omega) (by omega) (by omega) x _ l d)
 ·exact h i k b e f c
theorem eP.step(t:SO lt){j n:Nat}(h:eP lt xs a j n)(A:n<=xs.length)(z:j<n)(w:a<j){x y:α}(r:xs[j]? =some x)(s:xs[j-1]? =some y)(q:lt x y=true):eP lt (bi xs j (j-1)) a (j-1) n:=λi k f p d e=>by
 have g:=λk=>cR (L:=xs) (i:=j) (k:=j-1) (by omega) (by omega) k
 by_cases b:k=j
 ·subst b
  by_cases c:i=k-1
  ·subst c
   intro u v m o
   rw[g,aaz rfl,r]at m
   rw[g,aay (by omega),aaz rfl,s]at o
   cases m;cases o
   exact t.fR q
  ·refine(h i (k-1) f (by omega) (by omega) (by omega)).eL ?_ ?_
   ·rw[g,aay c,aay (by omega)]
   ·rw[g,aay (by omega),aaz rfl]
 ·by_cases c:i=j
  ·subst c
   refine(h (i-1) k (by omega) (by omega) d b).eL ?_ ?_
   ·rw[g,aay (by omega),aaz rfl]
   ·rw[g,aay e,aay b]
  ·by_cases l:i=j-1
   ·subst l
    refine(h j k (by omega) (by omega) d b).eL ?_ ?_
    ·rw[g,aaz rfl]
    ·rw[g,aay e,aay b]
   ·refine(h i k f p d b).eL ?_ ?_
    ·rw[g,aay l,aay c]
    ·rw[g,aay e,aay b]
end
end
section
variable{α:Type}
def bR(P:Program)(f:FuncId)(caps:List Value)(R:aC)(pk:α->Value)(c:α->α->Int)(ok:α->Prop):Prop:=
 ∀x y,ok x->ok y->∀R',(∀b o,R b o->R' b o)->Spec P f ([pk x,pk y]++caps) R' [] λv H'=>v=.int .i64 (c x y)/\H'=[]
theorem bR.mono{P:Program}{f:FuncId}{caps:List Value}{R R':aC}{a:α->Value}{c:α->α->Int}{ok:α->Prop}(h:bR P f caps R a c ok)(i:∀b o,R b o->R' b o):bR P f caps R' a c ok:=λx y j k d e=>h x y j k d λb o g=>e b o (i b o g)
def ap(c:α->α->Int)(x y:α):Bool:=decide (c x y<0)
def dz(lt:α->α->Bool)(L:List α)(n lo:Nat):Prop:=∀k,0<k->k<n->lo<=aX k->dR lt L (aX k) k
structure eb(lt:α->α->Bool)(L:List α)(n lo i:Nat):Prop where
 e:∀k,0<k->k<n->k≠i->aX k≠i->lo<=aX k->dR lt L (aX k) k
 b:∀k,0<k->k<n->aX k=i->0<i->lo<=aX i->dR lt L (aX i) k
 u:0<i->lo<=aX i->dR lt L (aX i) i
section
variable{lt:α->α->Bool}{L:List α}{n i j lo:Nat}
theorem eb.step(E:SO lt)(h:eb lt L n lo i)(G:lo<=i)(t:0<j)(A:j<n)(H:n<=L.length)(q:aX j=i){x y:α}(w:L[j]? =some x)(D:L[i]? =some y)(B:lt x y=true)
  (C:∀c z,0<c->c<n->aX c=i->L[c]? =some z->lt z x=false):eb lt (bi L i j) n lo j:=by
 have F:i<j:=q▸dO t
 have g:=λk=>cR (L:=L) (i:=i) (k:=j) (by omega) (by omega) k
 refine⟨λk a p f s r=>?_,λk a p s _ r=>?_,λ_ _=>?_⟩
 ·by_cases d:k=i
  ·subst d
   have I:=dO a
   refine(h.b j t A q a r).eL ?_ ?_
   ·rw[g,aay (by omega),aay (by omega)]
   ·rw[g,aay f,aaz rfl]
  ·by_cases o:aX k=i
   ·intro u v l m
    rw[o,g,aay (by omega),aaz rfl,w]at l
    rw[g,aay f,aay d]at m
    cases l
    exact C k v a p o m
   ·refine(h.e k a p d o r).eL ?_ ?_
    ·rw[g,aay s,aay o]
    ·rw[g,aay f,aay d]
 ·have f:k≠j:=by have:=dO a;omega
  have d:k≠i:=by have:=dO a;omega
  refine(h.e k a p d (by omega) (by omega)).eL ?_ ?_
  ·rw[q,s,g,aay (by omega),aaz rfl]
  ·rw[g,aay f,aay d]
 ·intro u v l m
  rw[q,g,aay (by omega),aaz rfl,w]at l
  rw[g,aaz rfl,D]at m
  cases l;cases m
  exact E.fR B
theorem eb.stop(h:eb lt L n lo i)(j:∀c,0<c->c<n->aX c=i->dR lt L i c):dz lt L n lo:=λk b d g=>by
 by_cases a:aX k=i
 ·rw[a];exact j k b d a
 ·by_cases f:k=i
  ·subst f;exact h.u b g
  ·exact h.e k b d f a g
theorem dz.hole(h:dz lt L n (lo+1)):eb lt L n lo lo:=
 ⟨λk c b _ f e=>h k c b (by omega),λk _ _ _ a d=>by have:=dO a;omega,λa d=>by have:=dO a;omega⟩
theorem dz.kg(h:dz lt L (n+1) 0){b:List α}(c:∀k,0<k->k<n->b[k]? =L[k]?):eb lt b n 0 0:=
 ⟨λk a e _ f _=>by
  have:=dO a
  exact(h k a (by omega) (Nat.zero_le _)).eL (c _ (by omega) (by omega)) (c _ a e),λk _ _ _ d _=>by omega,λd _=>by omega⟩
theorem dz.top(c:SO lt)(h:dz lt L n 0)(i:n<=L.length){x:α}(g:L[0]? =some x):∀(k:Nat) (y:α),k<n->L[k]? =some y->lt y x=false:=by
 intro k
 induction k using Nat.strongRecOn with
 |_ k ih=>
  intro y e a
  by_cases d:k=0
  ·subst d;rw[g]at a;cases a;exact c.cG _
  ·have f:=dO (k:=k) (by omega)
   have b:L[aX k]? =some (L[aX k]'(by omega)):=aE _
   exact c.dD _ _ _ (h k (by omega) e (Nat.zero_le _) _ y b a) (ih (aX k) f _ (by omega) b)
theorem SO.rev(c:SO lt):SO (λx y=>lt y x):=⟨c.cG,λx y z a b=>c.tr _ _ _ b a,λx y z a b=>c.dD _ _ _ b a⟩
theorem cP(xs:List α)(f k:Nat):(xs.drop f)[k]? =xs[f+k]? :=by rw[abn]
theorem gE{xs:List α}{f i j:Nat}(c:f+i<xs.length)(d:f+j<xs.length):(bi xs (f+i) (f+j)).drop f=bi (xs.drop f) i j:=by
 apply List.ext_getElem?
 intro k
 rw[cP,cR c d,cR (by rw[List.length_drop];omega) (by rw[List.length_drop];omega),cP,cP,cP]
 by_cases a:k=j
 ·subst a;simp
 ·by_cases b:k=i
  ·subst b;simp[a]
  ·rw[aay (by omega),aay (by omega),aay a,aay b]
theorem OX.last{xs:List α}{a b m:Nat}{x:α}(h:OX lt xs a b a (m+1))(l:a<=m)(q:m+1<=b)(A:b<=xs.length)(t:xs[a]? =some x)(r:∀(k:Nat) (y:α),a<=k->k<=m->xs[k]? =some y->lt x y=false):OX lt (bi xs a m) a b a m:=λi j c f g z=>by
 have d:RP a (m+1) xs (bi xs a m):=RP.one (aa1 _) (by omega) l (by omega) (by omega)
 by_cases n:m+1<=j
 ·exact h.rp d (aa1 _) q i j c f g (.inr n)
 ·have:j=m:=by omega
  subst this
  intro u w s e
  rw[cR (by omega) (by omega),aaz rfl,t]at e
  cases e
  exact d.all (p:=λy=>lt x y=false) (λk y o B v=>r k y o (by omega) v) i u c (by omega) s
end
end
section
section
variable{P:Program}{R:aC}{env:Env}{H:aN}{ty:TypeId}{x y:Operand}{t u:TypeId}{k k2:IntKind}{m n:Int}
theorem aV.jQ(c:ev env x=some (.int k m):=by rfl)(e:ev env y=some (.int k n):=by rfl):aV P R env H (.binOp .and t x y u) ty (.int k (k.wrap (BitVec.ofInt k.bits m&&&BitVec.ofInt k.bits n).toNat)):=λa w d h f g b _ _=>by
 simp[execOp,b.eval c,b.eval e,eqGuard,binOp,Op.intBits]
theorem aV.dE(c:ev env x=some (.int k m):=by rfl)(e:ev env y=some (.int k n):=by rfl):aV P R env H (.binOp .or t x y u) ty (.int k (k.wrap (BitVec.ofInt k.bits m|||BitVec.ofInt k.bits n).toNat)):=λa w d h f g b _ _=>by
 simp[execOp,b.eval c,b.eval e,eqGuard,binOp,Op.intBits]
theorem aV.nx(c:ev env x=some (.int k m):=by rfl)(e:ev env y=some (.int k n):=by rfl):aV P R env H (.binOp .xor t x y u) ty (.int k (k.wrap (BitVec.ofInt k.bits m^^^BitVec.ofInt k.bits n).toNat)):=λa w d h f g b _ _=>by
 simp[execOp,b.eval c,b.eval e,eqGuard,binOp,Op.intBits]
theorem aV.lP(c:ev env x=some (.int k m):=by rfl)(e:ev env y=some (.int k2 n):=by rfl)(i:0<=n:=by first|decide|omega):aV P R env H (.binOp .shl t x y u) ty (.int k (k.wrap (m*2^(min n.toNat k.bits)))):=λa w d j f g b _ _=>by
 have h:¬n<0:=by omega
 simp[execOp,b.eval c,b.eval e,eqGuard,binOp,Op.shift,h]
theorem aV.ph(c:ev env x=some (.int k m):=by rfl)(e:ev env y=some (.int k2 n):=by rfl)(i:0<=n:=by first|decide|omega):aV P R env H (.binOp .shr t x y u) ty (.int k (m.fdiv (2^(min n.toNat k.bits)))):=λa w d j f g b _ _=>by
 have h:¬n<0:=by omega
 simp[execOp,b.eval c,b.eval e,eqGuard,binOp,Op.shift,h]
end
theorem fN{z:Int}(a:0<=z)(b:z<18446744073709551616):IntKind.u64.wrap z=z:=by
 have:IntKind.u64.wrap z=z % 18446744073709551616:=by simp[IntKind.wrap,IntKind.bits,IntKind.signed]
 rw[this];omega
theorem kP{z:Int}(a: -9223372036854775808<=z)(b:z<=9223372036854775807):IntKind.i64.wrap z=z:=IntWalk.i64_in _ (by omega)
theorem jR{z q:Int}(a:0<=q)(b:q<18446744073709551616):0<=IntKind.u64.wrap (BitVec.ofInt IntKind.u64.bits z&&&BitVec.ofInt IntKind.u64.bits q).toNat/\IntKind.u64.wrap (BitVec.ofInt IntKind.u64.bits z&&&BitVec.ofInt IntKind.u64.bits q).toNat<=q:=by
 have e:(BitVec.ofInt IntKind.u64.bits q).toNat=q.toNat:=by
  simp[IntKind.bits,BitVec.toNat_ofInt];omega
 have c:(BitVec.ofInt IntKind.u64.bits z&&&BitVec.ofInt IntKind.u64.bits q).toNat<=q.toNat:=by
  rw[BitVec.toNat_and, <-e];exact Nat.and_le_right
 rw[fN (by omega) (by omega)]
 omega
end
section
variable{α:Type}{lt:α->α->Bool}{a b i j:Nat}{xs ys:List α}
def LB(lt:α->α->Bool)(xs:List α)(a b:Nat):Prop:=0<a->∀k,a<=k->k<b->dR lt xs (a-1) k
theorem LB.rp(h:LB lt xs a b)(d:RP a b xs ys):LB lt ys a b:=λf k g i x y e c=>by
 rw[d.out (.inl (by omega))]at e
 exact d.all (p:=λy=>lt y x=false) (λk y j l c=>h f k j l x y e c) k y g i c
theorem SR.snoc(d:SO lt)(h:SR lt xs a i)(c:a<i)(e:i<xs.length)(b:dR lt xs (i-1) i):SR lt xs a (i+1):=h.ins.done d (by omega) (by omega) (.inr ⟨c,b⟩)
theorem SR.kK{p q:Nat}(h:SR lt xs a i)(g:i<=p)(j:i<=q)(b:p<xs.length)(c:q<xs.length):SR lt (bi xs p q) a i:=λu w d e f=>
 (h u w d e f).eL (by rw[cR b c,aay (by omega),aay (by omega)]) (by rw[cR b c,aay (by omega),aay (by omega)])
theorem SR.kJ(h:SR lt xs a i)(b:i<xs.length):eP lt (bi xs i (i-1)) a (i-1) i:=λu w c d e f=>
 (h u w c d e).eL (by rw[cR b (by omega),aay (by omega),aay (by omega)]) (by rw[cR b (by omega),aay (by omega),aay (by omega)])
theorem OX.lb{c d:Nat}(h:OX lt xs c d a b)(i:LB lt xs c d)(l:c<=a)(m:b<=d):LB lt xs a b:=λe k f j=>by
 by_cases g:a=c
 ·subst g;exact i e k f (by omega)
 ·exact h (a-1) k (by omega) (by omega) (by omega) (.inl (by omega))
end
section
section
variable{α:Type}{lt:α->α->Bool}{q:α->Bool}{ys:List α}{a b i j:Nat}{p:α}
structure PQ(q:α->Bool)(ys:List α)(a i j b:Nat)(p:α):Prop where
 i0:a<i
 ij:i<=j+1
 jb:j<b
 at_:ys[a]? =some p
 left:∀(k:Nat) (x:α),a<k->k<i->ys[k]? =some x->q x=true
 right:∀(k:Nat) (x:α),j<k->k<b->ys[k]? =some x->q x=false
theorem PQ.start(e:a<b)(h:ys[a]? =some p):PQ q ys a (a+1) (b-1) b p:=
 ⟨Nat.lt_succ_self _,by omega,by omega,h,λk x c d=>by omega,λk x c d=>by omega⟩
theorem PQ.inc(h:PQ q ys a i j b p)(l:i<=j){x:α}(f:ys[i]? =some x)(e:q x=true):PQ q ys a (i+1) j b p:=
 ⟨by have:=h.i0;omega,by omega,h.jb,h.at_,λk y d g c=>by
  rcases aaJ k i with hk|hk
  ·exact h.left k y d hk c
  ·have:k=i:=by omega
   subst this
   rw[f]at c;cases c;exact e,h.right⟩
theorem PQ.dec(h:PQ q ys a i j b p)(l:i<=j){x:α}(f:ys[j]? =some x)(e:q x=false):PQ q ys a i (j-1) b p:=
 ⟨h.i0,by have:=h.i0;omega,by have:=h.jb;omega,h.at_,h.left,λk y g d c=>by
  rcases aaJ j k with hk|hk
  ·exact h.right k y hk d c
  ·have:k=j:=by omega
   subst this
   rw[f]at c;cases c;exact e⟩
theorem PQ.sw(h:PQ q ys a i j b p)(s:i<=j)(t:b<=ys.length){x y:α}(r:ys[i]? =some x)(l:ys[j]? =some y)(o:q x=false)(f:q y=true):i<j/\PQ q (bi ys i j) a (i+1) (j-1) b p:=by
 have v:=h.i0
 have w:=h.jb
 have u:i≠j:=λe=>by
  subst e
  rw[r]at l;cases l
  rw[o]at f;cases f
 have g:=λk=>cR (L:=ys) (i:=i) (k:=j) (by omega) (by omega) k
 refine⟨by omega,by omega,by omega,by omega,?_,λk z m n c=>?_,λk z m n c=>?_⟩
 ·rw[g,aay (by omega),aay (by omega)];exact h.at_
 ·rw[g,aay (by omega)]at c
  by_cases d:k=i
  ·rw[aaz d,l]at c;cases c;exact f
  ·rw[aay d]at c;exact h.left k z m (by omega) c
 ·rw[g]at c
  by_cases d:k=j
  ·rw[aaz d,r]at c;cases c;exact o
  ·rw[aay d,aay (by omega)]at c;exact h.right k z (by omega) n c
theorem PQ.fin(h:PQ (λx=>lt x p) ys a i j b p)(m:j<i)(n:b<=ys.length):Part lt (bi ys j a) a j b p:=by
 have o:=h.i0
 have q:=h.ij
 have l:=h.jb
 have g:=λk=>cR (L:=ys) (i:=j) (k:=a) (by omega) (by omega) k
 refine⟨by omega,l,?_,λk z e f c=>?_,λk z e f c=>?_⟩
 ·rw[g]
  by_cases d:j=a
  ·rw[aaz d,d];exact h.at_
  ·rw[aay d,aaz rfl];exact h.at_
 ·rw[g]at c
  by_cases d:k=a
  ·rw[aaz d]at c
   exact h.left j z (by omega) (by omega) c
  ·rw[aay d,aay (by omega)]at c
   exact h.left k z (by omega) (by omega) c
 ·rw[g,aay (by omega),aay (by omega)]at c
  exact h.right k z e f c
theorem PQ.kd(m:SO lt)(h:PQ (λx=> !lt p x) ys a i j b p)(n:j<i)(g:∀(k:Nat) (x:α),a<=k->k<b->ys[k]? =some x->lt x p=false):iM lt ys a i b p:=by
 have l:=h.i0
 have o:=h.ij
 have q:=h.jb
 refine⟨l,by omega,λk z e d c=>⟨g k z e (by omega) c,?_⟩,λk z e d c=>?_⟩
 ·by_cases f:k=a
  ·subst f
   rw[h.at_]at c;cases c;exact m.cG _
  ·simpa using h.left k z (by omega) d c
 ·simpa using h.right k z (by omega) d c
theorem Part.lb(h:Part lt ys a j b p):LB lt ys (j+1) b:=λ_ k d e x y c f=>by
 rw[Nat.add_sub_cancel,h.at_]at c
 cases c
 exact h.right k y d e f
theorem LB.less(h:LB lt ys a b){c:Nat}(g:c<=b):LB lt ys a c:=λd k e f=>h d k e (by omega)
theorem LB.kr(j:SO lt)(h:LB lt ys a b)(c:0<a){x:α}(g:ys[a-1]? =some x)(f:lt x p=false):∀(k:Nat) (y:α),a<=k->k<b->ys[k]? =some y->lt y p=false:=λk y d e i=>
 j.dD _ _ _ (h c k d e x y g i) f
end
end
section
variable{κ β:Type} [DecidableEq κ]
def jN(Rd:aC)(encK:κ->Value)(encV:β->Value)(m:Value)(M:List (κ×β))(it:Value)(todo:List κ)(k:κ)(u:β)(Ti:ay):Prop:=
 ∃(b:Nat) (es:Array MapEntry) (clock r:Nat) (seen:Array Nat) (e:MapEntry),m=.map (some b)/\Rd b (.map es clock)/\fX encK encV es clock M/\it=pT r/\Ti=[(r,.mapIter (some b) clock (seen.push e.born) clock)]/\e∈es.toList/\e.key=encK k/\e.val=encV u/\
  todo=((es.toList.zip M).filter λp=> !(seen.push e.born).contains p.1.born).map (·.2.1)
omit [DecidableEq κ] in
theorem jN.it{a:aC}{encK:κ->Value}{d:β->Value}{m:Value}{M:List (κ×β)}{it:Value}{todo:List κ}{k:κ}{u:β}{c:ay}(h:jN a encK d m M it todo k u c):It a encK d m M it todo c:=by
 obtain⟨b,g,f,r,q,e,i,j,l,n,o,s,t,v,p⟩:=h
 exact⟨b,g,f,r,q.push e.born,i,j,l,n,o,p⟩
theorem n1(e:MapEntry):∀(l:List MapEntry),(l.map (·.born)).Nodup->e∈l->l.find? (·.born==e.born)=some e
 |[],_,h=>by cases h
 |x::l,hn,h=>by
  have a:=aa0.1 hn
  rcases aaG.1 h with rfl|h
  ·simp
  ·have:x.born≠e.born:=λb=>a.1 (aaR.2 ⟨e,h,b.symm⟩)
   simp[this,n1 e l a.2 h]
section
variable{P:Program}{N:Nat}{R:aC}{ops:Array Oper}{l:List Oper}{env:Env}{H:aN}{K:Env->aN->Prop}{ty:TypeId}{pos:String}{af:Array Edge}{m:Bool}
variable{encK:κ->Value}{encV:β->Value}{mp:Value}{M:List (κ×β)}{T:ay}{upd:ay->aN}
theorem aH.AY{d:Nat}{x:Operand}{Rd:aC}{it:Value}{todo:List κ}{Ti:ay}(h:It Rd encK encV mp M it todo Ti) [sa:dt H Ti upd](hrd:∀b o,Rd b o->Rx R H b o)(hx:ev env x=some it)
  (h0:todo=[]->aH false P N R ops l ((d,.tuple [.bool false].toArray)::env) H K)
  (hn:∀k u Ti',k∈todo->da k M=some u->jN Rd encK encV mp M it (todo.filter λk'=>decide (k'≠k)) k u Ti'->aH false P N R ops l ((d,.tuple [.bool true,encK k,encV u].toArray)::env) (upd Ti') K)(hd:Nat.blt d N=true:=by rfl):
  aH false P N R ops (⟨some d,.next x false,ty,pos,af,none⟩::l) env H K:=
 aH.jk hd λa w ha s ro=>by
  obtain⟨b,es,clock,r,seen,rfl,h2,h3,rfl,rfl,h6⟩:=h
  obtain⟨H1,H2,e1,e2⟩:=sa.h
  have hb:=kB s ro _ _ (hrd _ _ h2)
  subst e1
  have hr:w.heap[r]? =some (.mapIter (some b) clock seen clock):=s.2 (r,_) (by simp)
  have hgi:(getObj r).run P w=.ok (.mapIter (some b) clock seen clock) w:=by simp[getObj,Sem.run,hr]
  have hl:=h3.gh.length
  have hbo:=h3.born
  -- what may come
  have hleft:es.filter (λe=> !seen.contains e.born)=((es.toList.filter λe=> !seen.contains e.born)).toArray:=by
   apply Array.toList_inj.1;rw[Array.toList_filter]
  have htodo:(es.toList.filter λe=> !seen.contains e.born).length=todo.length:=by
   rw[h6,aa7]
   have:((es.toList.zip M).filter λp=> !seen.contains p.1.born).length=(((es.toList.zip M).map (·.1)).filter λe=> !seen.contains e.born).length:=by
    rw[List.filter_map,aa7];rfl
   rw[this,List.map_fst_zip (by omega)]
  have hguard:(!seen.isEmpty&& !es.isEmpty&&es.all (λe=>decide (e.born≥clock)))=false:=by
   cases hes:es.toList with
   |nil=>
    have:es= #[]:=by simpa using hes
    simp[this]
   |cons e rest=>
    have h1:=hbo e (by rw[hes];simp)
    have:es.all (λe=>decide (e.born≥clock))=false:=by
     rw[<-Array.all_toList,hes]
     simp;omega
    rw[this,Bool.and_false]
  have hold:(es.filter λe=> !seen.contains e.born).filter (λe=>decide (e.born<clock))=es.filter λe=> !seen.contains e.born:=by
   rw[Array.filter_eq_self]
   intro e he
   have:=hbo e (by simpa using(abg.1 he).1)
   simpa using this
  have hnew:(es.filter λe=> !seen.contains e.born).filter (λe=>decide (e.born≥clock))= #[]:=by
   rw[Array.filter_eq_empty_iff]
   intro e he
   have:=hbo e (by simpa using(abg.1 he).1)
   simpa using this
  by_cases ht:todo=[]
  ·refine⟨.tuple #[.bool false],w,_,?_,Frame.refl _ _,s,h0 ht⟩
   have he:es.filter (λe=> !seen.contains e.born)= #[]:=by
    rw[hleft]
    have:(es.toList.filter λe=> !seen.contains e.born)=[]:=aa5 (by rw[htodo,ht];rfl)
    rw[this]
   have hc:(choose (.mapNext 1)).run P w=.ok 0 w:=by simp[choose,Sem.run,Question.forced]
   simp only[execOp,ha.eval hx,Instr.next,Sem.run_bind,hgi,jd hb,Result.andThen_ok,hguard,aaC,aaB,he]
   simp[hc]
  ·have hne:(es.filter λe=> !seen.contains e.born).isEmpty=false:=by
    rw[hleft]
    cases hf:(es.toList.filter λe=> !seen.contains e.born)with
    |nil=>rw[hf]at htodo;exact absurd (aa5 htodo.symm) ht
    |cons _ _=>rfl
   have hpos:0<todo.length:=List.length_pos_iff.2 ht
   have hsz:(es.filter λe=> !seen.contains e.born).size=todo.length:=by rw[hleft];simpa using htodo
   obtain⟨n,w1,hc,hlt,hw1⟩:∃n w1,(choose (.mapNext todo.length)).run P w=.ok n w1/\n<todo.length/\∃q,w1={w with drawn:=q}:=by
    by_cases h1:todo.length<=1
    ·exact⟨0,w,by simp[choose,Sem.run,Question.forced,h1],hpos,w.drawn,rfl⟩
    ·exact⟨_,_,by simp only[choose,Sem.run,Question.forced,h1,aaS,aaC,aaB];rfl,by simp only[Question.cut];exact Nat.mod_lt _ hpos,_,rfl⟩
   obtain⟨q,rfl⟩:=hw1
   have hn':n<(es.toList.filter λe=> !seen.contains e.born).length:=by rw[htodo];exact hlt
   generalize he:(es.toList.filter λe=> !seen.contains e.born)[n]=e
   have hem:e∈es.toList.filter λe=> !seen.contains e.born:=he▸abh hn'
   obtain⟨hes,hns⟩:=aa9.1 hem
   obtain⟨j,hj,hje⟩:=aaU.1 hes
   have hjM:j<M.length:=by omega
   have hpair:(e.key,e.val)=(encK M[j].1,encV M[j].2):=by
    have:=aaI (λl:List (Value×Value)=>l[j]?) h3.gh
    simp only[aaV,aE hj,aE hjM,aa8,abf,hje]at this
    exact this
   injection hpair with hp1 hp2
   have hzip:(e,M[j])∈es.toList.zip M:=by
    refine aaU.2 ⟨j,by rw[abi];omega,?_⟩
    simp only[abj,hje]
   have hkt:M[j].1∈todo:=by
    rw[h6]
    exact aaR.2 ⟨(e,M[j]),aa9.2 ⟨hzip,hns⟩,rfl⟩
   have hget:da M[j].1 M=some M[j].2:=gj h3.nd (abh hjM)
   have hrun:(execOp a.eval ⟨some d,.next x false,ty,pos,af,none⟩).run P w=.ok (.value (.tuple #[.bool true,e.key,e.val])) (cX {w with drawn:=q} r (.mapIter (some b) clock (seen.push e.born) clock)):=by
    have hcand:∀(A:Array MapEntry),A.isEmpty=false->(if A.isEmpty=true then #[none]else #[])++(A++ #[]).map some=A.map some:=λA hA=>by simp[hA]
    have hget2:((es.filter λe=> !seen.contains e.born).map some)[n]? =some (some e):=by
     rw[hleft]
     simp only[List.map_toArray,aaE,aaV,aE hn',he,aa8]
    have hset:(setObj r (.mapIter (some b) clock (seen.push e.born) clock)).run P {w with drawn:=q}=.ok () (cX {w with drawn:=q} r (.mapIter (some b) clock (seen.push e.born) clock)):=by
     have:({w with drawn:=q}:World).heap[r]? =some (.mapIter (some b) clock seen clock):=hr
     simp[setObj,Sem.run,this,cX]
    simp only[execOp,ha.eval hx,Instr.next,Sem.run_bind,hgi,jd hb,Result.andThen_ok,hguard,aaC,aaB,hold,hnew]
    rw[hcand _ hne]
    simp only[Array.size_map,hsz,hc,Result.andThen_ok,hget2,Sem.run_bind,hset,Sem.run_pure]
   obtain⟨f,s'⟩:=nk (w:={w with drawn:=q}) (o':=.mapIter (some b) clock (seen.push e.born) clock) (s.drew q)
   refine⟨_,_,upd [(r,.mapIter (some b) clock (seen.push e.born) clock)],hrun,by rw[e2];exact(Frame.drew w _ q).trans f,by rw[e2];exact s',?_⟩
   rw[hp1,hp2]
   refine hn M[j].1 M[j].2 _ hkt hget ⟨b,es,clock,r,seen,e,rfl,h2,h3,rfl,rfl,hes,hp1,hp2,?_⟩
   rw[h6]
   -- the one that came is no more to come, all others are
   have key:∀(l:List (MapEntry×(κ×β))),(∀p∈l,(p.1.born=e.born↔p.2.1=M[j].1))->
     ((l.filter λp=> !seen.contains p.1.born).map (·.2.1)).filter (λk'=>decide (k'≠M[j].1))=(l.filter λp=> !(seen.push e.born).contains p.1.born).map (·.2.1):=by
    intro l
    induction l with
    |nil=>intro _;rfl
    |cons p l ih=>
     intro hp
     have h1:=hp p (by simp)
     have h2:=ih λq hq=>hp q (by simp[hq])
     simp only[abk]at h2
     simp only[aaM,abk]
     by_cases hc:seen.contains p.1.born=true
     ·simp only[hc,aba,aaC,aaB,Bool.true_or];exact h2
     ·simp only[Bool.not_eq_true]at hc
      simp only[hc,aaX,aaF,Bool.false_or,aaA,aaM]
      by_cases hb:p.1.born=e.born
      ·have:=h1.1 hb
       simp only[this,ne_eq,not_true,aaS,aaC,aaB,hb,abq,aba];simpa only[ne_eq]using h2
      ·have hk:¬p.2.1=M[j].1:=λhk=>hb (h1.2 hk)
       have hb':(p.1.born==e.born)=false:=by simpa using hb
       simp only[hk,ne_eq,abt,decide_true,aaF,hb',aaX,aaA]
       exact aaI _ (by simpa only[ne_eq]using h2)
   refine key _ λp hp=>?_
   obtain⟨i,hi,hpi⟩:=aaU.1 hp
   have hi':i<es.toList.length:=by simp only[abi]at hi;omega
   have hiM:i<M.length:=by omega
   rw[abj]at hpi
   subst hpi
   simp only
   constructor
   ·intro hb
    have:i=j:=(abl (h:=h3.bQ) (i:=i) (j:=j) (h₀:=by simpa using hi') (h₁:=by simpa using hj)).1 (by rw[aaN,aaN,hb,hje])
    subst this;rfl
   ·intro hk
    have:i=j:=(abl (h:=h3.nd) (i:=i) (j:=j) (h₀:=by simpa using hiM) (h₁:=by simpa using hjM)).1 (by rw[aaN,aaN];exact hk)
    subst this;rw[hje]
omit [DecidableEq κ] in
theorem aV.entry{x:Operand}{c:aC}{l:Value}{todo:List κ}{k:κ}{u:β}{f:ay}(h:jN c encK encV mp M l todo k u f) [F:dt H f upd](C:∀b o,c b o->Rx R H b o)(D:ev env x=some l):
  aV P R env H (.entry x) ty (.tuple [encK k,encV u].toArray):=λa w d O K g y s E=>by
 obtain⟨b,j,i,r,G,e,rfl,n,p,rfl,rfl,q,t,v,N⟩:=h
 obtain⟨I,J,m,L⟩:=F.h
 have z:=kB s E _ _ (C _ _ n)
 subst m
 have B:w.heap[r]? =some (.mapIter (some b) i (G.push e.born) i):=s.2 (r,_) (by simp)
 have A:j.find? (·.born==e.born)=some e:=by rw[<-Array.find?_toList];exact n1 e j.toList p.bQ q
 rw[<-t, <-v]
 simp only[execOp,y.eval D,Instr.entry,getObj,Sem.run_bind,Sem.run,B,z,Result.andThen,Array.back?_push,bne_self_eq_false,aaC,aaB,A]
 rfl
theorem dt.same{H:aN}{T:ay}{a:ay->aN}(s:dt H T a):a T=H:=by
 obtain⟨d,e,b,c⟩:=s.h
 rw[c,b]
theorem aH.kq{d:Nat}{x:Operand}{a:aC}{f:Value}{todo:List κ}{c:ay}(h:It a encK encV mp M f todo c) [s:dt H c upd](p:∀b o,a b o->Rx R H b o)(r:ev env x=some f)
  (g:∀(b:Bool) (rest:List Value) (Ti':ay),(b=false->todo=[])->(b=true->∃k u,k∈todo/\da k M=some u/\jN a encK encV mp M f (todo.filter λk'=>decide (k'≠k)) k u Ti')->aH false P N R ops l ((d,.tuple (.bool b::rest).toArray)::env) (upd Ti') K)(m:Nat.blt d N=true:=by rfl):
  aH false P N R ops (⟨some d,.next x false,ty,pos,af,none⟩::l) env H K:=
 aH.AY h p r
  (λi=>by
   have:=g false [] c (λ_=>i) (λe=>by cases e)
   rw[s.same]at this
   exact this)
  (λk u Ti' n q j=>g true [encK k,encV u] Ti' (λe=>by cases e) (λ_=>⟨k,u,n,q,j⟩)) m
end
theorem B1{A B:ay}{b:Nat}{o:Obj}(h:sg A b o):sg (A++B) b o:=abv B h
theorem B2{A B:ay}{b:Nat}{o:Obj}(h:sg B b o):sg (A++B) b o:=List.mem_append_right A h
theorem SR.ordered{α:Type}{lt:α->α->Bool}{ys:List α}(h:SR lt ys 0 ys.length):ys.Pairwise λp r=>lt r p=false:=by
 rw[List.pairwise_iff_getElem]
 intro i j b a c
 exact h i j (Nat.zero_le _) c a _ _ (aE b) (aE a)
end
section
section
variable{P:Program}{N:Nat}{R R':aC}{ops:Array Oper}{l:List Oper}{env:Env}{H:aN}{K:Env->aN->Prop}{T:ay}{upd:ay->aN}
theorem Spec.p4{f:FuncId}{m:List Value}{H1 H2:aN}{T:ay}{Post:Value->ay->Prop}(h:Spec P f m (Rx R (H1++H2)) [T] λv H'=>∃T',H'=[T']/\Post v T'):Spec P f m R (H1++T::H2) λv H'=>∃T',H'=H1++T'::H2/\Post v T':=λw C s=>by
 have g:(H1++T::H2).flatten.Perm ([T]++(H1++H2)).flatten:=by
  simp only[aaP,aaO,abm,aaK]
  rw[<-aaD, <-aaD]
  exact aaW.append_right _
 have k:Sat w ([T]++(H1++H2)):=C.perm g
 have y:take [0] ([T]++(H1++H2))=[T]:=rfl
 have n:rest [0] ([T]++(H1++H2))=H1++H2:=rfl
 have E:RO w R ([T]++(H1++H2)):=λb o d=>⟨(s b o d).1,λp c=>(s b o d).2 p (g.mem_iff.2 c)⟩
 obtain⟨u,F,x⟩:=ig (is:=[0]) k
 have l:=RO.split (is:=[0]) k E
 rw[y]at u l x;rw[n]at l F x
 refine(h w u l).mono λe G ⟨v,H',i,⟨T',z,j⟩,D,A⟩=>?_
 subst z
 obtain⟨t,a⟩:=je (is:=[0]) (H':=[T']) k D A
 rw[n]at t a
 have r:([T']++(H1++H2)).flatten.Perm (H1++T'::H2).flatten:=by
  simp only[aaP,aaO,abm,aaK]
  rw[<-aaD, <-aaD]
  exact aaW.append_right _
 refine⟨v,_,i,⟨T',rfl,j⟩,t.perm r,⟨a.le,λb d B=>a.eK b d λp c=>B p (g.mem_iff.2 c),λp c=>?_,a.os,a.output,a.tape⟩⟩
 rcases a.fS p (r.mem_iff.2 c)with⟨q,j,i⟩|hge
 ·exact .inl ⟨q,g.mem_iff.2 j,i⟩
 ·exact .inr hge
theorem aH.qg{dst:Option Nat}{op:Op}{ty:TypeId}{g:String}{c:Array Edge}{f:FuncId}{vs:List Value}{Post:Value->ay->Prop} [n:dt H T upd]
  (m:∀a w,dd a env->(execOp a.eval ⟨dst,op,ty,g,c,none⟩).run P w=.ok (.enter f vs.toArray) w)
  (k:Spec P f vs (Rx R (upd [])) [T] λv H'=>∃T',H'=[T']/\Post v T')
  (j:∀v T',Post v T'->match dst with
   |some d=>Nat.blt d N=true/\aH false P N R ops l ((d,v)::env) (upd T') K
   |none=>aH false P N R ops l env (upd T') K):
  aH false P N R ops (⟨dst,op,ty,g,c,none⟩::l) env H K:=by
 obtain⟨H1,H2,i,e⟩:=n.h
 refine .kW (H.map λ_=>0) (Post:=λv H'=>∃T',H'=H1++T'::H2/\Post v T') m ?_ ?_
 ·rw[lS,jF,i]
  refine Spec.p4 (H1:=H1) (H2:=H2) (k.weaken λb o hb=>?_)
  rw[e]at hb
  rcases hb with hb|hb
  ·exact .inl (.inl hb)
  ·exact .inr (by simpa using hb)
 ·intro v H' ⟨T',e1,e2⟩
  rw[jF,aaK,e1, <-e]
  exact j v T' e2
theorem aH.qf{d:Nat}{ty:TypeId}{m:String}{b:Array Edge}{f:FuncId} [e:aL P f]{xs:List Operand}{c:Array TypeId}{vs:List Value}{Post:Value->ay->Prop} [n:dt H T upd]
  (k:Spec P f vs (Rx R (upd [])) [T] λv H'=>∃T',H'=[T']/\Post v T')(i:∀v T',Post v T'->aH false P N R ops l ((d,v)::env) (upd T') K)(hxs:eJ env xs=some vs:=by rfl)(h:Nat.blt d N=true:=by rfl):
  aH false P N R ops (⟨some d,.call ⟨.value (.func f),xs.toArray,c⟩,ty,m,b,none⟩::l) env H K:=
 aH.qg (λa w g=>m9 hxs a w g) k (λv T' j=>⟨h,i v T' j⟩)
theorem bJ.open_{S:aN}(i:Nat)(a:H.getD i []=S.flatten):bJ H (S++bM i H):=⟨[],by rw[aaK,aaP, <-a];exact mC i H⟩
end
end
section
end
section
set_option linter.unusedVariables false
section
variable{α:Type}{lt:α->α->Bool}
def iX(lt:α->α->Bool)(p:α):List α->List α
 |[]=>[p]
 |r::L=>if lt p r then p::r::L else r::iX lt p L
theorem mN{p:α}:∀{L:List α},(iX lt p L).Perm (p::L)
 |[]=>.refl _
 |r::L=>by
  simp only[iX]
  split
  ·exact .refl _
  ·exact((mN (L:=L)).cons r).trans (List.Perm.swap p r L)
theorem n7(c:∀x y z,lt x y=true->lt y z=true->lt x z=true){p:α}:∀{L:List α},(L.Pairwise λx y=>lt x y=true)->(∀y∈L,lt p y=true\/lt y p=true)->(iX lt p L).Pairwise λx y=>lt x y=true
 |[],_,_=>by simp[iX]
 |r::L,h,hp=>by
  have b:=abw.1 h
  simp only[iX]
  split
  ·rename_i a
   refine abw.2 ⟨λx hx=>?_,h⟩
   rcases aaG.1 hx with rfl|hx
   ·exact a
   ·exact c _ _ _ a (b.1 x hx)
  ·rename_i a
   refine abw.2 ⟨λx hx=>?_,n7 c b.2 λy d=>hp y (by simp[d])⟩
   rcases aaG.1 (mN.mem_iff.1 hx)with rfl|hx
   ·rcases hp r (by simp)with h2|h2
    ·exact absurd h2 a
    ·exact h2
   ·exact b.1 x hx
end
end
end Go.Proofs.YtgppncmdpcefhaaGreatDoor

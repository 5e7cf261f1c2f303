/- What the law 'KeepOpens' uses. No condition. -/
import Derived.IntWalk
import Derived.Test.YtocjmmbldeljnaaGreatDoorKKeepOpensA
set_option linter.unusedSimpArgs false
set_option linter.unusedVariables false
set_option linter.unusedVariables false
namespace Go.Proofs.YtocjmmbldeljnaaGreatDoor
set_option linter.defProp false
def aaz:=@if_neg
def aaA:=@if_pos
def aaB:=@List.map_cons
def aaC:=@if_false
def aaD:=@Bool.false_eq_true
def aaE:=@List.append_assoc
def aaF:=@if_true
def aaG:=@List.mem_cons
def aaH:=@List.getElem?_toArray
def aaI:=@congrArg
def aaJ:=@List.getElem?_map
def aaK:=@Option.map_some
def aaL:=@List.getElem?_eq_getElem
def aaM:=@List.append_nil
def aaN:=@List.mem_map
def aaO:=@Nat.le_of_ble_eq_true
def aaP:=@List.filter_cons
def aaQ:=@List.getElem_map
def aaR:=@Nat.lt_or_ge
def aaS:=@List.getElem?_cons_succ
def aaT:=@List.flatten_cons
def aaU:=@List.flatten_append
def aaV:=@Nat.mul_le_mul_right
def aaW:=@List.length_append
def aaX:=@Prod.mk.injEq
def aaY:=@List.mem_of_getElem?
def aaZ:=@List.length_cons
def aa0:=@decide_false
def aa1:=@List.mem_iff_getElem
def aa2:=@List.perm_append_comm
def aa3:=@Bool.not_false
def aa4:=@List.size_toArray
def aa5:=@List.mem_singleton
def aa6:=@List.mem_of_mem_take
def aa7:=@Bool.not_true
def aa8:=@Option.some.injEq
def aa9:=@List.nodup_cons
def aba:=@Nat.le_refl
def abb:=@List.length_take
def abc:=@List.getElem?_cons_zero
def abd:=@List.eq_nil_of_length_eq_zero
def abe:=@Array.length_toList
def abf:=@List.getElem?_eq_some_iff
def abg:=@not_false_eq_true
def abh:=@List.length_map
def abi:=@List.ext_getElem?
def abj:=@List.mem_filter
def abk:=@List.mem_append
def abl:=@List.getElem?_append_left
def abm:=@List.nodup_append
def abn:=@List.cons.injEq
def abo:=@List.mem_map_of_mem
def abp:=@Array.getElem?_modify
def abq:=@Array.mem_filter
def abr:=@List.getElem_mem
def abt:=@List.length_zip
def abu:=@List.getElem_zip
def abv:=@Array.contains_push
def abw:=@List.getElem_inj
def abx:=@List.flatten_nil
def aby:=@List.getElem?_drop
def abz:=@List.cons_append
def abA:=@List.append_toArray
def abB:=@Array.getElem?_toList
def abC:=@beq_self_eq_true
def abD:=@Nat.add_right_cancel_iff
def abE:=@List.getElem?_modify
def abF:=@List.getElem?_set
def abG:=@List.zip_cons_cons
def abH:=@Bool.and_eq_true
def abI:=@List.mem_append_left
def abJ:=@Nat.ble_eq_true_of_le
def abK:=@List.pairwise_cons
section
variable{α β:Type}
theorem tG{vs cs:List Value}{off:Nat}(h:off+cs.length<=vs.length)(i:Nat):(bT vs off cs)[i]? =if i<off then vs[i]? else if i<off+cs.length then cs[i-off]? else vs[i]? :=by
 have e:min off vs.length=off:=by omega
 simp only[gC,aaE,List.getElem?_append,abb,e,aby]
 by_cases a:i<off
 ·simp[a]
 ·by_cases b:i<off+cs.length
  ·simp[a,b,show i-off<cs.length by omega]
  ·simp[a,b,show ¬i-off<cs.length by omega,show off+cs.length+(i-off-cs.length)=i by omega]
theorem kO(b off n:Nat):(⟨b,off,none⟩:Addr).add n=⟨b,off+n,none⟩:=by
 simp only[Addr.add];split
 ·rename_i a;subst a;rfl
 ·rfl
theorem wH(a:Nat):∀(r c:Nat),256<=c->Builtin.growBy a r c<=max c (2*a)
 |0,c,_=>by simp[Builtin.growBy];omega
 |r+1,c,h=>by
  simp only[Builtin.growBy]
  split
  ·omega
  ·have:=wH a r (c+(c+768)/4) (by omega)
   omega
theorem nextslicecap_le{need old:Nat}(h:old<need):Builtin.nextslicecap need old<=2*need:=by
 unfold Builtin.nextslicecap
 split
 ·omega
 ·split
  ·omega
  ·have:=wH need 4 old (by omega)
   omega
theorem zb(z:Array Value)(n:Nat):(Builtin.zeroCells z n).size=n*z.size:=by simp[Builtin.zeroCells]
theorem qX{P:Program}{R:ao}{sz:Nat}{enc:α->List Value}{v:Value}{xs:List α}{w:World}(h:RS R sz enc v xs)(l:∀b o,R b o->w.heap[b]? =some o):(Builtin.firstCells sz xs.length v).run P w=.ok (xs.flatMap enc).toArray w:=by
 obtain⟨p,m,rfl,q,r,f⟩:=h.h
 rcases f with rfl|⟨b,off,c,E,n,rfl,d,e⟩
 ·cases p with
  |none=>rfl
  |some a=>simp[Builtin.firstCells,loadCells,loadCellsFrom]
 ·have g:=l _ _ d
  have k:=gU h.len
  have:=run_loadCellsFrom (P:=P) (w:=w) (b:=b) (off:=off) (xs.flatMap enc) 0 #[] (λj i=>by
   have:=e j i
   simp[World.cell?,g,this])
  simp only[Builtin.firstCells,loadCells]
  rw[<-k,this]
  simp
theorem ON{P:Program}{R:ao}{sz:Nat}{enc:α->List Value}{v:Value}{xs:List α}{w:World}(h:RS R sz enc v xs):(Builtin.lenOf v).run P w=.ok xs.length w:=by
 obtain⟨p,a,rfl,_⟩:=h.h
 rfl
theorem Oa{p:oK}{A T B:au}:(p::(A++(T++B))).Perm (A++(p::B)++T):=by
 have a:(A++(T++B)).Perm (A++B++T):=by
  rw[aaE]
  exact aa2.append_left A
 have b:(p::(A++B++T)).Perm (A++(p::B)++T):=by
  have:(p::(A++B)).Perm (A++p::B):=List.perm_middle.symm
  exact this.append_right T
 exact(a.cons p).trans b
theorem bu.front{H1 H2:aF}{T:au}{p:oK}:bu ([p]::(H1++T::H2)) (H1++[p]::H2):=⟨T,by
 simp only[aaT,aaU,abz,List.nil_append]
 exact Oa⟩
theorem OG{P:Program}{R:ao}{H1 H2:aF}{T:au}{E sz bytes:Nat}{enc:α->List Value}{v u:Value}{xs ys:List α}{w:World}{ta tb tb' t:TypeId}{z:Value}
  (hv:OS E sz enc v xs T)(hu:RS (Rx R (H1++T::H2)) sz enc u ys)(ua:bh P ta (.slice E))(ub:bh P tb (.slice tb'))(s:Sz P E sz)(by_:By P E bytes)(zr:Zr P E z)(hz:z.cells.size=sz)(hb0:0<bytes)(hb:(xs.length+ys.length)*bytes<=2^47)
  (sat:Sat w (H1++T::H2))(ro:RO w R (H1++T::H2)):
  ∃v' w' T',(Builtin.append_ #[ta,tb] t #[v,u]).run P w=.ok v' w'/\OS E sz enc v' (xs++ys) T'/\Frame w (H1++T::H2) w' (H1++T'::H2)/\Sat w' (H1++T'::H2):=by
 have hw:∀b o,Rx R (H1++T::H2) b o->w.heap[b]? =some o:=λb o h=>by
  rcases h with h|h
  ·exact(ro b o h).1
  ·exact sat.2 _ h
 have hfu:=qX (P:=P) hu hw
 have hlu:=ON (P:=P) (w:=w) hu
 have hlen:∀x∈xs++ys,(enc x).length=sz:=λx hx=>(abk.1 hx).elim (hv.len x) (hu.len x)
 have hone:∀x∈xs++ys,∀c∈enc x,Go.Proofs.YtocjmmbldeljnaaGreatDoor.ay c=true:=λx hx=>(abk.1 hx).elim (hv.one x) (hu.one x)
 have hneed:xs.length+ys.length<=2^47:=Nat.le_trans (Nat.le_mul_of_pos_right _ hb0) hb
 have hone':∀c∈ys.flatMap enc,Go.Proofs.YtocjmmbldeljnaaGreatDoor.ay c=true:=λc hc=>by
  obtain⟨y,hy,hcy⟩:=List.mem_flatMap.1 hc
  exact hu.one y hy c hcy
 -- the two ways
 have grow:∀(p:Option Addr) (cap:Nat),v=.slice p xs.length cap->¬xs.length+ys.length<=cap->(Builtin.firstCells sz xs.length v).run P {w with drawn:=w.drawn+1}=.ok (xs.flatMap enc).toArray {w with drawn:=w.drawn+1}->
   ∃v' w' T',(Builtin.append_ #[ta,tb] t #[v,u]).run P w=.ok v' w'/\OS E sz enc v' (xs++ys) T'/\Frame w (H1++T::H2) w' (H1++T'::H2)/\Sat w' (H1++T'::H2):=by
  intro p cap hvp hcap hfv
  obtain⟨i,hi,hib⟩:=by_.h w
  have hcut:∃q,xs.length+ys.length<=q/\q<=maxLen/\q=Question.cut (.appendCap (xs.length+ys.length) cap E) (w.tape w.drawn (.appendCap (xs.length+ys.length) cap E)):=by
   refine⟨_,?_,?_,rfl⟩
   ·simp only[Question.cut];omega
   ·simp only[Question.cut]
    have:w.tape w.drawn (.appendCap (xs.length+ys.length) cap E) % (2^63-(xs.length+ys.length))<2^63-(xs.length+ys.length):=Nat.mod_lt _ (by omega)
    unfold maxLen;omega
  obtain⟨q,hq1,hq2,hq3⟩:=hcut
  have hfu':(Builtin.firstCells sz ys.length u).run P {w with drawn:=w.drawn+1}=.ok (ys.flatMap enc).toArray {w with drawn:=w.drawn+1}:=qX (P:=P) hu (λb o h=>hw b o h)
  have hn1:¬((xs.length+ys.length:Nat):Int)>IntKind.i64.max:=by
   have:IntKind.i64.max=9223372036854775807:=by decide
   omega
  have hn2:¬Builtin.nextslicecap (xs.length+ys.length) cap*bytes>2^48:=by
   have h1:=nextslicecap_le (need:=xs.length+ys.length) (old:=cap) (by omega)
   have h2:=aaV bytes h1
   rw[Nat.mul_assoc]at h2
   omega
  have hrun:(Builtin.append_ #[ta,tb] t #[v,u]).run P w=.ok (.slice (some ⟨w.heap.size,0,none⟩) (xs.length+ys.length) q)
    (World.alloc {w with drawn:=w.drawn+1} (.cells ((xs.flatMap enc).toArray++(ys.flatMap enc).toArray++Builtin.zeroCells z.cells (q-(xs.length+ys.length))) E)):=by
   subst hvp
   simp only[Builtin.append_]
   simp only[aaH,abc,aaS,Sem.run_bind,run_underlying ua.h,run_underlying ub.h,Result.andThen_ok,s.h,Sem.run_pure]
   have hm:((TypeDesc.slice tb') matches .int _)=false:=rfl
   simp only[aaD,aaC,hlu,Result.andThen_ok,aaz hcap,false_or,hn1,false_and,hi,hib,aaz hn2,Sem.run_bind]
   have hch:(choose (.appendCap (xs.length+ys.length) cap E)).run P w=.ok (Question.cut (.appendCap (xs.length+ys.length) cap E) (w.tape w.drawn (.appendCap (xs.length+ys.length) cap E))) {w with drawn:=w.drawn+1}:=by
    simp[choose,Sem.run,Question.forced]
   rw[hch, <-hq3]
   obtain⟨i',hi',hib'⟩:=by_.h {w with drawn:=w.drawn+1}
   have har:∀n,(askRoom n).run P {w with drawn:=w.drawn+1}=.ok () {w with drawn:=w.drawn+1}:=λn=>by
    unfold askRoom;split<;>rfl
   simp only[Result.andThen_ok,hi',har,hfv,aa3,aaF,hfu',zr.h,lH]
   rfl
  have hz':(Builtin.zeroCells z.cells (q-(xs.length+ys.length))).size=(q-(xs.length+ys.length))*sz:=by rw[zb,hz]
  generalize hC:(xs.flatMap enc).toArray++(ys.flatMap enc).toArray++Builtin.zeroCells z.cells (q-(xs.length+ys.length))=C at hrun
  have hsize:0+q*sz<=C.size:=by
   have h1:=gU hv.len
   have h2:=gU hu.len
   rw[<-hC]
   simp only[Array.size_append,aa4,h1,h2,hz']
   rw[<-Nat.add_mul, <-Nat.add_mul,Nat.zero_add]
   exact aaV _ (by omega)
  have hrow:Row C 0 ((xs++ys).flatMap enc):=by
   intro k hk
   rw[<-hC]
   rw[List.flatMap_append]at hk⊢
   have hsz:k<((xs.flatMap enc).toArray++(ys.flatMap enc).toArray).size:=by
    rw[aaW]at hk
    simpa only[Array.size_append,aa4]using hk
   rw[Nat.zero_add,Array.getElem?_append_left hsz,abA (xs.flatMap enc) (ys.flatMap enc),aaH]
  clear hC hz' hfu hlu hfu' hq3
  have hos:OS E sz enc (.slice (some ⟨w.heap.size,0,none⟩) (xs.length+ys.length) q) (xs++ys) [(w.heap.size,.cells C E (0,0))]:=
   ⟨hlen,hone,.inr ⟨w.heap.size,0,C,q,by rw[aaW],rfl,by rw[aaW];exact hq1,hq2,hsize,hrow⟩⟩
  have f:=(Frame.drew w (H1++T::H2) (w.drawn+1)).trans (Frame.alloc {w with drawn:=w.drawn+1} (H1++T::H2) (.cells C E (0,0)))
  have f2:Frame w (H1++T::H2) (World.alloc {w with drawn:=w.drawn+1} (.cells C E)) (H1++[(w.heap.size,.cells C E (0,0))]::H2):=f.trans (bu.front.frame _)
  have s2:Sat (World.alloc {w with drawn:=w.drawn+1} (.cells C E)) (H1++[(w.heap.size,.cells C E (0,0))]::H2):=bu.front.sat (Sat.alloc (w:={w with drawn:=w.drawn+1}) (sat.drew _) _)
  exact⟨_,_,_,hrun,hos,f2,s2⟩
 rcases hv.h with⟨rfl,rfl,rfl⟩|⟨b,off,c,cap,rfl,rfl,g3,g4,g5,g6⟩
 ·by_cases h0:ys.length=0
  ·have hy:ys=[]:=abd h0
   subst hy
   refine⟨.slice none 0 0,w,[],?_,OS.nil,Frame.refl _ _,sat⟩
   simp only[Builtin.append_]
   simp only[aaH,abc,aaS,Sem.run_bind,run_underlying ua.h,run_underlying ub.h,Result.andThen_ok,s.h,Sem.run_pure,aaD,aaC,hlu]
   have hfu0:(Builtin.firstCells sz 0 u).run P w=.ok #[] w:=hfu
   simp[hfu0]
  ·exact grow none 0 rfl (by simp only[List.length_nil];omega) rfl
 ·by_cases hcap:xs.length+ys.length<=cap
  ·have hb:=sat.2 (b,.cells c E (0,0)) (by simp)
   have hc:c=c.toList.toArray:=by simp
   have hl1:=gU hv.len
   have hl2:=gU hu.len
   have hroom:off+xs.length*sz+(ys.flatMap enc).length<=c.toList.length:=by
    rw[hl2,abe,Nat.add_assoc, <-Nat.add_mul]
    exact Nat.le_trans (Nat.add_le_add_left (aaV _ hcap) _) g5
   have hst:=pG (P:=P) (b:=b) (off:=off+xs.length*sz) (E:=E) (ys.flatMap enc) 0 c.toList w (by rw[<-hc];exact hb) hone' (by simpa using hroom)
   rw[Nat.add_zero]at hst
   have hadd:(⟨b,off,none⟩:Addr).add (xs.length*sz)=⟨b,off+xs.length*sz,none⟩:=by
    simp only[Addr.add];split
    ·rename_i h0;rw[h0];rfl
    ·rfl
   refine⟨.slice (some ⟨b,off,none⟩) (xs.length+ys.length) cap,dz w b (.cells (bT c.toList (off+xs.length*sz) (ys.flatMap enc)).toArray E (0,0)),[(b,.cells (bT c.toList (off+xs.length*sz) (ys.flatMap enc)).toArray E (0,0))],?_,⟨hlen,hone,.inr ⟨b,off,_,cap,by rw[aaW],rfl,by rw[aaW];exact hcap,g4,?_,?_⟩⟩,Frame.set (T1:=[]) (T2:=[]),Sat.set (T1:=[]) (T2:=[]) sat⟩
   ·simp only[Builtin.append_]
    simp only[aaH,abc,aaS,Sem.run_bind,run_underlying ua.h,run_underlying ub.h,Result.andThen_ok,s.h,Sem.run_pure,aaD,aaC,hlu,aaA hcap,aa3,aaF,hfu,hadd,hst]
   ·rw[aa4,mv hroom,abe];exact g5
   ·intro k hk
    rw[List.flatMap_append]at hk⊢
    rw[aaH]
    have hle:off+xs.length*sz<=c.toList.length:=by omega
    by_cases h1:k<(xs.flatMap enc).length
    ·have h2:=g6 k h1
     rw[hl1]at h1
     rw[gC,aaE,abl (by rw[abb];omega),List.getElem?_take_of_lt (by omega),abB,h2,abl (by omega)]
    ·rw[aaW]at hk
     rw[hl1]at h1 hk
     rw[gC,aaE,List.getElem?_append_right (by rw[abb];omega),abb,Nat.min_eq_left hle,
      abl (by omega),List.getElem?_append_right (by omega),hl1]
     congr 1
     omega
  ·refine grow _ cap rfl hcap ?_
   refine qX (P:=P) (R:=sg [(b,.cells c E (0,0))]) (hv.rs λp hp=>hp) λb' o' h'=>?_
   simp only[sg,aa5,aaX]at h'
   obtain⟨e1,e2⟩:=h'
   subst e1;subst e2
   exact sat.2 (b',.cells c E (0,0)) (by simp)
section
variable{P:Program}{N:Nat}{R:ao}{ops:Array Oper}{l:List Oper}{env:Env}{H:aF}{K:Env->aF->Prop}{ty:TypeId}{pos:String}{af:Array Edge}{m:Bool}
theorem aB.append{d:Nat}{x y:Operand}{f tb M E sz b:Nat}{enc:α->List Value}{v u z:Value}{xs ys:List α}{T:au}{g:au->aF}(C:OS E sz enc v xs T)(B:RS (Rx R H) sz enc u ys) [L:dE H T g] [O:bh P f (.slice E)] [Q:bh P tb (.slice M)] [s:Sz P E sz] [i:By P E b] [U:Zr P E z]
  (k:(xs.length+ys.length)*b<=2^47)(p:∀v' T',OS E sz enc v' (xs++ys) T'->aB false P N R ops l ((d,v')::env) (g T') K)
  (D:ev env x=some v:=by rfl)(F:ev env y=some u:=by rfl)(G:z.cells.size=sz:=by rfl)(m:0<b:=by decide)(n:Nat.blt d N=true:=by rfl):
  aB false P N R ops (⟨some d,.call ⟨.builtin .append,#[x,y],#[f,tb]⟩,ty,pos,af,none⟩::l) env H K:=
 aB.lv n λa w e J I=>by
  obtain⟨V,W,j,c⟩:=L.h
  subst j
  obtain⟨v',S,T',r,q,o,A⟩:=OG (t:=ty) C B O Q s i U G m k J I
  refine⟨v',S,_,?_,?_,?_,p v' T' q⟩
  ·simp[execOp,resolve,e.eval D,e.eval F,invoke,builtin,r]
  ·rw[c];exact o
  ·rw[c];exact A
theorem RS.qu{b:Nat}{cs:List Value}{E sz:Nat}{fr:Nat×Nat}{enc:α->List Value}{x:α}(a:enc x=cs)(e:cs.length=sz)(ho:∀c∈cs,Go.Proofs.YtocjmmbldeljnaaGreatDoor.ay c=true):RS (Rx R ([(b,.cells cs.toArray E fr)]::H)) sz enc (.slice (some ⟨b,0,none⟩) 1 1) [x]:=
 ⟨by simp[a,e],by simpa[a]using ho,some ⟨b,0,none⟩,1,rfl,by simp,by simp[maxLen],.inr ⟨b,0,cs.toArray,E,fr,rfl,.inr (by simp),λk d=>by
  simp only[List.flatMap_cons,List.flatMap_nil,aaM,a]at d⊢
  simp[d]⟩⟩
theorem aB.drop(is:List Nat)(h:aB m P N R ops l env (rest is H) K):aB m P N R ops l env H K:=λc e b d a w s=>
 h c e b d a w (s.le (di.refl env) (bu.drop is H))
theorem aB.yz{t:TypeId}{x y:Operand}{E sz n k:Nat}{enc:α->List Value}{v p u:Value}{xs:List α}{z z':α}{cs:List Value}{T:au}{M:au->aF}(i:Nat)(d:OS E sz enc v xs T)(j:xs[i]? =some z) [sa:dE H T M] [s:Sz P t n]
  (g:ev env x=some p)(hp:p=gr (eA v (i*sz)) k)(hy:ev env y=some u)(hc:u.cells=cs.toArray)(hn:cs.length=n)(ho:∀c∈cs,Go.Proofs.YtocjmmbldeljnaaGreatDoor.ay c=true)(m:enc z'=bT (enc z) k cs)(hl:k+cs.length<=sz)
  (a1:∀T',OS E sz enc v (xs.set i z') T'->aB false P N R ops l env (M T') K):aB false P N R ops (⟨none,.store t x y,ty,pos,af,none⟩::l) env H K:=
 aB.mI λa w F L ro=>by
  obtain⟨H1,H2,V,D⟩:=sa.h
  subst V
  have o:=aaY j
  have hi:i<xs.length:=(abf.1 j).1
  have a2:xs≠[]:=λe=>by subst e;simp at j
  have a0:=d.len z o
  have I:(enc z').length=sz:=by rw[m,mv (by omega),a0]
  rcases d.h with⟨_,rfl,_⟩|⟨b,off,c,C,rfl,rfl,O,Q,S,U⟩
  ·exact absurd rfl a2
  ·have X:=L.2 (b,.cells c E (0,0)) (by simp)
   have Y:c=c.toList.toArray:=by simp
   have a4:p=.pointer (some ⟨b,off+i*sz+k,none⟩):=by
    subst hp
    simp only[eA,gr,kO]
   subst a4
   have a7:c.toList.length=c.size:=abe
   have r:off+i*sz+k+cs.length<=c.toList.length:=by
    have f:(i+1)*sz<=C*sz:=aaV _ (by omega)
    rw[Nat.succ_mul]at f
    omega
   have a5:=yb (P:=P) (t:=t) (n:=n) (b:=b) (off:=off+i*sz+k) (E:=E) (v:=u) (cs:=cs) (vs:=c.toList) (w:=w) hc hn (by rw[<-Y];exact X) ho r
   have a6:∀x∈xs.set i z',(enc x).length=sz:=λx g=>(List.mem_or_eq_of_mem_set g).elim (d.len x) (λe=>by rw[e];exact I)
   have a3:∀x∈xs.set i z',∀c∈enc x,Go.Proofs.YtocjmmbldeljnaaGreatDoor.ay c=true:=λx g=>(List.mem_or_eq_of_mem_set g).elim (d.one x) (λe=>by
    rw[e,m]
    intro c hc
    simp only[gC,abk]at hc
    rcases hc with(hc|hc)|hc
    ·exact d.one z o c (aa6 hc)
    ·exact ho c hc
    ·exact d.one z o c (List.mem_of_mem_drop hc))
   refine⟨dz w b (.cells (bT c.toList (off+i*sz+k) cs).toArray E (0,0)),_,.inl ?_,?_,?_,a1 [(b,.cells (bT c.toList (off+i*sz+k) cs).toArray E (0,0))] ⟨a6,a3,.inr ⟨b,off,_,C,by rw[List.length_set],rfl,by rw[List.length_set];exact O,Q,?_,?_⟩⟩⟩
   ·simp[execOp,F.eval g,F.eval hy,a5]
   ·rw[D];exact Frame.set (T1:=[]) (T2:=[])
   ·rw[D];exact Sat.set (T1:=[]) (T2:=[]) L
   ·rw[aa4,mv r,abe];exact S
   ·have f:=wx d.len j I m hl
    rw[f]
    have Z:=gU d.len
    have G:i*sz+k+cs.length<=(xs.flatMap enc).length:=by
     rw[Z]
     have f:(i+1)*sz<=xs.length*sz:=aaV _ (by omega)
     rw[Nat.succ_mul]at f;omega
    intro q J
    rw[mv G]at J
    have W:=U q J
    rw[aaH,tG r,tG G,abB,W]
    by_cases A:q<i*sz+k
    ·rw[aaA (show off+q<off+i*sz+k by omega),aaA A]
    ·rw[aaz (show ¬off+q<off+i*sz+k by omega),aaz A]
     by_cases B:q<i*sz+k+cs.length
     ·rw[aaA (show off+q<off+i*sz+k+cs.length by omega),aaA B,show off+q-(off+i*sz+k)=q-(i*sz+k) by omega]
     ·rw[aaz (show ¬off+q<off+i*sz+k+cs.length by omega),aaz B]
theorem zk(p:Value):gr p 0=p:=by
 unfold gr
 split
 ·rename_i a;rfl
 ·rfl
theorem um{v:Value}{k:Nat}:gr (eA v k) 0=eA v k:=zk _
theorem q8{vs cs:List Value}(h:cs.length=vs.length):bT vs 0 cs=cs:=by rw[gC];simp[h]
theorem aB.ee{t:TypeId}{x y:Operand}{E sz:Nat}{enc:α->List Value}{v:Value}{xs:List α}{z:α}{T:au}{e:au->aF}(i:Nat)(b:OS E sz enc v xs T)(d:xs[i]? =some z) [j:dE H T e] [s:Sz P t sz](z':α)
  (f:∀T',OS E sz enc v (xs.set i z') T'->aB false P N R ops l env (e T') K)(ho:∀c∈enc z',Go.Proofs.YtocjmmbldeljnaaGreatDoor.ay c=true)(a:(enc z').length=sz:=by rfl)(g:ev env x=some (eA v (i*sz)):=by rfl)(h:ev env y=some (.agg (enc z').toArray):=by rfl):
  aB false P N R ops (⟨none,.store t x y,ty,pos,af,none⟩::l) env H K:=
 aB.yz (k:=0) (cs:=enc z') i b d g um.symm h rfl a ho (q8 (by rw[a,b.len z (aaY d)])).symm (by omega) f
theorem aB.dC{t:TypeId}{x y:Operand}{E:Nat}{enc:α->List Value}{v u:Value}{xs:List α}{z:α}{T:au}{c:au->aF}(i:Nat)(a:OS E 1 enc v xs T)(b:xs[i]? =some z) [h:dE H T c] [s:Sz P t 1](z':α)
  (d:∀T',OS E 1 enc v (xs.set i z') T'->aB false P N R ops l env (c T') K)(e:enc z'=[u]:=by rfl)(ho:Go.Proofs.YtocjmmbldeljnaaGreatDoor.ay u=true:=by rfl)(f:ev env x=some (eA v (i*1)):=by rfl)(g:ev env y=some u:=by rfl):
  aB false P N R ops (⟨none,.store t x y,ty,pos,af,none⟩::l) env H K:=
 aB.yz (k:=0) (cs:=[u]) i a b f um.symm g (oT ho) rfl (by simpa using ho) (by rw[e,q8 (by rw[a.len z (aaY b)];rfl)]) (by simp) d
end
end
section
inductive CK where
 |i (k:IntKind)
 |s
 |b
def gQ:CK->Value->Prop
 | .i k,.int k' _=>k'=k
 | .s,.string _=>True
 | .b,.bool _=>True
 |_,_=>False
def dw:List CK->List Value->Prop
 |[],[]=>True
 |k::ks,v::vs=>gQ k v/\dw ks vs
 |_,_=>False
def ls:Value->Value->Bool
 | .int _ a,.int _ b=>a==b
 | .string a,.string b=>decide (a=b)
 | .bool a,.bool b=>a==b
 |_,_=>false
def ek:List Value->List Value->Bool
 |[],[]=>true
 |a::l,b::l2=>ls a b&&ek l l2
 |_,_=>false
def pack:Bool->List Value->Value
 |false,[x]=>x
 |_,xs=>.agg xs.toArray
theorem dw.length:∀{ks:List CK} {vs:List Value},dw ks vs->vs.length=ks.length
 |[],[],_=>rfl
 |_::ks,_::vs,h=>by simp[dw.length (ks:=ks) (vs:=vs) h.2]
 |[],_::_,h=>h.elim
 |_::_,[],h=>h.elim
theorem dw.split:∀{ks ks':List CK} {vs:List Value},dw (ks++ks') vs->dw ks (vs.take ks.length)/\dw ks' (vs.drop ks.length)
 |[],ks',vs,h=>by simpa[dw]using h
 |k::ks,ks',v::vs,h=>by
  have:=dw.split (ks:=ks) (ks':=ks') (vs:=vs) h.2
  exact⟨⟨h.1,this.1⟩,this.2⟩
 |_::_,_,[],h=>h.elim
theorem uO:∀(n:Nat) {xs ys:List Value},n<=xs.length->n<=ys.length->ek xs ys=(ek (xs.take n) (ys.take n)&&ek (xs.drop n) (ys.drop n))
 |0,xs,ys,_,_=>by simp[ek]
 |n+1,x::xs,y::ys,h1,h2=>by
  simp only[aaZ]at h1 h2
  simp only[ek,List.take_succ_cons,List.drop_succ_cons]
  rw[uO n (by omega) (by omega),Bool.and_assoc]
 |n+1,[],_,h1,_=>by simp at h1
 |n+1,_::_,[],_,h2=>by simp at h2
class dN(P:Program)(t:TypeId)(n:outParam Nat)(ks:outParam (List CK))(agg:outParam Bool):Prop where
 ne:0<n
 eq:∀d,n<=d->∀w xs ys,dw ks xs->dw ks ys->(Op.equalIn d t (pack agg xs) (pack agg ys)).run P w=.ok (ek xs ys) w
 ck:∀d,n<=d->∀e w xs,dw ks xs->(Instr.checkKey e d t (pack agg xs)).run P w=.ok () w
 part:∀w (X:List Value) off xs,(X.drop off).take ks.length=xs->xs.length=ks.length->(part t X.toArray off).run P w=.ok (pack agg xs) w
def mG(e:Bool)(d:Nat)(xs:Array Value):List Field→Sem Unit
 |[]=>pure ()
 |f::fs=>if f.name≠ "_" then do Instr.checkKey e d f.type (←part f.type xs f.offset);mG e d xs fs else mG e d xs fs
structure dT(P:Program)(n off:Nat)(fs:List Field)(ks:List CK):Prop where
 eq:∀d,n<=d->∀w (X Y xs ys:List Value),X.drop off=xs->Y.drop off=ys->dw ks xs->dw ks ys->(Op.eqFields d X.toArray Y.toArray fs).run P w=.ok (ek xs ys) w
 ck:∀d,n<=d->∀e w (X xs:List Value),X.drop off=xs->dw ks xs->(mG e d X.toArray fs).run P w=.ok () w
section
variable{P:Program}
theorem lC{k:CK}{xs:List Value}(h:dw [k] xs):∃x,xs=[x]/\gQ k x:=by
 match xs,h with
 |[x],h=>exact⟨x,rfl,h.1⟩
theorem tc{t:TypeId}(a:bV P t false)(w:World)(X:List Value)(off:Nat)(xs:List Value)(h:(X.drop off).take 1=xs)(c:xs.length=1):(part t X.toArray off).run P w=.ok (pack false xs) w:=by
 match xs,c with
 |[x],_=>
  have d:X[off]? =some x:=by
   have b:=aaI (λl:List Value=>l[0]?) h
   simpa[List.getElem?_take,aby]using b
  simp[Go.part,a.h,d,pack]
theorem dN.int{t:TypeId}{k:IntKind}(u:bh P t (.int k))(c:bV P t false):dN P t 1 [.i k] false where
 ne:=by decide
 eq d hd w xs ys hx hy:=by
  obtain⟨x,rfl,a⟩:=lC hx
  obtain⟨y,rfl,b⟩:=lC hy
  obtain⟨d,rfl⟩:∃d',d=d'+1:=⟨d-1,by omega⟩
  cases x<;>simp only[gQ]at a
  cases y<;>simp only[gQ]at b
  subst a;subst b
  simp[pack,Op.equalIn,run_underlying u.h,ek,ls]
 ck d hd e w xs hx:=by
  obtain⟨x,rfl,a⟩:=lC hx
  obtain⟨d,rfl⟩:∃d',d=d'+1:=⟨d-1,by omega⟩
  simp[pack,Instr.checkKey,run_underlying u.h]
 part w X off xs h hl:=tc c w X off xs h hl
theorem dN.str{t:TypeId}(u:bh P t .string)(b:bV P t false):dN P t 1 [.s] false where
 ne:=by decide
 eq d hd w xs ys hx hy:=by
  obtain⟨x,rfl,a⟩:=lC hx
  obtain⟨y,rfl,c⟩:=lC hy
  obtain⟨d,rfl⟩:∃d',d=d'+1:=⟨d-1,by omega⟩
  cases x<;>simp only[gQ]at a
  cases y<;>simp only[gQ]at c
  simp[pack,Op.equalIn,run_underlying u.h,ek,ls,p8]
 ck d hd e w xs hx:=by
  obtain⟨x,rfl,a⟩:=lC hx
  obtain⟨d,rfl⟩:∃d',d=d'+1:=⟨d-1,by omega⟩
  simp[pack,Instr.checkKey,run_underlying u.h]
 part w X off xs h hl:=tc b w X off xs h hl
theorem dN.bool{t:TypeId}(u:bh P t .bool)(c:bV P t false):dN P t 1 [.b] false where
 ne:=by decide
 eq d hd w xs ys hx hy:=by
  obtain⟨x,rfl,a⟩:=lC hx
  obtain⟨y,rfl,f⟩:=lC hy
  obtain⟨d,rfl⟩:∃d',d=d'+1:=⟨d-1,by omega⟩
  cases x<;>simp only[gQ]at a
  cases y<;>simp only[gQ]at f
  simp[pack,Op.equalIn,run_underlying u.h,ek,ls]
 ck d hd e w xs hx:=by
  obtain⟨x,rfl,a⟩:=lC hx
  obtain⟨d,rfl⟩:∃d',d=d'+1:=⟨d-1,by omega⟩
  simp[pack,Instr.checkKey,run_underlying u.h]
 part w X off xs h hl:=tc c w X off xs h hl
theorem dT.nil{n off:Nat}:dT P n off [] [] where
 eq d hd w X Y xs ys hx hy h1 h2:=by
  cases xs<;>cases ys<;>simp_all[dw,Op.eqFields,ek]
 ck d hd e w X xs hx h1:=rfl
theorem dT.cons{n m off:Nat}{f:Field}{fs:List Field}{kf ks:List CK}{agg:Bool}(ef:dN P f.type m kf agg)(h:dT P n (off+kf.length) fs ks)(hm:m≤n:=by decide)(ho:f.offset=off:=by rfl)(hn:f.name≠ "_":=by decide):dT P n off (f::fs) (kf++ks) where
 eq d hd w X Y xs ys hx hy h1 h2:=by
  obtain⟨a1,a2⟩:=h1.split
  obtain⟨b1,b2⟩:=h2.split
  have l1:=h1.length
  have l2:=h2.length
  rw[aaW]at l1 l2
  have e1:=ef.part w X off (xs.take kf.length) (by rw[hx]) a1.length
  have e2:=ef.part w Y off (ys.take kf.length) (by rw[hy]) b1.length
  have e3:=ef.eq d (by omega) w _ _ a1 b1
  have e4:=h.eq d hd w X Y (xs.drop kf.length) (ys.drop kf.length) (by rw[←hx,List.drop_drop]) (by rw[←hy,List.drop_drop]) a2 b2
  simp only[Op.eqFields,hn,ne_eq,abg,aaF,ho,Sem.run_bind,e1,e2,e3,Result.andThen_ok]
  rw[uO kf.length (xs:=xs) (ys:=ys) (by omega) (by omega)]
  cases ek (xs.take kf.length) (ys.take kf.length)
  ·simp
  ·simp only[aa7,aaD,aaC,Bool.true_and];exact e4
 ck d hd e w X xs hx h1:=by
  obtain⟨a1,a2⟩:=h1.split
  have e1:=ef.part w X off (xs.take kf.length) (by rw[hx]) a1.length
  have e3:=ef.ck d (by omega) e w _ a1
  have e4:=h.ck d hd e w X (xs.drop kf.length) (by rw[←hx,List.drop_drop]) a2
  simp only[mG,hn,ne_eq,abg,aaF,ho,Sem.run_bind,e1,e3,Result.andThen_ok]
  exact e4
theorem OH{t:TypeId}{c:Array Field}(e:Bool)(d:Nat)(xs:Array Value)(w:World)(g:P.underlying t=some (.struct c)):(Instr.checkKey e (d+1) t (.agg xs)).run P w=(mG e d xs c.toList).run P w:=by
 simp only[Instr.checkKey,Sem.run_bind,run_underlying g,Result.andThen_ok]
 rw[<-Array.forIn_toList]
 generalize c.toList=fl
 clear g
 induction fl generalizing w with
 |nil=>simp[mG]
 |cons f fl ih=>
  simp only[List.forIn_cons,mG,Sem.run_bind,Sem.run_ite]
  split
  ·generalize (part f.type xs f.offset).run P w=r1
   cases r1 with
   |ok a w1=>
    simp only[Result.andThen_ok]
    generalize (Instr.checkKey e d f.type a).run P w1=r2
    cases r2 with
    |ok b w2=>simp only[Result.andThen_ok,Sem.run_pure];exact ih w2
    |halt x w2=>rfl
   |halt x w1=>rfl
  ·simp only[Sem.run_pure,Result.andThen_ok]
   exact ih w
theorem dT.more{n m off:Nat}{f:Field}{fs:List Field}{kf ks ks':List CK}{agg:Bool}(ef:dN P f.type m kf agg)(h:dT P n (off+kf.length) fs ks)(hk:ks'=kf++ks:=by rfl)(hm:m≤n:=by decide)(ho:f.offset=off:=by rfl)(hn:f.name≠ "_":=by decide):dT P n off (f::fs) ks':=by
 subst hk;exact dT.cons ef h hm ho hn
theorem dN.struct{t n:Nat}{a:Array Field}{ks:List CK}(u:P.underlying t=some (.struct a))(g:P.stoodInHeld t=false)(c:bV P t true)(sz:Sz P t ks.length)(h:dT P n 0 a.toList ks):dN P t (n+1) ks true where
 ne:=by omega
 eq d hd w xs ys hx hy:=by
  obtain⟨d,rfl⟩:∃d',d=d'+1:=⟨d-1,by omega⟩
  have b:P.fieldsOf t=a:=by simp[Program.fieldsOf,u]
  have:=run_equalIn_struct (P:=P) w d t xs.toArray ys.toArray (by rw[b];exact u) g
  rw[b]at this
  have e:=h.eq d (by omega) w xs ys xs ys (by simp) (by simp) hx hy
  rw[e]at this
  exact this
 ck d hd e w xs hx:=by
  obtain⟨d,rfl⟩:∃d',d=d'+1:=⟨d-1,by omega⟩
  have f:=h.ck d (by omega) e w xs xs (by simp) hx
  have:=OH (P:=P) e d xs.toArray w u
  rw[f]at this
  exact this
 part w X off xs h hl:=by
  have:X.toArray.extract off (off+ks.length)=xs.toArray:=by
   rw[List.extract_toArray,List.extract_eq_take_drop, <-h]
   congr 2
   omega
  simp only[Go.part,Sem.run_bind,c.h,Result.andThen_ok,aaF,sz.h,this]
  rfl
class oL(P:Program)(t:TypeId):Prop where h:P.eqGuardType P.depth t=false
section
variable{R:ao}{env:Env}{H:aF}{ty:TypeId}{x y:Operand}{t u n:Nat}{ks:List CK}{xs ys:List Value}
theorem aI.Aq [e:dN P t n ks true] [g:oL P t](j:ev env x=some (.agg xs.toArray))(k:ev env y=some (.agg ys.toArray))(c:dw ks xs)(f:dw ks ys)(i:Nat.ble n 10000=true:=by rfl):
  aI P R env H (.binOp .eql t x y u) ty (.bool (ek xs ys)):=λa w d o l m b _ _=>
 qV (op:=.move x) (b.eval j) (b.eval k) (run_eqGuard_agg w .eql t x y _ _ g.h) rfl (e.eq _ (aaO i) w xs ys c f)
theorem aI.xo [e:dN P t n ks true] [g:oL P t](j:ev env x=some (.agg xs.toArray))(k:ev env y=some (.agg ys.toArray))(c:dw ks xs)(f:dw ks ys)(i:Nat.ble n 10000=true:=by rfl):
  aI P R env H (.binOp .neq t x y u) ty (.bool !(ek xs ys)):=λa w d o l m b _ _=>
 qY (op:=.move x) (b.eval j) (b.eval k) (run_eqGuard_agg w .neq t x y _ _ g.h) rfl (e.eq _ (aaO i) w xs ys c f)
end
end
end
section
variable{κ β:Type} [DecidableEq κ]
def bO(k:κ):List (κ×β)->Option β
 |[]=>none
 |(k',x)::r=>if k=k' then some x else bO k r
def dx(k:κ)(x:β):List (κ×β)->List (κ×β)
 |[]=>[(k,x)]
 |(k',y)::r=>if k=k' then(k',x)::r else(k',y)::dx k x r
def fT(k:κ):List (κ×β)->List (κ×β)
 |[]=>[]
 |(k',y)::r=>if k=k' then r else(k',y)::fT k r
theorem jW{k:κ}{x:β}:∀{M:List (κ×β)},bO k M=some x->(k,x)∈M
 |[],h=>by cases h
 |(k',y)::r,h=>by
  simp only[bO]at h
  split at h
  ·rename_i a;subst a;simp only[aa8]at h;subst h;simp
  ·exact List.mem_cons_of_mem _ (jW h)
theorem jG{k:κ}:∀{M:List (κ×β)},bO k M=none↔k∉M.map (·.1)
 |[]=>by simp[bO]
 |(k',y)::r=>by
  simp only[bO,aaB,aaG,not_or]
  split
  ·rename_i a;simp[a]
  ·rename_i a;simp[a,jG]
theorem jl{k:κ}{x:β}:∀{M:List (κ×β)},(M.map (·.1)).Nodup->(k,x)∈M->bO k M=some x
 |[],_,h=>by simp at h
 |(k',y)::r,hn,h=>by
  simp only[aaB,aa9]at hn
  simp only[bO]
  rcases aaG.1 h with h0|h0
  ·injection h0 with h1 h2;subst h1;subst h2;simp
  ·split
   ·rename_i a;subst a;exact absurd (aaN.2 ⟨_,h0,rfl⟩) hn.1
   ·exact jl hn.2 h0
theorem qz{k:κ}{x:β}:∀{M:List (κ×β)},(dx k x M).map (·.1)=if k∈M.map (·.1)then M.map (·.1)else M.map (·.1)++[k]
 |[]=>by simp[dx]
 |(k',y)::r=>by
  simp only[dx]
  split
  ·rename_i a;subst a;simp
  ·rename_i a
   simp only[aaB,qz,aaG]
   by_cases h:k∈r.map (·.1)
   ·simp[h]
   ·simp[h,a]
theorem xn{k:κ}{x:β}{M:List (κ×β)}(h:(M.map (·.1)).Nodup):((dx k x M).map (·.1)).Nodup:=by
 rw[qz]
 split
 ·exact h
 ·rename_i f
  exact abm.2 ⟨h,by simp,λa d b c e=>by simp only[aa5]at c;subst c;subst e;exact f d⟩
theorem xj{k k':κ}{x:β}:∀{M:List (κ×β)},bO k' (dx k x M)=if k'=k then some x else bO k' M
 |[]=>by simp[dx,bO]
 |(k1,y)::r=>by
  simp only[dx]
  split
  ·rename_i a;subst a
   simp only[bO]
   split<;>simp_all
  ·rename_i a
   simp only[bO,xj]
   split
   ·rename_i b;subst b;rw[aaz (λe=>a e.symm)]
   ·rfl
theorem xf{k:κ}:∀{M:List (κ×β)},(fT k M).Sublist M
 |[]=>by simp[fT]
 |(k',y)::r=>by
  simp only[fT]
  split
  ·exact List.sublist_cons_self _ _
  ·exact(xf).cons_cons _
theorem Np{k:κ}{M:List (κ×β)}(h:(M.map (·.1)).Nodup):((fT k M).map (·.1)).Nodup:=h.sublist (xf.map _)
def ig(k:κ):List κ->List MapEntry->Nat->Option (Nat×Value)
 |k'::ks,e::es,i=>if k=k' then some (i,e.val)else ig k ks es (i+1)
 |_,_,_=>none
class eJ(P:Program)(kt:TypeId)(encK:κ->Value):Prop where
 find:∀(k:κ) (es:List MapEntry) (ks:List κ) w,es.map (·.key)=ks.map encK->(Instr.findKey kt (encK k) es).run P w=.ok (ig k ks es 0) w
 ck:∀e k w,(Instr.checkKey e 10000 kt (encK k)).run P w=.ok () w
 same:∀k,Instr.sameBits 10000 (encK k) (encK k)=true
theorem x3{P:Program}{kt:TypeId}{encK:κ->Value}(a:∀k k' w,(Op.equal kt (encK k) (encK k')).run P w=.ok (decide (k=k')) w)(k:κ):
  ∀(es:List MapEntry) (ks:List κ) (i:Nat) w,es.map (·.key)=ks.map encK->(Instr.findAsking kt (encK k) es i).run P w=.ok (ig k ks es i) w
 |[],ks,i,w,h=>by
  cases ks with
  |nil=>rfl
  |cons _ _=>simp at h
 |e::es,[],i,w,h=>by simp at h
 |e::es,k'::ks,i,w,h=>by
  simp only[aaB,abn]at h
  simp only[Instr.findAsking,Sem.run_bind,h.1,a,Result.andThen_ok,ig]
  by_cases b:k=k'
  ·simp[b]
  ·simp only[b,aa0,aaD,aaC]
   exact x3 a k es ks (i+1) w h.2
theorem sk{d:TypeDesc}{encK:κ->Value}(b:∀k k',Instr.sameNow d (encK k) (encK k')=some (decide (k=k')))(k:κ):
  ∀(es:List MapEntry) (ks:List κ) (i:Nat),es.map (·.key)=ks.map encK->Instr.findNow d (encK k) es i=some (ig k ks es i)
 |[],ks,i,h=>by
  cases ks with
  |nil=>rfl
  |cons _ _=>simp at h
 |e::es,[],i,h=>by simp at h
 |e::es,k'::ks,i,h=>by
  simp only[aaB,abn]at h
  simp only[Instr.findNow,h.1,b,ig]
  by_cases a:k=k'
  ·simp[a]
  ·simp only[a,aa0,aaC]
   exact sk b k es ks (i+1) h.2
theorem O2{ks:List CK}:∀{xs:List Value},dw ks xs->∀x∈xs,Instr.sameBits 9999 x x=true:=by
 induction ks with
 |nil=>intro xs h x hx;cases xs<;>simp_all[dw]
 |cons k ks ih=>
  intro xs h x hx
  cases xs with
  |nil=>simp at hx
  |cons y ys=>
   rcases aaG.1 hx with rfl|hx
   ·have:=h.1
    cases k<;>cases x<;>first|exact this.elim|simp[Instr.sameBits,p8]
   ·exact ih h.2 x hx
theorem eJ.agg{P:Program}{kt n:Nat}{ks:List CK}{a:κ->List Value}(e:dN P kt n ks true){c:Array Field}(u:P.underlying kt=some (.struct c))(d:Nat.ble n 10000=true)(b:∀k,dw ks (a k))(m:∀k k',ek (a k) (a k')=decide (k=k')):eJ P kt (λk:κ=>.agg (a k).toArray) where
 find k es ks' w h:=by
  have o:∀(k k':κ) w,(Op.equal kt (.agg (a k).toArray) (.agg (a k').toArray)).run P w=.ok (decide (k=k')) w:=λk k' w=>by
   rw[<-m];exact e.eq 10000 (aaO d) w _ _ (b k) (b k')
  have g:=x3 o k es ks' 0 w h
  simp only[Instr.findKey,Sem.run_bind,run_underlying u,Result.andThen_ok]
  cases es with
  |nil=>
   cases ks' with
   |nil=>rfl
   |cons _ _=>simp at h
  |cons e es=>
   have:Instr.findNow (.struct c) (.agg (a k).toArray) (e::es) 0=none:=rfl
   rw[this]
   exact g
 ck em k w:=e.ck 10000 (aaO d) em w _ (b k)
 same k:=by
  have h:=O2 (b k)
  show((a k).toArray.size==(a k).toArray.size&&((a k).toArray.toList.zip (a k).toArray.toList).all λ(x,y)=>Instr.sameBits 9999 x y)=true
  simp only[abC,Bool.true_and]
  rw[List.all_eq_true]
  intro p f
  have:p.1=p.2/\p.1∈a k:=by
   have j:=List.of_mem_zip f
   have l:p.1=p.2:=by
    obtain⟨i,r,rfl⟩:=aa1.1 f
    simp
   exact⟨l,by simpa using j.1⟩
  obtain⟨x,y⟩:=p
  simp only at this⊢
  obtain⟨rfl,q⟩:=this
  exact h x q
theorem eJ.str{P:Program}{kt:Nat}(u:bh P kt .string)(a:bV P kt false):eJ P kt (λs:ByteArray=>.string s) where
 find k es ks w h:=by
  have:=sk (d:=.string) (encK:=λs:ByteArray=>Value.string s) (λk b=>by simp[Instr.sameNow,p8]) k es ks 0 h
  simp only[Instr.findKey,Sem.run_bind,run_underlying u.h,Result.andThen_ok,this]
  rfl
 ck em k w:=(dN.str u a).ck 10000 (by decide) em w [.string k] ⟨trivial,trivial⟩
 same k:=by simp[Instr.sameBits,p8]
theorem eJ.int{P:Program}{kt:Nat}{q:IntKind}(u:bh P kt (.int q))(a:bV P kt false):eJ P kt (λs:Int=>.int q s) where
 find k es ks w h:=by
  have:=sk (d:=.int q) (encK:=λs:Int=>Value.int q s) (λk b=>by simp[Instr.sameNow];rfl) k es ks 0 h
  simp only[Instr.findKey,Sem.run_bind,run_underlying u.h,Result.andThen_ok,this]
  rfl
 ck em k w:=(dN.int u a).ck 10000 (by decide) em w [.int q k] ⟨rfl,trivial⟩
 same k:=by simp[Instr.sameBits]
def iG(encK:κ->Value)(encV:β->Value)(es:List MapEntry)(M:List (κ×β)):Prop:=es.map (λe=>(e.key,e.val))=M.map λp=>(encK p.1,encV p.2)
omit [DecidableEq κ] in
theorem iG.keys{encK:κ->Value}{b:β->Value}{a:List MapEntry}{M:List (κ×β)}(h:iG encK b a M):a.map (·.key)=(M.map (·.1)).map encK:=by
 have:=aaI (List.map Prod.fst) h
 simpa[Function.comp_def]using this
omit [DecidableEq κ] in
theorem iG.length{encK:κ->Value}{b:β->Value}{a:List MapEntry}{M:List (κ×β)}(h:iG encK b a M):a.length=M.length:=by
 have:=aaI List.length h
 simpa using this
theorem xc{encK:κ->Value}{a:β->Value}(k:κ):∀{es:List MapEntry} {M:List (κ×β)} (i:Nat),iG encK a es M->
  (ig k (M.map (·.1)) es i).map (·.2)=(bO k M).map a
 |[],[],_,_=>rfl
 |[],_::_,_,h=>by simp[iG]at h
 |_::_,[],_,h=>by simp[iG]at h
 |e::es,(k',x)::M,i,h=>by
  simp only[iG,aaB,abn,aaX]at h
  simp only[aaB,ig,bO]
  split
  ·simp[h.1.2]
  ·exact xc k (i+1) h.2
structure fu(encK:κ->Value)(encV:β->Value)(es:Array MapEntry)(clock:Nat)(M:List (κ×β)):Prop where
 gS:iG encK encV es.toList M
 nd:(M.map (·.1)).Nodup
 born:∀e∈es.toList,e.born<clock
 bX:(es.toList.map (·.born)).Nodup
def RM(R:ao)(encK:κ->Value)(encV:β->Value)(m:Value)(M:List (κ×β)):Prop:=∃b es clock,m=.map (some b)/\R b (.map es clock)/\fu encK encV es clock M
def MS(encK:κ->Value)(encV:β->Value)(m:Value)(M:List (κ×β))(T:au):Prop:=∃b es clock,m=.map (some b)/\T=[(b,.map es clock)]/\fu encK encV es clock M
omit [DecidableEq κ] in
theorem MS.rm{R:ao}{encK:κ->Value}{a:β->Value}{m:Value}{M:List (κ×β)}{T:au}(h:MS encK a m M T)(g:∀p∈T,R p.1 p.2):RM R encK a m M:=by
 obtain⟨b,d,c,e,rfl,f⟩:=h
 exact⟨b,d,c,e,g (b,_) (by simp),f⟩
omit [DecidableEq κ] in
theorem MS.rx{R:ao}{H:aF}{encK:κ->Value}{a:β->Value}{m:Value}{M:List (κ×β)}{T:au}{c:au->aF}(h:MS encK a m M T) [s:dE H T c]:RM (Rx R H) encK a m M:=h.rm λp b=>.inr (s.mem p b)
omit [DecidableEq κ] in
theorem MS.nil{encK:κ->Value}{a:β->Value}{b:Nat}:MS encK a (.map (some b)) ([]:List (κ×β)) [(b,.map #[] 0)]:=
 ⟨b,#[],0,rfl,rfl,⟨by simp[iG],by simp,by simp,by simp⟩⟩
omit [DecidableEq κ] in
theorem MS.one{encK:κ->Value}{a:β->Value}{m:Value}{M:List (κ×β)}{T:au}(h:MS encK a m M T):One m:=⟨by obtain⟨b,d,c,rfl,_⟩:=h;rfl⟩
omit [DecidableEq κ] in
theorem MS.nd{encK:κ->Value}{a:β->Value}{m:Value}{M:List (κ×β)}{T:au}(h:MS encK a m M T):(M.map (·.1)).Nodup:=by obtain⟨b,e,d,_,_,c⟩:=h;exact c.nd
theorem jc{P:Program}{b:Nat}{c:Array MapEntry}{a:Nat}{w:World}(h:w.heap[b]? =some (.map c a)):(getObj b).run P w=.ok (.map c a) w:=by
 simp[getObj,Sem.run,h]
theorem mn{P:Program}{b:Nat}{c:Array MapEntry}{a:Nat}{o:Obj}{w:World}(h:w.heap[b]? =some (.map c a)):(setObj b o).run P w=.ok () (dz w b o):=by
 simp[setObj,Sem.run,h,dz]
theorem xa{k:κ}:∀{ks:List κ} {es:List MapEntry} {i:Nat},ks.length=es.length->(ig k ks es i=none↔k∉ks)
 |[],es,i,h=>by simp[ig]
 |k'::ks,[],i,h=>by simp at h
 |k'::ks,e::es,i,h=>by
  simp only[aaZ,abD]at h
  simp only[ig,aaG,not_or]
  split
  ·rename_i a;simp[a]
  ·rename_i a;rw[xa h];simp[a]
theorem xb{k:κ}:∀{ks:List κ} {es:List MapEntry} {i j:Nat} {v:Value},ig k ks es i=some (j,v)->i<=j/\ks[j-i]? =some k/\∃e,es[j-i]? =some e/\e.val=v
 |[],es,i,j,v,h=>by simp[ig]at h
 |k'::ks,[],i,j,v,h=>by simp[ig]at h
 |k'::ks,e::es,i,j,v,h=>by
  simp only[ig]at h
  split at h
  ·rename_i b
   simp only[aa8,aaX]at h
   obtain⟨rfl,rfl⟩:=h
   simp[b]
  ·have:=xb h
   have a:j-i=(j-(i+1))+1:=by omega
   rw[a]
   exact⟨by omega,by simpa using this.2.1,by simpa using this.2.2⟩
theorem xm{k:κ}{x:β}:∀{M:List (κ×β)} {j:Nat},(M.map (·.1)).Nodup->(M.map (·.1))[j]? =some k->dx k x M=M.set j (k,x)
 |[],j,_,h=>by simp at h
 |(k',y)::r,0,hn,h=>by
  simp at h;subst h;simp[dx]
 |(k',y)::r,j+1,hn,h=>by
  simp only[aaB,aa9]at hn
  simp only[aaB,aaS]at h
  have a:k≠k':=λe=>hn.1 (e▸aaY h)
  simp only[dx,aaz a,List.set_cons_succ,xm hn.2 h]
theorem lG{k:κ}{x:β}:∀{M:List (κ×β)},k∉M.map (·.1)->dx k x M=M++[(k,x)]
 |[],_=>rfl
 |(k',y)::r,h=>by
  simp only[aaB,aaG,not_or]at h
  simp only[dx,aaz h.1,lG h.2,abz]
theorem sR{k:κ}:∀{M:List (κ×β)} {j:Nat},(M.map (·.1)).Nodup->(M.map (·.1))[j]? =some k->fT k M=M.eraseIdx j
 |[],j,_,h=>by simp at h
 |(k',y)::r,0,hn,h=>by
  simp at h;subst h;simp[fT]
 |(k',y)::r,j+1,hn,h=>by
  simp only[aaB,aa9]at hn
  simp only[aaB,aaS]at h
  have a:k≠k':=λe=>hn.1 (e▸aaY h)
  simp only[fT,aaz a,List.eraseIdx_cons_succ,sR hn.2 h]
theorem sS{k:κ}:∀{M:List (κ×β)},k∉M.map (·.1)->fT k M=M
 |[],_=>rfl
 |(k',y)::r,h=>by
  simp only[aaB,aaG,not_or]at h
  simp only[fT,aaz h.1,sS h.2]
omit [DecidableEq κ] in
theorem sQ{α γ:Type}(f:α->γ):∀(l:List α) (j:Nat),(l.eraseIdx j).map f=(l.map f).eraseIdx j
 |[],_=>rfl
 |_::_,0=>rfl
 |a::l,j+1=>by simp[sQ f l j]
theorem fu.find{P:Program}{kt:Nat}{encK:κ->Value}{f:β->Value}{a:Array MapEntry}{g:Nat}{M:List (κ×β)}(h:fu encK f a g M) [i:eJ P kt encK](k:κ)(w:World):
    ∃r,(Instr.findKey kt (encK k) a.toList).run P w=.ok r w/\r.map (·.2)=(bO k M).map f/\
     (match r with
      |none=>k∉M.map (·.1)
      |some (j,_)=>(M.map (·.1))[j]? =some k/\∃e,a[j]? =some e/\e.key=encK k):=by
  refine⟨_,i.find k a.toList (M.map (·.1)) w h.gS.keys,xc k 0 h.gS,?_⟩
  cases hl:ig k (M.map (·.1)) a.toList 0 with
  |none=>exact(xa (by rw[abh,h.gS.length])).1 hl
  |some jv=>
   obtain⟨j,v⟩:=jv
   obtain⟨_,b,e,c,_⟩:=xb hl
   simp only[Nat.sub_zero]at b c
   refine⟨b,e,by simpa using c,?_⟩
   have d:=aaI (λl:List Value=>l[j]?) h.gS.keys
   simp only[aaJ,c,aaK]at d
   rw[<-aaJ,b]at d
   simpa using d
theorem fu.update{encK:κ->Value}{b:β->Value}{a:Array MapEntry}{g:Nat}{M:List (κ×β)}(h:fu encK b a g M){k:κ}{j:Nat}(x:β)(p:(M.map (·.1))[j]? =some k):
  fu encK b (a.modify j λe=>{e with key:=encK k,val:=b x}) g (dx k x M):=by
 have f:(a.modify j λe=>{e with key:=encK k,val:=b x}).toList=a.toList.modify j λe=>{e with key:=encK k,val:=b x}:=by
  apply abi;intro i
  simp[abE]
 have n:(a.toList.modify j λe=>{e with key:=encK k,val:=b x}).map (·.born)=a.toList.map (·.born):=by
  apply abi;intro i
  simp only[aaJ,abE]
  split<;>simp[Function.comp_def]
 refine⟨?_,xn h.nd,?_,?_⟩
 ·rw[f,xm h.nd p]
  unfold iG
  have:=h.gS
  unfold iG at this
  apply abi;intro i
  have o:=aaI (λl:List (Value×Value)=>l[i]?) this
  simp only[aaJ]at o
  simp only[aaJ,abE,abF]
  by_cases d:j=i
  ·subst d
   have t:j<M.length:=by
    have:=(abf.1 p).1
    simpa using this
   simp only[aaF,t,aaK]
   cases c:a.toList[j]? with
   |none=>
    have:=List.getElem?_eq_none_iff.1 c
    rw[h.gS.length]at this
    omega
   |some e=>rfl
  ·rw[aaz d, <-o]
   cases a.toList[i]? <;>simp[d]
 ·intro e c
  rw[f]at c
  have m:e.born∈(a.toList.modify j λe=>{e with key:=encK k,val:=b x}).map (·.born):=abo c
  rw[n]at m
  obtain⟨q,s,r⟩:=aaN.1 m
  rw[<-r];exact h.born q s
 ·rw[f,n];exact h.bX
theorem fu.insert{encK:κ->Value}{d:β->Value}{f:Array MapEntry}{c:Nat}{M:List (κ×β)}(h:fu encK d f c M){k:κ}(x:β)(m:k∉M.map (·.1)):
  fu encK d (f.push {key:=encK k,val:=d x,born:=c}) (c+1) (dx k x M):=by
 refine⟨?_,xn h.nd,?_,?_⟩
 ·have:=h.gS
  unfold iG at this⊢
  rw[lG m]
  simp[this]
 ·intro e he
  simp only[Array.toList_push,abk,aa5]at he
  rcases he with he|rfl
  ·have:=h.born e he;omega
  ·simp
 ·simp only[Array.toList_push,List.map_append,aaB,List.map_nil]
  refine abm.2 ⟨h.bX,by simp,?_⟩
  intro a i b j e
  simp only[aa5]at j
  obtain⟨g,l,rfl⟩:=aaN.1 i
  have:=h.born g l
  omega
theorem fu.delete{encK:κ->Value}{d:β->Value}{a:Array MapEntry}{c:Nat}{M:List (κ×β)}(h:fu encK d a c M){k:κ}{j:Nat}(g:(M.map (·.1))[j]? =some k):
  fu encK d (a.eraseIdxIfInBounds j) c (fT k M):=by
 have b:(a.eraseIdxIfInBounds j).toList=a.toList.eraseIdx j:=by simp
 refine⟨?_,Np h.nd,?_,?_⟩
 ·have:=h.gS
  unfold iG at this⊢
  rw[b,sR h.nd g,sQ,sQ,this]
 ·intro e f
  rw[b]at f
  exact h.born e (List.mem_of_mem_eraseIdx f)
 ·rw[b]
  exact h.bX.sublist ((List.eraseIdx_sublist ..).map _)
end
section
variable{κ β:Type} [DecidableEq κ]
def It(Rd:ao)(encK:κ->Value)(encV:β->Value)(m:Value)(M:List (κ×β))(it:Value)(todo:List κ)(Ti:au):Prop:=
 ∃b es clock r seen,m=.map (some b)/\Rd b (.map es clock)/\fu encK encV es clock M/\it=.pointer (some ⟨r,0,none⟩)/\Ti=[(r,.mapIter (some b) clock seen clock)]/\
  todo=((es.toList.zip M).filter λp=> !seen.contains p.1.born).map (·.2.1)
section
variable{P:Program}{N:Nat}{R:ao}{ops:Array Oper}{l:List Oper}{env:Env}{H:aF}{K:Env->aF->Prop}{ty:TypeId}{pos:String}{af:Array Edge}{m:Bool}
variable{encK:κ->Value}{encV:β->Value}{mp:Value}{M:List (κ×β)}{T:au}{upd:au->aF}
theorem mq{w:World}(s:Sat w H)(r:RO w R H):∀b o,Rx R H b o->w.heap[b]? =some o:=λb o h=>by
 rcases h with h|h
 ·exact(r b o h).1
 ·exact s.2 _ h
theorem ya{x k:Value}{kt f t:TypeId}{z:Value}{key:κ}{w:World}{ok:Bool}{b:Nat}{e:Array MapEntry}{d:Nat}(ut:bh P t (.map kt f))(l:eJ P kt encK)(m:Zr P f z)(i:w.heap[b]? =some (.map e d))(h:fu encK encV e d M):
  (Instr.lookup t (.map (some b)) (encK key) ok).run P w=.ok (if ok then .tuple #[((bO key M).map encV).getD z,.bool (bO key M).isSome]else((bO key M).map encV).getD z) w:=by
 obtain⟨r,g,a,n⟩:=h.find (P:=P) (kt:=kt) key w
 unfold Instr.lookup
 simp only[Sem.run_bind,run_underlying ut.h,Result.andThen_ok,jc i,l.ck,g,Sem.run_pure]
 cases r with
 |none=>
  simp only[Option.map_none]at a
  have c:bO key M=none:=by simpa using a.symm
  simp[c,m.h]
 |some jv=>
  obtain⟨j,v⟩:=jv
  simp only[aaK]at a
  rw[<-a]
  have c:(bO key M).isSome=true:=by
   have:=aaI Option.isSome a
   simpa using this.symm
  simp[c]
theorem aI.sO{x y:Operand}{t kt c:TypeId}{z:Value}{key:κ}(h:RM (Rx R H) encK encV mp M)(j:ev env x=some mp)(l:ev env y=some (encK key)) [ut:bh P t (.map kt c)] [m:eJ P kt encK] [o:Zr P c z]:
  aI P R env H (.lookup t x y true) ty (.tuple [((bO key M).map encV).getD z,.bool (bO key M).isSome].toArray):=λa w d u p g e s n=>by
 obtain⟨b,r,q,rfl,f,i⟩:=h
 have:=ya (P:=P) (x:=.nilFunc) (k:=.nilFunc) (t:=t) (ok:=true) (key:=key) ut m o (mq s n _ _ f) i
 simp[execOp,e.eval j,e.eval l,this]
theorem aI.Ng{x y:Operand}{t kt c:TypeId}{z:Value}{key:κ}(h:RM (Rx R H) encK encV mp M)(j:ev env x=some mp)(l:ev env y=some (encK key)) [ut:bh P t (.map kt c)] [m:eJ P kt encK] [o:Zr P c z]:
  aI P R env H (.lookup t x y false) ty (((bO key M).map encV).getD z):=λa w d u p g e s n=>by
 obtain⟨b,r,q,rfl,f,i⟩:=h
 have:=ya (P:=P) (x:=.nilFunc) (k:=.nilFunc) (t:=t) (ok:=false) (key:=key) ut m o (mq s n _ _ f) i
 simp[execOp,e.eval j,e.eval l,this]
omit [DecidableEq κ] in
theorem aI.Nc{x:Operand}{t kt e:TypeId}(h:RM (Rx R H) encK encV mp M)(m:ev env x=some mp) [ut:bh P t (.map kt e)]:aI P R env H (.call ⟨.builtin .len,#[x],#[t]⟩) ty (.int .i64 M.length):=λa w d q o g j s n=>by
 obtain⟨b,c,p,rfl,f,i⟩:=h
 have k:=i.gS.length
 have l:c.size=M.length:=by simpa using k
 simp[execOp,resolve,j.eval m,invoke,builtin,Builtin.len_,run_underlying ut.h,jc (mq s n _ _ f),goInt,l]
omit [DecidableEq κ] in
theorem OJ(n:Nat){t kt a:TypeId}{w:World}{p:Option Nat}(ut:P.underlying t=some (.map kt a)):(Op.equalIn (n+1) t (.map p) (.map none)).run P w=.ok p.isNone w:=by
 cases p<;>simp[Op.equalIn,run_underlying ut]
omit [DecidableEq κ] in
theorem aI.qA{x y:Operand}{t u kt c:TypeId}{p:Option Nat}(e:ev env x=some (.map p))(f:ev env y=some (.map none)) [ut:bh P t (.map kt c)]:aI P R env H (.binOp .neq t x y u) ty (.bool !p.isNone):=λa w d j i g b _ _=>
 qY (op:=.move x) (b.eval e) (b.eval f) (nF rfl) rfl (OJ _ ut.h)
theorem kk{w:World}{H1 H2:aF}{b:Nat}{o o':Obj}(s:Sat w (H1++[(b,o)]::H2)):Frame w (H1++[(b,o)]::H2) (dz w b o') (H1++[(b,o')]::H2)/\Sat (dz w b o') (H1++[(b,o')]::H2):=
 ⟨Frame.set (T1:=[]) (T2:=[]),Sat.set (T1:=[]) (T2:=[]) s⟩
omit [DecidableEq κ] in
theorem MH{b:Nat}{m k:Array MapEntry}{j:Nat}{l:List (κ×β)}(z:fu encK encV m j M)(A:fu encK encV k j l)(x:k.toList.map (·.born)=m.toList.map (·.born))(y:l.map (·.1)=M.map (·.1)){q:Value}{todo:List κ}{o:au}
  (h:It (sg [(b,.map m j)]) encK encV (.map (some b)) M q todo o):It (sg [(b,.map k j)]) encK encV (.map (some b)) l q todo o:=by
 obtain⟨s,C,t,r,n,g,d,i,u,v,w⟩:=h
 simp only[sg,aa5,aaX,Obj.map.injEq]at d
 obtain⟨rfl,rfl,rfl⟩:=d
 refine⟨s,k,t,r,n,g,by simp[sg],A,u,v,?_⟩
 rw[w]
 have B:∀(e c:List MapEntry) (N f:List (κ×β)),c.map (·.born)=e.map (·.born)->f.map (·.1)=N.map (·.1)->e.length=N.length->
   ((e.zip N).filter λp=> !n.contains p.1.born).map (·.2.1)=((c.zip f).filter λp=> !n.contains p.1.born).map (·.2.1):=by
  intro e
  induction e with
  |nil=>intro c N f g d i;cases c<;>simp_all
  |cons a e ih=>
   intro c N f g d i
   cases c with
   |nil=>simp at g
   |cons a' c=>cases N with
    |nil=>simp at i
    |cons p N=>cases f with
     |nil=>simp at d
     |cons p' f=>
      simp only[aaB,abn]at g d
      simp only[aaZ,abD]at i
      have:=ih c N f g.2 d.2 i
      simp only[abG,aaP,g.1]
      split
      ·simp only[aaB,this,d.1]
      ·exact this
 exact B _ _ _ _ x y (z.gS.length)
theorem OP{P:Program}{kt l t:TypeId}{key:κ}{x:β}{w:World}{b:Nat}{a:Array MapEntry}{d:Nat}(ut:bh P t (.map kt l))(g:eJ P kt encK)(c:w.heap[b]? =some (.map a d))(h:fu encK encV a d M):
  ∃es' clock',(Instr.mapUpdate t (.map (some b)) (encK key) (encV x)).run P w=.ok () (dz w b (.map es' clock'))/\fu encK encV es' clock' (dx key x M)/\
   (key∈M.map (·.1)->clock'=d/\es'.toList.map (·.born)=a.toList.map (·.born)):=by
 obtain⟨r,k,s,f⟩:=h.find (P:=P) (kt:=kt) key w
 cases r with
 |none=>
  refine⟨_,_,?_,h.insert x f,λq=>absurd q f⟩
  unfold Instr.mapUpdate
  simp only[Sem.run_bind,run_underlying ut.h,Result.andThen_ok,jc c,g.ck,k,mn c]
 |some jv=>
  obtain⟨j,v⟩:=jv
  obtain⟨m,e,n,o⟩:=f
  refine⟨_,_,?_,h.update x m,λ_=>⟨rfl,?_⟩⟩
  ·unfold Instr.mapUpdate
   simp only[Sem.run_bind,run_underlying ut.h,Result.andThen_ok,jc c,g.ck,k,n,aaK,Option.getD_some,o]
   have:(Instr.keyThatStays (encK key) (encK key)).run P w=.ok (encK key) w:=by
    unfold Instr.keyThatStays
    rw[g.same];rfl
   rw[this]
   simp only[Result.andThen_ok,mn c]
  ·apply abi;intro i
   simp only[aaJ,abB,abp]
   split
   ·rename_i p;subst p;cases a[j]? <;>simp
   ·rfl
theorem aB.update{t kt p:TypeId}{x y z:Operand}{key:κ}{u:β}(h:MS encK encV mp M T) [L:dE H T upd] [ut:bh P t (.map kt p)] [I:eJ P kt encK](E:ev env x=some mp)(F:ev env y=some (encK key))(G:ev env z=some (encV u))
  (C:∀T',MS encK encV mp (dx key u M) T'->(key∈M.map (·.1)->∀it todo Ti,It (sg T) encK encV mp M it todo Ti->It (sg T') encK encV mp (dx key u M) it todo Ti)->aB false P N R ops l env (upd T') K):
  aB false P N R ops (⟨none,.mapUpdate t x y z,ty,pos,af,none⟩::l) env H K:=
 aB.mI λa w e s S=>by
  obtain⟨b,o,m,rfl,rfl,i⟩:=h
  obtain⟨O,Q,n,g⟩:=L.h
  subst n
  have q:w.heap[b]? =some (.map o m):=s.2 (b,_) (by simp)
  obtain⟨d,c,D,k,A⟩:=OP (P:=P) (key:=key) (x:=u) ut I q i
  obtain⟨f,J⟩:=kk (o':=.map d c) s
  refine⟨_,upd [(b,.map d c)],.inl ?_,by rw[g];exact f,by rw[g];exact J,C _ ⟨b,d,c,rfl,rfl,k⟩ λj it todo Ti B=>?_⟩
  ·simp[execOp,e.eval E,e.eval F,e.eval G,D]
  ·obtain⟨v,r⟩:=A j
   subst v
   exact MH i k r (by rw[qz,aaA j]) B
theorem OI{P:Program}{kt s t:TypeId}{key:κ}{w:World}{b:Nat}{i:Array MapEntry}{l:Nat}{ty:TypeId}{t2:TypeId}(ut:bh P t (.map kt s))(q:eJ P kt encK)(m:w.heap[b]? =some (.map i l))(h:fu encK encV i l M):
  ∃es',(Builtin.delete_ #[t,t2] ty #[.map (some b),encK key]).run P w=.ok (.tuple #[]) (dz w b (.map es' l))/\fu encK encV es' l (fT key M)/\
   ∀seen:Array Nat,((es'.toList.zip (fT key M)).filter λp=> !seen.contains p.1.born).map (·.2.1)=(((i.toList.zip M).filter λp=> !seen.contains p.1.born).map (·.2.1)).filter λk=>decide (k≠key):=by
 obtain⟨r,d,g,c⟩:=h.find (P:=P) (kt:=kt) key w
 have o:∀(e:List MapEntry) (N:List (κ×β)) (seen:Array Nat),key∉N.map (·.1)->(((e.zip N).filter λp=> !seen.contains p.1.born).map (·.2.1)).filter (λk=>decide (k≠key))=((e.zip N).filter λp=> !seen.contains p.1.born).map (·.2.1):=by
  intro e N seen u
  rw[List.filter_eq_self]
  intro k x
  obtain⟨p,B,rfl⟩:=aaN.1 x
  have C:=(List.of_mem_zip ((abj.1 B).1:(p.1,p.2)∈e.zip N)).2
  simp only[ne_eq,decide_eq_true_eq]
  exact λe=>u (e▸abo (f:=(·.1)) C)
 cases r with
 |none=>
  refine⟨i,?_,by rw[sS c];exact h,λseen=>by rw[sS c,o _ _ _ c]⟩
  unfold Builtin.delete_
  simp only[aaH,abc,aaS,Sem.run_bind,run_underlying ut.h,Result.andThen_ok,jc m,q.ck,d,mn m,Sem.run_pure]
 |some jv=>
  obtain⟨j,v⟩:=jv
  obtain⟨n,e,E,F⟩:=c
  refine⟨i.eraseIdxIfInBounds j,?_,h.delete n,λseen=>?_⟩
  ·unfold Builtin.delete_
   simp only[aaH,abc,aaS,Sem.run_bind,run_underlying ut.h,Result.andThen_ok,jc m,q.ck,d,mn m,Sem.run_pure]
  ·have y:(i.eraseIdxIfInBounds j).toList=i.toList.eraseIdx j:=by simp
   rw[y,sR h.nd n]
   have D:∀(e:List MapEntry) (N:List (κ×β)) (j:Nat),(N.map (·.1)).Nodup->(N.map (·.1))[j]? =some key->e.length=N.length->
     (((e.eraseIdx j).zip (N.eraseIdx j)).filter λp=> !seen.contains p.1.born).map (·.2.1)=(((e.zip N).filter λp=> !seen.contains p.1.born).map (·.2.1)).filter λk=>decide (k≠key):=by
    intro e
    induction e with
    |nil=>intro N j d g c;cases N<;>simp_all
    |cons a e ih=>
     intro N j d g c
     cases N with
     |nil=>simp at c
     |cons p N=>
      simp only[aaB,aa9]at d
      simp only[aaZ,abD]at c
      cases j with
      |zero=>
       simp at g
       have z:key∉N.map (·.1):=g▸d.1
       have:=o e N seen z
       simp only[List.eraseIdx_cons_zero,abG,aaP]
       split
       ·simp only[aaB,aaP,g,ne_eq,not_true,aa0,aaD,aaC];exact this.symm
       ·exact this.symm
      |succ j=>
       simp only[aaB,aaS]at g
       have A:p.1≠key:=λe=>d.1 (e▸aaY g)
       have:=ih N j d.2 g c
       simp only[List.eraseIdx_cons_succ,abG,aaP]
       split
       ·simp only[aaB,aaP,A,ne_eq,abg,decide_true,aaF,this]
       ·exact this
   exact D _ _ _ h.nd n h.gS.length
theorem aB.delete{t t2 kt q:TypeId}{x y:Operand}{key:κ}(h:MS encK encV mp M T) [Q:dE H T upd] [ut:bh P t (.map kt q)] [L:eJ P kt encK](I:ev env x=some mp)(J:ev env y=some (encK key))
  (F:∀T',MS encK encV mp (fT key M) T'->(∀it todo Ti,It (sg T) encK encV mp M it todo Ti->It (sg T') encK encV mp (fT key M) it (todo.filter λk=>decide (k≠key)) Ti)->aB false P N R ops l env (upd T') K):
  aB false P N R ops (⟨none,.call ⟨.builtin .delete,#[x,y],#[t,t2]⟩,ty,pos,af,none⟩::l) env H K:=
 aB.mI λa w i s Y=>by
  obtain⟨b,p,c,rfl,rfl,B⟩:=h
  obtain⟨U,V,o,e⟩:=Q.h
  subst o
  have C:w.heap[b]? =some (.map p c):=s.2 (b,_) (by simp)
  obtain⟨d,G,j,D⟩:=OI (P:=P) (key:=key) (ty:=ty) (t2:=t2) ut L C B
  obtain⟨f,O⟩:=kk (o':=.map d c) s
  refine⟨_,upd [(b,.map d c)],.inr ⟨.tuple #[],?_⟩,by rw[e];exact f,by rw[e];exact O,F _ ⟨b,d,c,rfl,rfl,j⟩ λit todo Ti E=>?_⟩
  ·simp[execOp,resolve,i.eval I,i.eval J,invoke,builtin,G]
  ·obtain⟨m,W,n,r,S,u,g,X,v,z,A⟩:=E
   simp only[sg,aa5,aaX,Obj.map.injEq]at g
   obtain⟨rfl,rfl,rfl⟩:=g
   exact⟨m,d,n,r,S,u,by simp[sg],j,v,z,by rw[A,D]⟩
omit [DecidableEq κ] in
theorem aB.range{d:Nat}{x:Operand}{t kt k:TypeId}{e:ao}(h:RM e encK encV mp M)(v:∀b o,e b o->Rx R H b o)(y:ev env x=some mp) [ut:bh P t (.map kt k)]
  (u:∀it Ti,It e encK encV mp M it (M.map (·.1)) Ti->aB false P N R ops l ((d,it)::env) (Ti::H) K)(q:Nat.blt d N=true:=by rfl):
  aB false P N R ops (⟨some d,.range t x,ty,pos,af,none⟩::l) env H K:=
 aB.lv q λa w m s z=>by
  obtain⟨b,c,f,rfl,g,i⟩:=h
  have n:=mq s z _ _ (v _ _ g)
  refine⟨.pointer (some ⟨w.heap.size,0,none⟩),w.alloc (.mapIter (some b) f #[] f),_,?_,Frame.alloc w H _,Sat.alloc s _,u _ _ ⟨b,c,f,w.heap.size,#[],rfl,g,i,rfl,rfl,?_⟩⟩
  ·simp[execOp,m.eval y,Instr.range,run_underlying ut.h,jc n,newObj,Sem.run]
  ·have r:(c.toList.zip M).filter (λp=> !(#[]:Array Nat).contains p.1.born)=c.toList.zip M:=by
    rw[List.filter_eq_self];intro p _;simp
   rw[r]
   have A:=i.gS.length
   have:(c.toList.zip M).map (·.2)=M:=List.map_snd_zip (by omega)
   have j:=aaI (List.map (·.1)) this
   rw[List.map_map]at j
   exact j.symm
theorem aB.next{d:Nat}{x:Operand}{Rd:ao}{it:Value}{todo:List κ}{Ti:au}(h:It Rd encK encV mp M it todo Ti) [sa:dE H Ti upd](hrd:∀b o,Rd b o->Rx R H b o)(hx:ev env x=some it)
  (h0:todo=[]->aB false P N R ops l ((d,.tuple [.bool false].toArray)::env) H K)
  (hn:∀k u Ti',k∈todo->bO k M=some u->It Rd encK encV mp M it (todo.filter λk'=>decide (k'≠k)) Ti'->aB false P N R ops l ((d,.tuple [.bool true,encK k,encV u].toArray)::env) (upd Ti') K)(hd:Nat.blt d N=true:=by rfl):
  aB false P N R ops (⟨some d,.next x false,ty,pos,af,none⟩::l) env H K:=
 aB.lv hd λa w ha s ro=>by
  obtain⟨b,es,clock,r,seen,rfl,h2,h3,rfl,rfl,h6⟩:=h
  obtain⟨H1,H2,e1,e2⟩:=sa.h
  have hb:=mq s ro _ _ (hrd _ _ h2)
  subst e1
  have hr:w.heap[r]? =some (.mapIter (some b) clock seen clock):=s.2 (r,_) (by simp)
  have hgi:(getObj r).run P w=.ok (.mapIter (some b) clock seen clock) w:=by simp[getObj,Sem.run,hr]
  have hl:=h3.gS.length
  have hbo:=h3.born
  -- what may come
  have hleft:es.filter (λe=> !seen.contains e.born)=((es.toList.filter λe=> !seen.contains e.born)).toArray:=by
   apply Array.toList_inj.1;rw[Array.toList_filter]
  have htodo:(es.toList.filter λe=> !seen.contains e.born).length=todo.length:=by
   rw[h6,abh]
   have:((es.toList.zip M).filter λp=> !seen.contains p.1.born).length=(((es.toList.zip M).map (·.1)).filter λe=> !seen.contains e.born).length:=by
    rw[List.filter_map,abh];rfl
   rw[this,List.map_fst_zip (by omega)]
  have hguard:(!seen.isEmpty&& !es.isEmpty&&es.all (λe=>decide (e.born≥clock)))=false:=by
   cases hes:es.toList with
   |nil=>
    have:es= #[]:=by simpa using hes
    simp[this]
   |cons e rest=>
    have h1:=hbo e (by rw[hes];simp)
    have:es.all (λe=>decide (e.born≥clock))=false:=by
     rw[<-Array.all_toList,hes]
     simp;omega
    rw[this,Bool.and_false]
  have hold:(es.filter λe=> !seen.contains e.born).filter (λe=>decide (e.born<clock))=es.filter λe=> !seen.contains e.born:=by
   rw[Array.filter_eq_self]
   intro e he
   have:=hbo e (by simpa using(abq.1 he).1)
   simpa using this
  have hnew:(es.filter λe=> !seen.contains e.born).filter (λe=>decide (e.born≥clock))= #[]:=by
   rw[Array.filter_eq_empty_iff]
   intro e he
   have:=hbo e (by simpa using(abq.1 he).1)
   simpa using this
  by_cases ht:todo=[]
  ·refine⟨.tuple #[.bool false],w,_,?_,Frame.refl _ _,s,h0 ht⟩
   have he:es.filter (λe=> !seen.contains e.born)= #[]:=by
    rw[hleft]
    have:(es.toList.filter λe=> !seen.contains e.born)=[]:=abd (by rw[htodo,ht];rfl)
    rw[this]
   have hc:(choose (.mapNext 1)).run P w=.ok 0 w:=by simp[choose,Sem.run,Question.forced]
   simp only[execOp,ha.eval hx,Instr.next,Sem.run_bind,hgi,jc hb,Result.andThen_ok,hguard,aaD,aaC,he]
   simp[hc]
  ·have hne:(es.filter λe=> !seen.contains e.born).isEmpty=false:=by
    rw[hleft]
    cases hf:(es.toList.filter λe=> !seen.contains e.born)with
    |nil=>rw[hf]at htodo;exact absurd (abd htodo.symm) ht
    |cons _ _=>rfl
   have hpos:0<todo.length:=List.length_pos_iff.2 ht
   have hsz:(es.filter λe=> !seen.contains e.born).size=todo.length:=by rw[hleft];simpa using htodo
   obtain⟨n,w1,hc,hlt,hw1⟩:∃n w1,(choose (.mapNext todo.length)).run P w=.ok n w1/\n<todo.length/\∃q,w1={w with drawn:=q}:=by
    by_cases h1:todo.length<=1
    ·exact⟨0,w,by simp[choose,Sem.run,Question.forced,h1],hpos,w.drawn,rfl⟩
    ·exact⟨_,_,by simp only[choose,Sem.run,Question.forced,h1,aa0,aaD,aaC];rfl,by simp only[Question.cut];exact Nat.mod_lt _ hpos,_,rfl⟩
   obtain⟨q,rfl⟩:=hw1
   have hn':n<(es.toList.filter λe=> !seen.contains e.born).length:=by rw[htodo];exact hlt
   generalize he:(es.toList.filter λe=> !seen.contains e.born)[n]=e
   have hem:e∈es.toList.filter λe=> !seen.contains e.born:=he▸abr hn'
   obtain⟨hes,hns⟩:=abj.1 hem
   obtain⟨j,hj,hje⟩:=aa1.1 hes
   have hjM:j<M.length:=by omega
   have hpair:(e.key,e.val)=(encK M[j].1,encV M[j].2):=by
    have:=aaI (λl:List (Value×Value)=>l[j]?) h3.gS
    simp only[aaJ,aaL hj,aaL hjM,aaK,aa8,hje]at this
    exact this
   injection hpair with hp1 hp2
   have hzip:(e,M[j])∈es.toList.zip M:=by
    refine aa1.2 ⟨j,by rw[abt];omega,?_⟩
    simp only[abu,hje]
   have hkt:M[j].1∈todo:=by
    rw[h6]
    exact aaN.2 ⟨(e,M[j]),abj.2 ⟨hzip,hns⟩,rfl⟩
   have hget:bO M[j].1 M=some M[j].2:=jl h3.nd (abr hjM)
   have hrun:(execOp a.eval ⟨some d,.next x false,ty,pos,af,none⟩).run P w=.ok (.value (.tuple #[.bool true,e.key,e.val])) (dz {w with drawn:=q} r (.mapIter (some b) clock (seen.push e.born) clock)):=by
    have hcand:∀(A:Array MapEntry),A.isEmpty=false->(if A.isEmpty=true then #[none]else #[])++(A++ #[]).map some=A.map some:=λA hA=>by simp[hA]
    have hget2:((es.filter λe=> !seen.contains e.born).map some)[n]? =some (some e):=by
     rw[hleft]
     simp only[List.map_toArray,aaH,aaJ,aaL hn',he,aaK]
    have hset:(setObj r (.mapIter (some b) clock (seen.push e.born) clock)).run P {w with drawn:=q}=.ok () (dz {w with drawn:=q} r (.mapIter (some b) clock (seen.push e.born) clock)):=by
     have:({w with drawn:=q}:World).heap[r]? =some (.mapIter (some b) clock seen clock):=hr
     simp[setObj,Sem.run,this,dz]
    simp only[execOp,ha.eval hx,Instr.next,Sem.run_bind,hgi,jc hb,Result.andThen_ok,hguard,aaD,aaC,hold,hnew]
    rw[hcand _ hne]
    simp only[Array.size_map,hsz,hc,Result.andThen_ok,hget2,Sem.run_bind,hset,Sem.run_pure]
   obtain⟨f,s'⟩:=kk (w:={w with drawn:=q}) (o':=.mapIter (some b) clock (seen.push e.born) clock) (s.drew q)
   refine⟨_,_,upd [(r,.mapIter (some b) clock (seen.push e.born) clock)],hrun,by rw[e2];exact(Frame.drew w _ q).trans f,by rw[e2];exact s',?_⟩
   rw[hp1,hp2]
   refine hn M[j].1 M[j].2 _ hkt hget ⟨b,es,clock,r,seen.push e.born,rfl,h2,h3,rfl,rfl,?_⟩
   rw[h6]
   -- the one that came is no more to come, all others are
   have key:∀(l:List (MapEntry×(κ×β))),(∀p∈l,(p.1.born=e.born↔p.2.1=M[j].1))->
     ((l.filter λp=> !seen.contains p.1.born).map (·.2.1)).filter (λk'=>decide (k'≠M[j].1))=(l.filter λp=> !(seen.push e.born).contains p.1.born).map (·.2.1):=by
    intro l
    induction l with
    |nil=>intro _;rfl
    |cons p l ih=>
     intro hp
     have h1:=hp p (by simp)
     have h2:=ih λq hq=>hp q (by simp[hq])
     simp only[abv]at h2
     simp only[aaP,abv]
     by_cases hc:seen.contains p.1.born=true
     ·simp only[hc,aa7,aaD,aaC,Bool.true_or];exact h2
     ·simp only[Bool.not_eq_true]at hc
      simp only[hc,aa3,aaF,Bool.false_or,aaB,aaP]
      by_cases hb:p.1.born=e.born
      ·have:=h1.1 hb
       simp only[this,ne_eq,not_true,aa0,aaD,aaC,hb,abC,aa7];simpa only[ne_eq]using h2
      ·have hk:¬p.2.1=M[j].1:=λhk=>hb (h1.2 hk)
       have hb':(p.1.born==e.born)=false:=by simpa using hb
       simp only[hk,ne_eq,abg,decide_true,aaF,hb',aa3,aaB]
       exact aaI _ (by simpa only[ne_eq]using h2)
   refine key _ λp hp=>?_
   obtain⟨i,hi,hpi⟩:=aa1.1 hp
   have hi':i<es.toList.length:=by simp only[abt]at hi;omega
   have hiM:i<M.length:=by omega
   rw[abu]at hpi
   subst hpi
   simp only
   constructor
   ·intro hb
    have:i=j:=(abw (h:=h3.bX) (i:=i) (j:=j) (h₀:=by simpa using hi') (h₁:=by simpa using hj)).1 (by rw[aaQ,aaQ,hb,hje])
    subst this;rfl
   ·intro hk
    have:i=j:=(abw (h:=h3.nd) (i:=i) (j:=j) (h₀:=by simpa using hiM) (h₁:=by simpa using hjM)).1 (by rw[aaQ,aaQ];exact hk)
    subst this;rw[hje]
end
end
section
def marked(n:Nat):List Nat->Array Bool
 |[]=>Array.replicate n false
 |i::d=>(marked n d).setIfInBounds i true
def pZ(Q':Act->World->Prop):Exit->Act->World->Prop
 | .normal,a,w=>Q' a w
 |_,_,_=>False
structure ju(ops:Array Oper)(listed:Array Bool):Prop where
 size:listed.size=ops.size
 cl:∀j oj,ops[j]? =some oj->listed.getD j false=true->∀e∈oj.after,Region.binds .any e=true->listed.getD e.on false=true
theorem ju.set{b:Array Oper}{a:Array Bool}{i:Nat}(h:ju b a)(hi:i∈Region.ready .any b a):ju b (a.setIfInBounds i true):=by
 obtain⟨_,o,n,m⟩:=mem_ready.1 hi
 refine⟨by simp[h.size],λj l g k e d c=>?_⟩
 by_cases f:i=j
 ·subst f
  have:l=o:=Option.some.inj (g.symm.trans n)
  subst this
  exact getD_set_true (m e d c)
 ·rw[getD_set_ne false f]at k
  exact getD_set_true (h.cl j l g k e d c)
def oH(ops:Array Oper):Nat->Nat->Nat->Bool
 |0,_,_=>false
 |f+1,k,i=>match ops[k]? with
  |some o=>o.after.any λe=>Region.binds .any e&&(Nat.beq e.on i||oH ops f e.on i)
  |none=>false
theorem ju.waits{c:Array Oper}{b:Array Bool}(h:ju c b){i:Nat}:∀(f k:Nat),oH c f k i=true->b.getD k false=true->b.getD i false=true
 |0,k,hw,_=>by simp[oH]at hw
 |f+1,k,hw,hk=>by
  unfold oH at hw
  cases ho:c[k]? with
  |none=>simp[ho]at hw
  |some o=>
   simp only[ho]at hw
   obtain⟨e,g,a⟩:=Array.any_eq_true'.1 hw
   simp only[abH,Bool.or_eq_true]at a
   have d:=h.cl k o ho hk e g a.1
   rcases a.2 with h3|h3
   ·rwa [Nat.eq_of_beq_eq_true h3]at d
   ·exact h.waits f e.on h3 d
def rD(listed listed':Array Bool):Prop:=∀j,listed.getD j false=true->listed'.getD j false=true
def pQ(P:Program)(ops:Array Oper)(Q:Exit->Act->World->Prop)(S:Array Bool->World->Prop):Nat->Array Bool->Act->World->Prop
 |0,listed,a,w=>Region.ready .any ops listed=[]/\Q .normal a w
 |fuel+1,listed,a,w=>
  (Region.ready .any ops listed=[]->Q .normal a w)/\
  ∀i∈Region.ready .any ops listed,wpOp P ops Q i (λa' w'=>S (listed.setIfInBounds i true) w'/\pQ P ops Q S fuel (listed.setIfInBounds i true) a' w') a w
theorem ui{P:Program}{b:Array Oper}{Q:Exit->Act->World->Prop}{S:Array Bool->World->Prop}:∀(fuel:Nat) (listed:Array Bool) (a:Act) (w:World),pQ P b Q S fuel listed a w->wpAny P .any b Q fuel listed a w
 |0,_,_,_,h=>h
 |fuel+1,_,_,_,h=>⟨h.1,λi e=>wpOp_mono (λc f d=>ui fuel _ c f d.2) (h.2 i e)⟩
def iL(P:Program)(ops:Array Oper)(S:Array Bool->World->Prop)(listed:Array Bool)(i:Nat)(o:Oper)(v:Value)(a:Act):Prop:=
 (Region.wanted o (yielded ops a.tmps)=true/\∀l',rD listed l'->ju ops l'->l'.getD i true=false->∀w,S l' w->(execOp a.eval o).run P w=.ok (.value v) w)\/
 (Region.wanted o (yielded ops a.tmps)=false/\v=undef)
section
variable{P:Program}{ops:Array Oper}{Q:Exit->Act->World->Prop}{S:Array Bool->World->Prop}
theorem iL.sup{c b:Array Bool}{i:Nat}{o:Oper}{v:Value}{a:Act}(h:iL P ops S c i o v a)(m:rD c b):iL P ops S b i o v a:=
 h.imp (λ⟨d,e⟩=>⟨d,λp l f g w n=>e p (λj k=>l j (m j k)) f g w n⟩) id
theorem iL.of_same{c:Array Bool}{i:Nat}{o:Oper}{v:Value}{a b:Act}(f:iL P ops S c i o v a)(d:execOp b.eval o=execOp a.eval o)
  (e:Region.wanted o (yielded ops b.tmps)=Region.wanted o (yielded ops a.tmps)):iL P ops S c i o v b:=by
 unfold iL at *
 rw[d,e]
 exact f
theorem iL.wpOp{i:Nat}{o:Oper}{v:Value}{a:Act}{b:Array Bool}(hi:ops[i]? =some o)(j:iL P ops S b i o v a)(e:ju ops b)(f:b.getD i true=false)
  {K:Act->World->Prop}{w:World}(d:S b w)(h:K (a.put o.dst v) w):wpOp P ops Q i K a w:=by
 unfold Go.wpOp
 simp only[hi]
 rcases j with⟨c,g⟩|⟨c,rfl⟩
 ·simp only[c,aaF,Oper.wp,g b (λ_ h=>h) e f w d,Oper.upon];exact .inl h
 ·simp only[c,aaD,aaC];exact h
theorem QF{i j:Nat}{g k:Oper}{v:Value}{q:Array Bool}(D:ops[j]? =some k)(C:g.apart ops k=true)
  (F:∀cs b,g.op≠ .select cs b)(B:∀cs b,k.op≠ .select cs b)
  (z:∀c a w,Q (.panic c) (a.put g.dst v) w->Q (.panic c) a w){K:Act->World->Prop}{a:Act}{w:World}
  (l:iL P ops S q i g v a)(h:wpOp P ops Q j K (a.put g.dst v) w):
  wpOp P ops Q j (λa' w'=>iL P ops S q i g v a'/\K (a'.put g.dst v) w') a w:=by
 obtain⟨s,m,y⟩:=Oper.apart_spec C
 have o:∀(a:Act),iL P ops S q i g v a->∀u,iL P ops S q i g v (a.put k.dst u):=λa l u=>
  l.of_same (execOp_put g F a k.dst u y) (wanted_put g a k.dst u y)
 have G:∀d,iL P ops S q i g v {a with defers:=d::a.defers}:=λd=>l.of_same rfl rfl
 unfold Go.wpOp at *
 simp only[D]at *
 rw[wanted_put k a g.dst v s]at h
 split
 ·rename_i t
  simp only[t,aaF]at h
  rcases h with h|⟨A,E⟩
  case inr=>exact .inr ⟨by unfold Oper.asks at *;rw[execOp_put k B a g.dst v s]at A;exact A,E⟩
  refine .inl ?_
  unfold Oper.wp at *
  rw[execOp_put k B a g.dst v s]at h
  generalize (execOp a.eval k).run P w=r at *
  cases r with
  |ok n w'=>
   cases n<;>simp only[Oper.upon]at h⊢
   case value u=>exact⟨o a l u,by rw[<-Act.put_comm a v u m];exact h⟩
   case skip=>exact⟨o a l _,by rw[<-Act.put_comm a v undef m];exact h⟩
   case defer d=>
    refine⟨o _ (G d) _,?_⟩
    rw[<-Act.put_comm _ v undef m, <-Act.put_defers]
    exact h
   case enter f args=>
    refine Calls.mono h λe H p=>?_
    cases e with
    |returned u=>exact⟨o a l u,by rw[<-Act.put_comm a v u m];exact p⟩
    |panicked c=>exact z _ _ _ p
    |outgrown=>exact p
   case row row args=>exact Rows.mono h λu H p=>⟨o a l u,by rw[<-Act.put_comm a v u m];exact p⟩
  |halt x w'=>
   cases x<;>simp only[Oper.upon]at h⊢
   case panic u=>exact z _ _ _ h
 ·rename_i t
  simp only[t]at h
  exact⟨o a l _,by rw[<-Act.put_comm a v undef m];exact h⟩
theorem QE{i:Nat}{m:Oper}{v:Value}(x:∀l w,S (l.setIfInBounds i true) w↔S l w)(hi:ops[i]? =some m)(F:∀(j:Nat) (o:Oper) cs b,ops[j]? =some o->o.op≠ .select cs b)
  (M:∀c a w,Q (.panic c) (a.put m.dst v) w->Q (.panic c) a w):
  ∀(fuel:Nat) (listed:Array Bool) (a:Act) (w:World),
   (∀j oj,ops[j]? =some oj->j≠i->listed.getD j true=false->(∀e∈oj.after,Region.binds .any e=true->e.on≠i)->m.apart ops oj=true)->
   i∈Region.ready .any ops listed->ju ops listed->iL P ops S listed i m v a->S listed w->
   pQ P ops Q S fuel (listed.setIfInBounds i true) (a.put m.dst v) w->pQ P ops Q S (fuel+1) listed a w:=by
 intro fuel
 induction fuel with
 |zero=>
  intro listed a w _ d s t n H
  refine⟨λh=>(by rw[h]at d;cases d),λj p=>?_⟩
  by_cases f:j=i
  ·subst f;exact t.wpOp hi s (mem_ready.1 d).1 n ⟨(x _ _).2 n,H⟩
  ·have:=ready_mono p f
   rw[H.1]at this
   cases this
 |succ fuel ih=>
  intro listed a w C d s t n H
  refine⟨λh=>(by rw[h]at d;cases d),λj p=>?_⟩
  by_cases f:j=i
  ·subst f;exact t.wpOp hi s (mem_ready.1 d).1 n ⟨(x _ _).2 n,H⟩
  ·have g:=H.2 j (ready_mono p f)
   obtain⟨E,oj,u,N⟩:=mem_ready.1 p
   have Z:∀e∈oj.after,Region.binds .any e=true->e.on≠i:=λe T O U=>by
    have g:=N e T O
    have y:=(mem_ready.1 d).1
    rw[U]at g
    rcases aaR i listed.size with h'|h'
    ·simp[h']at y g;rw[y]at g;cases g
    ·simp[Array.getElem?_eq_none h']at g
   have J:=QF u (C j oj u f E Z) (λcs b=>F i m cs b hi) (λcs b=>F j oj cs b u) M t g
   have V:∀k r,ops[k]? =some r->k≠i->(listed.setIfInBounds j true).getD k true=false->
     (∀e∈r.after,Region.binds .any e=true->e.on≠i)->m.apart ops r=true:=λk r W X G Y=>by
    refine C k r W X ?_ Y
    by_cases D:j=k
    ·subst D;exact E
    ·rw[getD_set_ne true D]at G;exact G
   have a0:rD listed (listed.setIfInBounds j true):=λq hq=>getD_set_true hq
   refine wpOp_mono (λI w' K=>?_) J
   obtain⟨L,z,A⟩:=K
   rw[Array.setIfInBounds_comm _ _ (Ne.symm f)]at z A
   have B:=(x _ _).1 z
   exact⟨B,ih (listed.setIfInBounds j true) I w' V (ready_mono d (Ne.symm f)) (s.set p) (L.sup a0) B A⟩
end
def ll(R:ao)(Ho:aF)(Ms:List Nat)(l:Array Bool)(w:World):Prop:=
 (∀b o,R b o->w.heap[b]? =some o)/\((∀k∈Ms,l.getD k false=false)->Sat w Ho/\RO w R Ho)
theorem ll.same{R:ao}{c:aF}{b:List Nat}{i:Nat}(hi:b.contains i=false)(l:Array Bool)(w:World):ll R c b (l.setIfInBounds i true) w↔ll R c b l w:=by
 have d:∀k∈b,i≠k:=λk a e=>by subst e;simp[a]at hi
 unfold ll
 refine and_congr_right λ_=>?_
 have:(∀k∈b,(l.setIfInBounds i true).getD k false=false)↔∀k∈b,l.getD k false=false:=⟨λh k a=>by have:=h k a;rwa [getD_set_ne false (d k a)]at this,λh k a=>by rw[getD_set_ne false (d k a)];exact h k a⟩
 rw[this]
class kr(A B:aF):Prop where h:∃G:au,B.flatten.Perm (A.flatten++G)
instance kr.refl(A:aF):kr A A:=⟨⟨[],by simp⟩⟩
instance kr.cons(A B:aF)(T:au) [s:kr A B]:kr A (T::B):=⟨by
 obtain⟨G,h⟩:=s.h
 refine⟨T++G,?_⟩
 rw[aaT]
 refine(h.append_left T).trans ?_
 rw[<-aaE, <-aaE]
 exact aa2.append_right _⟩
theorem kr.sat{A B:aF}(s:kr A B){w:World}(h:Sat w B):Sat w A:=bu.sat s.h h
theorem kr.ro{A B:aF}(s:kr A B){w:World}{R:ao}(h:RO w R B):RO w R A:=λb o a=>⟨(h b o a).1,λp d=>by
 obtain⟨G,c⟩:=s.h
 exact(h b o a).2 p (c.mem_iff.2 (abI _ d))⟩
def RA(P:Program)(N:Nat)(R:ao)(ops:Array Oper)(Ho:aF)(Ms:List Nat)(done:List Nat)(env:Env)(H:aF)(K:Env->aF->Prop):Prop:=
 ∀(Q':Act->World->Prop) (w0:World) (H0:aF),(∀env' H' a' w',K env' H'->St N R a' w' env' H' w0 H0->Q' a' w')->
  ju ops (marked ops.size done)->∀a w,St N R a w env H w0 H0->ll R Ho Ms (marked ops.size done) w->pQ P ops (pZ Q') (ll R Ho Ms) (ops.size-done.length) (marked ops.size done) a w
section
variable{P:Program}{N:Nat}{R:ao}{ops:Array Oper}{l:List Oper}{env:Env}{H Ho:aF}{Ms:List Nat}{K:Env->aF->Prop}{Q:Exit->Env->aF->Prop}{m:Bool}{done:List Nat}
theorem St.pb{a:Act}{w c:World}{b:aF}(is:List Nat)(s:St N R a w env H c b):St N (Rx R (rest is H)) a w env (take is H) w (take is H):=
 ⟨s.defers,s.size,s.env,(lN s.sat).1,RO.split s.sat s.ro,Frame.refl _ _⟩
theorem St.back{a d:Act}{w w' g:World}{c H':aF}{e:Env}(is:List Nat)(s:St N R a w env H g c)(b:St N (Rx R (rest is H)) d w' e H' w (take is H)):St N R d w' e (H'++rest is H) g c:=by
 obtain⟨h,f⟩:=mZ s.sat b.sat b.fr
 exact⟨b.defers,b.size,b.env,h,s.ro.frame f,s.fr.trans f⟩
theorem aB.pb(is:List Nat)(h:aB m P N (Rx R (rest is H)) ops l env (take is H) λenv' H'=>K env' (H'++rest is H)):aB m P N R ops l env H K:=λb j f c a w s=>
 h b w (take is H) (λenv' H' g i d e=>c _ _ _ _ d (s.back is e)) a w (s.pb is)
theorem ju.none(b:Array Oper):ju b (marked b.size []):=⟨by simp[marked],λj d c a=>by
 simp only[marked,Array.getD_eq_getD_getElem?,Array.getElem?_replicate]at a
 split at a<;>simp at a⟩
theorem bF.nZ{id:Nat}(is:List Nat)(i:List Nat)(q:P.follows .mixedOrders=true)(h:RA P N (Rx R (rest is H)) l.toArray (take is H) i [] env (take is H) λenv' H'=>Q .normal env' (H'++rest is H)):bF P N R (.region id l.toArray true) env H Q:=
 λj t g m a w s=>by
  have f:St N R a {w with drawn:=w.drawn+1} env H t g:=s.step (Frame.drew w H _) (s.sat.drew _)
  have c:=f.pb is
  have k:=h (j .normal) _ _ (λenv' H' u v p r=>m _ _ _ _ _ p (f.back is r)) (ju.none _) a _ c ⟨λb o n=>(c.ro b o n).1,λ_=>⟨c.sat,c.ro⟩⟩
  refine wp_mono (wp_region_any q (ui _ _ _ _ k)) λe a w d=>?_
  cases e with
  |normal=>exact d
  |_=>exact d.elim
theorem bF.cq{id:Nat}(g:List Nat)(p:P.follows .mixedOrders=true)(h:RA P N R l.toArray H g [] env H (Q .normal)):bF P N R (.region id l.toArray true) env H Q:=
 λi r f k a w s=>by
  have c:St N R a {w with drawn:=w.drawn+1} env H r f:=s.step (Frame.drew w H _) (s.sat.drew _)
  have j:=h (i .normal) _ _ (λv t u x n q=>k _ _ _ _ _ n q) (ju.none _) a _ c ⟨λb o m=>(c.ro b o m).1,λ_=>⟨c.sat,c.ro⟩⟩
  refine wp_mono (wp_region_any p (ui _ _ _ _ j)) λe a w d=>?_
  cases e with
  |normal=>exact d
  |_=>exact d.elim
theorem RA.nil(c:Region.ready .any ops (marked ops.size done)=[])(h:K env H):RA P N R ops Ho Ms done env H K:=λe f d b _ a w s _=>by
 cases ops.size-done.length with
 |zero=>exact⟨c,b _ _ _ _ h s⟩
 |succ n=>exact⟨λ_=>b _ _ _ _ h s,by rw[c];simp⟩
def tk(own:Bool)(ops:Array Oper)(Ms done:List Nat)(i:Nat):Bool:=
 Region.noSelect ops&&Region.free .any ops (marked ops.size done) i&&(Region.ready .any ops (marked ops.size done)).contains i&&Nat.blt done.length ops.size&& !Ms.contains i&&(!own||Ms.all λk=>oH ops ops.size k i)
theorem RA.om{dst:Option Nat}{op:Op}{ty:TypeId}{e:String}{d:Array Edge}{g:Option (Nat×Bool)}{v:Value}(t:Bool)(i:Nat)(hi:ops[i]? =some ⟨dst,op,ty,e,d,g⟩)
  (T:∀a,dH a env->(Region.wanted ⟨dst,op,ty,e,d,g⟩ (yielded ops a.tmps)=true/\∀w,(∀b o,R b o->w.heap[b]? =some o)->(t=true->Sat w Ho/\RO w R Ho)->(execOp a.eval ⟨dst,op,ty,e,d,g⟩).run P w=.ok (.value v) w)\/
   (Region.wanted ⟨dst,op,ty,e,d,g⟩ (yielded ops a.tmps)=false/\v=undef))
  (m:tk t ops Ms done i=true)
  (I:∀a w w0 H0,St N R a w env H w0 H0->∃env',St N R (a.put dst v) w env' H w0 H0/\RA P N R ops Ho Ms (i::done) env' H K):RA P N R ops Ho Ms done env H K:=λu w0 H0 D n a w s p=>by
 simp only[tk,abH]at m
 obtain⟨⟨⟨⟨⟨x,y⟩,z⟩,A⟩,B⟩,C⟩:=m
 have W:done.length<ops.size:=aaO A
 have F:ops.size-done.length=(ops.size-(i::done).length)+1:=by simp only[aaZ];omega
 have j:Ms.contains i=false:=by simpa using B
 have h:i∈Region.ready .any ops (marked ops.size done):=by simpa using z
 rw[F]
 obtain⟨env',U,J⟩:=I a w w0 H0 s
 refine QE (λl w=>ll.same j l w) hi (Region.noSelect_spec x) (λc a w M=>M.elim) _ _ a w (Region.free_spec hi y) h n ?_ p (J u w0 H0 D (n.set h) _ w U ((ll.same j _ _).2 p))
 refine(T a s.env).imp (λ⟨Q,O⟩=>⟨Q,λr _ E f V q=>O V q.1 λL=>q.2 λk G=>?_⟩) id
 subst L
 have S:oH ops ops.size k i=true:=by
  have:=C
  simp only[aa7,Bool.false_or]at this
  exact List.all_eq_true.1 this k G
 cases hlk:r.getD k false with
 |false=>rfl
 |true=>
  have:=E.waits _ _ S hlk
  rcases aaR i r.size with h'|h'
  ·simp[h']at this f;rw[this]at f;cases f
  ·simp[Array.getElem?_eq_none h']at this
theorem RA.take{d:Nat}{op:Op}{ty:TypeId}{e:String}{c:Array Edge}{v:Value}(i:Nat)(hi:ops[i]? =some ⟨some d,op,ty,e,c,none⟩)(l:aI P R env [] op ty v)
  (h:tk false ops Ms done i=true)(k:RA P N R ops Ho Ms (i::done) ((d,v)::env) H K)(j:Nat.blt d N=true:=by rfl):RA P N R ops Ho Ms done env H K:=
 RA.om false i hi (λa f=>.inl ⟨by simp[Region.wanted],λw m _=>l a w (some d) e c none f ⟨by simp,by simp⟩ (λb o g=>⟨m b o g,by simp⟩)⟩) h
  λa w p n s=>⟨_,s.put v j,k⟩
theorem RA.eF{d:Nat}{op:Op}{ty:TypeId}{e:String}{b:Array Edge}{v:Value}(i:Nat)(hi:ops[i]? =some ⟨some d,op,ty,e,b,none⟩)(k:aI P R env Ho op ty v)
  (g:tk true ops Ms done i=true)(j:RA P N R ops Ho Ms (i::done) ((d,v)::env) H K)(h:Nat.blt d N=true:=by rfl):RA P N R ops Ho Ms done env H K:=
 RA.om true i hi (λa f=>.inl ⟨by simp[Region.wanted],λw _ c=>k a w (some d) e b none f (c rfl).1 (c rfl).2⟩) g
  λa w m l s=>⟨_,s.put v h,j⟩
theorem RA.P0{d j t:Nat}{g:Bool}{op:Op}{ty:TypeId}{f:String}{c:Array Edge}{v:Value}(i:Nat)(hi:ops[i]? =some ⟨some d,op,ty,f,c,some (j,g)⟩)(q:Env.get? env t=some (.bool g))(p:aI P R env [] op ty v)
  (k:tk false ops Ms done i=true)(n:RA P N R ops Ho Ms (i::done) ((d,v)::env) H K)(m:gV ops j=some t:=by rfl)(l:Nat.blt d N=true:=by rfl):RA P N R ops Ho Ms done env H K:=
 RA.om false i hi (λa e=>.inl ⟨by simp[Region.wanted,pR e m q],λw r _=>p a w (some d) f c _ e ⟨by simp,by simp⟩ (λb o h=>⟨r b o h,by simp⟩)⟩) k
  λa w x u s=>⟨_,s.put v l,n⟩
theorem RA.P1{d j t:Nat}{g:Bool}{op:Op}{ty:TypeId}{f:String}{b:Array Edge}{v:Value}(i:Nat)(hi:ops[i]? =some ⟨some d,op,ty,f,b,some (j,g)⟩)(o:Env.get? env t=some (.bool g))(n:aI P R env Ho op ty v)
  (h:tk true ops Ms done i=true)(m:RA P N R ops Ho Ms (i::done) ((d,v)::env) H K)(l:gV ops j=some t:=by rfl)(k:Nat.blt d N=true:=by rfl):RA P N R ops Ho Ms done env H K:=
 RA.om true i hi (λa c=>.inl ⟨by simp[Region.wanted,pR c l o],λw _ e=>n a w (some d) f b _ c (e rfl).1 (e rfl).2⟩) h
  λa w q p s=>⟨_,s.put v k,m⟩
theorem RA.cA{d j t:Nat}{c b:Bool}{op:Op}{ty:TypeId}{p:String}{e:Array Edge}(i:Nat)(hi:ops[i]? =some ⟨some d,op,ty,p,e,some (j,c)⟩)(o:Env.get? env t=some (.bool b))(g:(b==c)=false)
  (h:tk false ops Ms done i=true)(m:RA P N R ops Ho Ms (i::done) ((d,undef)::env) H K)(l:gV ops j=some t:=by rfl)(k:Nat.blt d N=true:=by rfl):RA P N R ops Ho Ms done env H K:=by
 have n:¬b=c:=by simpa using g
 exact RA.om false i hi (λa f=>.inr ⟨by simp[Region.wanted,pR f l o,n],rfl⟩) h
  λa w r q s=>⟨_,s.put undef k,m⟩
theorem Qk{o:Oper}{a:Act}{w:World}{f g:Act->World->Prop}{i:Act->World->Prop}{j:Exit->Act->World->Prop}(d:∀a w,f a w->g a w)(h:o.wp P a w f (pZ i)):o.wp P a w g j:=by
 unfold Oper.wp at *
 generalize (execOp a.eval o).run P w=r at *
 cases r with
 |ok n w'=>
  cases n<;>simp only[Oper.upon]at h⊢ <;>first
   |exact d _ _ h
   |exact Calls.mono h (λe l b=>by
     cases e with
     |returned v=>exact d _ _ b
     |panicked c=>exact b.elim
     |outgrown=>obtain⟨a,w,k⟩:=b;exact k.elim)
   |exact Rows.mono h (λ_ _ b=>d _ _ b)
 |halt x w'=>cases x<;>simp only[Oper.upon]at h⊢ <;>exact h.elim
theorem RA.op{o:Oper}{a:Act}{w f:World}{b:aF}{i:Act->World->Prop}{c:Act->World->Prop}{g:Env->aF->Prop}(k:Nat)(d:ops[k]? =some o)(h:aB false P N R ops [o] env H g)
  (j:∀env' H' a' w',g env' H'->St N R a' w' env' H' f b->c a' w')(s:St N R a w env H f b):wpOp P ops (pZ i) k c a w:=by
 have h1:=h (pZ c) f b (λenv' H' a' w' d l=>j _ _ _ _ d l) a w s
 unfold wpOp
 simp only[d]
 simp only[wpList]at h1
 split
 ·rename_i e
  rw[aaA e]at h1
  rcases h1 with h1|⟨_,m,n,h1⟩
  ·exact .inl (Qk (λ_ _ h=>h) h1)
  ·exact h1.elim
 ·rename_i e
  rw[aaz e]at h1
  exact h1
theorem Mm{l:Array Bool}{i:Nat}(hi:i<l.size):(l.setIfInBounds i true).getD i false=true:=by simp[hi]
def Next(P:Program)(N:Nat)(R:ao)(ops:Array Oper)(Ho:aF)(Ms:List Nat)(done:List Nat)(K:Env->aF->Prop)(i:Nat)(env':Env)(H':aF):Prop:=
 (((i::done).any λk=>Ms.contains k&&Nat.blt k ops.size)=true\/kr Ho H')/\RA P N R ops Ho Ms (i::done) env' H' K
theorem xe(n:Nat):∀l,(marked n l).size=n
 |[]=>by simp[marked]
 |i::l=>by simp[marked,xe n l]
theorem xd{n k:Nat}(a:k<n):∀{l:List Nat},k∈l->(marked n l).getD k false=true
 |i::l,h=>by
  rcases aaG.1 h with rfl|h
  ·exact Mm (by rw[xe];exact a)
  ·exact getD_set_true (xd a h)
theorem Next.mod{i:Nat}(a:((i::done).any λk=>Ms.contains k&&Nat.blt k ops.size)=true)(h:RA P N R ops Ho Ms (i::done) env H K):Next P N R ops Ho Ms done K i env H:=⟨.inl a,h⟩
theorem Next.sub{i:Nat}(h:RA P N R ops Ho Ms (i::done) env H K)(a:kr Ho H:=by infer_instance):Next P N R ops Ho Ms done K i env H:=⟨.inr a,h⟩
theorem RA.yu(is:List Nat)(j:Region.ready .any ops (marked ops.size done)=is)(A:is≠[])(z:Nat.blt done.length ops.size=true)
  (h:∀i∈is,∃o,ops[i]? =some o/\aB false P N R ops [o] env H (Next P N R ops Ho Ms done K i)):RA P N R ops Ho Ms done env H K:=λn E m t x a w s I=>by
 have J:done.length<ops.size:=aaO z
 have y:∀i,ops.size-done.length=(ops.size-(i::done).length)+1:=λi=>by simp only[aaZ];omega
 rw[y 0]
 refine⟨λr=>absurd (j▸r) A,λk f=>?_⟩
 obtain⟨o,C,u⟩:=h k (j▸f)
 refine RA.op k C u (λG F p l g c=>?_) s
 have e:ll R Ho Ms ((marked ops.size done).setIfInBounds k true) l:=by
  refine⟨λb o v=>(c.ro b o v).1,λB=>?_⟩
  rcases g.1 with hm|hs
  ·obtain⟨q,D,hm⟩:=List.any_eq_true.1 hm
   simp only[abH]at hm
   have d:=B q (by simpa using hm.1)
   rw[show(marked ops.size done).setIfInBounds k true=marked ops.size (k::done)from rfl,xd (aaO hm.2) D]at d
   cases d
  ·exact⟨hs.sat c.sat,hs.ro c.ro⟩
 exact⟨e,g.2 n E m t (x.set f) p l c e⟩
theorem RA.step{o:Oper}(i:Nat)(hi:ops[i]? =some o)(c:Region.ready .any ops (marked ops.size done)=[i])(b:Nat.blt done.length ops.size=true)
  (h:aB false P N R ops [o] env H (Next P N R ops Ho Ms done K i)):RA P N R ops Ho Ms done env H K:=
 RA.yu [i] c (by simp) b λk a=>by
  obtain rfl:k=i:=by simpa using a
  exact⟨o,hi,h⟩
theorem RA.lh{a b:Oper}(i j:Nat)(hi:ops[i]? =some a)(e:ops[j]? =some b)(g:Region.ready .any ops (marked ops.size done)=[i,j])(f:Nat.blt done.length ops.size=true)
  (c:aB false P N R ops [a] env H (Next P N R ops Ho Ms done K i))(d:aB false P N R ops [b] env H (Next P N R ops Ho Ms done K j)):RA P N R ops Ho Ms done env H K:=
 RA.yu [i,j] g (by simp) f λk hk=>by
  rcases aaG.1 hk with rfl|hk
  ·exact⟨a,hi,c⟩
  ·obtain rfl:k=j:=by simpa using hk
   exact⟨b,e,d⟩
end
section
variable{P:Program}{N:Nat}{R:ao}{ops:Array Oper}{l:List Oper}{env:Env}{H:aF}{K:Env->aF->Prop}{Q:Exit->Env->aF->Prop}{m:Bool}{ty:TypeId}
theorem aB.gT{j t:Nat}{b d:Bool}{dst:Option Nat}{op:Op}{ty:TypeId}{c:String}{a:Array Edge}(e:b=d)(g:aB m P N R ops (⟨dst,op,ty,c,a,none⟩::l) env H K)(f:gV ops j=some t:=by rfl)(h:Env.get? env t=some (.bool b):=by rfl):
  aB m P N R ops (⟨dst,op,ty,c,a,some (j,d)⟩::l) env H K:=aB.gt (by rw[h,e]) g f
theorem aB.gF{j t d:Nat}{b a:Bool}{op:Op}{ty:TypeId}{k:String}{c:Array Edge}(e:b= !a)(h:aB m P N R ops l ((d,undef)::env) H K)(g:gV ops j=some t:=by rfl)(i:Env.get? env t=some (.bool b):=by rfl)(f:Nat.blt d N=true:=by rfl):
  aB m P N R ops (⟨some d,op,ty,k,c,some (j,a)⟩::l) env H K:=aB.gf i (by subst e;cases a<;>rfl) h g f
theorem aB.split{t:Nat}{b:Bool}(d:Env.get? env t=some (.bool b))(c:b=true->aB m P N R ops l env H K)(a:b=false->aB m P N R ops l env H K):aB m P N R ops l env H K:=by
 cases b
 ·exact a rfl
 ·exact c rfl
theorem aI.bA{c x y:Operand}{b:Bool}{u:Value}(a:b=true)(d:ev env c=some (.bool b):=by rfl)(e:ev env x=some u:=by rfl):aI P R env H (.pick c x y) ty u:=by
 subst a;exact aI.dh d e
theorem aI.bg{c x y:Operand}{b:Bool}{v:Value}(a:b=false)(d:ev env c=some (.bool b):=by rfl)(e:ev env y=some v:=by rfl):aI P R env H (.pick c x y) ty v:=by
 subst a;exact aI.cd d e
theorem bF.cW{c:Operand}{x y:Code}(h:bF P N R x env H Q)(a:ev env c=some (.bool true):=by rfl):bF P N R (.cond c x y) env H Q:=bF.cond a (λ_=>h) (λh=>by cases h)
theorem bF.bB{c:Operand}{x y:Code}(h:bF P N R y env H Q)(a:ev env c=some (.bool false):=by rfl):bF P N R (.cond c x y) env H Q:=bF.cond a (λh=>by cases h) (λ_=>h)
theorem RA.split{e:Array Oper}{a:aF}{c d:List Nat}{t:Nat}{b:Bool}(h:Env.get? env t=some (.bool b))(g:b=true->RA P N R e a c d env H K)(f:b=false->RA P N R e a c d env H K):RA P N R e a c d env H K:=by
 cases b
 ·exact f rfl
 ·exact g rfl
def qn{X:Type}(I:X->Prop)(e:X->Env)(h:X->aF)(Q:Exit->Env->aF->Prop):Exit->Env->aF->Prop
 | .normal,env,H=>∃x,I x/\di env (e x)/\bu H (h x)
 |ex,env,H=>Q ex env H
theorem bF.cut{X:Type}{c:Code}(I:X->Prop)(e:X->Env)(h:X->aF)(k:bF P N R c env H (qn I e h Q))(j:∀x,I x->Q .normal (e x) (h x)):bF P N R c env H Q:=λi p g b a w s=>
 k i p g (λl t q r u d f=>by
  cases l with
  |normal=>obtain⟨x,m,n,o⟩:=d;exact b _ _ _ _ _ (j x m) (f.le n o)
  |_=>exact b _ _ _ _ _ d f) a w s
theorem aN{X:Type}{I:X->Prop}{e:X->Env}{h:X->aF}(x:X)(a:I x)(b:di env (e x))(c:bu H (h x)):qn I e h Q .normal env H:=⟨x,a,b,c⟩
theorem wR{X:Type}{I:X->Prop}{e:X->Env}{h:X->aF}(a:Q .ret env H):qn I e h Q .ret env H:=a
theorem br{X:Type}{I:X->Prop}{e:X->Env}{h:X->aF}{μ:X->Nat}{n:Nat}(x:X)(a:I x)(d:μ x<n)(b:di env (e x))(c:bu H (h x)):pf (λenv' H'=>∃x',I x'/\μ x'<n/\di env' (e x')/\bu H' (h x')) Q .normal env H:=⟨x,a,d,b,c⟩
theorem aI.inc{x y:Operand}{t u:TypeId}{n:Nat}(c:n<9223372036854775807)(a:ev env x=some (.int .i64 (n:Int)):=by rfl)(b:ev env y=some (.int .i64 1):=by rfl):aI P R env H (.binOp .add t x y u) ty (.int .i64 ((n+1:Nat):Int)):=by
 have h:=aI.add (P:=P) (R:=R) (H:=H) (ty:=ty) (t:=t) (u:=u) a b
 have:IntKind.i64.wrap ((n:Int)+1)=((n+1:Nat):Int):=by
  rw[IntWalk.i64_in _ (by omega)];omega
 rw[this]at h
 exact h
theorem aB.hole(h:aB m P N R ops l env H K):aB m P N R ops l env H K:=h
end
section
variable{P:Program}{N:Nat}{R:ao}{ops:Array Oper}{l:List Oper}{env:Env}{H:aF}{K:Env->aF->Prop}{Q:Exit->Env->aF->Prop}{m:Bool}{d:Nat}{ty:TypeId}{pos:String}{af:Array Edge}{x:Operand}
theorem aB.mo{v:Value}(h:ev env x=some v)(b:aB m P N R ops l ((d,v)::env) H K)(a:Nat.blt d N=true:=by rfl):aB m P N R ops (⟨some d,.move x,ty,pos,af,none⟩::l) env H K:=.q (.move h) b a
theorem aB.ag{v:Value}(h:ev env x=some v)(b:aB m P N R ops l ((d,v)::env) H K)(a:Nat.blt d N=true:=by rfl):aB m P N R ops (⟨some d,.assign x,ty,pos,af,none⟩::l) env H K:=.q (.assign h) b a
theorem aB.lo{t:TypeId}{p u:Value}{vs r:List Value}(e:ev env x=some p) [f:bV P t false] [rc:RC R H p vs](b:aB m P N R ops l ((d,u)::env) H K)(c:vs=u::r:=by rfl)(a:Nat.blt d N=true:=by rfl):aB m P N R ops (⟨some d,.load t x,ty,pos,af,none⟩::l) env H K:=.q (.bo e c) b a
theorem aB.nc{p:Value}{vs:List Value}(c:ev env x=some p) [rc:RC R H p vs](b:aB m P N R ops l ((d,p)::env) H K)(a:Nat.blt d N=true:=by rfl):aB m P N R ops (⟨some d,.nilCheck x,ty,pos,af,none⟩::l) env H K:=.q (.nilCheck c) b a
theorem aB.fa{s:TypeId}{f off:Nat}{p:Value}{vs:List Value}(c:ev env x=some p) [e:aC P s f off] [rc:RC R H p vs](b:aB m P N R ops l ((d,gr p off)::env) H K)(a:Nat.blt d N=true:=by rfl):aB m P N R ops (⟨some d,.fieldAddr s x f,ty,pos,af,none⟩::l) env H K:=.q (.fieldAddr c) b a
theorem aB.zn{y:Code}(h:bF P N R y env H Q):aB m P N R ops [] env H (kj P N R y Q .normal):=.nil (aG h)
theorem aB.zs{y z:Code}(h:bF P N R z env H (kj P N R y Q)):aB m P N R ops [] env H (kj P N R (.seq z y) Q .normal):=.nil (aG (.seq h))
theorem aB.z{y:Code}{id:Nat}(h:aB false P N R l.toArray l env H (kj P N R y Q .normal)):aB m P N R ops [] env H (kj P N R (.seq (.region id l.toArray false) y) Q .normal):=.nil (aG (.seq (.region h)))
theorem aB.gX{op:Op}{j t:Nat}{a b:Bool}(g:aB m P N R ops l ((d,undef)::env) H K)(f:gV ops j=some t:=by rfl)(h:Env.get? env t=some (.bool b):=by rfl)(c:(b==a)=false:=by rfl)(e:Nat.blt d N=true:=by rfl):aB m P N R ops (⟨some d,op,ty,pos,af,some (j,a)⟩::l) env H K:=.gf h c g f e
theorem aB.az{v:Value}{y:Code}(h:ev env x=some v)(b:bF P N R y ((d,v)::env) H Q)(a:Nat.blt d N=true:=by rfl):aB m P N R ops [⟨some d,.assign x,ty,pos,af,none⟩] env H (kj P N R y Q .normal):=.q (.assign h) (.nil (aG b)) a
theorem bF.sr{y:Code}{id:Nat}(h:aB false P N R l.toArray l env H (kj P N R y Q .normal)):bF P N R (.seq (.region id l.toArray false) y) env H Q:=.seq (.region h)
theorem bF.kn{y:Code}(h:bF P N R y env H Q):bF P N R .skip env H (kj P N R y Q):=.skip (aG h)
end
end
section
theorem PC.of{R:ao}{b:Nat}{vs:List Value}{E:TypeId}{fr:Nat×Nat}(h:R b (.cells vs.toArray E fr)):PC R (.pointer (some ⟨b,0,none⟩)) vs:=
 (RC.here (R:=R) (H:=[]) (b:=b) (vs:=vs) (E:=E) (fr:=fr)).h.mono λa o h'=>by
  rcases h' with h'|h'
  ·exact h'
  ·simp at h';obtain⟨rfl,rfl⟩:=h';exact h
instance PC.rc{R:ao}{H:aF}{p:Value}{vs:List Value} [h:RC R H p vs]:PC (Rx R H) p vs:=h.h
section
variable{P:Program}{N:Nat}{R R':ao}{ops:Array Oper}{l:List Oper}{env:Env}{H:aF}{K:Env->aF->Prop}{T:au}{upd:au->aF}
theorem Spec.at{f:FuncId}{m:List Value}{H1 H2:aF}{T:au}{Post:Value->au->Prop}(h:Spec P f m R' [T] λv H'=>∃T',H'=[T']/\Post v T')(C:∀b o,R' b o->R b o):Spec P f m R (H1++T::H2) λv H'=>∃T',H'=H1++T'::H2/\Post v T':=λw D s=>by
 have g:(H1++T::H2).flatten.Perm ([T]++(H1++H2)).flatten:=by
  simp only[aaU,aaT,abx,aaM]
  rw[<-aaE, <-aaE]
  exact aa2.append_right _
 have k:Sat w ([T]++(H1++H2)):=D.perm g
 have y:take [0] ([T]++(H1++H2))=[T]:=rfl
 have n:rest [0] ([T]++(H1++H2))=H1++H2:=rfl
 have F:RO w R ([T]++(H1++H2)):=λb o c=>⟨(s b o c).1,λp d=>(s b o c).2 p (g.mem_iff.2 d)⟩
 obtain⟨u,G,x⟩:=lN (is:=[0]) k
 have l:=RO.split (is:=[0]) k F
 rw[y]at u l x;rw[n]at l G x
 refine(h w u λb o c=>l b o (.inl (C b o c))).mono λe H ⟨v,H',i,⟨T',z,j⟩,E,A⟩=>?_
 subst z
 obtain⟨t,a⟩:=mZ (is:=[0]) (H':=[T']) k E A
 rw[n]at t a
 have r:([T']++(H1++H2)).flatten.Perm (H1++T'::H2).flatten:=by
  simp only[aaU,aaT,abx,aaM]
  rw[<-aaE, <-aaE]
  exact aa2.append_right _
 refine⟨v,_,i,⟨T',rfl,j⟩,t.perm r,⟨a.le,λb c B=>a.gg b c λp d=>B p (g.mem_iff.2 d),λp d=>?_,a.os,a.output,a.tape⟩⟩
 rcases a.jC p (r.mem_iff.2 d)with⟨q,j,i⟩|hge
 ·exact .inl ⟨q,g.mem_iff.2 j,i⟩
 ·exact .inr hge
theorem aB.aH{d:Nat}{ty:TypeId}{k:String}{a:Array Edge}{f:FuncId} [e:ap P f]{xs:List Operand}{b:Array TypeId}{vs:List Value}{Post:Value->Prop}
  (j:Spec P f vs (Rx R H) [] λv H'=>Post v/\H'=[])(i:∀v,Post v->aB false P N R ops l ((d,v)::env) H K)(hxs:fR env xs=some vs:=by rfl)(h:Nat.blt d N=true:=by rfl):
  aB false P N R ops (⟨some d,.call ⟨.value (.func f),xs.toArray,b⟩,ty,k,a,none⟩::l) env H K:=
 aB.call [] j (λv H' ⟨c,g⟩=>by subst g;exact i v c) hxs h
theorem aB.bM{d:Nat}{ty:TypeId}{k:String}{a:Array Edge}{f:FuncId} [e:ap P f]{xs:List Operand}{b:Array TypeId}{vs:List Value}{Post:Value->au->Prop}
  (j:Spec P f vs (Rx R H) [] λv H'=>∃T,H'=[T]/\Post v T)(i:∀v T,Post v T->aB false P N R ops l ((d,v)::env) (T::H) K)(hxs:fR env xs=some vs:=by rfl)(h:Nat.blt d N=true:=by rfl):
  aB false P N R ops (⟨some d,.call ⟨.value (.func f),xs.toArray,b⟩,ty,k,a,none⟩::l) env H K:=
 aB.call [] j (λv H' ⟨T,c,g⟩=>by subst c;exact i v T g) hxs h
theorem rh:∀(H:aF),take (H.map λ_=>0) H=H
 |[]=>rfl
 |T::r=>by simp only[aaB,take,bf,List.getD_cons_zero,rh r]
theorem oa:∀(H:aF),rest (H.map λ_=>0) H=[]
 |[]=>rfl
 |T::r=>by simp only[aaB,rest,bf,oa r]
theorem aB.uJ{dst:Option Nat}{op:Op}{ty:TypeId}{e:String}{c:Array Edge}{f:FuncId}{vs:List Value}{Post:Value->au->Prop} [q:dE H T upd]
  (p:∀a w,dH a env->(execOp a.eval ⟨dst,op,ty,e,c,none⟩).run P w=.ok (.enter f vs.toArray) w)
  (n:Spec P f vs R' [T] λv H'=>∃T',H'=[T']/\Post v T')(m:∀b o,R' b o->R b o)
  (k:∀v T',Post v T'->match dst with
   |some d=>Nat.blt d N=true/\aB false P N R ops l ((d,v)::env) (upd T') K
   |none=>aB false P N R ops l env (upd T') K):
  aB false P N R ops (⟨dst,op,ty,e,c,none⟩::l) env H K:=by
 obtain⟨H1,H2,g,i⟩:=q.h
 refine .p9 (H.map λ_=>0) (Post:=λv H'=>∃T',H'=H1++T'::H2/\Post v T') p ?_ ?_
 ·rw[rh,oa]
  have:=Spec.at (H1:=H1) (H2:=H2) n m
  rw[<-g]at this
  exact this.weaken λb o j=>.inl j
 ·intro v H' ⟨T',e1,e2⟩
  rw[oa,aaM,e1, <-i]
  exact k v T' e2
theorem aB.aT{d:Nat}{ty:TypeId}{n:String}{b:Array Edge}{f:FuncId} [e:ap P f]{xs:List Operand}{c:Array TypeId}{vs:List Value}{Post:Value->au->Prop}
  (m:Spec P f vs R [T] λv H'=>∃T',H'=[T']/\Post v T')(j:∀v T',Post v T'->aB false P N R ops l ((d,v)::env) (upd T') K) [o:dE H T upd](hxs:fR env xs=some vs:=by rfl)(i:Nat.blt d N=true:=by rfl):
  aB false P N R ops (⟨some d,.call ⟨.value (.func f),xs.toArray,c⟩,ty,n,b,none⟩::l) env H K:=
 aB.uJ (λa w g=>tE hxs a w g) m (λ_ _ h=>h) (λv T' k=>⟨i,j v T' k⟩)
theorem LW{cs zs:List Value}{k:Nat}(h:zs.length=k)(b:cs.length=k):eU ((List.range 1).map λi=>(i*k,k)) zs [(0,.agg cs.toArray)]=some cs:=by
 subst b
 have e:Nat.ble cs.length cs.length=true:=abJ (aba _)
 have a:zs.drop cs.length=[]:=List.drop_eq_nil_of_le (by omega)
 simp[eU,gC,h,List.range_succ,e,a]
theorem LV{v:Value}{zs:List Value}(c:ay v=true)(h:zs.length=1):eU ((List.range 1).map λi=>(i*1,1)) zs [(0,v)]=some [v]:=by
 have a:zs.drop 1=[]:=List.drop_eq_nil_of_le (by omega)
 have b:zs.tail=[]:=by rw[<-List.drop_one];exact a
 cases v<;>simp_all[eU,gC,List.range_succ,ay]
theorem aB.hY{d:Nat}{T E:TypeId}{k:Nat}{z:Value}{cs:List Value}{x:Operand}{ty:TypeId}{j:String}{a:Array Edge} [ut:bh P T (.slice E)] [sz:Sz P E k] [m:Zr P E z]
  (g:∀b,aB false P N R ops l ((d,.slice (some ⟨b,0,none⟩) 1 1)::env) ([(b,.cells cs.toArray E (0,0))]::H) K)(i:ev env x=some (.agg cs.toArray):=by rfl)(f:cs.length=k:=by rfl)(h:Nat.ble (1*k) (2^24)=true:=by rfl)(e:Nat.beq (1*k) 0=false:=by rfl)(c:Nat.blt d N=true:=by rfl):
  aB false P N R ops (⟨some d,.buildSlice T 1 [(0,x)].toArray,ty,j,a,none⟩::l) env H K:=
 aB.buildSlice (z:=z) (zs:=((Array.range (1*k)).map (z.cells[· % z.cells.size]!)).toList) (parts:=[(0,.agg cs.toArray)]) h e rfl (by simp[lA,i]) (LW (by simp) f) g c
theorem aB.lq{d:Nat}{T E:TypeId}{z v:Value}{x:Operand}{ty:TypeId}{g:String}{a:Array Edge} [ut:bh P T (.slice E)] [sz:Sz P E 1] [i:Zr P E z] [o:One v]
  (e:∀b,aB false P N R ops l ((d,.slice (some ⟨b,0,none⟩) 1 1)::env) ([(b,.cells [v].toArray E (0,0))]::H) K)(f:ev env x=some v:=by rfl)(c:Nat.blt d N=true:=by rfl):
  aB false P N R ops (⟨some d,.buildSlice T 1 [(0,x)].toArray,ty,g,a,none⟩::l) env H K:=
 aB.buildSlice (z:=z) (zs:=((Array.range (1*1)).map (z.cells[· % z.cells.size]!)).toList) (parts:=[(0,v)]) rfl rfl rfl (by simp[lA,f]) (LV o.h (by simp)) e c
theorem aB.pK{m:Bool}{d:Nat}{x:Operand}{xl a:Option Operand}{t e E:TypeId}{sz:Nat}{α:Type}{enc:α->List Value}{v:Value}{xs:List α}{ty:TypeId}{r:String}{b:Array Edge}(lo hi:Nat)(h:OS E sz enc v xs T) [ut:bh P t (.slice e)] [s:Sz P e sz](g:dR env xl 0 lo)(i:dR env a xs.length hi)(j:lo<=hi)(k:hi<=xs.length)
  (o:∀v',OS E sz enc v' ((xs.drop lo).take (hi-lo)) T->aB m P N R ops l ((d,v')::env) H K)(p:ev env x=some v:=by rfl)(n:Nat.blt d N=true:=by rfl):
  aB m P N R ops (⟨some d,.slice t x xl a none,ty,r,b,none⟩::l) env H K:=by
 obtain⟨v',c,f⟩:=aI.pK (P:=P) (R:=R) (H:=H) (ty:=ty) (t:=t) lo hi h g i j k p
 exact aB.q f (o v' c) n
theorem RA.pK{c:aF}{a b:List Nat}{d:Nat}{x:Operand}{xl f:Option Operand}{t e E:TypeId}{sz:Nat}{α:Type}{enc:α->List Value}{v:Value}{xs:List α}{ty:TypeId}{y:String}{g:Array Edge}(i:Nat)(r:ops[i]? =some ⟨some d,.slice t x xl f none,ty,y,g,none⟩)(lo hi:Nat)(h:OS E sz enc v xs T) [ut:bh P t (.slice e)] [s:Sz P e sz](l:dR env xl 0 lo)(m:dR env f xs.length hi)(n:lo<=hi)(o:hi<=xs.length)
  (w:ev env x=some v)(p:tk false ops a b i=true)(u:∀v',OS E sz enc v' ((xs.drop lo).take (hi-lo)) T->RA P N R ops c a (i::b) ((d,v')::env) H K)(q:Nat.blt d N=true:=by rfl):
  RA P N R ops c a b env H K:=by
 obtain⟨v',j,k⟩:=aI.pK (P:=P) (R:=R) (H:=[]) (ty:=ty) (t:=t) lo hi h l m n o w
 exact RA.take i r k p (u v' j) q
theorem RA.aU{c:aF}{a b:List Nat}{d:Nat}{x y:Operand}{t e E:TypeId}{sz:Nat}{α:Type}{enc:α->List Value}{v:Value}{xs:List α}{ty:TypeId}{B:String}{g:Array Edge}{k:IntKind}{j:Int}{z:α}(i:Nat)(n:ops[i]? =some ⟨some d,.indexAddr t x y,ty,B,g,none⟩)(q:Nat)(h:OS E sz enc v xs T)(f:xs[q]? =some z) [ut:bh P t (.slice e)] [s:Sz P e sz]
  (w:ev env x=some v)(A:ev env y=some (.int k j))(o:j=(q:Int))(l:tk false ops a b i=true)(r:PS T (eA v (q*sz)) (enc z)->RA P N R ops c a (i::b) ((d,eA v (q*sz))::env) H K)(m:Nat.blt d N=true:=by rfl):
  RA P N R ops c a b env H K:=
 RA.take i n (aI.cB q (h.rs (R:=sg T) λp u=>u) f w A o) l (r ⟨h.pc f⟩) m
theorem aI.pn{ty:TypeId}{x:Operand}{p:Value}{b:Addr}(f:ev env x=some p)(e:p=.pointer (some b):=by rfl):aI P R env H (.nilCheck x) ty p:=λa w d i h g c _ _=>by
 subst e
 simp[execOp,c.eval f]
theorem aI.dU{ty:TypeId}{x:Operand}{s:TypeId}{f off:Nat}{p:Value}{b:Addr}(j:ev env x=some p) [c:aC P s f off](i:p=.pointer (some b):=by rfl):aI P R env H (.fieldAddr s x f) ty (gr p off):=λa w d l k g e _ _=>by
 subst i
 have:=c.h b w
 simp[execOp,e.eval j,this,gr]
end
end
section
section
variable{P:Program}{N:Nat}{R R':ao}{ops:Array Oper}{l:List Oper}{env:Env}{H:aF}{K:Env->aF->Prop}{T:au}{upd:au->aF}{ty:TypeId}{pos:String}{af:Array Edge}{α:Type}
def jI(sz lo hi:Nat)(p:Option Addr)(cap:Nat):Value:=.slice (if cap=lo then p else p.map (·.add (lo*sz))) (hi-lo) (cap-lo)
theorem aI.tI{x:Operand}{xl c:Option Operand}{t e:TypeId}{sz n cap:Nat}{p:Option Addr}(lo hi:Nat) [ut:bh P t (.slice e)] [s:Sz P e sz](f:dR env xl 0 lo)(h:dR env c n hi)(i:lo<=hi)(j:hi<=cap)(k:ev env x=some (.slice p n cap):=by rfl):
  aI P R env H (.slice t x xl c none) ty (jI sz lo hi p cap):=λa w d m l g b _ _=>by
 have:=oc (P:=P) (w:=w) (p:=p) (n:=n) (cap:=cap) b f h i j (t:=t) (e:=e) (sz:=sz)
 simp only[execOp,b.eval k,Option.map_none]
 rw[Sem.run_bind,this]
 rfl
theorem OS.shape{E:TypeId}{sz:Nat}{enc:α->List Value}{v:Value}{xs:List α}(h:OS E sz enc v xs T):∃p cap,v=.slice p xs.length cap/\xs.length<=cap:=by
 rcases h.h with⟨a,d,_⟩|⟨b,f,c,cap,a,_,e,_⟩
 ·exact⟨none,0,by rw[a,d];rfl,by simp[d]⟩
 ·exact⟨_,cap,a,e⟩
theorem OS.head{E:TypeId}{sz n cap:Nat}{p:Option Addr}{enc:α->List Value}{xs:List α}(h:OS E sz enc (.slice p n cap) xs T)(lo:Nat)(l:lo<=xs.length):OS E sz enc (jI sz 0 lo p cap) (xs.take lo) T:=by
 have m:(xs.take lo).length=lo:=by simp;omega
 refine⟨λx e=>h.len x (aa6 e),λx e=>h.one x (aa6 e),?_⟩
 rcases h.h with⟨a,d,f⟩|⟨b,o,c,q,a,d,f,i,j,k⟩
 ·cases a
  subst d
  obtain rfl:lo=0:=by simpa using l
  exact .inl ⟨by simp[jI],by simp,f⟩
 ·cases a
  refine .inr ⟨b,o,c,cap,?_,d,by omega,i,j,by simpa using k.piece h.len 0 lo⟩
  rw[m]
  by_cases g:cap=0
  ·simp[jI,g]
  ·simp[jI,g,Addr.add]
theorem QK(z:List Value)(n:Nat)(h:∀u∈z,ay u=true):∀u∈(Builtin.zeroCells z.toArray n).toList,ay u=true:=by
 intro u a
 simp only[Builtin.zeroCells,Array.toList_map,aaN]at a
 obtain⟨i,b,rfl⟩:=a
 have c:i<n*z.length:=by simpa using b
 have d:0<z.length:=by
  rcases Nat.eq_zero_or_pos z.length with h0|h0
  ·rw[h0]at c;omega
  ·exact h0
 have:i % z.length<z.length:=Nat.mod_lt _ d
 simp only[aa4]
 rw[getElem!_pos z.toArray (i % z.length) (by simpa using this)]
 exact h _ (by simp)
theorem Row.bT{c:Array Value}{off k:Nat}{cs vs:List Value}(h:Row c off cs)(f:off+cs.length<=k)(e:k+vs.length<=c.size):Row (Go.Proofs.YtocjmmbldeljnaaGreatDoor.bT c.toList k vs).toArray off cs:=λj d=>by
 have a:=h j d
 have b:=tG (vs:=c.toList) (cs:=vs) (off:=k) (by simpa using e) (off+j)
 simp only[aaH]
 rw[b,aaA (by omega)]
 simpa using a
theorem aB.zY{x:Operand}{t E sz n cap:Nat}{p:Option Addr}{enc:α->List Value}{xs:List α}{zs:List Value}{z:Value}(lo:Nat)(h:OS E sz enc (.slice p n cap) xs T) [Y:dE H T upd] [ut:bh P t (.slice E)] [Z:Zr P E z]
  (Q:lo<=xs.length)(d:ev env x=some (jI sz lo n p cap))(C:∀T',OS E sz enc (jI sz 0 lo p cap) (xs.take lo) T'->aB false P N R ops l env (upd T') K)
  (D:z.cells=zs.toArray:=by rfl)(X:zs.length=sz:=by rfl)(ho:∀u∈zs,Go.Proofs.YtocjmmbldeljnaaGreatDoor.ay u=true:=by simp[Go.Proofs.YtocjmmbldeljnaaGreatDoor.ay]):
  aB false P N R ops (⟨none,.call ⟨.builtin .clear,#[x],#[t]⟩,ty,pos,af,none⟩::l) env H K:=
 aB.mI λa w v s ro=>by
  obtain⟨H1,H2,o,f⟩:=Y.h
  have U:=h.shape
  obtain⟨e,a1,F,a2⟩:=U
  cases F
  by_cases A:xs.length-lo=0
  ·refine⟨w,H,.inr ⟨.tuple #[],?_⟩,Frame.refl w H,s,?_⟩
   ·have O:∀(e:Option Addr) (k:Nat),(Builtin.clear_ #[t] ty #[.slice e 0 k]).run P w=.ok (.tuple #[]) w:=λe k=>by cases e<;>simp[Builtin.clear_,run_underlying ut.h]
    simp only[jI,A]at d
    simp[execOp,resolve,v.eval d,invoke,builtin,O]
   ·have:=C T (h.head lo Q)
    rwa [f, <-o]at this
  ·rcases h.h with⟨q,g,r⟩|⟨b,off,c,a0,q,g,r,G,I,J⟩
   ·subst g;simp at A
   ·cases q
    subst g;subst o
    have V:¬cap=lo:=by omega
    have M:w.heap[b]? =some (.cells c E (0,0)):=s.2 (b,_) (by simp)
    have W:(if cap=lo then some (⟨b,off,none⟩:Addr)else(some (⟨b,off,none⟩:Addr)).map (·.add (lo*sz)))=some ⟨b,off+lo*sz,none⟩:=by
     rw[aaz V,aaK,kO]
    have j:(Builtin.zeroCells z.cells (xs.length-lo)).toList.length=(xs.length-lo)*sz:=by rw[abe,zb,D];simp[X]
    have y:off+lo*sz+(xs.length-lo)*sz<=c.size:=by
     have h7:lo*sz+(xs.length-lo)*sz=xs.length*sz:=by rw[<-Nat.add_mul];congr 1;omega
     have h8:xs.length*sz<=cap*sz:=aaV _ r
     omega
    have i:=pG (P:=P) (b:=b) (off:=off+lo*sz) (E:=E) (Builtin.zeroCells z.cells (xs.length-lo)).toList 0 c.toList w (by simpa using M) (by rw[D];exact QK zs _ ho) (by rw[j];simp;omega)
    refine⟨_,upd [(b,.cells (Go.Proofs.YtocjmmbldeljnaaGreatDoor.bT c.toList (off+lo*sz) (Builtin.zeroCells z.cells (xs.length-lo)).toList).toArray E (0,0))],.inr ⟨.tuple #[],?_⟩,by rw[f];exact(kk (o':=_) s).1,by rw[f];exact(kk (o':=_) s).2,C _ ?_⟩
    ·obtain⟨m,S⟩:∃m,xs.length-lo=m+1:=⟨xs.length-lo-1,by omega⟩
     simp only[Nat.add_zero]at i
     simp only[jI,W]at d
     rw[S]at i d⊢
     simp[execOp,resolve,v.eval d,invoke,builtin,Builtin.clear_,run_underlying ut.h,Z.h,i]
    ·refine⟨λx d=>h.len x (aa6 d),λx d=>h.one x (aa6 d),.inr ⟨b,off,_,cap,?_,rfl,by simp;omega,G,?_,?_⟩⟩
     ·have:(xs.take lo).length=lo:=by simp;omega
      rw[this]
      by_cases B:cap=0
      ·simp[jI,B]
      ·simp[jI,B,Addr.add]
     ·have:=mv (vs:=c.toList) (cs:=(Builtin.zeroCells z.cells (xs.length-lo)).toList) (off:=off+lo*sz) (by rw[j];simpa using y)
      simp only[aa4,this]
      simpa using I
     ·have L:Row c off ((xs.take lo).flatMap enc):=by simpa using J.piece h.len 0 lo
      refine L.bT ?_ (by rw[j];exact y)
      rw[gU (sz:=sz) (λx d=>h.len x (aa6 d))]
      simp;exact aaV _ (Nat.min_le_left _ _)
theorem aB.rO{d t:Nat}{f:FuncId}{first captured:List Value} [e:ap P f]{xs:List Operand}{c:Array TypeId}{vs:List Value}{Post:Value->au->Prop}
  (n:Spec P f (first++vs++captured) R [T] λv H'=>∃T',H'=[T']/\Post v T')(k:∀v T',Post v T'->aB false P N R ops l ((d,v)::env) (upd T') K) [p:dE H T upd]
  (o:Env.get? env t=some (.func (.func f) first.toArray captured.toArray):=by rfl)(hxs:fR env xs=some vs:=by rfl)(j:Nat.blt d N=true:=by rfl):
  aB false P N R ops (⟨some d,.call ⟨.value (.tmp t),xs.toArray,c⟩,ty,pos,af,none⟩::l) env H K:=
 aB.uJ (λa w b=>by
  have g:=b.mK hxs
  have i:a.eval (.tmp t)=_:=b.eval o
  simp only[execOp,resolve,g,i,Deferred.ofValue]
  have:=e.h (first++vs++captured).toArray w
  rw[<-abA, <-abA]at this⊢
  exact this) n (λ_ _ h=>h) (λv T' m=>⟨j,k v T' m⟩)
theorem OK(n:Nat){t e:TypeId}{w:World}{p:Option Addr}{a c b d:Nat}(ut:P.underlying t=some (.slice e)):(Op.equalIn (n+1) t (.slice p a c) (.slice none b d)).run P w=.ok p.isNone w:=by
 cases p<;>simp[Op.equalIn,run_underlying ut]
theorem aI.rY{x y:Operand}{t u e n c:Nat}{p:Option Addr}{k f:Nat}(i:ev env x=some (.slice p n c))(j:ev env y=some (.slice none k f)) [ut:bh P t (.slice e)]:aI P R env H (.binOp .eql t x y u) ty (.bool p.isNone):=λa w d m l g b _ _=>
 qV (op:=.move x) (b.eval i) (b.eval j) (nF rfl) rfl (OK _ ut.h)
theorem aB.uE{d:Nat}{T E k:Nat} [ut:bh P T (.slice E)] [sz:Sz P E k](g:∀b,aB false P N R ops l ((d,.slice (some ⟨b,0,none⟩) 0 0)::env) ([(b,.cells [].toArray E (0,0))]::H) K)(f:Nat.blt d N=true:=by rfl):
  aB false P N R ops (⟨some d,.buildSlice T 0 [].toArray,ty,pos,af,none⟩::l) env H K:=
 aB.fresh (v:=λb=>.slice (some ⟨b,0,none⟩) 0 0) f (λa w i s j=>⟨w.drawn,by
  have c:(execOp a.eval ⟨some d,.buildSlice T 0 [].toArray,ty,pos,af,none⟩)=(do pure (.value (<-Instr.buildSlice T 0 #[]))):=by
   show(do pure (Next.value (<-Instr.buildSlice T 0 ((#[]:Array (Nat×Operand)).map λx:Nat×Operand=>(x.1,a.eval x.2)))))=_
   rw[Array.map_empty]
  rw[c]
  have e:((Array.range 0).map λx=>(default:Value))= #[]:=by apply Array.eq_empty_of_size_eq_zero;simp
  simp[Instr.buildSlice,run_underlying ut.h,sz.h,Instr.fill,lH,e]⟩) g
theorem OS.empty{E sz b:Nat}{enc:α->List Value}:OS E sz enc (.slice (some ⟨b,0,none⟩) 0 0) ([]:List α) [(b,.cells [].toArray E (0,0))]:=
 ⟨by simp,by simp,.inr ⟨b,0,_,0,rfl,rfl,by simp,by simp,by simp,λk a=>by simp at a⟩⟩
theorem RS.Ny{sz n c:Nat}{enc:α->List Value}{xs:List α}(h:RS R sz enc (.slice none n c) xs):xs=[]:=by
 obtain⟨p,e,a,_,_,h4⟩:=h.h
 cases a
 rcases h4 with h4|⟨b,g,c,E,f,d,_⟩
 ·exact h4
 ·cases d
end
end
section
section
variable{P:Program}{N:Nat}{R R':ao}{ops:Array Oper}{l:List Oper}{env:Env}{H:aF}{K:Env->aF->Prop}{T:au}{upd:au->aF}{ty:TypeId}{pos:String}{af:Array Edge}
theorem aB.zG{dst:Option Nat}{op:Op}(is:List Nat){f:FuncId}{vs:List Value}{Post:Value->aF->Prop}
  (u:∀a w,dH a env->Sat w H->RO w R H->(execOp a.eval ⟨dst,op,ty,pos,af,none⟩).run P w=.ok (.enter f vs.toArray) w)
  (r:Spec P f vs (Rx R (rest is H)) (take is H) Post)
  (p:∀v H',Post v H'->match dst with
   |some d=>Nat.blt d N=true/\aB false P N R ops l ((d,v)::env) (H'++rest is H) K
   |none=>aB false P N R ops l env (H'++rest is H) K):
  aB false P N R ops (⟨dst,op,ty,pos,af,none⟩::l) env H K:=λg m c h a w s=>by
 simp only[wpList,Region.wanted,aaF]
 refine .inl ?_
 rw[Oper.wp,u a w s.env s.sat s.ro]
 obtain⟨x,y,z⟩:=lN (is:=is) s.sat
 refine(r w x (RO.split s.sat s.ro)).mono λe k ⟨v,H',n,q,t,o⟩=>?_
 subst n
 obtain⟨i,j⟩:=mZ s.sat t o
 have b:=p v H' q
 cases dst with
 |some d=>exact b.2 g m c h _ k ((s.step j i).put v b.1)
 |none=>exact b g m c h _ k (s.step j i)
class zg(P:Program)(t:TypeId)(name:String)(f:outParam FuncId):Prop where
 h:∀(v:Value) w,(Go.method (P.types.size+Made.depth) t v name).run P w=.ok (f,v) w
theorem Q7{t:TypeId}{name:String}{f:FuncId} [m:zg P t name f] [e:ap P f]{x:Operand}{v:Value}{xs:List Operand}{c:Array TypeId}{vs:List Value}{dst:Option Nat}{g:Option (Nat×Bool)}(o:ev env x=some (.iface t v))(hxs:fR env xs=some vs)(a:Act)(w:World)(b:dH a env):
  (execOp a.eval ⟨dst,.call ⟨.invoke x name,xs.toArray,c⟩,ty,pos,af,g⟩).run P w=.ok (.enter f (v::vs).toArray) w:=by
 have d:=b.mK hxs
 have i:=b.eval o
 have j:=e.h (v::vs).toArray w
 have k:callMethod (.iface t v) name vs.toArray=(do let (f,r)<-Go.method ((<-program).types.size+Made.depth) t v name;callFunc f (#[r]++vs.toArray)):=rfl
 have l:(callMethod (.iface t v) name vs.toArray).run P w=.ok (.enter f (v::vs).toArray) w:=by
  rw[k]
  simp[m.h,j]
 have n:(invoke (.fn (.method name) #[]) (#[.iface t v]++vs.toArray)).run P w=.ok (.enter f (v::vs).toArray) w:=by
  have:invoke (.fn (.method name) #[]) (#[.iface t v]++vs.toArray)=callMethod (.iface t v) name vs.toArray:=by simp[invoke]
  rw[this];exact l
 simp only[execOp,resolve,d,i]
 exact n
def iI(P:Program)(D:ao)(t:TypeId)(v:Value)(name:String)(f:FuncId)(r:Value):Prop:=
 ∀w,(∀b o,D b o->w.heap[b]? =some o)->(Go.method (P.types.size+Made.depth) t v name).run P w=.ok (f,r) w
theorem iI.mono{D a:ao}{t:TypeId}{v:Value}{name:String}{f:FuncId}{r:Value}(h:iI P D t v name f r)(d:∀b o,D b o->a b o):iI P a t v name f r:=λw e=>h w λb o c=>e b o (d b o c)
theorem OM{D:ao}{t:TypeId}{name:String}{f:FuncId}{v r:Value}(m:iI P D t v name f r)(e:ap P f){x:Operand}{xs:List Operand}{d:Array TypeId}{vs:List Value}{dst:Option Nat}{g:Option (Nat×Bool)}(s:ev env x=some (.iface t v))(hxs:fR env xs=some vs)(a:Act)(w:World)(c:dH a env)
  (q:∀b o,D b o->w.heap[b]? =some o):(execOp a.eval ⟨dst,.call ⟨.invoke x name,xs.toArray,d⟩,ty,pos,af,g⟩).run P w=.ok (.enter f (r::vs).toArray) w:=by
 have i:=c.mK hxs
 have j:=c.eval s
 have k:=e.h (r::vs).toArray w
 have l:callMethod (.iface t v) name vs.toArray=(do let (f,r)<-Go.method ((<-program).types.size+Made.depth) t v name;callFunc f (#[r]++vs.toArray)):=rfl
 have n:(callMethod (.iface t v) name vs.toArray).run P w=.ok (.enter f (r::vs).toArray) w:=by
  rw[l]
  simp[m w q,k]
 have p:(invoke (.fn (.method name) #[]) (#[.iface t v]++vs.toArray)).run P w=.ok (.enter f (r::vs).toArray) w:=by
  have:invoke (.fn (.method name) #[]) (#[.iface t v]++vs.toArray)=callMethod (.iface t v) name vs.toArray:=by simp[invoke]
  rw[this];exact n
 simp only[execOp,resolve,i,j]
 exact p
def fY(P:Program)(t:TypeId)(v:Value)(name:String)(vs:List Value)(R:ao)(T:au)(Post:Value->au->Prop):Prop:=
 ∃f r,iI P (Rx R [T]) t v name f r/\ap P f/\Spec P f (r::vs) R [T] λu H'=>∃T',H'=[T']/\Post u T'
theorem fY.weaken{t:TypeId}{v:Value}{name:String}{vs:List Value}{Post:Value->au->Prop}(h:fY P t v name vs R' T Post)(a:∀b o,R' b o->R b o):fY P t v name vs R T Post:=by
 obtain⟨f,r,c,d,e⟩:=h
 exact⟨f,r,c.mono λb o g=>g.imp (a b o) id,d,e.weaken a⟩
theorem fY.mono{t:TypeId}{v:Value}{name:String}{vs:List Value}{Post a:Value->au->Prop}(h:fY P t v name vs R T Post)(g:∀u T',Post u T'->a u T'):fY P t v name vs R T a:=by
 obtain⟨f,r,b,c,d⟩:=h
 exact⟨f,r,b,c,d.mono λu j ⟨T',e,i⟩=>⟨T',e,g _ _ i⟩⟩
theorem aB.zC{dst:Option Nat}{x:Operand}{t:TypeId}{v:Value}{name:String}{xs:List Operand}{j:Array TypeId}{vs:List Value}{Post:Value->au->Prop} [C:dE H T upd]
  (g:fY P t v name vs R T Post)(B:ev env x=some (.iface t v))(hxs:fR env xs=some vs)
  (q:∀u T',Post u T'->match dst with
   |some d=>Nat.blt d N=true/\aB false P N R ops l ((d,u)::env) (upd T') K
   |none=>aB false P N R ops l env (upd T') K):
  aB false P N R ops (⟨dst,.call ⟨.invoke x name,xs.toArray,j⟩,ty,pos,af,none⟩::l) env H K:=by
 obtain⟨f,r,k,m,n⟩:=g
 obtain⟨c,e,rfl,A⟩:=C.h
 refine .zG (H:=c++T::e) ((c++T::e).map λ_=>0) (f:=f) (vs:=r::vs) (Post:=λu i=>∃T',i=c++T'::e/\Post u T') (λa w p g z=>OM k m B hxs a w p λb o hb=>?_) ?_ (λu i s=>?_)
 ·rcases hb with hb|hb
  ·exact(z b o hb).1
  ·exact g.2 (b,o) (by simp at hb⊢;exact .inr (.inl hb))
 ·rw[rh]
  exact n.at λb o hb=>.inl hb
 ·obtain⟨T',rfl,y⟩:=s
  have:=q u T' y
  rw[A T']at this
  rw[oa,aaM]
  cases dst<;>exact this
theorem aB.kx{d:Nat}{x:Operand}{t:TypeId}{v:Value}{name:String}{xs:List Operand}{a:Array TypeId}{vs:List Value}{Post:Value->au->Prop}
  (f:fY P t v name vs R T Post)(c:∀u T',Post u T'->aB false P N R ops l ((d,u)::env) (upd T') K) [h:dE H T upd](g:ev env x=some (.iface t v):=by rfl)(hxs:fR env xs=some vs:=by rfl)(b:Nat.blt d N=true:=by rfl):
  aB false P N R ops (⟨some d,.call ⟨.invoke x name,xs.toArray,a⟩,ty,pos,af,none⟩::l) env H K:=
 aB.zC f g hxs λu T' e=>⟨b,c u T' e⟩
theorem aI.i64{op:Op}{z:Int}(c:Int)(h:aI P R env H op ty (.int .i64 (IntKind.i64.wrap z)))(e:z=c/\ -9223372036854775808<=c/\c<=9223372036854775807):aI P R env H op ty (.int .i64 c):=by
 obtain⟨rfl,a,b⟩:=e
 rw[IntWalk.i64_in _ (by omega)]at h
 exact h
theorem tT{j:Nat}:((j:Int)-1).tdiv 2=(((j-1)/2:Nat):Int):=by
 rcases Nat.eq_zero_or_pos j with h|h
 ·subst h;decide
 ·rw[Int.tdiv_eq_ediv_of_nonneg (by omega)];omega
theorem iI.ptr{D:ao}{t e:TypeId}{v:Value}{name:String}{f:FuncId}{c:TypeInfo}(k:∀w,(typeInfo t).run P w=.ok c w)(d:(c.methods.find? (·.name==name)).map (λm=>(m.path.isEmpty,m.func))=some (true,some (f,true)))
  (l:bh P t (.pointer e))(b:Nat.beq P.types.size 0=false):iI P D t v name f v:=λw _=>by
 obtain⟨n,i⟩:∃n,P.types.size+Made.depth=n+1:=⟨P.types.size+Made.depth-1,by have:P.types.size≠0:=λe=>(by rw[e]at b;cases b);omega⟩
 rw[i]
 obtain⟨m,g,a⟩:=Option.map_eq_some_iff.1 d
 simp only[aaX]at a
 have j:m.path= #[]:=by simpa using a.1
 unfold Go.method
 simp[k,g,j,a.2,follow,receiverAt,run_underlying l.h,Place.get]
theorem OQ{b:Array TypeId}{t:TypeId}{a:Addr}{s m:ByteArray}{w:World}:(Builtin.ssaWrapNilChk_ b t #[.pointer (some a),.string s,.string m]).run P w=.ok (.pointer (some a)) w:=rfl
theorem iI.val{D:ao}{t e:TypeId}{v u:Value}{us:List Value}{name:String}{f:FuncId}{g:TypeInfo}(y:∀w,(typeInfo t).run P w=.ok g w)(q:(g.methods.find? (·.name==name)).map (λm=>(m.path.isEmpty,m.func))=some (true,some (f,false)))
  (z:bh P t (.pointer e))(d:Nat.beq P.types.size 0=false)(i:bV P e false)(o:PC D v (u::us)):iI P D t v name f u:=λw A=>by
 obtain⟨n,s⟩:∃n,P.types.size+Made.depth=n+1:=⟨P.types.size+Made.depth-1,by have:P.types.size≠0:=λe=>(by rw[e]at d;cases d);omega⟩
 rw[s]
 obtain⟨m,r,a⟩:=Option.map_eq_some_iff.1 q
 simp only[aaX]at a
 have x:m.path= #[]:=by simpa using a.1
 obtain⟨b,B,c,E,C,rfl,l,p⟩:=o.h
 have j:=p 0 (by simp)
 have k:w.cell? ⟨b,B,none⟩=some u:=by
  simp[World.cell?,A _ _ l]
  simpa using j
 unfold Go.method
 simp only[Sem.run_bind,y,Result.andThen_ok,r,x,a.2,follow,receiverAt,Sem.run_pure,Array.isEmpty_empty,aaF]
 simp only[run_underlying z.h,Result.andThen_ok,Place.get,Sem.run_bind,Sem.run_pure,strVal,OQ,asAddr,loadVar,i.h,x9 k,aaD,aaC]
end
end
section
variable{α:Type}
def bY(L:List α)(i k:Nat):List α:=match L[i]?,L[k]? with
 |some x,some y=>(L.set i y).set k x
 |_,_=>L
theorem dW{L:List α}{i k:Nat}{x y:α}(a:L[i]? =some x)(b:L[k]? =some y):bY L i k=(L.set i y).set k x:=by simp[bY,a,b]
theorem kl{L:List α}{i k:Nat}:(bY L i k).length=L.length:=by
 unfold bY;split<;>simp
theorem eg{L:List α}{i k:Nat}(hi:i<L.length)(c:k<L.length)(j:Nat):(bY L i k)[j]? =if j=k then L[i]? else if j=i then L[k]? else L[j]? :=by
 rw[dW (aaL hi) (aaL c),abF,abF]
 by_cases a:k=j
 ·subst a;simp[c,aaL hi]
 ·by_cases b:i=j
  ·subst b
   simp[a,Ne.symm a,hi,aaL c]
  ·simp[a,b,Ne.symm a,Ne.symm b]
theorem pN{L:List α}{i k:Nat}:(bY L i k).Perm L:=by
 unfold bY
 split
 ·rename_i x y a b
  obtain⟨c,rfl⟩:=abf.1 a
  obtain⟨d,rfl⟩:=abf.1 b
  exact List.set_set_perm c d
 ·exact .refl _
structure SO(lt:α->α->Bool):Prop where
 eK:∀x,lt x x=false
 tr:∀x y z,lt x y=true->lt y z=true->lt x z=true
 fJ:∀x y z,lt x y=false->lt y z=false->lt x z=false
theorem SO.kP{lt:α->α->Bool}(h:SO lt){x y:α}(a:lt x y=true):lt y x=false:=by
 cases hy:lt y x with
 |false=>rfl
 |true=>have:=h.tr _ _ _ a hy;rw[h.eK]at this;cases this
def bx(k:Nat):Nat:=(k-1)/2
def fi(lt:α->α->Bool)(L:List α)(a k:Nat):Prop:=∀x y,L[a]? =some x->L[k]? =some y->lt y x=false
def eS(lt:α->α->Bool)(L:List α)(n:Nat):Prop:=∀k,0<k->k<n->fi lt L (bx k) k
structure Up(lt:α->α->Bool)(L:List α)(n j:Nat):Prop where
 e:∀k,0<k->k<n->k≠j->fi lt L (bx k) k
 b:∀k,0<k->k<n->bx k=j->0<j->fi lt L (bx j) k
structure jO(lt:α->α->Bool)(L:List α)(n i:Nat):Prop where
 e:∀k,0<k->k<n->k≠i->bx k≠i->fi lt L (bx k) k
 b:∀k,0<k->k<n->bx k=i->0<i->fi lt L (bx i) k
theorem eP{k:Nat}(h:0<k):bx k<k:=by unfold bx;omega
section
variable{lt:α->α->Bool}{L:List α}{n i j:Nat}
theorem Up.yy(h:Up lt L n 0):eS lt L n:=λk a b=>h.e k a b (by omega)
theorem Up.stop(h:Up lt L n j)(c:fi lt L (bx j) j):eS lt L n:=λk b d=>by
 by_cases a:k=j
 ·subst a;exact c
 ·exact h.e k b d a
theorem fi.fK{b:List α}{a k c k':Nat}(h:fi lt L a k)(d:b[c]? =L[a]?)(e:b[k']? =L[k]?):fi lt b c k':=λx y f g=>h x y (d▸f) (e▸g)
theorem Up.step(r:SO lt)(h:Up lt L n j)(w:0<j)(D:j<n)(E:n<=L.length){x y:α}(B:L[j]? =some x)(o:L[bx j]? =some y)(z:lt x y=true):Up lt (bY L (bx j) j) n (bx j):=by
 have F:=eP w
 have g:=λk=>eg (L:=L) (i:=bx j) (k:=j) (by omega) (by omega) k
 refine⟨λk f l m=>?_,λk f l m A=>?_⟩
 ·by_cases a:k=j
  ·subst a
   intro u v c d
   rw[g,aaz (by omega),aaA rfl,B]at c
   rw[g,aaA rfl,o]at d
   cases c;cases d
   exact r.kP z
  ·by_cases p:bx k=bx j
   ·intro u v c d
    rw[p,g,aaz (by omega),aaA rfl,B]at c
    rw[g,aaz a,aaz m]at d
    cases c
    have t:=h.e k f l a y v (by rw[p];exact o) d
    cases hc:lt v x with
    |false=>rfl
    |true=>rw[r.tr _ _ _ hc z]at t;cases t
   ·by_cases q:bx k=j
    ·refine(h.b k f l q w).fK ?_ ?_
     ·rw[q,g,aaA rfl]
     ·rw[g,aaz a,aaz m]
    ·refine(h.e k f l a).fK ?_ ?_
     ·rw[g,aaz q,aaz p]
     ·rw[g,aaz a,aaz m]
 ·have G:=eP A
  have s:=h.e (bx j) A (by omega) (by omega)
  by_cases a:k=j
  ·subst a
   refine s.fK ?_ ?_
   ·rw[g,aaz (by omega),aaz (by omega)]
   ·rw[g,aaA rfl]
  ·have C:k≠bx j:=by have:=eP f;omega
   intro u v c d
   rw[g,aaz (by omega),aaz (by omega)]at c
   rw[g,aaz a,aaz C]at d
   exact r.fJ _ _ _ (h.e k f l a y v (by rw[m];exact o) d) (s u y c o)
theorem jO.step(D:SO lt)(h:jO lt L n i)(s:0<j)(w:j<n)(F:n<=L.length)(q:bx j=i){x y:α}(t:L[j]? =some x)(C:L[i]? =some y)(A:lt x y=true)
  (B:∀c z,0<c->c<n->bx c=i->L[c]? =some z->lt z x=false):jO lt (bY L i j) n j/\fi lt (bY L i j) (bx j) j:=by
 have E:i<j:=q▸eP s
 have g:=λk=>eg (L:=L) (i:=i) (k:=j) (by omega) (by omega) k
 refine⟨⟨λk a p f r=>?_,λk a p r _=>?_⟩,?_⟩
 ·by_cases d:k=i
  ·subst d
   have G:=eP a
   refine(h.b j s w q a).fK ?_ ?_
   ·rw[g,aaz (by omega),aaz (by omega)]
   ·rw[g,aaz f,aaA rfl]
  ·by_cases o:bx k=i
   ·intro u v l m
    rw[o,g,aaz (by omega),aaA rfl,t]at l
    rw[g,aaz f,aaz d]at m
    cases l
    exact B k v a p o m
   ·refine(h.e k a p d o).fK ?_ ?_
    ·rw[g,aaz r,aaz o]
    ·rw[g,aaz f,aaz d]
 ·have f:k≠j:=by have:=eP a;omega
  have d:k≠i:=by have:=eP a;omega
  refine(h.e k a p d (by omega)).fK ?_ ?_
  ·rw[q,r,g,aaz (by omega),aaA rfl]
  ·rw[g,aaz f,aaz d]
 ·intro u v l m
  rw[q,g,aaz (by omega),aaA rfl,t]at l
  rw[g,aaA rfl,C]at m
  cases l;cases m
  exact D.kP A
theorem jO.stop(h:jO lt L n i)(g:∀c,0<c->c<n->bx c=i->fi lt L i c):Up lt L n i:=
 ⟨λk f d j=>by
  by_cases a:bx k=i
  ·rw[a];exact g k f d a
  ·exact h.e k f d j a,h.b⟩
theorem eS.hole(o:SO lt)(h:eS lt L n)(r:n<=L.length){e:List α}(c:∀k,k<n->k≠i->e[k]? =L[k]?):jO lt e n i:=by
 refine⟨λk b a m d=>?_,λk b a d g=>?_⟩
 ·have:=eP b
  exact(h k b a).fK (c _ (by omega) d) (c _ a m)
 ·have p:=eP b
  have q:=eP g
  intro u v j l
  rw[c _ (by omega) (by omega)]at j
  rw[c _ a (by omega)]at l
  have f:L[i]? =some (L[i]'(by omega)):=aaL _
  exact o.fJ _ _ _ (h k b a _ v (by rw[d];exact f) l) (h i g (by omega) u _ j f)
theorem eS.push(h:eS lt L L.length)(x:α):Up lt (L++[x]) (L.length+1) L.length:=by
 refine⟨λk a c d=>?_,λk a c e _=>?_⟩
 ·have b:=eP a
  refine(h k a (by omega)).fK ?_ ?_<;>rw[abl (by omega)]
 ·have b:=eP a
  omega
theorem eS.mono{m:Nat}(h:eS lt L n)(c:m<=n):eS lt L m:=λk a b=>h k a (by omega)
theorem eS.fK{a:List α}(h:eS lt L n)(d:∀k,k<n->a[k]? =L[k]?):eS lt a n:=λk b c=>by
 have:=eP b
 exact(h k b c).fK (d _ (by omega)) (d _ c)
theorem eS.least(c:SO lt)(h:eS lt L L.length){x:α}(g:L[0]? =some x):∀(k:Nat) (y:α),L[k]? =some y->lt y x=false:=by
 intro k
 induction k using Nat.strongRecOn with
 |_ k ih=>
  intro y a
  by_cases d:k=0
  ·subst d;rw[g]at a;cases a;exact c.eK _
  ·have f:=eP (k:=k) (by omega)
   have e:=(abf.1 a).1
   have b:L[bx k]? =some (L[bx k]'(by omega)):=aaL _
   exact c.fJ _ _ _ (h k (by omega) e _ y b a) (ih (bx k) f _ b)
end
end
section
theorem bu.trans{A B C:aF}(h:bu A B)(a:bu B C):bu A C:=by
 obtain⟨G,h⟩:=h
 obtain⟨b,a⟩:=a
 refine⟨b++G,h.trans ?_⟩
 rw[<-aaE]
 exact a.append_right G
def eh(T:au)(b:Nat)(o:Obj):au:=T.map λp=>if p.1=b then(b,o)else p
theorem ud{T:au}{b:Nat}{o:Obj}(j:Nat):(eh T b o)[j]? =T[j]?.map λp=>if p.1=b then(b,o)else p:=by simp[eh]
theorem uf{T a:au}{b:Nat}{o:Obj}(h:T.Perm a):(eh T b o).Perm (eh a b o):=h.map _
theorem ue{T:au}{b:Nat}{o:Obj}(h:∀p∈T,p.1≠b):eh T b o=T:=by
 unfold eh
 conv=>rhs;rw[<-List.map_id T]
 exact List.map_congr_left λp a=>by simp[h p a]
theorem Qj{T1 T2:au}{b:Nat}{o o':Obj}(d:((T1++(b,o)::T2).map (·.1)).Nodup):eh (T1++(b,o)::T2) b o'=T1++(b,o')::T2:=by
 simp only[List.map_append,aaB,abm,aa9]at d
 obtain⟨_,⟨g,_⟩,h⟩:=d
 have e:eh T1 b o'=T1:=ue λp c a=>h p.1 (abo c) b (by simp) a
 have f:eh T2 b o'=T2:=ue λp c a=>g (a▸abo c)
 have:eh (T1++(b,o)::T2) b o'=eh T1 b o'++(b,o')::eh T2 b o':=by simp[eh]
 rw[this,e,f]
theorem RS.Nd{α:Type}{R:ao}{b n E sz:Nat}{cs:List Value}{fr:Nat×Nat}{enc:α->List Value}{xs:List α}(a:R b (.cells cs.toArray E fr))(c:xs.flatMap enc=cs)(d:∀x∈xs,(enc x).length=sz)(ho:∀x∈xs,∀u∈enc x,Go.Proofs.YtocjmmbldeljnaaGreatDoor.ay u=true)(f:xs.length=n:=by rfl)(e:Nat.ble n 9223372036854775807=true:=by rfl):
  RS R sz enc (.slice (some ⟨b,0,none⟩) n n) xs:=
 ⟨d,ho,_,n,by rw[f],by omega,by have:=aaO e;unfold maxLen;omega,.inr ⟨b,0,_,E,fr,rfl,a,λk g=>by subst c;simp⟩⟩
theorem RS.lits{α:Type}{R:ao}{H:aF}{b n E sz:Nat}{cs:List Value}{fr:Nat×Nat}{enc:α->List Value}{xs:List α}(a:xs.flatMap enc=cs)(c:∀x∈xs,(enc x).length=sz)(ho:∀x∈xs,∀u∈enc x,Go.Proofs.YtocjmmbldeljnaaGreatDoor.ay u=true)(e:xs.length=n:=by rfl)(d:Nat.ble n 9223372036854775807=true:=by rfl):
  RS (Rx R ([(b,.cells cs.toArray E fr)]::H)) sz enc (.slice (some ⟨b,0,none⟩) n n) xs:=RS.Nd (E:=E) (fr:=fr) (.inr (by simp)) a c ho e d
theorem Qi{T:au}{b a:Nat}{o o':Obj}(h:(a,o')∈T)(c:a≠b):(a,o')∈eh T b o:=aaN.2 ⟨_,h,by simp[c]⟩
theorem yL{T:au}{b:Nat}{o o':Obj}(h:(b,o')∈T):(b,o)∈eh T b o:=aaN.2 ⟨_,h,by simp⟩
def idx{α:Type}:Nat->List α->List (Nat×α)
 |_,[]=>[]
 |i,x::l=>(i,x)::idx (i+1) l
theorem we{a:List (Nat×Nat)}{zs:List Value}{i off:Nat}{v:Value}{r:List (Nat×Value)}(d:a[i]? =some (off,1))(e:ay v=true)(c:off+1<=zs.length):eU a zs ((i,v)::r)=eU a (bT zs off [v]) r:=by
 have b:Nat.ble (off+1) zs.length=true:=abJ c
 simp only[eU,d]
 cases v<;>first|(cases e;done)|simp[b]
theorem LX{a:List (Nat×Nat)}{zs cs:List Value}{i off:Nat}{r:List (Nat×Value)}(d:a[i]? =some (off,cs.length))(c:off+cs.length<=zs.length):eU a zs ((i,.agg cs.toArray)::r)=eU a (bT zs off cs) r:=by
 have b:Nat.ble (off+cs.length) zs.length=true:=abJ c
 simp[eU,d,b]
theorem wg{n:Nat}:∀(vs zs:List Value) (i:Nat),i+vs.length=n->zs.length=n->(∀v∈vs,ay v=true)->eU ((List.range n).map λi=>(i*1,1)) zs (idx i vs)=some (zs.take i++vs)
 |[],zs,i,h,hz,_=>by
  simp only[idx,eU,aaM]
  rw[List.take_of_length_le (by simp at h;omega)]
 |v::vs,zs,i,h,hz,ho=>by
  simp only[aaZ]at h
  have b:((List.range n).map λi=>(i*1,1))[i]? =some (i*1,1):=by
   rw[aaJ,List.getElem?_range (by omega)];rfl
  simp only[idx]
  rw[we b (ho v (by simp)) (by omega),wg vs _ (i+1) (by omega) (by rw[mv (by simp;omega)];exact hz) λu c=>ho u (by simp[c])]
  simp only[gC,Nat.mul_one,aaE]
  rw[List.take_append,List.take_of_length_le (by simp;omega)]
  have a:i+1-(zs.take i).length=1:=by rw[abb];omega
  rw[a];simp
theorem LY{n:Nat}{vs zs:List Value}(b:vs.length=n)(a:zs.length=n)(ho:∀v∈vs,ay v=true):eU ((List.range n).map λi=>(i*1,1)) zs (idx 0 vs)=some vs:=by
 rw[wg vs zs 0 (by omega) a ho];simp
section
variable{P:Program}{N:Nat}{R R':ao}{ops:Array Oper}{l:List Oper}{env:Env}{H:aF}{K:Env->aF->Prop}{Q:Exit->Env->aF->Prop}{T:au}{upd:au->aF}{ty:TypeId}{pos:String}{af:Array Edge}{m:Bool}
theorem aB.nodup(h:(H.flatten.map (·.1)).Nodup->aB m P N R ops l env H K):aB m P N R ops l env H K:=λc e b d a w s=>h s.sat.1 c e b d a w s
theorem Spec.nodup{f:FuncId}{a:List Value}{Post:Value->aF->Prop}(h:(H.flatten.map (·.1)).Nodup->Spec P f a R H Post):Spec P f a R H Post:=λw b c=>h b.1 w b c
theorem Spec.gg{f:FuncId}{b:List Value}{Post:Value->Prop}(h:Spec P f b (Rx R H) [] λv H'=>Post v/\H'=[]):Spec P f b R H λv H'=>Post v/\H'=H:=λw a j=>by
 obtain⟨n,o,p⟩:=lN (is:=[]) a
 refine(h w n (RO.split (is:=[]) a j)).mono λe q ⟨v,H',d,⟨i,c⟩,k,g⟩=>?_
 subst c
 obtain⟨l,m⟩:=mZ (is:=[]) a k g
 exact⟨v,H,d,⟨i,rfl⟩,l,m⟩
theorem fY.gg{t:TypeId}{v r:Value}{name:String}{vs:List Value}{f:FuncId}{Post:Value->Prop}(c:iI P (Rx R [T]) t v name f r) [e:ap P f](h:Spec P f (r::vs) (Rx R [T]) [] λv H'=>Post v/\H'=[]):fY P t v name vs R T λu T'=>Post u/\T'=T:=
 ⟨f,r,c,e,h.gg.mono λu H' ⟨a,b⟩=>⟨T,b,a,rfl⟩⟩
theorem PS.of{b:Nat}{vs:List Value}{E:TypeId}{fr:Nat×Nat}(h:(b,.cells vs.toArray E fr)∈T):PS T (.pointer (some ⟨b,0,none⟩)) vs:=⟨PC.of h⟩
theorem aB.tP{t:TypeId}{x y:Operand}{v:Value}{vs:List Value}{b off E:Nat}(m:(b,.cells vs.toArray E (0,0))∈T) [r:dE H T upd] [sz:Sz P t 1](f:aB false P N R ops l env (upd (eh T b (.cells (bT vs off [v]).toArray E (0,0)))) K)
  (k:off+1<=vs.length:=by first|decide|exact aaO rfl)(p:ev env x=some (.pointer (some ⟨b,off,none⟩)):=by rfl)(q:ev env y=some v:=by rfl)(ho:ay v=true:=by rfl):
  aB false P N R ops (⟨none,.store t x y,ty,pos,af,none⟩::l) env H K:=by
 refine .nodup λg=>?_
 obtain⟨a,c,j⟩:=List.append_of_mem m
 obtain⟨d,e,rfl,o⟩:=r.h
 have n:(T.map (·.1)).Nodup:=by
  simp only[aaU,aaT,List.map_append,abm]at g
  exact g.2.1.1
 subst j
 rw[Qj n]at f
 have wr:Wr (d++(a++(b,.cells vs.toArray E (0,0))::c)::e) (.pointer (some ⟨b,off,none⟩)) vs off (λi=>upd (a++(b,.cells i.toArray E (0,0))::c)):=⟨b,E,d,e,a,c,rfl,rfl,λi=>o _⟩
 exact aB.tQ p q (oT ho) rfl (wr:=wr) (by simpa using ho) k f
theorem aB.oS{d:Nat}{T E n:Nat}{z:Value}{xs:List (Nat×Operand)}(vs:List Value) [ut:bh P T (.slice E)] [sz:Sz P E 1] [j:Zr P E z]
  (f:∀b,aB false P N R ops l ((d,.slice (some ⟨b,0,none⟩) n n)::env) ([(b,.cells vs.toArray E (0,0))]::H) K)
  (i:lA env xs=some (idx 0 vs):=by rfl)(e:vs.length=n:=by rfl)(ho:∀v∈vs,Go.Proofs.YtocjmmbldeljnaaGreatDoor.ay v=true:=by simp[Go.Proofs.YtocjmmbldeljnaaGreatDoor.ay])(h:Nat.ble (n*1) (2^24)=true:=by rfl)(c:Nat.beq (n*1) 0=false:=by rfl)(g:(idx 0 vs).all (λp=>Nat.blt p.1 n)=true:=by rfl)(a:Nat.blt d N=true:=by rfl):
  aB false P N R ops (⟨some d,.buildSlice T n xs.toArray,ty,pos,af,none⟩::l) env H K:=
 aB.buildSlice (z:=z) (zs:=((Array.range (n*1)).map (z.cells[· % z.cells.size]!)).toList) (parts:=idx 0 vs) h c rfl i (LY e (by simp) ho) f a g
theorem Spec.pb{f:FuncId}{b:List Value}{Post:Value->aF->Prop}(is:List Nat)(h:Spec P f b (Rx R (rest is H)) (take is H) Post):Spec P f b R H λv H'=>∃H1,H'=H1++rest is H/\Post v H1:=λw a i=>by
 obtain⟨m,n,o⟩:=lN (is:=is) a
 refine(h w m (RO.split a i)).mono λe p ⟨v,H',c,g,j,d⟩=>?_
 obtain⟨k,l⟩:=mZ a j d
 exact⟨v,_,c,⟨H',rfl,g⟩,k,l⟩
theorem aI.uy{x:Operand}{i t:TypeId}{v:Value}{b:TypeDesc} [ut:bh P t b](e:(match b with| .interface _=>false|_=>true)=true:=by rfl)(f:ev env x=some (.iface t v):=by rfl):aI P R env H (.typeAssert x i t false) ty v:=λa w d k j g c _ _=>by
 cases b<;>first|(cases e;done)|simp[execOp,c.eval f,Instr.typeAssert,run_underlying ut.h]
theorem Spec.flat{f:FuncId}{a:List Value}{Post:Value->aF->Prop}(h:Spec P f a R H λv H'=>∃H1 T',H'=H1/\H1.flatten.Perm T'/\Post v [T']):Spec P f a R H Post:=λw l k=>
 (h w l k).mono λe n ⟨v,H',d,⟨H1,T',c,i,j⟩,m,g⟩=>by
  subst c
  have b:bu H' [T']:=⟨[],by simpa using i⟩
  exact⟨v,[T'],d,j,b.sat m,g.trans (b.frame n)⟩
theorem aB.sub{H':aF}(e:bu H H')(h:aB m P N R ops l env H' K):aB m P N R ops l env H K:=λc f b d a w s=>h c f b d a w (s.le (di.refl env) e)
theorem bu.merge(is:List Nat)(H:aF):bu H ((take is H).flatten::rest is H):=⟨[],by simpa using li is H⟩
theorem aB.merge(is:List Nat)(h:aB m P N R ops l env ((take is H).flatten::rest is H) K):aB m P N R ops l env H K:=h.sub (bu.merge is H)
theorem bu.cu{H H':aF}(h:H.flatten.Perm H'.flatten):bu H H':=⟨[],by simpa using h⟩
theorem OO{t:TypeId}{s:ByteArray}{lo hi:Nat}{xl d:Option Operand}{a:Act}{w:World}(l:dH a env) [ut:bh P t .string](e:dR env xl 0 lo)(b:dR env d s.size hi)(g:lo<=hi)(i:hi<=s.size):
  (Instr.sliceAt t (.string s) (xl.map a.eval) (d.map a.eval) none).run P w=.ok (.string (s.extract lo hi)) w:=by
 have c:∀{x:Operand} {k:IntKind} {y n:Nat} {code:BoundsCode},ev env x=some (.int k n)->n<=y->(Instr.sliceBound (a.eval x) y code).run P w=.ok n w:=λp m=>run_sliceBound (l.eval p) m
 unfold Instr.sliceAt
 simp only[Sem.run_bind,run_underlying ut.h,Result.andThen_ok]
 unfold Instr.slice
 simp only[Sem.run_bind,run_underlying ut.h,Result.andThen_ok]
 unfold Instr.sliceBounds
 cases xl with
 |none=>
  simp only[dR]at e
  subst e
  cases d with
  |none=>simp only[dR]at b;subst b;simp
  |some o=>obtain⟨k,f⟩:=b;simp[c f i]
 |some q=>
  obtain⟨r,j⟩:=e
  cases d with
  |none=>simp only[dR]at b;subst b;simp[c j g]
  |some o=>obtain⟨k,f⟩:=b;simp[c f i,c j g]
theorem aI.Ph{x:Operand}{xl c:Option Operand}{t:TypeId}{s:ByteArray}(lo hi:Nat) [ut:bh P t .string](e:dR env xl 0 lo)(f:dR env c s.size hi)(h:lo<=hi)(i:hi<=s.size)(j:ev env x=some (.string s):=by rfl):
  aI P R env H (.slice t x xl c none) ty (.string (s.extract lo hi)):=λa w d l k g b _ _=>by
 have:=OO (P:=P) (w:=w) (s:=s) b e f h i (t:=t)
 simp only[execOp,b.eval j,Option.map_none]
 rw[Sem.run_bind,this]
 rfl
theorem aB.gP{d t:Nat}{f:FuncId}{first captured:List Value} [e:ap P f]{xs:List Operand}{a:Array TypeId}{vs:List Value}{Post:Value->Prop}
  (i:Spec P f (first++vs++captured) (Rx R H) [] λv H'=>Post v/\H'=[])(g:∀v,Post v->aB false P N R ops l ((d,v)::env) H K)
  (j:Env.get? env t=some (.func (.func f) first.toArray captured.toArray):=by rfl)(hxs:fR env xs=some vs:=by rfl)(c:Nat.blt d N=true:=by rfl):
  aB false P N R ops (⟨some d,.call ⟨.value (.tmp t),xs.toArray,a⟩,ty,pos,af,none⟩::l) env H K:=
 aB.zD [] (first:=first) (captured:=captured) j i (λv H' h=>by obtain⟨b,rfl⟩:=h;exact g v b) hxs c
theorem za{a:Act}{j t:Nat}(c:dH a env)(b:gV ops j=some t)(d:Env.get? env t=some undef):yielded ops a.tmps j=none:=by
 unfold gV at b
 have:=c t _ d
 simp[yielded,b,this,undef]
theorem aB.bN{j t d:Nat}{c:Bool}{op:Op}(o:Env.get? env t=some undef)(n:aB m P N R ops l ((d,undef)::env) H K)(k:gV ops j=some t:=by rfl)(i:Nat.blt d N=true:=by rfl):
  aB m P N R ops (⟨some d,op,ty,pos,af,some (j,c)⟩::l) env H K:=λf p e g a w s=>by
 have b:¬Region.wanted ⟨some d,op,ty,pos,af,some (j,c)⟩ (yielded ops a.tmps)=true:=by
  simp[Region.wanted,za s.env k o]
 have h:=n f p e g _ w (s.put undef i)
 cases m
 ·simp only[wpList]
  rw[aaz b]
  exact h
 ·simp only[wpStill]
  rw[aaz b]
  exact h
theorem aB.ld{d:Nat}{x:Operand}{xl a:Option Operand}{t e:TypeId}{sz:Nat}{α:Type}{enc:α->List Value}{v:Value}{xs:List α}(lo hi:Nat)(h:RS R' sz enc v xs) [ut:bh P t (.slice e)] [s:Sz P e sz](f:dR env xl 0 lo)(g:dR env a xs.length hi)(i:lo<=hi)(j:hi<=xs.length)
  (n:∀v',RS R' sz enc v' ((xs.drop lo).take (hi-lo))->aB m P N R ops l ((d,v')::env) H K)(o:ev env x=some v:=by rfl)(k:Nat.blt d N=true:=by rfl):
  aB m P N R ops (⟨some d,.slice t x xl a none,ty,pos,af,none⟩::l) env H K:=by
 obtain⟨v',b,c⟩:=aI.ld (P:=P) (R:=R) (H:=H) (ty:=ty) (t:=t) lo hi h f g i j o
 exact aB.q c (n v' b) k
end
end
section
section
variable{P:Program}{N:Nat}{R R':ao}{ops:Array Oper}{l:List Oper}{env:Env}{H:aF}{K:Env->aF->Prop}{Q:Exit->Env->aF->Prop}{T:au}{upd:au->aF}{ty:TypeId}{pos:String}{af:Array Edge}{m:Bool}
theorem aI.cast{op:Op}{v v':Value}(h:aI P R env H op ty v)(e:v=v'):aI P R env H op ty v':=e▸h
theorem RS.yi{α:Type}{sz:Nat}{enc:α->List Value}{v:Value}{xs:List α}(h:RS (sg T) sz enc v xs) [c:dE H T upd]:RS (Rx R H) sz enc v xs:=h.mono λb o a=>.inr (c.mem (b,o) a)
theorem RS.left{α:Type}{T1 T2:au}{sz:Nat}{enc:α->List Value}{v:Value}{xs:List α}(h:RS (sg T1) sz enc v xs):RS (sg (T1++T2)) sz enc v xs:=h.mono λb o a=>abI _ a
theorem RS.right{α:Type}{T1 T2:au}{sz:Nat}{enc:α->List Value}{v:Value}{xs:List α}(h:RS (sg T2) sz enc v xs):RS (sg (T1++T2)) sz enc v xs:=h.mono λb o a=>List.mem_append_right _ a
theorem OS.sg{α:Type}{E sz:Nat}{enc:α->List Value}{v:Value}{xs:List α}(h:OS E sz enc v xs T):RS (Go.Proofs.YtocjmmbldeljnaaGreatDoor.sg T) sz enc v xs:=h.rs λ_ a=>a
theorem RA.m5{e:aF}{b c:List Nat}{d j t:Nat}{n:Bool}{op:Op}(i:Nat)(hi:ops[i]? =some ⟨some d,op,ty,pos,af,some (j,n)⟩)(m:Env.get? env t=some undef)
  (g:tk false ops b c i=true)(l:RA P N R ops e b (i::c) ((d,undef)::env) H K)(k:gV ops j=some t:=by rfl)(h:Nat.blt d N=true:=by rfl):RA P N R ops e b c env H K:=
 RA.om false i hi (λa f=>.inr ⟨by simp[Region.wanted,za f k m],rfl⟩) g λa w p o s=>⟨_,s.put _ h,l⟩
theorem RA.rf{e:aF}{a c:List Nat}{d j t:Nat}{f b:Bool}{op:Op}{v:Value}(i:Nat)(hi:ops[i]? =some ⟨some d,op,ty,pos,af,some (j,f)⟩)(o:Env.get? env t=some (.bool b))(g:b=f)(n:aI P R env [] op ty v)
  (h:tk false ops a c i=true)(m:RA P N R ops e a (i::c) ((d,v)::env) H K)(l:gV ops j=some t:=by rfl)(k:Nat.blt d N=true:=by rfl):RA P N R ops e a c env H K:=
 RA.P0 i hi (g▸o) n h m l k
theorem RA.dd{a:aF}{c e:List Nat}{d j t:Nat}{f b:Bool}{op:Op}{v:Value}(i:Nat)(hi:ops[i]? =some ⟨some d,op,ty,pos,af,some (j,f)⟩)(o:Env.get? env t=some (.bool b))(g:b=f)(n:aI P R env a op ty v)
  (h:tk true ops c e i=true)(m:RA P N R ops a c (i::e) ((d,v)::env) H K)(l:gV ops j=some t:=by rfl)(k:Nat.blt d N=true:=by rfl):RA P N R ops a c e env H K:=
 RA.P1 i hi (g▸o) n h m l k
end
abbrev bl(b:Nat)(cs:List Value)(t:TypeId):au:=[(b,.cells cs.toArray t (0,0))]
abbrev sZ:Value:=.slice none 0 0
abbrev pT(b:Nat):Value:=.pointer (some ⟨b,0,none⟩)
abbrev iN(n:Nat):Value:=.int .i64 (n:Int)
section
variable{P:Program}{N:Nat}{R:ao}{ops:Array Oper}{l:List Oper}{env:Env}{H Ho:aF}{Ms done:List Nat}{K:Env->aF->Prop}{m:Bool}{d:Nat}{ty:TypeId}{pos:String}{af:Array Edge}
theorem aB.ia{op:Op}{z:Int}(c:Nat)(h:aI P R env H op ty (.int .i64 (IntKind.i64.wrap z)))(b:aB m P N R ops l ((d,.int .i64 ((c:Nat):Int))::env) H K)(e:z=(c:Int)/\ -9223372036854775808<=(c:Int)/\(c:Int)<=9223372036854775807:=by(refine⟨?_,?_,?_⟩<;>omega))(a:Nat.blt d N=true:=by rfl):aB m P N R ops (⟨some d,op,ty,pos,af,none⟩::l) env H K:=.q (.i64 (c:Int) h e) b a
theorem RA.tK{op:Op}{v:Value}(i:Nat)(hi:ops[i]? =some ⟨some d,op,ty,pos,af,none⟩)(e:aI P R env [] op ty v)(c:RA P N R ops Ho Ms (i::done) ((d,v)::env) H K)(a:tk false ops Ms done i=true:=by kernel_rfl)(b:Nat.blt d N=true:=by rfl):RA P N R ops Ho Ms done env H K:=.take i hi e a c b
theorem RA.tO{op:Op}{v:Value}(i:Nat)(hi:ops[i]? =some ⟨some d,op,ty,pos,af,none⟩)(e:aI P R env Ho op ty v)(c:RA P N R ops Ho Ms (i::done) ((d,v)::env) H K)(a:tk true ops Ms done i=true:=by kernel_rfl)(b:Nat.blt d N=true:=by rfl):RA P N R ops Ho Ms done env H K:=.eF i hi e a c b
theorem RA.sT{o:Oper}(i:Nat)(hi:ops[i]? =some o)(h:aB false P N R ops [o] env H (Next P N R ops Ho Ms done K i))(b:Region.ready .any ops (marked ops.size done)=[i]:=by kernel_rfl)(a:Nat.blt done.length ops.size=true:=by rfl):RA P N R ops Ho Ms done env H K:=.step i hi b a h
theorem aW{Post:Value->aF->Prop}{t:Nat}{v:Value}(h:Env.get? env t=some v)(a:Post v []):pF P R [.tmp t] Post .ret env H:=aO v (.one (.tmp h)) (.none _) a
theorem Q8:∀b o,R b o->Rx R H b o:=λ_ _ h=>.inl h
end
theorem fg{a b:Nat}(h:decide ((a:Int)<(b:Int))=true):a<b:=by have:=of_decide_eq_true h;omega
theorem Q0{a b:Nat}(h:decide ((a:Int)<(b:Int))=false):b<=a:=by have:=of_decide_eq_false h;omega
theorem dM{α:Type}{l:List α}{i:Nat}(h:i<l.length):∃x,l[i]? =some x:=⟨_,aaL h⟩
theorem bd{α:Type}{l:List α}{i:Nat}(h:i<l.length):l[i]? =some l[i]:=aaL h
theorem bD{α:Type}{l:List α}{i:Nat}{a:α}(h:l[i]? =some a):a∈l:=aaY h
theorem bp{p:Prop} [i:Decidable p](h:decide p=true):p:=of_decide_eq_true h
theorem ba{p:Prop} [i:Decidable p](h:decide p=false):¬p:=of_decide_eq_false h
theorem rH{H:aF}:bu H H:=.refl _
theorem bG(is:List Nat){H:aF}:bu H (take is H):=.pick is H
end
section
variable{α:Type}
inductive RP(a b:Nat):List α->List α->Prop
 |refl (xs:List α):RP a b xs xs
 |step {xs ys:List α} {i j:Nat}:RP a b xs ys->a<=i->i<b->a<=j->j<b->b<=ys.length->RP a b xs (bY ys i j)
section
variable{a b a' b':Nat}{xs ys zs:List α}
theorem RP.length(h:RP a b xs ys):ys.length=xs.length:=by
 induction h with
 |refl=>rfl
 |step _ _ _ _ _ _ ih=>rw[kl,ih]
theorem RP.perm(h:RP a b xs ys):ys.Perm xs:=by
 induction h with
 |refl=>exact .refl _
 |step _ _ _ _ _ _ ih=>exact pN.trans ih
theorem RP.out(h:RP a b xs ys){k:Nat}(c:k<a\/b<=k):ys[k]? =xs[k]? :=by
 induction h with
 |refl=>rfl
 |step _ h1 h2 h3 h4 h5 ih=>rw[eg (by omega) (by omega),aaz (by omega),aaz (by omega),ih]
theorem RP.all(h:RP a b xs ys){p:α->Prop}(f:∀(k:Nat) (x:α),a<=k->k<b->xs[k]? =some x->p x):∀(k:Nat) (x:α),a<=k->k<b->ys[k]? =some x->p x:=by
 induction h with
 |refl=>exact f
 |step _ h1 h2 h3 h4 h5 ih=>
  intro k x d e c
  rw[eg (by omega) (by omega)]at c
  split at c
  ·exact ih _ x h1 h2 c
  ·split at c
   ·exact ih _ x h3 h4 c
   ·exact ih k x d e c
theorem RP.trans(h:RP a b xs ys)(c:RP a b ys zs):RP a b xs zs:=by
 induction c with
 |refl=>exact h
 |step _ h1 h2 h3 h4 h5 ih=>exact .step ih h1 h2 h3 h4 h5
theorem RP.mono(h:RP a b xs ys)(c:a'<=a)(d:b<=b')(e:b'<=xs.length):RP a' b' xs ys:=by
 induction h with
 |refl=>exact .refl _
 |step h0 h1 h2 h3 h4 h5 ih=>exact .step ih (by omega) (by omega) (by omega) (by omega) (by rw[h0.length];omega)
theorem RP.one{i j:Nat}(c:a<=i)(d:i<b)(e:a<=j)(f:j<b)(g:b<=xs.length):RP a b xs (bY xs i j):=.step (.refl xs) c d e f g
end
section
variable{lt:α->α->Bool}{a b a0 b0 mid:Nat}{xs ys zs:List α}
def SR(lt:α->α->Bool)(xs:List α)(a b:Nat):Prop:=∀i j,a<=i->i<j->j<b->fi lt xs i j
def OX(lt:α->α->Bool)(xs:List α)(a0 b0 a b:Nat):Prop:=∀i j,a0<=i->i<j->j<b0->(i<a\/b<=j)->fi lt xs i j
theorem OX.start:OX lt xs a0 b0 a0 b0:=λi j a b c d=>by omega
theorem OX.jq(h:OX lt xs a0 b0 a b)(g:SR lt xs a b):SR lt xs a0 b0:=λi j d c e=>by
 by_cases f:i<a\/b<=j
 ·exact h i j d c e f
 ·exact g i j (by omega) c (by omega)
theorem OX.rp(h:OX lt xs a0 b0 a b)(c:RP a b xs ys)(r:a0<=a)(s:b<=b0):OX lt ys a0 b0 a b:=λi j f n g h4 x y d e=>by
 rcases h4 with h4|h4
 ·rw[c.out (.inl h4)]at d
  by_cases l:j<a\/b<=j
  ·rw[c.out l]at e
   exact h i j f n g (.inl h4) x y d e
  ·exact c.all (p:=λy=>lt y x=false) (λk z o q m=>h i k f (by omega) (by omega) (.inl h4) x z d m) j y (by omega) (by omega) e
 ·rw[c.out (.inr h4)]at e
  by_cases l:i<a\/b<=i
  ·rw[c.out l]at d
   exact h i j f n g (.inr h4) x y d e
  ·exact c.all (p:=λx=>lt y x=false) (λk z o q m=>h k j (by omega) (by omega) g (.inr h4) z y m e) i x (by omega) (by omega) d
structure Part(lt:α->α->Bool)(xs:List α)(a mid b:Nat)(p:α):Prop where
 lo:a<=mid
 hi:mid<b
 at_:xs[mid]? =some p
 left:∀(k:Nat) (x:α),a<=k->k<mid->xs[k]? =some x->lt x p=true
 right:∀(k:Nat) (x:α),mid<k->k<b->xs[k]? =some x->lt x p=false
theorem Part.OD{p:α}(h:Part lt xs a mid b p)(c:RP a mid xs ys):Part lt ys a mid b p:=
 ⟨h.lo,h.hi,by rw[c.out (.inr (aba _))];exact h.at_,c.all h.left,λk x d e f=>h.right k x d e (by rw[<-c.out (.inr (by omega))];exact f)⟩
theorem Part.OE{p:α}(h:Part lt xs a mid b p)(d:RP (mid+1) b xs ys):Part lt ys a mid b p:=
 ⟨h.lo,h.hi,by rw[d.out (.inl (by omega))];exact h.at_,λk x f c e=>h.left k x f c (by rw[<-d.out (.inl (by omega))];exact e),
  λk x f c e=>d.all (p:=λx=>lt x p=false) (λk x i g=>h.right k x (by omega) g) k x (by omega) c e⟩
theorem Part.pair(k:SO lt){p:α}(h:Part lt xs a mid b p){i j:Nat}(l:a<=i)(m:i<j)(e:j<b)(n:i<=mid)(o:mid<=j):fi lt xs i j:=λx y d c=>by
 rcases aaR i mid with hi|hi
 ·have f:=h.left i x l hi d
  rcases aaR mid j with hj|hj
  ·have g:=h.right j y hj e c
   cases hc:lt y x with
   |false=>rfl
   |true=>rw[k.tr _ _ _ hc f]at g;cases g
  ·have:j=mid:=by omega
   subst this
   rw[h.at_]at c;cases c
   exact k.kP f
 ·have:i=mid:=by omega
  subst this
  rw[h.at_]at d;cases d
  exact h.right j y (by omega) e c
theorem OX.left(s:SO lt){p:α}(h:OX lt xs a0 b0 a b)(d:Part lt xs a mid b p)(e:RP a mid xs ys)(r:SR lt ys a mid)(l:a0<=a)(m:b<=b0)(n:b<=xs.length):OX lt ys a0 b0 (mid+1) b:=λi j f c g t=>by
 have o:=h.rp (e.mono (aba a) (Nat.le_of_lt d.hi) n) l m
 have q:=d.OD e
 by_cases k:i<a\/b<=j
 ·exact o i j f c g k
 ·rcases aaR j mid with hj|hj
  ·exact r i j (by omega) c hj
  ·exact q.pair s (by omega) c (by omega) (by omega) hj
theorem OX.right(s:SO lt){p:α}(h:OX lt xs a0 b0 a b)(d:Part lt xs a mid b p)(e:RP (mid+1) b xs ys)(r:SR lt ys (mid+1) b)(l:a0<=a)(m:b<=b0)(n:b<=xs.length):OX lt ys a0 b0 a mid:=λi j f c g t=>by
 have u:=d.lo
 have o:=h.rp (e.mono (by omega) (aba b) n) l m
 have q:=d.OE e
 by_cases k:i<a\/b<=j
 ·exact o i j f c g k
 ·rcases aaR mid i with hi|hi
  ·exact r i j (by omega) c (by omega)
  ·exact q.pair s (by omega) c (by omega) hi (by omega)
structure pY(lt:α->α->Bool)(xs:List α)(a mid b:Nat)(p:α):Prop where
 lo:a<mid
 hi:mid<=b
 left:∀(k:Nat) (x:α),a<=k->k<mid->xs[k]? =some x->lt x p=false/\lt p x=false
 right:∀(k:Nat) (x:α),mid<=k->k<b->xs[k]? =some x->lt p x=true
theorem OX.eqs(g:SO lt){p:α}(h:OX lt xs a0 b0 a b)(e:pY lt xs a mid b p):OX lt xs a0 b0 mid b:=λi j k l m s=>by
 by_cases n:i<a\/b<=j
 ·exact h i j k l m n
 ·intro x y o f
  obtain⟨q,c⟩:=e.left i x (by omega) (by omega) o
  rcases aaR j mid with hj|hj
  ·obtain⟨d,r⟩:=e.left j y (by omega) hj f
   exact g.fJ _ _ _ d c
  ·have d:=e.right j y hj (by omega) f
   cases hc:lt y x with
   |false=>rfl
   |true=>rw[g.tr _ _ _ d hc]at c;cases c
def kp(lt:α->α->Bool)(xs:List α)(a j n:Nat):Prop:=∀i k,a<=i->i<k->k<n->k≠j->fi lt xs i k
theorem SR.ins(h:SR lt xs a b):kp lt xs a b (b+1):=λi k c d e f=>h i k c d (by omega)
theorem kp.done(o:SO lt){j n:Nat}(h:kp lt xs a j n)(r:n<=xs.length)(q:j<n)(he:j=a\/a<j/\fi lt xs (j-1) j):SR lt xs a n:=λi k b e f=>by
 by_cases c:k=j
 ·subst c
  rcases he with he|⟨p,he⟩
  ·omega
  ·by_cases g:i=k-1
   ·subst g;exact he
   ·intro x y l m
    have d:xs[k-1]? =some (xs[k-1]'(by omega)):=bd _
    exact o.fJ _ _ _ (he _ y d m) (h i (k-1) b (by omega) (by omega) (by omega) x _ l d)
 ·exact h i k b e f c
theorem kp.step(t:SO lt){j n:Nat}(h:kp lt xs a j n)(A:n<=xs.length)(z:j<n)(w:a<j){x y:α}(r:xs[j]? =some x)(s:xs[j-1]? =some y)(q:lt x y=true):kp lt (bY xs j (j-1)) a (j-1) n:=λi k f p d e=>by
 have g:=λk=>eg (L:=xs) (i:=j) (k:=j-1) (by omega) (by omega) k
 by_cases b:k=j
 ·subst b
  by_cases c:i=k-1
  ·subst c
   intro u v m o
   rw[g,aaA rfl,r]at m
   rw[g,aaz (by omega),aaA rfl,s]at o
   cases m;cases o
   exact t.kP q
  ·refine(h i (k-1) f (by omega) (by omega) (by omega)).fK ?_ ?_
   ·rw[g,aaz c,aaz (by omega)]
   ·rw[g,aaz (by omega),aaA rfl]
 ·by_cases c:i=j
  ·subst c
   refine(h (i-1) k (by omega) (by omega) d b).fK ?_ ?_
   ·rw[g,aaz (by omega),aaA rfl]
   ·rw[g,aaz e,aaz b]
  ·by_cases l:i=j-1
   ·subst l
    refine(h j k (by omega) (by omega) d b).fK ?_ ?_
    ·rw[g,aaA rfl]
    ·rw[g,aaz e,aaz b]
   ·refine(h i k f p d b).fK ?_ ?_
    ·rw[g,aaz l,aaz c]
    ·rw[g,aaz e,aaz b]
end
end
section
variable{α:Type}
def eR(P:Program)(f:FuncId)(caps:List Value)(R:ao)(pk:α->Value)(c:α->α->Int)(ok:α->Prop):Prop:=
 ∀x y,ok x->ok y->∀R',(∀b o,R b o->R' b o)->Spec P f ([pk x,pk y]++caps) R' [] λv H'=>v=.int .i64 (c x y)/\H'=[]
theorem eR.mono{P:Program}{f:FuncId}{caps:List Value}{R R':ao}{a:α->Value}{c:α->α->Int}{ok:α->Prop}(h:eR P f caps R a c ok)(i:∀b o,R b o->R' b o):eR P f caps R' a c ok:=λx y j k d e=>h x y j k d λb o g=>e b o (i b o g)
def aM(c:α->α->Int)(x y:α):Bool:=decide (c x y<0)
def iH(lt:α->α->Bool)(L:List α)(n lo:Nat):Prop:=∀k,0<k->k<n->lo<=bx k->fi lt L (bx k) k
structure jw(lt:α->α->Bool)(L:List α)(n lo i:Nat):Prop where
 e:∀k,0<k->k<n->k≠i->bx k≠i->lo<=bx k->fi lt L (bx k) k
 b:∀k,0<k->k<n->bx k=i->0<i->lo<=bx i->fi lt L (bx i) k
 u:0<i->lo<=bx i->fi lt L (bx i) i
section
variable{lt:α->α->Bool}{L:List α}{n i j lo:Nat}
theorem jw.step(E:SO lt)(h:jw lt L n lo i)(G:lo<=i)(t:0<j)(A:j<n)(H:n<=L.length)(q:bx j=i){x y:α}(w:L[j]? =some x)(D:L[i]? =some y)(B:lt x y=true)
  (C:∀c z,0<c->c<n->bx c=i->L[c]? =some z->lt z x=false):jw lt (bY L i j) n lo j:=by
 have F:i<j:=q▸eP t
 have g:=λk=>eg (L:=L) (i:=i) (k:=j) (by omega) (by omega) k
 refine⟨λk a p f s r=>?_,λk a p s _ r=>?_,λ_ _=>?_⟩
 ·by_cases d:k=i
  ·subst d
   have I:=eP a
   refine(h.b j t A q a r).fK ?_ ?_
   ·rw[g,aaz (by omega),aaz (by omega)]
   ·rw[g,aaz f,aaA rfl]
  ·by_cases o:bx k=i
   ·intro u v l m
    rw[o,g,aaz (by omega),aaA rfl,w]at l
    rw[g,aaz f,aaz d]at m
    cases l
    exact C k v a p o m
   ·refine(h.e k a p d o r).fK ?_ ?_
    ·rw[g,aaz s,aaz o]
    ·rw[g,aaz f,aaz d]
 ·have f:k≠j:=by have:=eP a;omega
  have d:k≠i:=by have:=eP a;omega
  refine(h.e k a p d (by omega) (by omega)).fK ?_ ?_
  ·rw[q,s,g,aaz (by omega),aaA rfl]
  ·rw[g,aaz f,aaz d]
 ·intro u v l m
  rw[q,g,aaz (by omega),aaA rfl,w]at l
  rw[g,aaA rfl,D]at m
  cases l;cases m
  exact E.kP B
theorem jw.stop(h:jw lt L n lo i)(j:∀c,0<c->c<n->bx c=i->fi lt L i c):iH lt L n lo:=λk b d g=>by
 by_cases a:bx k=i
 ·rw[a];exact j k b d a
 ·by_cases f:k=i
  ·subst f;exact h.u b g
  ·exact h.e k b d f a g
theorem iH.hole(h:iH lt L n (lo+1)):jw lt L n lo lo:=
 ⟨λk c b _ f e=>h k c b (by omega),λk _ _ _ a d=>by have:=eP a;omega,λa d=>by have:=eP a;omega⟩
theorem iH.wJ(h:iH lt L (n+1) 0){b:List α}(c:∀k,0<k->k<n->b[k]? =L[k]?):jw lt b n 0 0:=
 ⟨λk a e _ f _=>by
  have:=eP a
  exact(h k a (by omega) (Nat.zero_le _)).fK (c _ (by omega) (by omega)) (c _ a e),λk _ _ _ d _=>by omega,λd _=>by omega⟩
theorem iH.top(c:SO lt)(h:iH lt L n 0)(i:n<=L.length){x:α}(g:L[0]? =some x):∀(k:Nat) (y:α),k<n->L[k]? =some y->lt y x=false:=by
 intro k
 induction k using Nat.strongRecOn with
 |_ k ih=>
  intro y e a
  by_cases d:k=0
  ·subst d;rw[g]at a;cases a;exact c.eK _
  ·have f:=eP (k:=k) (by omega)
   have b:L[bx k]? =some (L[bx k]'(by omega)):=bd _
   exact c.fJ _ _ _ (h k (by omega) e (Nat.zero_le _) _ y b a) (ih (bx k) f _ (by omega) b)
theorem SO.rev(c:SO lt):SO (λx y=>lt y x):=⟨c.eK,λx y z a b=>c.tr _ _ _ b a,λx y z a b=>c.fJ _ _ _ b a⟩
theorem gy(xs:List α)(f k:Nat):(xs.drop f)[k]? =xs[f+k]? :=by rw[aby]
theorem qc{xs:List α}{f i j:Nat}(hi:f+i<xs.length)(c:f+j<xs.length):(bY xs (f+i) (f+j)).drop f=bY (xs.drop f) i j:=by
 apply abi
 intro k
 rw[gy,eg hi c,eg (by rw[List.length_drop];omega) (by rw[List.length_drop];omega),gy,gy,gy]
 by_cases a:k=j
 ·subst a;simp
 ·by_cases b:k=i
  ·subst b;simp[a]
  ·rw[aaz (by omega),aaz (by omega),aaz a,aaz b]
theorem OX.last{xs:List α}{a b m:Nat}{x:α}(h:OX lt xs a b a (m+1))(l:a<=m)(q:m+1<=b)(A:b<=xs.length)(t:xs[a]? =some x)(r:∀(k:Nat) (y:α),a<=k->k<=m->xs[k]? =some y->lt x y=false):OX lt (bY xs a m) a b a m:=λi j c f g z=>by
 have d:RP a (m+1) xs (bY xs a m):=RP.one (aba _) (by omega) l (by omega) (by omega)
 by_cases n:m+1<=j
 ·exact h.rp d (aba _) q i j c f g (.inr n)
 ·have:j=m:=by omega
  subst this
  intro u w s e
  rw[eg (by omega) (by omega),aaA rfl,t]at e
  cases e
  exact d.all (p:=λy=>lt x y=false) (λk y o B v=>r k y o (by omega) v) i u c (by omega) s
end
end
section
section
variable{P:Program}{R:ao}{env:Env}{H:aF}{ty:TypeId}{x y:Operand}{t u:TypeId}{k k2:IntKind}{m n:Int}
theorem aI.rJ(c:ev env x=some (.int k m):=by rfl)(e:ev env y=some (.int k n):=by rfl):aI P R env H (.binOp .and t x y u) ty (.int k (k.wrap (BitVec.ofInt k.bits m&&&BitVec.ofInt k.bits n).toNat)):=λa w d h f g b _ _=>by
 simp[execOp,b.eval c,b.eval e,eqGuard,binOp,Op.intBits]
theorem aI.et(c:ev env x=some (.int k m):=by rfl)(e:ev env y=some (.int k n):=by rfl):aI P R env H (.binOp .or t x y u) ty (.int k (k.wrap (BitVec.ofInt k.bits m|||BitVec.ofInt k.bits n).toNat)):=λa w d h f g b _ _=>by
 simp[execOp,b.eval c,b.eval e,eqGuard,binOp,Op.intBits]
theorem aI.rr(c:ev env x=some (.int k m):=by rfl)(e:ev env y=some (.int k n):=by rfl):aI P R env H (.binOp .xor t x y u) ty (.int k (k.wrap (BitVec.ofInt k.bits m^^^BitVec.ofInt k.bits n).toNat)):=λa w d h f g b _ _=>by
 simp[execOp,b.eval c,b.eval e,eqGuard,binOp,Op.intBits]
theorem aI.lP(c:ev env x=some (.int k m):=by rfl)(e:ev env y=some (.int k2 n):=by rfl)(i:0<=n:=by first|decide|omega):aI P R env H (.binOp .shl t x y u) ty (.int k (k.wrap (m*2^(min n.toNat k.bits)))):=λa w d j f g b _ _=>by
 have h:¬n<0:=by omega
 simp[execOp,b.eval c,b.eval e,eqGuard,binOp,Op.shift,h]
theorem aI.pI(c:ev env x=some (.int k m):=by rfl)(e:ev env y=some (.int k2 n):=by rfl)(i:0<=n:=by first|decide|omega):aI P R env H (.binOp .shr t x y u) ty (.int k (m.fdiv (2^(min n.toNat k.bits)))):=λa w d j f g b _ _=>by
 have h:¬n<0:=by omega
 simp[execOp,b.eval c,b.eval e,eqGuard,binOp,Op.shift,h]
end
theorem na{z:Int}(a:0<=z)(b:z<18446744073709551616):IntKind.u64.wrap z=z:=by
 have:IntKind.u64.wrap z=z % 18446744073709551616:=by simp[IntKind.wrap,IntKind.bits,IntKind.signed]
 rw[this];omega
theorem lj{z:Int}(a: -9223372036854775808<=z)(b:z<=9223372036854775807):IntKind.i64.wrap z=z:=IntWalk.i64_in _ (by omega)
theorem ux{z q:Int}(a:0<=q)(b:q<18446744073709551616):0<=IntKind.u64.wrap (BitVec.ofInt IntKind.u64.bits z&&&BitVec.ofInt IntKind.u64.bits q).toNat/\IntKind.u64.wrap (BitVec.ofInt IntKind.u64.bits z&&&BitVec.ofInt IntKind.u64.bits q).toNat<=q:=by
 have e:(BitVec.ofInt IntKind.u64.bits q).toNat=q.toNat:=by
  simp[IntKind.bits,BitVec.toNat_ofInt];omega
 have c:(BitVec.ofInt IntKind.u64.bits z&&&BitVec.ofInt IntKind.u64.bits q).toNat<=q.toNat:=by
  rw[BitVec.toNat_and, <-e];exact Nat.and_le_right
 rw[na (by omega) (by omega)]
 omega
end
section
variable{α:Type}{lt:α->α->Bool}{a b i j:Nat}{xs ys:List α}
def LB(lt:α->α->Bool)(xs:List α)(a b:Nat):Prop:=0<a->∀k,a<=k->k<b->fi lt xs (a-1) k
theorem LB.rp(h:LB lt xs a b)(d:RP a b xs ys):LB lt ys a b:=λf k g i x y e c=>by
 rw[d.out (.inl (by omega))]at e
 exact d.all (p:=λy=>lt y x=false) (λk y j l c=>h f k j l x y e c) k y g i c
theorem SR.snoc(c:SO lt)(h:SR lt xs a i)(hi:a<i)(d:i<xs.length)(b:fi lt xs (i-1) i):SR lt xs a (i+1):=h.ins.done c (by omega) (by omega) (.inr ⟨hi,b⟩)
theorem SR.yD{p q:Nat}(h:SR lt xs a i)(g:i<=p)(j:i<=q)(b:p<xs.length)(c:q<xs.length):SR lt (bY xs p q) a i:=λu w d e f=>
 (h u w d e f).fK (by rw[eg b c,aaz (by omega),aaz (by omega)]) (by rw[eg b c,aaz (by omega),aaz (by omega)])
theorem SR.yC(h:SR lt xs a i)(hi:i<xs.length):kp lt (bY xs i (i-1)) a (i-1) i:=λu w b c d e=>
 (h u w b c d).fK (by rw[eg hi (by omega),aaz (by omega),aaz (by omega)]) (by rw[eg hi (by omega),aaz (by omega),aaz (by omega)])
theorem OX.lb{c d:Nat}(h:OX lt xs c d a b)(i:LB lt xs c d)(l:c<=a)(m:b<=d):LB lt xs a b:=λe k f j=>by
 by_cases g:a=c
 ·subst g;exact i e k f (by omega)
 ·exact h (a-1) k (by omega) (by omega) (by omega) (.inl (by omega))
end
section
section
variable{α:Type}{lt:α->α->Bool}{q:α->Bool}{ys:List α}{a b i j:Nat}{p:α}
structure PQ(q:α->Bool)(ys:List α)(a i j b:Nat)(p:α):Prop where
 i0:a<i
 ij:i<=j+1
 jb:j<b
 at_:ys[a]? =some p
 left:∀(k:Nat) (x:α),a<k->k<i->ys[k]? =some x->q x=true
 right:∀(k:Nat) (x:α),j<k->k<b->ys[k]? =some x->q x=false
theorem PQ.start(e:a<b)(h:ys[a]? =some p):PQ q ys a (a+1) (b-1) b p:=
 ⟨Nat.lt_succ_self _,by omega,by omega,h,λk x c d=>by omega,λk x c d=>by omega⟩
theorem PQ.inc(h:PQ q ys a i j b p)(l:i<=j){x:α}(f:ys[i]? =some x)(e:q x=true):PQ q ys a (i+1) j b p:=
 ⟨by have:=h.i0;omega,by omega,h.jb,h.at_,λk y d g c=>by
  rcases aaR k i with hk|hk
  ·exact h.left k y d hk c
  ·have:k=i:=by omega
   subst this
   rw[f]at c;cases c;exact e,h.right⟩
theorem PQ.dec(h:PQ q ys a i j b p)(l:i<=j){x:α}(f:ys[j]? =some x)(e:q x=false):PQ q ys a i (j-1) b p:=
 ⟨h.i0,by have:=h.i0;omega,by have:=h.jb;omega,h.at_,h.left,λk y g d c=>by
  rcases aaR j k with hk|hk
  ·exact h.right k y hk d c
  ·have:k=j:=by omega
   subst this
   rw[f]at c;cases c;exact e⟩
theorem PQ.sw(h:PQ q ys a i j b p)(s:i<=j)(t:b<=ys.length){x y:α}(r:ys[i]? =some x)(l:ys[j]? =some y)(o:q x=false)(f:q y=true):i<j/\PQ q (bY ys i j) a (i+1) (j-1) b p:=by
 have v:=h.i0
 have w:=h.jb
 have u:i≠j:=λe=>by
  subst e
  rw[r]at l;cases l
  rw[o]at f;cases f
 have g:=λk=>eg (L:=ys) (i:=i) (k:=j) (by omega) (by omega) k
 refine⟨by omega,by omega,by omega,by omega,?_,λk z m n c=>?_,λk z m n c=>?_⟩
 ·rw[g,aaz (by omega),aaz (by omega)];exact h.at_
 ·rw[g,aaz (by omega)]at c
  by_cases d:k=i
  ·rw[aaA d,l]at c;cases c;exact f
  ·rw[aaz d]at c;exact h.left k z m (by omega) c
 ·rw[g]at c
  by_cases d:k=j
  ·rw[aaA d,r]at c;cases c;exact o
  ·rw[aaz d,aaz (by omega)]at c;exact h.right k z (by omega) n c
theorem PQ.fin(h:PQ (λx=>lt x p) ys a i j b p)(m:j<i)(n:b<=ys.length):Part lt (bY ys j a) a j b p:=by
 have o:=h.i0
 have q:=h.ij
 have l:=h.jb
 have g:=λk=>eg (L:=ys) (i:=j) (k:=a) (by omega) (by omega) k
 refine⟨by omega,l,?_,λk z e f c=>?_,λk z e f c=>?_⟩
 ·rw[g]
  by_cases d:j=a
  ·rw[aaA d,d];exact h.at_
  ·rw[aaz d,aaA rfl];exact h.at_
 ·rw[g]at c
  by_cases d:k=a
  ·rw[aaA d]at c
   exact h.left j z (by omega) (by omega) c
  ·rw[aaz d,aaz (by omega)]at c
   exact h.left k z (by omega) (by omega) c
 ·rw[g,aaz (by omega),aaz (by omega)]at c
  exact h.right k z e f c
theorem PQ.wq(m:SO lt)(h:PQ (λx=> !lt p x) ys a i j b p)(n:j<i)(g:∀(k:Nat) (x:α),a<=k->k<b->ys[k]? =some x->lt x p=false):pY lt ys a i b p:=by
 have l:=h.i0
 have o:=h.ij
 have q:=h.jb
 refine⟨l,by omega,λk z e d c=>⟨g k z e (by omega) c,?_⟩,λk z e d c=>?_⟩
 ·by_cases f:k=a
  ·subst f
   rw[h.at_]at c;cases c;exact m.eK _
  ·simpa using h.left k z (by omega) d c
 ·simpa using h.right k z (by omega) d c
theorem Part.lb(h:Part lt ys a j b p):LB lt ys (j+1) b:=λ_ k d e x y c f=>by
 rw[Nat.add_sub_cancel,h.at_]at c
 cases c
 exact h.right k y d e f
theorem LB.less(h:LB lt ys a b){c:Nat}(g:c<=b):LB lt ys a c:=λd k e f=>h d k e (by omega)
theorem LB.xu(j:SO lt)(h:LB lt ys a b)(c:0<a){x:α}(g:ys[a-1]? =some x)(f:lt x p=false):∀(k:Nat) (y:α),a<=k->k<b->ys[k]? =some y->lt y p=false:=λk y d e i=>
 j.fJ _ _ _ (h c k d e x y g i) f
end
end
section
variable{κ β:Type} [DecidableEq κ]
def oM(Rd:ao)(encK:κ->Value)(encV:β->Value)(m:Value)(M:List (κ×β))(it:Value)(todo:List κ)(k:κ)(u:β)(Ti:au):Prop:=
 ∃(b:Nat) (es:Array MapEntry) (clock r:Nat) (seen:Array Nat) (e:MapEntry),m=.map (some b)/\Rd b (.map es clock)/\fu encK encV es clock M/\it=pT r/\Ti=[(r,.mapIter (some b) clock (seen.push e.born) clock)]/\e∈es.toList/\e.key=encK k/\e.val=encV u/\
  todo=((es.toList.zip M).filter λp=> !(seen.push e.born).contains p.1.born).map (·.2.1)
omit [DecidableEq κ] in
theorem oM.it{a:ao}{encK:κ->Value}{d:β->Value}{m:Value}{M:List (κ×β)}{it:Value}{todo:List κ}{k:κ}{u:β}{c:au}(h:oM a encK d m M it todo k u c):It a encK d m M it todo c:=by
 obtain⟨b,g,f,r,q,e,i,j,l,n,o,s,t,v,p⟩:=h
 exact⟨b,g,f,r,q.push e.born,i,j,l,n,o,p⟩
theorem wu(e:MapEntry):∀(l:List MapEntry),(l.map (·.born)).Nodup->e∈l->l.find? (·.born==e.born)=some e
 |[],_,h=>by cases h
 |x::l,hn,h=>by
  have a:=aa9.1 hn
  rcases aaG.1 h with rfl|h
  ·simp
  ·have:x.born≠e.born:=λb=>a.1 (aaN.2 ⟨e,h,b.symm⟩)
   simp[this,wu e l a.2 h]
section
variable{P:Program}{N:Nat}{R:ao}{ops:Array Oper}{l:List Oper}{env:Env}{H:aF}{K:Env->aF->Prop}{ty:TypeId}{pos:String}{af:Array Edge}{m:Bool}
variable{encK:κ->Value}{encV:β->Value}{mp:Value}{M:List (κ×β)}{T:au}{upd:au->aF}
theorem aB.Nx{d:Nat}{x:Operand}{Rd:ao}{it:Value}{todo:List κ}{Ti:au}(h:It Rd encK encV mp M it todo Ti) [sa:dE H Ti upd](hrd:∀b o,Rd b o->Rx R H b o)(hx:ev env x=some it)
  (h0:todo=[]->aB false P N R ops l ((d,.tuple [.bool false].toArray)::env) H K)
  (hn:∀k u Ti',k∈todo->bO k M=some u->oM Rd encK encV mp M it (todo.filter λk'=>decide (k'≠k)) k u Ti'->aB false P N R ops l ((d,.tuple [.bool true,encK k,encV u].toArray)::env) (upd Ti') K)(hd:Nat.blt d N=true:=by rfl):
  aB false P N R ops (⟨some d,.next x false,ty,pos,af,none⟩::l) env H K:=
 aB.lv hd λa w ha s ro=>by
  obtain⟨b,es,clock,r,seen,rfl,h2,h3,rfl,rfl,h6⟩:=h
  obtain⟨H1,H2,e1,e2⟩:=sa.h
  have hb:=mq s ro _ _ (hrd _ _ h2)
  subst e1
  have hr:w.heap[r]? =some (.mapIter (some b) clock seen clock):=s.2 (r,_) (by simp)
  have hgi:(getObj r).run P w=.ok (.mapIter (some b) clock seen clock) w:=by simp[getObj,Sem.run,hr]
  have hl:=h3.gS.length
  have hbo:=h3.born
  -- what may come
  have hleft:es.filter (λe=> !seen.contains e.born)=((es.toList.filter λe=> !seen.contains e.born)).toArray:=by
   apply Array.toList_inj.1;rw[Array.toList_filter]
  have htodo:(es.toList.filter λe=> !seen.contains e.born).length=todo.length:=by
   rw[h6,abh]
   have:((es.toList.zip M).filter λp=> !seen.contains p.1.born).length=(((es.toList.zip M).map (·.1)).filter λe=> !seen.contains e.born).length:=by
    rw[List.filter_map,abh];rfl
   rw[this,List.map_fst_zip (by omega)]
  have hguard:(!seen.isEmpty&& !es.isEmpty&&es.all (λe=>decide (e.born≥clock)))=false:=by
   cases hes:es.toList with
   |nil=>
    have:es= #[]:=by simpa using hes
    simp[this]
   |cons e rest=>
    have h1:=hbo e (by rw[hes];simp)
    have:es.all (λe=>decide (e.born≥clock))=false:=by
     rw[<-Array.all_toList,hes]
     simp;omega
    rw[this,Bool.and_false]
  have hold:(es.filter λe=> !seen.contains e.born).filter (λe=>decide (e.born<clock))=es.filter λe=> !seen.contains e.born:=by
   rw[Array.filter_eq_self]
   intro e he
   have:=hbo e (by simpa using(abq.1 he).1)
   simpa using this
  have hnew:(es.filter λe=> !seen.contains e.born).filter (λe=>decide (e.born≥clock))= #[]:=by
   rw[Array.filter_eq_empty_iff]
   intro e he
   have:=hbo e (by simpa using(abq.1 he).1)
   simpa using this
  by_cases ht:todo=[]
  ·refine⟨.tuple #[.bool false],w,_,?_,Frame.refl _ _,s,h0 ht⟩
   have he:es.filter (λe=> !seen.contains e.born)= #[]:=by
    rw[hleft]
    have:(es.toList.filter λe=> !seen.contains e.born)=[]:=abd (by rw[htodo,ht];rfl)
    rw[this]
   have hc:(choose (.mapNext 1)).run P w=.ok 0 w:=by simp[choose,Sem.run,Question.forced]
   simp only[execOp,ha.eval hx,Instr.next,Sem.run_bind,hgi,jc hb,Result.andThen_ok,hguard,aaD,aaC,he]
   simp[hc]
  ·have hne:(es.filter λe=> !seen.contains e.born).isEmpty=false:=by
    rw[hleft]
    cases hf:(es.toList.filter λe=> !seen.contains e.born)with
    |nil=>rw[hf]at htodo;exact absurd (abd htodo.symm) ht
    |cons _ _=>rfl
   have hpos:0<todo.length:=List.length_pos_iff.2 ht
   have hsz:(es.filter λe=> !seen.contains e.born).size=todo.length:=by rw[hleft];simpa using htodo
   obtain⟨n,w1,hc,hlt,hw1⟩:∃n w1,(choose (.mapNext todo.length)).run P w=.ok n w1/\n<todo.length/\∃q,w1={w with drawn:=q}:=by
    by_cases h1:todo.length<=1
    ·exact⟨0,w,by simp[choose,Sem.run,Question.forced,h1],hpos,w.drawn,rfl⟩
    ·exact⟨_,_,by simp only[choose,Sem.run,Question.forced,h1,aa0,aaD,aaC];rfl,by simp only[Question.cut];exact Nat.mod_lt _ hpos,_,rfl⟩
   obtain⟨q,rfl⟩:=hw1
   have hn':n<(es.toList.filter λe=> !seen.contains e.born).length:=by rw[htodo];exact hlt
   generalize he:(es.toList.filter λe=> !seen.contains e.born)[n]=e
   have hem:e∈es.toList.filter λe=> !seen.contains e.born:=he▸abr hn'
   obtain⟨hes,hns⟩:=abj.1 hem
   obtain⟨j,hj,hje⟩:=aa1.1 hes
   have hjM:j<M.length:=by omega
   have hpair:(e.key,e.val)=(encK M[j].1,encV M[j].2):=by
    have:=aaI (λl:List (Value×Value)=>l[j]?) h3.gS
    simp only[aaJ,bd hj,bd hjM,aaK,aa8,hje]at this
    exact this
   injection hpair with hp1 hp2
   have hzip:(e,M[j])∈es.toList.zip M:=by
    refine aa1.2 ⟨j,by rw[abt];omega,?_⟩
    simp only[abu,hje]
   have hkt:M[j].1∈todo:=by
    rw[h6]
    exact aaN.2 ⟨(e,M[j]),abj.2 ⟨hzip,hns⟩,rfl⟩
   have hget:bO M[j].1 M=some M[j].2:=jl h3.nd (abr hjM)
   have hrun:(execOp a.eval ⟨some d,.next x false,ty,pos,af,none⟩).run P w=.ok (.value (.tuple #[.bool true,e.key,e.val])) (dz {w with drawn:=q} r (.mapIter (some b) clock (seen.push e.born) clock)):=by
    have hcand:∀(A:Array MapEntry),A.isEmpty=false->(if A.isEmpty=true then #[none]else #[])++(A++ #[]).map some=A.map some:=λA hA=>by simp[hA]
    have hget2:((es.filter λe=> !seen.contains e.born).map some)[n]? =some (some e):=by
     rw[hleft]
     simp only[List.map_toArray,aaH,aaJ,bd hn',he,aaK]
    have hset:(setObj r (.mapIter (some b) clock (seen.push e.born) clock)).run P {w with drawn:=q}=.ok () (dz {w with drawn:=q} r (.mapIter (some b) clock (seen.push e.born) clock)):=by
     have:({w with drawn:=q}:World).heap[r]? =some (.mapIter (some b) clock seen clock):=hr
     simp[setObj,Sem.run,this,dz]
    simp only[execOp,ha.eval hx,Instr.next,Sem.run_bind,hgi,jc hb,Result.andThen_ok,hguard,aaD,aaC,hold,hnew]
    rw[hcand _ hne]
    simp only[Array.size_map,hsz,hc,Result.andThen_ok,hget2,Sem.run_bind,hset,Sem.run_pure]
   obtain⟨f,s'⟩:=kk (w:={w with drawn:=q}) (o':=.mapIter (some b) clock (seen.push e.born) clock) (s.drew q)
   refine⟨_,_,upd [(r,.mapIter (some b) clock (seen.push e.born) clock)],hrun,by rw[e2];exact(Frame.drew w _ q).trans f,by rw[e2];exact s',?_⟩
   rw[hp1,hp2]
   refine hn M[j].1 M[j].2 _ hkt hget ⟨b,es,clock,r,seen,e,rfl,h2,h3,rfl,rfl,hes,hp1,hp2,?_⟩
   rw[h6]
   -- the one that came is no more to come, all others are
   have key:∀(l:List (MapEntry×(κ×β))),(∀p∈l,(p.1.born=e.born↔p.2.1=M[j].1))->
     ((l.filter λp=> !seen.contains p.1.born).map (·.2.1)).filter (λk'=>decide (k'≠M[j].1))=(l.filter λp=> !(seen.push e.born).contains p.1.born).map (·.2.1):=by
    intro l
    induction l with
    |nil=>intro _;rfl
    |cons p l ih=>
     intro hp
     have h1:=hp p (by simp)
     have h2:=ih λq hq=>hp q (by simp[hq])
     simp only[abv]at h2
     simp only[aaP,abv]
     by_cases hc:seen.contains p.1.born=true
     ·simp only[hc,aa7,aaD,aaC,Bool.true_or];exact h2
     ·simp only[Bool.not_eq_true]at hc
      simp only[hc,aa3,aaF,Bool.false_or,aaB,aaP]
      by_cases hb:p.1.born=e.born
      ·have:=h1.1 hb
       simp only[this,ne_eq,not_true,aa0,aaD,aaC,hb,abC,aa7];simpa only[ne_eq]using h2
      ·have hk:¬p.2.1=M[j].1:=λhk=>hb (h1.2 hk)
       have hb':(p.1.born==e.born)=false:=by simpa using hb
       simp only[hk,ne_eq,abg,decide_true,aaF,hb',aa3,aaB]
       exact aaI _ (by simpa only[ne_eq]using h2)
   refine key _ λp hp=>?_
   obtain⟨i,hi,hpi⟩:=aa1.1 hp
   have hi':i<es.toList.length:=by simp only[abt]at hi;omega
   have hiM:i<M.length:=by omega
   rw[abu]at hpi
   subst hpi
   simp only
   constructor
   ·intro hb
    have:i=j:=(abw (h:=h3.bX) (i:=i) (j:=j) (h₀:=by simpa using hi') (h₁:=by simpa using hj)).1 (by rw[aaQ,aaQ,hb,hje])
    subst this;rfl
   ·intro hk
    have:i=j:=(abw (h:=h3.nd) (i:=i) (j:=j) (h₀:=by simpa using hiM) (h₁:=by simpa using hjM)).1 (by rw[aaQ,aaQ];exact hk)
    subst this;rw[hje]
omit [DecidableEq κ] in
theorem aI.entry{x:Operand}{c:ao}{l:Value}{todo:List κ}{k:κ}{u:β}{f:au}(h:oM c encK encV mp M l todo k u f) [F:dE H f upd](C:∀b o,c b o->Rx R H b o)(D:ev env x=some l):
  aI P R env H (.entry x) ty (.tuple [encK k,encV u].toArray):=λa w d O K g y s E=>by
 obtain⟨b,j,i,r,G,e,rfl,n,p,rfl,rfl,q,t,v,N⟩:=h
 obtain⟨I,J,m,L⟩:=F.h
 have z:=mq s E _ _ (C _ _ n)
 subst m
 have B:w.heap[r]? =some (.mapIter (some b) i (G.push e.born) i):=s.2 (r,_) (by simp)
 have A:j.find? (·.born==e.born)=some e:=by rw[<-Array.find?_toList];exact wu e j.toList p.bX q
 rw[<-t, <-v]
 simp only[execOp,y.eval D,Instr.entry,getObj,Sem.run_bind,Sem.run,B,z,Result.andThen,Array.back?_push,bne_self_eq_false,aaD,aaC,A]
 rfl
theorem dE.same{H:aF}{T:au}{a:au->aF}(s:dE H T a):a T=H:=by
 obtain⟨d,e,b,c⟩:=s.h
 rw[c,b]
theorem aB.pj{d:Nat}{x:Operand}{a:ao}{f:Value}{todo:List κ}{c:au}(h:It a encK encV mp M f todo c) [s:dE H c upd](p:∀b o,a b o->Rx R H b o)(r:ev env x=some f)
  (g:∀(b:Bool) (rest:List Value) (Ti':au),(b=false->todo=[])->(b=true->∃k u,k∈todo/\bO k M=some u/\oM a encK encV mp M f (todo.filter λk'=>decide (k'≠k)) k u Ti')->aB false P N R ops l ((d,.tuple (.bool b::rest).toArray)::env) (upd Ti') K)(m:Nat.blt d N=true:=by rfl):
  aB false P N R ops (⟨some d,.next x false,ty,pos,af,none⟩::l) env H K:=
 aB.Nx h p r
  (λi=>by
   have:=g false [] c (λ_=>i) (λe=>by cases e)
   rw[s.same]at this
   exact this)
  (λk u Ti' n q j=>g true [encK k,encV u] Ti' (λe=>by cases e) (λ_=>⟨k,u,n,q,j⟩)) m
end
theorem og{A B:au}{b:Nat}{o:Obj}(h:sg A b o):sg (A++B) b o:=abI B h
theorem lO{A B:au}{b:Nat}{o:Obj}(h:sg B b o):sg (A++B) b o:=List.mem_append_right A h
theorem SR.ordered{α:Type}{lt:α->α->Bool}{ys:List α}(h:SR lt ys 0 ys.length):ys.Pairwise λp r=>lt r p=false:=by
 rw[List.pairwise_iff_getElem]
 intro i j b a c
 exact h i j (Nat.zero_le _) c a _ _ (bd b) (bd a)
theorem RA.cV{P:Program}{N:Nat}{R:ao}{a:Array Oper}{env:Env}{H g:aF}{e:List Nat}{K:Env->aF->Prop}{f:List Nat}{d j t:Nat}{h b c:Bool}{op:Op}{ty:TypeId}{s:String}{k:Array Edge}(i:Nat)(hi:a[i]? =some ⟨some d,op,ty,s,k,some (j,h)⟩)(q:Env.get? env t=some (.bool b))(l:b=c)(r:(c==h)=false)
  (m:tk false a e f i=true)(p:RA P N R a g e (i::f) ((d,undef)::env) H K)(o:gV a j=some t:=by rfl)(n:Nat.blt d N=true:=by rfl):RA P N R a g e f env H K:=
 RA.cA i hi q (by rw[l];exact r) m p o n
end
section
section
variable{P:Program}{N:Nat}{R R':ao}{ops:Array Oper}{l:List Oper}{env:Env}{H:aF}{K:Env->aF->Prop}{T:au}{upd:au->aF}
theorem Spec.zo{f:FuncId}{m:List Value}{H1 H2:aF}{T:au}{Post:Value->au->Prop}(h:Spec P f m (Rx R (H1++H2)) [T] λv H'=>∃T',H'=[T']/\Post v T'):Spec P f m R (H1++T::H2) λv H'=>∃T',H'=H1++T'::H2/\Post v T':=λw C s=>by
 have g:(H1++T::H2).flatten.Perm ([T]++(H1++H2)).flatten:=by
  simp only[aaU,aaT,abx,aaM]
  rw[<-aaE, <-aaE]
  exact aa2.append_right _
 have k:Sat w ([T]++(H1++H2)):=C.perm g
 have y:take [0] ([T]++(H1++H2))=[T]:=rfl
 have n:rest [0] ([T]++(H1++H2))=H1++H2:=rfl
 have E:RO w R ([T]++(H1++H2)):=λb o d=>⟨(s b o d).1,λp c=>(s b o d).2 p (g.mem_iff.2 c)⟩
 obtain⟨u,F,x⟩:=lN (is:=[0]) k
 have l:=RO.split (is:=[0]) k E
 rw[y]at u l x;rw[n]at l F x
 refine(h w u l).mono λe G ⟨v,H',i,⟨T',z,j⟩,D,A⟩=>?_
 subst z
 obtain⟨t,a⟩:=mZ (is:=[0]) (H':=[T']) k D A
 rw[n]at t a
 have r:([T']++(H1++H2)).flatten.Perm (H1++T'::H2).flatten:=by
  simp only[aaU,aaT,abx,aaM]
  rw[<-aaE, <-aaE]
  exact aa2.append_right _
 refine⟨v,_,i,⟨T',rfl,j⟩,t.perm r,⟨a.le,λb d B=>a.gg b d λp c=>B p (g.mem_iff.2 c),λp c=>?_,a.os,a.output,a.tape⟩⟩
 rcases a.jC p (r.mem_iff.2 c)with⟨q,j,i⟩|hge
 ·exact .inl ⟨q,g.mem_iff.2 j,i⟩
 ·exact .inr hge
theorem aB.zF{dst:Option Nat}{op:Op}{ty:TypeId}{g:String}{c:Array Edge}{f:FuncId}{vs:List Value}{Post:Value->au->Prop} [n:dE H T upd]
  (m:∀a w,dH a env->(execOp a.eval ⟨dst,op,ty,g,c,none⟩).run P w=.ok (.enter f vs.toArray) w)
  (k:Spec P f vs (Rx R (upd [])) [T] λv H'=>∃T',H'=[T']/\Post v T')
  (j:∀v T',Post v T'->match dst with
   |some d=>Nat.blt d N=true/\aB false P N R ops l ((d,v)::env) (upd T') K
   |none=>aB false P N R ops l env (upd T') K):
  aB false P N R ops (⟨dst,op,ty,g,c,none⟩::l) env H K:=by
 obtain⟨H1,H2,i,e⟩:=n.h
 refine .p9 (H.map λ_=>0) (Post:=λv H'=>∃T',H'=H1++T'::H2/\Post v T') m ?_ ?_
 ·rw[rh,oa,i]
  refine Spec.zo (H1:=H1) (H2:=H2) (k.weaken λb o hb=>?_)
  rw[e]at hb
  rcases hb with hb|hb
  ·exact .inl (.inl hb)
  ·exact .inr (by simpa using hb)
 ·intro v H' ⟨T',e1,e2⟩
  rw[oa,aaM,e1, <-e]
  exact j v T' e2
theorem aB.zE{d:Nat}{ty:TypeId}{m:String}{b:Array Edge}{f:FuncId} [e:ap P f]{xs:List Operand}{c:Array TypeId}{vs:List Value}{Post:Value->au->Prop} [n:dE H T upd]
  (k:Spec P f vs (Rx R (upd [])) [T] λv H'=>∃T',H'=[T']/\Post v T')(i:∀v T',Post v T'->aB false P N R ops l ((d,v)::env) (upd T') K)(hxs:fR env xs=some vs:=by rfl)(h:Nat.blt d N=true:=by rfl):
  aB false P N R ops (⟨some d,.call ⟨.value (.func f),xs.toArray,c⟩,ty,m,b,none⟩::l) env H K:=
 aB.zF (λa w g=>tE hxs a w g) k (λv T' j=>⟨h,i v T' j⟩)
theorem bu.open_{S:aF}(i:Nat)(a:H.getD i []=S.flatten):bu H (S++bf i H):=⟨[],by rw[aaM,aaU, <-a];exact rU i H⟩
end
end
section
section
variable{P:Program}{N:Nat}{R:ao}{env:Env}{H:aF}{Q:Exit->Env->aF->Prop}
theorem bF.ik{X:Type}{c:Code}{G:aF}(E:Env)(I:X->Prop)(e:X->Env->Env)(h:X->aF->aF)(μ:X->Nat)(a:X)(b:I a)(d:di env (e a E))(f:bu H (h a G))
  (g:∀x,I x->bF P N R c (e x E) (h x G) (pf (λenv' H'=>∃x',I x'/\μ x'<μ x/\di env' (e x' E)/\bu H' (h x' G)) Q)):bF P N R (.loop c) env H Q:=
 bF.loop I (λx=>e x E) (λx=>h x G) μ a b d f g
theorem bF.oW{X:Type}{c:Code}(E:Env)(d:di env E)(I:X->Prop)(e:X->Env->Env)(h:X->aF)(b:bF P N R c env H (qn I (λx=>e x E) h Q))(a:∀x,I x->Q .normal (e x E) (h x)):bF P N R c env H Q:=
 bF.cut I (λx=>e x E) h b a
theorem di.iQ{c:Env}{t:Nat}{b a:Bool}(h:di env c)(d:Env.get? env t=some (.bool b))(e:b=a):di env ((t,.bool a)::c):=h.cons (e▸d)
theorem aI.Nn{x y:Operand}{t u ty:TypeId}{k h:IntKind}{m n:Int}(c:ev env x=some (.int k m):=by rfl)(f:ev env y=some (.int h n):=by rfl):aI P R env H (.call ⟨.builtin .max,#[x,y],#[t,u]⟩) ty (.int k (max m n)):=λa w d j i g b _ _=>by
 have e:(if n>m then n else m)=max m n:=by rw[Int.max_def];split<;>split<;>omega
 simp[execOp,resolve,b.eval c,b.eval f,invoke,builtin,Builtin.max_,Builtin.max2,e]
end
end
section
set_option linter.unusedVariables false
section
variable{κ β:Type} [DecidableEq κ]
variable{P:Program}{N:Nat}{R:ao}{ops:Array Oper}{l:List Oper}{env:Env}{H:aF}{K:Env->aF->Prop}{T:au}{upd:au->aF}{ty:TypeId}{pos:String}{af:Array Edge}
variable{encK:κ->Value}{encV:β->Value}{mp:Value}{M:List (κ×β)}
def ME(encK:κ->Value)(encV:β->Value)(m:Value)(M:List (κ×β))(key:κ)(s:Value)(T:au):Prop:=
 ∃(b:Nat) (es:Array MapEntry) (clock j:Nat) (e:MapEntry) (M1:List (κ×β)),m=.map (some b)/\T=[(b,.map es clock)]/\fu encK encV es clock M1/\(M1.map (·.1))[j]? =some key/\es[j]? =some e/\e.key=encK key/\s=goInt (e.born:Nat)/\∀u,dx key u M1=dx key u M
theorem Nu{k:κ}{x y:β}{M:List (κ×β)}(h:k∉M.map (·.1)):dx k y (dx k x M)=dx k y M:=by
 rw[lG h,lG h]
 induction M with
 |nil=>simp[dx]
 |cons p M ih=>
  obtain⟨a,z⟩:=p
  simp only[aaB,aaG,not_or]at h
  simp only[abz,dx,aaz h.1,ih h.2]
theorem aB.mapEntry{d:Nat}{t kt E:TypeId}{x y:Operand}{key:κ}{z:Value}(u0:β)(h:MS encK encV mp M T) [sa:dE H T upd](L:ev env x=some mp)(O:ev env y=some (encK key)) [ut:bh P t (.map kt E)] [C:eJ P kt encK] [zr:Zr P E z](Z:encV u0=z)
  (J:∀T' s,ME encK encV mp M key s T'->aB false P N R ops l ((d,.tuple [((bO key M).map encV).getD z,s].toArray)::env) (upd T') K)(S:Nat.blt d N=true:=by rfl):
  aB false P N R ops (⟨some d,.mapEntry t x y,ty,pos,af,none⟩::l) env H K:=
 aB.lv S λa w o s ro=>by
  obtain⟨b,g,c,rfl,rfl,m⟩:=h
  obtain⟨H1,H2,Q,k⟩:=sa.h
  subst Q
  have p:w.heap[b]? =some (.map g c):=s.2 (b,_) (by simp)
  obtain⟨r,F,G,n⟩:=m.find (P:=P) (kt:=kt) key w
  cases r with
  |none=>
   obtain⟨f,D⟩:=kk (o':=.map (g.push {key:=encK key,val:=z,born:=c}) (c+1)) s
   have I:=m.insert u0 n
   rw[Z]at I
   have q:bO key M=none:=by simpa using G.symm
   refine⟨.tuple [z,goInt c].toArray,_,upd [(b,.map (g.push {key:=encK key,val:=z,born:=c}) (c+1))],?_,by rw[k];exact f,by rw[k];exact D,?_⟩
   ·simp only[execOp,o.eval L,o.eval O]
    simp[Instr.mapEntry,run_underlying ut.h,jc p,C.ck,F,zr.h,mn p]
   ·have W:z=((bO key M).map encV).getD z:=by rw[q];rfl
    have:=J [(b,.map (g.push {key:=encK key,val:=z,born:=c}) (c+1))] (goInt c) ⟨b,_,_,g.size,{key:=encK key,val:=z,born:=c},dx key u0 M,rfl,rfl,I,by
     rw[lG n]
     have:=m.gS.length
     simp at this⊢
     simp[this],by simp,rfl,rfl,λu=>Nu n⟩
    rw[<-W]at this
    exact this
  |some jv=>
   obtain⟨j,v⟩:=jv
   obtain⟨q,e,A,B⟩:=n
   have U:(g.modify j λe=>{e with key:=encK key})=g:=by
    apply Array.ext_getElem?
    intro i
    rw[abp]
    split
    ·rename_i V
     subst V
     rw[A]
     simp only[aaK,aa8]
     rw[<-B]
    ·rfl
   obtain⟨f,D⟩:=kk (o':=.map g c) s
   have Y:v=((bO key M).map encV).getD z:=by rw[<-G];rfl
   refine⟨.tuple [v,goInt e.born].toArray,_,upd [(b,.map g c)],?_,by rw[k];exact f,by rw[k];exact D,?_⟩
   ·have X:(Instr.keyThatStays (encK key) (encK key)).run P w=.ok (encK key) w:=by
     unfold Instr.keyThatStays
     rw[C.same];rfl
    simp only[execOp,o.eval L,o.eval O]
    simp[Instr.mapEntry,run_underlying ut.h,jc p,C.ck,F,A,B,X,U,mn p]
   ·rw[Y]
    exact J _ _ ⟨b,g,c,j,e,M,rfl,rfl,m,q,A,B,rfl,λu=>rfl⟩
theorem aI.Nh{x y:Operand}{t kt a:TypeId}{z v:Value}{key:κ}(h:RM (Rx R H) encK encV mp M)(c:ev env x=some mp)(d:ev env y=some (encK key))(b:((bO key M).map encV).getD z=v) [ut:bh P t (.map kt a)] [e:eJ P kt encK] [f:Zr P a z]:
  aI P R env H (.lookup t x y false) ty v:=b▸aI.Ng h c d
theorem aB.entryStore{t:TypeId}{x y z:Operand}{key:κ}{s:Value}{u:β}(h:ME encK encV mp M key s T) [Q:dE H T upd](I:ev env x=some mp)(J:ev env y=some s)(L:ev env z=some (encV u))
  (E:∀T',MS encK encV mp (dx key u M) T'->aB false P N R ops l env (upd T') K):
  aB false P N R ops (⟨none,.entryStore t x y z,ty,pos,af,none⟩::l) env H K:=
 aB.mI λa w k s X=>by
  obtain⟨b,c,d,j,e,V,rfl,rfl,o,A,p,B,rfl,G⟩:=h
  obtain⟨S,U,v,n⟩:=Q.h
  subst v
  have q:w.heap[b]? =some (.map c d):=s.2 (b,_) (by simp)
  have r:=o.update u A
  rw[G]at r
  have C:(c.modify j λe=>{e with val:=encV u})=c.modify j λe=>{e with key:=encK key,val:=encV u}:=by
   apply Array.ext_getElem?
   intro i
   rw[abp,abp]
   split
   ·rename_i m
    subst m
    rw[p]
    simp only[aaK,aa8]
    rw[<-B]
   ·rfl
  have D:c.findIdx? (λx=>(x.born:Int)==(e.born:Int))=some j:=by
   have g:=(Array.getElem?_eq_some_iff.1 p)
   have W:=g.1
   rw[Array.findIdx?_eq_some_iff_getElem]
   refine⟨g.1,by rw[g.2];simp,λi m=>?_⟩
   have F:=List.pairwise_iff_getElem.1 o.bX i j (by simp;omega) (by simp;omega) m
   simp only[aaQ,Array.getElem_toList,g.2]at F
   simp only[beq_iff_eq]
   omega
  obtain⟨f,O⟩:=kk (o':=.map (c.modify j λe=>{e with key:=encK key,val:=encV u}) d) s
  refine⟨_,upd [(b,.map (c.modify j λe=>{e with key:=encK key,val:=encV u}) d)],.inl ?_,by rw[n];exact f,by rw[n];exact O,E _ ⟨b,_,d,rfl,rfl,r⟩⟩
  simp only[execOp,k.eval I,k.eval J,k.eval L]
  simp[Instr.entryStore,jc q,asInt,asIntOf,goInt,D,C,mn q]
theorem Spec.N9{f:FuncId}{i:List Value}{H':aF}{Post:Value->aF->Prop}(h:H.flatten.Perm H'.flatten)(s:Spec P f i R H' Post):Spec P f i R H Post:=λw u j=>by
 have l:Sat w H':=u.perm h
 have m:RO w R H':=λb o d=>⟨(j b o d).1,λp c=>(j b o d).2 p (h.mem_iff.2 c)⟩
 refine(s w l m).mono λe y ⟨v,k,g,c,x,a⟩=>⟨v,k,g,c,x,a.le,λb d r=>a.gg b d λp n=>r p (h.mem_iff.2 n),λp c=>?_,a.os,a.output,a.tape⟩
 rcases a.jC p c with⟨q,t,g⟩|hge
 ·exact .inl ⟨q,h.mem_iff.2 t,g⟩
 ·exact .inr hge
end
section
variable{α:Type}{lt:α->α->Bool}
def mM(lt:α->α->Bool)(p:α):List α->List α
 |[]=>[p]
 |r::L=>if lt p r then p::r::L else r::mM lt p L
theorem sv{p:α}:∀{L:List α},(mM lt p L).Perm (p::L)
 |[]=>.refl _
 |r::L=>by
  simp only[mM]
  split
  ·exact .refl _
  ·exact((sv (L:=L)).cons r).trans (List.Perm.swap p r L)
theorem wE(c:∀x y z,lt x y=true->lt y z=true->lt x z=true){p:α}:∀{L:List α},(L.Pairwise λx y=>lt x y=true)->(∀y∈L,lt p y=true\/lt y p=true)->(mM lt p L).Pairwise λx y=>lt x y=true
 |[],_,_=>by simp[mM]
 |r::L,h,hp=>by
  have b:=abK.1 h
  simp only[mM]
  split
  ·rename_i a
   refine abK.2 ⟨λx hx=>?_,h⟩
   rcases aaG.1 hx with rfl|hx
   ·exact a
   ·exact c _ _ _ a (b.1 x hx)
  ·rename_i a
   refine abK.2 ⟨λx hx=>?_,wE c b.2 λy d=>hp y (by simp[d])⟩
   rcases aaG.1 (sv.mem_iff.1 hx)with rfl|hx
   ·rcases hp r (by simp)with h2|h2
    ·exact absurd h2 a
    ·exact h2
   ·exact b.1 x hx
end
end
end Go.Proofs.YtocjmmbldeljnaaGreatDoor

/- What the law 'ExpandRight' uses. No condition. -/
import Derived.KernelRfl
import Derived.LaidEql
import Derived.Laws.StructEq
import Derived.OrdersHeld
import Derived.Shelf.Abstract
import Derived.Still
import Derived.StillTail
import Derived.Tactics
import GoSem.ClaimData
set_option linter.unusedVariables false
namespace Go.Proofs.YtenilfmlfldogaaGreatDoor
set_option linter.defProp false
def aaa:=@if_neg
def aab:=@Nat.le_refl
def aac:=@if_pos
def aad:=@Option.some.injEq
def aae:=@if_true
def aaf:=@List.flatMap_cons
def aag:=@Nat.succ_mul
def aah:=@List.mem_cons_self
def aai:=@Nat.le_trans
def aaj:=@List.getD_eq_getElem?_getD
def aak:=@List.mem_cons_of_mem
def aal:=@List.mem_append
def aam:=@List.length_cons
def aan:=@Nat.zero_le
def aao:=@List.flatten_cons
def aap:=@List.mem_append_left
def aaq:=@if_false
def aar:=@Nat.le_of_ble_eq_true
def aas:=@List.mem_map_of_mem
def aat:=@List.mem_cons
def aau:=@List.map_append
def aav:=@Nat.add_assoc
def aaw:=@congrArg
def aax:=@List.getElem?_cons_zero
def aay:=@Nat.zero_add
def aaz:=@Option.map_some
def aaA:=@List.map_cons
def aaB:=@List.mem_map
def aaC:=@List.flatten_append
def aaD:=@List.getElem?_eq_getElem
def aaE:=@Nat.le_antisymm
def aaF:=@List.mem_of_mem_drop
def aaG:=@List.foldl_cons
def aaH:=@Bool.and_eq_true
def aaI:=@List.getElem?_eq_some_iff
def aaJ:=@Nat.eq_of_beq_eq_true
def aaK:=@Nat.lt_or_ge
def aaL:=@List.nodup_append
def aaM:=@List.mem_append_right
def aaN:=@List.length_take
def aaO:=@List.mem_of_mem_take
def aaP:=@List.length_append
def aaQ:=@Nat.sub_zero
def aaR:=@List.getElem?_append_left
def aaS:=@List.getElem?_cons_succ
def aaT:=@List.getElem?_append_right
def aaU:=@Nat.add_sub_cancel
def aaV:=@Option.bind_some
def aaW:=@List.map_toArray
def aaX:=@Array.getElem?_setIfInBounds_ne
def aaY:=@Array.getElem?_push
def aaZ:=@List.append_assoc
def aa0:=@List.length_drop
def aa1:=@List.getElem?_set
def aa2:=@List.all_eq_true
def aa3:=@decide_eq_true_eq
def aa4:=@Bool.false_eq_true
def aa5:=@Array.getElem?_setIfInBounds
section
abbrev oa:=Nat×Obj
abbrev aH:=List oa
abbrev aN:=List aH
abbrev Env:=List (Nat×Value)
abbrev aw:=Nat->Obj->Prop
def Env.get? :Env->Nat->Option Value
 |[],_=>none
 |(k,v)::r,t=>match Nat.beq k t with
  |true=>some v
  |false=>Env.get? r t
def ev(env:Env):Operand->Option Value
 | .tmp t=>env.get? t
 | .const v=>some v
 | .global g=>some (.pointer (some ⟨g,0,none⟩))
 | .func f=>some (.func (.func f) #[] #[])
def jf(env:Env):List Operand->Option (List Value)
 |[]=>some []
 |x::r=>match ev env x,jf env r with
  |some v,some vs=>some (v::vs)
  |_,_=>none
def eI(a:Act)(env:Env):Prop:=∀t v,env.get? t=some v->a.tmps[t]? =some v
theorem eI.eval{a:Act}{env:Env}(h:eI a env){x:Operand}{v:Value}(b:ev env x=some v):a.eval x=v:=by
 cases x with
 |tmp t=>have:=h t v b;simp[Act.eval,this]
 |const u=>simpa[ev,Act.eval]using b
 |global g=>simpa[ev,Act.eval]using b
 |func f=>simpa[ev,Act.eval]using b
theorem eI.wK{a:Act}{env:Env}(h:eI a env):∀{xs:List Operand} {vs:List Value},jf env xs=some vs->xs.map a.eval=vs
 |[],vs,hx=>by simp[jf]at hx;simp[hx]
 |x::r,vs,hx=>by
  simp only[jf]at hx
  split at hx
  ·rename_i v d b c
   simp only[aad]at hx
   subst hx
   simp[h.eval b,h.wK c]
  ·cases hx
theorem eI.pp{a:Act}{env:Env}(h:eI a env){xs:List Operand}{vs:List Value}(b:jf env xs=some vs):xs.toArray.map a.eval=vs.toArray:=by
 rw[aaW,h.wK b]
theorem eI.put{a:Act}{env:Env}(h:eI a env){d:Nat}{v:Value}(e:d<a.tmps.size):eI (a.put (some d) v) ((d,v)::env):=by
 intro t u b
 simp only[Env.get?]at b
 by_cases c:d=t
 ·subst c
  have:Nat.beq d d=true:=Nat.beq_refl d
  rw[this]at b
  simp only[aad]at b
  subst b
  simp[Act.put,e]
 ·have:Nat.beq d t=false:=by
   cases hb:Nat.beq d t with
   |false=>rfl
   |true=>exact absurd (aaJ hb) c
  rw[this]at b
  have:=h t u b
  simp[Act.put,aaX c,this]
def Sat(w:World)(H:aN):Prop:=(H.flatten.map (·.1)).Nodup/\∀p∈H.flatten,w.heap[p.1]? =some p.2
def RO(w:World)(R:aw)(H:aN):Prop:=∀b o,R b o->w.heap[b]? =some o/\∀p∈H.flatten,p.1≠b
structure Frame(w:World)(H:aN)(w':World)(H':aN):Prop where
 le:w.heap.size<=w'.heap.size
 iS:∀b,b<w.heap.size->(∀p∈H.flatten,p.1≠b)->w'.heap[b]? =w.heap[b]?
 ke:∀p∈H'.flatten,(∃q∈H.flatten,q.1=p.1)\/w.heap.size<=p.1
 os:w'.os=w.os
 output:w'.output=w.output
 tape:w'.tape=w.tape
theorem Frame.refl(w:World)(H:aN):Frame w H w H:=
 ⟨aab _,λ_ _ _=>rfl,λp a=>.inl ⟨p,a,rfl⟩,rfl,rfl,rfl⟩
theorem Frame.trans{w g i:World}{H H' f:aN}(h:Frame w H g H')(a:Frame g H' i f):Frame w H i f where
 le:=aai h.le a.le
 iS b hb hn:=by
  rw[a.iS b (Nat.lt_of_lt_of_le hb h.le) ?_,h.iS b hb hn]
  intro p c j
  rcases h.ke p c with⟨q,d,e⟩|hge
  ·exact hn q d (e.trans j)
  ·omega
 ke p c:=by
  rcases a.ke p c with⟨q,d,e⟩|hge
  ·rcases h.ke q d with⟨r,k,l⟩|hge
   ·exact .inl ⟨r,k,l.trans e⟩
   ·exact .inr (by omega)
  ·exact .inr (aai h.le hge)
 os:=a.os.trans h.os
 output:=a.output.trans h.output
 tape:=a.tape.trans h.tape
structure St(N:Nat)(R:aw)(a:Act)(w:World)(env:Env)(H:aN)(w0:World)(H0:aN):Prop where
 defers:a.defers=[]
 size:a.tmps.size=N
 env:eI a env
 sat:Sat w H
 ro:RO w R H
 fr:Frame w0 H0 w H
theorem mA{w:World}{b:Nat}{o:Obj}(h:w.heap[b]? =some o):b<w.heap.size:=by
 rcases aaK b w.heap.size with h'|h'
 ·exact h'
 ·rw[Array.getElem?_eq_none h']at h;cases h
theorem RO.frame{w d:World}{R:aw}{H H':aN}(h:RO w R H)(f:Frame w H d H'):RO d R H':=by
 intro b o e
 obtain⟨a,c⟩:=h b o e
 have i:=mA a
 refine⟨by rw[f.iS b i c];exact a,λp j g=>?_⟩
 rcases f.ke p j with⟨q,k,l⟩|hge
 ·exact c q k (l.trans g)
 ·omega
theorem St.step{N:Nat}{R:aw}{a:Act}{w b:World}{env:Env}{H H':aN}{d:World}{c:aN}(s:St N R a w env H d c)(f:Frame w H b H')(e:Sat b H'):St N R a b env H' d c:=
 ⟨s.defers,s.size,s.env,e,s.ro.frame f,s.fr.trans f⟩
theorem St.put{N:Nat}{R:aw}{a:Act}{w:World}{env:Env}{H:aN}{c:World}{b:aN}(s:St N R a w env H c b){d:Nat}(v:Value)(e:Nat.blt d N=true):St N R (a.put (some d) v) w ((d,v)::env) H c b:=
 ⟨s.defers,by simp[Act.put,s.size],s.env.put (by rw[s.size];exact aar e),s.sat,s.ro,s.fr⟩
theorem Frame.drew(w:World)(H:aN)(n:Nat):Frame w H {w with drawn:=n} H:=
 ⟨aab _,λ_ _ _=>rfl,λp a=>.inl ⟨p,a,rfl⟩,rfl,rfl,rfl⟩
theorem Sat.drew{w:World}{H:aN}(h:Sat w H)(n:Nat):Sat {w with drawn:=n} H:=h
theorem qC(w:World)(o:Obj):(w.alloc o).heap=w.heap.push o:=rfl
theorem Frame.alloc(w:World)(H:aN)(o:Obj):Frame w H (w.alloc o) ([(w.heap.size,o)]::H) where
 le:=by rw[qC,Array.size_push];omega
 iS b hb _:=by rw[qC,aaY,aaa (Nat.ne_of_lt hb)]
 ke p hp:=by
  simp only[aao,aal,List.mem_singleton]at hp
  rcases hp with rfl|hp
  ·exact .inr (aab _)
  ·exact .inl ⟨p,hp,rfl⟩
 os:=rfl
 output:=rfl
 tape:=rfl
theorem Sat.alloc{w:World}{H:aN}(h:Sat w H)(o:Obj):Sat (w.alloc o) ([(w.heap.size,o)]::H):=by
 have a:∀p∈H.flatten,p.1<w.heap.size:=λp hp=>mA (h.2 p hp)
 refine⟨?_,λp hp=>?_⟩
 ·simp only[aao,List.cons_append,List.nil_append,aaA,List.nodup_cons]
  refine⟨λb=>?_,h.1⟩
  obtain⟨p,hp,c⟩:=aaB.1 b
  have:=a p hp
  omega
 ·simp only[aao,aal,List.mem_singleton]at hp
  rcases hp with rfl|hp
  ·rw[qC,aaY,aac rfl]
  ·have:=a p hp
   rw[qC,aaY,aaa (Nat.ne_of_lt this),h.2 p hp]
def ew(w:World)(b:Nat)(o:Obj):World:={w with heap:=w.heap.setIfInBounds b o}
theorem Sat.set{w:World}{H1 H2:aN}{T1 T2:aH}{b:Nat}{o o':Obj}(h:Sat w (H1++(T1++(b,o)::T2)::H2)):Sat (ew w b o') (H1++(T1++(b,o')::T2)::H2):=by
 obtain⟨d,i⟩:=h
 have e:∀o:Obj,((H1++(T1++(b,o)::T2)::H2).flatten.map (·.1))=(H1.flatten.map (·.1)++T1.map (·.1))++b::(T2.map (·.1)++H2.flatten.map (·.1)):=λo=>by
  simp
 rw[e]at d
 refine⟨by rw[e];exact d,λp hp=>?_⟩
 have k:w.heap[b]? =some o:=i (b,o) (by simp)
 have l:=mA k
 have m:∀q:oa,q∈H1.flatten\/q∈T1\/q∈T2\/q∈H2.flatten->q.1≠b:=by
  intro q hq c
  rw[aaL]at d
  obtain⟨_,a,g⟩:=d
  rcases hq with hq|hq|hq|hq
  ·exact g q.1 (aap _ (aas hq)) b (by simp) c
  ·exact g q.1 (aaM _ (aas hq)) b (by simp) c
  ·exact(List.nodup_cons.1 a).1 (aap _ (c▸aas hq))
  ·exact(List.nodup_cons.1 a).1 (aaM _ (c▸aas hq))
 simp only[aaC,aao,aal,aat]at hp
 have f:∀q:oa,q∈H1.flatten\/q∈T1\/q∈T2\/q∈H2.flatten->(ew w b o').heap[q.1]? =some q.2:=λq hq=>by
  have j:=m q hq
  have a:w.heap[q.1]? =some q.2:=i q (by
   simp only[aaC,aao,aal,aat]
   rcases hq with hq|hq|hq|hq
   ·exact .inl hq
   ·exact .inr (.inl (.inl hq))
   ·exact .inr (.inl (.inr (.inr hq)))
   ·exact .inr (.inr hq))
  simp[ew,aaX (Ne.symm j),a]
 rcases hp with hp|(hp|rfl|hp)|hp
 ·exact f p (.inl hp)
 ·exact f p (.inr (.inl hp))
 ·simp[ew,l]
 ·exact f p (.inr (.inr (.inl hp)))
 ·exact f p (.inr (.inr (.inr hp)))
theorem Frame.set{w:World}{H1 H2:aN}{T1 T2:aH}{b:Nat}{o o':Obj}:Frame w (H1++(T1++(b,o)::T2)::H2) (ew w b o') (H1++(T1++(b,o')::T2)::H2) where
 le:=by simp[ew]
 iS c hc hn:=by
  have:b≠c:=λa=>hn (b,o) (by simp) a
  simp[ew,aaX this]
 ke p hp:=by
  simp only[aaC,aao,aal,aat]at hp
  rcases hp with hp|(hp|rfl|hp)|hp
  ·exact .inl ⟨p,by simp[hp],rfl⟩
  ·exact .inl ⟨p,by simp[hp],rfl⟩
  ·exact .inl ⟨(b,o),by simp,rfl⟩
  ·exact .inl ⟨p,by simp[hp],rfl⟩
  ·exact .inl ⟨p,by simp[hp],rfl⟩
 os:=rfl
 output:=rfl
 tape:=rfl
def bp(H H':aN):Prop:=∃G:aH,H.flatten.Perm (H'.flatten++G)
theorem bp.refl(H:aN):bp H H:=⟨[],by simp⟩
theorem bp.sat{H H':aN}(h:bp H H'){w:World}(s:Sat w H):Sat w H':=by
 obtain⟨G,a⟩:=h
 refine⟨?_,λp b=>s.2 p (a.mem_iff.2 (aap _ b))⟩
 have:=(a.map (·.1)).nodup_iff.1 s.1
 rw[aau]at this
 exact(aaL.1 this).1
theorem bp.frame{H H':aN}(h:bp H H')(w:World):Frame w H w H':=by
 obtain⟨G,b⟩:=h
 exact⟨aab _,λ_ _ _=>rfl,λp a=>.inl ⟨p,b.mem_iff.2 (aap _ a),rfl⟩,rfl,rfl,rfl⟩
def pick:List Nat->aN->aN
 |[],_=>[]
 |i::is,H=>(H.getD i [])::pick is H
def bK:Nat->aN->aN
 |_,[]=>[]
 |0,_::r=>r
 |i+1,T::r=>T::bK i r
def rest:List Nat->aN->aN
 |[],H=>H
 |i::is,H=>rest is (bK i H)
def take:List Nat->aN->aN
 |[],_=>[]
 |i::is,H=>(H.getD i [])::take is (bK i H)
theorem wE:∀(i:Nat) (H:aN),H.flatten.Perm (H.getD i []++(bK i H).flatten)
 |_,[]=>by simp[bK]
 |0,T::r=>by simp[bK]
 |i+1,T::r=>by
  have:=wE i r
  simp only[aao,bK,List.getD_cons_succ]
  refine(this.append_left T).trans ?_
  rw[<-aaZ, <-aaZ]
  exact(List.perm_append_comm).append_right _
theorem mJ:∀(is:List Nat) (H:aN),H.flatten.Perm ((take is H).flatten++(rest is H).flatten)
 |[],H=>by simp[take,rest]
 |i::is,H=>by
  have a:=wE i H
  have b:=mJ is (bK i H)
  simp only[take,rest,aao,aaZ]
  exact a.trans (b.append_left _)
theorem bp.pick(is:List Nat)(H:aN):bp H (take is H):=⟨(rest is H).flatten,mJ is H⟩
theorem bp.drop(is:List Nat)(H:aN):bp H (rest is H):=⟨(take is H).flatten,(mJ is H).trans List.perm_append_comm⟩
theorem Sat.perm{w:World}{H H':aN}(a:H.flatten.Perm H'.flatten)(s:Sat w H):Sat w H':=
 ⟨((a.map (·.1)).nodup_iff).1 s.1,λp b=>s.2 p (a.mem_iff.2 b)⟩
def bF(P:Program)(N:Nat)(R:aw)(c:Code)(env:Env)(H:aN)(Q:Exit->Env->aN->Prop):Prop:=
 ∀(Q':Exit->Act->World->Prop) (w0:World) (H0:aN),(∀e env' H' a' w',Q e env' H'->St N R a' w' env' H' w0 H0->Q' e a' w')->
  ∀a w,St N R a w env H w0 H0->c.wp P Q' a w
def Spec(P:Program)(f:FuncId)(args:List Value)(R:aw)(H:aN)(Post:Value->aN->Prop):Prop:=
 ∀w,Sat w H->RO w R H->Calls P f args.toArray w λe w'=>∃v H',e=.returned v/\Post v H'/\Sat w' H'/\Frame w H w' H'
theorem Spec.mono{P:Program}{f:FuncId}{b:List Value}{R:aw}{H:aN}{Post a:Value->aN->Prop}(h:Spec P f b R H Post)(e:∀v H',Post v H'->a v H'):Spec P f b R H a:=
 λw j i=>(h w j i).mono λ_ _ ⟨v,H',c,g,k,d⟩=>⟨v,H',c,e _ _ g,k,d⟩
theorem Spec.weaken{P:Program}{f:FuncId}{a:List Value}{R R':aw}{H:aN}{Post:Value->aN->Prop}(h:Spec P f a R' H Post)(d:∀b o,R' b o->R b o):Spec P f a R H Post:=
 λw g e=>h w g λb o c=>e b o (d b o c)
section rules
variable{P:Program}{N:Nat}{R:aw}{env:Env}{H:aN}{Q:Exit->Env->aN->Prop}
def kQ(P:Program)(N:Nat)(R:aw)(y:Code)(Q:Exit->Env->aN->Prop):Exit->Env->aN->Prop
 | .normal,env,H=>bF P N R y env H Q
 |e,env,H=>Q e env H
def mS(id:Nat)(Q:Exit->Env->aN->Prop):Exit->Env->aN->Prop
 | .exit id',env,H=>if id'=id then Q .normal env H else Q (.exit id') env H
 |e,env,H=>Q e env H
def pS(I:Env->aN->Prop)(Q:Exit->Env->aN->Prop):Exit->Env->aN->Prop
 | .normal,env,H=>I env H
 |e,env,H=>Q e env H
theorem bF.seq{x y:Code}(h:bF P N R x env H (kQ P N R y Q)):bF P N R (.seq x y) env H Q:=
 λi g b c a w s=>wp_seq (h _ g b (λe m l j k d f=>by
  cases e with
  |normal=>exact d i g b c j k f
  |_=>exact c _ _ _ _ _ d f) a w s)
theorem bF.skip(h:Q .normal env H):bF P N R .skip env H Q:=λ_ _ _ b a w s=>wp_skip (b _ _ _ _ _ h s)
theorem bF.exit{id:Nat}(h:Q (.exit id) env H):bF P N R (.exit id) env H Q:=λ_ _ _ b a w s=>wp_exit (b _ _ _ _ _ h s)
theorem bF.ret(h:Q .ret env H):bF P N R .ret env H Q:=λ_ _ _ b a w s=>wp_ret (b _ _ _ _ _ h s)
theorem bF.block{id:Nat}{c:Code}(h:bF P N R c env H (mS id Q)):bF P N R (.block id c) env H Q:=
 λl j i d a w s=>wp_block (h _ j i (λe n k m o b g=>by
  cases e with
  |exit id'=>
   simp only[mS]at b
   simp only[Exit.inBlock]
   split
   ·rename_i f;rw[aac f]at b;exact d _ _ _ _ _ b g
   ·rename_i f;rw[aaa f]at b;exact d _ _ _ _ _ b g
  |_=>exact d _ _ _ _ _ b g) a w s)
theorem bF.cond{c:Operand}{x y:Code}{b:Bool}(i:ev env c=some (.bool b))(k:b=true->bF P N R x env H Q)(j:b=false->bF P N R y env H Q):bF P N R (.cond c x y) env H Q:=
 λe g d f a w s=>wp_cond_split (s.env.eval i) (λh=>k h e g d f a w s) (λh=>j h e g d f a w s)
def dK(env env':Env):Prop:=∀t v,Env.get? env' t=some v->Env.get? env t=some v
theorem dK.refl(env:Env):dK env env:=λ_ _ h=>h
theorem dK.nil(env:Env):dK env []:=λ_ _ h=>by cases h
theorem dK.cons{env b:Env}{t:Nat}{v:Value}(h:dK env b)(d:Env.get? env t=some v):dK env ((t,v)::b):=λu x a=>by
 simp only[Env.get?]at a
 split at a
 ·rename_i c
  have:=aaJ c
  simp only[aad]at a
  subst a;subst this;exact d
 ·exact h u x a
theorem dK.d{env a:Env}{t:Nat}{v:Value}(h:dK env a)(b:Env.get? env t=some v):dK env ((t,v)::a):=h.cons b
theorem dK.c{env a:Env}{t:Nat}{v:Value}(h:dK env a)(b:Env.get? env t=some v:=by rfl):dK env ((t,v)::a):=h.cons b
theorem kE{env:Env}:dK env []:=dK.nil _
theorem eI.le{a:Act}{env b:Env}(h:eI a env)(c:dK env b):eI a b:=λt v d=>h t v (c t v d)
theorem St.le{a:Act}{w:World}{env d:Env}{H H':aN}{f:World}{c:aN}(s:St N R a w env H f c)(g:dK env d)(e:bp H H'):St N R a w d H' f c:=
 let b:=s.step (e.frame w) (e.sat s.sat)
 ⟨b.defers,b.size,b.env.le g,b.sat,b.ro,b.fr⟩
theorem bF.le{c:Code}{b:Env}{H':aN}(g:dK env b)(i:bp H H')(h:bF P N R c b H' Q):bF P N R c env H Q:=
 λe j d f a w s=>h e j d f a w (s.le g i)
theorem bF.loop{X:Type}{c:Code}(I:X->Prop)(e:X->Env)(h:X->aN)(μ:X->Nat)(q:X)(y:I q)(K:dK env (e q))(L:bp H (h q))
  (U:∀x,I x->bF P N R c (e x) (h x) (pS (λenv' H'=>∃x',I x'/\μ x'<μ x/\dK env' (e x')/\bp H' (h x')) Q)):bF P N R (.loop c) env H Q:=
 λA z r G a w s b k t=>by
  have T:∀n x a w,μ x=n->I x->St N R a w (e x) (h x) z r->
    ∃m g i,A m g i/\Arrives P (lone (b.at a (.code c:: .inLoop c::k)) t w) b k t m g i:=by
   intro n
   induction n using Nat.strongRecOn with
   |_ n ih=>
    intro x a w M y s
    have S:=U x y (Exit.then (λg i=>∃x',I x'/\μ x'<μ x/\St N R g i (e x') (h x') z r) A) z r (λm env' H' g i d p=>by
     cases m with
     |normal=>obtain⟨x',u,v,E,F⟩:=d;exact⟨x',u,v,p.le E F⟩
     |_=>exact G _ _ _ _ _ d p) a w s
    obtain⟨m,j,o,d,f⟩:=S b (.inLoop c::k) t
    cases m with
    |normal=>
     obtain⟨x',u,v,p⟩:=d
     obtain⟨D,B,V,O,J⟩:=ih (μ x') (M▸v) x' j o rfl u p
     exact⟨D,B,V,O,.of_steps (Steps.trans f (.one step_inLoop)) J⟩
    |exit id=>exact⟨_,j,o,d,.pass (x:=.inLoop c) rfl (λ_ _=>.inl (by simp)) f⟩
    |goto l=>exact⟨_,j,o,d,.pass (x:=.inLoop c) rfl (λ_ _=>.inl (by simp)) f⟩
    |ret=>exact⟨_,j,o,d,.pass (x:=.inLoop c) rfl (λ_ _=>.inl (by simp)) f⟩
    |panic ch=>exact⟨_,j,o,d,.pass (x:=.inLoop c) rfl (λ_ _=>.inl (by simp)) f⟩
    |outgrown=>exact⟨_,j,o,d,.pass (x:=.inLoop c) rfl (λ_ _=>.inl (by simp)) f⟩
  obtain⟨C,g,i,d,f⟩:=T _ q a w rfl y (s.le K L)
  exact⟨C,g,i,d,.of_steps (.one step_loop) f⟩
end rules
end
section
class bS(P:Program)(t:TypeId)(d:outParam TypeDesc):Prop where h:P.underlying t=some d
class Sz(P:Program)(t:TypeId)(n:outParam Nat):Prop where h:∀w,(sizeOf t).run P w=.ok n w
class Zr(P:Program)(t:TypeId)(v:outParam Value):Prop where h:∀w,(zeroValue t).run P w=.ok v w
class cR(P:Program)(t:TypeId)(b:outParam Bool):Prop where h:∀w,(isAgg t).run P w=.ok b w
class By(P:Program)(t:TypeId)(n:outParam Nat):Prop where h:∀w,∃i,(typeInfo t).run P w=.ok i w/\i.bytes=n
class ba(P:Program)(s:TypeId)(f:Nat)(off:outParam Nat):Prop where
 h:∀(a:Addr) w,(Instr.fieldAt s (.pointer (some a)) f).run P w=.ok (.pointer (some (a.add off))) w
class aT(P:Program)(f:FuncId):Prop where h:∀(args:Array Value) (w:World),(callFunc f args).run P w=.ok (.enter f args) w
theorem ba.of{P:Program}{s:TypeId}{c:Array Field}{f:Nat}{b:Field}{n off:Nat}(i:P.underlying s=some (.struct c))(d:c[f]? =some b)
  (h:∀w,(sizeOf b.type).run P w=.ok n w)(e:(n==0)=false)(ho:b.offset=off):ba P s f off:=⟨λa w=>by
 have g:n≠0:=by simpa using e
 simp[Instr.fieldAt,run_underlying i,d,Instr.sureAddr,fieldPlace,h,g,ho]⟩
def bo(P:Program)(R:aw)(env:Env)(H:aN)(op:Op)(ty:TypeId)(v:Value):Prop:=
 ∀(a:Act) (w:World) (d:Option Tmp) (pos:String) (af:Array Edge) (g:Option (Nat×Bool)),eI a env->Sat w H->RO w R H->(execOp a.eval ⟨d,op,ty,pos,af,g⟩).run P w=.ok (.value v) w
def aO(m:Bool)(P:Program)(N:Nat)(R:aw)(ops:Array Oper)(l:List Oper)(env:Env)(H:aN)(K:Env->aN->Prop):Prop:=
 ∀(Q':Exit->Act->World->Prop) (w0:World) (H0:aN),(∀env' H' a' w',K env' H'->St N R a' w' env' H' w0 H0->Q' .normal a' w')->
  ∀a w,St N R a w env H w0 H0->match m with
   |true=>wpStill P ops w (λa'=>Q' .normal a' w) l a
   |false=>wpList P ops Q' l a w
section
variable{P:Program}{N:Nat}{R:aw}{ops:Array Oper}{l:List Oper}{env:Env}{H:aN}{K:Env->aN->Prop}{Q:Exit->Env->aN->Prop}{m:Bool}
theorem bF.region{id:Nat}(h:aO false P N R l.toArray l env H (Q .normal)):bF P N R (.region id l.toArray false) env H Q:=
 λc g b d a w s=>wp_region_lit (h c g b (λk i j m e f=>d _ _ _ _ _ e f) a w s)
theorem bF.eo{id:Nat}(g:P.follows .mixedOrders=true)(d:Region.lexB .any l.toArray=true)(h:aO true P N R l.toArray l env H (Q .normal)):bF P N R (.region id l.toArray true) env H Q:=
 λc j b e a w s=>wp_region_still_lit g d (h c j b (λn k m o f i=>e _ _ _ _ _ f i) a _ (s.step (Frame.drew w H _) (s.sat.drew _)))
theorem bF.dY{id:Nat}(n:Nat)(m:P.follows .mixedOrders=true)(j:Region.lexTailB .any l.toArray n=true)
  (h:aO true P N R l.toArray (l.take n) env H λenv' H'=>aO false P N R l.toArray (l.drop n) env' H' (Q .normal)):bF P N R (.region id l.toArray true) env H Q:=
 λg i f k a w s=>wp_region_still_tail n m j (h (λ_ b c=>wpList P l.toArray g (l.drop n) b c) i f
  (λenv' H' b c d e=>d g i f (λenv' H' b c d e=>k _ _ _ _ _ d e) b c e) a _ (s.step (Frame.drew w H _) (s.sat.drew _)))
theorem aO.nil(h:K env H):aO m P N R ops [] env H K:=λd e c b a w s=>by
 cases m
 ·exact wpList_nil (b _ _ _ _ h s)
 ·exact wpStill_nil (b _ _ _ _ h s)
theorem aO.q{d:Nat}{op:Op}{ty:TypeId}{f:String}{b:Array Edge}{v:Value}(n:bo P R env H op ty v)(k:aO m P N R ops l ((d,v)::env) H K)(j:Nat.blt d N=true:=by rfl):
  aO m P N R ops (⟨some d,op,ty,f,b,none⟩::l) env H K:=λh o g i a w s=>by
 have e:=n a w (some d) f b none s.env s.sat s.ro
 have c:=k h o g i _ w (s.put v j)
 cases m
 ·simp only[wpList,Region.wanted,aae]
  exact .inl (by rw[Oper.wp,e];exact c)
 ·simp only[wpStill,Region.wanted,aae]
  rw[Oper.still,e]
  exact⟨rfl,c⟩
def jS(ops:Array Oper)(j:Nat):Option Nat:=(ops[j]?).bind (·.dst)
theorem sE{a:Act}{j t:Nat}{b:Bool}(d:eI a env)(c:jS ops j=some t)(e:Env.get? env t=some (.bool b)):yielded ops a.tmps j=some b:=by
 unfold jS at c
 simp[yielded,c,d t _ e]
theorem aO.gt{j t:Nat}{d:Bool}{dst:Option Nat}{op:Op}{ty:TypeId}{c:String}{b:Array Edge}(o:Env.get? env t=some (.bool d))(n:aO m P N R ops (⟨dst,op,ty,c,b,none⟩::l) env H K)(k:jS ops j=some t:=by rfl):
  aO m P N R ops (⟨dst,op,ty,c,b,some (j,d)⟩::l) env H K:=λg p f i a w s=>by
 have e:Region.wanted ⟨dst,op,ty,c,b,some (j,d)⟩ (yielded ops a.tmps)=true:=by
  simp[Region.wanted,sE s.env k o]
 have h:=n g p f i a w s
 cases m
 ·simp only[wpList]at h⊢
  rw[aac e]
  rw[aac (by simp[Region.wanted])]at h
  exact h
 ·simp only[wpStill]at h⊢
  rw[aac e]
  rw[aac (by simp[Region.wanted])]at h
  exact h
theorem aO.gf{j t d:Nat}{c b:Bool}{op:Op}{ty:TypeId}{g:String}{e:Array Edge}(v:Env.get? env t=some (.bool b))(o:(b==c)=false)(r:aO m P N R ops l ((d,undef)::env) H K)(q:jS ops j=some t:=by rfl)(p:Nat.blt d N=true:=by rfl):
  aO m P N R ops (⟨some d,op,ty,g,e,some (j,c)⟩::l) env H K:=λk x i n a w s=>by
 have f:¬Region.wanted ⟨some d,op,ty,g,e,some (j,c)⟩ (yielded ops a.tmps)=true:=by
  have u:¬b=c:=by simpa using o
  simp[Region.wanted,sE s.env q v,u]
 have h:=r k x i n _ w (s.put undef p)
 cases m
 ·simp only[wpList]
  rw[aaa f]
  exact h
 ·simp only[wpStill]
  rw[aaa f]
  exact h
theorem aO.mv{d:Nat}{op:Op}{ty:TypeId}{c:String}{b:Array Edge}(i:Nat.blt d N=true)
  (h:∀a w,eI a env->Sat w H->RO w R H->∃v w' H',(execOp a.eval ⟨some d,op,ty,c,b,none⟩).run P w=.ok (.value v) w'/\Frame w H w' H'/\Sat w' H'/\aO false P N R ops l ((d,v)::env) H' K):
  aO false P N R ops (⟨some d,op,ty,c,b,none⟩::l) env H K:=λf o e g a w s=>by
 obtain⟨v,w',H',m,j,n,k⟩:=h a w s.env s.sat s.ro
 simp only[wpList,Region.wanted,aae]
 exact .inl (by rw[Oper.wp,m];exact k f o e g _ w' ((s.step j n).put v i))
theorem aO.qQ{op:Op}{ty:TypeId}{c:String}{b:Array Edge}
  (h:∀a w,eI a env->Sat w H->RO w R H->∃w' H',((execOp a.eval ⟨none,op,ty,c,b,none⟩).run P w=.ok .skip w'\/∃v,(execOp a.eval ⟨none,op,ty,c,b,none⟩).run P w=.ok (.value v) w')/\Frame w H w' H'/\Sat w' H'/\aO false P N R ops l env H' K):
  aO false P N R ops (⟨none,op,ty,c,b,none⟩::l) env H K:=λe k d f a w s=>by
 obtain⟨w',H',hr,g,j,i⟩:=h a w s.env s.sat s.ro
 simp only[wpList,Region.wanted,aae]
 refine .inl ?_
 rcases hr with hr|⟨v,hr⟩
 ·rw[Oper.wp,hr];exact i e k d f _ w' (s.step g j)
 ·rw[Oper.wp,hr];exact i e k d f _ w' (s.step g j)
def Rx(R:aw)(H:aN):aw:=λb o=>R b o\/(b,o)∈H.flatten
theorem na{w:World}{is:List Nat}(s:Sat w H):Sat w (take is H)/\Sat w (rest is H)/\∀p∈(take is H).flatten,∀q∈(rest is H).flatten,p.1≠q.1:=by
 have c:=mJ is H
 have a:=(c.map (·.1)).nodup_iff.1 s.1
 rw[aau,aaL]at a
 refine⟨⟨a.1,λp b=>s.2 p (c.mem_iff.2 (aap _ b))⟩,⟨a.2.1,λp b=>s.2 p (c.mem_iff.2 (aaM _ b))⟩,λp d q e f=>?_⟩
 exact a.2.2 p.1 (aas d) q.1 (aas e) f
theorem RO.split{w:World}{is:List Nat}(s:Sat w H)(r:RO w R H):RO w (Rx R (rest is H)) (take is H):=by
 obtain⟨f,d,e⟩:=na (is:=is) s
 intro b o hb
 rcases hb with hb|hb
 ·exact⟨(r b o hb).1,λp a=>(r b o hb).2 p ((mJ is H).mem_iff.2 (aap _ a))⟩
 ·exact⟨d.2 _ hb,λp a c=>e p a _ hb c⟩
theorem oP{w d:World}{is:List Nat}{H':aN}(s:Sat w H)(j:Sat d H')(f:Frame w (take is H) d H'):Sat d (H'++rest is H)/\Frame w H d (H'++rest is H):=by
 obtain⟨u,h,k⟩:=na (is:=is) s
 have i:∀q∈(rest is H).flatten,q.1<w.heap.size:=λq a=>mA (h.2 q a)
 have m:∀p∈H'.flatten,∀q∈(rest is H).flatten,p.1≠q.1:=λp hp q a c=>by
  rcases f.ke p hp with⟨r,e,g⟩|hge
  ·exact k r e q a (g.trans c)
  ·have:=i q a;omega
 refine⟨⟨?_,λp hp=>?_⟩,⟨f.le,λb l n=>?_,λp hp=>?_,f.os,f.output,f.tape⟩⟩
 ·rw[aaC,aau,aaL]
  refine⟨j.1,h.1,λx o y t c=>?_⟩
  obtain⟨p,hp,rfl⟩:=aaB.1 o
  obtain⟨q,a,rfl⟩:=aaB.1 t
  exact m p hp q a c
 ·rw[aaC,aal]at hp
  rcases hp with hp|hp
  ·exact j.2 p hp
  ·rw[f.iS p.1 (i p hp) (λq a c=>k q a p hp c)]
   exact h.2 p hp
 ·exact f.iS b l λp hp=>n p ((mJ is H).mem_iff.2 (aap _ hp))
 ·rw[aaC,aal]at hp
  rcases hp with hp|hp
  ·rcases f.ke p hp with⟨r,e,g⟩|hge
   ·exact .inl ⟨r,(mJ is H).mem_iff.2 (aap _ e),g⟩
   ·exact .inr hge
  ·exact .inl ⟨p,(mJ is H).mem_iff.2 (aaM _ hp),rfl⟩
theorem aO.qM{dst:Option Nat}{op:Op}{ty:TypeId}{m:String}{h:Array Edge}(is:List Nat){f:FuncId}{vs:List Value}{Post:Value->aN->Prop}
  (y:∀a w,eI a env->(execOp a.eval ⟨dst,op,ty,m,h,none⟩).run P w=.ok (.enter f vs.toArray) w)
  (u:Spec P f vs (Rx R (rest is H)) (take is H) Post)
  (r:∀v H',Post v H'->match dst with
   |some d=>Nat.blt d N=true/\aO false P N R ops l ((d,v)::env) (H'++rest is H) K
   |none=>aO false P N R ops l env (H'++rest is H) K):
  aO false P N R ops (⟨dst,op,ty,m,h,none⟩::l) env H K:=λg o c i a w s=>by
 simp only[wpList,Region.wanted,aae]
 refine .inl ?_
 rw[Oper.wp,y a w s.env]
 obtain⟨z,A,B⟩:=na (is:=is) s.sat
 refine(u w z (RO.split s.sat s.ro)).mono λe n ⟨v,H',p,t,x,q⟩=>?_
 subst p
 obtain⟨j,k⟩:=oP s.sat x q
 have b:=r v H' t
 cases dst with
 |some d=>exact b.2 g o c i _ n ((s.step k j).put v b.1)
 |none=>exact b g o c i _ n (s.step k j)
theorem uE{f:FuncId} [e:aT P f]{xs:List Operand}{c:Array TypeId}{vs:List Value}{dst:Option Nat}{ty:TypeId}{j:String}{b:Array Edge}{g:Option (Nat×Bool)}(hxs:jf env xs=some vs)(a:Act)(w:World)(i:eI a env):
  (execOp a.eval ⟨dst,.call ⟨.value (.func f),xs.toArray,c⟩,ty,j,b,g⟩).run P w=.ok (.enter f vs.toArray) w:=by
 have d:=i.pp hxs
 simp only[execOp,resolve,d,Act.eval,Deferred.ofValue]
 have:=e.h vs.toArray w
 simp[invoke,this]
theorem aO.call{d:Nat}{ty:TypeId}{m:String}{b:Array Edge}(is:List Nat){f:FuncId} [e:aT P f]{xs:List Operand}{c:Array TypeId}{vs:List Value}{Post:Value->aN->Prop}
  (k:Spec P f vs (Rx R (rest is H)) (take is H) Post)
  (i:∀v H',Post v H'->aO false P N R ops l ((d,v)::env) (H'++rest is H) K)(hxs:jf env xs=some vs:=by rfl)(h:Nat.blt d N=true:=by rfl):
  aO false P N R ops (⟨some d,.call ⟨.value (.func f),xs.toArray,c⟩,ty,m,b,none⟩::l) env H K:=
 aO.qM is (λa w g=>uE hxs a w g) k (λv H' j=>⟨h,i v H' j⟩)
theorem aO.Bh{d:Nat}{ty:TypeId}{q:String}{c:Array Edge}(is:List Nat){t:Nat}{f:FuncId}{first captured:List Value} [e:aT P f]{xs:List Operand}{g:Array TypeId}{vs:List Value}{Post:Value->aN->Prop}
  (p:Env.get? env t=some (.func (.func f) first.toArray captured.toArray))
  (o:Spec P f (first++vs++captured) (Rx R (rest is H)) (take is H) Post)
  (m:∀v H',Post v H'->aO false P N R ops l ((d,v)::env) (H'++rest is H) K)(hxs:jf env xs=some vs:=by rfl)(k:Nat.blt d N=true:=by rfl):
  aO false P N R ops (⟨some d,.call ⟨.value (.tmp t),xs.toArray,g⟩,ty,q,c,none⟩::l) env H K:=
 aO.qM is (λa w b=>by
  have i:=b.pp hxs
  have j:a.eval (.tmp t)=_:=b.eval p
  simp only[execOp,resolve,i,j,Deferred.ofValue]
  have:=e.h (first++vs++captured).toArray w
  rw[<-List.append_toArray, <-List.append_toArray]at this⊢
  exact this) o (λv H' n=>⟨k,m v H' n⟩)
end
end
section
def jy(p:Value)(k:Nat):Value:=match p with
 | .pointer (some a)=>.pointer (some (a.add k))
 |v=>v
def fB(v:Value)(k:Nat):Value:=match v with
 | .slice (some a) _ _=>.pointer (some (a.add k))
 |v=>v
class PC(T:aw)(p:Value)(vs:outParam (List Value)):Prop where
 h:∃b off c E fr,p=.pointer (some ⟨b,off,none⟩)/\T b (.cells c E fr)/\∀j (hj:j<vs.length),c[off+j]? =some vs[j]
def sg(T:aH):aw:=λb o=>(b,o)∈T
class RC(R:aw)(H:aN)(p:Value)(vs:outParam (List Value)):Prop where
 h:PC (Rx R H) p vs
theorem PC.mono{T a:aw}{p:Value}{vs:List Value}(h:PC T p vs)(d:∀b o,T b o->a b o):PC a p vs:=
 ⟨let ⟨b,off,c,E,fr,h1,h2,h3⟩:=h.h;⟨b,off,c,E,fr,h1,d _ _ h2,h3⟩⟩
theorem PC.add{T:aw}{p:Value}{vs:List Value}(h:PC T p vs)(k:Nat):PC T (jy p k) (vs.drop k):=by
 obtain⟨b,i,c,E,a,rfl,e,f⟩:=h.h
 refine⟨b,i+k,c,E,a,?_,e,λj g=>?_⟩
 ·simp only[jy,Addr.add];split
  ·rename_i d;subst d;rfl
  ·rfl
 ·rw[aa0]at g
  have:=f (k+j) (by omega)
  rw[List.getElem_drop,aav]
  exact this
instance RC.there{R:aw}{H:aN}{T:aH}{p:Value}{vs:List Value} [h:RC R H p vs]:RC R (T::H) p vs:=
 ⟨h.h.mono λb o a=>a.imp id λc=>by simp[c]⟩
instance RC.here{R:aw}{H:aN}{b:Nat}{vs:List Value}{E:TypeId}{fr:Nat×Nat}:RC R ([(b,.cells vs.toArray E fr)]::H) (.pointer (some ⟨b,0,none⟩)) vs:=
 ⟨⟨b,0,vs.toArray,E,fr,rfl,.inr (by simp),λj a=>by simp[a]⟩⟩
class PS(T:aH)(p:Value)(vs:outParam (List Value)):Prop where h:PC (sg T) p vs
instance RC.QM{R:aw}{H:aN}{T:aH}{p:Value}{vs:List Value} [h:PS T p vs]:RC R (T::H) p vs:=
 ⟨h.h.mono λb o a=>.inr (List.mem_flatten.2 ⟨T,by simp,a⟩)⟩
instance RC.QL{R:aw}{H:aN}{p:Value}{vs:List Value} [h:PC R p vs]:RC R H p vs:=⟨h.mono λb o a=>.inl a⟩
instance RC.add{R:aw}{H:aN}{p:Value}{k:Nat}{vs:List Value} [h:RC R H p vs]:RC R H (jy p k) (vs.drop k):=⟨h.h.add k⟩
theorem rT{P:Program}{R:aw}{H:aN}{p:Value}{vs:List Value}(h:PC (Rx R H) p vs){w:World}(s:Sat w H)(r:RO w R H):
  ∃b off,p=.pointer (some ⟨b,off,none⟩)/\∀j (hj:j<vs.length),w.cell? ⟨b,off+j,none⟩=some vs[j]:=by
 obtain⟨b,off,c,E,a,d,h2,e⟩:=h.h
 refine⟨b,off,d,λj hj=>?_⟩
 have f:w.heap[b]? =some (.cells c E a):=by
  rcases h2 with h2|h2
  ·exact(r b _ h2).1
  ·exact s.2 _ h2
 simp[World.cell?,f,e j hj]
theorem zF{P:Program}{a:Addr}{v:Value}{w:World}(h:w.cell? a=some v):(load a).run P w=.ok v w:=by
 rw[run_load,h]
theorem run_loadCellsFrom{P:Program}{w:World}{b off:Nat}:∀(vs:List Value) (i:Nat) (acc:Array Value),(∀j (hj:j<vs.length),w.cell? ⟨b,off+i+j,none⟩=some vs[j])->
  (loadCellsFrom ⟨b,off,none⟩ i vs.length acc).run P w=.ok (acc++vs.toArray) w
 |[],i,acc,_=>by simp[loadCellsFrom]
 |v::r,i,acc,h=>by
  have a:=h 0 (by simp)
  have e:(⟨b,off,none⟩:Addr).add i=⟨b,off+i,none⟩:=by
   simp only[Addr.add];split
   ·rename_i a;subst a;rfl
   ·rfl
  have c:(load ⟨b,off+i,none⟩).run P w=.ok v w:=zF (by simpa using a)
  have d:=run_loadCellsFrom (P:=P) r (i+1) (acc.push v) (λj hj=>by
   have:=h (j+1) (by simp;omega)
   simpa[aav,Nat.add_comm 1 j]using this)
  simp only[aam,loadCellsFrom,e,Sem.run_bind,c,Result.andThen_ok,d]
  simp
section
variable{P:Program}{R:aw}{env:Env}{H:aN}{ty:TypeId}
theorem bo.move{x:Operand}{v:Value}(h:ev env x=some v:=by rfl):bo P R env H (.move x) ty v:=λa w d e c g b _ _=>by
 simp[execOp,b.eval h]
theorem bo.assign{x:Operand}{v:Value}(h:ev env x=some v:=by rfl):bo P R env H (.assign x) ty v:=λa w d e c g b _ _=>by
 simp[execOp,b.eval h]
theorem bo.pick{c x y:Operand}{b:Bool}{u v:Value}(f:ev env c=some (.bool b):=by rfl)(h:ev env x=some u:=by rfl)(i:ev env y=some v:=by rfl):
  bo P R env H (.pick c x y) ty (if b then u else v):=λa w d k j g e _ _=>by
 simp[execOp,e.eval f,e.eval h,e.eval i,asBool]
theorem bo.ca{c x y:Operand}{u:Value}(e:ev env c=some (.bool true):=by rfl)(f:ev env x=some u:=by rfl):
  bo P R env H (.pick c x y) ty u:=λa w d i h g b _ _=>by
 simp[execOp,b.eval e,b.eval f,asBool]
theorem bo.cb{c x y:Operand}{v:Value}(e:ev env c=some (.bool false):=by rfl)(f:ev env y=some v:=by rfl):
  bo P R env H (.pick c x y) ty v:=λa w d i h g b _ _=>by
 simp[execOp,b.eval e,b.eval f,asBool]
theorem bo.nilCheck{x:Operand}{p:Value}{vs:List Value}(i:ev env x=some p) [rc:RC R H p vs]:bo P R env H (.nilCheck x) ty p:=λa w d m j g f _ _=>by
 obtain⟨b,l,c,E,k,e,_,_⟩:=rc.h.h
 subst e
 simp[execOp,f.eval i]
theorem bo.fieldAddr{x:Operand}{s:TypeId}{f off:Nat}{p:Value}{vs:List Value}(k:ev env x=some p) [e:ba P s f off] [rc:RC R H p vs]:bo P R env H (.fieldAddr s x f) ty (jy p off):=λa w d n l g j _ _=>by
 obtain⟨b,o,c,E,m,i,_,_⟩:=rc.h.h
 subst i
 simp[execOp,j.eval k,e.h,jy]
theorem bo.cO{x:Operand}{t:TypeId}{p u:Value}{vs r:List Value}(l:ev env x=some p) [c:cR P t false] [rc:RC R H p vs](k:vs=u::r:=by rfl):bo P R env H (.load t x) ty u:=λa w d q o g j s n=>by
 obtain⟨b,m,e,f⟩:=rT (P:=P) rc.h s n
 subst e;subst k
 have:=f 0 (by simp)
 have i:w.cell? ⟨b,m,none⟩=some u:=by simpa using this
 simp[execOp,j.eval l,Instr.loadAt,Instr.sureAddr,loadVar,c.h,i]
theorem bo.aP{x:Operand}{t:TypeId}{p:Value}{n:Nat}{vs:List Value}(k:ev env x=some p) [c:cR P t true] [sz:Sz P t n] [rc:RC R H p vs](j:vs.length=n:=by rfl):bo P R env H (.load t x) ty (.agg vs.toArray):=λa w d o m g i s l=>by
 obtain⟨b,off,e,f⟩:=rT (P:=P) rc.h s l
 subst e;subst j
 have:=run_loadCellsFrom (P:=P) (w:=w) (b:=b) (off:=off) vs 0 #[] (by simpa using f)
 simp[execOp,i.eval k,Instr.loadAt,Instr.sureAddr,loadVar,c.h,sz.h,loadCells,this]
theorem bo.loadT{x:Operand}{t:TypeId}{p:Value}{n:Nat}{vs us:List Value}(q:ev env x=some p) [f:cR P t true] [sz:Sz P t n] [rc:RC R H p vs](c:vs.take n=us:=by rfl)(o:us.length=n:=by rfl):bo P R env H (.load t x) ty (.agg us.toArray):=λa w d y u g l s r=>by
 obtain⟨b,off,i,k⟩:=rT (P:=P) rc.h s r
 subst i;subst o
 have v:us.length<=vs.length:=by
  have:=aaw List.length c;rw[aaN]at this;omega
 have:=run_loadCellsFrom (P:=P) (w:=w) (b:=b) (off:=off) us 0 #[] (λj m=>by
  have:=k j (by omega)
  have e:us[j]=vs[j]'(by omega):=by rw[List.getElem_of_eq c.symm m,List.getElem_take]
  rw[e];simpa using this)
 simp[execOp,l.eval q,Instr.loadAt,Instr.sureAddr,loadVar,f.h,sz.h,loadCells,this]
theorem bo.makeFunc{b:Fn}{xs ys:List Operand}{us vs:List Value}(h:jf env xs=some us:=by rfl)(i:jf env ys=some vs:=by rfl):bo P R env H (.makeFunc b xs.toArray ys.toArray) ty (.func b us.toArray vs.toArray):=λa w d k j g c _ _=>by
 have e:=c.pp h
 have f:=c.pp i
 simp only[execOp,e,f,Instr.makeFunc]
 rfl
theorem bo.extract{x:Operand}{i:Nat}{vs:List Value}{v:Value}(e:ev env x=some (.tuple vs.toArray):=by rfl)(c:vs[i]? =some v:=by rfl):bo P R env H (.extract x i) ty v:=λa w d h f g b _ _=>by
 simp[execOp,b.eval e,Instr.extract,c]
theorem bo.not{x:Operand}{t:TypeId}{b:Bool}(e:ev env x=some (.bool b):=by rfl):bo P R env H (.unOp .not t x) ty (.bool (!b)):=λa w d h f g c _ _=>by
 simp[execOp,c.eval e,Op.unary]
theorem oo{op:BinOp}{t:TypeId}{x y:Operand}{u v:Value}{w:World}(h:(match u,v with| .nilIface,.nilIface=>false| .agg _,.agg _=>false|_,_=>true)=true):(eqGuard op t x y u v).run P w=.ok () w:=by
 unfold eqGuard
 cases u<;>cases v<;>first|(cases h;done)|(cases op<;>rfl)
section ints
variable{x y:Operand}{t u:TypeId}{k:IntKind}{m n:Int}
theorem bo.add(c:ev env x=some (.int k m):=by rfl)(e:ev env y=some (.int k n):=by rfl):bo P R env H (.binOp .add t x y u) ty (.int k (k.wrap (m+n))):=λa w d h f g b _ _=>by
 simp[execOp,b.eval c,b.eval e,eqGuard,binOp,Op.intArith]
theorem bo.sub(c:ev env x=some (.int k m):=by rfl)(e:ev env y=some (.int k n):=by rfl):bo P R env H (.binOp .sub t x y u) ty (.int k (k.wrap (m-n))):=λa w d h f g b _ _=>by
 simp[execOp,b.eval c,b.eval e,eqGuard,binOp,Op.intArith]
theorem bo.mul(c:ev env x=some (.int k m):=by rfl)(e:ev env y=some (.int k n):=by rfl):bo P R env H (.binOp .mul t x y u) ty (.int k (k.wrap (m*n))):=λa w d h f g b _ _=>by
 simp[execOp,b.eval c,b.eval e,eqGuard,binOp,Op.intArith]
theorem bo.quo(e:ev env x=some (.int k m):=by rfl)(f:ev env y=some (.int k n):=by rfl)(c:n≠0:=by decide):bo P R env H (.binOp .quo t x y u) ty (.int k (k.wrap (m.tdiv n))):=λa w d i h g b _ _=>by
 simp[execOp,b.eval e,b.eval f,eqGuard,binOp,Op.intDiv,c]
theorem bo.lss(c:ev env x=some (.int k m):=by rfl)(e:ev env y=some (.int k n):=by rfl):bo P R env H (.binOp .lss t x y u) ty (.bool (m<n)):=λa w d h f g b _ _=>by
 simp[execOp,b.eval c,b.eval e,eqGuard,binOp,Op.intCmp]
theorem bo.leq(c:ev env x=some (.int k m):=by rfl)(e:ev env y=some (.int k n):=by rfl):bo P R env H (.binOp .leq t x y u) ty (.bool (m<=n)):=λa w d h f g b _ _=>by
 simp[execOp,b.eval c,b.eval e,eqGuard,binOp,Op.intCmp]
theorem bo.gtr(c:ev env x=some (.int k m):=by rfl)(e:ev env y=some (.int k n):=by rfl):bo P R env H (.binOp .gtr t x y u) ty (.bool (n<m)):=λa w d h f g b _ _=>by
 simp[execOp,b.eval c,b.eval e,eqGuard,binOp,Op.intCmp]
theorem bo.geq(c:ev env x=some (.int k m):=by rfl)(e:ev env y=some (.int k n):=by rfl):bo P R env H (.binOp .geq t x y u) ty (.bool (n<=m)):=λa w d h f g b _ _=>by
 simp[execOp,b.eval c,b.eval e,eqGuard,binOp,Op.intCmp]
theorem bo.bw(c:ev env x=some (.int k m):=by rfl)(e:ev env y=some (.int k n):=by rfl):bo P R env H (.binOp .eql t x y u) ty (.bool (m==n)):=λa w d h f g b _ _=>by
 simp[execOp,b.eval c,b.eval e,eqGuard,binOp,Op.intCmp]
theorem bo.eT(c:ev env x=some (.int k m):=by rfl)(e:ev env y=some (.int k n):=by rfl):bo P R env H (.binOp .neq t x y u) ty (.bool (m !=n)):=λa w d h f g b _ _=>by
 simp[execOp,b.eval c,b.eval e,eqGuard,binOp,Op.intCmp]
theorem bo.gK{dst:TypeId}{k':IntKind}(e:ev env x=some (.int k n):=by rfl){b:TypeDesc} [us:bS P t b] [f:bS P dst (.int k')]:bo P R env H (.convert t dst x) ty (.int k' (k'.wrap n)):=λa w d j i g c _ _=>by
 simp[execOp,c.eval e,convert,run_underlying us.h,run_underlying f.h,Conv.intToInt]
end ints
theorem uF{op:Op}{t:TypeId}{x y:Operand}{u v:Value}{ty l:TypeId}{a:Act}{w:World}{d:Option Tmp}{k:String}{b:Array Edge}{g:Option (Nat×Bool)}{r:Bool}(i:a.eval x=u)(j:a.eval y=v)
  (h:(eqGuard .eql t x y u v).run P w=.ok () w)(c:binOp .eql t u v=do pure (.bool (<-Op.equal t u v)))(e:(Op.equalIn (9999+1) t u v).run P w=.ok r w):
  (execOp a.eval ⟨d,.binOp .eql t x y l,ty,k,b,g⟩).run P w=.ok (.value (.bool r)) w:=by
 have f:(Op.equal t u v).run P w=.ok r w:=e
 simp only[execOp,i,j,Sem.run_bind,h,Result.andThen_ok,c,f]
 rfl
theorem qc{op:Op}{t:TypeId}{x y:Operand}{u v:Value}{ty l:TypeId}{a:Act}{w:World}{d:Option Tmp}{k:String}{b:Array Edge}{g:Option (Nat×Bool)}{r:Bool}(i:a.eval x=u)(j:a.eval y=v)
  (h:(eqGuard .neq t x y u v).run P w=.ok () w)(c:binOp .neq t u v=do pure (.bool (!(<-Op.equal t u v))))(e:(Op.equalIn (9999+1) t u v).run P w=.ok r w):
  (execOp a.eval ⟨d,.binOp .neq t x y l,ty,k,b,g⟩).run P w=.ok (.value (.bool (!r))) w:=by
 have f:(Op.equal t u v).run P w=.ok r w:=e
 simp only[execOp,i,j,Sem.run_bind,h,Result.andThen_ok,c,f]
 rfl
section bools
variable{x y:Operand}{t u:TypeId}{b c:Bool}
theorem run_equalIn_bool(n:Nat){w:World}(ut:P.underlying t=some .bool):(Op.equalIn (n+1) t (.bool b) (.bool c)).run P w=.ok (b==c) w:=by
 simp[Op.equalIn,run_underlying ut]
theorem bo.ML(f:ev env x=some (.bool b):=by rfl)(i:ev env y=some (.bool c):=by rfl) [ut:bS P t .bool]:bo P R env H (.binOp .neq t x y u) ty (.bool !(b==c)):=λa w d k j g e _ _=>
 qc (op:=.move x) (e.eval f) (e.eval i) (oo rfl) rfl (run_equalIn_bool _ ut.h)
end bools
theorem toList_inj{a b:ByteArray}(h:a.toList=b.toList):a=b:=by
 rw[ByteArray.toList_eq,ByteArray.toList_eq]at h
 exact ByteArray.ext (Array.toList_inj.1 h)
theorem sW(a b:ByteArray):(a.toList==b.toList)=decide (a=b):=by
 by_cases h:a=b
 ·subst h;simp
 ·simp only[h,decide_false,beq_eq_false_iff_ne,ne_eq]
  exact λe=>h (toList_inj e)
theorem qJ(a b:ByteArray):(a==b)=decide (a=b):=by rw[beq_toListBytes,sW]
def gR(a b:ByteArray):Bool:=Op.bytesLess a.toList b.toList
section strs
variable{x y:Operand}{t u:TypeId}{p q:ByteArray}
theorem bo.ec(c:ev env x=some (.string p):=by rfl)(e:ev env y=some (.string q):=by rfl):bo P R env H (.binOp .eql t x y u) ty (.bool (decide (p=q))):=λa w d h f g b _ _=>by
 rw[<-sW];simp[execOp,b.eval c,b.eval e,eqGuard,binOp,Op.stringOp]
theorem bo.gd(c:ev env x=some (.string p):=by rfl)(e:ev env y=some (.string q):=by rfl):bo P R env H (.binOp .neq t x y u) ty (.bool !(decide (p=q))):=λa w d h f g b _ _=>by
 rw[<-sW];simp[execOp,b.eval c,b.eval e,eqGuard,binOp,Op.stringOp]
theorem bo.Mu(c:ev env x=some (.string p):=by rfl)(e:ev env y=some (.string q):=by rfl):bo P R env H (.binOp .lss t x y u) ty (.bool (gR p q)):=λa w d h f g b _ _=>by
 simp[execOp,b.eval c,b.eval e,eqGuard,binOp,Op.stringOp,gR]
theorem bo.fw(c:ev env x=some (.string p):=by rfl) [ut:bS P t .string]:bo P R env H (.call ⟨.builtin .len,#[x],#[t]⟩) ty (.int .i64 p.size):=λa w d f e g b _ _=>by
 simp[execOp,resolve,b.eval c,invoke,builtin,Builtin.len_,run_underlying ut.h,goInt]
theorem bo.fv{i:Operand}{k:IntKind}{j:Int}(n:Nat)(f:n<p.size)(l:ev env x=some (.string p):=by rfl)(c:ev env i=some (.int k j):=by rfl)(e:j=(n:Int):=by rfl) [ut:bS P t .string]:
  bo P R env H (.index t x i) ty (.int .u8 (p[n]).toNat):=λa w d o m g b _ _=>by
 subst e
 simp[execOp,b.eval l,b.eval c,Instr.index,asIntOf,run_underlying ut.h,f]
end strs
section nils
variable{x y:Operand}{t u e:TypeId}
theorem uG(n:Nat){w:World}{p:Option Addr}(ut:P.underlying t=some (.pointer e)):(Op.equalIn (n+1) t (.pointer p) (.pointer none)).run P w=.ok p.isNone w:=by
 cases p<;>simp[Op.equalIn,run_underlying ut]
theorem bo.po{p:Option Addr}(c:ev env x=some (.pointer p))(f:ev env y=some (.pointer none)) [ut:bS P t (.pointer e)]:bo P R env H (.binOp .eql t x y u) ty (.bool p.isNone):=λa w d j i g b _ _=>
 uF (op:=.move x) (b.eval c) (b.eval f) (oo rfl) rfl (uG _ ut.h)
theorem bo.MM{p:Option Addr}(c:ev env x=some (.pointer p))(f:ev env y=some (.pointer none)) [ut:bS P t (.pointer e)]:bo P R env H (.binOp .neq t x y u) ty (.bool !p.isNone):=λa w d j i g b _ _=>
 qc (op:=.move x) (b.eval c) (b.eval f) (oo rfl) rfl (uG _ ut.h)
theorem bo.yE{p:Value}{vs:List Value}(j:ev env x=some p)(k:ev env y=some (.pointer none)) [ut:bS P t (.pointer e)] [rc:RC R H p vs]:bo P R env H (.binOp .neq t x y u) ty (.bool true):=λa w d o l g f _ _=>by
 obtain⟨b,n,c,E,m,i,_,_⟩:=rc.h.h
 subst i
 exact qc (op:=.move x) (f.eval j) (f.eval k) (oo rfl) rfl (uG _ ut.h)
end nils
end
end
section
def aq:Value->Bool
 | .agg _| .tuple _=>false
 |_=>true
class One(v:Value):Prop where h:aq v=true
instance One.bool{b:Bool}:One (.bool b):=⟨rfl⟩
instance One.int{k:IntKind}{n:Int}:One (.int k n):=⟨rfl⟩
instance One.string{s:ByteArray}:One (.string s):=⟨rfl⟩
instance One.pointer{a:Option Addr}:One (.pointer a):=⟨rfl⟩
instance One.slice{a:Option Addr}{m n:Nat}:One (.slice a m n):=⟨rfl⟩
instance One.map{r:Option Nat}:One (.map r):=⟨rfl⟩
instance One.func{f:Fn}{a b:Array Value}:One (.func f a b):=⟨rfl⟩
instance One.nilFunc:One .nilFunc:=⟨rfl⟩
class bZ(vs:List Value):Prop where h:∀v∈vs,aq v=true
instance bZ.nil:bZ []:=⟨by simp⟩
instance bZ.cons{v:Value}{vs:List Value} [h1:One v] [h2:bZ vs]:bZ (v::vs):=⟨by simpa using⟨h1.h,h2.h⟩⟩
theorem og{v:Value}(h:aq v=true):v.cells= #[v]:=by cases v<;>simp_all[aq,Value.cells]
def dh:List Value->Nat->List Value->List Value
 |[],_,cs=>cs
 |v::vs,k+1,cs=>v::dh vs k cs
 |v::vs,0,[]=>v::vs
 |_::vs,0,c::cs=>c::dh vs 0 cs
theorem iH:∀(vs:List Value) (off:Nat) (cs:List Value),dh vs off cs=vs.take off++cs++vs.drop (off+cs.length)
 |[],k,cs=>by simp[dh]
 |v::vs,k+1,cs=>by simp[dh,iH vs k cs,Nat.add_right_comm]
 |v::vs,0,[]=>by simp[dh]
 |v::vs,0,c::cs=>by simp[dh,iH vs 0 cs]
instance bZ.dh{vs cs:List Value}{k:Nat} [h1:bZ vs] [h2:bZ cs]:bZ (Go.Proofs.YtenilfmlfldogaaGreatDoor.dh vs k cs):=⟨λv hv=>by
 simp only[iH,aal]at hv
 rcases hv with(hv|hv)|hv
 ·exact h1.h v (aaO hv)
 ·exact h2.h v hv
 ·exact h1.h v (aaF hv)⟩
instance bZ.take{vs:List Value}{k:Nat} [h1:bZ vs]:bZ (vs.take k):=⟨λv a=>h1.h v (aaO a)⟩
instance bZ.drop{vs:List Value}{k:Nat} [h1:bZ vs]:bZ (vs.drop k):=⟨λv a=>h1.h v (aaF a)⟩
theorem oT{vs cs:List Value}{off:Nat}(h:off+cs.length<=vs.length):(dh vs off cs).length=vs.length:=by rw[iH];simp;omega
theorem zM{vs:List Value}{off:Nat}:dh vs off []=vs:=by rw[iH];simp
theorem zL{vs cs:List Value}{off:Nat}{c:Value}(h:off+cs.length<vs.length):dh vs off (c::cs)=dh (vs.set off c) (off+1) cs:=by
 apply List.ext_getElem?
 intro i
 simp only[iH,List.getElem?_append,aaP,aaN,List.getElem?_take,List.getElem?_drop,aa1,aam,List.length_set]
 have e:min off vs.length=off:=by omega
 have d:min (off+1) vs.length=off+1:=by omega
 simp only[e,d,List.getElem?_cons]
 by_cases a:i<off
 ·simp[a,show i<off+(cs.length+1) by omega,show i<off+1 by omega,show i<off+1+cs.length by omega,show ¬off=i by omega]
 ·by_cases f:i=off
  ·subst f;simp[show i<i+(cs.length+1) by omega,show i<i+1+cs.length by omega,show i<vs.length by omega]
  ·by_cases b:i<off+(cs.length+1)
   ·simp[a,b,show ¬i<off+1 by omega,show i<off+1+cs.length by omega,show ¬i-off=0 by omega,show i-off-1=i-(off+1) by omega]
   ·simp[b,show ¬i<off+1+cs.length by omega]
    rw[aaa (by omega),show off+(cs.length+1)+(i-(off+(cs.length+1)))=off+1+cs.length+(i-(off+1+cs.length)) by omega]
theorem Pg(w:World)(b:Nat)(o o':Obj):ew (ew w b o) b o'=ew w b o':=by simp[ew]
theorem Pf{w:World}{b off:Nat}{vs:List Value}{E:TypeId}{fr:Nat×Nat}(h:w.heap[b]? =some (.cells vs.toArray E fr))(v:Value):w.setCell ⟨b,off,none⟩ v=ew w b (.cells (vs.set off v).toArray E fr):=by
 have c:=mA h
 unfold World.setCell ew
 congr 1
 apply Array.ext_getElem?
 intro i
 simp only[Array.getElem?_modify,aa5,c]
 by_cases a:b=i
 ·subst a;simp[h]
 ·simp[a]
theorem r9{P:Program}{b off:Nat}{E:TypeId}:∀(cs:List Value) (i:Nat) (vs:List Value) (w:World),w.heap[b]? =some (.cells vs.toArray E (0,0))->(∀v∈cs,aq v=true)->off+i+cs.length<=vs.length->
  (storeCells ⟨b,off,none⟩ cs i).run P w=.ok () (ew w b (.cells (dh vs (off+i) cs).toArray E (0,0)))
 |[],i,vs,w,hw,_,_=>by
  have:ew w b (.cells vs.toArray E (0,0))=w:=by
   unfold ew
   have:w.heap.setIfInBounds b (.cells vs.toArray E (0,0))=w.heap:=by
    apply Array.ext_getElem?
    intro i
    simp only[aa5]
    by_cases a:b=i
    ·subst a;rw[hw];simp[mA hw]
    ·simp[a]
   rw[this]
  rw[zM,this];rfl
 |v::cs,i,vs,w,hw,ho,hl=>by
  simp only[aam]at hl
  have a:(⟨b,off,none⟩:Addr).add i=⟨b,off+i,none⟩:=by
   simp only[Addr.add];split
   ·rename_i c;subst c;rfl
   ·rfl
  have h:w.cell? ⟨b,off+i,none⟩=some (vs[off+i]'(by omega)):=by simp[World.cell?,hw]
  have j:w.frozen? ⟨b,off+i,none⟩=false:=by simp[World.frozen?,hw]
  have k:=ho v (by simp)
  have d:(store ⟨b,off+i,none⟩ v).run P w=.ok () (ew w b (.cells (vs.set (off+i) v).toArray E (0,0))):=by
   rw[<-Pf hw]
   cases v<;>simp_all[store,Sem.run,aq]
  have g:(ew w b (.cells (vs.set (off+i) v).toArray E (0,0))).heap[b]? =some (.cells (vs.set (off+i) v).toArray E (0,0)):=by
   simp[ew,mA hw]
  have e:=r9 (P:=P) (b:=b) (off:=off) (E:=E) cs (i+1) (vs.set (off+i) v) _ g (λu f=>ho u (by simp[f])) (by simp;omega)
  simp only[storeCells,a,Sem.run_bind,d,Result.andThen_ok,e,Pg]
  rw[zL (by omega),aav]
class Wr(H:aN)(p:Value)(vs:outParam (List Value))(off:outParam Nat)(upd:outParam (List Value->aN)):Prop where
 h:∃b E H1 H2 T1 T2,p=.pointer (some ⟨b,off,none⟩)/\H=H1++(T1++(b,.cells vs.toArray E (0,0))::T2)::H2/\∀vs',upd vs'=H1++(T1++(b,.cells vs'.toArray E (0,0))::T2)::H2
instance Wr.there{H:aN}{T:aH}{p:Value}{vs:List Value}{off:Nat}{upd:List Value->aN} [h:Wr H p vs off upd]:Wr (T::H) p vs off (λvs'=>T::upd vs'):=
 ⟨let ⟨b,E,H1,H2,T1,T2,h1,h2,h3⟩:=h.h;⟨b,E,T::H1,H2,T1,T2,h1,by rw[h2];rfl,λvs'=>by rw[h3];rfl⟩⟩
instance Wr.here{H:aN}{b:Nat}{vs:List Value}{E:TypeId}:Wr ([(b,.cells vs.toArray E (0,0))]::H) (.pointer (some ⟨b,0,none⟩)) vs 0 (λvs'=>[(b,.cells vs'.toArray E (0,0))]::H):=
 ⟨⟨b,E,[],H,[],[],rfl,rfl,λ_=>rfl⟩⟩
instance Wr.add{H:aN}{p:Value}{k:Nat}{vs:List Value}{off:Nat}{upd:List Value->aN} [h:Wr H p vs off upd]:Wr H (jy p k) vs (off+k) upd:=
 ⟨by
  obtain⟨b,E,a,c,d,e,g,i,j⟩:=h.h
  refine⟨b,E,a,c,d,e,?_,i,j⟩
  subst g
  simp only[jy,Addr.add];split
  ·rename_i f;subst f;rfl
  ·rfl⟩
section
variable{P:Program}{N:Nat}{R:aw}{ops:Array Oper}{l:List Oper}{env:Env}{H:aN}{K:Env->aN->Prop}{ty:TypeId}{pos:String}{af:Array Edge}
theorem zH{t:TypeId}{n:Nat} [sz:Sz P t n]{b off:Nat}{E:TypeId}{v:Value}{cs vs:List Value}{w:World}(a:v.cells=cs.toArray)(c:cs.length=n)(d:w.heap[b]? =some (.cells vs.toArray E (0,0)))(ho:∀u∈cs,aq u=true)(f:off+cs.length<=vs.length):
  (Instr.storeAt t (.pointer (some ⟨b,off,none⟩)) v).run P w=.ok () (ew w b (.cells (dh vs off cs).toArray E (0,0))):=by
 have h:=r9 (P:=P) (b:=b) (off:=off) (E:=E) cs 0 vs w d ho (by omega)
 subst c
 have e:v.cells.size=cs.length:=by rw[a];simp
 simp only[Instr.storeAt,Instr.sureAddr,Sem.run_bind,Sem.run_pure,Result.andThen_ok,storeVar,sz.h,e,ne_eq,not_true,aaq]
 rw[a]
 exact h
theorem aO.z9{t:TypeId}{x y:Operand}{n:Nat}{p v:Value}{vs cs:List Value}{off:Nat}{c:List Value->aN}(q:ev env x=some p)(r:ev env y=some v)(i:v.cells=cs.toArray)(k:cs.length=n) [sz:Sz P t n] [wr:Wr H p vs off c](ho:∀u∈cs,aq u=true)
  (j:off+cs.length<=vs.length)(m:aO false P N R ops l env (c (dh vs off cs)) K):aO false P N R ops (⟨none,.store t x y,ty,pos,af,none⟩::l) env H K:=
 aO.qQ λa w e s D=>by
  obtain⟨b,E,z,A,B,C,f,g,d⟩:=wr.h
  subst f;subst g
  have o:w.heap[b]? =some (.cells vs.toArray E (0,0)):=s.2 (b,_) (by simp)
  refine⟨ew w b (.cells (dh vs off cs).toArray E (0,0)),c (dh vs off cs),.inl ?_,?_,?_,m⟩
  ·simp[execOp,e.eval q,e.eval r,zH i k o ho j]
  ·rw[d];exact Frame.set
  ·rw[d];exact Sat.set s
theorem aO.dH{t:TypeId}{x y:Operand}{p v:Value}{vs:List Value}{off:Nat}{a:List Value->aN}(d:ev env x=some p)(e:ev env y=some v) [sz:Sz P t 1] [wr:Wr H p vs off a] [o:One v](c:aO false P N R ops l env (a (dh vs off [v])) K)
  (b:off+1<=vs.length:=by first|decide|exact aar rfl):aO false P N R ops (⟨none,.store t x y,ty,pos,af,none⟩::l) env H K:=
 aO.z9 (cs:=[v]) d e (og o.h) rfl (by simpa using o.h) (by simpa using b) c
theorem aO.bN{t:TypeId}{x y:Operand}{n:Nat}{p:Value}{vs cs:List Value}{off:Nat}{a:List Value->aN}(e:ev env x=some p)(f:ev env y=some (.agg cs.toArray)) [sz:Sz P t n] [wr:Wr H p vs off a] [o:bZ cs](d:aO false P N R ops l env (a (dh vs off cs)) K)
  (c:cs.length=n:=by rfl)(b:off+cs.length<=vs.length:=by first|decide|exact aar rfl):aO false P N R ops (⟨none,.store t x y,ty,pos,af,none⟩::l) env H K:=
 aO.z9 (cs:=cs) e f rfl c o.h b d
theorem aO.fresh{op:Op}{d:Nat}{o:Obj}{v:Nat->Value}(e:Nat.blt d N=true)(h:∀a w,eI a env->Sat w H->RO w R H->∃n,(execOp a.eval ⟨some d,op,ty,pos,af,none⟩).run P w=.ok (.value (v w.heap.size)) (({w with drawn:=n}:World).alloc o))
  (f:∀b,aO false P N R ops l ((d,v b)::env) ([(b,o)]::H) K):aO false P N R ops (⟨some d,op,ty,pos,af,none⟩::l) env H K:=
 aO.mv e λa w c s i=>by
  obtain⟨n,g⟩:=h a w c s i
  refine⟨_,_,_,g,?_,?_,f w.heap.size⟩
  ·exact(Frame.drew w H n).trans (Frame.alloc {w with drawn:=n} H o)
  ·exact Sat.alloc (w:={w with drawn:=n}) (s.drew n) o
theorem lU{t:TypeId}{c:Array Value}{w:World}:(newRow t c).run P w=.ok ⟨w.heap.size,0,none⟩ (w.alloc (.cells c t)):=by
 simp[newRow]
theorem aO.vY{d:Nat}{E:TypeId}{x:Operand}{v:Value}(g:ev env x=some v) [o:One v](f:∀b,aO false P N R ops l ((d,.pointer (some ⟨b,0,none⟩))::env) ([(b,.cells [v].toArray E (0,0))]::H) K)(e:Nat.blt d N=true:=by rfl):
  aO false P N R ops (⟨some d,.box E x,ty,pos,af,none⟩::l) env H K:=
 aO.fresh (v:=λb=>.pointer (some ⟨b,0,none⟩)) e (λa w c s i=>⟨w.drawn,by
  have:=og o.h
  simp[execOp,c.eval g,Instr.box,newVar,this,lU]⟩) f
theorem aO.cj{d:Nat}{E:TypeId}{x:Operand}{cs:List Value}(g:ev env x=some (.agg cs.toArray))(f:∀b,aO false P N R ops l ((d,.pointer (some ⟨b,0,none⟩))::env) ([(b,.cells cs.toArray E (0,0))]::H) K)(e:Nat.blt d N=true:=by rfl):
  aO false P N R ops (⟨some d,.box E x,ty,pos,af,none⟩::l) env H K:=
 aO.fresh (v:=λb=>.pointer (some ⟨b,0,none⟩)) e (λa w c s h=>⟨w.drawn,by
  simp[execOp,c.eval g,Instr.box,newVar,lU,Value.cells]⟩) f
theorem aO.qB{d:Nat}{E:TypeId}{z:Value} [f:Zr P E z] [o:One z](e:∀b,aO false P N R ops l ((d,.pointer (some ⟨b,0,none⟩))::env) ([(b,.cells [z].toArray E (0,0))]::H) K)(c:Nat.blt d N=true:=by rfl):
  aO false P N R ops (⟨some d,.alloc E,ty,pos,af,none⟩::l) env H K:=
 aO.fresh (v:=λb=>.pointer (some ⟨b,0,none⟩)) c (λa w g s i=>⟨w.drawn,by
  have:=og o.h
  simp[execOp,Instr.alloc,f.h,newVar,this,lU]⟩) e
theorem aO.bV{d:Nat}{E:TypeId}{cs:List Value} [f:Zr P E (.agg cs.toArray)](e:∀b,aO false P N R ops l ((d,.pointer (some ⟨b,0,none⟩))::env) ([(b,.cells cs.toArray E (0,0))]::H) K)(c:Nat.blt d N=true:=by rfl):
  aO false P N R ops (⟨some d,.alloc E,ty,pos,af,none⟩::l) env H K:=
 aO.fresh (v:=λb=>.pointer (some ⟨b,0,none⟩)) c (λa w g s i=>⟨w.drawn,by
  simp[execOp,Instr.alloc,f.h,newVar,lU,Value.cells]⟩) e
theorem aO.makeMap{d:Nat}{T:TypeId}(e:∀b,aO false P N R ops l ((d,.map (some b))::env) ([(b,.map #[] 0)]::H) K)(c:Nat.blt d N=true:=by rfl):
  aO false P N R ops (⟨some d,.makeMap T none,ty,pos,af,none⟩::l) env H K:=
 aO.fresh (v:=λb=>.map (some b)) c (λa w f s g=>⟨w.drawn,by
  simp[execOp,Instr.makeMap,newObj,Sem.run]⟩) e
class fb(P:Program)(t:TypeId)(places:outParam (List (Nat×Nat)))(zero:outParam (List Value)):Prop where
 h:∃fs:Array Field,P.underlying t=some (.struct fs)/\(∀w,(zeroValue t).run P w=.ok (.agg zero.toArray) w)/\∀w,(fs.mapM λf=>do pure (f.offset, <-sizeOf f.type):Sem _).run P w=.ok places.toArray w
def gV(places:List (Nat×Nat))(cells:List Value):List (Nat×Value)->Option (List Value)
 |[]=>some cells
 |(i,v)::r=>match places[i]? with
  |none=>none
  |some (off,size)=>match v with
   | .agg cs=>match Nat.beq cs.toList.length size&&Nat.ble (off+cs.toList.length) cells.length with
    |true=>gV places (dh cells off cs.toList) r
    |false=>none
   |v=>match Nat.beq 1 size&&Nat.ble (off+1) cells.length with
    |true=>gV places (dh cells off [v]) r
    |false=>none
theorem K6(cs:List Value):∀(off:Nat) (vs:List Value) (k:Nat),off+k+cs.length<=vs.length->(cs.zipIdx k).foldl (λ(c:Array Value) x=>c.setIfInBounds (off+x.2) x.1) vs.toArray=(dh vs (off+k) cs).toArray:=by
 induction cs with
 |nil=>intro off vs k _;simp[zM]
 |cons c cs ih=>
  intro off vs k h
  simp only[aam]at h
  rw[List.zipIdx_cons,aaG,zL (by omega)]
  simp only[List.setIfInBounds_toArray]
  rw[ih off _ (k+1) (by simp;omega),aav]
theorem tj{d:List (Nat×Nat)}:∀(parts:List (Nat×Value)) (cells:List Value) {out:List Value},gV d cells parts=some out->Instr.fill (d[·]?) cells.toArray parts=some out.toArray
 |[],cells,out,h=>by simp[gV]at h;simp[Instr.fill,h]
 |(i,v)::r,cells,out,h=>by
  simp only[gV]at h
  cases hp:d[i]? with
  |none=>simp[hp]at h
  |some os=>
   obtain⟨f,o⟩:=os
   simp only[hp]at h
   have j:∀a:List Value,v.cells=a.toArray->(Nat.beq a.length o&&Nat.ble (f+a.length) cells.length)=true->gV d (dh cells f a) r=some out->Instr.fill (d[·]?) cells.toArray ((i,v)::r)=some out.toArray:=by
    intro a g b m
    simp only[aaH]at b
    have k:=aaJ b.1
    have p:=aar b.2
    subst k
    have n:v.cells.size=a.length:=by rw[g];simp
    have l:=K6 a f cells 0 (by omega)
    have e:v.cells.zipIdx.foldl (λa x=>a.setIfInBounds (f+x.2) x.1) cells.toArray=(dh cells f a).toArray:=by
     rw[g, <-Array.foldl_toList,Array.toList_zipIdx];exact l
    simp only[Instr.fill,hp,n,ne_eq,not_true]
    rw[aaa (by simp;omega)]
    refine Eq.trans ?_ (tj r _ m)
    exact aaw (λc=>Instr.fill (d[·]?) c r) e
   cases v with
   |agg a=>
    simp only at h
    split at h
    ·rename_i b;exact j a.toList (by simp[Value.cells]) b h
    ·cases h
   |_=>
    simp only at h
    split at h
    ·rename_i b;exact j [_] rfl b h
    ·cases h
theorem xl{p q:Nat->Option (Nat×Nat)}:∀(parts:List (Nat×Value)),(∀x∈parts,p x.1=q x.1)->∀cells,Instr.fill p cells parts=Instr.fill q cells parts
 |[],_,cells=>rfl
 |(i,v)::r,h,cells=>by
  have a:=h (i,v) (by simp)
  simp only at a
  simp only[Instr.fill,a]
  split
  ·rfl
  ·split
   ·rfl
   ·exact xl r (λx b=>h x (by simp[b])) _
theorem bo.build{H:aN}{t:TypeId}{b:List (Nat×Nat)}{zero out:List Value}{xs:List (Nat×Operand)}{parts:List (Nat×Value)} [e:fb P t b zero]
  (u:∀a,eI a env->xs.map (λp=>(p.1,a.eval p.2))=parts)(r:gV b zero parts=some out):bo P R env H (.build t xs.toArray) ty (.agg out.toArray):=λa w d v c g q s z=>by
 obtain⟨y,f,j,k⟩:=e.h
 have l:=tj parts zero r
 have m:xs.toArray.map (λx=>(x.1,a.eval x.2))=parts.toArray:=by rw[aaW,u a q]
 have n:(execOp a.eval ⟨d,.build t xs.toArray,ty,v,c,g⟩)=(do pure (.value (<-Instr.build t parts.toArray))):=by
  show(do pure (Next.value (<-Instr.build t (xs.toArray.map λx:Nat×Operand=>(x.1,a.eval x.2)))))=_
  rw[m]
 have o:(λi:Nat=>b.toArray[i]?)=(λi:Nat=>b[i]?):=by funext i;simp
 rw[n]
 simp only[Instr.build,Sem.run_bind,j,Result.andThen_ok,run_underlying f,k,Value.cells,o,l]
 rfl
def mw(env:Env):List (Nat×Operand)->Option (List (Nat×Value))
 |[]=>some []
 |(i,x)::r=>match ev env x,mw env r with
  |some v,some vs=>some ((i,v)::vs)
  |_,_=>none
theorem eI.td{a:Act}{env:Env}(h:eI a env):∀{xs:List (Nat×Operand)} {vs:List (Nat×Value)},mw env xs=some vs->xs.map (λp=>(p.1,a.eval p.2))=vs
 |[],vs,hx=>by simp[mw]at hx;simp[hx]
 |(i,x)::r,vs,hx=>by
  simp only[mw]at hx
  split at hx
  ·rename_i v d b c
   simp only[aad]at hx
   subst hx
   simp[h.eval b,h.td c]
  ·cases hx
theorem bo.da{H:aN}{t:TypeId}{b:List (Nat×Nat)}{zero out:List Value}{xs:List (Nat×Operand)}{parts:List (Nat×Value)} [f:fb P t b zero]
  (e:mw env xs=some parts:=by rfl)(d:gV b zero parts=some out:=by rfl):bo P R env H (.build t xs.toArray) ty (.agg out.toArray):=
 bo.build (λa c=>c.td e) d
theorem aO.buildSlice{d:Nat}{T E:TypeId}{n k:Nat}{z:Value}{zs out:List Value}{xs:List (Nat×Operand)}{parts:List (Nat×Value)} [ut:bS P T (.slice E)] [sz:Sz P E k] [F:Zr P E z]
  (B:Nat.ble (n*k) (2^24)=true)(c:Nat.beq (n*k) 0=false)(D:((Array.range (n*k)).map (z.cells[· % z.cells.size]!))=zs.toArray)(C:mw env xs=some parts)
  (t:gV ((List.range n).map λi=>(i*k,k)) zs parts=some out)
  (u:∀b,aO false P N R ops l ((d,.slice (some ⟨b,0,none⟩) n n)::env) ([(b,.cells out.toArray E (0,0))]::H) K)(r:Nat.blt d N=true:=by rfl)(y:parts.all (λp=>Nat.blt p.1 n)=true:=by rfl):
  aO false P N R ops (⟨some d,.buildSlice T n xs.toArray,ty,pos,af,none⟩::l) env H K:=
 aO.fresh (v:=λb=>.slice (some ⟨b,0,none⟩) n n) r (λa w q s G=>⟨w.drawn,by
  have f:xs.toArray.map (λx=>(x.1,a.eval x.2))=parts.toArray:=by rw[aaW,q.td C]
  have g:(execOp a.eval ⟨some d,.buildSlice T n xs.toArray,ty,pos,af,none⟩)=(do pure (.value (<-Instr.buildSlice T n parts.toArray))):=by
   show(do pure (Next.value (<-Instr.buildSlice T n (xs.toArray.map λx:Nat×Operand=>(x.1,a.eval x.2)))))=_
   rw[f]
  have j:Instr.fill (λi=>some (i*k,k)) zs.toArray parts=some out.toArray:=by
   rw[<-tj parts zs t]
   refine xl parts (λp A=>?_) zs.toArray
   have:p.1<n:=aar (aa2.1 y p A)
   simp[this]
  have m:¬n*k>2^24:=Nat.not_lt.2 (aar B)
  have o:¬n*k=0:=λe=>by rw[e]at c;cases c
  rw[g]
  simp only[Instr.buildSlice,Sem.run_bind,run_underlying ut.h,Result.andThen_ok,sz.h,aaa m,aaa o,Sem.run_pure,F.h,D,j,lU]⟩) u
end
end
section
def pj:Nat->List Value->Env
 |_,[]=>[]
 |i,v::vs=>(i,v)::pj (i+1) vs
theorem BY{vs:List Value}:∀(i t:Nat) (v:Value),(pj i vs).get? t=some v->i<=t/\vs[t-i]? =some v:=by
 induction vs with
 |nil=>intro i t v h;cases h
 |cons u vs ih=>
  intro i t v h
  simp only[pj,Env.get?]at h
  split at h
  ·rename_i a
   have:=aaJ a
   subst this
   simp only[aad]at h
   simp[h]
  ·have:=ih (i+1) t v h
   have b:t-i=(t-(i+1))+1:=by omega
   exact⟨by omega,by rw[b];simpa using this.2⟩
def sb(tmps:Array Value)(rv:ResultVar):Sem Value:=match rv with
 | .tmp t=>pure (tmps.getD t undef)
 | .cell x t=>do loadVar t (<-asAddr (tmps.getD x undef))
theorem uA(a:Func)(b:Array Value):results a b=(do let vs<-a.results.mapM (sb b);pure (if h:vs.size=1 then vs[0]else .tuple vs)):=rfl
class RV(R:aw)(H:aN)(env:Env)(P:Program)(rv:ResultVar)(v:outParam Value):Prop where
 h:∀(a:Act) (w:World),eI a env->Sat w H->RO w R H->(sb a.tmps rv).run P w=.ok v w
section
variable{P:Program}{N:Nat}{R:aw}{env:Env}{H:aN}{Q:Exit->Env->aN->Prop}
theorem RV.tmp{t:Nat}{v:Value}(h:Env.get? env t=some v):RV R H env P (.tmp t) v:=⟨λa w b s c=>by
 have:=b t v h
 simp[sb,this]⟩
theorem RV.ei{x:Nat}{t:TypeId}{p:Value}{n:Nat}{vs:List Value}(j:Env.get? env x=some p) [c:cR P t true] [sz:Sz P t n] [rc:RC R H p vs](i:vs.length=n):RV R H env P (.cell x t) (.agg vs.toArray):=⟨λa w g s k=>by
 obtain⟨b,off,d,e⟩:=rT (P:=P) rc.h s k
 subst d;subst i
 have:=run_loadCellsFrom (P:=P) (w:=w) (b:=b) (off:=off) vs 0 #[] (by simpa using e)
 have f:=g x _ j
 simp[sb,f,asAddr,loadVar,c.h,sz.h,loadCells,this]⟩
def kF(P:Program)(R:aw)(rs:List ResultVar)(env:Env)(H:aN)(v:Value):Prop:=
 ∀(a:Act) (w:World) (fn:Func),fn.results=rs.toArray->eI a env->Sat w H->RO w R H->(results fn a.tmps).run P w=.ok v w
theorem kF.none:kF P R [] env H (.tuple #[]):=λa w c b d s e=>by simp[results,b]
theorem kF.one{r:ResultVar}{v:Value}(h:RV R H env P r v):kF P R [r] env H v:=λa w e c b s d=>by
 have:=h.h a w b s d
 rw[uA,c]
 simp[this]
theorem kF.two{c d:ResultVar}{f g:Value}(k:RV R H env P c f)(l:RV R H env P d g):kF P R [c,d] env H (.tuple #[f,g]):=λa w n m b s e=>by
 have i:=k.h a w b s e
 have j:=l.h a w b s e
 rw[uA,m]
 simp[i,j]
def rY(P:Program)(R:aw)(rs:List ResultVar)(Post:Value->aN->Prop):Exit->Env->aN->Prop
 | .normal,env,H=>∃v H',kF P R rs env H v/\bp H H'/\Post v H'
 | .ret,env,H=>∃v H',kF P R rs env H v/\bp H H'/\Post v H'
 |_,_,_=>False
theorem Spec.body{f:FuncId}{d:Func}{c:Code}{b:List Value}{rs:List ResultVar}{Post:Value->aN->Prop}(x:P.funcs[f]? =some d)(u:d.body=some c)(p:d.results=rs.toArray)(z:d.ntmps=N)(r:Nat.ble b.length N=true)
  (h:bF P N R c (pj 0 b) H (rY P R rs Post)):Spec P f b R H Post:=λw s A=>by
 refine calls_of_wp x u ?_
 have D:b.length<=N:=aar r
 have q:St N R {tmps:=b.toArray++Array.replicate (d.ntmps-b.toArray.size) undef,defers:=[]} w (pj 0 b) H w H:=by
  refine⟨rfl,by simp[z];omega,λt v j=>?_,s,A,Frame.refl w H⟩
  have:=(BY 0 t v j).2
  simp only[aaQ]at this
  have y:t<b.length:=by
   rcases aaK t b.length with h|h
   ·exact h
   ·rw[List.getElem?_eq_none h]at this;cases this
  rw[Array.getElem?_append_left (by simpa using y)]
  simpa using this
 refine h _ w H (λe C B o k g a=>?_) _ w q
 cases e with
 |normal=>obtain⟨v,m,j,i,n⟩:=g;exact⟨a.defers,v,j o k d p a.env a.sat a.ro,v,m,rfl,n,i.sat a.sat,a.fr.trans (i.frame k)⟩
 |ret=>obtain⟨v,m,j,i,n⟩:=g;exact⟨a.defers,v,j o k d p a.env a.sat a.ro,v,m,rfl,n,i.sat a.sat,a.fr.trans (i.frame k)⟩
 |exit id=>exact g.elim
 |goto l=>exact g.elim
 |panic ch=>exact g.elim
 |outgrown=>exact g.elim
theorem ay{y:Code}(h:bF P N R y env H Q):kQ P N R y Q .normal env H:=h
theorem aI{y:Code}(h:Q .ret env H):kQ P N R y Q .ret env H:=h
theorem bz{y:Code}{id:Nat}(h:Q (.exit id) env H):kQ P N R y Q (.exit id) env H:=h
theorem bi{id:Nat}(h:Q .normal env H):mS id Q .normal env H:=h
theorem bf{id:Nat}(h:Q .ret env H):mS id Q .ret env H:=h
theorem bB{id:Nat}(h:Q .normal env H):mS id Q (.exit id) env H:=by simp only[mS,aae];exact h
theorem o9{id a:Nat}(h:Q (.exit a) env H)(b:Nat.beq a id=false:=by rfl):mS id Q (.exit a) env H:=by
 have:¬a=id:=λe=>by subst e;rw[Nat.beq_refl]at b;cases b
 simp only[mS,aaa this];exact h
theorem cK{I:Env->aN->Prop}(h:Q .ret env H):pS I Q .ret env H:=h
theorem bG{I:Env->aN->Prop}{id:Nat}(h:Q (.exit id) env H):pS I Q (.exit id) env H:=h
theorem bu{rs:List ResultVar}{Post:Value->aN->Prop}{H':aN}(v:Value)(h:kF P R rs env H v)(a:bp H H')(b:Post v H'):rY P R rs Post .ret env H:=⟨v,H',h,a,b⟩
theorem gg{rs:List ResultVar}{Post:Value->aN->Prop}{H':aN}(v:Value)(h:kF P R rs env H v)(a:bp H H')(b:Post v H'):rY P R rs Post .normal env H:=⟨v,H',h,a,b⟩
theorem bp.none(H:aN):bp H []:=bp.pick [] H
theorem bp.one(is:List Nat)(H:aN):bp H [(take is H).flatten]:=⟨(rest is H).flatten,by simpa using mJ is H⟩
theorem Spec.fP{f:FuncId}{g:List Value}{H':aN}{Post:Value->aN->Prop}(h:H.flatten=H'.flatten)(s:Spec P f g R H' Post):Spec P f g R H Post:=λw q i=>by
 have k:Sat w H':=q.perm (by rw[h])
 have l:RO w R H':=λb o c=>⟨(i b o c).1,by rw[<-h];exact(i b o c).2⟩
 refine(s w k l).mono λe t ⟨v,j,m,d,r,a⟩=>⟨v,j,m,d,r,a.le,λb c n=>a.iS b c (by rw[<-h];exact n),λp d=>by rw[h];exact a.ke p d,a.os,a.output,a.tape⟩
end
end
section
variable{α β:Type}
def Row(c:Array Value)(off:Nat)(cs:List Value):Prop:=∀k,k<cs.length->c[off+k]? =cs[k]?
theorem jg{enc:α->List Value}{sz:Nat}:∀{xs:List α},(∀x∈xs,(enc x).length=sz)->(xs.flatMap enc).length=xs.length*sz
 |[],_=>by simp
 |x::xs,h=>by
  rw[aaf,aaP,jg (λy a=>h y (by simp[a])),h x (by simp),aam]
  rw[aag];omega
theorem qX{enc:α->List Value}{sz:Nat}:∀{xs:List α} {i:Nat} {x:α},(∀x∈xs,(enc x).length=sz)->xs[i]? =some x->∀j,j<sz->(xs.flatMap enc)[i*sz+j]? =(enc x)[j]?
 |[],i,x,_,h,j,_=>by simp at h
 |y::xs,0,x,hl,h,j,hj=>by
  simp only[aax,aad]at h
  subst h
  rw[aaf,aaR (by rw[hl y (by simp)];omega)]
  simp
 |y::xs,i+1,x,hl,h,j,hj=>by
  simp only[aaS]at h
  have a:=hl y (by simp)
  rw[aaf,aaT (by rw[a,aag];omega),a,show(i+1)*sz+j-sz=i*sz+j by rw[aag];omega]
  exact qX (λz b=>hl z (by simp[b])) h j hj
theorem xx{enc:α->List Value}{sz:Nat}:∀{xs:List α} {i:Nat} {x x':α} {k:Nat} {cs:List Value},(∀x∈xs,(enc x).length=sz)->xs[i]? =some x->(enc x').length=sz->enc x'=dh (enc x) k cs->k+cs.length<=sz->
  (xs.set i x').flatMap enc=dh (xs.flatMap enc) (i*sz+k) cs
 |[],i,x,x',k,cs,_,h,_,_,_=>by simp at h
 |y::xs,0,x,x',k,cs,hl,h,hx',he,hk=>by
  simp only[aax,aad]at h
  subst h
  have a:=hl y (by simp)
  simp only[List.set_cons_zero,aaf,he,iH,Nat.zero_mul,aay]
  rw[List.take_append_of_le_length (by omega),List.drop_append_of_le_length (by omega)]
  simp
 |y::xs,i+1,x,x',k,cs,hl,h,hx',he,hk=>by
  simp only[aaS]at h
  have a:=hl y (by simp)
  have c:=xx (λz b=>hl z (by simp[b])) h hx' he hk
  simp only[List.set_cons_succ,aaf,c,iH]
  rw[List.take_append,List.drop_append,a,List.take_of_length_le (l:=enc y) (by rw[a,aag];omega),List.drop_eq_nil_of_le (show(enc y).length<=_ by rw[a,aag];omega)]
  rw[show(i+1)*sz+k-sz=i*sz+k by rw[aag];omega,show(i+1)*sz+k+cs.length-sz=i*sz+k+cs.length by rw[aag];omega]
  simp
structure RS(R:aw)(sz:Nat)(enc:α->List Value)(v:Value)(xs:List α):Prop where
 len:∀x∈xs,(enc x).length=sz
 one:∀x∈xs,∀u∈enc x,aq u=true
 h:∃p cap,v=.slice p xs.length cap/\xs.length<=cap/\cap<=maxLen/\(xs=[]\/∃b off c E fr,p=some ⟨b,off,none⟩/\R b (.cells c E fr)/\Row c off (xs.flatMap enc))
structure OS(E:TypeId)(sz:Nat)(enc:α->List Value)(v:Value)(xs:List α)(T:aH):Prop where
 len:∀x∈xs,(enc x).length=sz
 one:∀x∈xs,∀u∈enc x,aq u=true
 h:(v=.slice none 0 0/\xs=[]/\T=[])\/∃b off c cap,v=.slice (some ⟨b,off,none⟩) xs.length cap/\T=[(b,.cells c E (0,0))]/\xs.length<=cap/\cap<=maxLen/\off+cap*sz<=c.size/\Row c off (xs.flatMap enc)
theorem RS.mono{R R':aw}{sz:Nat}{enc:α->List Value}{v:Value}{xs:List α}(h:RS R sz enc v xs)(m:∀b o,R b o->R' b o):RS R' sz enc v xs:=
 ⟨h.len,h.one,by
  obtain⟨p,a,i,j,k,l⟩:=h.h
  refine⟨p,a,i,j,k,l.imp id λ⟨b,n,c,E,d,e,f,g⟩=>⟨b,n,c,E,d,e,m _ _ f,g⟩⟩⟩
theorem RS.rx{R:aw}{H:aN}{sz:Nat}{enc:α->List Value}{v:Value}{xs:List α}(h:RS R sz enc v xs):RS (Rx R H) sz enc v xs:=h.mono λ_ _=>.inl
theorem OS.rs{R:aw}{E:TypeId}{sz:Nat}{enc:α->List Value}{v:Value}{xs:List α}{T:aH}(h:OS E sz enc v xs T)(i:∀p∈T,R p.1 p.2):RS R sz enc v xs:=
 ⟨h.len,h.one,by
  rcases h.h with⟨rfl,rfl,rfl⟩|⟨b,a,c,d,rfl,rfl,e,f,j,g⟩
  ·exact⟨none,0,rfl,aab _,aan _,.inl rfl⟩
  ·exact⟨some ⟨b,a,none⟩,d,rfl,e,f,.inr ⟨b,a,c,E,(0,0),rfl,i (b,_) (by simp),g⟩⟩⟩
class fA(H:aN)(T:aH)(upd:outParam (aH->aN)):Prop where h:∃H1 H2,H=H1++T::H2/\∀T',upd T'=H1++T'::H2
instance fA.there{H:aN}{T T0:aH}{upd:aH->aN} [h:fA H T upd]:fA (T0::H) T (λT'=>T0::upd T'):=
 ⟨let ⟨H1,H2,h1,h2⟩:=h.h;⟨T0::H1,H2,by rw[h1];rfl,λT'=>by rw[h2];rfl⟩⟩
instance fA.here{H:aN}{T:aH}:fA (T::H) T (λT'=>T'::H):=⟨⟨[],H,rfl,λ_=>rfl⟩⟩
theorem fA.mem{H:aN}{T:aH}{c:aH->aN}(h:fA H T c):∀p∈T,p∈H.flatten:=by
 obtain⟨d,e,a,_⟩:=h.h
 subst a
 intro p b;simp[b]
theorem OS.rx{R:aw}{H:aN}{E:TypeId}{sz:Nat}{enc:α->List Value}{v:Value}{xs:List α}{T:aH}{b:aH->aN}(h:OS E sz enc v xs T) [s:fA H T b]:RS (Rx R H) sz enc v xs:=h.rs λp a=>.inr (s.mem p a)
theorem OS.nil{E:TypeId}{sz:Nat}{enc:α->List Value}:OS E sz enc (.slice none 0 0) ([]:List α) []:=⟨by simp,by simp,.inl ⟨rfl,rfl,rfl⟩⟩
theorem RS.aq{R:aw}{sz:Nat}{enc:α->List Value}{v:Value}{xs:List α}(h:RS R sz enc v xs):One v:=⟨by obtain⟨p,b,a,_⟩:=h.h;rw[a];rfl⟩
theorem OS.aq{E:TypeId}{sz:Nat}{enc:α->List Value}{v:Value}{xs:List α}{T:aH}(h:OS E sz enc v xs T):One v:=⟨by
 rcases h.h with⟨a,_,_⟩|⟨b,e,c,d,a,_⟩<;>rw[a]<;>rfl⟩
theorem RS.le{R:aw}{sz:Nat}{enc:α->List Value}{v:Value}{xs:List α}(h:RS R sz enc v xs):xs.length<=9223372036854775807:=by
 obtain⟨p,b,_,c,a,_⟩:=h.h
 unfold maxLen at a;omega
theorem OS.le{E:TypeId}{sz:Nat}{enc:α->List Value}{v:Value}{xs:List α}{T:aH}(h:OS E sz enc v xs T):xs.length<=9223372036854775807:=by
 rcases h.h with⟨_,a,_⟩|⟨b,f,c,e,_,_,a,d,_⟩
 ·subst a;simp
 ·unfold maxLen at d;omega
theorem RS.val{R:aw}{sz:Nat}{enc:α->List Value}{v:Value}{xs:List α}(h:RS R sz enc v xs):∃p cap,v=.slice p xs.length cap:=let ⟨p,cap,h1,_⟩:=h.h;⟨p,cap,h1⟩
theorem RS.pc{R:aw}{sz:Nat}{enc:α->List Value}{v:Value}{xs:List α}{i:Nat}{x:α}(h:RS R sz enc v xs)(a:xs[i]? =some x):PC R (fB v (i*sz)) (enc x):=by
 obtain⟨p,w,l,y,z,m⟩:=h.h
 have t:xs≠[]:=λe=>by subst e;simp at a
 obtain⟨b,u,c,E,d,rfl,f,g⟩:=m.resolve_left t
 subst l
 have s:=List.mem_of_getElem? a
 have A:=h.len x s
 refine⟨b,u+i*sz,c,E,d,?_,f,λj r=>?_⟩
 ·simp only[fB,Addr.add];split
  ·rename_i k;rw[k];rfl
  ·rfl
 ·have n:=qX h.len a j (by omega)
  have o:i*sz+j<(xs.flatMap enc).length:=by
   rw[jg h.len]
   have:i<xs.length:=(aaI.1 a).1
   have:=Nat.mul_le_mul_right sz this
   rw[aag]at this;omega
  have q:=g _ o
  rw[aav,q,n,aaD r]
theorem OS.pc{E:TypeId}{sz:Nat}{enc:α->List Value}{v:Value}{xs:List α}{T:aH}{i:Nat}{x:α}(h:OS E sz enc v xs T)(b:xs[i]? =some x):PC (sg T) (fB v (i*sz)) (enc x):=
 (h.rs (R:=sg T) λp a=>a).pc b
section
variable{P:Program}{N:Nat}{R:aw}{ops:Array Oper}{l:List Oper}{env:Env}{H:aN}{K:Env->aN->Prop}{ty:TypeId}{pos:String}{af:Array Edge}{m:Bool}
theorem bo.pP{x:Operand}{t e:TypeId}{p:Option Addr}{n cap:Nat}(c:ev env x=some (.slice p n cap)) [ut:bS P t (.slice e)]:bo P R env H (.call ⟨.builtin .len,#[x],#[t]⟩) ty (.int .i64 n):=λa w d i f g b _ _=>by
 simp[execOp,resolve,b.eval c,invoke,builtin,Builtin.len_,run_underlying ut.h,goInt]
theorem bo.bL{R':aw}{x:Operand}{t e:TypeId}{sz:Nat}{enc:α->List Value}{v:Value}{xs:List α}(h:RS R' sz enc v xs)(b:ev env x=some v:=by rfl) [ut:bS P t (.slice e)]:bo P R env H (.call ⟨.builtin .len,#[x],#[t]⟩) ty (.int .i64 xs.length):=by
 obtain⟨p,c,a⟩:=h.val
 subst a
 exact bo.pP b
theorem bo.fD{x:Operand}{t e E:TypeId}{sz:Nat}{enc:α->List Value}{v:Value}{xs:List α}{T:aH}(h:OS E sz enc v xs T)(b:ev env x=some v:=by rfl) [ut:bS P t (.slice e)]:bo P R env H (.call ⟨.builtin .len,#[x],#[t]⟩) ty (.int .i64 xs.length):=
 bo.bL (h.rs (R:=sg T) λp a=>a) b
theorem OL{t e:TypeId}{sz n cap i:Nat}{a:Addr}{k:IntKind}{w:World} [ut:bS P t (.slice e)] [s:Sz P e sz](c:i<n):(Instr.indexAt t (.slice (some a) n cap) (.int k i)).run P w=.ok (fB (.slice (some a) n cap) (i*sz)) w:=by
 have b:(0:Int)<=i/\(i:Int)<n:=by omega
 simp[Instr.indexAt,asIntOf,run_underlying ut.h,b,s.h,fB,c]
theorem bo.bI{R':aw}{x y:Operand}{t e:TypeId}{sz:Nat}{enc:α->List Value}{v:Value}{xs:List α}{k:IntKind}{j:Int}{z:α}(i:Nat)(h:RS R' sz enc v xs)(l:xs[i]? =some z)(u:ev env x=some v)(A:ev env y=some (.int k j))(q:j=(i:Int)) [ut:bS P t (.slice e)] [s:Sz P e sz]:
  bo P R env H (.indexAddr t x y) ty (fB v (i*sz)):=λa w d L B g f _ _=>by
 obtain⟨p,C,m,I,J,n⟩:=h.h
 have r:xs≠[]:=λe=>by subst e;simp at l
 obtain⟨b,K,c,E,D,rfl,F,G⟩:=n.resolve_left r
 subst m;subst q
 have o:i<xs.length:=(aaI.1 l).1
 simp[execOp,f.eval u,f.eval A,OL (P:=P) (e:=e) (sz:=sz) o]
theorem aO.bI{d:Nat}{x y:Operand}{t e:TypeId}{sz:Nat}{enc:α->List Value}{v:Value}{xs:List α}{k:IntKind}{j:Int}{z:α}(i:Nat)(h:RS R sz enc v xs)(a:xs[i]? =some z) [ut:bS P t (.slice e)] [s:Sz P e sz]
  (f:PC R (fB v (i*sz)) (enc z)->aO m P N R ops l ((d,fB v (i*sz))::env) H K)(g:ev env x=some v:=by rfl)(n:ev env y=some (.int k j):=by rfl)(c:j=(i:Int):=by rfl)(b:Nat.blt d N=true:=by rfl):
  aO m P N R ops (⟨some d,.indexAddr t x y,ty,pos,af,none⟩::l) env H K:=
 aO.q (bo.bI i h a g n c) (f (h.pc a)) b
theorem aO.bH{d:Nat}{x y:Operand}{t e E:TypeId}{sz:Nat}{enc:α->List Value}{v:Value}{xs:List α}{T:aH}{k:IntKind}{j:Int}{z:α}(i:Nat)(h:OS E sz enc v xs T)(a:xs[i]? =some z) [ut:bS P t (.slice e)] [s:Sz P e sz]
  (f:PS T (fB v (i*sz)) (enc z)->aO m P N R ops l ((d,fB v (i*sz))::env) H K)(n:ev env x=some v:=by rfl)(o:ev env y=some (.int k j):=by rfl)(c:j=(i:Int):=by rfl)(b:Nat.blt d N=true:=by rfl):
  aO m P N R ops (⟨some d,.indexAddr t x y,ty,pos,af,none⟩::l) env H K:=
 aO.q (bo.bI i (h.rs (R:=sg T) λp g=>g) a n o c) (f ⟨h.pc a⟩) b
theorem run_sliceBound{x:Value}{y n:Nat}{k:IntKind}{a:BoundsCode}{w:World}(c:x=.int k n)(h:n<=y):(Instr.sliceBound x y a).run P w=.ok n w:=by
 subst c
 have b:(0:Int)<=n/\(n:Int)<=y:=by omega
 simp[Instr.sliceBound,asIntOf,b]
def jl(env:Env)(x:Option Operand)(dflt n:Nat):Prop:=match x with
 |none=>n=dflt
 |some o=>∃k,ev env o=some (.int k n)
theorem ON{t e:TypeId}{sz n cap lo d:Nat}{p:Option Addr}{j g:Option Operand}{a:Act}{w:World}(q:eI a env) [ut:bS P t (.slice e)] [s:Sz P e sz](i:jl env j 0 lo)(b:jl env g n d)(l:lo<=d)(m:d<=cap):
  (Instr.sliceAt t (.slice p n cap) (j.map a.eval) (g.map a.eval) none).run P w=.ok (.slice (if cap=lo then p else p.map (·.add (lo*sz))) (d-lo) (cap-lo)) w:=by
 have c:∀{x:Operand} {k:IntKind} {y n:Nat} {code:BoundsCode},ev env x=some (.int k n)->n<=y->(Instr.sliceBound (a.eval x) y code).run P w=.ok n w:=λv u=>run_sliceBound (q.eval v) u
 unfold Instr.sliceAt
 simp only[Sem.run_bind,run_underlying ut.h,Result.andThen_ok]
 unfold Instr.slice
 simp only[Sem.run_bind,run_underlying ut.h,Result.andThen_ok]
 unfold Instr.sliceBounds
 cases j with
 |none=>
  simp only[jl]at i
  subst i
  cases g with
  |none=>simp only[jl]at b;subst b;simp[s.h]
  |some o=>obtain⟨k,f⟩:=b;simp[s.h,c f m]
 |some o=>
  obtain⟨k,f⟩:=i
  cases g with
  |none=>simp only[jl]at b;subst b;simp[s.h,c f l]
  |some o'=>obtain⟨z,r⟩:=b;simp[s.h,c f l,c r m]
theorem Row.sub{c:Array Value}{off:Nat}{cs:List Value}(h:Row c off cs)(i n:Nat):Row c (off+i) ((cs.drop i).take n):=λk a=>by
 rw[aaN,aa0]at a
 rw[List.getElem?_take_of_lt (by omega),List.getElem?_drop,aav]
 exact h (i+k) (by omega)
theorem xw{enc:α->List Value}{sz:Nat}:∀{xs:List α} (i:Nat),(∀x∈xs,(enc x).length=sz)->(xs.drop i).flatMap enc=(xs.flatMap enc).drop (i*sz)
 |[],i,_=>by simp
 |x::xs,0,_=>by simp
 |x::xs,i+1,h=>by
  have a:=h x (by simp)
  rw[List.drop_succ_cons,xw i (λy b=>h y (by simp[b])),aaf,List.drop_append,a,List.drop_eq_nil_of_le (show(enc x).length<=_ by rw[a,aag];omega),aag]
  simp
theorem xy{enc:α->List Value}{sz:Nat}:∀{xs:List α} (i:Nat),(∀x∈xs,(enc x).length=sz)->(xs.take i).flatMap enc=(xs.flatMap enc).take (i*sz)
 |[],i,_=>by simp
 |x::xs,0,_=>by simp
 |x::xs,i+1,h=>by
  have a:=h x (by simp)
  rw[List.take_succ_cons,aaf,xy i (λy b=>h y (by simp[b])),aaf,List.take_append,a,List.take_of_length_le (l:=enc x) (by rw[a,aag];omega),aag]
  simp
theorem Row.piece{c:Array Value}{off sz:Nat}{enc:α->List Value}{xs:List α}(h:Row c off (xs.flatMap enc))(a:∀x∈xs,(enc x).length=sz)(lo n:Nat):Row c (off+lo*sz) (((xs.drop lo).take n).flatMap enc):=by
 rw[xy n (λx b=>a x (aaF b)),xw lo a]
 exact h.sub _ _
theorem bo.nZ{R':aw}{x:Operand}{m l:Option Operand}{t e:TypeId}{sz:Nat}{enc:α->List Value}{v:Value}{xs:List α}(lo f:Nat)(h:RS R' sz enc v xs) [ut:bS P t (.slice e)] [s:Sz P e sz](y:jl env m 0 lo)(z:jl env l xs.length f)(A:lo<=f)(K:f<=xs.length)(i:ev env x=some v:=by rfl):
  ∃v',RS R' sz enc v' ((xs.drop lo).take (f-lo))/\bo P R env H (.slice t x m l none) ty v':=by
 obtain⟨p,cap,q,I,J,r⟩:=h.h
 subst q
 have k:((xs.drop lo).take (f-lo)).length=f-lo:=by simp;omega
 refine⟨.slice (if cap=lo then p else p.map (·.add (lo*sz))) (f-lo) (cap-lo),⟨λx i=>h.len x (aaF (aaO i)),λx i=>h.one x (aaF (aaO i)),_,_,by rw[k],by rw[k];omega,by omega,?_⟩,?_⟩
 ·rcases r with rfl|⟨b,C,c,E,o,rfl,D,F⟩
  ·exact .inl (by simp)
  ·by_cases B:cap=lo
   ·left
    have:f-lo=0:=by omega
    rw[this];simp
   ·right
    refine⟨b,C+lo*sz,c,E,o,?_,D,F.piece h.len lo (f-lo)⟩
    rw[aaa B]
    simp only[aaz,Addr.add]
    split
    ·rename_i u;rw[u];rfl
    ·rfl
 ·intro a w d L G g j _ _
  have:=ON (P:=P) (w:=w) (p:=p) (n:=xs.length) (cap:=cap) j y z A (by omega) (t:=t) (e:=e) (sz:=sz)
  simp only[execOp,j.eval i,Option.map_none]
  rw[Sem.run_bind,this]
  rfl
end
end
section
set_option linter.unusedVariables false
structure Ed where
 f:Nat
 t:Nat
 a:Bool
deriving DecidableEq
def Ed.w(e:Ed):Nat:=if e.a then 1 else 0
def eS(now next:List Nat)(e:Ed):List Nat:=if next.getD e.f 0<now.getD e.t 0+e.w then next.set e.f (now.getD e.t 0+e.w)else next
def q9(E:List Ed)(n:Nat)(now:List Nat):List Nat:=E.foldl (eS now) (List.replicate n 0)
def level(E:List Ed)(n:Nat):Nat->List Nat
 |0=>List.replicate n 0
 |s+1=>q9 E n (level E n s)
def fT(n:List Nat)(e:Ed):List Nat:=if n.getD e.f 0<n.getD e.t 0+e.w then n.set e.f (n.getD e.t 0+e.w)else n
def pass(E:List Ed)(n:List Nat):List Nat:=E.foldl fT n
def settle(E:List Ed):Nat->List Nat->Option (List Nat)
 |0,_=>none
 |k+1,n=>if pass E n=n then some n else settle E k (pass E n)
def iM(E:List Ed)(v:List Nat):Prop:=∀e∈E,v.getD e.t 0+e.w<=v.getD e.f 0
section
variable{E:List Ed}{n:Nat}
theorem nF(l:List Nat)(i j x:Nat)(h:i<l.length):(l.set i x).getD j 0=if i=j then x else l.getD j 0:=by
 rw[aaj,aaj,aa1]
 split
 ·rename_i e;subst e;simp
 ·rfl
theorem rh(now next:List Nat)(e:Ed):(eS now next e).length=next.length:=by unfold eS;split<;>simp
theorem tC(now:List Nat):∀(E:List Ed) (next:List Nat),(E.foldl (eS now) next).length=next.length
 |[],_=>rfl
 |e::E,next=>by rw[aaG,tC now E,rh]
theorem Lx(now:List Nat):(q9 E n now).length=n:=by unfold q9;rw[tC,List.length_replicate]
theorem kM:∀k,(level E n k).length=n
 |0=>by simp[level]
 |k+1=>by rw[level,Lx]
theorem LX(now next:List Nat)(e:Ed)(b:e.f<next.length)(i:Nat):next.getD i 0<=(eS now next e).getD i 0:=by
 unfold eS
 split
 ·rw[nF _ _ _ _ b]
  split
  ·rename_i c a;subst a;omega
  ·exact aab _
 ·exact aab _
theorem LZ(now next:List Nat)(e:Ed)(a:e.f<next.length):now.getD e.t 0+e.w<=(eS now next e).getD e.f 0:=by
 unfold eS
 split
 ·rw[nF _ _ _ _ a,aac rfl];exact aab _
 ·omega
theorem LY(now next:List Nat)(e:Ed)(b:e.f<next.length)(i:Nat):(eS now next e).getD i 0=next.getD i 0\/(e.f=i/\(eS now next e).getD i 0=now.getD e.t 0+e.w):=by
 unfold eS
 split
 ·rw[nF _ _ _ _ b]
  split
  ·rename_i a;exact .inr ⟨a,rfl⟩
  ·exact .inl rfl
 ·exact .inl rfl
theorem xK(now:List Nat)(i:Nat):∀(E:List Ed) (next:List Nat),(∀e∈E,e.f<next.length)->next.getD i 0<=(E.foldl (eS now) next).getD i 0
 |[],_,_=>aab _
 |e::E,next,h=>by
  rw[aaG]
  have b:=h e aah
  exact aai (LX now next e b i) (xK now i E _ λa c=>by rw[rh];exact h a (aak _ c))
theorem xM(now:List Nat):∀(E:List Ed) (next:List Nat),(∀e∈E,e.f<next.length)->∀e∈E,now.getD e.t 0+e.w<=(E.foldl (eS now) next).getD e.f 0
 |[],_,_,e,he=>by cases he
 |x::E,next,h,e,he=>by
  rw[aaG]
  have c:=h x aah
  have b:∀a∈E,a.f<(eS now next x).length:=λa d=>by rw[rh];exact h a (aak _ d)
  rcases aat.1 he with rfl|he
  ·exact aai (LZ now next e c) (xK now e.f E _ b)
  ·exact xM now E _ b e he
theorem xL(now:List Nat)(i:Nat):∀(E:List Ed) (next:List Nat),(∀e∈E,e.f<next.length)->(E.foldl (eS now) next).getD i 0=next.getD i 0\/∃e∈E,e.f=i/\(E.foldl (eS now) next).getD i 0=now.getD e.t 0+e.w
 |[],_,_=>.inl rfl
 |x::E,next,h=>by
  rw[aaG]
  have b:=h x aah
  have c:∀a∈E,a.f<(eS now next x).length:=λa k=>by rw[rh];exact h a (aak _ k)
  rcases xL now i E _ c with h3|⟨e,j,h3,d⟩
  ·rcases LY now next x b i with h5|⟨h5,g⟩
   ·exact .inl (h3.trans h5)
   ·exact .inr ⟨x,aah,h5,h3.trans g⟩
  ·exact .inr ⟨e,aak _ j,h3,d⟩
theorem pI(n i:Nat):(List.replicate n 0).getD i 0=0:=by
 rw[aaj,List.getElem?_replicate]
 split<;>rfl
variable(hE:∀e∈E,e.f<n)
include hE
theorem tM(k:Nat):∀e∈E,(level E n k).getD e.t 0+e.w<=(level E n (k+1)).getD e.f 0:=
 xM _ E _ (by simpa using hE)
theorem ox(k i:Nat):(level E n (k+1)).getD i 0=0\/∃e∈E,e.f=i/\(level E n (k+1)).getD i 0=(level E n k).getD e.t 0+e.w:=by
 have h:=xL (level E n k) i E (List.replicate n 0) (by simpa using hE)
 rw[pI]at h
 exact h
theorem ry:∀(k i:Nat),(level E n k).getD i 0<=(level E n (k+1)).getD i 0
 |0,i=>by rw[level,pI];exact aan _
 |k+1,i=>by
  rcases ox hE k i with h|⟨e,a,rfl,h⟩
  ·rw[h];exact aan _
  ·rw[h]
   exact aai (Nat.add_le_add_right (ry k e.t) _) (tM hE (k+1) e a)
theorem yn{k m:Nat}(h:k<=m)(i:Nat):(level E n k).getD i 0<=(level E n m).getD i 0:=by
 induction m with
 |zero=>rw[Nat.le_zero.1 h];exact aab _
 |succ m ih=>
  rcases aaK m k with h1|h1
  ·rw[show k=m+1 from by omega];exact aab _
  ·exact aai (ih h1) (ry hE m i)
theorem ym{v:List Nat}(a:iM E v):∀(k i:Nat),(level E n k).getD i 0<=v.getD i 0
 |0,i=>by rw[level,pI];exact aan _
 |k+1,i=>by
  rcases ox hE k i with h|⟨e,b,rfl,h⟩
  ·rw[h];exact aan _
  ·rw[h];exact aai (Nat.add_le_add_right (ym a k e.t) _) (a e b)
theorem tL:∀(k i:Nat),(level E n k).getD i 0<=k
 |0,i=>by rw[level,pI];exact aab _
 |k+1,i=>by
  rcases ox hE k i with h|⟨e,a,rfl,h⟩
  ·rw[h];exact aan _
  ·rw[h];have:=tL k e.t;have:e.w<=1:=by unfold Ed.w;split<;>omega
   omega
end
theorem y7:∀(n:Nat) (g:Nat->Nat),(∀j,j<=n->g j<n)->∃a b,a<b/\b<=n/\g a=g b
 |0,g,h=>absurd (h 0 (aab _)) (by omega)
 |n+1,g,h=>by
  by_cases f:∃j,j<=n/\g j=g (n+1)
  ·obtain⟨j,c,e⟩:=f
   exact⟨j,n+1,by omega,aab _,e⟩
  ·have d:∀j,j<=n->g j≠g (n+1):=λj c e=>f ⟨j,c,e⟩
   obtain⟨a,b,i,k,e⟩:=y7 n (λj=>if g j=n then g (n+1)else g j) λj c=>by
    have l:=h j (by omega)
    have m:=h (n+1) (aab _)
    have o:=d j c
    split<;>omega
   refine⟨a,b,i,by omega,?_⟩
   have p:=d a (by omega)
   have q:=d b k
   split at e<;>split at e<;>omega
section
variable{E:List Ed}{n:Nat}(hE:∀e∈E,e.f<n)(hT:∀e∈E,e.t<n)
include hE hT
theorem chain{v:List Nat}(c:iM E v):∀(m i:Nat),i<n->(level E n m).getD i 0<(level E n (m+1)).getD i 0->
  ∃g:Nat->Nat,g 0=i/\(∀j,j<=m+1->g j<n)/\(∀j,j<=m->(level E n (m-j)).getD (g j) 0<(level E n (m+1-j)).getD (g j) 0)/\
   ∀j,j<=m->v.getD (g (j+1)) 0+(level E n (m+1-j)).getD (g j) 0<=v.getD (g j) 0+(level E n (m-j)).getD (g (j+1)) 0
 |0,i,hi,h=>by
  rcases ox hE 0 i with h1|⟨e,a,rfl,h1⟩
  ·omega
  ·refine⟨λj=>if j=0 then e.f else e.t,by simp,λj b=>?_,λj b=>?_,λj b=>?_⟩
   ·simp only;split
    ·exact hi
    ·exact hT e a
   ·rw[show j=0 from by omega];simpa using h
   ·rw[show j=0 from by omega]
    have:=c e a
    simp only[aay,aaQ,aae,Nat.one_ne_zero,aaq]
    rw[h1];omega
 |m+1,i,hi,h=>by
  rcases ox hE (m+1) i with h1|⟨e,a,rfl,h1⟩
  ·omega
  ·have p:=tM hE m e a
   obtain⟨g,d,k,l,o⟩:=chain c m e.t (hT e a) (by omega)
   refine⟨λj=>if j=0 then e.f else g (j-1),by simp,λj b=>?_,λj b=>?_,λj b=>?_⟩
   ·simp only;split
    ·exact hi
    ·exact k _ (by omega)
   ·cases j with
    |zero=>simpa using h
    |succ j=>
     have:=l j (by omega)
     simp only[Nat.succ_ne_zero,aaq,aaU,Nat.add_sub_add_right]
     exact this
   ·cases j with
    |zero=>
     have:=c e a
     simp only[aay,aaQ,aae,Nat.one_ne_zero,aaq,Nat.sub_self]
     rw[h1,d];omega
    |succ j=>
     have:=o j (by omega)
     simp only[Nat.succ_ne_zero,aaq,aaU,Nat.add_sub_add_right]
     exact this
theorem Mk{v:List Nat}(s:iM E v)(m:Nat)(x:m+1=n)(i:Nat)(q:i<n):(level E n (m+1)).getD i 0=(level E n m).getD i 0:=by
 refine aaE (Nat.not_lt.1 λh=>?_) (ry hE m i)
 obtain⟨g,_,l,o,p⟩:=chain hE hT s m i q h
 obtain⟨a,b,u,w,e⟩:=y7 n g λj r=>l j (by omega)
 have f:∀j,a+j<=n->v.getD (g (a+j)) 0+(level E n (m+1-a)).getD (g a) 0<=v.getD (g a) 0+(level E n (m+1-(a+j))).getD (g (a+j)) 0:=by
  intro j
  induction j with
  |zero=>intro _;rw[Nat.add_zero];exact aab _
  |succ j ih=>
   intro r
   have c:=ih (by omega)
   have d:=p (a+j) (by omega)
   rw[show a+(j+1)=a+j+1 from rfl]
   rw[show m+1-(a+j+1)=m-(a+j)from by omega]
   omega
 have c:=f (b-a) (by omega)
 rw[show a+(b-a)=b from by omega, <-e]at c
 have d:=o a (by omega)
 have t:=yn hE (k:=m+1-b) (m:=m-a) (by omega) (g a)
 omega
omit hE hT in
theorem nP{l m:List Nat}(h:l.length=m.length)(b:∀i,i<l.length->l.getD i 0=m.getD i 0):l=m:=by
 refine List.ext_getElem h λi a c=>?_
 have:=b i a
 rw[aaj,aaj,aaD a,aaD c]at this
 simpa using this
omit hT in
theorem yl{m:Nat}(h:level E n (m+1)=level E n m):iM E (level E n m):=λe a=>by
 have:=tM hE m e a
 rwa [h]at this
omit hE hT in
theorem yo{m:Nat}(h:level E n (m+1)=level E n m):∀k,level E n (m+k)=level E n m
 |0=>rfl
 |k+1=>by rw[show m+(k+1)=m+k+1 from rfl,level,yo h k];exact h
theorem ru{v:List Nat}(b:iM E v)(d:0<n):iM E (level E n (n-1))/\(∀k,n-1<=k->level E n k=level E n (n-1))/\(∀i,(level E n (n-1)).getD i 0<n):=by
 have h:level E n (n-1+1)=level E n (n-1):=nP (by rw[kM,kM]) λi a=>Mk hE hT b (n-1) (by omega) i (by rw[kM]at a;exact a)
 refine⟨yl hE h,λk c=>?_,λi=>?_⟩
 ·have:=yo h (k-(n-1))
  rwa [show n-1+(k-(n-1))=k from by omega]at this
 ·have:=tL hE (n-1) i
  omega
def kb(E:List Ed)(n:Nat):Bool:=decide (level E n (n+1)=level E n ((n+1)*(n+1)))&&(level E n (n+1)).all λx=>decide (x<n)
theorem qO(c:0<n):kb E n=true↔∃v,iM E v:=by
 constructor
 ·intro h
  unfold kb at h
  simp only[aaH,aa3]at h
  refine⟨_,yl hE (m:=n+1) (nP (by rw[kM,kM]) λi _=>aaE ?_ (ry hE (n+1) i))⟩
  have a:=yn hE (k:=n+1+1) (m:=(n+1)*(n+1)) (by
   have:(n+1)*(n+1)=n*n+2*n+1:=by rw[Nat.add_mul,Nat.mul_add];omega
   have b:1<=n*n:=Nat.mul_le_mul c c
   omega) i
  rw[<-h.1]at a
  exact a
 ·rintro⟨v,f⟩
  obtain⟨a,b,d⟩:=ru hE hT f c
  unfold kb
  rw[b (n+1) (by omega),b ((n+1)*(n+1)) (by
   have:(n+1)*(n+1)=n*n+2*n+1:=by rw[Nat.add_mul,Nat.mul_add];omega
   omega)]
  simp only[decide_true,Bool.true_and,aa2,aa3]
  intro x g
  obtain⟨i,e,rfl⟩:=List.getElem_of_mem g
  have:=d i
  rw[aaj,aaD e]at this
  exact this
end
section
variable{E:List Ed}{n:Nat}
theorem oL(l:List Nat)(e:Ed):(fT l e).length=l.length:=by unfold fT;split<;>simp
theorem rQ:∀(E:List Ed) (l:List Nat),(pass E l).length=l.length
 |[],_=>rfl
 |e::E,l=>by
  show(pass E (fT l e)).length=_
  rw[rQ E,oL]
theorem r6(l:List Nat)(e:Ed)(b:e.f<l.length)(i:Nat):l.getD i 0<=(fT l e).getD i 0:=by
 unfold fT
 split
 ·rw[nF _ _ _ _ b]
  split
  ·rename_i c a;subst a;omega
  ·exact aab _
 ·exact aab _
theorem Oi(l:List Nat)(e:Ed)(a:e.f<l.length)(now:Nat)(h:now<=l.getD e.t 0):now+e.w<=(fT l e).getD e.f 0:=by
 unfold fT
 split
 ·rw[nF _ _ _ _ a,aac rfl];omega
 ·omega
theorem Og{v l:List Nat}(e:Ed)(b:e.f<l.length)(c:v.getD e.t 0+e.w<=v.getD e.f 0)(h:∀i,l.getD i 0<=v.getD i 0)(i:Nat):(fT l e).getD i 0<=v.getD i 0:=by
 unfold fT
 split
 ·rw[nF _ _ _ _ b]
  split
  ·rename_i a;subst a;have:=h e.t;omega
  ·exact h i
 ·exact h i
theorem uq:∀(E:List Ed) (l:List Nat),(∀e∈E,e.f<l.length)->∀i,l.getD i 0<=(pass E l).getD i 0
 |[],_,_,_=>aab _
 |e::E,l,h,i=>by
  have b:=h e aah
  exact aai (r6 l e b i) (uq E (fT l e) (λa c=>by rw[oL];exact h a (aak _ c)) i)
theorem uu(now:List Nat):∀(E:List Ed) (l:List Nat),(∀e∈E,e.f<l.length)->(∀i,now.getD i 0<=l.getD i 0)->∀e∈E,now.getD e.t 0+e.w<=(pass E l).getD e.f 0
 |[],_,_,_,e,he=>by cases he
 |x::E,l,h,h2,e,he=>by
  have b:=h x aah
  have c:∀a∈E,a.f<(fT l x).length:=λa d=>by rw[oL];exact h a (aak _ d)
  show _<=(pass E (fT l x)).getD e.f 0
  rcases aat.1 he with rfl|he
  ·exact aai (Oi l e b _ (h2 e.t)) (uq E _ c e.f)
  ·exact uu now E _ c (λi=>aai (h2 i) (r6 l x b i)) e he
theorem uo{v:List Nat}:∀(E:List Ed) (l:List Nat),(∀e∈E,e.f<l.length)->iM E v->(∀i,l.getD i 0<=v.getD i 0)->∀i,(pass E l).getD i 0<=v.getD i 0
 |[],_,_,_,h=>h
 |e::E,l,h,hv,h2=>by
  have c:=h e aah
  exact uo E (fT l e) (λa b=>by rw[oL];exact h a (aak _ b)) (λa b=>hv a (aak _ b)) (Og e c (hv e aah) h2)
theorem ur{l:List Nat}(a:∀e∈E,e.f<l.length):pass E l=l↔iM E l:=by
 constructor
 ·intro h e b
  have:=uu l E l a (λ_=>aab _) e b
  rwa [h]at this
 ·intro h
  exact nP (rQ E l) λi _=>aaE (uo E l a h (λ_=>aab _) i) (uq E l a i)
def lq(E:List Ed)(n:Nat):Nat->List Nat
 |0=>List.replicate n 0
 |k+1=>pass E (lq E n k)
theorem oG:∀k,(lq E n k).length=n
 |0=>by simp[lq]
 |k+1=>by rw[lq,rQ,oG k]
theorem yY(a:∀e∈E,e.f<n):∀(k i:Nat),(level E n k).getD i 0<=(lq E n k).getD i 0
 |0,i=>aab _
 |k+1,i=>by
  rcases ox a k i with h|⟨e,b,rfl,h⟩
  ·rw[h];exact aan _
  ·rw[h];exact uu _ E _ (by rw[oG];exact a) (yY a k) e b
theorem uv(a:∀e∈E,e.f<n){v:List Nat}(b:iM E v):∀(k i:Nat),(lq E n k).getD i 0<=v.getD i 0
 |0,i=>by rw[lq,pI];exact aan _
 |k+1,i=>uo E _ (by rw[oG];exact a) b (uv a b k) i
theorem zR:∀(k:Nat) (l:List Nat),(∀e∈E,e.f<l.length)->(¬∃v,iM E v)->settle E k l=none
 |0,_,_,_=>rfl
 |k+1,l,hl,h=>by
  unfold settle
  rw[aaa λa=>h ⟨l,(ur hl).1 a⟩]
  exact zR k _ (by rw[rQ];exact hl) h
theorem zQ(a:∀e∈E,e.f<n){f:List Nat}(b:iM E f)(c:f.length=n)(g:∀v,iM E v->∀i,f.getD i 0<=v.getD i 0)(r:Nat)(o:lq E n r=f):∀(d j:Nat),j+d=r->∀k,d+1<=k->settle E k (lq E n j)=some f
 |0,j,hj,k,hk=>by
  obtain⟨k,rfl⟩:∃k',k=k'+1:=⟨k-1,by omega⟩
  have:lq E n j=f:=by rw[<-o, <-hj];rfl
  unfold settle
  rw[this,aac ((ur (by rw[c];exact a)).2 b)]
 |d+1,j,hj,k,hk=>by
  obtain⟨k,rfl⟩:∃k',k=k'+1:=⟨k-1,by omega⟩
  unfold settle
  split
  ·rename_i h
   have p:=(ur (by rw[oG];exact a)).1 h
   rw[nP (l:=lq E n j) (m:=f) (by rw[oG,c]) λi _=>aaE (uv a b j i) (g _ p i)]
  ·exact zQ a b c g r o d (j+1) (by omega) k (by omega)
theorem Pn(a:∀e∈E,e.f<n)(b:∀e∈E,e.t<n):settle E (n+1) (List.replicate n 0)=if kb E n=true then some (level E n (n+1))else none:=by
 rcases Nat.eq_zero_or_pos n with rfl|hn
 ·have:E=[]:=by
   cases E with
   |nil=>rfl
   |cons e E=>exact absurd (a e aah) (by omega)
  subst this
  simp[settle,pass,kb,level,q9]
 ·by_cases h:∃v,iM E v
  ·rw[aac ((qO a b hn).2 h)]
   obtain⟨v,c⟩:=h
   obtain⟨d,g,k⟩:=ru a b c hn
   rw[g (n+1) (by omega)]
   refine zQ a d (kM _) (λv c i=>ym a c _ i) (n-1) ?_ (n-1) 0 (by omega) (n+1) (by omega)
   exact nP (by rw[oG,kM]) λi _=>aaE (uv a d _ i) (yY a _ i)
  ·rw[aaa λj=>h ((qO a b hn).1 j)]
   exact zR _ _ (by simpa using a) h
end
structure Nd where
 kind:Int
 rel:ByteArray
 dx:ByteArray
 a:Int
 b:Int
def Nd.op(n:Nd):Bool:=n.kind==4||n.kind==5||n.kind==6
def Nd.leaf(W:ByteArray->Bool)(n:Nd):Bool:=
 (n.a==0&&n.b==0)&&(if n.kind=1 then decide (n.rel=⟨#[]⟩)&&decide (n.dx=⟨#[]⟩)else if n.kind=2 then W n.rel&&decide (n.dx=⟨#[]⟩)else if n.kind=3 then W n.rel&&W n.dx else false)
def tree(W:ByteArray->Bool)(l:List Nd)(m:Nat):Option (Nat×Nat):=
 match m with
 |0=>none
 |e+1=>match l[e]? with
  |none=>none
  |some n=>
   if n.op then
    match tree W l e with
    |none=>none
    |some (b,x)=>if h:b<=e then
     match tree W l b with
     |none=>none
     |some (a,y)=>if n.a≠(b:Int)-1\/n.b≠(e:Int)-1\/n.rel≠⟨#[]⟩\/n.dx≠⟨#[]⟩then none else some (a,max x y+1)
     else none
   else if n.leaf W then some (e,1)else none
termination_by m
def fC(W:ByteArray->Bool)(l:List Nd):Nat:=
 match tree W l l.length with
 |none=>0
 |some (b,x)=>if b=0 then x else 0
def gU(W:ByteArray->Bool)(S:List (Nat×Nat))(n:Nd):Option (List (Nat×Nat)):=
 if n.op then
  if n.rel≠⟨#[]⟩\/n.dx≠⟨#[]⟩\/n.b≠(S.length:Int)-1\/n.b<0\/n.a≠(S.length:Int)-1-(S.getD (S.length-1) (0,0)).1\/n.a<0 then none
  else some (S++[((S.getD n.a.toNat (0,0)).1+(S.getD n.b.toNat (0,0)).1+1,max (S.getD n.a.toNat (0,0)).2 (S.getD n.b.toNat (0,0)).2+1)])
 else if n.leaf W then some (S++[(1,1)])else none
def je(W:ByteArray->Bool):List Nd->List (Nat×Nat)->Option (List (Nat×Nat))
 |[],S=>some S
 |n::l,S=>(gU W S n).bind (je W l)
def oh(W:ByteArray->Bool)(l:List Nd):Nat:=
 match je W l []with
 |none=>0
 |some S=>if l=[]\/(S.getD (l.length-1) (0,0)).1≠l.length then 0 else(S.getD (l.length-1) (0,0)).2
section
variable{W:ByteArray->Bool}{l:List Nd}
theorem kT{e:Nat}{n:Nd}(a:l[e]? =some n)(h:n.op=false):tree W l (e+1)=if n.leaf W then some (e,1)else none:=by
 rw[tree];simp only[a,h,aa4,aaq]
theorem ni{e:Nat}{n:Nd}{r:Nat×Nat}(j:l[e]? =some n)(h:n.op=true)(c:tree W l (e+1)=some r):
  ∃b x y,tree W l e=some (b,x)/\b<=e/\tree W l b=some (r.1,y)/\n.a=(b:Int)-1/\n.b=(e:Int)-1/\n.rel=⟨#[]⟩/\n.dx=⟨#[]⟩/\r.2=max x y+1:=by
 rw[tree]at c
 simp only[j,h,aae]at c
 split at c
 ·cases c
 ·rename_i b x g
  split at c
  ·rename_i i
   split at c
   ·cases c
   ·rename_i a y f
    split at c
    ·cases c
    ·rename_i d
     cases c
     simp only[not_or,Decidable.not_not]at d
     exact⟨b,x,y,g,i,f,d.1,d.2.1,d.2.2.1,d.2.2.2,rfl⟩
  ·cases c
theorem Qd{e b x a y:Nat}{n:Nd}(m:l[e]? =some n)(h:n.op=true)(c:tree W l e=some (b,x))(d:b<=e)(f:tree W l b=some (a,y))(g:n.a=(b:Int)-1)(i:n.b=(e:Int)-1)(j:n.rel=⟨#[]⟩)(k:n.dx=⟨#[]⟩):
  tree W l (e+1)=some (a,max x y+1):=by
 rw[tree]
 simp only[m,h,aae,c,d,dif_pos,f]
 rw[aaa]
 simp[g,i,j,k]
theorem ju:∀(m:Nat) (r:Nat×Nat),tree W l m=some r->0<m/\m<=l.length/\r.1<m/\∀i,r.1<=i->i<m->(tree W l (i+1)).isSome=true
 |m,r,h=>by
  cases m with
  |zero=>rw[tree]at h;cases h
  |succ e=>
   cases hn:l[e]? with
   |none=>rw[tree]at h;simp only[hn]at h;cases h
   |some n=>
    have v:=(aaI.1 hn).1
    by_cases c:n.op=true
    ·obtain⟨b,x,y,d,u,f,_⟩:=ni hn c h
     obtain⟨_,_,g,j⟩:=ju e _ d
     obtain⟨_,_,k,o⟩:=ju b _ f
     refine⟨by omega,by omega,by simp only at g k;omega,λi a s=>?_⟩
     by_cases p:i=e
     ·subst p;rw[h];rfl
     ·by_cases q:b<=i
      ·exact j i q (by omega)
      ·exact o i a (by omega)
    ·rw[kT hn (by simpa using c)]at h
     split at h
     ·cases h
      refine⟨by omega,by omega,by simp,λi a s=>?_⟩
      have:i=e:=by simp only at a;omega
      subst this
      rw[kT hn (by simpa using c)]
      rename_i t
      rw[aac t];rfl
     ·cases h
termination_by m=>m
structure DI(W:ByteArray->Bool)(l:List Nd)(S:List (Nat×Nat)):Prop where
 le:S.length<=l.length
 t:∀j,j<S.length->1<=(S.getD j (0,0)).1/\(S.getD j (0,0)).1<=j+1/\tree W l (j+1)=some (j+1-(S.getD j (0,0)).1,(S.getD j (0,0)).2)
theorem La{α:Type}(S:List α)(x d:α)(j:Nat):(S++[x]).getD j d=if j<S.length then S.getD j d else if j=S.length then x else d:=by
 rw[aaj,aaj]
 split
 ·rw[aaR (by assumption)]
 ·rw[aaT (by omega)]
  split
  ·rename_i h;subst h;simp
  ·rename_i h;rw[List.getElem?_eq_none (by simp;omega)];rfl
theorem DI.gq{S:List (Nat×Nat)}(h:DI W l S){s d:Nat}(f:S.length<l.length)(a:1<=s)(b:s<=S.length+1)(c:tree W l (S.length+1)=some (S.length+1-s,d)):DI W l (S++[(s,d)]):=
 ⟨by simp;omega,λj e=>by
  rw[La]
  simp only[aaP,List.length_singleton]at e
  split
  ·exact h.t j (by assumption)
  ·have:j=S.length:=by omega
   subst this
   rw[aac rfl]
   exact⟨a,b,c⟩⟩
theorem DI.step{S S':List (Nat×Nat)}{n:Nd}(h:DI W l S)(d:l[S.length]? =some n)(c:gU W S n=some S'):DI W l S':=by
 have g:=(aaI.1 d).1
 unfold gU at c
 split at c
 ·rename_i e
  split at c
  ·cases c
  ·rename_i f
   cases c
   simp only[not_or,Decidable.not_not,Int.not_lt]at f
   obtain⟨j,k,r,s,u,v⟩:=f
   obtain⟨x,p,i⟩:=h.t (S.length-1) (by omega)
   have w:n.a.toNat=S.length-1-(S.getD (S.length-1) (0,0)).1:=by omega
   have m:n.b.toNat=S.length-1:=by omega
   obtain⟨z,A,q⟩:=h.t n.a.toNat (by omega)
   rw[m]
   rw[show S.length-1+1=S.length from by omega]at i p
   rw[Nat.max_comm]
   refine h.gq g (by omega) (by omega) ?_
   have:=Qd (W:=W) d e i (by omega) (a:=n.a.toNat+1-(S.getD n.a.toNat (0,0)).1) (y:=(S.getD n.a.toNat (0,0)).2) (by rw[<-q];congr 1;omega) (by omega) (by omega) j k
   rw[this]
   congr 2
   omega
 ·rename_i e
  split at c
  ·rename_i o
   cases c
   refine h.gq g (by omega) (by omega) ?_
   rw[kT d (by simpa using e),aac o]
   rfl
  ·cases c
theorem DI.fail{S:List (Nat×Nat)}{n:Nd}(h:DI W l S)(f:l[S.length]? =some n)(a:gU W S n=none):tree W l (S.length+1)=none:=by
 unfold gU at a
 split at a
 ·rename_i c
  split at a
  ·rename_i hc
   cases ht:tree W l (S.length+1)with
   |none=>rfl
   |some r=>
    exfalso
    obtain⟨b,x,y,e,q,g,i,j,k,m,_⟩:=ni f c ht
    obtain⟨u,_,v,_⟩:=ju _ _ e
    obtain⟨w,_,z,_⟩:=ju _ _ g
    obtain⟨s,p,d⟩:=h.t (S.length-1) (by omega)
    rw[show S.length-1+1=S.length from by omega]at d p
    rw[e]at d
    cases d
    rcases hc with hc|hc|hc|hc|hc|hc
    ·exact hc k
    ·exact hc m
    ·exact hc j
    ·omega
    ·refine hc ?_;rw[i];omega
    ·omega
  ·cases a
 ·rename_i c
  split at a
  ·cases a
  ·rename_i o
   rw[kT f (by simpa using c),aaa o]
theorem wJ:∀(k:List Nd) (S:List (Nat×Nat)),DI W l S->l.drop S.length=k->
  (∃S',je W k S=some S'/\DI W l S'/\S'.length=l.length)\/(je W k S=none/\∃i,S.length<=i/\i<l.length/\tree W l (i+1)=none)
 |[],S,h,hk=>.inl ⟨S,rfl,h,aaE h.le (by have:=aaw List.length hk;simp at this;omega)⟩
 |n::k,S,h,hk=>by
  have c:S.length<l.length:=by have:=aaw List.length hk;simp at this;omega
  have a:l[S.length]? =some n:=by
   have:=aaw (λx=>x[0]?) hk
   simpa using this
  unfold je
  cases hs:gU W S n with
  |none=>exact .inr ⟨rfl,S.length,aab _,c,h.fail a hs⟩
  |some S'=>
   have b:=h.step a hs
   have d:S'.length=S.length+1:=by
    unfold gU at hs
    split at hs
    ·split at hs
     ·cases hs
     ·cases hs;simp
    ·split at hs
     ·cases hs;simp
     ·cases hs
   rcases wJ k S' b (by rw[d, <-List.drop_drop,hk];rfl)with⟨T,h1,h2,h3⟩|⟨h1,i,h2,h3,h4⟩
   ·exact .inl ⟨T,h1,h2,h3⟩
   ·exact .inr ⟨h1,i,by omega,h3,h4⟩
theorem BH(W:ByteArray->Bool)(l:List Nd):oh W l=fC W l:=by
 unfold oh fC
 rcases wJ (W:=W) (l:=l) l [] ⟨aan _,λj g=>absurd g (by simp)⟩ rfl with⟨S,a,b,d⟩|⟨a,i,_,b,d⟩
 ·rw[a]
  simp only
  by_cases c:l=[]
  ·subst c;simp[tree]
  ·have n:0<l.length:=Nat.pos_of_ne_zero λh=>c (List.length_eq_zero_iff.1 h)
   obtain⟨o,k,f⟩:=b.t (l.length-1) (by omega)
   rw[show l.length-1+1=l.length from by omega]at f k
   rw[f]
   simp only
   by_cases e:(S.getD (l.length-1) (0,0)).1=l.length
   ·rw[aaa (λh=>h.elim c λh=>h e),aac (by omega)]
   ·rw[aac (.inr e),aaa (by omega)]
 ·rw[a]
  simp only
  cases ht:tree W l l.length with
  |none=>rfl
  |some r=>
   simp only
   split
   ·rename_i m
    have:=(ju _ _ ht).2.2.2 i (by omega) b
    rw[d]at this
    cases this
   ·rfl
end
structure Ty where
 space:ByteArray
 rel:ByteArray
deriving DecidableEq
structure Rl where
 name:ByteArray
 types:List Ty
 nodes:List Nd
structure Sp where
 name:ByteArray
 bU:List Rl
structure Sc where
 name:ByteArray
 jV:ByteArray
 rM:ByteArray
 rel:ByteArray
structure Cf where
 bd:List Sp
 scopes:List Sc
def Cf.all(c:Cf):List (ByteArray×Rl):=c.bd.flatMap λs=>s.bU.map λr=>(s.name,r)
def eg(x:ByteArray×Rl):Ty:=⟨x.1,x.2.name⟩
def bX(l:List (ByteArray×Rl))(t:Ty):Option Nat:=l.findIdx? λx=>decide (eg x=t)
def Cf.dZ(c:Cf):Prop:=(c.bd.map (·.name)).Nodup/\(c.all.map eg).Nodup/\(c.scopes.map (·.name)).Nodup
instance(c:Cf):Decidable c.dZ:=by unfold Cf.dZ;infer_instance
def dE(l:List Ty):List Ty:=l.filter λt=> !decide (t.space=⟨#[]⟩)
def findAll(l:List (ByteArray×Rl)):List Ty->Option (List Nat)
 |[]=>some []
 |t::ts=>(bX l t).bind λi=>(findAll l ts).map (i:: ·)
def targets(l:List (ByteArray×Rl))(sp:ByteArray)(types:List Ty)(n:Nd):Option (List Nat):=
 if n.kind=1 then findAll l (dE types)
 else if n.kind=2 then findAll l [⟨sp,n.rel⟩]
 else if n.kind=3 then
  match bX l ⟨sp,n.rel⟩with
  |none=>none
  |some i=>match (dE ((l.map (·.2.types)).getD i [])).map λt=>(⟨t.space,n.dx⟩:Ty)with
   |[]=>none
   |t::ts=>findAll l (t::ts)
 else some []
def fi(l:List (ByteArray×Rl))(i:Nat)(sp:ByteArray)(r:Rl)(ab:Bool)(n:Nd):Option (List Ed):=(targets l sp r.types n).map λts=>ts.map λt=>⟨i,t,ab⟩
def cat{α β:Type}(f:α->Option (List β)):List α->Option (List β)
 |[]=>some []
 |x::l=>(f x).bind λa=>(cat f l).map (a++ ·)
theorem pb{α β:Type}(f:α->Option (List β)):∀(a b:List α),cat f (a++b)=(cat f a).bind λx=>(cat f b).map (x++ ·)
 |[],b=>by simp[cat]
 |y::a,b=>by
  rw[List.cons_append,cat,pb f a b,cat]
  cases f y with
  |none=>rfl
  |some u=>cases cat f a with
   |none=>rfl
   |some v=>cases cat f b with
    |none=>rfl
    |some w=>simp
def fk(l:List Nd)(m:Nat)(ab:Bool):List (Nat×Bool):=
 match m with
 |0=>[]
 |e+1=>match l[e]? with
  |none=>[]
  |some n=>if n.op then(if h:n.a.toNat+1<=e/\n.b.toNat+1<=e then fk l (n.a.toNat+1) ab++fk l (n.b.toNat+1) (ab||n.kind==6)else [])else [(e,ab)]
termination_by m
def gI(l:List Nd)(out:List Bool)(i:Nat):List Bool:=
 match l[i]? with
 |none=>out
 |some n=>if n.op then(out.set n.a.toNat (out.getD i false)).set n.b.toNat ((out.set n.a.toNat (out.getD i false)).getD i false||n.kind==6)else out
def down(l:List Nd)(lo:Nat):Nat->List Bool->List Bool
 |0,out=>out
 |k+1,out=>down l lo k (gI l out (lo+k))
def mQ(l:List Nd):List Bool:=down l 0 l.length (List.replicate l.length false)
theorem vz(l:List Nd)(out:List Bool)(i:Nat):(gI l out i).length=out.length:=by
 unfold gI
 split
 ·rfl
 ·split<;>simp
theorem qP(l:List Nd)(lo:Nat):∀(k:Nat) (out:List Bool),(down l lo k out).length=out.length
 |0,_=>rfl
 |k+1,out=>by rw[down,qP l lo k,vz]
theorem s5(l:List Nd)(lo p:Nat):∀(q:Nat) (out:List Bool),down l lo (p+q) out=down l lo p (down l (lo+p) q out)
 |0,_=>rfl
 |q+1,out=>by
  rw[show p+(q+1)=p+q+1 from rfl,down,s5 l lo p q,down,aav]
theorem mT(l:List Bool)(i j:Nat)(x:Bool):(l.set i x).getD j false=if i=j/\i<l.length then x else l.getD j false:=by
 rw[aaj,aaj,aa1]
 by_cases h:i=j
 ·subst h
  by_cases a:i<l.length
  ·simp[a]
  ·simp[a]
 ·simp[h]
def nO(l:List Nd)(i:Nat):Bool:=((l[i]?).map λn=> !n.op).getD false
def leaves(l:List Nd)(b k:Nat):List Nat:=(List.range' b k).filter (nO l)
theorem yg(l:List Nd)(b p q:Nat):leaves l b (p+q)=leaves l b p++leaves l (b+p) q:=by
 unfold leaves
 rw[<-List.filter_append]
 congr 1
 have:=List.range'_append (s:=b) (m:=p) (n:=q) (step:=1)
 rw[Nat.one_mul]at this
 exact this.symm
theorem sj{W:ByteArray->Bool}{l:List Nd}:∀(m:Nat) (r:Nat×Nat),tree W l m=some r->∀(out:List Bool),out.length=l.length->
  (∀j,j<r.1\/m<=j+1->(down l r.1 (m-r.1) out).getD j false=out.getD j false)/\
   fk l m (out.getD (m-1) false)=(leaves l r.1 (m-r.1)).map λi=>(i,(down l r.1 (m-r.1) out).getD i false)
 |m,r,h=>by
  intro out ho
  obtain⟨hm0,hml,hrm,_⟩:=ju m r h
  cases m with
  |zero=>omega
  |succ e=>
   have hel:e<l.length:=by omega
   have hn:l[e]? =some l[e]:=aaD hel
   obtain⟨n,hne⟩:∃n,n=l[e]:=⟨_,rfl⟩
   rw[<-hne]at hn
   by_cases hop:n.op=true
   ·obtain⟨b,x,y,h1,h2,h3,ha,hb,_,_,_⟩:=ni hn hop h
    obtain⟨t1,_,t2,_⟩:=ju _ _ h1
    obtain⟨u1,_,u2,_⟩:=ju _ _ h3
    simp only at t2 u2
    have ea:n.a.toNat=b-1:=by omega
    have eb:n.b.toNat=e-1:=by omega
    -- the node, the second operand's, the first one's
    have hd:down l r.1 (e+1-r.1) out=down l r.1 (b-r.1) (down l b (e-b) (gI l out e)):=by
     rw[show e+1-r.1=(b-r.1)+((e-b)+1)from by omega,s5,show r.1+(b-r.1)=b from by omega,down,show b+(e-b)=e from by omega]
    have hs:gI l out e=(out.set (b-1) (out.getD e false)).set (e-1) (out.getD e false||n.kind==6):=by
     unfold gI
     simp only[hn,hop,aae,ea,eb]
     congr 2
     rw[mT,aaa (by omega)]
    have hsl:(gI l out e).length=l.length:=by rw[vz,ho]
    obtain⟨p1,p2⟩:=sj e (b,x) h1 (gI l out e) hsl
    simp only at p1 p2
    have hdl:(down l b (e-b) (gI l out e)).length=l.length:=by rw[qP,hsl]
    obtain⟨q1,q2⟩:=sj b (r.1,y) h3 (down l b (e-b) (gI l out e)) hdl
    simp only at q1 q2
    rw[hd]
    have hse:∀j,j≠b-1->j≠e-1->(gI l out e).getD j false=out.getD j false:=λj j1 j2=>by
     rw[hs,mT,aaa (by omega),mT,aaa (by omega)]
    refine⟨λj hj=>?_,?_⟩
    ·rw[q1 j (by omega),p1 j (by omega),hse j (by omega) (by omega)]
    ·have hw:fk l (e+1) (out.getD (e+1-1) false)=fk l b (out.getD e false)++fk l e (out.getD e false||n.kind==6):=by
      rw[fk]
      simp only[hn,hop,aae,aaU]
      rw[dif_pos (by omega),ea,eb,show b-1+1=b from by omega,show e-1+1=e from by omega]
     have v1:(gI l out e).getD (e-1) false=(out.getD e false||n.kind==6):=by rw[hs,mT,aac ⟨rfl,by simp;omega⟩]
     have v2:(down l b (e-b) (gI l out e)).getD (b-1) false=out.getD e false:=by
      rw[p1 (b-1) (by omega),hs,mT,aaa (by omega),mT,aac ⟨rfl,by omega⟩]
     rw[v1]at p2
     rw[v2]at q2
     rw[hw,p2,q2,show e+1-r.1=(b-r.1)+((e-b)+1)from by omega,yg,yg,show r.1+(b-r.1)=b from by omega,show b+(e-b)=e from by omega,aau,aau]
     have hl0:leaves l e 1=[]:=by
      unfold leaves
      rw[List.range'_one,List.filter_cons_of_neg,List.filter_nil]
      simp[nO,hn,hop]
     rw[hl0,List.map_nil,List.append_nil]
     congr 1
     refine List.map_congr_left λi hi=>?_
     have hi':=(List.mem_filter.1 hi).1
     rw[List.mem_range'_1]at hi'
     rw[q1 i (by omega)]
   ·have hop':n.op=false:=by simpa using hop
    rw[kT hn hop']at h
    split at h
    ·cases h
     simp only
     rw[show e+1-e=0+1 from by omega,down,down]
     have hs:gI l out (e+0)=out:=by unfold gI;simp only[Nat.add_zero,hn,hop',aa4,aaq]
     rw[hs]
     refine⟨λj _=>rfl,?_⟩
     rw[fk]
     simp only[hn,hop',aa4,aaq,aaU]
     unfold leaves
     rw[List.range'_one,List.filter_cons_of_pos,List.filter_nil]
     ·rfl
     ·simp[nO,hn,hop']
    ·cases h
termination_by m=>m
def ls(l:List (ByteArray×Rl))(i:Nat)(sp:ByteArray)(r:Rl):Option (List Ed):=
 if(findAll l (dE r.types)).isSome then cat (λp:Nat×Bool=>(r.nodes[p.1]?).bind λn=>fi l i sp r p.2 n) (fk r.nodes r.nodes.length false)else none
def kN(l:List (ByteArray×Rl))(i:Nat)(sp:ByteArray)(r:Rl):Option (List Ed):=
 if(findAll l (dE r.types)).isSome then cat (λk:Nat=>(r.nodes[k]?).bind λn=>fi l i sp r ((mQ r.nodes).getD k false) n) (List.range' 0 r.nodes.length)else none
theorem P2{l:List (ByteArray×Rl)}{a:ByteArray}{b:List Ty}{n:Nd}(h:n.op=true):targets l a b n=some []:=by
 unfold Nd.op at h
 unfold targets
 rw[aaa (λe=>by simp[e]at h),aaa (λe=>by simp[e]at h),aaa (λe=>by simp[e]at h)]
theorem we{l:List Nd}{β:Type}(f:Nat->Option (List β))(c:∀i,nO l i=false->i<l.length->f i=some []):∀(k b:Nat),b+k<=l.length->cat f (List.range' b k)=cat f (leaves l b k)
 |0,b,_=>rfl
 |k+1,b,h=>by
  unfold leaves
  rw[List.range'_succ,List.filter_cons]
  have a:=we f c k (b+1) (by omega)
  unfold leaves at a
  split
  ·rw[cat,cat,a]
  ·rename_i d
   rw[cat,c b (by simpa using d) (by omega),a]
   cases cat f (List.filter (nO l) (List.range' (b+1) k))<;>rfl
theorem wg{α γ β:Type}(f:α->Option (List β))(g:γ->α):∀l:List γ,cat f (l.map g)=cat (λx=>f (g x)) l
 |[]=>rfl
 |x::l=>by rw[aaA,cat,cat,wg f g l]
theorem N3{W:ByteArray->Bool}{l:List (ByteArray×Rl)}{i:Nat}{e:ByteArray}{r:Rl}(h:fC W r.nodes≠0):kN l i e r=ls l i e r:=by
 unfold kN ls
 split
 ·unfold fC at h
  cases ht:tree W r.nodes r.nodes.length with
  |none=>rw[ht]at h;exact absurd rfl h
  |some p=>
   obtain⟨b,x⟩:=p
   rw[ht]at h
   simp only at h
   have f:b=0:=by
    by_cases d:b=0
    ·exact d
    ·rw[aaa d]at h;exact absurd rfl h
   subst f
   have c:=(sj _ _ ht (List.replicate r.nodes.length false) (by simp)).2
   simp only[aaQ]at c
   rw[show(List.replicate r.nodes.length false).getD (r.nodes.length-1) false=false from by
    rw[aaj,List.getElem?_replicate];split<;>rfl]at c
   rw[c,wg]
   refine we _ (λk a g=>?_) _ 0 (by omega)
   have j:r.nodes[k]? =some r.nodes[k]:=aaD g
   unfold nO at a
   rw[j]at a⊢
   simp only[aaz,Option.getD_some,Bool.not_eq_false']at a
   simp only[aaV,fi,P2 a,aaz,List.map_nil]
 ·rfl
def gZ(W:ByteArray->Bool)(t:Ty):Bool:=decide (t.space=⟨#[]⟩)&&decide (t.rel=⟨#[]⟩)||W t.space&&W t.rel
def mH(W:ByteArray->Bool)(r:Rl):Bool:=W r.name&&fC W r.nodes !=0&&r.types.all (gZ W)
def hG(W:ByteArray->Bool)(r:Rl):Bool:=decide (8<r.types.length)||decide (64<r.nodes.length)||decide (16<fC W r.nodes)
def Cf.lp(W:ByteArray->Bool)(c:Cf):Bool:=decide (16<c.bd.length)||decide (16<c.scopes.length)||c.bd.any λs=>decide (16<s.bU.length)||s.bU.any (hG W)
def ku(W:ByteArray->Bool)(F:ByteArray->ByteArray->Bool)(s:Sc):Bool:=W s.name&&F s.jV s.rM&&W s.rel
def Cf.right(W:ByteArray->Bool)(F:ByteArray->ByteArray->Bool)(c:Cf):Bool:=(c.bd.all λs=>W s.name&&s.bU.all (mH W))&&c.scopes.all (ku W F)&& !c.lp W
def jQ{α:Type}:Nat->List α->List (Nat×α)
 |_,[]=>[]
 |i,x::l=>(i,x)::jQ (i+1) l
theorem tc{α:Type}{x:Nat×α}:∀{l:List α} {i:Nat},x∈jQ i l->i<=x.1/\x.1<i+l.length/\x.2∈l
 |[],_,h=>by cases h
 |y::l,i,h=>by
  rcases aat.1 h with rfl|h
  ·exact⟨aab _,by simp,aah⟩
  ·obtain⟨b,c,a⟩:=tc h
   exact⟨by omega,by simp only[aam];omega,aak _ a⟩
def sh(c:Cf):Bool:=c.scopes.all λs=>(bX c.all ⟨s.jV,s.rel⟩).isSome
def Cf.gz(c:Cf):Option (List Ed):=if sh c then cat (λp:Nat×(ByteArray×Rl)=>ls c.all p.1 p.2.1 p.2.2) (jQ 0 c.all)else none
def Cf.lK(c:Cf):Option (List Ed):=if sh c then cat (λp:Nat×(ByteArray×Rl)=>kN c.all p.1 p.2.1 p.2.2) (jQ 0 c.all)else none
theorem v9{α β:Type}{f g:α->Option (List β)}:∀{l:List α},(∀x∈l,f x=g x)->cat f l=cat g l
 |[],_=>rfl
 |x::l,h=>by rw[cat,cat,h x aah,v9 λy a=>h y (aak _ a)]
theorem sX{α β:Type}{f:α->Option (List β)}{y:β}:∀{l:List α} {o:List β},cat f l=some o->y∈o->∃x∈l,∃u,f x=some u/\y∈u
 |[],o,h,hy=>by cases h;cases hy
 |x::l,o,h,hy=>by
  rw[cat]at h
  cases hx:f x with
  |none=>rw[hx]at h;cases h
  |some u=>
   cases hl:cat f l with
   |none=>rw[hx,hl]at h;cases h
   |some v=>
    rw[hx,hl]at h
    simp only[aaV,aaz,aad]at h
    subst h
    rcases aal.1 hy with hy|hy
    ·exact⟨x,aah,u,hx,hy⟩
    ·obtain⟨z,c,w,a,b⟩:=sX hl hy
     exact⟨z,aak _ c,w,a,b⟩
section
variable{W:ByteArray->Bool}{F:ByteArray->ByteArray->Bool}{c:Cf}
theorem m9(h:c.right W F=true):∀x∈c.all,mH W x.2=true/\hG W x.2=false:=λx a=>by
 unfold Cf.right Cf.lp at h
 simp only[aaH,aa2,Bool.not_eq_true',Bool.or_eq_false_iff,List.any_eq_false]at h
 obtain⟨s,e,a⟩:=List.mem_flatMap.1 a
 obtain⟨r,d,rfl⟩:=aaB.1 a
 have f:=(h.1.1 s e).2 r d
 have b:=h.2.2 s e
 simp only[Bool.not_eq_true,Bool.or_eq_false_iff,List.any_eq_false]at b
 exact⟨f,by simpa using b.2 r d⟩
theorem BW(h:c.right W F=true):c.lK=c.gz:=by
 unfold Cf.lK Cf.gz
 split
 ·refine v9 λp b=>?_
  have a:=(m9 h _ (tc b).2.2).1
  unfold mH at a
  simp only[aaH,bne_iff_ne,ne_eq]at a
  exact N3 a.1.2
 ·rfl
theorem zv{l:List (ByteArray×Rl)}{t:Ty}{i:Nat}(h:bX l t=some i):i<l.length:=by
 unfold bX at h
 exact(List.findIdx?_eq_some_iff_getElem.1 h).1
theorem qW{l:List (ByteArray×Rl)}:∀{ts:List Ty} {o:List Nat},findAll l ts=some o->∀i∈o,i<l.length
 |[],o,h,i,hi=>by cases h;cases hi
 |t::ts,o,h,i,hi=>by
  rw[findAll]at h
  cases h1:bX l t with
  |none=>rw[h1]at h;cases h
  |some j=>
   cases h2:findAll l ts with
   |none=>rw[h1,h2]at h;cases h
   |some v=>
    rw[h1,h2]at h
    simp only[aaV,aaz,aad]at h
    subst h
    rcases aat.1 hi with rfl|hi
    ·exact zv h1
    ·exact qW h2 i hi
theorem P1{l:List (ByteArray×Rl)}{b:ByteArray}{c:List Ty}{n:Nd}{o:List Nat}(h:targets l b c n=some o):∀i∈o,i<l.length:=by
 unfold targets at h
 split at h
 ·exact qW h
 ·split at h
  ·exact qW h
  ·split at h
   ·split at h
    ·cases h
    ·split at h
     ·cases h
     ·exact qW h
   ·cases h;intro i a;cases a
theorem pi{E:List Ed}(h:c.gz=some E):∀e∈E,e.f<c.all.length/\e.t<c.all.length:=λe d=>by
 unfold Cf.gz at h
 split at h
 ·obtain⟨p,l,u,b,g⟩:=sX h d
  have m:=(tc l).2.1
  unfold ls at b
  split at b
  ·obtain⟨q,r,v,a,j⟩:=sX b g
   cases hn:p.2.2.nodes[q.1]? with
   |none=>rw[hn]at a;cases a
   |some n=>
    rw[hn,aaV]at a
    unfold fi at a
    cases ht:targets c.all p.2.1 p.2.2.types n with
    |none=>rw[ht]at a;cases a
    |some o=>
     rw[ht,aaz,aad]at a
     subst a
     obtain⟨i,k,rfl⟩:=aaB.1 j
     exact⟨by simpa using m,P1 ht i k⟩
  ·cases b
 ·cases h
end
def rows:List Sp->List Nat->List (List Nat)
 |[],_=>[]
 |s::l,n=>n.take s.bU.length::rows l (n.drop s.bU.length)
def Cf.numbers(W:ByteArray->Bool)(F:ByteArray->ByteArray->Bool)(c:Cf):Int×List (List Nat):=
 if c.right W F=false then(4,[])else if ¬c.dZ then(10,[])else
 match c.gz with
 |none=>(14,[])
 |some E=>if kb E c.all.length=true then(0,rows c.bd (level E c.all.length (c.all.length+1)))else(15,[])
def Cf.rJ(W:ByteArray->Bool)(F:ByteArray->ByteArray->Bool)(c:Cf):Int×List (List Nat):=
 if c.right W F=false then(4,[])else if ¬c.dZ then(10,[])else
 match c.lK with
 |none=>(14,[])
 |some E=>match settle E (c.all.length+1) (List.replicate c.all.length 0)with
  |none=>(15,[])
  |some n=>(0,rows c.bd n)
theorem Nc(W:ByteArray->Bool)(F:ByteArray->ByteArray->Bool)(c:Cf):c.rJ W F=c.numbers W F:=by
 unfold Cf.rJ Cf.numbers
 split
 ·rfl
 ·rename_i h
  split
  ·rfl
  ·rw[BW (by simpa using h)]
   cases he:c.gz with
   |none=>rfl
   |some E=>
    simp only
    rw[Pn (λe b=>(pi he e b).1) λe b=>(pi he e b).2]
    by_cases a:kb E c.all.length=true
    ·rw[aac a,aac a]
    ·rw[aaa a,aaa a]
def cM:List Sp->Nat->Nat
 |[],_=>0
 |_,0=>0
 |s::l,i+1=>s.bU.length+cM l i
def total(l:List Sp):Nat:=cM l l.length
theorem oX(c:Cf):total c.bd=c.all.length:=by
 unfold Cf.all total
 induction c.bd with
 |nil=>rfl
 |cons s l ih=>rw[aam,cM,ih,aaf,aaP,List.length_map]
theorem oM:∀(l:List Sp) (n:List Nat),(rows l n).length=l.length
 |[],_=>rfl
 |s::l,n=>by rw[rows,aam,oM l,aam]
theorem rL:∀{l:List Sp} {i:Nat} {s:Sp},l[i]? =some s->cM l i+s.bU.length<=total l
 |[],i,s,h=>by simp at h
 |x::l,0,s,h=>by
  simp only[aax,aad]at h
  subst h
  show cM (x::l) 0+_<=x.bU.length+cM l l.length
  simp[cM]
 |x::l,i+1,s,h=>by
  have:=rL (l:=l) (i:=i) (s:=s) (by simpa using h)
  show x.bU.length+cM l i+_<=x.bU.length+cM l l.length
  unfold total at this
  omega
theorem qb:∀{l:List Sp} {n:List Nat} {i:Nat} {s:Sp},l[i]? =some s->(rows l n)[i]? =some ((n.drop (cM l i)).take s.bU.length)
 |[],n,i,s,h=>by simp at h
 |x::l,n,0,s,h=>by
  simp only[aax,aad]at h
  subst h
  rw[rows]
  simp[cM]
 |x::l,n,i+1,s,h=>by
  rw[rows,aaS,qb (l:=l) (n:=n.drop x.bU.length) (by simpa using h),List.drop_drop]
  rfl
theorem zB:∀{l:List Sp} {n:List Nat} {i k x:Nat} {s:Sp},l[i]? =some s->k<s.bU.length->n.length=total l->
  rows l (n.set (cM l i+k) x)=(rows l n).set i (((n.drop (cM l i)).take s.bU.length).set k x)
 |[],n,i,k,x,s,h,_,_=>by simp at h
 |y::l,n,0,k,x,s,h,hk,hn=>by
  simp only[aax,aad]at h
  subst h
  rw[rows,rows,List.set_cons_zero]
  simp only[cM,aay,List.drop_zero]
  rw[List.take_set,List.drop_set_of_lt hk]
 |y::l,n,i+1,k,x,s,h,hk,hn=>by
  have a:l[i]? =some s:=by simpa using h
  have b:(n.drop y.bU.length).length=total l:=by
   rw[aa0,hn]
   show y.bU.length+cM l l.length-y.bU.length=cM l l.length
   omega
  rw[rows,rows,List.set_cons_succ]
  have e:cM (y::l) (i+1)+k=y.bU.length+(cM l i+k):=by show y.bU.length+cM l i+k=_;omega
  rw[e]
  congr 1
  ·rw[List.take_set,List.set_eq_of_length_le]
   rw[aaN];omega
  ·rw[List.drop_set,aaa (by omega),show y.bU.length+(cM l i+k)-y.bU.length=cM l i+k from by omega,zB a hk b,List.drop_drop]
   rfl
theorem zC:∀(l:List Sp),rows l (List.replicate (total l) 0)=l.map λs=>List.replicate s.bU.length 0
 |[]=>rfl
 |s::l=>by
  have e:total (s::l)=s.bU.length+total l:=rfl
  rw[rows,e,aaA]
  congr 1
  ·rw[List.take_replicate];congr 1;omega
  ·rw[List.drop_replicate,show s.bU.length+total l-s.bU.length=total l from by omega,zC l]
theorem vR:∀{l:List Sp} {i k:Nat} {s:Sp} {r:Rl},l[i]? =some s->s.bU[k]? =some r->(l.flatMap λs=>s.bU.map λr=>(s.name,r))[cM l i+k]? =some (s.name,r)
 |[],i,k,s,r,h,_=>by simp at h
 |x::l,0,k,s,r,h,hr=>by
  simp only[aax,aad]at h
  subst h
  have a:=(aaI.1 hr).1
  rw[aaf,aaR (by simp[cM];exact a),cM,aay,List.getElem?_map,hr]
  ·rfl
  ·simp
 |x::l,i+1,k,s,r,h,hr=>by
  rw[aaf,aaT (by rw[List.length_map];show _<=x.bU.length+cM l i+k;omega),List.length_map]
  show(List.flatMap _ l)[x.bU.length+cM l i+k-x.bU.length]? =_
  rw[show x.bU.length+cM l i+k-x.bU.length=cM l i+k from by omega]
  exact vR (by simpa using h) hr
def lv(i:Nat)(sp:ByteArray):Nat->List Rl->List (Ty×(Nat×Nat))
 |_,[]=>[]
 |k,r::rs=>(⟨sp,r.name⟩,(i,k))::lv i sp (k+1) rs
def gG:Nat->List Sp->List (Ty×(Nat×Nat))
 |_,[]=>[]
 |i,s::l=>lv i s.name 0 s.bU++gG (i+1) l
theorem uN(i:Nat)(a:ByteArray):∀(rs:List Rl) (k:Nat),(lv i a k rs).map (·.1)=rs.map λr=>eg (a,r)
 |[],_=>rfl
 |r::rs,k=>by rw[lv,aaA,aaA,uN i a rs];rfl
theorem uO:∀(l:List Sp) (i:Nat),(gG i l).map (·.1)=(l.flatMap λs=>s.bU.map λr=>(s.name,r)).map eg
 |[],_=>rfl
 |s::l,i=>by
  rw[gG,aau,aaf,aau,uO l,uN,List.map_map]
  rfl
theorem z0(i:Nat)(a:ByteArray):∀{rs:List Rl} {k j:Nat} {x:Ty×(Nat×Nat)},(lv i a k rs)[j]? =some x->∃r,rs[j]? =some r/\x=(⟨a,r.name⟩,(i,k+j))
 |[],k,j,x,h=>by simp[lv]at h
 |r::rs,k,0,x,h=>by
  rw[lv,aax,aad]at h
  exact⟨r,rfl,h.symm⟩
 |r::rs,k,j+1,x,h=>by
  rw[lv,aaS]at h
  obtain⟨q,b,c⟩:=z0 i a h
  exact⟨q,by simpa using b,by rw[c,show k+1+j=k+(j+1)from by omega]⟩
theorem n4(i:Nat)(a:ByteArray)(rs:List Rl)(k:Nat):(lv i a k rs).length=rs.length:=by
 have:=aaw List.length (uN i a rs k)
 simpa using this
theorem z5:∀{l:List Sp} {b j:Nat} {x:Ty×(Nat×Nat)},(gG b l)[j]? =some x->∃i k s r,x=(⟨s.name,r.name⟩,(b+i,k))/\l[i]? =some s/\s.bU[k]? =some r/\j=cM l i+k
 |[],b,j,x,h=>by simp[gG]at h
 |s::l,b,j,x,h=>by
  rw[gG]at h
  by_cases e:j<s.bU.length
  ·rw[aaR (by rw[n4];exact e)]at h
   obtain⟨r,a,c⟩:=z0 b s.name h
   exact⟨0,j,s,r,by rw[c,aay,Nat.add_zero],rfl,a,by simp[cM]⟩
  ·rw[aaT (by rw[n4];omega),n4]at h
   obtain⟨i,k,f,r,a,c,d,g⟩:=z5 h
   refine⟨i+1,k,f,r,by rw[a,show b+1+i=b+(i+1)from by omega],by simpa using c,d,?_⟩
   show j=s.bU.length+cM l i+k
   omega
def look(t:Ty)(M:List (Ty×(Nat×Nat))):Option (Nat×Nat):=(M.find? λx=>decide (x.1=t)).map (·.2)
theorem xq{α β:Type}(f:α->β)(p:β->Bool):∀{l:List α} {m:List β},l.map f=m->(∀x,l.find? (λx=>p (f x))=some x->∃j,m.findIdx? p=some j/\l[j]? =some x)/\(l.find? (λx=>p (f x))=none->m.findIdx? p=none)
 |[],m,h=>by
  subst h
  exact⟨λx h=>(by cases h),λ_=>rfl⟩
 |y::l,m,h=>by
  subst h
  obtain⟨a,b⟩:=xq f p (l:=l) rfl
  rw[aaA,List.find?_cons,List.findIdx?_cons]
  cases hp:p (f y)with
  |true=>
   refine⟨λx h=>?_,λh=>(by simp at h)⟩
   simp only[aad]at h
   subst h
   exact⟨0,by simp,rfl⟩
  |false=>
   refine⟨λx h=>?_,λh=>?_⟩
   ·obtain⟨j,c,d⟩:=a x h
    exact⟨j+1,by simp[c],by simpa using d⟩
   ·simp[b h]
theorem Mo(c:Cf)(t:Ty):
  match look t (gG 0 c.bd)with
  |none=>bX c.all t=none
  |some (i,k)=>bX c.all t=some (cM c.bd i+k)/\∃s r,c.bd[i]? =some s/\s.bU[k]? =some r/\(⟨s.name,r.name⟩:Ty)=t:=by
 have n:=uO c.bd 0
 obtain⟨a,b⟩:=xq (λx:Ty×(Nat×Nat)=>x.1) (λu=>decide (u=t)) n
 have o:∀(l:List (ByteArray×Rl)),(l.map eg).findIdx? (λu=>decide (u=t))=bX l t:=λl=>by
  unfold bX
  rw[List.findIdx?_map]
  rfl
 rw[o]at a b
 unfold look
 cases hf:(gG 0 c.bd).find? λx=>decide (x.1=t)with
 |none=>exact b hf
 |some x=>
  obtain⟨j,d,e⟩:=a x hf
  obtain⟨i,k,s,r,f,g,h,m⟩:=z5 e
  subst f
  simp only[aaz,aay]
  refine⟨?_,s,r,g,h,?_⟩
  ·rw[<-m];exact d
  ·have:=List.find?_some hf
   simpa using this
theorem OS.congr{α β:Type}{E sz:Nat}{enc:α->List Value}{a:β->List Value}{v:Value}{xs:List α}{ys:List β}{T:aH}(h:OS E sz enc v xs T)(j:ys.map a=xs.map enc):OS E sz a v ys T:=by
 have l:ys.length=xs.length:=by simpa using aaw List.length j
 have r:ys.flatMap a=xs.flatMap enc:=by rw[List.flatMap_def,List.flatMap_def,j]
 have m:∀y∈ys,∃x∈xs,a y=enc x:=λy f=>by
  have:a y∈xs.map enc:=j▸aas f
  obtain⟨x,d,e⟩:=aaB.1 this
  exact⟨x,d,e.symm⟩
 refine⟨λy f=>?_,λy f=>?_,?_⟩
 ·obtain⟨x,d,e⟩:=m y f;rw[e];exact h.len x d
 ·obtain⟨x,d,e⟩:=m y f;rw[e];exact h.one x d
 ·rcases h.h with⟨g,i,k⟩|⟨b,s,c,n,g,i,k,o,p,q⟩
  ·exact .inl ⟨g,List.length_eq_zero_iff.1 (by rw[l,i];rfl),k⟩
  ·exact .inr ⟨b,s,c,n,by rw[l];exact g,i,by omega,o,p,by rw[r];exact q⟩
def gJ(s:ByteArray)(i:Nat):UInt8:=s.data.getD i 0
def oN(s:ByteArray)(p:UInt8->Bool):Nat->Nat->Nat
 |0,i=>i
 |f+1,i=>if i<s.size&&p (gJ s i)then oN s p f (i+1)else i
def run(s:ByteArray)(p:UInt8->Bool)(i:Nat):Nat:=oN s p (s.size-i) i
structure ny(s:ByteArray)(p:UInt8->Bool)(i j:Nat):Prop where
 le:i<=j
 sz:j<=s.size
 all:∀k,i<=k->k<j->p (gJ s k)=true
 stop:j=s.size\/p (gJ s j)=false
theorem ny.dZ{s:ByteArray}{p:UInt8->Bool}{i j k:Nat}(h:ny s p i j)(a:ny s p i k):j=k:=by
 rcases Nat.lt_trichotomy j k with h1|h1|h1
 ·have:=a.all j h.le h1
  rcases h.stop with h2|h2
  ·have:=a.sz;omega
  ·rw[h2]at this;cases this
 ·exact h1
 ·have:=h.all k a.le h1
  rcases a.stop with h2|h2
  ·have:=h.sz;omega
  ·rw[h2]at this;cases this
theorem zD{s:ByteArray}{p:UInt8->Bool}:∀(f i:Nat),i<=s.size->s.size<=i+f->ny s p i (oN s p f i)
 |0,i,h,hf=>⟨aab _,h,λk h1 a=>absurd a (by rw[oN];omega),.inl (by rw[oN];omega)⟩
 |f+1,i,h,hf=>by
  rw[oN]
  split
  ·rename_i b
   simp only[aaH,aa3]at b
   have c:=zD (s:=s) (p:=p) f (i+1) (by omega) (by omega)
   refine⟨by have:=c.le;omega,c.sz,λk h1 a=>?_,c.stop⟩
   by_cases e:k=i
   ·rw[e];exact b.2
   ·exact c.all k (by omega) a
  ·rename_i b
   refine⟨aab _,h,λk h1 a=>absurd a (by omega),?_⟩
   rcases aaK i s.size with h1|h1
   ·right
    cases hp:p (gJ s i)with
    |false=>rfl
    |true=>exact absurd (by simp[h1,hp]) b
   ·exact .inl (by omega)
theorem OP{s:ByteArray}{p:UInt8->Bool}{i:Nat}(h:i<=s.size):ny s p i (run s p i):=zD _ _ h (by omega)
theorem ny.run{s:ByteArray}{p:UInt8->Bool}{i j:Nat}(h:ny s p i j):j=run s p i:=h.dZ (OP (aai h.le h.sz))
def two(s:ByteArray)(i:Nat)(a b:UInt8):Bool:=decide (i+2<=s.size)&&decide (gJ s i=a)&&decide (gJ s (i+1)=b)
end
end Go.Proofs.YtenilfmlfldogaaGreatDoor

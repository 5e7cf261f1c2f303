/- What the law 'SolveRounds' uses. No condition. -/
import Derived.KernelRfl
import Derived.LaidEql
import Derived.Laws.StructEq
import Derived.OrdersHeld
import Derived.Shelf.Abstract
import Derived.Still
import Derived.StillTail
import Derived.Tactics
import GoSem.ClaimData
set_option linter.unusedVariables false
namespace Go.Proofs.YtdljmchhecoakaaGreat
set_option linter.defProp false
def aaa:=@if_neg
def aab:=@Nat.le_refl
def aac:=@if_pos
def aad:=@Option.some.injEq
def aae:=@if_true
def aaf:=@List.flatMap_cons
def aag:=@Nat.succ_mul
def aah:=@List.mem_cons_self
def aai:=@Nat.le_trans
def aaj:=@List.getD_eq_getElem?_getD
def aak:=@List.mem_cons_of_mem
def aal:=@List.mem_append
def aam:=@List.length_cons
def aan:=@Bool.and_eq_true
def aao:=@Nat.zero_le
def aap:=@List.flatten_cons
def aaq:=@List.mem_append_left
def aar:=@if_false
def aas:=@Option.map_some
def aat:=@Nat.lt_or_ge
def aau:=@Nat.le_of_ble_eq_true
def aav:=@List.mem_map_of_mem
def aaw:=@List.mem_cons
def aax:=@List.map_append
def aay:=@Nat.add_assoc
def aaz:=@congrArg
def aaA:=@List.mem_of_mem_drop
def aaB:=@List.getElem?_cons_zero
def aaC:=@Nat.zero_add
def aaD:=@Nat.le_antisymm
def aaE:=@decide_eq_true_eq
def aaF:=@List.map_cons
def aaG:=@List.mem_map
def aaH:=@List.flatten_append
def aaI:=@List.mem_of_mem_take
def aaJ:=@List.getElem?_eq_getElem
def aaK:=@List.foldl_cons
def aaL:=@List.getElem?_eq_some_iff
def aaM:=@Nat.eq_of_beq_eq_true
def aaN:=@List.nodup_append
def aaO:=@List.mem_append_right
def aaP:=@List.length_take
def aaQ:=@List.length_append
def aaR:=@Nat.sub_zero
def aaS:=@List.getElem?_append_left
def aaT:=@List.getElem?_cons_succ
def aaU:=@List.getElem?_append_right
def aaV:=@Nat.add_sub_cancel
def aaW:=@Option.bind_some
def aaX:=@List.map_toArray
def aaY:=@Array.getElem?_setIfInBounds_ne
def aaZ:=@Array.getElem?_push
def aa0:=@List.append_assoc
def aa1:=@List.length_drop
def aa2:=@List.getElem?_set
def aa3:=@List.all_eq_true
def aa4:=@Bool.false_eq_true
def aa5:=@Array.getElem?_setIfInBounds
section
abbrev nT:=Nat×Obj
abbrev ap:=List nT
abbrev aG:=List ap
abbrev Env:=List (Nat×Value)
abbrev aw:=Nat->Obj->Prop
def Env.get? :Env->Nat->Option Value
 |[],_=>none
 |(k,v)::r,t=>match Nat.beq k t with
  |true=>some v
  |false=>Env.get? r t
def ev(env:Env):Operand->Option Value
 | .tmp t=>env.get? t
 | .const v=>some v
 | .global g=>some (.pointer (some ⟨g,0,none⟩))
 | .func f=>some (.func (.func f) #[] #[])
def gl(env:Env):List Operand->Option (List Value)
 |[]=>some []
 |x::r=>match ev env x,gl env r with
  |some v,some vs=>some (v::vs)
  |_,_=>none
def dP(a:Act)(env:Env):Prop:=∀t v,env.get? t=some v->a.tmps[t]? =some v
theorem dP.eval{a:Act}{env:Env}(h:dP a env){x:Operand}{v:Value}(b:ev env x=some v):a.eval x=v:=by
 cases x with
 |tmp t=>have:=h t v b;simp[Act.eval,this]
 |const u=>simpa[ev,Act.eval]using b
 |global g=>simpa[ev,Act.eval]using b
 |func f=>simpa[ev,Act.eval]using b
theorem dP.wo{a:Act}{env:Env}(h:dP a env):∀{xs:List Operand} {vs:List Value},gl env xs=some vs->xs.map a.eval=vs
 |[],vs,hx=>by simp[gl]at hx;simp[hx]
 |x::r,vs,hx=>by
  simp only[gl]at hx
  split at hx
  ·rename_i v d b c
   simp only[aad]at hx
   subst hx
   simp[h.eval b,h.wo c]
  ·cases hx
theorem dP.oa{a:Act}{env:Env}(h:dP a env){xs:List Operand}{vs:List Value}(b:gl env xs=some vs):xs.toArray.map a.eval=vs.toArray:=by
 rw[aaX,h.wo b]
theorem dP.put{a:Act}{env:Env}(h:dP a env){d:Nat}{v:Value}(e:d<a.tmps.size):dP (a.put (some d) v) ((d,v)::env):=by
 intro t u b
 simp only[Env.get?]at b
 by_cases c:d=t
 ·subst c
  have:Nat.beq d d=true:=Nat.beq_refl d
  rw[this]at b
  simp only[aad]at b
  subst b
  simp[Act.put,e]
 ·have:Nat.beq d t=false:=by
   cases hb:Nat.beq d t with
   |false=>rfl
   |true=>exact absurd (aaM hb) c
  rw[this]at b
  have:=h t u b
  simp[Act.put,aaY c,this]
def Sat(w:World)(H:aG):Prop:=(H.flatten.map (·.1)).Nodup/\∀p∈H.flatten,w.heap[p.1]? =some p.2
def RO(w:World)(R:aw)(H:aG):Prop:=∀b o,R b o->w.heap[b]? =some o/\∀p∈H.flatten,p.1≠b
structure Frame(w:World)(H:aG)(w':World)(H':aG):Prop where
 le:w.heap.size<=w'.heap.size
 ga:∀b,b<w.heap.size->(∀p∈H.flatten,p.1≠b)->w'.heap[b]? =w.heap[b]?
 jq:∀p∈H'.flatten,(∃q∈H.flatten,q.1=p.1)\/w.heap.size<=p.1
 os:w'.os=w.os
 output:w'.output=w.output
 tape:w'.tape=w.tape
theorem Frame.refl(w:World)(H:aG):Frame w H w H:=
 ⟨aab _,λ_ _ _=>rfl,λp a=>.inl ⟨p,a,rfl⟩,rfl,rfl,rfl⟩
theorem Frame.trans{w g i:World}{H H' f:aG}(h:Frame w H g H')(a:Frame g H' i f):Frame w H i f where
 le:=aai h.le a.le
 ga b hb hn:=by
  rw[a.ga b (Nat.lt_of_lt_of_le hb h.le) ?_,h.ga b hb hn]
  intro p c j
  rcases h.jq p c with⟨q,d,e⟩|hge
  ·exact hn q d (e.trans j)
  ·omega
 jq p c:=by
  rcases a.jq p c with⟨q,d,e⟩|hge
  ·rcases h.jq q d with⟨r,k,l⟩|hge
   ·exact .inl ⟨r,k,l.trans e⟩
   ·exact .inr (by omega)
  ·exact .inr (aai h.le hge)
 os:=a.os.trans h.os
 output:=a.output.trans h.output
 tape:=a.tape.trans h.tape
structure St(N:Nat)(R:aw)(a:Act)(w:World)(env:Env)(H:aG)(w0:World)(H0:aG):Prop where
 defers:a.defers=[]
 size:a.tmps.size=N
 env:dP a env
 sat:Sat w H
 ro:RO w R H
 fr:Frame w0 H0 w H
theorem nk{w:World}{b:Nat}{o:Obj}(h:w.heap[b]? =some o):b<w.heap.size:=by
 rcases aat b w.heap.size with h'|h'
 ·exact h'
 ·rw[Array.getElem?_eq_none h']at h;cases h
theorem RO.frame{w d:World}{R:aw}{H H':aG}(h:RO w R H)(f:Frame w H d H'):RO d R H':=by
 intro b o e
 obtain⟨a,c⟩:=h b o e
 have i:=nk a
 refine⟨by rw[f.ga b i c];exact a,λp j g=>?_⟩
 rcases f.jq p j with⟨q,k,l⟩|hge
 ·exact c q k (l.trans g)
 ·omega
theorem St.step{N:Nat}{R:aw}{a:Act}{w b:World}{env:Env}{H H':aG}{d:World}{c:aG}(s:St N R a w env H d c)(f:Frame w H b H')(e:Sat b H'):St N R a b env H' d c:=
 ⟨s.defers,s.size,s.env,e,s.ro.frame f,s.fr.trans f⟩
theorem St.put{N:Nat}{R:aw}{a:Act}{w:World}{env:Env}{H:aG}{c:World}{b:aG}(s:St N R a w env H c b){d:Nat}(v:Value)(e:Nat.blt d N=true):St N R (a.put (some d) v) w ((d,v)::env) H c b:=
 ⟨s.defers,by simp[Act.put,s.size],s.env.put (by rw[s.size];exact aau e),s.sat,s.ro,s.fr⟩
theorem Frame.drew(w:World)(H:aG)(n:Nat):Frame w H {w with drawn:=n} H:=
 ⟨aab _,λ_ _ _=>rfl,λp a=>.inl ⟨p,a,rfl⟩,rfl,rfl,rfl⟩
theorem Sat.drew{w:World}{H:aG}(h:Sat w H)(n:Nat):Sat {w with drawn:=n} H:=h
theorem qv(w:World)(o:Obj):(w.alloc o).heap=w.heap.push o:=rfl
theorem Frame.alloc(w:World)(H:aG)(o:Obj):Frame w H (w.alloc o) ([(w.heap.size,o)]::H) where
 le:=by rw[qv,Array.size_push];omega
 ga b hb _:=by rw[qv,aaZ,aaa (Nat.ne_of_lt hb)]
 jq p hp:=by
  simp only[aap,aal,List.mem_singleton]at hp
  rcases hp with rfl|hp
  ·exact .inr (aab _)
  ·exact .inl ⟨p,hp,rfl⟩
 os:=rfl
 output:=rfl
 tape:=rfl
theorem Sat.alloc{w:World}{H:aG}(h:Sat w H)(o:Obj):Sat (w.alloc o) ([(w.heap.size,o)]::H):=by
 have a:∀p∈H.flatten,p.1<w.heap.size:=λp hp=>nk (h.2 p hp)
 refine⟨?_,λp hp=>?_⟩
 ·simp only[aap,List.cons_append,List.nil_append,aaF,List.nodup_cons]
  refine⟨λb=>?_,h.1⟩
  obtain⟨p,hp,c⟩:=aaG.1 b
  have:=a p hp
  omega
 ·simp only[aap,aal,List.mem_singleton]at hp
  rcases hp with rfl|hp
  ·rw[qv,aaZ,aac rfl]
  ·have:=a p hp
   rw[qv,aaZ,aaa (Nat.ne_of_lt this),h.2 p hp]
def eu(w:World)(b:Nat)(o:Obj):World:={w with heap:=w.heap.setIfInBounds b o}
theorem Sat.set{w:World}{H1 H2:aG}{T1 T2:ap}{b:Nat}{o o':Obj}(h:Sat w (H1++(T1++(b,o)::T2)::H2)):Sat (eu w b o') (H1++(T1++(b,o')::T2)::H2):=by
 obtain⟨d,i⟩:=h
 have e:∀o:Obj,((H1++(T1++(b,o)::T2)::H2).flatten.map (·.1))=(H1.flatten.map (·.1)++T1.map (·.1))++b::(T2.map (·.1)++H2.flatten.map (·.1)):=λo=>by
  simp
 rw[e]at d
 refine⟨by rw[e];exact d,λp hp=>?_⟩
 have k:w.heap[b]? =some o:=i (b,o) (by simp)
 have l:=nk k
 have m:∀q:nT,q∈H1.flatten\/q∈T1\/q∈T2\/q∈H2.flatten->q.1≠b:=by
  intro q hq c
  rw[aaN]at d
  obtain⟨_,a,g⟩:=d
  rcases hq with hq|hq|hq|hq
  ·exact g q.1 (aaq _ (aav hq)) b (by simp) c
  ·exact g q.1 (aaO _ (aav hq)) b (by simp) c
  ·exact(List.nodup_cons.1 a).1 (aaq _ (c▸aav hq))
  ·exact(List.nodup_cons.1 a).1 (aaO _ (c▸aav hq))
 simp only[aaH,aap,aal,aaw]at hp
 have f:∀q:nT,q∈H1.flatten\/q∈T1\/q∈T2\/q∈H2.flatten->(eu w b o').heap[q.1]? =some q.2:=λq hq=>by
  have j:=m q hq
  have a:w.heap[q.1]? =some q.2:=i q (by
   simp only[aaH,aap,aal,aaw]
   rcases hq with hq|hq|hq|hq
   ·exact .inl hq
   ·exact .inr (.inl (.inl hq))
   ·exact .inr (.inl (.inr (.inr hq)))
   ·exact .inr (.inr hq))
  simp[eu,aaY (Ne.symm j),a]
 rcases hp with hp|(hp|rfl|hp)|hp
 ·exact f p (.inl hp)
 ·exact f p (.inr (.inl hp))
 ·simp[eu,l]
 ·exact f p (.inr (.inr (.inl hp)))
 ·exact f p (.inr (.inr (.inr hp)))
theorem Frame.set{w:World}{H1 H2:aG}{T1 T2:ap}{b:Nat}{o o':Obj}:Frame w (H1++(T1++(b,o)::T2)::H2) (eu w b o') (H1++(T1++(b,o')::T2)::H2) where
 le:=by simp[eu]
 ga c hc hn:=by
  have:b≠c:=λa=>hn (b,o) (by simp) a
  simp[eu,aaY this]
 jq p hp:=by
  simp only[aaH,aap,aal,aaw]at hp
  rcases hp with hp|(hp|rfl|hp)|hp
  ·exact .inl ⟨p,by simp[hp],rfl⟩
  ·exact .inl ⟨p,by simp[hp],rfl⟩
  ·exact .inl ⟨(b,o),by simp,rfl⟩
  ·exact .inl ⟨p,by simp[hp],rfl⟩
  ·exact .inl ⟨p,by simp[hp],rfl⟩
 os:=rfl
 output:=rfl
 tape:=rfl
def bo(H H':aG):Prop:=∃G:ap,H.flatten.Perm (H'.flatten++G)
theorem bo.refl(H:aG):bo H H:=⟨[],by simp⟩
theorem bo.sat{H H':aG}(h:bo H H'){w:World}(s:Sat w H):Sat w H':=by
 obtain⟨G,a⟩:=h
 refine⟨?_,λp b=>s.2 p (a.mem_iff.2 (aaq _ b))⟩
 have:=(a.map (·.1)).nodup_iff.1 s.1
 rw[aax]at this
 exact(aaN.1 this).1
theorem bo.frame{H H':aG}(h:bo H H')(w:World):Frame w H w H':=by
 obtain⟨G,b⟩:=h
 exact⟨aab _,λ_ _ _=>rfl,λp a=>.inl ⟨p,b.mem_iff.2 (aaq _ a),rfl⟩,rfl,rfl,rfl⟩
def pick:List Nat->aG->aG
 |[],_=>[]
 |i::is,H=>(H.getD i [])::pick is H
def bJ:Nat->aG->aG
 |_,[]=>[]
 |0,_::r=>r
 |i+1,T::r=>T::bJ i r
def rest:List Nat->aG->aG
 |[],H=>H
 |i::is,H=>rest is (bJ i H)
def take:List Nat->aG->aG
 |[],_=>[]
 |i::is,H=>(H.getD i [])::take is (bJ i H)
theorem vZ:∀(i:Nat) (H:aG),H.flatten.Perm (H.getD i []++(bJ i H).flatten)
 |_,[]=>by simp[bJ]
 |0,T::r=>by simp[bJ]
 |i+1,T::r=>by
  have:=vZ i r
  simp only[aap,bJ,List.getD_cons_succ]
  refine(this.append_left T).trans ?_
  rw[<-aa0, <-aa0]
  exact(List.perm_append_comm).append_right _
theorem lY:∀(is:List Nat) (H:aG),H.flatten.Perm ((take is H).flatten++(rest is H).flatten)
 |[],H=>by simp[take,rest]
 |i::is,H=>by
  have a:=vZ i H
  have b:=lY is (bJ i H)
  simp only[take,rest,aap,aa0]
  exact a.trans (b.append_left _)
theorem bo.pick(is:List Nat)(H:aG):bo H (take is H):=⟨(rest is H).flatten,lY is H⟩
theorem bo.drop(is:List Nat)(H:aG):bo H (rest is H):=⟨(take is H).flatten,(lY is H).trans List.perm_append_comm⟩
theorem Sat.perm{w:World}{H H':aG}(a:H.flatten.Perm H'.flatten)(s:Sat w H):Sat w H':=
 ⟨((a.map (·.1)).nodup_iff).1 s.1,λp b=>s.2 p (a.mem_iff.2 b)⟩
def bq(P:Program)(N:Nat)(R:aw)(c:Code)(env:Env)(H:aG)(Q:Exit->Env->aG->Prop):Prop:=
 ∀(Q':Exit->Act->World->Prop) (w0:World) (H0:aG),(∀e env' H' a' w',Q e env' H'->St N R a' w' env' H' w0 H0->Q' e a' w')->
  ∀a w,St N R a w env H w0 H0->c.wp P Q' a w
def Spec(P:Program)(f:FuncId)(args:List Value)(R:aw)(H:aG)(Post:Value->aG->Prop):Prop:=
 ∀w,Sat w H->RO w R H->Calls P f args.toArray w λe w'=>∃v H',e=.returned v/\Post v H'/\Sat w' H'/\Frame w H w' H'
theorem Spec.mono{P:Program}{f:FuncId}{b:List Value}{R:aw}{H:aG}{Post a:Value->aG->Prop}(h:Spec P f b R H Post)(e:∀v H',Post v H'->a v H'):Spec P f b R H a:=
 λw j i=>(h w j i).mono λ_ _ ⟨v,H',c,g,k,d⟩=>⟨v,H',c,e _ _ g,k,d⟩
theorem Spec.weaken{P:Program}{f:FuncId}{a:List Value}{R R':aw}{H:aG}{Post:Value->aG->Prop}(h:Spec P f a R' H Post)(d:∀b o,R' b o->R b o):Spec P f a R H Post:=
 λw g e=>h w g λb o c=>e b o (d b o c)
section rules
variable{P:Program}{N:Nat}{R:aw}{env:Env}{H:aG}{Q:Exit->Env->aG->Prop}
def jW(P:Program)(N:Nat)(R:aw)(y:Code)(Q:Exit->Env->aG->Prop):Exit->Env->aG->Prop
 | .normal,env,H=>bq P N R y env H Q
 |e,env,H=>Q e env H
def ml(id:Nat)(Q:Exit->Env->aG->Prop):Exit->Env->aG->Prop
 | .exit id',env,H=>if id'=id then Q .normal env H else Q (.exit id') env H
 |e,env,H=>Q e env H
def py(I:Env->aG->Prop)(Q:Exit->Env->aG->Prop):Exit->Env->aG->Prop
 | .normal,env,H=>I env H
 |e,env,H=>Q e env H
theorem bq.seq{x y:Code}(h:bq P N R x env H (jW P N R y Q)):bq P N R (.seq x y) env H Q:=
 λi g b c a w s=>wp_seq (h _ g b (λe m l j k d f=>by
  cases e with
  |normal=>exact d i g b c j k f
  |_=>exact c _ _ _ _ _ d f) a w s)
theorem bq.skip(h:Q .normal env H):bq P N R .skip env H Q:=λ_ _ _ b a w s=>wp_skip (b _ _ _ _ _ h s)
theorem bq.exit{id:Nat}(h:Q (.exit id) env H):bq P N R (.exit id) env H Q:=λ_ _ _ b a w s=>wp_exit (b _ _ _ _ _ h s)
theorem bq.ret(h:Q .ret env H):bq P N R .ret env H Q:=λ_ _ _ b a w s=>wp_ret (b _ _ _ _ _ h s)
theorem bq.block{id:Nat}{c:Code}(h:bq P N R c env H (ml id Q)):bq P N R (.block id c) env H Q:=
 λl j i d a w s=>wp_block (h _ j i (λe n k m o b g=>by
  cases e with
  |exit id'=>
   simp only[ml]at b
   simp only[Exit.inBlock]
   split
   ·rename_i f;rw[aac f]at b;exact d _ _ _ _ _ b g
   ·rename_i f;rw[aaa f]at b;exact d _ _ _ _ _ b g
  |_=>exact d _ _ _ _ _ b g) a w s)
theorem bq.cond{c:Operand}{x y:Code}{b:Bool}(i:ev env c=some (.bool b))(k:b=true->bq P N R x env H Q)(j:b=false->bq P N R y env H Q):bq P N R (.cond c x y) env H Q:=
 λe g d f a w s=>wp_cond_split (s.env.eval i) (λh=>k h e g d f a w s) (λh=>j h e g d f a w s)
def dC(env env':Env):Prop:=∀t v,Env.get? env' t=some v->Env.get? env t=some v
theorem dC.refl(env:Env):dC env env:=λ_ _ h=>h
theorem dC.nil(env:Env):dC env []:=λ_ _ h=>by cases h
theorem dC.cons{env b:Env}{t:Nat}{v:Value}(h:dC env b)(d:Env.get? env t=some v):dC env ((t,v)::b):=λu x a=>by
 simp only[Env.get?]at a
 split at a
 ·rename_i c
  have:=aaM c
  simp only[aad]at a
  subst a;subst this;exact d
 ·exact h u x a
theorem dC.d{env a:Env}{t:Nat}{v:Value}(h:dC env a)(b:Env.get? env t=some v):dC env ((t,v)::a):=h.cons b
theorem dC.c{env a:Env}{t:Nat}{v:Value}(h:dC env a)(b:Env.get? env t=some v:=by rfl):dC env ((t,v)::a):=h.cons b
theorem kE{env:Env}:dC env []:=dC.nil _
theorem dP.le{a:Act}{env b:Env}(h:dP a env)(c:dC env b):dP a b:=λt v d=>h t v (c t v d)
theorem St.le{a:Act}{w:World}{env d:Env}{H H':aG}{f:World}{c:aG}(s:St N R a w env H f c)(g:dC env d)(e:bo H H'):St N R a w d H' f c:=
 let b:=s.step (e.frame w) (e.sat s.sat)
 ⟨b.defers,b.size,b.env.le g,b.sat,b.ro,b.fr⟩
theorem bq.le{c:Code}{b:Env}{H':aG}(g:dC env b)(i:bo H H')(h:bq P N R c b H' Q):bq P N R c env H Q:=
 λe j d f a w s=>h e j d f a w (s.le g i)
theorem bq.loop{X:Type}{c:Code}(I:X->Prop)(e:X->Env)(h:X->aG)(μ:X->Nat)(q:X)(y:I q)(K:dC env (e q))(L:bo H (h q))
  (U:∀x,I x->bq P N R c (e x) (h x) (py (λenv' H'=>∃x',I x'/\μ x'<μ x/\dC env' (e x')/\bo H' (h x')) Q)):bq P N R (.loop c) env H Q:=
 λA z r G a w s b k t=>by
  have T:∀n x a w,μ x=n->I x->St N R a w (e x) (h x) z r->
    ∃m g i,A m g i/\Arrives P (lone (b.at a (.code c:: .inLoop c::k)) t w) b k t m g i:=by
   intro n
   induction n using Nat.strongRecOn with
   |_ n ih=>
    intro x a w M y s
    have S:=U x y (Exit.then (λg i=>∃x',I x'/\μ x'<μ x/\St N R g i (e x') (h x') z r) A) z r (λm env' H' g i d p=>by
     cases m with
     |normal=>obtain⟨x',u,v,E,F⟩:=d;exact⟨x',u,v,p.le E F⟩
     |_=>exact G _ _ _ _ _ d p) a w s
    obtain⟨m,j,o,d,f⟩:=S b (.inLoop c::k) t
    cases m with
    |normal=>
     obtain⟨x',u,v,p⟩:=d
     obtain⟨D,B,V,O,J⟩:=ih (μ x') (M▸v) x' j o rfl u p
     exact⟨D,B,V,O,.of_steps (Steps.trans f (.one step_inLoop)) J⟩
    |exit id=>exact⟨_,j,o,d,.pass (x:=.inLoop c) rfl (λ_ _=>.inl (by simp)) f⟩
    |goto l=>exact⟨_,j,o,d,.pass (x:=.inLoop c) rfl (λ_ _=>.inl (by simp)) f⟩
    |ret=>exact⟨_,j,o,d,.pass (x:=.inLoop c) rfl (λ_ _=>.inl (by simp)) f⟩
    |panic ch=>exact⟨_,j,o,d,.pass (x:=.inLoop c) rfl (λ_ _=>.inl (by simp)) f⟩
    |outgrown=>exact⟨_,j,o,d,.pass (x:=.inLoop c) rfl (λ_ _=>.inl (by simp)) f⟩
  obtain⟨C,g,i,d,f⟩:=T _ q a w rfl y (s.le K L)
  exact⟨C,g,i,d,.of_steps (.one step_loop) f⟩
end rules
end
section
class bS(P:Program)(t:TypeId)(d:outParam TypeDesc):Prop where h:P.underlying t=some d
class Sz(P:Program)(t:TypeId)(n:outParam Nat):Prop where h:∀w,(sizeOf t).run P w=.ok n w
class Zr(P:Program)(t:TypeId)(v:outParam Value):Prop where h:∀w,(zeroValue t).run P w=.ok v w
class cH(P:Program)(t:TypeId)(b:outParam Bool):Prop where h:∀w,(isAgg t).run P w=.ok b w
class By(P:Program)(t:TypeId)(n:outParam Nat):Prop where h:∀w,∃i,(typeInfo t).run P w=.ok i w/\i.bytes=n
class aV(P:Program)(s:TypeId)(f:Nat)(off:outParam Nat):Prop where
 h:∀(a:Addr) w,(Instr.fieldAt s (.pointer (some a)) f).run P w=.ok (.pointer (some (a.add off))) w
class aP(P:Program)(f:FuncId):Prop where h:∀(args:Array Value) (w:World),(callFunc f args).run P w=.ok (.enter f args) w
theorem aV.of{P:Program}{s:TypeId}{c:Array Field}{f:Nat}{b:Field}{n off:Nat}(i:P.underlying s=some (.struct c))(d:c[f]? =some b)
  (h:∀w,(sizeOf b.type).run P w=.ok n w)(e:(n==0)=false)(ho:b.offset=off):aV P s f off:=⟨λa w=>by
 have g:n≠0:=by simpa using e
 simp[Instr.fieldAt,run_underlying i,d,Instr.sureAddr,fieldPlace,h,g,ho]⟩
def bd(P:Program)(R:aw)(env:Env)(H:aG)(op:Op)(ty:TypeId)(v:Value):Prop:=
 ∀(a:Act) (w:World) (d:Option Tmp) (pos:String) (af:Array Edge) (g:Option (Nat×Bool)),dP a env->Sat w H->RO w R H->(execOp a.eval ⟨d,op,ty,pos,af,g⟩).run P w=.ok (.value v) w
def aE(m:Bool)(P:Program)(N:Nat)(R:aw)(ops:Array Oper)(l:List Oper)(env:Env)(H:aG)(K:Env->aG->Prop):Prop:=
 ∀(Q':Exit->Act->World->Prop) (w0:World) (H0:aG),(∀env' H' a' w',K env' H'->St N R a' w' env' H' w0 H0->Q' .normal a' w')->
  ∀a w,St N R a w env H w0 H0->match m with
   |true=>wpStill P ops w (λa'=>Q' .normal a' w) l a
   |false=>wpList P ops Q' l a w
section
variable{P:Program}{N:Nat}{R:aw}{ops:Array Oper}{l:List Oper}{env:Env}{H:aG}{K:Env->aG->Prop}{Q:Exit->Env->aG->Prop}{m:Bool}
theorem bq.region{id:Nat}(h:aE false P N R l.toArray l env H (Q .normal)):bq P N R (.region id l.toArray false) env H Q:=
 λc g b d a w s=>wp_region_lit (h c g b (λk i j m e f=>d _ _ _ _ _ e f) a w s)
theorem bq.iA{id:Nat}(g:P.follows .mixedOrders=true)(d:Region.lexB .any l.toArray=true)(h:aE true P N R l.toArray l env H (Q .normal)):bq P N R (.region id l.toArray true) env H Q:=
 λc j b e a w s=>wp_region_still_lit g d (h c j b (λn k m o f i=>e _ _ _ _ _ f i) a _ (s.step (Frame.drew w H _) (s.sat.drew _)))
theorem bq.dd{id:Nat}(n:Nat)(m:P.follows .mixedOrders=true)(j:Region.lexTailB .any l.toArray n=true)
  (h:aE true P N R l.toArray (l.take n) env H λenv' H'=>aE false P N R l.toArray (l.drop n) env' H' (Q .normal)):bq P N R (.region id l.toArray true) env H Q:=
 λg i f k a w s=>wp_region_still_tail n m j (h (λ_ b c=>wpList P l.toArray g (l.drop n) b c) i f
  (λenv' H' b c d e=>d g i f (λenv' H' b c d e=>k _ _ _ _ _ d e) b c e) a _ (s.step (Frame.drew w H _) (s.sat.drew _)))
theorem aE.nil(h:K env H):aE m P N R ops [] env H K:=λd e c b a w s=>by
 cases m
 ·exact wpList_nil (b _ _ _ _ h s)
 ·exact wpStill_nil (b _ _ _ _ h s)
theorem aE.q{d:Nat}{op:Op}{ty:TypeId}{f:String}{b:Array Edge}{v:Value}(n:bd P R env H op ty v)(k:aE m P N R ops l ((d,v)::env) H K)(j:Nat.blt d N=true:=by rfl):
  aE m P N R ops (⟨some d,op,ty,f,b,none⟩::l) env H K:=λh o g i a w s=>by
 have e:=n a w (some d) f b none s.env s.sat s.ro
 have c:=k h o g i _ w (s.put v j)
 cases m
 ·simp only[wpList,Region.wanted,aae]
  exact .inl (by rw[Oper.wp,e];exact c)
 ·simp only[wpStill,Region.wanted,aae]
  rw[Oper.still,e]
  exact⟨rfl,c⟩
def ja(ops:Array Oper)(j:Nat):Option Nat:=(ops[j]?).bind (·.dst)
theorem sj{a:Act}{j t:Nat}{b:Bool}(d:dP a env)(c:ja ops j=some t)(e:Env.get? env t=some (.bool b)):yielded ops a.tmps j=some b:=by
 unfold ja at c
 simp[yielded,c,d t _ e]
theorem aE.gt{j t:Nat}{d:Bool}{dst:Option Nat}{op:Op}{ty:TypeId}{c:String}{b:Array Edge}(o:Env.get? env t=some (.bool d))(n:aE m P N R ops (⟨dst,op,ty,c,b,none⟩::l) env H K)(k:ja ops j=some t:=by rfl):
  aE m P N R ops (⟨dst,op,ty,c,b,some (j,d)⟩::l) env H K:=λg p f i a w s=>by
 have e:Region.wanted ⟨dst,op,ty,c,b,some (j,d)⟩ (yielded ops a.tmps)=true:=by
  simp[Region.wanted,sj s.env k o]
 have h:=n g p f i a w s
 cases m
 ·simp only[wpList]at h⊢
  rw[aac e]
  rw[aac (by simp[Region.wanted])]at h
  exact h
 ·simp only[wpStill]at h⊢
  rw[aac e]
  rw[aac (by simp[Region.wanted])]at h
  exact h
theorem aE.gf{j t d:Nat}{c b:Bool}{op:Op}{ty:TypeId}{g:String}{e:Array Edge}(v:Env.get? env t=some (.bool b))(o:(b==c)=false)(r:aE m P N R ops l ((d,undef)::env) H K)(q:ja ops j=some t:=by rfl)(p:Nat.blt d N=true:=by rfl):
  aE m P N R ops (⟨some d,op,ty,g,e,some (j,c)⟩::l) env H K:=λk x i n a w s=>by
 have f:¬Region.wanted ⟨some d,op,ty,g,e,some (j,c)⟩ (yielded ops a.tmps)=true:=by
  have u:¬b=c:=by simpa using o
  simp[Region.wanted,sj s.env q v,u]
 have h:=r k x i n _ w (s.put undef p)
 cases m
 ·simp only[wpList]
  rw[aaa f]
  exact h
 ·simp only[wpStill]
  rw[aaa f]
  exact h
theorem aE.n8{d:Nat}{op:Op}{ty:TypeId}{c:String}{b:Array Edge}(i:Nat.blt d N=true)
  (h:∀a w,dP a env->Sat w H->RO w R H->∃v w' H',(execOp a.eval ⟨some d,op,ty,c,b,none⟩).run P w=.ok (.value v) w'/\Frame w H w' H'/\Sat w' H'/\aE false P N R ops l ((d,v)::env) H' K):
  aE false P N R ops (⟨some d,op,ty,c,b,none⟩::l) env H K:=λf o e g a w s=>by
 obtain⟨v,w',H',m,j,n,k⟩:=h a w s.env s.sat s.ro
 simp only[wpList,Region.wanted,aae]
 exact .inl (by rw[Oper.wp,m];exact k f o e g _ w' ((s.step j n).put v i))
theorem aE.qJ{op:Op}{ty:TypeId}{c:String}{b:Array Edge}
  (h:∀a w,dP a env->Sat w H->RO w R H->∃w' H',((execOp a.eval ⟨none,op,ty,c,b,none⟩).run P w=.ok .skip w'\/∃v,(execOp a.eval ⟨none,op,ty,c,b,none⟩).run P w=.ok (.value v) w')/\Frame w H w' H'/\Sat w' H'/\aE false P N R ops l env H' K):
  aE false P N R ops (⟨none,op,ty,c,b,none⟩::l) env H K:=λe k d f a w s=>by
 obtain⟨w',H',hr,g,j,i⟩:=h a w s.env s.sat s.ro
 simp only[wpList,Region.wanted,aae]
 refine .inl ?_
 rcases hr with hr|⟨v,hr⟩
 ·rw[Oper.wp,hr];exact i e k d f _ w' (s.step g j)
 ·rw[Oper.wp,hr];exact i e k d f _ w' (s.step g j)
def Rx(R:aw)(H:aG):aw:=λb o=>R b o\/(b,o)∈H.flatten
theorem lW{w:World}{is:List Nat}(s:Sat w H):Sat w (take is H)/\Sat w (rest is H)/\∀p∈(take is H).flatten,∀q∈(rest is H).flatten,p.1≠q.1:=by
 have c:=lY is H
 have a:=(c.map (·.1)).nodup_iff.1 s.1
 rw[aax,aaN]at a
 refine⟨⟨a.1,λp b=>s.2 p (c.mem_iff.2 (aaq _ b))⟩,⟨a.2.1,λp b=>s.2 p (c.mem_iff.2 (aaO _ b))⟩,λp d q e f=>?_⟩
 exact a.2.2 p.1 (aav d) q.1 (aav e) f
theorem RO.split{w:World}{is:List Nat}(s:Sat w H)(r:RO w R H):RO w (Rx R (rest is H)) (take is H):=by
 obtain⟨f,d,e⟩:=lW (is:=is) s
 intro b o hb
 rcases hb with hb|hb
 ·exact⟨(r b o hb).1,λp a=>(r b o hb).2 p ((lY is H).mem_iff.2 (aaq _ a))⟩
 ·exact⟨d.2 _ hb,λp a c=>e p a _ hb c⟩
theorem nF{w d:World}{is:List Nat}{H':aG}(s:Sat w H)(j:Sat d H')(f:Frame w (take is H) d H'):Sat d (H'++rest is H)/\Frame w H d (H'++rest is H):=by
 obtain⟨u,h,k⟩:=lW (is:=is) s
 have i:∀q∈(rest is H).flatten,q.1<w.heap.size:=λq a=>nk (h.2 q a)
 have m:∀p∈H'.flatten,∀q∈(rest is H).flatten,p.1≠q.1:=λp hp q a c=>by
  rcases f.jq p hp with⟨r,e,g⟩|hge
  ·exact k r e q a (g.trans c)
  ·have:=i q a;omega
 refine⟨⟨?_,λp hp=>?_⟩,⟨f.le,λb l n=>?_,λp hp=>?_,f.os,f.output,f.tape⟩⟩
 ·rw[aaH,aax,aaN]
  refine⟨j.1,h.1,λx o y t c=>?_⟩
  obtain⟨p,hp,rfl⟩:=aaG.1 o
  obtain⟨q,a,rfl⟩:=aaG.1 t
  exact m p hp q a c
 ·rw[aaH,aal]at hp
  rcases hp with hp|hp
  ·exact j.2 p hp
  ·rw[f.ga p.1 (i p hp) (λq a c=>k q a p hp c)]
   exact h.2 p hp
 ·exact f.ga b l λp hp=>n p ((lY is H).mem_iff.2 (aaq _ hp))
 ·rw[aaH,aal]at hp
  rcases hp with hp|hp
  ·rcases f.jq p hp with⟨r,e,g⟩|hge
   ·exact .inl ⟨r,(lY is H).mem_iff.2 (aaq _ e),g⟩
   ·exact .inr hge
  ·exact .inl ⟨p,(lY is H).mem_iff.2 (aaO _ hp),rfl⟩
theorem aE.qA{dst:Option Nat}{op:Op}{ty:TypeId}{m:String}{h:Array Edge}(is:List Nat){f:FuncId}{vs:List Value}{Post:Value->aG->Prop}
  (y:∀a w,dP a env->(execOp a.eval ⟨dst,op,ty,m,h,none⟩).run P w=.ok (.enter f vs.toArray) w)
  (u:Spec P f vs (Rx R (rest is H)) (take is H) Post)
  (r:∀v H',Post v H'->match dst with
   |some d=>Nat.blt d N=true/\aE false P N R ops l ((d,v)::env) (H'++rest is H) K
   |none=>aE false P N R ops l env (H'++rest is H) K):
  aE false P N R ops (⟨dst,op,ty,m,h,none⟩::l) env H K:=λg o c i a w s=>by
 simp only[wpList,Region.wanted,aae]
 refine .inl ?_
 rw[Oper.wp,y a w s.env]
 obtain⟨z,A,B⟩:=lW (is:=is) s.sat
 refine(u w z (RO.split s.sat s.ro)).mono λe n ⟨v,H',p,t,x,q⟩=>?_
 subst p
 obtain⟨j,k⟩:=nF s.sat x q
 have b:=r v H' t
 cases dst with
 |some d=>exact b.2 g o c i _ n ((s.step k j).put v b.1)
 |none=>exact b g o c i _ n (s.step k j)
theorem uj{f:FuncId} [e:aP P f]{xs:List Operand}{c:Array TypeId}{vs:List Value}{dst:Option Nat}{ty:TypeId}{j:String}{b:Array Edge}{g:Option (Nat×Bool)}(hxs:gl env xs=some vs)(a:Act)(w:World)(i:dP a env):
  (execOp a.eval ⟨dst,.call ⟨.value (.func f),xs.toArray,c⟩,ty,j,b,g⟩).run P w=.ok (.enter f vs.toArray) w:=by
 have d:=i.oa hxs
 simp only[execOp,resolve,d,Act.eval,Deferred.ofValue]
 have:=e.h vs.toArray w
 simp[invoke,this]
theorem aE.call{d:Nat}{ty:TypeId}{m:String}{b:Array Edge}(is:List Nat){f:FuncId} [e:aP P f]{xs:List Operand}{c:Array TypeId}{vs:List Value}{Post:Value->aG->Prop}
  (k:Spec P f vs (Rx R (rest is H)) (take is H) Post)
  (i:∀v H',Post v H'->aE false P N R ops l ((d,v)::env) (H'++rest is H) K)(hxs:gl env xs=some vs:=by rfl)(h:Nat.blt d N=true:=by rfl):
  aE false P N R ops (⟨some d,.call ⟨.value (.func f),xs.toArray,c⟩,ty,m,b,none⟩::l) env H K:=
 aE.qA is (λa w g=>uj hxs a w g) k (λv H' j=>⟨h,i v H' j⟩)
theorem aE.Bj{d:Nat}{ty:TypeId}{q:String}{c:Array Edge}(is:List Nat){t:Nat}{f:FuncId}{first captured:List Value} [e:aP P f]{xs:List Operand}{g:Array TypeId}{vs:List Value}{Post:Value->aG->Prop}
  (p:Env.get? env t=some (.func (.func f) first.toArray captured.toArray))
  (o:Spec P f (first++vs++captured) (Rx R (rest is H)) (take is H) Post)
  (m:∀v H',Post v H'->aE false P N R ops l ((d,v)::env) (H'++rest is H) K)(hxs:gl env xs=some vs:=by rfl)(k:Nat.blt d N=true:=by rfl):
  aE false P N R ops (⟨some d,.call ⟨.value (.tmp t),xs.toArray,g⟩,ty,q,c,none⟩::l) env H K:=
 aE.qA is (λa w b=>by
  have i:=b.oa hxs
  have j:a.eval (.tmp t)=_:=b.eval p
  simp only[execOp,resolve,i,j,Deferred.ofValue]
  have:=e.h (first++vs++captured).toArray w
  rw[<-List.append_toArray, <-List.append_toArray]at this⊢
  exact this) o (λv H' n=>⟨k,m v H' n⟩)
end
end
section
def ic(p:Value)(k:Nat):Value:=match p with
 | .pointer (some a)=>.pointer (some (a.add k))
 |v=>v
def eE(v:Value)(k:Nat):Value:=match v with
 | .slice (some a) _ _=>.pointer (some (a.add k))
 |v=>v
class PC(T:aw)(p:Value)(vs:outParam (List Value)):Prop where
 h:∃b off c E fr,p=.pointer (some ⟨b,off,none⟩)/\T b (.cells c E fr)/\∀j (hj:j<vs.length),c[off+j]? =some vs[j]
def sg(T:ap):aw:=λb o=>(b,o)∈T
class RC(R:aw)(H:aG)(p:Value)(vs:outParam (List Value)):Prop where
 h:PC (Rx R H) p vs
theorem PC.mono{T a:aw}{p:Value}{vs:List Value}(h:PC T p vs)(d:∀b o,T b o->a b o):PC a p vs:=
 ⟨let ⟨b,off,c,E,fr,h1,h2,h3⟩:=h.h;⟨b,off,c,E,fr,h1,d _ _ h2,h3⟩⟩
theorem PC.add{T:aw}{p:Value}{vs:List Value}(h:PC T p vs)(k:Nat):PC T (ic p k) (vs.drop k):=by
 obtain⟨b,i,c,E,a,rfl,e,f⟩:=h.h
 refine⟨b,i+k,c,E,a,?_,e,λj g=>?_⟩
 ·simp only[ic,Addr.add];split
  ·rename_i d;subst d;rfl
  ·rfl
 ·rw[aa1]at g
  have:=f (k+j) (by omega)
  rw[List.getElem_drop,aay]
  exact this
instance RC.there{R:aw}{H:aG}{T:ap}{p:Value}{vs:List Value} [h:RC R H p vs]:RC R (T::H) p vs:=
 ⟨h.h.mono λb o a=>a.imp id λc=>by simp[c]⟩
instance RC.here{R:aw}{H:aG}{b:Nat}{vs:List Value}{E:TypeId}{fr:Nat×Nat}:RC R ([(b,.cells vs.toArray E fr)]::H) (.pointer (some ⟨b,0,none⟩)) vs:=
 ⟨⟨b,0,vs.toArray,E,fr,rfl,.inr (by simp),λj a=>by simp[a]⟩⟩
class PS(T:ap)(p:Value)(vs:outParam (List Value)):Prop where h:PC (sg T) p vs
instance RC.On{R:aw}{H:aG}{T:ap}{p:Value}{vs:List Value} [h:PS T p vs]:RC R (T::H) p vs:=
 ⟨h.h.mono λb o a=>.inr (List.mem_flatten.2 ⟨T,by simp,a⟩)⟩
instance RC.Om{R:aw}{H:aG}{p:Value}{vs:List Value} [h:PC R p vs]:RC R H p vs:=⟨h.mono λb o a=>.inl a⟩
instance RC.add{R:aw}{H:aG}{p:Value}{k:Nat}{vs:List Value} [h:RC R H p vs]:RC R H (ic p k) (vs.drop k):=⟨h.h.add k⟩
theorem rF{P:Program}{R:aw}{H:aG}{p:Value}{vs:List Value}(h:PC (Rx R H) p vs){w:World}(s:Sat w H)(r:RO w R H):
  ∃b off,p=.pointer (some ⟨b,off,none⟩)/\∀j (hj:j<vs.length),w.cell? ⟨b,off+j,none⟩=some vs[j]:=by
 obtain⟨b,off,c,E,a,d,h2,e⟩:=h.h
 refine⟨b,off,d,λj hj=>?_⟩
 have f:w.heap[b]? =some (.cells c E a):=by
  rcases h2 with h2|h2
  ·exact(r b _ h2).1
  ·exact s.2 _ h2
 simp[World.cell?,f,e j hj]
theorem zp{P:Program}{a:Addr}{v:Value}{w:World}(h:w.cell? a=some v):(load a).run P w=.ok v w:=by
 rw[run_load,h]
theorem run_loadCellsFrom{P:Program}{w:World}{b off:Nat}:∀(vs:List Value) (i:Nat) (acc:Array Value),(∀j (hj:j<vs.length),w.cell? ⟨b,off+i+j,none⟩=some vs[j])->
  (loadCellsFrom ⟨b,off,none⟩ i vs.length acc).run P w=.ok (acc++vs.toArray) w
 |[],i,acc,_=>by simp[loadCellsFrom]
 |v::r,i,acc,h=>by
  have a:=h 0 (by simp)
  have e:(⟨b,off,none⟩:Addr).add i=⟨b,off+i,none⟩:=by
   simp only[Addr.add];split
   ·rename_i a;subst a;rfl
   ·rfl
  have c:(load ⟨b,off+i,none⟩).run P w=.ok v w:=zp (by simpa using a)
  have d:=run_loadCellsFrom (P:=P) r (i+1) (acc.push v) (λj hj=>by
   have:=h (j+1) (by simp;omega)
   simpa[aay,Nat.add_comm 1 j]using this)
  simp only[aam,loadCellsFrom,e,Sem.run_bind,c,Result.andThen_ok,d]
  simp
section
variable{P:Program}{R:aw}{env:Env}{H:aG}{ty:TypeId}
theorem bd.move{x:Operand}{v:Value}(h:ev env x=some v:=by rfl):bd P R env H (.move x) ty v:=λa w d e c g b _ _=>by
 simp[execOp,b.eval h]
theorem bd.assign{x:Operand}{v:Value}(h:ev env x=some v:=by rfl):bd P R env H (.assign x) ty v:=λa w d e c g b _ _=>by
 simp[execOp,b.eval h]
theorem bd.pick{c x y:Operand}{b:Bool}{u v:Value}(f:ev env c=some (.bool b):=by rfl)(h:ev env x=some u:=by rfl)(i:ev env y=some v:=by rfl):
  bd P R env H (.pick c x y) ty (if b then u else v):=λa w d k j g e _ _=>by
 simp[execOp,e.eval f,e.eval h,e.eval i,asBool]
theorem bd.dO{c x y:Operand}{u:Value}(e:ev env c=some (.bool true):=by rfl)(f:ev env x=some u:=by rfl):
  bd P R env H (.pick c x y) ty u:=λa w d i h g b _ _=>by
 simp[execOp,b.eval e,b.eval f,asBool]
theorem bd.dG{c x y:Operand}{v:Value}(e:ev env c=some (.bool false):=by rfl)(f:ev env y=some v:=by rfl):
  bd P R env H (.pick c x y) ty v:=λa w d i h g b _ _=>by
 simp[execOp,b.eval e,b.eval f,asBool]
theorem bd.nilCheck{x:Operand}{p:Value}{vs:List Value}(i:ev env x=some p) [rc:RC R H p vs]:bd P R env H (.nilCheck x) ty p:=λa w d m j g f _ _=>by
 obtain⟨b,l,c,E,k,e,_,_⟩:=rc.h.h
 subst e
 simp[execOp,f.eval i]
theorem bd.fieldAddr{x:Operand}{s:TypeId}{f off:Nat}{p:Value}{vs:List Value}(k:ev env x=some p) [e:aV P s f off] [rc:RC R H p vs]:bd P R env H (.fieldAddr s x f) ty (ic p off):=λa w d n l g j _ _=>by
 obtain⟨b,o,c,E,m,i,_,_⟩:=rc.h.h
 subst i
 simp[execOp,j.eval k,e.h,ic]
theorem bd.bU{x:Operand}{t:TypeId}{p u:Value}{vs r:List Value}(l:ev env x=some p) [c:cH P t false] [rc:RC R H p vs](k:vs=u::r:=by rfl):bd P R env H (.load t x) ty u:=λa w d q o g j s n=>by
 obtain⟨b,m,e,f⟩:=rF (P:=P) rc.h s n
 subst e;subst k
 have:=f 0 (by simp)
 have i:w.cell? ⟨b,m,none⟩=some u:=by simpa using this
 simp[execOp,j.eval l,Instr.loadAt,Instr.sureAddr,loadVar,c.h,i]
theorem bd.aU{x:Operand}{t:TypeId}{p:Value}{n:Nat}{vs:List Value}(k:ev env x=some p) [c:cH P t true] [sz:Sz P t n] [rc:RC R H p vs](j:vs.length=n:=by rfl):bd P R env H (.load t x) ty (.agg vs.toArray):=λa w d o m g i s l=>by
 obtain⟨b,off,e,f⟩:=rF (P:=P) rc.h s l
 subst e;subst j
 have:=run_loadCellsFrom (P:=P) (w:=w) (b:=b) (off:=off) vs 0 #[] (by simpa using f)
 simp[execOp,i.eval k,Instr.loadAt,Instr.sureAddr,loadVar,c.h,sz.h,loadCells,this]
theorem bd.loadT{x:Operand}{t:TypeId}{p:Value}{n:Nat}{vs us:List Value}(q:ev env x=some p) [f:cH P t true] [sz:Sz P t n] [rc:RC R H p vs](c:vs.take n=us:=by rfl)(o:us.length=n:=by rfl):bd P R env H (.load t x) ty (.agg us.toArray):=λa w d y u g l s r=>by
 obtain⟨b,off,i,k⟩:=rF (P:=P) rc.h s r
 subst i;subst o
 have v:us.length<=vs.length:=by
  have:=aaz List.length c;rw[aaP]at this;omega
 have:=run_loadCellsFrom (P:=P) (w:=w) (b:=b) (off:=off) us 0 #[] (λj m=>by
  have:=k j (by omega)
  have e:us[j]=vs[j]'(by omega):=by rw[List.getElem_of_eq c.symm m,List.getElem_take]
  rw[e];simpa using this)
 simp[execOp,l.eval q,Instr.loadAt,Instr.sureAddr,loadVar,f.h,sz.h,loadCells,this]
theorem bd.makeFunc{b:Fn}{xs ys:List Operand}{us vs:List Value}(h:gl env xs=some us:=by rfl)(i:gl env ys=some vs:=by rfl):bd P R env H (.makeFunc b xs.toArray ys.toArray) ty (.func b us.toArray vs.toArray):=λa w d k j g c _ _=>by
 have e:=c.oa h
 have f:=c.oa i
 simp only[execOp,e,f,Instr.makeFunc]
 rfl
theorem bd.makeInterface{x:Operand}{t:TypeId}{v:Value}{b:TypeDesc} [ut:bS P t b](e:(match b with| .interface _=>false|_=>true)=true:=by rfl)(f:ev env x=some v:=by rfl):bd P R env H (.makeInterface t x) ty (.iface t v):=λa w d j i g c _ _=>by
 cases b<;>first|(cases e;done)|simp[execOp,c.eval f,Instr.makeInterface,run_underlying ut.h]
theorem bd.extract{x:Operand}{i:Nat}{vs:List Value}{v:Value}(e:ev env x=some (.tuple vs.toArray):=by rfl)(c:vs[i]? =some v:=by rfl):bd P R env H (.extract x i) ty v:=λa w d h f g b _ _=>by
 simp[execOp,b.eval e,Instr.extract,c]
theorem bd.not{x:Operand}{t:TypeId}{b:Bool}(e:ev env x=some (.bool b):=by rfl):bd P R env H (.unOp .not t x) ty (.bool (!b)):=λa w d h f g c _ _=>by
 simp[execOp,c.eval e,Op.unary]
theorem o6{op:BinOp}{t:TypeId}{x y:Operand}{u v:Value}{w:World}(h:(match u,v with| .nilIface,.nilIface=>false| .agg _,.agg _=>false|_,_=>true)=true):(eqGuard op t x y u v).run P w=.ok () w:=by
 unfold eqGuard
 cases u<;>cases v<;>first|(cases h;done)|(cases op<;>rfl)
section ints
variable{x y:Operand}{t u:TypeId}{k:IntKind}{m n:Int}
theorem bd.add(c:ev env x=some (.int k m):=by rfl)(e:ev env y=some (.int k n):=by rfl):bd P R env H (.binOp .add t x y u) ty (.int k (k.wrap (m+n))):=λa w d h f g b _ _=>by
 simp[execOp,b.eval c,b.eval e,eqGuard,binOp,Op.intArith]
theorem bd.sub(c:ev env x=some (.int k m):=by rfl)(e:ev env y=some (.int k n):=by rfl):bd P R env H (.binOp .sub t x y u) ty (.int k (k.wrap (m-n))):=λa w d h f g b _ _=>by
 simp[execOp,b.eval c,b.eval e,eqGuard,binOp,Op.intArith]
theorem bd.mul(c:ev env x=some (.int k m):=by rfl)(e:ev env y=some (.int k n):=by rfl):bd P R env H (.binOp .mul t x y u) ty (.int k (k.wrap (m*n))):=λa w d h f g b _ _=>by
 simp[execOp,b.eval c,b.eval e,eqGuard,binOp,Op.intArith]
theorem bd.quo(e:ev env x=some (.int k m):=by rfl)(f:ev env y=some (.int k n):=by rfl)(c:n≠0:=by decide):bd P R env H (.binOp .quo t x y u) ty (.int k (k.wrap (m.tdiv n))):=λa w d i h g b _ _=>by
 simp[execOp,b.eval e,b.eval f,eqGuard,binOp,Op.intDiv,c]
theorem bd.rem(e:ev env x=some (.int k m):=by rfl)(f:ev env y=some (.int k n):=by rfl)(c:n≠0:=by decide):bd P R env H (.binOp .rem t x y u) ty (.int k (m.tmod n)):=λa w d i h g b _ _=>by
 simp[execOp,b.eval e,b.eval f,eqGuard,binOp,Op.intDiv,c]
theorem bd.lss(c:ev env x=some (.int k m):=by rfl)(e:ev env y=some (.int k n):=by rfl):bd P R env H (.binOp .lss t x y u) ty (.bool (m<n)):=λa w d h f g b _ _=>by
 simp[execOp,b.eval c,b.eval e,eqGuard,binOp,Op.intCmp]
theorem bd.leq(c:ev env x=some (.int k m):=by rfl)(e:ev env y=some (.int k n):=by rfl):bd P R env H (.binOp .leq t x y u) ty (.bool (m<=n)):=λa w d h f g b _ _=>by
 simp[execOp,b.eval c,b.eval e,eqGuard,binOp,Op.intCmp]
theorem bd.gtr(c:ev env x=some (.int k m):=by rfl)(e:ev env y=some (.int k n):=by rfl):bd P R env H (.binOp .gtr t x y u) ty (.bool (n<m)):=λa w d h f g b _ _=>by
 simp[execOp,b.eval c,b.eval e,eqGuard,binOp,Op.intCmp]
theorem bd.geq(c:ev env x=some (.int k m):=by rfl)(e:ev env y=some (.int k n):=by rfl):bd P R env H (.binOp .geq t x y u) ty (.bool (n<=m)):=λa w d h f g b _ _=>by
 simp[execOp,b.eval c,b.eval e,eqGuard,binOp,Op.intCmp]
theorem bd.cr(c:ev env x=some (.int k m):=by rfl)(e:ev env y=some (.int k n):=by rfl):bd P R env H (.binOp .eql t x y u) ty (.bool (m==n)):=λa w d h f g b _ _=>by
 simp[execOp,b.eval c,b.eval e,eqGuard,binOp,Op.intCmp]
theorem bd.eJ(c:ev env x=some (.int k m):=by rfl)(e:ev env y=some (.int k n):=by rfl):bd P R env H (.binOp .neq t x y u) ty (.bool (m !=n)):=λa w d h f g b _ _=>by
 simp[execOp,b.eval c,b.eval e,eqGuard,binOp,Op.intCmp]
theorem bd.m4{dst:TypeId}{k':IntKind}(e:ev env x=some (.int k n):=by rfl){b:TypeDesc} [us:bS P t b] [f:bS P dst (.int k')]:bd P R env H (.convert t dst x) ty (.int k' (k'.wrap n)):=λa w d j i g c _ _=>by
 simp[execOp,c.eval e,convert,run_underlying us.h,run_underlying f.h,Conv.intToInt]
end ints
theorem rQ{op:Op}{t:TypeId}{x y:Operand}{u v:Value}{ty l:TypeId}{a:Act}{w:World}{d:Option Tmp}{k:String}{b:Array Edge}{g:Option (Nat×Bool)}{r:Bool}(i:a.eval x=u)(j:a.eval y=v)
  (h:(eqGuard .eql t x y u v).run P w=.ok () w)(c:binOp .eql t u v=do pure (.bool (<-Op.equal t u v)))(e:(Op.equalIn (9999+1) t u v).run P w=.ok r w):
  (execOp a.eval ⟨d,.binOp .eql t x y l,ty,k,b,g⟩).run P w=.ok (.value (.bool r)) w:=by
 have f:(Op.equal t u v).run P w=.ok r w:=e
 simp only[execOp,i,j,Sem.run_bind,h,Result.andThen_ok,c,f]
 rfl
theorem zt{op:Op}{t:TypeId}{x y:Operand}{u v:Value}{ty l:TypeId}{a:Act}{w:World}{d:Option Tmp}{k:String}{b:Array Edge}{g:Option (Nat×Bool)}{r:Bool}(i:a.eval x=u)(j:a.eval y=v)
  (h:(eqGuard .neq t x y u v).run P w=.ok () w)(c:binOp .neq t u v=do pure (.bool (!(<-Op.equal t u v))))(e:(Op.equalIn (9999+1) t u v).run P w=.ok r w):
  (execOp a.eval ⟨d,.binOp .neq t x y l,ty,k,b,g⟩).run P w=.ok (.value (.bool (!r))) w:=by
 have f:(Op.equal t u v).run P w=.ok r w:=e
 simp only[execOp,i,j,Sem.run_bind,h,Result.andThen_ok,c,f]
 rfl
theorem toList_inj{a b:ByteArray}(h:a.toList=b.toList):a=b:=by
 rw[ByteArray.toList_eq,ByteArray.toList_eq]at h
 exact ByteArray.ext (Array.toList_inj.1 h)
theorem sC(a b:ByteArray):(a.toList==b.toList)=decide (a=b):=by
 by_cases h:a=b
 ·subst h;simp
 ·simp only[h,decide_false,beq_eq_false_iff_ne,ne_eq]
  exact λe=>h (toList_inj e)
theorem qx(a b:ByteArray):(a==b)=decide (a=b):=by rw[beq_toListBytes,sC]
def gA(a b:ByteArray):Bool:=Op.bytesLess a.toList b.toList
section strs
variable{x y:Operand}{t u:TypeId}{p q:ByteArray}
theorem bd.gW(c:ev env x=some (.string p):=by rfl)(e:ev env y=some (.string q):=by rfl):bd P R env H (.binOp .eql t x y u) ty (.bool (decide (p=q))):=λa w d h f g b _ _=>by
 rw[<-sC];simp[execOp,b.eval c,b.eval e,eqGuard,binOp,Op.stringOp]
theorem bd.kY(c:ev env x=some (.string p):=by rfl)(e:ev env y=some (.string q):=by rfl):bd P R env H (.binOp .neq t x y u) ty (.bool !(decide (p=q))):=λa w d h f g b _ _=>by
 rw[<-sC];simp[execOp,b.eval c,b.eval e,eqGuard,binOp,Op.stringOp]
theorem bd.Kp(c:ev env x=some (.string p):=by rfl)(e:ev env y=some (.string q):=by rfl):bd P R env H (.binOp .lss t x y u) ty (.bool (gA p q)):=λa w d h f g b _ _=>by
 simp[execOp,b.eval c,b.eval e,eqGuard,binOp,Op.stringOp,gA]
theorem bd.od(c:ev env x=some (.string p):=by rfl) [ut:bS P t .string]:bd P R env H (.call ⟨.builtin .len,#[x],#[t]⟩) ty (.int .i64 p.size):=λa w d f e g b _ _=>by
 simp[execOp,resolve,b.eval c,invoke,builtin,Builtin.len_,run_underlying ut.h,goInt]
theorem bd.qT{i:Operand}{k:IntKind}{j:Int}(n:Nat)(f:n<p.size)(l:ev env x=some (.string p):=by rfl)(c:ev env i=some (.int k j):=by rfl)(e:j=(n:Int):=by rfl) [ut:bS P t .string]:
  bd P R env H (.index t x i) ty (.int .u8 (p[n]).toNat):=λa w d o m g b _ _=>by
 subst e
 simp[execOp,b.eval l,b.eval c,Instr.index,asIntOf,run_underlying ut.h,f]
end strs
section nils
variable{x y:Operand}{t u e:TypeId}
theorem rR(n:Nat){w:World}{p:Option Addr}(ut:P.underlying t=some (.pointer e)):(Op.equalIn (n+1) t (.pointer p) (.pointer none)).run P w=.ok p.isNone w:=by
 cases p<;>simp[Op.equalIn,run_underlying ut]
theorem bd.BK{p:Option Addr}(c:ev env x=some (.pointer p))(f:ev env y=some (.pointer none)) [ut:bS P t (.pointer e)]:bd P R env H (.binOp .eql t x y u) ty (.bool p.isNone):=λa w d j i g b _ _=>
 rQ (op:=.move x) (b.eval c) (b.eval f) (o6 rfl) rfl (rR _ ut.h)
theorem bd.KG{p:Option Addr}(c:ev env x=some (.pointer p))(f:ev env y=some (.pointer none)) [ut:bS P t (.pointer e)]:bd P R env H (.binOp .neq t x y u) ty (.bool !p.isNone):=λa w d j i g b _ _=>
 zt (op:=.move x) (b.eval c) (b.eval f) (o6 rfl) rfl (rR _ ut.h)
theorem bd.qL{p:Value}{vs:List Value}(j:ev env x=some p)(k:ev env y=some (.pointer none)) [ut:bS P t (.pointer e)] [rc:RC R H p vs]:bd P R env H (.binOp .eql t x y u) ty (.bool false):=λa w d o l g f _ _=>by
 obtain⟨b,n,c,E,m,i,_,_⟩:=rc.h.h
 subst i
 exact rQ (op:=.move x) (f.eval j) (f.eval k) (o6 rfl) rfl (rR _ ut.h)
theorem bd.yl{p:Value}{vs:List Value}(j:ev env x=some p)(k:ev env y=some (.pointer none)) [ut:bS P t (.pointer e)] [rc:RC R H p vs]:bd P R env H (.binOp .neq t x y u) ty (.bool true):=λa w d o l g f _ _=>by
 obtain⟨b,n,c,E,m,i,_,_⟩:=rc.h.h
 subst i
 exact zt (op:=.move x) (f.eval j) (f.eval k) (o6 rfl) rfl (rR _ ut.h)
end nils
end
end
section
def aC:Value->Bool
 | .agg _| .tuple _=>false
 |_=>true
class One(v:Value):Prop where h:aC v=true
instance One.bool{b:Bool}:One (.bool b):=⟨rfl⟩
instance One.int{k:IntKind}{n:Int}:One (.int k n):=⟨rfl⟩
instance One.string{s:ByteArray}:One (.string s):=⟨rfl⟩
instance One.pointer{a:Option Addr}:One (.pointer a):=⟨rfl⟩
instance One.slice{a:Option Addr}{m n:Nat}:One (.slice a m n):=⟨rfl⟩
instance One.map{r:Option Nat}:One (.map r):=⟨rfl⟩
instance One.func{f:Fn}{a b:Array Value}:One (.func f a b):=⟨rfl⟩
instance One.nilFunc:One .nilFunc:=⟨rfl⟩
class cv(vs:List Value):Prop where h:∀v∈vs,aC v=true
instance cv.nil:cv []:=⟨by simp⟩
instance cv.cons{v:Value}{vs:List Value} [h1:One v] [h2:cv vs]:cv (v::vs):=⟨by simpa using⟨h1.h,h2.h⟩⟩
theorem n5{v:Value}(h:aC v=true):v.cells= #[v]:=by cases v<;>simp_all[aC,Value.cells]
def cT:List Value->Nat->List Value->List Value
 |[],_,cs=>cs
 |v::vs,k+1,cs=>v::cT vs k cs
 |v::vs,0,[]=>v::vs
 |_::vs,0,c::cs=>c::cT vs 0 cs
theorem iC:∀(vs:List Value) (off:Nat) (cs:List Value),cT vs off cs=vs.take off++cs++vs.drop (off+cs.length)
 |[],k,cs=>by simp[cT]
 |v::vs,k+1,cs=>by simp[cT,iC vs k cs,Nat.add_right_comm]
 |v::vs,0,[]=>by simp[cT]
 |v::vs,0,c::cs=>by simp[cT,iC vs 0 cs]
instance cv.cT{vs cs:List Value}{k:Nat} [h1:cv vs] [h2:cv cs]:cv (Go.Proofs.YtdljmchhecoakaaGreat.cT vs k cs):=⟨λv hv=>by
 simp only[iC,aal]at hv
 rcases hv with(hv|hv)|hv
 ·exact h1.h v (aaI hv)
 ·exact h2.h v hv
 ·exact h1.h v (aaA hv)⟩
instance cv.take{vs:List Value}{k:Nat} [h1:cv vs]:cv (vs.take k):=⟨λv a=>h1.h v (aaI a)⟩
instance cv.drop{vs:List Value}{k:Nat} [h1:cv vs]:cv (vs.drop k):=⟨λv a=>h1.h v (aaA a)⟩
theorem pY{vs cs:List Value}{off:Nat}(h:off+cs.length<=vs.length):(cT vs off cs).length=vs.length:=by rw[iC];simp;omega
theorem zF{vs:List Value}{off:Nat}:cT vs off []=vs:=by rw[iC];simp
theorem zE{vs cs:List Value}{off:Nat}{c:Value}(h:off+cs.length<vs.length):cT vs off (c::cs)=cT (vs.set off c) (off+1) cs:=by
 apply List.ext_getElem?
 intro i
 simp only[iC,List.getElem?_append,aaQ,aaP,List.getElem?_take,List.getElem?_drop,aa2,aam,List.length_set]
 have e:min off vs.length=off:=by omega
 have d:min (off+1) vs.length=off+1:=by omega
 simp only[e,d,List.getElem?_cons]
 by_cases a:i<off
 ·simp[a,show i<off+(cs.length+1) by omega,show i<off+1 by omega,show i<off+1+cs.length by omega,show ¬off=i by omega]
 ·by_cases f:i=off
  ·subst f;simp[show i<i+(cs.length+1) by omega,show i<i+1+cs.length by omega,show i<vs.length by omega]
  ·by_cases b:i<off+(cs.length+1)
   ·simp[a,b,show ¬i<off+1 by omega,show i<off+1+cs.length by omega,show ¬i-off=0 by omega,show i-off-1=i-(off+1) by omega]
   ·simp[b,show ¬i<off+1+cs.length by omega]
    rw[aaa (by omega),show off+(cs.length+1)+(i-(off+(cs.length+1)))=off+1+cs.length+(i-(off+1+cs.length)) by omega]
theorem MV(w:World)(b:Nat)(o o':Obj):eu (eu w b o) b o'=eu w b o':=by simp[eu]
theorem MU{w:World}{b off:Nat}{vs:List Value}{E:TypeId}{fr:Nat×Nat}(h:w.heap[b]? =some (.cells vs.toArray E fr))(v:Value):w.setCell ⟨b,off,none⟩ v=eu w b (.cells (vs.set off v).toArray E fr):=by
 have c:=nk h
 unfold World.setCell eu
 congr 1
 apply Array.ext_getElem?
 intro i
 simp only[Array.getElem?_modify,aa5,c]
 by_cases a:b=i
 ·subst a;simp[h]
 ·simp[a]
theorem um{P:Program}{b off:Nat}{E:TypeId}:∀(cs:List Value) (i:Nat) (vs:List Value) (w:World),w.heap[b]? =some (.cells vs.toArray E (0,0))->(∀v∈cs,aC v=true)->off+i+cs.length<=vs.length->
  (storeCells ⟨b,off,none⟩ cs i).run P w=.ok () (eu w b (.cells (cT vs (off+i) cs).toArray E (0,0)))
 |[],i,vs,w,hw,_,_=>by
  have:eu w b (.cells vs.toArray E (0,0))=w:=by
   unfold eu
   have:w.heap.setIfInBounds b (.cells vs.toArray E (0,0))=w.heap:=by
    apply Array.ext_getElem?
    intro i
    simp only[aa5]
    by_cases a:b=i
    ·subst a;rw[hw];simp[nk hw]
    ·simp[a]
   rw[this]
  rw[zF,this];rfl
 |v::cs,i,vs,w,hw,ho,hl=>by
  simp only[aam]at hl
  have a:(⟨b,off,none⟩:Addr).add i=⟨b,off+i,none⟩:=by
   simp only[Addr.add];split
   ·rename_i c;subst c;rfl
   ·rfl
  have h:w.cell? ⟨b,off+i,none⟩=some (vs[off+i]'(by omega)):=by simp[World.cell?,hw]
  have j:w.frozen? ⟨b,off+i,none⟩=false:=by simp[World.frozen?,hw]
  have k:=ho v (by simp)
  have d:(store ⟨b,off+i,none⟩ v).run P w=.ok () (eu w b (.cells (vs.set (off+i) v).toArray E (0,0))):=by
   rw[<-MU hw]
   cases v<;>simp_all[store,Sem.run,aC]
  have g:(eu w b (.cells (vs.set (off+i) v).toArray E (0,0))).heap[b]? =some (.cells (vs.set (off+i) v).toArray E (0,0)):=by
   simp[eu,nk hw]
  have e:=um (P:=P) (b:=b) (off:=off) (E:=E) cs (i+1) (vs.set (off+i) v) _ g (λu f=>ho u (by simp[f])) (by simp;omega)
  simp only[storeCells,a,Sem.run_bind,d,Result.andThen_ok,e,MV]
  rw[zE (by omega),aay]
class Wr(H:aG)(p:Value)(vs:outParam (List Value))(off:outParam Nat)(upd:outParam (List Value->aG)):Prop where
 h:∃b E H1 H2 T1 T2,p=.pointer (some ⟨b,off,none⟩)/\H=H1++(T1++(b,.cells vs.toArray E (0,0))::T2)::H2/\∀vs',upd vs'=H1++(T1++(b,.cells vs'.toArray E (0,0))::T2)::H2
instance Wr.there{H:aG}{T:ap}{p:Value}{vs:List Value}{off:Nat}{upd:List Value->aG} [h:Wr H p vs off upd]:Wr (T::H) p vs off (λvs'=>T::upd vs'):=
 ⟨let ⟨b,E,H1,H2,T1,T2,h1,h2,h3⟩:=h.h;⟨b,E,T::H1,H2,T1,T2,h1,by rw[h2];rfl,λvs'=>by rw[h3];rfl⟩⟩
instance Wr.here{H:aG}{b:Nat}{vs:List Value}{E:TypeId}:Wr ([(b,.cells vs.toArray E (0,0))]::H) (.pointer (some ⟨b,0,none⟩)) vs 0 (λvs'=>[(b,.cells vs'.toArray E (0,0))]::H):=
 ⟨⟨b,E,[],H,[],[],rfl,rfl,λ_=>rfl⟩⟩
instance Wr.add{H:aG}{p:Value}{k:Nat}{vs:List Value}{off:Nat}{upd:List Value->aG} [h:Wr H p vs off upd]:Wr H (ic p k) vs (off+k) upd:=
 ⟨by
  obtain⟨b,E,a,c,d,e,g,i,j⟩:=h.h
  refine⟨b,E,a,c,d,e,?_,i,j⟩
  subst g
  simp only[ic,Addr.add];split
  ·rename_i f;subst f;rfl
  ·rfl⟩
section
variable{P:Program}{N:Nat}{R:aw}{ops:Array Oper}{l:List Oper}{env:Env}{H:aG}{K:Env->aG->Prop}{ty:TypeId}{pos:String}{af:Array Edge}
theorem zv{t:TypeId}{n:Nat} [sz:Sz P t n]{b off:Nat}{E:TypeId}{v:Value}{cs vs:List Value}{w:World}(a:v.cells=cs.toArray)(c:cs.length=n)(d:w.heap[b]? =some (.cells vs.toArray E (0,0)))(ho:∀u∈cs,aC u=true)(f:off+cs.length<=vs.length):
  (Instr.storeAt t (.pointer (some ⟨b,off,none⟩)) v).run P w=.ok () (eu w b (.cells (cT vs off cs).toArray E (0,0))):=by
 have h:=um (P:=P) (b:=b) (off:=off) (E:=E) cs 0 vs w d ho (by omega)
 subst c
 have e:v.cells.size=cs.length:=by rw[a];simp
 simp only[Instr.storeAt,Instr.sureAddr,Sem.run_bind,Sem.run_pure,Result.andThen_ok,storeVar,sz.h,e,ne_eq,not_true,aar]
 rw[a]
 exact h
theorem aE.z4{t:TypeId}{x y:Operand}{n:Nat}{p v:Value}{vs cs:List Value}{off:Nat}{c:List Value->aG}(q:ev env x=some p)(r:ev env y=some v)(i:v.cells=cs.toArray)(k:cs.length=n) [sz:Sz P t n] [wr:Wr H p vs off c](ho:∀u∈cs,aC u=true)
  (j:off+cs.length<=vs.length)(m:aE false P N R ops l env (c (cT vs off cs)) K):aE false P N R ops (⟨none,.store t x y,ty,pos,af,none⟩::l) env H K:=
 aE.qJ λa w e s D=>by
  obtain⟨b,E,z,A,B,C,f,g,d⟩:=wr.h
  subst f;subst g
  have o:w.heap[b]? =some (.cells vs.toArray E (0,0)):=s.2 (b,_) (by simp)
  refine⟨eu w b (.cells (cT vs off cs).toArray E (0,0)),c (cT vs off cs),.inl ?_,?_,?_,m⟩
  ·simp[execOp,e.eval q,e.eval r,zv i k o ho j]
  ·rw[d];exact Frame.set
  ·rw[d];exact Sat.set s
theorem aE.du{t:TypeId}{x y:Operand}{p v:Value}{vs:List Value}{off:Nat}{a:List Value->aG}(d:ev env x=some p)(e:ev env y=some v) [sz:Sz P t 1] [wr:Wr H p vs off a] [o:One v](c:aE false P N R ops l env (a (cT vs off [v])) K)
  (b:off+1<=vs.length:=by first|decide|exact aau rfl):aE false P N R ops (⟨none,.store t x y,ty,pos,af,none⟩::l) env H K:=
 aE.z4 (cs:=[v]) d e (n5 o.h) rfl (by simpa using o.h) (by simpa using b) c
theorem aE.bP{t:TypeId}{x y:Operand}{n:Nat}{p:Value}{vs cs:List Value}{off:Nat}{a:List Value->aG}(e:ev env x=some p)(f:ev env y=some (.agg cs.toArray)) [sz:Sz P t n] [wr:Wr H p vs off a] [o:cv cs](d:aE false P N R ops l env (a (cT vs off cs)) K)
  (c:cs.length=n:=by rfl)(b:off+cs.length<=vs.length:=by first|decide|exact aau rfl):aE false P N R ops (⟨none,.store t x y,ty,pos,af,none⟩::l) env H K:=
 aE.z4 (cs:=cs) e f rfl c o.h b d
theorem aE.fresh{op:Op}{d:Nat}{o:Obj}{v:Nat->Value}(e:Nat.blt d N=true)(h:∀a w,dP a env->Sat w H->RO w R H->∃n,(execOp a.eval ⟨some d,op,ty,pos,af,none⟩).run P w=.ok (.value (v w.heap.size)) (({w with drawn:=n}:World).alloc o))
  (f:∀b,aE false P N R ops l ((d,v b)::env) ([(b,o)]::H) K):aE false P N R ops (⟨some d,op,ty,pos,af,none⟩::l) env H K:=
 aE.n8 e λa w c s i=>by
  obtain⟨n,g⟩:=h a w c s i
  refine⟨_,_,_,g,?_,?_,f w.heap.size⟩
  ·exact(Frame.drew w H n).trans (Frame.alloc {w with drawn:=n} H o)
  ·exact Sat.alloc (w:={w with drawn:=n}) (s.drew n) o
theorem lM{t:TypeId}{c:Array Value}{w:World}:(newRow t c).run P w=.ok ⟨w.heap.size,0,none⟩ (w.alloc (.cells c t)):=by
 simp[newRow]
theorem aE.A6{d:Nat}{E:TypeId}{x:Operand}{v:Value}(g:ev env x=some v) [o:One v](f:∀b,aE false P N R ops l ((d,.pointer (some ⟨b,0,none⟩))::env) ([(b,.cells [v].toArray E (0,0))]::H) K)(e:Nat.blt d N=true:=by rfl):
  aE false P N R ops (⟨some d,.box E x,ty,pos,af,none⟩::l) env H K:=
 aE.fresh (v:=λb=>.pointer (some ⟨b,0,none⟩)) e (λa w c s i=>⟨w.drawn,by
  have:=n5 o.h
  simp[execOp,c.eval g,Instr.box,newVar,this,lM]⟩) f
theorem aE.cm{d:Nat}{E:TypeId}{x:Operand}{cs:List Value}(g:ev env x=some (.agg cs.toArray))(f:∀b,aE false P N R ops l ((d,.pointer (some ⟨b,0,none⟩))::env) ([(b,.cells cs.toArray E (0,0))]::H) K)(e:Nat.blt d N=true:=by rfl):
  aE false P N R ops (⟨some d,.box E x,ty,pos,af,none⟩::l) env H K:=
 aE.fresh (v:=λb=>.pointer (some ⟨b,0,none⟩)) e (λa w c s h=>⟨w.drawn,by
  simp[execOp,c.eval g,Instr.box,newVar,lM,Value.cells]⟩) f
theorem aE.nZ{d:Nat}{E:TypeId}{z:Value} [f:Zr P E z] [o:One z](e:∀b,aE false P N R ops l ((d,.pointer (some ⟨b,0,none⟩))::env) ([(b,.cells [z].toArray E (0,0))]::H) K)(c:Nat.blt d N=true:=by rfl):
  aE false P N R ops (⟨some d,.alloc E,ty,pos,af,none⟩::l) env H K:=
 aE.fresh (v:=λb=>.pointer (some ⟨b,0,none⟩)) c (λa w g s i=>⟨w.drawn,by
  have:=n5 o.h
  simp[execOp,Instr.alloc,f.h,newVar,this,lM]⟩) e
theorem aE.bT{d:Nat}{E:TypeId}{cs:List Value} [f:Zr P E (.agg cs.toArray)](e:∀b,aE false P N R ops l ((d,.pointer (some ⟨b,0,none⟩))::env) ([(b,.cells cs.toArray E (0,0))]::H) K)(c:Nat.blt d N=true:=by rfl):
  aE false P N R ops (⟨some d,.alloc E,ty,pos,af,none⟩::l) env H K:=
 aE.fresh (v:=λb=>.pointer (some ⟨b,0,none⟩)) c (λa w g s i=>⟨w.drawn,by
  simp[execOp,Instr.alloc,f.h,newVar,lM,Value.cells]⟩) e
theorem aE.makeMap{d:Nat}{T:TypeId}(e:∀b,aE false P N R ops l ((d,.map (some b))::env) ([(b,.map #[] 0)]::H) K)(c:Nat.blt d N=true:=by rfl):
  aE false P N R ops (⟨some d,.makeMap T none,ty,pos,af,none⟩::l) env H K:=
 aE.fresh (v:=λb=>.map (some b)) c (λa w f s g=>⟨w.drawn,by
  simp[execOp,Instr.makeMap,newObj,Sem.run]⟩) e
class ew(P:Program)(t:TypeId)(places:outParam (List (Nat×Nat)))(zero:outParam (List Value)):Prop where
 h:∃fs:Array Field,P.underlying t=some (.struct fs)/\(∀w,(zeroValue t).run P w=.ok (.agg zero.toArray) w)/\∀w,(fs.mapM λf=>do pure (f.offset, <-sizeOf f.type):Sem _).run P w=.ok places.toArray w
def gm(places:List (Nat×Nat))(cells:List Value):List (Nat×Value)->Option (List Value)
 |[]=>some cells
 |(i,v)::r=>match places[i]? with
  |none=>none
  |some (off,size)=>match v with
   | .agg cs=>match Nat.beq cs.toList.length size&&Nat.ble (off+cs.toList.length) cells.length with
    |true=>gm places (cT cells off cs.toList) r
    |false=>none
   |v=>match Nat.beq 1 size&&Nat.ble (off+1) cells.length with
    |true=>gm places (cT cells off [v]) r
    |false=>none
theorem JO(cs:List Value):∀(off:Nat) (vs:List Value) (k:Nat),off+k+cs.length<=vs.length->(cs.zipIdx k).foldl (λ(c:Array Value) x=>c.setIfInBounds (off+x.2) x.1) vs.toArray=(cT vs (off+k) cs).toArray:=by
 induction cs with
 |nil=>intro off vs k _;simp[zF]
 |cons c cs ih=>
  intro off vs k h
  simp only[aam]at h
  rw[List.zipIdx_cons,aaK,zE (by omega)]
  simp only[List.setIfInBounds_toArray]
  rw[ih off _ (k+1) (by simp;omega),aay]
theorem s5{d:List (Nat×Nat)}:∀(parts:List (Nat×Value)) (cells:List Value) {out:List Value},gm d cells parts=some out->Instr.fill (d[·]?) cells.toArray parts=some out.toArray
 |[],cells,out,h=>by simp[gm]at h;simp[Instr.fill,h]
 |(i,v)::r,cells,out,h=>by
  simp only[gm]at h
  cases hp:d[i]? with
  |none=>simp[hp]at h
  |some os=>
   obtain⟨f,o⟩:=os
   simp only[hp]at h
   have j:∀a:List Value,v.cells=a.toArray->(Nat.beq a.length o&&Nat.ble (f+a.length) cells.length)=true->gm d (cT cells f a) r=some out->Instr.fill (d[·]?) cells.toArray ((i,v)::r)=some out.toArray:=by
    intro a g b m
    simp only[aan]at b
    have k:=aaM b.1
    have p:=aau b.2
    subst k
    have n:v.cells.size=a.length:=by rw[g];simp
    have l:=JO a f cells 0 (by omega)
    have e:v.cells.zipIdx.foldl (λa x=>a.setIfInBounds (f+x.2) x.1) cells.toArray=(cT cells f a).toArray:=by
     rw[g, <-Array.foldl_toList,Array.toList_zipIdx];exact l
    simp only[Instr.fill,hp,n,ne_eq,not_true]
    rw[aaa (by simp;omega)]
    refine Eq.trans ?_ (s5 r _ m)
    exact aaz (λc=>Instr.fill (d[·]?) c r) e
   cases v with
   |agg a=>
    simp only at h
    split at h
    ·rename_i b;exact j a.toList (by simp[Value.cells]) b h
    ·cases h
   |_=>
    simp only at h
    split at h
    ·rename_i b;exact j [_] rfl b h
    ·cases h
theorem w5{p q:Nat->Option (Nat×Nat)}:∀(parts:List (Nat×Value)),(∀x∈parts,p x.1=q x.1)->∀cells,Instr.fill p cells parts=Instr.fill q cells parts
 |[],_,cells=>rfl
 |(i,v)::r,h,cells=>by
  have a:=h (i,v) (by simp)
  simp only at a
  simp only[Instr.fill,a]
  split
  ·rfl
  ·split
   ·rfl
   ·exact w5 r (λx b=>h x (by simp[b])) _
theorem bd.build{H:aG}{t:TypeId}{b:List (Nat×Nat)}{zero out:List Value}{xs:List (Nat×Operand)}{parts:List (Nat×Value)} [e:ew P t b zero]
  (u:∀a,dP a env->xs.map (λp=>(p.1,a.eval p.2))=parts)(r:gm b zero parts=some out):bd P R env H (.build t xs.toArray) ty (.agg out.toArray):=λa w d v c g q s z=>by
 obtain⟨y,f,j,k⟩:=e.h
 have l:=s5 parts zero r
 have m:xs.toArray.map (λx=>(x.1,a.eval x.2))=parts.toArray:=by rw[aaX,u a q]
 have n:(execOp a.eval ⟨d,.build t xs.toArray,ty,v,c,g⟩)=(do pure (.value (<-Instr.build t parts.toArray))):=by
  show(do pure (Next.value (<-Instr.build t (xs.toArray.map λx:Nat×Operand=>(x.1,a.eval x.2)))))=_
  rw[m]
 have o:(λi:Nat=>b.toArray[i]?)=(λi:Nat=>b[i]?):=by funext i;simp
 rw[n]
 simp only[Instr.build,Sem.run_bind,j,Result.andThen_ok,run_underlying f,k,Value.cells,o,l]
 rfl
def lD(env:Env):List (Nat×Operand)->Option (List (Nat×Value))
 |[]=>some []
 |(i,x)::r=>match ev env x,lD env r with
  |some v,some vs=>some ((i,v)::vs)
  |_,_=>none
theorem dP.sS{a:Act}{env:Env}(h:dP a env):∀{xs:List (Nat×Operand)} {vs:List (Nat×Value)},lD env xs=some vs->xs.map (λp=>(p.1,a.eval p.2))=vs
 |[],vs,hx=>by simp[lD]at hx;simp[hx]
 |(i,x)::r,vs,hx=>by
  simp only[lD]at hx
  split at hx
  ·rename_i v d b c
   simp only[aad]at hx
   subst hx
   simp[h.eval b,h.sS c]
  ·cases hx
theorem bd.cD{H:aG}{t:TypeId}{b:List (Nat×Nat)}{zero out:List Value}{xs:List (Nat×Operand)}{parts:List (Nat×Value)} [f:ew P t b zero]
  (e:lD env xs=some parts:=by rfl)(d:gm b zero parts=some out:=by rfl):bd P R env H (.build t xs.toArray) ty (.agg out.toArray):=
 bd.build (λa c=>c.sS e) d
theorem aE.buildSlice{d:Nat}{T E:TypeId}{n k:Nat}{z:Value}{zs out:List Value}{xs:List (Nat×Operand)}{parts:List (Nat×Value)} [ut:bS P T (.slice E)] [sz:Sz P E k] [F:Zr P E z]
  (B:Nat.ble (n*k) (2^24)=true)(c:Nat.beq (n*k) 0=false)(D:((Array.range (n*k)).map (z.cells[· % z.cells.size]!))=zs.toArray)(C:lD env xs=some parts)
  (t:gm ((List.range n).map λi=>(i*k,k)) zs parts=some out)
  (u:∀b,aE false P N R ops l ((d,.slice (some ⟨b,0,none⟩) n n)::env) ([(b,.cells out.toArray E (0,0))]::H) K)(r:Nat.blt d N=true:=by rfl)(y:parts.all (λp=>Nat.blt p.1 n)=true:=by rfl):
  aE false P N R ops (⟨some d,.buildSlice T n xs.toArray,ty,pos,af,none⟩::l) env H K:=
 aE.fresh (v:=λb=>.slice (some ⟨b,0,none⟩) n n) r (λa w q s G=>⟨w.drawn,by
  have f:xs.toArray.map (λx=>(x.1,a.eval x.2))=parts.toArray:=by rw[aaX,q.sS C]
  have g:(execOp a.eval ⟨some d,.buildSlice T n xs.toArray,ty,pos,af,none⟩)=(do pure (.value (<-Instr.buildSlice T n parts.toArray))):=by
   show(do pure (Next.value (<-Instr.buildSlice T n (xs.toArray.map λx:Nat×Operand=>(x.1,a.eval x.2)))))=_
   rw[f]
  have j:Instr.fill (λi=>some (i*k,k)) zs.toArray parts=some out.toArray:=by
   rw[<-s5 parts zs t]
   refine w5 parts (λp A=>?_) zs.toArray
   have:p.1<n:=aau (aa3.1 y p A)
   simp[this]
  have m:¬n*k>2^24:=Nat.not_lt.2 (aau B)
  have o:¬n*k=0:=λe=>by rw[e]at c;cases c
  rw[g]
  simp only[Instr.buildSlice,Sem.run_bind,run_underlying ut.h,Result.andThen_ok,sz.h,aaa m,aaa o,Sem.run_pure,F.h,D,j,lM]⟩) u
end
end
section
def o4:Nat->List Value->Env
 |_,[]=>[]
 |i,v::vs=>(i,v)::o4 (i+1) vs
theorem BJ{vs:List Value}:∀(i t:Nat) (v:Value),(o4 i vs).get? t=some v->i<=t/\vs[t-i]? =some v:=by
 induction vs with
 |nil=>intro i t v h;cases h
 |cons u vs ih=>
  intro i t v h
  simp only[o4,Env.get?]at h
  split at h
  ·rename_i a
   have:=aaM a
   subst this
   simp only[aad]at h
   simp[h]
  ·have:=ih (i+1) t v h
   have b:t-i=(t-(i+1))+1:=by omega
   exact⟨by omega,by rw[b];simpa using this.2⟩
def rS(tmps:Array Value)(rv:ResultVar):Sem Value:=match rv with
 | .tmp t=>pure (tmps.getD t undef)
 | .cell x t=>do loadVar t (<-asAddr (tmps.getD x undef))
theorem tZ(a:Func)(b:Array Value):results a b=(do let vs<-a.results.mapM (rS b);pure (if h:vs.size=1 then vs[0]else .tuple vs)):=rfl
class RV(R:aw)(H:aG)(env:Env)(P:Program)(rv:ResultVar)(v:outParam Value):Prop where
 h:∀(a:Act) (w:World),dP a env->Sat w H->RO w R H->(rS a.tmps rv).run P w=.ok v w
section
variable{P:Program}{N:Nat}{R:aw}{env:Env}{H:aG}{Q:Exit->Env->aG->Prop}
theorem RV.tmp{t:Nat}{v:Value}(h:Env.get? env t=some v):RV R H env P (.tmp t) v:=⟨λa w b s c=>by
 have:=b t v h
 simp[rS,this]⟩
theorem RV.fH{x:Nat}{t:TypeId}{p:Value}{n:Nat}{vs:List Value}(j:Env.get? env x=some p) [c:cH P t true] [sz:Sz P t n] [rc:RC R H p vs](i:vs.length=n):RV R H env P (.cell x t) (.agg vs.toArray):=⟨λa w g s k=>by
 obtain⟨b,off,d,e⟩:=rF (P:=P) rc.h s k
 subst d;subst i
 have:=run_loadCellsFrom (P:=P) (w:=w) (b:=b) (off:=off) vs 0 #[] (by simpa using e)
 have f:=g x _ j
 simp[rS,f,asAddr,loadVar,c.h,sz.h,loadCells,this]⟩
def jG(P:Program)(R:aw)(rs:List ResultVar)(env:Env)(H:aG)(v:Value):Prop:=
 ∀(a:Act) (w:World) (fn:Func),fn.results=rs.toArray->dP a env->Sat w H->RO w R H->(results fn a.tmps).run P w=.ok v w
theorem jG.none:jG P R [] env H (.tuple #[]):=λa w c b d s e=>by simp[results,b]
theorem jG.one{r:ResultVar}{v:Value}(h:RV R H env P r v):jG P R [r] env H v:=λa w e c b s d=>by
 have:=h.h a w b s d
 rw[tZ,c]
 simp[this]
theorem jG.two{c d:ResultVar}{f g:Value}(k:RV R H env P c f)(l:RV R H env P d g):jG P R [c,d] env H (.tuple #[f,g]):=λa w n m b s e=>by
 have i:=k.h a w b s e
 have j:=l.h a w b s e
 rw[tZ,m]
 simp[i,j]
theorem jG.three{d e f:ResultVar}{g i j:Value}(n:RV R H env P d g)(o:RV R H env P e i)(p:RV R H env P f j):jG P R [d,e,f] env H (.tuple #[g,i,j]):=λa w r q b s c=>by
 have k:=n.h a w b s c
 have l:=o.h a w b s c
 have m:=p.h a w b s c
 rw[tZ,q]
 simp[k,l,m]
def rL(P:Program)(R:aw)(rs:List ResultVar)(Post:Value->aG->Prop):Exit->Env->aG->Prop
 | .normal,env,H=>∃v H',jG P R rs env H v/\bo H H'/\Post v H'
 | .ret,env,H=>∃v H',jG P R rs env H v/\bo H H'/\Post v H'
 |_,_,_=>False
theorem Spec.body{f:FuncId}{d:Func}{c:Code}{b:List Value}{rs:List ResultVar}{Post:Value->aG->Prop}(x:P.funcs[f]? =some d)(u:d.body=some c)(p:d.results=rs.toArray)(z:d.ntmps=N)(r:Nat.ble b.length N=true)
  (h:bq P N R c (o4 0 b) H (rL P R rs Post)):Spec P f b R H Post:=λw s A=>by
 refine calls_of_wp x u ?_
 have D:b.length<=N:=aau r
 have q:St N R {tmps:=b.toArray++Array.replicate (d.ntmps-b.toArray.size) undef,defers:=[]} w (o4 0 b) H w H:=by
  refine⟨rfl,by simp[z];omega,λt v j=>?_,s,A,Frame.refl w H⟩
  have:=(BJ 0 t v j).2
  simp only[aaR]at this
  have y:t<b.length:=by
   rcases aat t b.length with h|h
   ·exact h
   ·rw[List.getElem?_eq_none h]at this;cases this
  rw[Array.getElem?_append_left (by simpa using y)]
  simpa using this
 refine h _ w H (λe C B o k g a=>?_) _ w q
 cases e with
 |normal=>obtain⟨v,m,j,i,n⟩:=g;exact⟨a.defers,v,j o k d p a.env a.sat a.ro,v,m,rfl,n,i.sat a.sat,a.fr.trans (i.frame k)⟩
 |ret=>obtain⟨v,m,j,i,n⟩:=g;exact⟨a.defers,v,j o k d p a.env a.sat a.ro,v,m,rfl,n,i.sat a.sat,a.fr.trans (i.frame k)⟩
 |exit id=>exact g.elim
 |goto l=>exact g.elim
 |panic ch=>exact g.elim
 |outgrown=>exact g.elim
theorem aB{y:Code}(h:bq P N R y env H Q):jW P N R y Q .normal env H:=h
theorem ba{y:Code}(h:Q .ret env H):jW P N R y Q .ret env H:=h
theorem br{y:Code}{id:Nat}(h:Q (.exit id) env H):jW P N R y Q (.exit id) env H:=h
theorem bg{id:Nat}(h:Q .normal env H):ml id Q .normal env H:=h
theorem bF{id:Nat}(h:Q .ret env H):ml id Q .ret env H:=h
theorem bw{id:Nat}(h:Q .normal env H):ml id Q (.exit id) env H:=by simp only[ml,aae];exact h
theorem iJ{id a:Nat}(h:Q (.exit a) env H)(b:Nat.beq a id=false:=by rfl):ml id Q (.exit a) env H:=by
 have:¬a=id:=λe=>by subst e;rw[Nat.beq_refl]at b;cases b
 simp only[ml,aaa this];exact h
theorem dm{I:Env->aG->Prop}(h:Q .ret env H):py I Q .ret env H:=h
theorem bz{I:Env->aG->Prop}{id:Nat}(h:Q (.exit id) env H):py I Q (.exit id) env H:=h
theorem bm{rs:List ResultVar}{Post:Value->aG->Prop}{H':aG}(v:Value)(h:jG P R rs env H v)(a:bo H H')(b:Post v H'):rL P R rs Post .ret env H:=⟨v,H',h,a,b⟩
theorem fg{rs:List ResultVar}{Post:Value->aG->Prop}{H':aG}(v:Value)(h:jG P R rs env H v)(a:bo H H')(b:Post v H'):rL P R rs Post .normal env H:=⟨v,H',h,a,b⟩
theorem bo.none(H:aG):bo H []:=bo.pick [] H
theorem bo.one(is:List Nat)(H:aG):bo H [(take is H).flatten]:=⟨(rest is H).flatten,by simpa using lY is H⟩
theorem Spec.jg{f:FuncId}{g:List Value}{H':aG}{Post:Value->aG->Prop}(h:H.flatten=H'.flatten)(s:Spec P f g R H' Post):Spec P f g R H Post:=λw q i=>by
 have k:Sat w H':=q.perm (by rw[h])
 have l:RO w R H':=λb o c=>⟨(i b o c).1,by rw[<-h];exact(i b o c).2⟩
 refine(s w k l).mono λe t ⟨v,j,m,d,r,a⟩=>⟨v,j,m,d,r,a.le,λb c n=>a.ga b c (by rw[<-h];exact n),λp d=>by rw[h];exact a.jq p d,a.os,a.output,a.tape⟩
end
end
section
variable{α β:Type}
def Row(c:Array Value)(off:Nat)(cs:List Value):Prop:=∀k,k<cs.length->c[off+k]? =cs[k]?
theorem kT{enc:α->List Value}{sz:Nat}:∀{xs:List α},(∀x∈xs,(enc x).length=sz)->(xs.flatMap enc).length=xs.length*sz
 |[],_=>by simp
 |x::xs,h=>by
  rw[aaf,aaQ,kT (λy a=>h y (by simp[a])),h x (by simp),aam]
  rw[aag];omega
theorem xj{enc:α->List Value}{sz:Nat}:∀{xs:List α} {i:Nat} {x:α},(∀x∈xs,(enc x).length=sz)->xs[i]? =some x->∀j,j<sz->(xs.flatMap enc)[i*sz+j]? =(enc x)[j]?
 |[],i,x,_,h,j,_=>by simp at h
 |y::xs,0,x,hl,h,j,hj=>by
  simp only[aaB,aad]at h
  subst h
  rw[aaf,aaS (by rw[hl y (by simp)];omega)]
  simp
 |y::xs,i+1,x,hl,h,j,hj=>by
  simp only[aaT]at h
  have a:=hl y (by simp)
  rw[aaf,aaU (by rw[a,aag];omega),a,show(i+1)*sz+j-sz=i*sz+j by rw[aag];omega]
  exact xj (λz b=>hl z (by simp[b])) h j hj
theorem xk{enc:α->List Value}{sz:Nat}:∀{xs:List α} {i:Nat} {x x':α} {k:Nat} {cs:List Value},(∀x∈xs,(enc x).length=sz)->xs[i]? =some x->(enc x').length=sz->enc x'=cT (enc x) k cs->k+cs.length<=sz->
  (xs.set i x').flatMap enc=cT (xs.flatMap enc) (i*sz+k) cs
 |[],i,x,x',k,cs,_,h,_,_,_=>by simp at h
 |y::xs,0,x,x',k,cs,hl,h,hx',he,hk=>by
  simp only[aaB,aad]at h
  subst h
  have a:=hl y (by simp)
  simp only[List.set_cons_zero,aaf,he,iC,Nat.zero_mul,aaC]
  rw[List.take_append_of_le_length (by omega),List.drop_append_of_le_length (by omega)]
  simp
 |y::xs,i+1,x,x',k,cs,hl,h,hx',he,hk=>by
  simp only[aaT]at h
  have a:=hl y (by simp)
  have c:=xk (λz b=>hl z (by simp[b])) h hx' he hk
  simp only[List.set_cons_succ,aaf,c,iC]
  rw[List.take_append,List.drop_append,a,List.take_of_length_le (l:=enc y) (by rw[a,aag];omega),List.drop_eq_nil_of_le (show(enc y).length<=_ by rw[a,aag];omega)]
  rw[show(i+1)*sz+k-sz=i*sz+k by rw[aag];omega,show(i+1)*sz+k+cs.length-sz=i*sz+k+cs.length by rw[aag];omega]
  simp
structure RS(R:aw)(sz:Nat)(enc:α->List Value)(v:Value)(xs:List α):Prop where
 len:∀x∈xs,(enc x).length=sz
 one:∀x∈xs,∀u∈enc x,aC u=true
 h:∃p cap,v=.slice p xs.length cap/\xs.length<=cap/\cap<=maxLen/\(xs=[]\/∃b off c E fr,p=some ⟨b,off,none⟩/\R b (.cells c E fr)/\Row c off (xs.flatMap enc))
structure OS(E:TypeId)(sz:Nat)(enc:α->List Value)(v:Value)(xs:List α)(T:ap):Prop where
 len:∀x∈xs,(enc x).length=sz
 one:∀x∈xs,∀u∈enc x,aC u=true
 h:(v=.slice none 0 0/\xs=[]/\T=[])\/∃b off c cap,v=.slice (some ⟨b,off,none⟩) xs.length cap/\T=[(b,.cells c E (0,0))]/\xs.length<=cap/\cap<=maxLen/\off+cap*sz<=c.size/\Row c off (xs.flatMap enc)
theorem RS.mono{R R':aw}{sz:Nat}{enc:α->List Value}{v:Value}{xs:List α}(h:RS R sz enc v xs)(m:∀b o,R b o->R' b o):RS R' sz enc v xs:=
 ⟨h.len,h.one,by
  obtain⟨p,a,i,j,k,l⟩:=h.h
  refine⟨p,a,i,j,k,l.imp id λ⟨b,n,c,E,d,e,f,g⟩=>⟨b,n,c,E,d,e,m _ _ f,g⟩⟩⟩
theorem RS.rx{R:aw}{H:aG}{sz:Nat}{enc:α->List Value}{v:Value}{xs:List α}(h:RS R sz enc v xs):RS (Rx R H) sz enc v xs:=h.mono λ_ _=>.inl
theorem OS.rs{R:aw}{E:TypeId}{sz:Nat}{enc:α->List Value}{v:Value}{xs:List α}{T:ap}(h:OS E sz enc v xs T)(i:∀p∈T,R p.1 p.2):RS R sz enc v xs:=
 ⟨h.len,h.one,by
  rcases h.h with⟨rfl,rfl,rfl⟩|⟨b,a,c,d,rfl,rfl,e,f,j,g⟩
  ·exact⟨none,0,rfl,aab _,aao _,.inl rfl⟩
  ·exact⟨some ⟨b,a,none⟩,d,rfl,e,f,.inr ⟨b,a,c,E,(0,0),rfl,i (b,_) (by simp),g⟩⟩⟩
class eN(H:aG)(T:ap)(upd:outParam (ap->aG)):Prop where h:∃H1 H2,H=H1++T::H2/\∀T',upd T'=H1++T'::H2
instance eN.there{H:aG}{T T0:ap}{upd:ap->aG} [h:eN H T upd]:eN (T0::H) T (λT'=>T0::upd T'):=
 ⟨let ⟨H1,H2,h1,h2⟩:=h.h;⟨T0::H1,H2,by rw[h1];rfl,λT'=>by rw[h2];rfl⟩⟩
instance eN.here{H:aG}{T:ap}:eN (T::H) T (λT'=>T'::H):=⟨⟨[],H,rfl,λ_=>rfl⟩⟩
theorem eN.mem{H:aG}{T:ap}{c:ap->aG}(h:eN H T c):∀p∈T,p∈H.flatten:=by
 obtain⟨d,e,a,_⟩:=h.h
 subst a
 intro p b;simp[b]
theorem OS.rx{R:aw}{H:aG}{E:TypeId}{sz:Nat}{enc:α->List Value}{v:Value}{xs:List α}{T:ap}{b:ap->aG}(h:OS E sz enc v xs T) [s:eN H T b]:RS (Rx R H) sz enc v xs:=h.rs λp a=>.inr (s.mem p a)
theorem OS.nil{E:TypeId}{sz:Nat}{enc:α->List Value}:OS E sz enc (.slice none 0 0) ([]:List α) []:=⟨by simp,by simp,.inl ⟨rfl,rfl,rfl⟩⟩
theorem RS.aC{R:aw}{sz:Nat}{enc:α->List Value}{v:Value}{xs:List α}(h:RS R sz enc v xs):One v:=⟨by obtain⟨p,b,a,_⟩:=h.h;rw[a];rfl⟩
theorem OS.aC{E:TypeId}{sz:Nat}{enc:α->List Value}{v:Value}{xs:List α}{T:ap}(h:OS E sz enc v xs T):One v:=⟨by
 rcases h.h with⟨a,_,_⟩|⟨b,e,c,d,a,_⟩<;>rw[a]<;>rfl⟩
theorem RS.le{R:aw}{sz:Nat}{enc:α->List Value}{v:Value}{xs:List α}(h:RS R sz enc v xs):xs.length<=9223372036854775807:=by
 obtain⟨p,b,_,c,a,_⟩:=h.h
 unfold maxLen at a;omega
theorem OS.le{E:TypeId}{sz:Nat}{enc:α->List Value}{v:Value}{xs:List α}{T:ap}(h:OS E sz enc v xs T):xs.length<=9223372036854775807:=by
 rcases h.h with⟨_,a,_⟩|⟨b,f,c,e,_,_,a,d,_⟩
 ·subst a;simp
 ·unfold maxLen at d;omega
theorem RS.val{R:aw}{sz:Nat}{enc:α->List Value}{v:Value}{xs:List α}(h:RS R sz enc v xs):∃p cap,v=.slice p xs.length cap:=let ⟨p,cap,h1,_⟩:=h.h;⟨p,cap,h1⟩
theorem RS.pc{R:aw}{sz:Nat}{enc:α->List Value}{v:Value}{xs:List α}{i:Nat}{x:α}(h:RS R sz enc v xs)(a:xs[i]? =some x):PC R (eE v (i*sz)) (enc x):=by
 obtain⟨p,w,l,y,z,m⟩:=h.h
 have t:xs≠[]:=λe=>by subst e;simp at a
 obtain⟨b,u,c,E,d,rfl,f,g⟩:=m.resolve_left t
 subst l
 have s:=List.mem_of_getElem? a
 have A:=h.len x s
 refine⟨b,u+i*sz,c,E,d,?_,f,λj r=>?_⟩
 ·simp only[eE,Addr.add];split
  ·rename_i k;rw[k];rfl
  ·rfl
 ·have n:=xj h.len a j (by omega)
  have o:i*sz+j<(xs.flatMap enc).length:=by
   rw[kT h.len]
   have:i<xs.length:=(aaL.1 a).1
   have:=Nat.mul_le_mul_right sz this
   rw[aag]at this;omega
  have q:=g _ o
  rw[aay,q,n,aaJ r]
theorem OS.pc{E:TypeId}{sz:Nat}{enc:α->List Value}{v:Value}{xs:List α}{T:ap}{i:Nat}{x:α}(h:OS E sz enc v xs T)(b:xs[i]? =some x):PC (sg T) (eE v (i*sz)) (enc x):=
 (h.rs (R:=sg T) λp a=>a).pc b
section
variable{P:Program}{N:Nat}{R:aw}{ops:Array Oper}{l:List Oper}{env:Env}{H:aG}{K:Env->aG->Prop}{ty:TypeId}{pos:String}{af:Array Edge}{m:Bool}
theorem bd.Kf{x:Operand}{t e:TypeId}{p:Option Addr}{n cap:Nat}(c:ev env x=some (.slice p n cap)) [ut:bS P t (.slice e)]:bd P R env H (.call ⟨.builtin .len,#[x],#[t]⟩) ty (.int .i64 n):=λa w d i f g b _ _=>by
 simp[execOp,resolve,b.eval c,invoke,builtin,Builtin.len_,run_underlying ut.h,goInt]
theorem bd.cq{R':aw}{x:Operand}{t e:TypeId}{sz:Nat}{enc:α->List Value}{v:Value}{xs:List α}(h:RS R' sz enc v xs)(b:ev env x=some v:=by rfl) [ut:bS P t (.slice e)]:bd P R env H (.call ⟨.builtin .len,#[x],#[t]⟩) ty (.int .i64 xs.length):=by
 obtain⟨p,c,a⟩:=h.val
 subst a
 exact bd.Kf b
theorem bd.fz{x:Operand}{t e E:TypeId}{sz:Nat}{enc:α->List Value}{v:Value}{xs:List α}{T:ap}(h:OS E sz enc v xs T)(b:ev env x=some v:=by rfl) [ut:bS P t (.slice e)]:bd P R env H (.call ⟨.builtin .len,#[x],#[t]⟩) ty (.int .i64 xs.length):=
 bd.cq (h.rs (R:=sg T) λp a=>a) b
theorem Mx{t e:TypeId}{sz n cap i:Nat}{a:Addr}{k:IntKind}{w:World} [ut:bS P t (.slice e)] [s:Sz P e sz](c:i<n):(Instr.indexAt t (.slice (some a) n cap) (.int k i)).run P w=.ok (eE (.slice (some a) n cap) (i*sz)) w:=by
 have b:(0:Int)<=i/\(i:Int)<n:=by omega
 simp[Instr.indexAt,asIntOf,run_underlying ut.h,b,s.h,eE,c]
theorem bd.bZ{R':aw}{x y:Operand}{t e:TypeId}{sz:Nat}{enc:α->List Value}{v:Value}{xs:List α}{k:IntKind}{j:Int}{z:α}(i:Nat)(h:RS R' sz enc v xs)(l:xs[i]? =some z)(u:ev env x=some v)(A:ev env y=some (.int k j))(q:j=(i:Int)) [ut:bS P t (.slice e)] [s:Sz P e sz]:
  bd P R env H (.indexAddr t x y) ty (eE v (i*sz)):=λa w d L B g f _ _=>by
 obtain⟨p,C,m,I,J,n⟩:=h.h
 have r:xs≠[]:=λe=>by subst e;simp at l
 obtain⟨b,K,c,E,D,rfl,F,G⟩:=n.resolve_left r
 subst m;subst q
 have o:i<xs.length:=(aaL.1 l).1
 simp[execOp,f.eval u,f.eval A,Mx (P:=P) (e:=e) (sz:=sz) o]
theorem aE.bZ{d:Nat}{x y:Operand}{t e:TypeId}{sz:Nat}{enc:α->List Value}{v:Value}{xs:List α}{k:IntKind}{j:Int}{z:α}(i:Nat)(h:RS R sz enc v xs)(a:xs[i]? =some z) [ut:bS P t (.slice e)] [s:Sz P e sz]
  (f:PC R (eE v (i*sz)) (enc z)->aE m P N R ops l ((d,eE v (i*sz))::env) H K)(g:ev env x=some v:=by rfl)(n:ev env y=some (.int k j):=by rfl)(c:j=(i:Int):=by rfl)(b:Nat.blt d N=true:=by rfl):
  aE m P N R ops (⟨some d,.indexAddr t x y,ty,pos,af,none⟩::l) env H K:=
 aE.q (bd.bZ i h a g n c) (f (h.pc a)) b
theorem aE.aI{d:Nat}{x y:Operand}{t e E:TypeId}{sz:Nat}{enc:α->List Value}{v:Value}{xs:List α}{T:ap}{k:IntKind}{j:Int}{z:α}(i:Nat)(h:OS E sz enc v xs T)(a:xs[i]? =some z) [ut:bS P t (.slice e)] [s:Sz P e sz]
  (f:PS T (eE v (i*sz)) (enc z)->aE m P N R ops l ((d,eE v (i*sz))::env) H K)(n:ev env x=some v:=by rfl)(o:ev env y=some (.int k j):=by rfl)(c:j=(i:Int):=by rfl)(b:Nat.blt d N=true:=by rfl):
  aE m P N R ops (⟨some d,.indexAddr t x y,ty,pos,af,none⟩::l) env H K:=
 aE.q (bd.bZ i (h.rs (R:=sg T) λp g=>g) a n o c) (f ⟨h.pc a⟩) b
theorem run_sliceBound{x:Value}{y n:Nat}{k:IntKind}{a:BoundsCode}{w:World}(c:x=.int k n)(h:n<=y):(Instr.sliceBound x y a).run P w=.ok n w:=by
 subst c
 have b:(0:Int)<=n/\(n:Int)<=y:=by omega
 simp[Instr.sliceBound,asIntOf,b]
def fO(env:Env)(x:Option Operand)(dflt n:Nat):Prop:=match x with
 |none=>n=dflt
 |some o=>∃k,ev env o=some (.int k n)
theorem ul{t e:TypeId}{sz n cap lo d:Nat}{p:Option Addr}{j g:Option Operand}{a:Act}{w:World}(q:dP a env) [ut:bS P t (.slice e)] [s:Sz P e sz](i:fO env j 0 lo)(b:fO env g n d)(l:lo<=d)(m:d<=cap):
  (Instr.sliceAt t (.slice p n cap) (j.map a.eval) (g.map a.eval) none).run P w=.ok (.slice (if cap=lo then p else p.map (·.add (lo*sz))) (d-lo) (cap-lo)) w:=by
 have c:∀{x:Operand} {k:IntKind} {y n:Nat} {code:BoundsCode},ev env x=some (.int k n)->n<=y->(Instr.sliceBound (a.eval x) y code).run P w=.ok n w:=λv u=>run_sliceBound (q.eval v) u
 unfold Instr.sliceAt
 simp only[Sem.run_bind,run_underlying ut.h,Result.andThen_ok]
 unfold Instr.slice
 simp only[Sem.run_bind,run_underlying ut.h,Result.andThen_ok]
 unfold Instr.sliceBounds
 cases j with
 |none=>
  simp only[fO]at i
  subst i
  cases g with
  |none=>simp only[fO]at b;subst b;simp[s.h]
  |some o=>obtain⟨k,f⟩:=b;simp[s.h,c f m]
 |some o=>
  obtain⟨k,f⟩:=i
  cases g with
  |none=>simp only[fO]at b;subst b;simp[s.h,c f l]
  |some o'=>obtain⟨z,r⟩:=b;simp[s.h,c f l,c r m]
theorem Row.sub{c:Array Value}{off:Nat}{cs:List Value}(h:Row c off cs)(i n:Nat):Row c (off+i) ((cs.drop i).take n):=λk a=>by
 rw[aaP,aa1]at a
 rw[List.getElem?_take_of_lt (by omega),List.getElem?_drop,aay]
 exact h (i+k) (by omega)
theorem xi{enc:α->List Value}{sz:Nat}:∀{xs:List α} (i:Nat),(∀x∈xs,(enc x).length=sz)->(xs.drop i).flatMap enc=(xs.flatMap enc).drop (i*sz)
 |[],i,_=>by simp
 |x::xs,0,_=>by simp
 |x::xs,i+1,h=>by
  have a:=h x (by simp)
  rw[List.drop_succ_cons,xi i (λy b=>h y (by simp[b])),aaf,List.drop_append,a,List.drop_eq_nil_of_le (show(enc x).length<=_ by rw[a,aag];omega),aag]
  simp
theorem xl{enc:α->List Value}{sz:Nat}:∀{xs:List α} (i:Nat),(∀x∈xs,(enc x).length=sz)->(xs.take i).flatMap enc=(xs.flatMap enc).take (i*sz)
 |[],i,_=>by simp
 |x::xs,0,_=>by simp
 |x::xs,i+1,h=>by
  have a:=h x (by simp)
  rw[List.take_succ_cons,aaf,xl i (λy b=>h y (by simp[b])),aaf,List.take_append,a,List.take_of_length_le (l:=enc x) (by rw[a,aag];omega),aag]
  simp
theorem Row.piece{c:Array Value}{off sz:Nat}{enc:α->List Value}{xs:List α}(h:Row c off (xs.flatMap enc))(a:∀x∈xs,(enc x).length=sz)(lo n:Nat):Row c (off+lo*sz) (((xs.drop lo).take n).flatMap enc):=by
 rw[xl n (λx b=>a x (aaA b)),xi lo a]
 exact h.sub _ _
theorem bd.rW{R':aw}{x:Operand}{m l:Option Operand}{t e:TypeId}{sz:Nat}{enc:α->List Value}{v:Value}{xs:List α}(lo f:Nat)(h:RS R' sz enc v xs) [ut:bS P t (.slice e)] [s:Sz P e sz](y:fO env m 0 lo)(z:fO env l xs.length f)(A:lo<=f)(K:f<=xs.length)(i:ev env x=some v:=by rfl):
  ∃v',RS R' sz enc v' ((xs.drop lo).take (f-lo))/\bd P R env H (.slice t x m l none) ty v':=by
 obtain⟨p,cap,q,I,J,r⟩:=h.h
 subst q
 have k:((xs.drop lo).take (f-lo)).length=f-lo:=by simp;omega
 refine⟨.slice (if cap=lo then p else p.map (·.add (lo*sz))) (f-lo) (cap-lo),⟨λx i=>h.len x (aaA (aaI i)),λx i=>h.one x (aaA (aaI i)),_,_,by rw[k],by rw[k];omega,by omega,?_⟩,?_⟩
 ·rcases r with rfl|⟨b,C,c,E,o,rfl,D,F⟩
  ·exact .inl (by simp)
  ·by_cases B:cap=lo
   ·left
    have:f-lo=0:=by omega
    rw[this];simp
   ·right
    refine⟨b,C+lo*sz,c,E,o,?_,D,F.piece h.len lo (f-lo)⟩
    rw[aaa B]
    simp only[aas,Addr.add]
    split
    ·rename_i u;rw[u];rfl
    ·rfl
 ·intro a w d L G g j _ _
  have:=ul (P:=P) (w:=w) (p:=p) (n:=xs.length) (cap:=cap) j y z A (by omega) (t:=t) (e:=e) (sz:=sz)
  simp only[execOp,j.eval i,Option.map_none]
  rw[Sem.run_bind,this]
  rfl
theorem bd.p5{x:Operand}{F D:Option Operand}{t e E:TypeId}{sz:Nat}{enc:α->List Value}{v:Value}{xs:List α}{T:ap}(lo f:Nat)(h:OS E sz enc v xs T) [ut:bS P t (.slice e)] [s:Sz P e sz](u:fO env F 0 lo)(y:fO env D xs.length f)(z:lo<=f)(A:f<=xs.length)(j:ev env x=some v:=by rfl):
  ∃v',OS E sz enc v' ((xs.drop lo).take (f-lo)) T/\bd P R env H (.slice t x F D none) ty v':=by
 have B:=λx j=>h.len x (aaA (aaI (i:=f-lo) (l:=xs.drop lo) j))
 have C:=λx j=>h.one x (aaA (aaI (i:=f-lo) (l:=xs.drop lo) j))
 have q:((xs.drop lo).take (f-lo)).length=f-lo:=by simp;omega
 rcases h.h with⟨rfl,rfl,rfl⟩|⟨b,o,c,cap,rfl,rfl,Q,S,U,L⟩
 ·have J:lo=0:=by simp at A;omega
  have K:f=0:=by simpa using A
  subst J;subst K
  refine⟨.slice none 0 0,⟨B,C,.inl ⟨rfl,by simp,rfl⟩⟩,λa w d O G g m _ _=>?_⟩
  have:=ul (P:=P) (w:=w) (p:=none) (n:=0) (cap:=0) m u y z (by omega) (t:=t) (e:=e) (sz:=sz)
  simp only[execOp,m.eval j,Option.map_none]
  rw[Sem.run_bind,this]
  rfl
 ·refine⟨.slice (if cap=lo then some ⟨b,o,none⟩else(some (⟨b,o,none⟩:Addr)).map (·.add (lo*sz))) (f-lo) (cap-lo),⟨B,C,.inr ?_⟩,λa w d O G g m _ _=>?_⟩
  ·by_cases r:cap=lo
   ·have I:f-lo=0:=by omega
    refine⟨b,o,c,cap-lo,?_,rfl,by rw[q];omega,by omega,?_,?_⟩
    ·rw[q,aac r]
    ·rw[r,Nat.sub_self];simp;omega
    ·rw[I];intro k N;simp at N
   ·refine⟨b,o+lo*sz,c,cap-lo,?_,rfl,by rw[q];omega,by omega,?_,L.piece h.len lo (f-lo)⟩
    ·rw[q,aaa r]
     simp only[aas,Addr.add]
     split
     ·rename_i M;rw[M];rfl
     ·rfl
    ·have:(cap-lo)*sz=cap*sz-lo*sz:=Nat.sub_mul ..
     have V:lo*sz<=cap*sz:=Nat.mul_le_mul_right _ (by omega)
     omega
  ·have:=ul (P:=P) (w:=w) (p:=some ⟨b,o,none⟩) (n:=xs.length) (cap:=cap) m u y z (by omega) (t:=t) (e:=e) (sz:=sz)
   simp only[execOp,m.eval j,Option.map_none]
   rw[Sem.run_bind,this]
   rfl
end
end
section
set_option linter.unusedVariables false
structure Ed where
 f:Nat
 t:Nat
 a:Bool
deriving DecidableEq
def Ed.w(e:Ed):Nat:=if e.a then 1 else 0
def gY(now next:List Nat)(e:Ed):List Nat:=if next.getD e.f 0<now.getD e.t 0+e.w then next.set e.f (now.getD e.t 0+e.w)else next
def qU(E:List Ed)(n:Nat)(now:List Nat):List Nat:=E.foldl (gY now) (List.replicate n 0)
def level(E:List Ed)(n:Nat):Nat->List Nat
 |0=>List.replicate n 0
 |s+1=>qU E n (level E n s)
def fB(n:List Nat)(e:Ed):List Nat:=if n.getD e.f 0<n.getD e.t 0+e.w then n.set e.f (n.getD e.t 0+e.w)else n
def pass(E:List Ed)(n:List Nat):List Nat:=E.foldl fB n
def settle(E:List Ed):Nat->List Nat->Option (List Nat)
 |0,_=>none
 |k+1,n=>if pass E n=n then some n else settle E k (pass E n)
def gM(E:List Ed)(v:List Nat):Prop:=∀e∈E,v.getD e.t 0+e.w<=v.getD e.f 0
section
variable{E:List Ed}{n:Nat}
theorem m6(l:List Nat)(i j x:Nat)(h:i<l.length):(l.set i x).getD j 0=if i=j then x else l.getD j 0:=by
 rw[aaj,aaj,aa2]
 split
 ·rename_i e;subst e;simp
 ·rfl
theorem qX(now next:List Nat)(e:Ed):(gY now next e).length=next.length:=by unfold gY;split<;>simp
theorem xE(now:List Nat):∀(E:List Ed) (next:List Nat),(E.foldl (gY now) next).length=next.length
 |[],_=>rfl
 |e::E,next=>by rw[aaK,xE now E,qX]
theorem J1(now:List Nat):(qU E n now).length=n:=by unfold qU;rw[xE,List.length_replicate]
theorem lK:∀k,(level E n k).length=n
 |0=>by simp[level]
 |k+1=>by rw[level,J1]
theorem J5(now next:List Nat)(e:Ed)(b:e.f<next.length)(i:Nat):next.getD i 0<=(gY now next e).getD i 0:=by
 unfold gY
 split
 ·rw[m6 _ _ _ _ b]
  split
  ·rename_i c a;subst a;omega
  ·exact aab _
 ·exact aab _
theorem J7(now next:List Nat)(e:Ed)(a:e.f<next.length):now.getD e.t 0+e.w<=(gY now next e).getD e.f 0:=by
 unfold gY
 split
 ·rw[m6 _ _ _ _ a,aac rfl];exact aab _
 ·omega
theorem J6(now next:List Nat)(e:Ed)(b:e.f<next.length)(i:Nat):(gY now next e).getD i 0=next.getD i 0\/(e.f=i/\(gY now next e).getD i 0=now.getD e.t 0+e.w):=by
 unfold gY
 split
 ·rw[m6 _ _ _ _ b]
  split
  ·rename_i a;exact .inr ⟨a,rfl⟩
  ·exact .inl rfl
 ·exact .inl rfl
theorem xD(now:List Nat)(i:Nat):∀(E:List Ed) (next:List Nat),(∀e∈E,e.f<next.length)->next.getD i 0<=(E.foldl (gY now) next).getD i 0
 |[],_,_=>aab _
 |e::E,next,h=>by
  rw[aaK]
  have b:=h e aah
  exact aai (J5 now next e b i) (xD now i E _ λa c=>by rw[qX];exact h a (aak _ c))
theorem xG(now:List Nat):∀(E:List Ed) (next:List Nat),(∀e∈E,e.f<next.length)->∀e∈E,now.getD e.t 0+e.w<=(E.foldl (gY now) next).getD e.f 0
 |[],_,_,e,he=>by cases he
 |x::E,next,h,e,he=>by
  rw[aaK]
  have c:=h x aah
  have b:∀a∈E,a.f<(gY now next x).length:=λa d=>by rw[qX];exact h a (aak _ d)
  rcases aaw.1 he with rfl|he
  ·exact aai (J7 now next e c) (xD now e.f E _ b)
  ·exact xG now E _ b e he
theorem xF(now:List Nat)(i:Nat):∀(E:List Ed) (next:List Nat),(∀e∈E,e.f<next.length)->(E.foldl (gY now) next).getD i 0=next.getD i 0\/∃e∈E,e.f=i/\(E.foldl (gY now) next).getD i 0=now.getD e.t 0+e.w
 |[],_,_=>.inl rfl
 |x::E,next,h=>by
  rw[aaK]
  have b:=h x aah
  have c:∀a∈E,a.f<(gY now next x).length:=λa k=>by rw[qX];exact h a (aak _ k)
  rcases xF now i E _ c with h3|⟨e,j,h3,d⟩
  ·rcases J6 now next x b i with h5|⟨h5,g⟩
   ·exact .inl (h3.trans h5)
   ·exact .inr ⟨x,aah,h5,h3.trans g⟩
  ·exact .inr ⟨e,aak _ j,h3,d⟩
theorem pe(n i:Nat):(List.replicate n 0).getD i 0=0:=by
 rw[aaj,List.getElem?_replicate]
 split<;>rfl
variable(hE:∀e∈E,e.f<n)
include hE
theorem tn(k:Nat):∀e∈E,(level E n k).getD e.t 0+e.w<=(level E n (k+1)).getD e.f 0:=
 xG _ E _ (by simpa using hE)
theorem og(k i:Nat):(level E n (k+1)).getD i 0=0\/∃e∈E,e.f=i/\(level E n (k+1)).getD i 0=(level E n k).getD e.t 0+e.w:=by
 have h:=xF (level E n k) i E (List.replicate n 0) (by simpa using hE)
 rw[pe]at h
 exact h
theorem q6:∀(k i:Nat),(level E n k).getD i 0<=(level E n (k+1)).getD i 0
 |0,i=>by rw[level,pe];exact aao _
 |k+1,i=>by
  rcases og hE k i with h|⟨e,a,rfl,h⟩
  ·rw[h];exact aao _
  ·rw[h]
   exact aai (Nat.add_le_add_right (q6 k e.t) _) (tn hE (k+1) e a)
theorem xV{k m:Nat}(h:k<=m)(i:Nat):(level E n k).getD i 0<=(level E n m).getD i 0:=by
 induction m with
 |zero=>rw[Nat.le_zero.1 h];exact aab _
 |succ m ih=>
  rcases aat m k with h1|h1
  ·rw[show k=m+1 from by omega];exact aab _
  ·exact aai (ih h1) (q6 hE m i)
theorem xU{v:List Nat}(a:gM E v):∀(k i:Nat),(level E n k).getD i 0<=v.getD i 0
 |0,i=>by rw[level,pe];exact aao _
 |k+1,i=>by
  rcases og hE k i with h|⟨e,b,rfl,h⟩
  ·rw[h];exact aao _
  ·rw[h];exact aai (Nat.add_le_add_right (xU a k e.t) _) (a e b)
theorem xT:∀(k i:Nat),(level E n k).getD i 0<=k
 |0,i=>by rw[level,pe];exact aab _
 |k+1,i=>by
  rcases og hE k i with h|⟨e,a,rfl,h⟩
  ·rw[h];exact aao _
  ·rw[h];have:=xT k e.t;have:e.w<=1:=by unfold Ed.w;split<;>omega
   omega
end
theorem yR:∀(n:Nat) (g:Nat->Nat),(∀j,j<=n->g j<n)->∃a b,a<b/\b<=n/\g a=g b
 |0,g,h=>absurd (h 0 (aab _)) (by omega)
 |n+1,g,h=>by
  by_cases f:∃j,j<=n/\g j=g (n+1)
  ·obtain⟨j,c,e⟩:=f
   exact⟨j,n+1,by omega,aab _,e⟩
  ·have d:∀j,j<=n->g j≠g (n+1):=λj c e=>f ⟨j,c,e⟩
   obtain⟨a,b,i,k,e⟩:=yR n (λj=>if g j=n then g (n+1)else g j) λj c=>by
    have l:=h j (by omega)
    have m:=h (n+1) (aab _)
    have o:=d j c
    split<;>omega
   refine⟨a,b,i,by omega,?_⟩
   have p:=d a (by omega)
   have q:=d b k
   split at e<;>split at e<;>omega
section
variable{E:List Ed}{n:Nat}(hE:∀e∈E,e.f<n)(hT:∀e∈E,e.t<n)
include hE hT
theorem chain{v:List Nat}(c:gM E v):∀(m i:Nat),i<n->(level E n m).getD i 0<(level E n (m+1)).getD i 0->
  ∃g:Nat->Nat,g 0=i/\(∀j,j<=m+1->g j<n)/\(∀j,j<=m->(level E n (m-j)).getD (g j) 0<(level E n (m+1-j)).getD (g j) 0)/\
   ∀j,j<=m->v.getD (g (j+1)) 0+(level E n (m+1-j)).getD (g j) 0<=v.getD (g j) 0+(level E n (m-j)).getD (g (j+1)) 0
 |0,i,hi,h=>by
  rcases og hE 0 i with h1|⟨e,a,rfl,h1⟩
  ·omega
  ·refine⟨λj=>if j=0 then e.f else e.t,by simp,λj b=>?_,λj b=>?_,λj b=>?_⟩
   ·simp only;split
    ·exact hi
    ·exact hT e a
   ·rw[show j=0 from by omega];simpa using h
   ·rw[show j=0 from by omega]
    have:=c e a
    simp only[aaC,aaR,aae,Nat.one_ne_zero,aar]
    rw[h1];omega
 |m+1,i,hi,h=>by
  rcases og hE (m+1) i with h1|⟨e,a,rfl,h1⟩
  ·omega
  ·have p:=tn hE m e a
   obtain⟨g,d,k,l,o⟩:=chain c m e.t (hT e a) (by omega)
   refine⟨λj=>if j=0 then e.f else g (j-1),by simp,λj b=>?_,λj b=>?_,λj b=>?_⟩
   ·simp only;split
    ·exact hi
    ·exact k _ (by omega)
   ·cases j with
    |zero=>simpa using h
    |succ j=>
     have:=l j (by omega)
     simp only[Nat.succ_ne_zero,aar,aaV,Nat.add_sub_add_right]
     exact this
   ·cases j with
    |zero=>
     have:=c e a
     simp only[aaC,aaR,aae,Nat.one_ne_zero,aar,Nat.sub_self]
     rw[h1,d];omega
    |succ j=>
     have:=o j (by omega)
     simp only[Nat.succ_ne_zero,aar,aaV,Nat.add_sub_add_right]
     exact this
theorem Kg{v:List Nat}(s:gM E v)(m:Nat)(x:m+1=n)(i:Nat)(q:i<n):(level E n (m+1)).getD i 0=(level E n m).getD i 0:=by
 refine aaD (Nat.not_lt.1 λh=>?_) (q6 hE m i)
 obtain⟨g,_,l,o,p⟩:=chain hE hT s m i q h
 obtain⟨a,b,u,w,e⟩:=yR n g λj r=>l j (by omega)
 have f:∀j,a+j<=n->v.getD (g (a+j)) 0+(level E n (m+1-a)).getD (g a) 0<=v.getD (g a) 0+(level E n (m+1-(a+j))).getD (g (a+j)) 0:=by
  intro j
  induction j with
  |zero=>intro _;rw[Nat.add_zero];exact aab _
  |succ j ih=>
   intro r
   have c:=ih (by omega)
   have d:=p (a+j) (by omega)
   rw[show a+(j+1)=a+j+1 from rfl]
   rw[show m+1-(a+j+1)=m-(a+j)from by omega]
   omega
 have c:=f (b-a) (by omega)
 rw[show a+(b-a)=b from by omega, <-e]at c
 have d:=o a (by omega)
 have t:=xV hE (k:=m+1-b) (m:=m-a) (by omega) (g a)
 omega
omit hE hT in
theorem ng{l m:List Nat}(h:l.length=m.length)(b:∀i,i<l.length->l.getD i 0=m.getD i 0):l=m:=by
 refine List.ext_getElem h λi a c=>?_
 have:=b i a
 rw[aaj,aaj,aaJ a,aaJ c]at this
 simpa using this
omit hT in
theorem xR{m:Nat}(h:level E n (m+1)=level E n m):gM E (level E n m):=λe a=>by
 have:=tn hE m e a
 rwa [h]at this
omit hE hT in
theorem xW{m:Nat}(h:level E n (m+1)=level E n m):∀k,level E n (m+k)=level E n m
 |0=>rfl
 |k+1=>by rw[show m+(k+1)=m+k+1 from rfl,level,xW h k];exact h
theorem q0{v:List Nat}(b:gM E v)(d:0<n):gM E (level E n (n-1))/\(∀k,n-1<=k->level E n k=level E n (n-1))/\(∀i,(level E n (n-1)).getD i 0<n):=by
 have h:level E n (n-1+1)=level E n (n-1):=ng (by rw[lK,lK]) λi a=>Kg hE hT b (n-1) (by omega) i (by rw[lK]at a;exact a)
 refine⟨xR hE h,λk c=>?_,λi=>?_⟩
 ·have:=xW h (k-(n-1))
  rwa [show n-1+(k-(n-1))=k from by omega]at this
 ·have:=xT hE (n-1) i
  omega
def mw(E:List Ed)(n:Nat):Bool:=decide (level E n (n+1)=level E n ((n+1)*(n+1)))&&(level E n (n+1)).all λx=>decide (x<n)
theorem qE(c:0<n):mw E n=true↔∃v,gM E v:=by
 constructor
 ·intro h
  unfold mw at h
  simp only[aan,aaE]at h
  refine⟨_,xR hE (m:=n+1) (ng (by rw[lK,lK]) λi _=>aaD ?_ (q6 hE (n+1) i))⟩
  have a:=xV hE (k:=n+1+1) (m:=(n+1)*(n+1)) (by
   have:(n+1)*(n+1)=n*n+2*n+1:=by rw[Nat.add_mul,Nat.mul_add];omega
   have b:1<=n*n:=Nat.mul_le_mul c c
   omega) i
  rw[<-h.1]at a
  exact a
 ·rintro⟨v,f⟩
  obtain⟨a,b,d⟩:=q0 hE hT f c
  unfold mw
  rw[b (n+1) (by omega),b ((n+1)*(n+1)) (by
   have:(n+1)*(n+1)=n*n+2*n+1:=by rw[Nat.add_mul,Nat.mul_add];omega
   omega)]
  simp only[decide_true,Bool.true_and,aa3,aaE]
  intro x g
  obtain⟨i,e,rfl⟩:=List.getElem_of_mem g
  have:=d i
  rw[aaj,aaJ e]at this
  exact this
end
section
variable{E:List Ed}{n:Nat}
theorem oC(l:List Nat)(e:Ed):(fB l e).length=l.length:=by unfold fB;split<;>simp
theorem rE:∀(E:List Ed) (l:List Nat),(pass E l).length=l.length
 |[],_=>rfl
 |e::E,l=>by
  show(pass E (fB l e)).length=_
  rw[rE E,oC]
theorem rP(l:List Nat)(e:Ed)(b:e.f<l.length)(i:Nat):l.getD i 0<=(fB l e).getD i 0:=by
 unfold fB
 split
 ·rw[m6 _ _ _ _ b]
  split
  ·rename_i c a;subst a;omega
  ·exact aab _
 ·exact aab _
theorem Mg(l:List Nat)(e:Ed)(a:e.f<l.length)(now:Nat)(h:now<=l.getD e.t 0):now+e.w<=(fB l e).getD e.f 0:=by
 unfold fB
 split
 ·rw[m6 _ _ _ _ a,aac rfl];omega
 ·omega
theorem Md{v l:List Nat}(e:Ed)(b:e.f<l.length)(c:v.getD e.t 0+e.w<=v.getD e.f 0)(h:∀i,l.getD i 0<=v.getD i 0)(i:Nat):(fB l e).getD i 0<=v.getD i 0:=by
 unfold fB
 split
 ·rw[m6 _ _ _ _ b]
  split
  ·rename_i a;subst a;have:=h e.t;omega
  ·exact h i
 ·exact h i
theorem tQ:∀(E:List Ed) (l:List Nat),(∀e∈E,e.f<l.length)->∀i,l.getD i 0<=(pass E l).getD i 0
 |[],_,_,_=>aab _
 |e::E,l,h,i=>by
  have b:=h e aah
  exact aai (rP l e b i) (tQ E (fB l e) (λa c=>by rw[oC];exact h a (aak _ c)) i)
theorem tS(now:List Nat):∀(E:List Ed) (l:List Nat),(∀e∈E,e.f<l.length)->(∀i,now.getD i 0<=l.getD i 0)->∀e∈E,now.getD e.t 0+e.w<=(pass E l).getD e.f 0
 |[],_,_,_,e,he=>by cases he
 |x::E,l,h,h2,e,he=>by
  have b:=h x aah
  have c:∀a∈E,a.f<(fB l x).length:=λa d=>by rw[oC];exact h a (aak _ d)
  show _<=(pass E (fB l x)).getD e.f 0
  rcases aaw.1 he with rfl|he
  ·exact aai (Mg l e b _ (h2 e.t)) (tQ E _ c e.f)
  ·exact tS now E _ c (λi=>aai (h2 i) (rP l x b i)) e he
theorem tP{v:List Nat}:∀(E:List Ed) (l:List Nat),(∀e∈E,e.f<l.length)->gM E v->(∀i,l.getD i 0<=v.getD i 0)->∀i,(pass E l).getD i 0<=v.getD i 0
 |[],_,_,_,h=>h
 |e::E,l,h,hv,h2=>by
  have c:=h e aah
  exact tP E (fB l e) (λa b=>by rw[oC];exact h a (aak _ b)) (λa b=>hv a (aak _ b)) (Md e c (hv e aah) h2)
theorem tR{l:List Nat}(a:∀e∈E,e.f<l.length):pass E l=l↔gM E l:=by
 constructor
 ·intro h e b
  have:=tS l E l a (λ_=>aab _) e b
  rwa [h]at this
 ·intro h
  exact ng (rE E l) λi _=>aaD (tP E l a h (λ_=>aab _) i) (tQ E l a i)
def kx(E:List Ed)(n:Nat):Nat->List Nat
 |0=>List.replicate n 0
 |k+1=>pass E (kx E n k)
theorem oy:∀k,(kx E n k).length=n
 |0=>by simp[kx]
 |k+1=>by rw[kx,rE,oy k]
theorem yQ(a:∀e∈E,e.f<n):∀(k i:Nat),(level E n k).getD i 0<=(kx E n k).getD i 0
 |0,i=>aab _
 |k+1,i=>by
  rcases og a k i with h|⟨e,b,rfl,h⟩
  ·rw[h];exact aao _
  ·rw[h];exact tS _ E _ (by rw[oy];exact a) (yQ a k) e b
theorem tT(a:∀e∈E,e.f<n){v:List Nat}(b:gM E v):∀(k i:Nat),(kx E n k).getD i 0<=v.getD i 0
 |0,i=>by rw[kx,pe];exact aao _
 |k+1,i=>tP E _ (by rw[oy];exact a) b (tT a b k) i
theorem zL:∀(k:Nat) (l:List Nat),(∀e∈E,e.f<l.length)->(¬∃v,gM E v)->settle E k l=none
 |0,_,_,_=>rfl
 |k+1,l,hl,h=>by
  unfold settle
  rw[aaa λa=>h ⟨l,(tR hl).1 a⟩]
  exact zL k _ (by rw[rE];exact hl) h
theorem zK(a:∀e∈E,e.f<n){f:List Nat}(b:gM E f)(c:f.length=n)(g:∀v,gM E v->∀i,f.getD i 0<=v.getD i 0)(r:Nat)(o:kx E n r=f):∀(d j:Nat),j+d=r->∀k,d+1<=k->settle E k (kx E n j)=some f
 |0,j,hj,k,hk=>by
  obtain⟨k,rfl⟩:∃k',k=k'+1:=⟨k-1,by omega⟩
  have:kx E n j=f:=by rw[<-o, <-hj];rfl
  unfold settle
  rw[this,aac ((tR (by rw[c];exact a)).2 b)]
 |d+1,j,hj,k,hk=>by
  obtain⟨k,rfl⟩:∃k',k=k'+1:=⟨k-1,by omega⟩
  unfold settle
  split
  ·rename_i h
   have p:=(tR (by rw[oy];exact a)).1 h
   rw[ng (l:=kx E n j) (m:=f) (by rw[oy,c]) λi _=>aaD (tT a b j i) (g _ p i)]
  ·exact zK a b c g r o d (j+1) (by omega) k (by omega)
theorem M4(a:∀e∈E,e.f<n)(b:∀e∈E,e.t<n):settle E (n+1) (List.replicate n 0)=if mw E n=true then some (level E n (n+1))else none:=by
 rcases Nat.eq_zero_or_pos n with rfl|hn
 ·have:E=[]:=by
   cases E with
   |nil=>rfl
   |cons e E=>exact absurd (a e aah) (by omega)
  subst this
  simp[settle,pass,mw,level,qU]
 ·by_cases h:∃v,gM E v
  ·rw[aac ((qE a b hn).2 h)]
   obtain⟨v,c⟩:=h
   obtain⟨d,g,k⟩:=q0 a b c hn
   rw[g (n+1) (by omega)]
   refine zK a d (lK _) (λv c i=>xU a c _ i) (n-1) ?_ (n-1) 0 (by omega) (n+1) (by omega)
   exact ng (by rw[oy,lK]) λi _=>aaD (tT a d _ i) (yQ a _ i)
  ·rw[aaa λj=>h ((qE a b hn).1 j)]
   exact zL _ _ (by simpa using a) h
end
structure Nd where
 kind:Int
 rel:ByteArray
 eR:ByteArray
 a:Int
 b:Int
def Nd.op(n:Nd):Bool:=n.kind==4||n.kind==5||n.kind==6
def Nd.leaf(W:ByteArray->Bool)(n:Nd):Bool:=
 (n.a==0&&n.b==0)&&(if n.kind=1 then decide (n.rel=⟨#[]⟩)&&decide (n.eR=⟨#[]⟩)else if n.kind=2 then W n.rel&&decide (n.eR=⟨#[]⟩)else if n.kind=3 then W n.rel&&W n.eR else false)
def tree(W:ByteArray->Bool)(l:List Nd)(m:Nat):Option (Nat×Nat):=
 match m with
 |0=>none
 |e+1=>match l[e]? with
  |none=>none
  |some n=>
   if n.op then
    match tree W l e with
    |none=>none
    |some (b,x)=>if h:b<=e then
     match tree W l b with
     |none=>none
     |some (a,y)=>if n.a≠(b:Int)-1\/n.b≠(e:Int)-1\/n.rel≠⟨#[]⟩\/n.eR≠⟨#[]⟩then none else some (a,max x y+1)
     else none
   else if n.leaf W then some (e,1)else none
termination_by m
def gj(W:ByteArray->Bool)(l:List Nd):Nat:=
 match tree W l l.length with
 |none=>0
 |some (b,x)=>if b=0 then x else 0
def gk(W:ByteArray->Bool)(S:List (Nat×Nat))(n:Nd):Option (List (Nat×Nat)):=
 if n.op then
  if n.rel≠⟨#[]⟩\/n.eR≠⟨#[]⟩\/n.b≠(S.length:Int)-1\/n.b<0\/n.a≠(S.length:Int)-1-(S.getD (S.length-1) (0,0)).1\/n.a<0 then none
  else some (S++[((S.getD n.a.toNat (0,0)).1+(S.getD n.b.toNat (0,0)).1+1,max (S.getD n.a.toNat (0,0)).2 (S.getD n.b.toNat (0,0)).2+1)])
 else if n.leaf W then some (S++[(1,1)])else none
def ik(W:ByteArray->Bool):List Nd->List (Nat×Nat)->Option (List (Nat×Nat))
 |[],S=>some S
 |n::l,S=>(gk W S n).bind (ik W l)
def n6(W:ByteArray->Bool)(l:List Nd):Nat:=
 match ik W l []with
 |none=>0
 |some S=>if l=[]\/(S.getD (l.length-1) (0,0)).1≠l.length then 0 else(S.getD (l.length-1) (0,0)).2
section
variable{W:ByteArray->Bool}{l:List Nd}
theorem l8{e:Nat}{n:Nd}(a:l[e]? =some n)(h:n.op=false):tree W l (e+1)=if n.leaf W then some (e,1)else none:=by
 rw[tree];simp only[a,h,aa4,aar]
theorem nQ{e:Nat}{n:Nd}{r:Nat×Nat}(j:l[e]? =some n)(h:n.op=true)(c:tree W l (e+1)=some r):
  ∃b x y,tree W l e=some (b,x)/\b<=e/\tree W l b=some (r.1,y)/\n.a=(b:Int)-1/\n.b=(e:Int)-1/\n.rel=⟨#[]⟩/\n.eR=⟨#[]⟩/\r.2=max x y+1:=by
 rw[tree]at c
 simp only[j,h,aae]at c
 split at c
 ·cases c
 ·rename_i b x g
  split at c
  ·rename_i i
   split at c
   ·cases c
   ·rename_i a y f
    split at c
    ·cases c
    ·rename_i d
     cases c
     simp only[not_or,Decidable.not_not]at d
     exact⟨b,x,y,g,i,f,d.1,d.2.1,d.2.2.1,d.2.2.2,rfl⟩
  ·cases c
theorem NX{e b x a y:Nat}{n:Nd}(m:l[e]? =some n)(h:n.op=true)(c:tree W l e=some (b,x))(d:b<=e)(f:tree W l b=some (a,y))(g:n.a=(b:Int)-1)(i:n.b=(e:Int)-1)(j:n.rel=⟨#[]⟩)(k:n.eR=⟨#[]⟩):
  tree W l (e+1)=some (a,max x y+1):=by
 rw[tree]
 simp only[m,h,aae,c,d,dif_pos,f]
 rw[aaa]
 simp[g,i,j,k]
theorem hU:∀(m:Nat) (r:Nat×Nat),tree W l m=some r->0<m/\m<=l.length/\r.1<m/\∀i,r.1<=i->i<m->(tree W l (i+1)).isSome=true
 |m,r,h=>by
  cases m with
  |zero=>rw[tree]at h;cases h
  |succ e=>
   cases hn:l[e]? with
   |none=>rw[tree]at h;simp only[hn]at h;cases h
   |some n=>
    have v:=(aaL.1 hn).1
    by_cases c:n.op=true
    ·obtain⟨b,x,y,d,u,f,_⟩:=nQ hn c h
     obtain⟨_,_,g,j⟩:=hU e _ d
     obtain⟨_,_,k,o⟩:=hU b _ f
     refine⟨by omega,by omega,by simp only at g k;omega,λi a s=>?_⟩
     by_cases p:i=e
     ·subst p;rw[h];rfl
     ·by_cases q:b<=i
      ·exact j i q (by omega)
      ·exact o i a (by omega)
    ·rw[l8 hn (by simpa using c)]at h
     split at h
     ·cases h
      refine⟨by omega,by omega,by simp,λi a s=>?_⟩
      have:i=e:=by simp only at a;omega
      subst this
      rw[l8 hn (by simpa using c)]
      rename_i t
      rw[aac t];rfl
     ·cases h
termination_by m=>m
structure DI(W:ByteArray->Bool)(l:List Nd)(S:List (Nat×Nat)):Prop where
 le:S.length<=l.length
 t:∀j,j<S.length->1<=(S.getD j (0,0)).1/\(S.getD j (0,0)).1<=j+1/\tree W l (j+1)=some (j+1-(S.getD j (0,0)).1,(S.getD j (0,0)).2)
theorem qR{α:Type}(S:List α)(x d:α)(j:Nat):(S++[x]).getD j d=if j<S.length then S.getD j d else if j=S.length then x else d:=by
 rw[aaj,aaj]
 split
 ·rw[aaS (by assumption)]
 ·rw[aaU (by omega)]
  split
  ·rename_i h;subst h;simp
  ·rename_i h;rw[List.getElem?_eq_none (by simp;omega)];rfl
theorem DI.o2{S:List (Nat×Nat)}(h:DI W l S){s d:Nat}(f:S.length<l.length)(a:1<=s)(b:s<=S.length+1)(c:tree W l (S.length+1)=some (S.length+1-s,d)):DI W l (S++[(s,d)]):=
 ⟨by simp;omega,λj e=>by
  rw[qR]
  simp only[aaQ,List.length_singleton]at e
  split
  ·exact h.t j (by assumption)
  ·have:j=S.length:=by omega
   subst this
   rw[aac rfl]
   exact⟨a,b,c⟩⟩
theorem DI.step{S S':List (Nat×Nat)}{n:Nd}(h:DI W l S)(d:l[S.length]? =some n)(c:gk W S n=some S'):DI W l S':=by
 have g:=(aaL.1 d).1
 unfold gk at c
 split at c
 ·rename_i e
  split at c
  ·cases c
  ·rename_i f
   cases c
   simp only[not_or,Decidable.not_not,Int.not_lt]at f
   obtain⟨j,k,r,s,u,v⟩:=f
   obtain⟨x,p,i⟩:=h.t (S.length-1) (by omega)
   have w:n.a.toNat=S.length-1-(S.getD (S.length-1) (0,0)).1:=by omega
   have m:n.b.toNat=S.length-1:=by omega
   obtain⟨z,A,q⟩:=h.t n.a.toNat (by omega)
   rw[m]
   rw[show S.length-1+1=S.length from by omega]at i p
   rw[Nat.max_comm]
   refine h.o2 g (by omega) (by omega) ?_
   have:=NX (W:=W) d e i (by omega) (a:=n.a.toNat+1-(S.getD n.a.toNat (0,0)).1) (y:=(S.getD n.a.toNat (0,0)).2) (by rw[<-q];congr 1;omega) (by omega) (by omega) j k
   rw[this]
   congr 2
   omega
 ·rename_i e
  split at c
  ·rename_i o
   cases c
   refine h.o2 g (by omega) (by omega) ?_
   rw[l8 d (by simpa using e),aac o]
   rfl
  ·cases c
theorem DI.fail{S:List (Nat×Nat)}{n:Nd}(h:DI W l S)(f:l[S.length]? =some n)(a:gk W S n=none):tree W l (S.length+1)=none:=by
 unfold gk at a
 split at a
 ·rename_i c
  split at a
  ·rename_i hc
   cases ht:tree W l (S.length+1)with
   |none=>rfl
   |some r=>
    exfalso
    obtain⟨b,x,y,e,q,g,i,j,k,m,_⟩:=nQ f c ht
    obtain⟨u,_,v,_⟩:=hU _ _ e
    obtain⟨w,_,z,_⟩:=hU _ _ g
    obtain⟨s,p,d⟩:=h.t (S.length-1) (by omega)
    rw[show S.length-1+1=S.length from by omega]at d p
    rw[e]at d
    cases d
    rcases hc with hc|hc|hc|hc|hc|hc
    ·exact hc k
    ·exact hc m
    ·exact hc j
    ·omega
    ·refine hc ?_;rw[i];omega
    ·omega
  ·cases a
 ·rename_i c
  split at a
  ·cases a
  ·rename_i o
   rw[l8 f (by simpa using c),aaa o]
theorem wa:∀(k:List Nd) (S:List (Nat×Nat)),DI W l S->l.drop S.length=k->
  (∃S',ik W k S=some S'/\DI W l S'/\S'.length=l.length)\/(ik W k S=none/\∃i,S.length<=i/\i<l.length/\tree W l (i+1)=none)
 |[],S,h,hk=>.inl ⟨S,rfl,h,aaD h.le (by have:=aaz List.length hk;simp at this;omega)⟩
 |n::k,S,h,hk=>by
  have c:S.length<l.length:=by have:=aaz List.length hk;simp at this;omega
  have a:l[S.length]? =some n:=by
   have:=aaz (λx=>x[0]?) hk
   simpa using this
  unfold ik
  cases hs:gk W S n with
  |none=>exact .inr ⟨rfl,S.length,aab _,c,h.fail a hs⟩
  |some S'=>
   have b:=h.step a hs
   have d:S'.length=S.length+1:=by
    unfold gk at hs
    split at hs
    ·split at hs
     ·cases hs
     ·cases hs;simp
    ·split at hs
     ·cases hs;simp
     ·cases hs
   rcases wa k S' b (by rw[d, <-List.drop_drop,hk];rfl)with⟨T,h1,h2,h3⟩|⟨h1,i,h2,h3,h4⟩
   ·exact .inl ⟨T,h1,h2,h3⟩
   ·exact .inr ⟨h1,i,by omega,h3,h4⟩
theorem Bw(W:ByteArray->Bool)(l:List Nd):n6 W l=gj W l:=by
 unfold n6 gj
 rcases wa (W:=W) (l:=l) l [] ⟨aao _,λj g=>absurd g (by simp)⟩ rfl with⟨S,a,b,d⟩|⟨a,i,_,b,d⟩
 ·rw[a]
  simp only
  by_cases c:l=[]
  ·subst c;simp[tree]
  ·have n:0<l.length:=Nat.pos_of_ne_zero λh=>c (List.length_eq_zero_iff.1 h)
   obtain⟨o,k,f⟩:=b.t (l.length-1) (by omega)
   rw[show l.length-1+1=l.length from by omega]at f k
   rw[f]
   simp only
   by_cases e:(S.getD (l.length-1) (0,0)).1=l.length
   ·rw[aaa (λh=>h.elim c λh=>h e),aac (by omega)]
   ·rw[aac (.inr e),aaa (by omega)]
 ·rw[a]
  simp only
  cases ht:tree W l l.length with
  |none=>rfl
  |some r=>
   simp only
   split
   ·rename_i m
    have:=(hU _ _ ht).2.2.2 i (by omega) b
    rw[d]at this
    cases this
   ·rfl
end
structure Ty where
 space:ByteArray
 rel:ByteArray
deriving DecidableEq
structure Rl where
 name:ByteArray
 types:List Ty
 nodes:List Nd
structure Sp where
 name:ByteArray
 bR:List Rl
structure Sc where
 name:ByteArray
 kw:ByteArray
 tF:ByteArray
 rel:ByteArray
structure Cf where
 aZ:List Sp
 scopes:List Sc
def Cf.all(c:Cf):List (ByteArray×Rl):=c.aZ.flatMap λs=>s.bR.map λr=>(s.name,r)
def gJ(x:ByteArray×Rl):Ty:=⟨x.1,x.2.name⟩
def bY(l:List (ByteArray×Rl))(t:Ty):Option Nat:=l.findIdx? λx=>decide (gJ x=t)
def Cf.dL(c:Cf):Prop:=(c.aZ.map (·.name)).Nodup/\(c.all.map gJ).Nodup/\(c.scopes.map (·.name)).Nodup
instance(c:Cf):Decidable c.dL:=by unfold Cf.dL;infer_instance
def dK(l:List Ty):List Ty:=l.filter λt=> !decide (t.space=⟨#[]⟩)
def findAll(l:List (ByteArray×Rl)):List Ty->Option (List Nat)
 |[]=>some []
 |t::ts=>(bY l t).bind λi=>(findAll l ts).map (i:: ·)
def targets(l:List (ByteArray×Rl))(sp:ByteArray)(types:List Ty)(n:Nd):Option (List Nat):=
 if n.kind=1 then findAll l (dK types)
 else if n.kind=2 then findAll l [⟨sp,n.rel⟩]
 else if n.kind=3 then
  match bY l ⟨sp,n.rel⟩with
  |none=>none
  |some i=>match (dK ((l.map (·.2.types)).getD i [])).map λt=>(⟨t.space,n.eR⟩:Ty)with
   |[]=>none
   |t::ts=>findAll l (t::ts)
 else some []
def jP(l:List (ByteArray×Rl))(i:Nat)(sp:ByteArray)(r:Rl)(ab:Bool)(n:Nd):Option (List Ed):=(targets l sp r.types n).map λts=>ts.map λt=>⟨i,t,ab⟩
def cat{α β:Type}(f:α->Option (List β)):List α->Option (List β)
 |[]=>some []
 |x::l=>(f x).bind λa=>(cat f l).map (a++ ·)
theorem sG{α β:Type}(f:α->Option (List β)):∀(a b:List α),cat f (a++b)=(cat f a).bind λx=>(cat f b).map (x++ ·)
 |[],b=>by simp[cat]
 |y::a,b=>by
  rw[List.cons_append,cat,sG f a b,cat]
  cases f y with
  |none=>rfl
  |some u=>cases cat f a with
   |none=>rfl
   |some v=>cases cat f b with
    |none=>rfl
    |some w=>simp
def fi(l:List Nd)(m:Nat)(ab:Bool):List (Nat×Bool):=
 match m with
 |0=>[]
 |e+1=>match l[e]? with
  |none=>[]
  |some n=>if n.op then(if h:n.a.toNat+1<=e/\n.b.toNat+1<=e then fi l (n.a.toNat+1) ab++fi l (n.b.toNat+1) (ab||n.kind==6)else [])else [(e,ab)]
termination_by m
def fX(l:List Nd)(out:List Bool)(i:Nat):List Bool:=
 match l[i]? with
 |none=>out
 |some n=>if n.op then(out.set n.a.toNat (out.getD i false)).set n.b.toNat ((out.set n.a.toNat (out.getD i false)).getD i false||n.kind==6)else out
def down(l:List Nd)(lo:Nat):Nat->List Bool->List Bool
 |0,out=>out
 |k+1,out=>down l lo k (fX l out (lo+k))
def mg(l:List Nd):List Bool:=down l 0 l.length (List.replicate l.length false)
theorem uY(l:List Nd)(out:List Bool)(i:Nat):(fX l out i).length=out.length:=by
 unfold fX
 split
 ·rfl
 ·split<;>simp
theorem qG(l:List Nd)(lo:Nat):∀(k:Nat) (out:List Bool),(down l lo k out).length=out.length
 |0,_=>rfl
 |k+1,out=>by rw[down,qG l lo k,uY]
theorem sN(l:List Nd)(lo p:Nat):∀(q:Nat) (out:List Bool),down l lo (p+q) out=down l lo p (down l (lo+p) q out)
 |0,_=>rfl
 |q+1,out=>by
  rw[show p+(q+1)=p+q+1 from rfl,down,sN l lo p q,down,aay]
theorem mm(l:List Bool)(i j:Nat)(x:Bool):(l.set i x).getD j false=if i=j/\i<l.length then x else l.getD j false:=by
 rw[aaj,aaj,aa2]
 by_cases h:i=j
 ·subst h
  by_cases a:i<l.length
  ·simp[a]
  ·simp[a]
 ·simp[h]
def m9(l:List Nd)(i:Nat):Bool:=((l[i]?).map λn=> !n.op).getD false
def leaves(l:List Nd)(b k:Nat):List Nat:=(List.range' b k).filter (m9 l)
theorem xO(l:List Nd)(b p q:Nat):leaves l b (p+q)=leaves l b p++leaves l (b+p) q:=by
 unfold leaves
 rw[<-List.filter_append]
 congr 1
 have:=List.range'_append (s:=b) (m:=p) (n:=q) (step:=1)
 rw[Nat.one_mul]at this
 exact this.symm
theorem mM{W:ByteArray->Bool}{l:List Nd}:∀(m:Nat) (r:Nat×Nat),tree W l m=some r->∀(out:List Bool),out.length=l.length->
  (∀j,j<r.1\/m<=j+1->(down l r.1 (m-r.1) out).getD j false=out.getD j false)/\
   fi l m (out.getD (m-1) false)=(leaves l r.1 (m-r.1)).map λi=>(i,(down l r.1 (m-r.1) out).getD i false)
 |m,r,h=>by
  intro out ho
  obtain⟨hm0,hml,hrm,_⟩:=hU m r h
  cases m with
  |zero=>omega
  |succ e=>
   have hel:e<l.length:=by omega
   have hn:l[e]? =some l[e]:=aaJ hel
   obtain⟨n,hne⟩:∃n,n=l[e]:=⟨_,rfl⟩
   rw[<-hne]at hn
   by_cases hop:n.op=true
   ·obtain⟨b,x,y,h1,h2,h3,ha,hb,_,_,_⟩:=nQ hn hop h
    obtain⟨t1,_,t2,_⟩:=hU _ _ h1
    obtain⟨u1,_,u2,_⟩:=hU _ _ h3
    simp only at t2 u2
    have ea:n.a.toNat=b-1:=by omega
    have eb:n.b.toNat=e-1:=by omega
    -- the node, the second operand's, the first one's
    have hd:down l r.1 (e+1-r.1) out=down l r.1 (b-r.1) (down l b (e-b) (fX l out e)):=by
     rw[show e+1-r.1=(b-r.1)+((e-b)+1)from by omega,sN,show r.1+(b-r.1)=b from by omega,down,show b+(e-b)=e from by omega]
    have hs:fX l out e=(out.set (b-1) (out.getD e false)).set (e-1) (out.getD e false||n.kind==6):=by
     unfold fX
     simp only[hn,hop,aae,ea,eb]
     congr 2
     rw[mm,aaa (by omega)]
    have hsl:(fX l out e).length=l.length:=by rw[uY,ho]
    obtain⟨p1,p2⟩:=mM e (b,x) h1 (fX l out e) hsl
    simp only at p1 p2
    have hdl:(down l b (e-b) (fX l out e)).length=l.length:=by rw[qG,hsl]
    obtain⟨q1,q2⟩:=mM b (r.1,y) h3 (down l b (e-b) (fX l out e)) hdl
    simp only at q1 q2
    rw[hd]
    have hse:∀j,j≠b-1->j≠e-1->(fX l out e).getD j false=out.getD j false:=λj j1 j2=>by
     rw[hs,mm,aaa (by omega),mm,aaa (by omega)]
    refine⟨λj hj=>?_,?_⟩
    ·rw[q1 j (by omega),p1 j (by omega),hse j (by omega) (by omega)]
    ·have hw:fi l (e+1) (out.getD (e+1-1) false)=fi l b (out.getD e false)++fi l e (out.getD e false||n.kind==6):=by
      rw[fi]
      simp only[hn,hop,aae,aaV]
      rw[dif_pos (by omega),ea,eb,show b-1+1=b from by omega,show e-1+1=e from by omega]
     have v1:(fX l out e).getD (e-1) false=(out.getD e false||n.kind==6):=by rw[hs,mm,aac ⟨rfl,by simp;omega⟩]
     have v2:(down l b (e-b) (fX l out e)).getD (b-1) false=out.getD e false:=by
      rw[p1 (b-1) (by omega),hs,mm,aaa (by omega),mm,aac ⟨rfl,by omega⟩]
     rw[v1]at p2
     rw[v2]at q2
     rw[hw,p2,q2,show e+1-r.1=(b-r.1)+((e-b)+1)from by omega,xO,xO,show r.1+(b-r.1)=b from by omega,show b+(e-b)=e from by omega,aax,aax]
     have hl0:leaves l e 1=[]:=by
      unfold leaves
      rw[List.range'_one,List.filter_cons_of_neg,List.filter_nil]
      simp[m9,hn,hop]
     rw[hl0,List.map_nil,List.append_nil]
     congr 1
     refine List.map_congr_left λi hi=>?_
     have hi':=(List.mem_filter.1 hi).1
     rw[List.mem_range'_1]at hi'
     rw[q1 i (by omega)]
   ·have hop':n.op=false:=by simpa using hop
    rw[l8 hn hop']at h
    split at h
    ·cases h
     simp only
     rw[show e+1-e=0+1 from by omega,down,down]
     have hs:fX l out (e+0)=out:=by unfold fX;simp only[Nat.add_zero,hn,hop',aa4,aar]
     rw[hs]
     refine⟨λj _=>rfl,?_⟩
     rw[fi]
     simp only[hn,hop',aa4,aar,aaV]
     unfold leaves
     rw[List.range'_one,List.filter_cons_of_pos,List.filter_nil]
     ·rfl
     ·simp[m9,hn,hop']
    ·cases h
termination_by m=>m
def mH(l:List (ByteArray×Rl))(i:Nat)(sp:ByteArray)(r:Rl):Option (List Ed):=
 if(findAll l (dK r.types)).isSome then cat (λp:Nat×Bool=>(r.nodes[p.1]?).bind λn=>jP l i sp r p.2 n) (fi r.nodes r.nodes.length false)else none
def jR(l:List (ByteArray×Rl))(i:Nat)(sp:ByteArray)(r:Rl):Option (List Ed):=
 if(findAll l (dK r.types)).isSome then cat (λk:Nat=>(r.nodes[k]?).bind λn=>jP l i sp r ((mg r.nodes).getD k false) n) (List.range' 0 r.nodes.length)else none
theorem NL{l:List (ByteArray×Rl)}{a:ByteArray}{b:List Ty}{n:Nd}(h:n.op=true):targets l a b n=some []:=by
 unfold Nd.op at h
 unfold targets
 rw[aaa (λe=>by simp[e]at h),aaa (λe=>by simp[e]at h),aaa (λe=>by simp[e]at h)]
theorem vK{l:List Nd}{β:Type}(f:Nat->Option (List β))(c:∀i,m9 l i=false->i<l.length->f i=some []):∀(k b:Nat),b+k<=l.length->cat f (List.range' b k)=cat f (leaves l b k)
 |0,b,_=>rfl
 |k+1,b,h=>by
  unfold leaves
  rw[List.range'_succ,List.filter_cons]
  have a:=vK f c k (b+1) (by omega)
  unfold leaves at a
  split
  ·rw[cat,cat,a]
  ·rename_i d
   rw[cat,c b (by simpa using d) (by omega),a]
   cases cat f (List.filter (m9 l) (List.range' (b+1) k))<;>rfl
theorem vM{α γ β:Type}(f:α->Option (List β))(g:γ->α):∀l:List γ,cat f (l.map g)=cat (λx=>f (g x)) l
 |[]=>rfl
 |x::l=>by rw[aaF,cat,cat,vM f g l]
theorem Lw{W:ByteArray->Bool}{l:List (ByteArray×Rl)}{i:Nat}{e:ByteArray}{r:Rl}(h:gj W r.nodes≠0):jR l i e r=mH l i e r:=by
 unfold jR mH
 split
 ·unfold gj at h
  cases ht:tree W r.nodes r.nodes.length with
  |none=>rw[ht]at h;exact absurd rfl h
  |some p=>
   obtain⟨b,x⟩:=p
   rw[ht]at h
   simp only at h
   have f:b=0:=by
    by_cases d:b=0
    ·exact d
    ·rw[aaa d]at h;exact absurd rfl h
   subst f
   have c:=(mM _ _ ht (List.replicate r.nodes.length false) (by simp)).2
   simp only[aaR]at c
   rw[show(List.replicate r.nodes.length false).getD (r.nodes.length-1) false=false from by
    rw[aaj,List.getElem?_replicate];split<;>rfl]at c
   rw[c,vM]
   refine vK _ (λk a g=>?_) _ 0 (by omega)
   have j:r.nodes[k]? =some r.nodes[k]:=aaJ g
   unfold m9 at a
   rw[j]at a⊢
   simp only[aas,Option.getD_some,Bool.not_eq_false']at a
   simp only[aaW,jP,NL a,aas,List.map_nil]
 ·rfl
def kp(W:ByteArray->Bool)(t:Ty):Bool:=decide (t.space=⟨#[]⟩)&&decide (t.rel=⟨#[]⟩)||W t.space&&W t.rel
def mI(W:ByteArray->Bool)(r:Rl):Bool:=W r.name&&gj W r.nodes !=0&&r.types.all (kp W)
def jN(W:ByteArray->Bool)(r:Rl):Bool:=decide (8<r.types.length)||decide (64<r.nodes.length)||decide (16<gj W r.nodes)
def Cf.gH(W:ByteArray->Bool)(c:Cf):Bool:=decide (16<c.aZ.length)||decide (16<c.scopes.length)||c.aZ.any λs=>decide (16<s.bR.length)||s.bR.any (jN W)
def nG(W:ByteArray->Bool)(F:ByteArray->ByteArray->Bool)(s:Sc):Bool:=W s.name&&F s.kw s.tF&&W s.rel
def Cf.right(W:ByteArray->Bool)(F:ByteArray->ByteArray->Bool)(c:Cf):Bool:=(c.aZ.all λs=>W s.name&&s.bR.all (mI W))&&c.scopes.all (nG W F)&& !c.gH W
def jI{α:Type}:Nat->List α->List (Nat×α)
 |_,[]=>[]
 |i,x::l=>(i,x)::jI (i+1) l
theorem sR{α:Type}{x:Nat×α}:∀{l:List α} {i:Nat},x∈jI i l->i<=x.1/\x.1<i+l.length/\x.2∈l
 |[],_,h=>by cases h
 |y::l,i,h=>by
  rcases aaw.1 h with rfl|h
  ·exact⟨aab _,by simp,aah⟩
  ·obtain⟨b,c,a⟩:=sR h
   exact⟨by omega,by simp only[aam];omega,aak _ a⟩
def rV(c:Cf):Bool:=c.scopes.all λs=>(bY c.all ⟨s.kw,s.rel⟩).isSome
def Cf.iZ(c:Cf):Option (List Ed):=if rV c then cat (λp:Nat×(ByteArray×Rl)=>mH c.all p.1 p.2.1 p.2.2) (jI 0 c.all)else none
def Cf.kP(c:Cf):Option (List Ed):=if rV c then cat (λp:Nat×(ByteArray×Rl)=>jR c.all p.1 p.2.1 p.2.2) (jI 0 c.all)else none
theorem vJ{α β:Type}{f g:α->Option (List β)}:∀{l:List α},(∀x∈l,f x=g x)->cat f l=cat g l
 |[],_=>rfl
 |x::l,h=>by rw[cat,cat,h x aah,vJ λy a=>h y (aak _ a)]
theorem sH{α β:Type}{f:α->Option (List β)}{y:β}:∀{l:List α} {o:List β},cat f l=some o->y∈o->∃x∈l,∃u,f x=some u/\y∈u
 |[],o,h,hy=>by cases h;cases hy
 |x::l,o,h,hy=>by
  rw[cat]at h
  cases hx:f x with
  |none=>rw[hx]at h;cases h
  |some u=>
   cases hl:cat f l with
   |none=>rw[hx,hl]at h;cases h
   |some v=>
    rw[hx,hl]at h
    simp only[aaW,aas,aad]at h
    subst h
    rcases aal.1 hy with hy|hy
    ·exact⟨x,aah,u,hx,hy⟩
    ·obtain⟨z,c,w,a,b⟩:=sH hl hy
     exact⟨z,aak _ c,w,a,b⟩
section
variable{W:ByteArray->Bool}{F:ByteArray->ByteArray->Bool}{c:Cf}
theorem nB(h:c.right W F=true):∀x∈c.all,mI W x.2=true/\jN W x.2=false:=λx a=>by
 unfold Cf.right Cf.gH at h
 simp only[aan,aa3,Bool.not_eq_true',Bool.or_eq_false_iff,List.any_eq_false]at h
 obtain⟨s,e,a⟩:=List.mem_flatMap.1 a
 obtain⟨r,d,rfl⟩:=aaG.1 a
 have f:=(h.1.1 s e).2 r d
 have b:=h.2.2 s e
 simp only[Bool.not_eq_true,Bool.or_eq_false_iff,List.any_eq_false]at b
 exact⟨f,by simpa using b.2 r d⟩
theorem BH(h:c.right W F=true):c.kP=c.iZ:=by
 unfold Cf.kP Cf.iZ
 split
 ·refine vJ λp b=>?_
  have a:=(nB h _ (sR b).2.2).1
  unfold mI at a
  simp only[aan,bne_iff_ne,ne_eq]at a
  exact Lw a.1.2
 ·rfl
theorem Lz{l:List (ByteArray×Rl)}{t:Ty}{i:Nat}(h:bY l t=some i):i<l.length:=by
 unfold bY at h
 exact(List.findIdx?_eq_some_iff_getElem.1 h).1
theorem qQ{l:List (ByteArray×Rl)}:∀{ts:List Ty} {o:List Nat},findAll l ts=some o->∀i∈o,i<l.length
 |[],o,h,i,hi=>by cases h;cases hi
 |t::ts,o,h,i,hi=>by
  rw[findAll]at h
  cases h1:bY l t with
  |none=>rw[h1]at h;cases h
  |some j=>
   cases h2:findAll l ts with
   |none=>rw[h1,h2]at h;cases h
   |some v=>
    rw[h1,h2]at h
    simp only[aaW,aas,aad]at h
    subst h
    rcases aaw.1 hi with rfl|hi
    ·exact Lz h1
    ·exact qQ h2 i hi
theorem NK{l:List (ByteArray×Rl)}{b:ByteArray}{c:List Ty}{n:Nd}{o:List Nat}(h:targets l b c n=some o):∀i∈o,i<l.length:=by
 unfold targets at h
 split at h
 ·exact qQ h
 ·split at h
  ·exact qQ h
  ·split at h
   ·split at h
    ·cases h
    ·split at h
     ·cases h
     ·exact qQ h
   ·cases h;intro i a;cases a
theorem qI{E:List Ed}(h:c.iZ=some E):∀e∈E,e.f<c.all.length/\e.t<c.all.length:=λe d=>by
 unfold Cf.iZ at h
 split at h
 ·obtain⟨p,l,u,b,g⟩:=sH h d
  have m:=(sR l).2.1
  unfold mH at b
  split at b
  ·obtain⟨q,r,v,a,j⟩:=sH b g
   cases hn:p.2.2.nodes[q.1]? with
   |none=>rw[hn]at a;cases a
   |some n=>
    rw[hn,aaW]at a
    unfold jP at a
    cases ht:targets c.all p.2.1 p.2.2.types n with
    |none=>rw[ht]at a;cases a
    |some o=>
     rw[ht,aas,aad]at a
     subst a
     obtain⟨i,k,rfl⟩:=aaG.1 j
     exact⟨by simpa using m,NK ht i k⟩
  ·cases b
 ·cases h
end
def rows:List Sp->List Nat->List (List Nat)
 |[],_=>[]
 |s::l,n=>n.take s.bR.length::rows l (n.drop s.bR.length)
def Cf.numbers(W:ByteArray->Bool)(F:ByteArray->ByteArray->Bool)(c:Cf):Int×List (List Nat):=
 if c.right W F=false then(4,[])else if ¬c.dL then(10,[])else
 match c.iZ with
 |none=>(14,[])
 |some E=>if mw E c.all.length=true then(0,rows c.aZ (level E c.all.length (c.all.length+1)))else(15,[])
def Cf.rz(W:ByteArray->Bool)(F:ByteArray->ByteArray->Bool)(c:Cf):Int×List (List Nat):=
 if c.right W F=false then(4,[])else if ¬c.dL then(10,[])else
 match c.kP with
 |none=>(14,[])
 |some E=>match settle E (c.all.length+1) (List.replicate c.all.length 0)with
  |none=>(15,[])
  |some n=>(0,rows c.aZ n)
theorem KV(W:ByteArray->Bool)(F:ByteArray->ByteArray->Bool)(c:Cf):c.rz W F=c.numbers W F:=by
 unfold Cf.rz Cf.numbers
 split
 ·rfl
 ·rename_i h
  split
  ·rfl
  ·rw[BH (by simpa using h)]
   cases he:c.iZ with
   |none=>rfl
   |some E=>
    simp only
    rw[M4 (λe b=>(qI he e b).1) λe b=>(qI he e b).2]
    by_cases a:mw E c.all.length=true
    ·rw[aac a,aac a]
    ·rw[aaa a,aaa a]
structure dY where
 kind:Int
 text:ByteArray
 pos:Nat
deriving DecidableEq
def jc(c:UInt8):Bool:=(decide (97<=c.toNat)&&decide (c.toNat<=122))||(decide (65<=c.toNat)&&decide (c.toNat<=90))||(decide (48<=c.toNat)&&decide (c.toNat<=57))||decide (c.toNat=95)
def fZ(c:UInt8):Bool:=decide (c.toNat=32)||decide (c.toNat=9)||decide (c.toNat=10)||decide (c.toNat=13)
def lJ(c:UInt8):Bool:= !decide (c.toNat=10)
def po(c:UInt8):Bool:=decide (32<=c.toNat)&&decide (c.toNat<=126)&& !decide (c.toNat=34)
def oI:List UInt8:=[123,125,59,58,61,124,38,45,40,41,35,44]
def dZ(s:ByteArray)(i:Nat):UInt8:=s.data.getD i 0
def oF(s:ByteArray)(p:UInt8->Bool):Nat->Nat->Nat
 |0,i=>i
 |f+1,i=>if i<s.size&&p (dZ s i)then oF s p f (i+1)else i
def run(s:ByteArray)(p:UInt8->Bool)(i:Nat):Nat:=oF s p (s.size-i) i
structure kK(s:ByteArray)(p:UInt8->Bool)(i j:Nat):Prop where
 le:i<=j
 sz:j<=s.size
 all:∀k,i<=k->k<j->p (dZ s k)=true
 stop:j=s.size\/p (dZ s j)=false
theorem kK.dL{s:ByteArray}{p:UInt8->Bool}{i j k:Nat}(h:kK s p i j)(a:kK s p i k):j=k:=by
 rcases Nat.lt_trichotomy j k with h1|h1|h1
 ·have:=a.all j h.le h1
  rcases h.stop with h2|h2
  ·have:=a.sz;omega
  ·rw[h2]at this;cases this
 ·exact h1
 ·have:=h.all k a.le h1
  rcases a.stop with h2|h2
  ·have:=h.sz;omega
  ·rw[h2]at this;cases this
theorem zm{s:ByteArray}{p:UInt8->Bool}:∀(f i:Nat),i<=s.size->s.size<=i+f->kK s p i (oF s p f i)
 |0,i,h,hf=>⟨aab _,h,λk h1 a=>absurd a (by rw[oF];omega),.inl (by rw[oF];omega)⟩
 |f+1,i,h,hf=>by
  rw[oF]
  split
  ·rename_i b
   simp only[aan,aaE]at b
   have c:=zm (s:=s) (p:=p) f (i+1) (by omega) (by omega)
   refine⟨by have:=c.le;omega,c.sz,λk h1 a=>?_,c.stop⟩
   by_cases e:k=i
   ·rw[e];exact b.2
   ·exact c.all k (by omega) a
  ·rename_i b
   refine⟨aab _,h,λk h1 a=>absurd a (by omega),?_⟩
   rcases aat i s.size with h1|h1
   ·right
    cases hp:p (dZ s i)with
    |false=>rfl
    |true=>exact absurd (by simp[h1,hp]) b
   ·exact .inl (by omega)
theorem oG{s:ByteArray}{p:UInt8->Bool}{i:Nat}(h:i<=s.size):kK s p i (run s p i):=zm _ _ h (by omega)
theorem kK.run{s:ByteArray}{p:UInt8->Bool}{i j:Nat}(h:kK s p i j):j=run s p i:=h.dL (oG (aai h.le h.sz))
def two(s:ByteArray)(i:Nat)(a b:UInt8):Bool:=decide (i+2<=s.size)&&decide (dZ s i=a)&&decide (dZ s (i+1)=b)
def jX(s:ByteArray):Nat->Nat->Nat
 |0,i=>run s fZ i
 |f+1,i=>if two s (run s fZ i) 47 47 then jX s f (run s lJ (run s fZ i))else run s fZ i
def nI(s:ByteArray)(i:Nat):Nat:=jX s (s.size-i) i
theorem oJ{s:ByteArray}{i:Nat}(h:i<=s.size):i<=run s fZ i/\run s fZ i<=s.size:=⟨(oG h).le,(oG h).sz⟩
theorem y5{s:ByteArray}{i:Nat}(h:two s i 47 47=true):i+2<=run s lJ i/\run s lJ i<=s.size:=by
 unfold two at h
 simp only[aan,aaE]at h
 have a:=oG (s:=s) (p:=lJ) (i:=i) (by omega)
 refine⟨?_,a.sz⟩
 rcases aat (run s lJ i) (i+2)with h1|h1
 ·exfalso
  rcases a.stop with h2|h2
  ·omega
  ·have b:=a.le
   rcases aat i (run s lJ i)with h4|h4
   ·have:run s lJ i=i+1:=by omega
    rw[this,h.2]at h2
    revert h2;decide
   ·have:run s lJ i=i:=by omega
    rw[this,h.1.2]at h2
    revert h2;decide
 ·exact h1
theorem zN{s:ByteArray}:∀(f g i:Nat),i<=s.size->s.size<=i+f->s.size<=i+g->jX s f i=jX s g i
 |0,0,_,_,_,_=>rfl
 |0,g+1,i,h,hf,_=>by
  rw[jX,jX,aaa]
  unfold two
  simp only[aan,aaE]
  have:=(oJ h).1
  omega
 |f+1,0,i,h,_,hg=>by
  rw[jX,jX,aaa]
  unfold two
  simp only[aan,aaE]
  have:=(oJ h).1
  omega
 |f+1,g+1,i,h,hf,hg=>by
  rw[jX,jX]
  split
  ·rename_i b
   have c:=(oJ h).1
   obtain⟨d,a⟩:=y5 b
   exact zN f g _ a (by omega) (by omega)
  ·rfl
theorem Nb{s:ByteArray}{i:Nat}(h:i<=s.size):nI s i=if two s (run s fZ i) 47 47 then nI s (run s lJ (run s fZ i))else run s fZ i:=by
 by_cases a:two s (run s fZ i) 47 47=true
 ·rw[aac a]
  have d:=(oJ h).1
  obtain⟨e,b⟩:=y5 a
  unfold nI
  obtain⟨f,c⟩:∃f,s.size-i=f+1:=⟨s.size-i-1,by omega⟩
  rw[c,jX,aac a]
  exact zN _ _ _ b (by omega) (by omega)
 ·rw[aaa a]
  unfold nI
  cases s.size-i with
  |zero=>rfl
  |succ f=>rw[jX,aaa a]
def mP(s:ByteArray)(i:Nat):Option (dY×Nat):=
 if jc (dZ s i)then some (⟨1,s.extract i (run s jc i),i⟩,run s jc i)
 else if(dZ s i).toNat=34 then
  if run s po (i+1)=s.size\/(dZ s (run s po (i+1))).toNat≠34 then none
  else some (⟨2,s.extract (i+1) (run s po (i+1)),i⟩,run s po (i+1)+1)
 else if two s i 45 62 then some (⟨3,⟨#[45,62]⟩,i⟩,i+2)
 else if oI.contains (dZ s i)then some (⟨3,s.extract i (i+1),i⟩,i+1)
 else none
theorem NU{s:ByteArray}{i j:Nat}{t:dY}(d:i<s.size)(h:mP s i=some (t,j)):i<j/\j<=s.size:=by
 unfold mP at h
 split at h
 ·rename_i b
  cases h
  have a:=oG (s:=s) (p:=jc) (i:=i) (by omega)
  refine⟨?_,a.sz⟩
  rcases aat i (run s jc i)with h1|h1
  ·exact h1
  ·have e:run s jc i=i:=aaD h1 a.le
   rcases a.stop with h2|h2
   ·omega
   ·rw[e,b]at h2;cases h2
 ·split at h
  ·split at h
   ·cases h
   ·rename_i c
    cases h
    have a:=oG (s:=s) (p:=po) (i:=i+1) (by omega)
    have h1:=a.le
    have h2:=a.sz
    exact⟨by omega,by omega⟩
  ·split at h
   ·rename_i h2
    cases h
    unfold two at h2
    simp only[aan,aaE]at h2
    omega
   ·split at h
    ·cases h;omega
    ·cases h
def na(s:ByteArray):Nat->Nat->List dY->Option (List dY)
 |0,_,_=>none
 |f+1,i,l=>if nI s i=s.size then some l else
  match mP s (nI s i)with
  |none=>none
  |some (t,j)=>na s f j (l++[t])
def oh(s:ByteArray):Option (List dY):=na s (s.size+1) 0 []
def qa:ByteArray:=⟨#[110,97,109,101,115,112,97,99,101]⟩
def r6:ByteArray:=⟨#[115,99,111,112,101]⟩
def qb:ByteArray:=⟨#[114,101,108,97,116,105,111,110]⟩
def oN:ByteArray:=⟨#[117,115,101,114]⟩
def mO:ByteArray:=⟨#[116,104,105,115]⟩
def jY:ByteArray:=⟨#[123]⟩
def r0:ByteArray:=⟨#[125]⟩
def oK:ByteArray:=⟨#[58]⟩
def gK:ByteArray:=⟨#[124]⟩
def nL:ByteArray:=⟨#[61]⟩
def r7:ByteArray:=⟨#[59]⟩
def p9:ByteArray:=⟨#[35]⟩
def oL:ByteArray:=⟨#[45]⟩
def p7:ByteArray:=⟨#[38]⟩
def nM:ByteArray:=⟨#[40]⟩
def oM:ByteArray:=⟨#[41]⟩
def p8:ByteArray:=⟨#[45,62]⟩
abbrev bE:Type:=List dY×Bool
def je:bE:=([],true)
def cC(s:ByteArray)(st:bE):Option bE:=
 match st.1 with
 |[]=>none
 |t::r=>if t.kind=2\/t.text≠s then none else some (r,st.2)
def fA(s:ByteArray)(st:bE):bE:=(cC s st).getD je
section
variable(W:ByteArray->Bool)
def cP(st:bE):ByteArray×bE:=
 match st.1 with
 |[]=>(⟨#[]⟩,je)
 |t::r=>if t.kind≠1\/W t.text=false then(⟨#[]⟩,je)else(t.text,(r,st.2))
def dX(st:bE):Ty×bE:=
 match cC oN st with
 |some s=>(⟨⟨#[]⟩,⟨#[]⟩⟩,s)
 |none=>(⟨(cP W st).1,(cP W (fA p9 (cP W st).2)).1⟩,(cP W (fA p9 (cP W st).2)).2)
def mE:Nat->List Ty->bE->List Ty×bE
 |0,l,st=>(l,st)
 |f+1,l,st=>match cC gK st with
  |none=>(l,st)
  |some s=>mE f (l++[(dX W s).1]) (dX W s).2
def my(l:List Nd)(kind:Int)(a:Int):List Nd:=l++[⟨kind,⟨#[]⟩,⟨#[]⟩,a,(l.length:Int)-1⟩]
def qd(fac:List Nd->bE->List Nd×bE):Nat->List Nd->bE->List Nd×bE
 |0,l,st=>(l,st)
 |g+1,l,st=>if st.2 then(l,st)else
  match cC p7 st with
  |none=>(l,st)
  |some s=>qd fac g (my (fac l s).1 5 ((l.length:Int)-1)) (fac l s).2
def mD(fac:List Nd->bE->List Nd×bE)(l:List Nd)(st:bE):List Nd×bE:=qd fac ((fac l st).2.1.length+1) (fac l st).1 (fac l st).2
def pI(st:bE):Option (Int×bE):=
 match cC gK st with
 |some s=>some (4,s)
 |none=>(cC oL st).map λs=>(6,s)
def js(fac:List Nd->bE->List Nd×bE):Nat->List Nd->bE->List Nd×bE
 |0,l,st=>(l,st)
 |g+1,l,st=>match pI st with
  |none=>(l,st)
  |some (k,s)=>if s.2 then(l,s)else js fac g (my (mD fac l s).1 k ((l.length:Int)-1)) (mD fac l s).2
def ox(fac:List Nd->bE->List Nd×bE)(l:List Nd)(st:bE):List Nd×bE:=js fac ((mD fac l st).2.1.length+1) (mD fac l st).1 (mD fac l st).2
def iO:Nat->List Nd->bE->List Nd×bE
 |0,l,st=>(l,st)
 |f+1,l,st=>
  match cC mO st with
  |some s=>(l++[⟨1,⟨#[]⟩,⟨#[]⟩,0,0⟩],s)
  |none=>match cC nM st with
   |some s=>((ox (iO f) l s).1,fA oM (ox (iO f) l s).2)
   |none=>match cC p8 (cP W st).2 with
    |none=>(l++[⟨2,(cP W st).1,⟨#[]⟩,0,0⟩],(cP W st).2)
    |some s=>(l++[⟨3,(cP W st).1,(cP W s).1,0,0⟩],(cP W s).2)
def lP(st:bE):List Nd×bE:=
 match cC nL st with
 |none=>([⟨1,⟨#[]⟩,⟨#[]⟩,0,0⟩],st)
 |some s=>ox (iO W (s.1.length+1)) [] s
def jQ(st:bE):List Ty×bE:=
 match cC oK st with
 |none=>([],st)
 |some s=>mE W ((dX W s).2.1.length+1) [(dX W s).1] (dX W s).2
def lQ(st:bE):Rl×bE:=
 (⟨(cP W st).1,(jQ W (cP W st).2).1,(lP W (jQ W (cP W st).2).2).1⟩,fA r7 (lP W (jQ W (cP W st).2).2).2)
def lR:Nat->List Rl->bE->List Rl×bE
 |0,l,st=>(l,st)
 |f+1,l,st=>match cC qb st with
  |none=>(l,st)
  |some s=>lR f (l++[(lQ W s).1]) (lQ W s).2
def lS(st:bE):Sp×bE:=
 let s1:=cP W st
 let s2:=fA jY s1.2
 let s3:=lR W (s2.1.length+1) [] s2
 (⟨s1.1,s3.1⟩,fA r0 s3.2)
end
def cz:List Sp->Nat->Nat
 |[],_=>0
 |_,0=>0
 |s::l,i+1=>s.bR.length+cz l i
def total(l:List Sp):Nat:=cz l l.length
theorem qf(c:Cf):total c.aZ=c.all.length:=by
 unfold Cf.all total
 induction c.aZ with
 |nil=>rfl
 |cons s l ih=>rw[aam,cz,ih,aaf,aaQ,List.length_map]
theorem nD:∀(l:List Sp) (n:List Nat),(rows l n).length=l.length
 |[],_=>rfl
 |s::l,n=>by rw[rows,aam,nD l,aam]
theorem tE:∀{l:List Sp} {i:Nat} {s:Sp},l[i]? =some s->cz l i+s.bR.length<=total l
 |[],i,s,h=>by simp at h
 |x::l,0,s,h=>by
  simp only[aaB,aad]at h
  subst h
  show cz (x::l) 0+_<=x.bR.length+cz l l.length
  simp[cz]
 |x::l,i+1,s,h=>by
  have:=tE (l:=l) (i:=i) (s:=s) (by simpa using h)
  show x.bR.length+cz l i+_<=x.bR.length+cz l l.length
  unfold total at this
  omega
theorem pV:∀{l:List Sp} {n:List Nat} {i:Nat} {s:Sp},l[i]? =some s->(rows l n)[i]? =some ((n.drop (cz l i)).take s.bR.length)
 |[],n,i,s,h=>by simp at h
 |x::l,n,0,s,h=>by
  simp only[aaB,aad]at h
  subst h
  rw[rows]
  simp[cz]
 |x::l,n,i+1,s,h=>by
  rw[rows,aaT,pV (l:=l) (n:=n.drop x.bR.length) (by simpa using h),List.drop_drop]
  rfl
theorem zj:∀{l:List Sp} {n:List Nat} {i k x:Nat} {s:Sp},l[i]? =some s->k<s.bR.length->n.length=total l->
  rows l (n.set (cz l i+k) x)=(rows l n).set i (((n.drop (cz l i)).take s.bR.length).set k x)
 |[],n,i,k,x,s,h,_,_=>by simp at h
 |y::l,n,0,k,x,s,h,hk,hn=>by
  simp only[aaB,aad]at h
  subst h
  rw[rows,rows,List.set_cons_zero]
  simp only[cz,aaC,List.drop_zero]
  rw[List.take_set,List.drop_set_of_lt hk]
 |y::l,n,i+1,k,x,s,h,hk,hn=>by
  have a:l[i]? =some s:=by simpa using h
  have b:(n.drop y.bR.length).length=total l:=by
   rw[aa1,hn]
   show y.bR.length+cz l l.length-y.bR.length=cz l l.length
   omega
  rw[rows,rows,List.set_cons_succ]
  have e:cz (y::l) (i+1)+k=y.bR.length+(cz l i+k):=by show y.bR.length+cz l i+k=_;omega
  rw[e]
  congr 1
  ·rw[List.take_set,List.set_eq_of_length_le]
   rw[aaP];omega
  ·rw[List.drop_set,aaa (by omega),show y.bR.length+(cz l i+k)-y.bR.length=cz l i+k from by omega,zj a hk b,List.drop_drop]
   rfl
theorem zk:∀(l:List Sp),rows l (List.replicate (total l) 0)=l.map λs=>List.replicate s.bR.length 0
 |[]=>rfl
 |s::l=>by
  have e:total (s::l)=s.bR.length+total l:=rfl
  rw[rows,e,aaF]
  congr 1
  ·rw[List.take_replicate];congr 1;omega
  ·rw[List.drop_replicate,show s.bR.length+total l-s.bR.length=total l from by omega,zk l]
theorem vj:∀{l:List Sp} {i k:Nat} {s:Sp} {r:Rl},l[i]? =some s->s.bR[k]? =some r->(l.flatMap λs=>s.bR.map λr=>(s.name,r))[cz l i+k]? =some (s.name,r)
 |[],i,k,s,r,h,_=>by simp at h
 |x::l,0,k,s,r,h,hr=>by
  simp only[aaB,aad]at h
  subst h
  have a:=(aaL.1 hr).1
  rw[aaf,aaS (by simp[cz];exact a),cz,aaC,List.getElem?_map,hr]
  ·rfl
  ·simp
 |x::l,i+1,k,s,r,h,hr=>by
  rw[aaf,aaU (by rw[List.length_map];show _<=x.bR.length+cz l i+k;omega),List.length_map]
  show(List.flatMap _ l)[x.bR.length+cz l i+k-x.bR.length]? =_
  rw[show x.bR.length+cz l i+k-x.bR.length=cz l i+k from by omega]
  exact vj (by simpa using h) hr
def kz(i:Nat)(sp:ByteArray):Nat->List Rl->List (Ty×(Nat×Nat))
 |_,[]=>[]
 |k,r::rs=>(⟨sp,r.name⟩,(i,k))::kz i sp (k+1) rs
def fW:Nat->List Sp->List (Ty×(Nat×Nat))
 |_,[]=>[]
 |i,s::l=>kz i s.name 0 s.bR++fW (i+1) l
theorem uA(i:Nat)(a:ByteArray):∀(rs:List Rl) (k:Nat),(kz i a k rs).map (·.1)=rs.map λr=>gJ (a,r)
 |[],_=>rfl
 |r::rs,k=>by rw[kz,aaF,aaF,uA i a rs];rfl
theorem uB:∀(l:List Sp) (i:Nat),(fW i l).map (·.1)=(l.flatMap λs=>s.bR.map λr=>(s.name,r)).map gJ
 |[],_=>rfl
 |s::l,i=>by
  rw[fW,aax,aaf,aax,uB l,uA,List.map_map]
  rfl
theorem zV(i:Nat)(a:ByteArray):∀{rs:List Rl} {k j:Nat} {x:Ty×(Nat×Nat)},(kz i a k rs)[j]? =some x->∃r,rs[j]? =some r/\x=(⟨a,r.name⟩,(i,k+j))
 |[],k,j,x,h=>by simp[kz]at h
 |r::rs,k,0,x,h=>by
  rw[kz,aaB,aad]at h
  exact⟨r,rfl,h.symm⟩
 |r::rs,k,j+1,x,h=>by
  rw[kz,aaT]at h
  obtain⟨q,b,c⟩:=zV i a h
  exact⟨q,by simpa using b,by rw[c,show k+1+j=k+(j+1)from by omega]⟩
theorem nK(i:Nat)(a:ByteArray)(rs:List Rl)(k:Nat):(kz i a k rs).length=rs.length:=by
 have:=aaz List.length (uA i a rs k)
 simpa using this
theorem zX:∀{l:List Sp} {b j:Nat} {x:Ty×(Nat×Nat)},(fW b l)[j]? =some x->∃i k s r,x=(⟨s.name,r.name⟩,(b+i,k))/\l[i]? =some s/\s.bR[k]? =some r/\j=cz l i+k
 |[],b,j,x,h=>by simp[fW]at h
 |s::l,b,j,x,h=>by
  rw[fW]at h
  by_cases e:j<s.bR.length
  ·rw[aaS (by rw[nK];exact e)]at h
   obtain⟨r,a,c⟩:=zV b s.name h
   exact⟨0,j,s,r,by rw[c,aaC,Nat.add_zero],rfl,a,by simp[cz]⟩
  ·rw[aaU (by rw[nK];omega),nK]at h
   obtain⟨i,k,f,r,a,c,d,g⟩:=zX h
   refine⟨i+1,k,f,r,by rw[a,show b+1+i=b+(i+1)from by omega],by simpa using c,d,?_⟩
   show j=s.bR.length+cz l i+k
   omega
def look(t:Ty)(M:List (Ty×(Nat×Nat))):Option (Nat×Nat):=(M.find? λx=>decide (x.1=t)).map (·.2)
theorem xf{α β:Type}(f:α->β)(p:β->Bool):∀{l:List α} {m:List β},l.map f=m->(∀x,l.find? (λx=>p (f x))=some x->∃j,m.findIdx? p=some j/\l[j]? =some x)/\(l.find? (λx=>p (f x))=none->m.findIdx? p=none)
 |[],m,h=>by
  subst h
  exact⟨λx h=>(by cases h),λ_=>rfl⟩
 |y::l,m,h=>by
  subst h
  obtain⟨a,b⟩:=xf f p (l:=l) rfl
  rw[aaF,List.find?_cons,List.findIdx?_cons]
  cases hp:p (f y)with
  |true=>
   refine⟨λx h=>?_,λh=>(by simp at h)⟩
   simp only[aad]at h
   subst h
   exact⟨0,by simp,rfl⟩
  |false=>
   refine⟨λx h=>?_,λh=>?_⟩
   ·obtain⟨j,c,d⟩:=a x h
    exact⟨j+1,by simp[c],by simpa using d⟩
   ·simp[b h]
theorem Kk(c:Cf)(t:Ty):
  match look t (fW 0 c.aZ)with
  |none=>bY c.all t=none
  |some (i,k)=>bY c.all t=some (cz c.aZ i+k)/\∃s r,c.aZ[i]? =some s/\s.bR[k]? =some r/\(⟨s.name,r.name⟩:Ty)=t:=by
 have n:=uB c.aZ 0
 obtain⟨a,b⟩:=xf (λx:Ty×(Nat×Nat)=>x.1) (λu=>decide (u=t)) n
 have o:∀(l:List (ByteArray×Rl)),(l.map gJ).findIdx? (λu=>decide (u=t))=bY l t:=λl=>by
  unfold bY
  rw[List.findIdx?_map]
  rfl
 rw[o]at a b
 unfold look
 cases hf:(fW 0 c.aZ).find? λx=>decide (x.1=t)with
 |none=>exact b hf
 |some x=>
  obtain⟨j,d,e⟩:=a x hf
  obtain⟨i,k,s,r,f,g,h,m⟩:=zX e
  subst f
  simp only[aas,aaC]
  refine⟨?_,s,r,g,h,?_⟩
  ·rw[<-m];exact d
  ·have:=List.find?_some hf
   simpa using this
def eO(a b:bE):Prop:=a.1<:+b.1
theorem eO.refl(a:bE):eO a a:=List.suffix_refl _
theorem eO.trans{a b d:bE}(h:eO a b)(c:eO b d):eO a d:=List.IsSuffix.trans h c
theorem eO.len{a b:bE}(h:eO a b):a.1.length<=b.1.length:=List.IsSuffix.length_le h
theorem eO.mem{a b:bE}(h:eO a b){t:dY}(c:t∈a.1):t∈b.1:=List.IsSuffix.subset h c
theorem sY(b:bE):eO je b:=List.nil_suffix
theorem fL{s:ByteArray}{a b:bE}(h:cC s a=some b):eO b a/\b.1.length+1=a.1.length/\b.2=a.2:=by
 unfold cC at h
 split at h
 ·cases h
 ·rename_i t r e
  split at h
  ·cases h
  ·cases h
   rw[e]
   refine⟨?_,by simp,rfl⟩
   unfold eO
   rw[e]
   exact List.suffix_cons _ _
theorem nq(s:ByteArray)(a:bE):eO (fA s a) a:=by
 unfold fA
 cases h:cC s a with
 |none=>exact sY a
 |some b=>exact(fL h).1
section
variable{W:ByteArray->Bool}
theorem jE(a:bE):eO (cP W a).2 a:=by
 unfold cP
 split
 ·exact sY a
 ·rename_i t r e
  split
  ·exact sY a
  ·unfold eO;rw[e];exact List.suffix_cons _ _
theorem qZ(a:bE):eO (dX W a).2 a:=by
 unfold dX
 split
 ·rename_i s h;exact(fL h).1
 ·exact(jE _).trans ((nq _ _).trans (jE _))
theorem Ak:∀(f:Nat) (l:List Ty) (a:bE),eO (mE W f l a).2 a
 |0,_,a=>.refl a
 |f+1,l,a=>by
  rw[mE]
  split
  ·exact .refl a
  ·rename_i s h
   exact(Ak f _ _).trans ((qZ _).trans (fL h).1)
def mR(fac:List Nd->bE->List Nd×bE):Prop:=∀l a,eO (fac l a).2 a
theorem Ac{b:List Nd->bE->List Nd×bE}(c:mR b):∀(g:Nat) (l:List Nd) (a:bE),eO (qd b g l a).2 a
 |0,_,a=>.refl a
 |g+1,l,a=>by
  rw[qd]
  split
  ·exact .refl a
  ·split
   ·exact .refl a
   ·rename_i s h
    exact(Ac c g _ _).trans ((c _ _).trans (fL h).1)
theorem Ae{b:List Nd->bE->List Nd×bE}(c:mR b):mR (mD b):=λl a=>(Ac c _ _ _).trans (c l a)
theorem yH{a b:bE}{k:Int}(h:pI a=some (k,b)):eO b a:=by
 unfold pI at h
 split at h
 ·rename_i s c
  cases h
  exact(fL c).1
 ·cases c:cC oL a with
  |none=>rw[c]at h;cases h
  |some s=>
   rw[c]at h
   cases h
   exact(fL c).1
theorem wv{b:List Nd->bE->List Nd×bE}(c:mR b):∀(g:Nat) (l:List Nd) (a:bE),eO (js b g l a).2 a
 |0,_,a=>.refl a
 |g+1,l,a=>by
  rw[js]
  split
  ·exact .refl a
  ·rename_i k s h
   split
   ·exact yH h
   ·exact(wv c g _ _).trans ((Ae c _ _).trans (yH h))
theorem wx{b:List Nd->bE->List Nd×bE}(c:mR b):mR (ox b):=λl a=>(wv c _ _ _).trans (Ae c l a)
theorem wU:∀f:Nat,mR (iO W f)
 |0=>λ_ a=>.refl a
 |f+1=>λl a=>by
  rw[iO]
  split
  ·rename_i s h;exact(fL h).1
  ·split
   ·rename_i s h
    exact(nq _ _).trans ((wx (wU f) _ _).trans (fL h).1)
   ·split
    ·exact jE a
    ·rename_i s h
     exact(jE _).trans ((fL h).1.trans (jE a))
theorem KS(a:bE):eO (lP W a).2 a:=by
 unfold lP
 split
 ·exact .refl a
 ·rename_i s h
  exact(wx (wU _) _ _).trans (fL h).1
theorem uH(a:bE):eO (jQ W a).2 a:=by
 unfold jQ
 split
 ·exact .refl a
 ·rename_i s h
  exact(Ak _ _ _).trans ((qZ _).trans (fL h).1)
theorem y1(a:bE):eO (lQ W a).2 a:=(nq _ _).trans ((KS _).trans ((uH _).trans (jE a)))
theorem y3:∀(f:Nat) (l:List Rl) (a:bE),eO (lR W f l a).2 a
 |0,_,a=>.refl a
 |f+1,l,a=>by
  rw[lR]
  split
  ·exact .refl a
  ·rename_i s h
   exact(y3 f _ _).trans ((y1 _).trans (fL h).1)
theorem Nu(a:bE):eO (lS W a).2 a:=(nq _ _).trans ((y3 _ _ _).trans ((nq _ _).trans (jE a)))
end
def jy(W:ByteArray->Bool):Nat->List Sp->bE->List Sp×bE
 |0,l,st=>(l,st)
 |f+1,l,st=>if st.2=true\/st.1=[]then(l,st)else
  match cC qa st with
  |none=>(l,je)
  |some s=>jy W f (l++[(lS W s).1]) (lS W s).2
theorem OS.congr{α β:Type}{E sz:Nat}{enc:α->List Value}{a:β->List Value}{v:Value}{xs:List α}{ys:List β}{T:ap}(h:OS E sz enc v xs T)(j:ys.map a=xs.map enc):OS E sz a v ys T:=by
 have l:ys.length=xs.length:=by simpa using aaz List.length j
 have r:ys.flatMap a=xs.flatMap enc:=by rw[List.flatMap_def,List.flatMap_def,j]
 have m:∀y∈ys,∃x∈xs,a y=enc x:=λy f=>by
  have:a y∈xs.map enc:=j▸aav f
  obtain⟨x,d,e⟩:=aaG.1 this
  exact⟨x,d,e.symm⟩
 refine⟨λy f=>?_,λy f=>?_,?_⟩
 ·obtain⟨x,d,e⟩:=m y f;rw[e];exact h.len x d
 ·obtain⟨x,d,e⟩:=m y f;rw[e];exact h.one x d
 ·rcases h.h with⟨g,i,k⟩|⟨b,s,c,n,g,i,k,o,p,q⟩
  ·exact .inl ⟨g,List.length_eq_zero_iff.1 (by rw[l,i];rfl),k⟩
  ·exact .inr ⟨b,s,c,n,by rw[l];exact g,i,by omega,o,p,by rw[r];exact q⟩
end
end Go.Proofs.YtdljmchhecoakaaGreat

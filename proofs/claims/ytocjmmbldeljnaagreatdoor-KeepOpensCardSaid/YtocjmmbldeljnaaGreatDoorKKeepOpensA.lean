/- What the law 'KeepOpens' uses. No condition. -/
import Derived.KernelRfl
import Derived.LaidEql
import Derived.Laws.StructEq
import Derived.OrdersHeld
import Derived.Shelf.Abstract
import Derived.Still
import Derived.StillTail
import Derived.Tactics
import GoSem.ClaimData
set_option linter.unusedSimpArgs false
set_option linter.unusedVariables false
set_option linter.unusedVariables false
namespace Go.Proofs.YtocjmmbldeljnaaGreatDoor
set_option linter.defProp false
def aaa:=@if_neg
def aab:=@Nat.succ_mul
def aac:=@List.flatten_cons
def aad:=@List.mem_append
def aae:=@List.mem_append_left
def aaf:=@List.flatMap_cons
def aag:=@Option.some.injEq
def aah:=@Nat.le_of_ble_eq_true
def aai:=@List.mem_map_of_mem
def aaj:=@List.mem_of_mem_drop
def aak:=@List.flatten_append
def aal:=@Nat.add_assoc
def aam:=@List.mem_of_mem_take
def aan:=@Nat.le_refl
def aao:=@List.length_cons
def aap:=@Nat.eq_of_beq_eq_true
def aaq:=@List.mem_map
def aar:=@List.nodup_append
def aas:=@List.mem_append_right
def aat:=@List.map_toArray
def aau:=@Array.getElem?_setIfInBounds_ne
def aav:=@Array.getElem?_push
def aaw:=@List.append_assoc
def aax:=@List.length_take
def aay:=@Array.getElem?_setIfInBounds
section
abbrev oK:=Nat×Obj
abbrev au:=List oK
abbrev aF:=List au
abbrev Env:=List (Nat×Value)
abbrev ao:=Nat->Obj->Prop
def Env.get? :Env->Nat->Option Value
 |[],_=>none
 |(k,v)::r,t=>match Nat.beq k t with
  |true=>some v
  |false=>Env.get? r t
def ev(env:Env):Operand->Option Value
 | .tmp t=>env.get? t
 | .const v=>some v
 | .global g=>some (.pointer (some ⟨g,0,none⟩))
 | .func f=>some (.func (.func f) #[] #[])
def fR(env:Env):List Operand->Option (List Value)
 |[]=>some []
 |x::r=>match ev env x,fR env r with
  |some v,some vs=>some (v::vs)
  |_,_=>none
def dH(a:Act)(env:Env):Prop:=∀t v,env.get? t=some v->a.tmps[t]? =some v
theorem dH.eval{a:Act}{env:Env}(h:dH a env){x:Operand}{v:Value}(b:ev env x=some v):a.eval x=v:=by
 cases x with
 |tmp t=>have:=h t v b;simp[Act.eval,this]
 |const u=>simpa[ev,Act.eval]using b
 |global g=>simpa[ev,Act.eval]using b
 |func f=>simpa[ev,Act.eval]using b
theorem dH.vA{a:Act}{env:Env}(h:dH a env):∀{xs:List Operand} {vs:List Value},fR env xs=some vs->xs.map a.eval=vs
 |[],vs,hx=>by simp[fR]at hx;simp[hx]
 |x::r,vs,hx=>by
  simp only[fR]at hx
  split at hx
  ·rename_i v d b c
   simp only[aag]at hx
   subst hx
   simp[h.eval b,h.vA c]
  ·cases hx
theorem dH.mK{a:Act}{env:Env}(h:dH a env){xs:List Operand}{vs:List Value}(b:fR env xs=some vs):xs.toArray.map a.eval=vs.toArray:=by
 rw[aat,h.vA b]
theorem dH.put{a:Act}{env:Env}(h:dH a env){d:Nat}{v:Value}(e:d<a.tmps.size):dH (a.put (some d) v) ((d,v)::env):=by
 intro t u b
 simp only[Env.get?]at b
 by_cases c:d=t
 ·subst c
  have:Nat.beq d d=true:=Nat.beq_refl d
  rw[this]at b
  simp only[aag]at b
  subst b
  simp[Act.put,e]
 ·have:Nat.beq d t=false:=by
   cases hb:Nat.beq d t with
   |false=>rfl
   |true=>exact absurd (aap hb) c
  rw[this]at b
  have:=h t u b
  simp[Act.put,aau c,this]
def Sat(w:World)(H:aF):Prop:=(H.flatten.map (·.1)).Nodup/\∀p∈H.flatten,w.heap[p.1]? =some p.2
def RO(w:World)(R:ao)(H:aF):Prop:=∀b o,R b o->w.heap[b]? =some o/\∀p∈H.flatten,p.1≠b
structure Frame(w:World)(H:aF)(w':World)(H':aF):Prop where
 le:w.heap.size<=w'.heap.size
 gg:∀b,b<w.heap.size->(∀p∈H.flatten,p.1≠b)->w'.heap[b]? =w.heap[b]?
 jC:∀p∈H'.flatten,(∃q∈H.flatten,q.1=p.1)\/w.heap.size<=p.1
 os:w'.os=w.os
 output:w'.output=w.output
 tape:w'.tape=w.tape
theorem Frame.refl(w:World)(H:aF):Frame w H w H:=
 ⟨aan _,λ_ _ _=>rfl,λp a=>.inl ⟨p,a,rfl⟩,rfl,rfl,rfl⟩
theorem Frame.trans{w w' g:World}{H H' f:aF}(h:Frame w H w' H')(a:Frame w' H' g f):Frame w H g f where
 le:=Nat.le_trans h.le a.le
 gg b hb hn:=by
  rw[a.gg b (Nat.lt_of_lt_of_le hb h.le) ?_,h.gg b hb hn]
  intro p c i
  rcases h.jC p c with⟨q,d,e⟩|hge
  ·exact hn q d (e.trans i)
  ·omega
 jC p c:=by
  rcases a.jC p c with⟨q,d,e⟩|hge
  ·rcases h.jC q d with⟨r,j,k⟩|hge
   ·exact .inl ⟨r,j,k.trans e⟩
   ·exact .inr (by omega)
  ·exact .inr (Nat.le_trans h.le hge)
 os:=a.os.trans h.os
 output:=a.output.trans h.output
 tape:=a.tape.trans h.tape
structure St(N:Nat)(R:ao)(a:Act)(w:World)(env:Env)(H:aF)(w0:World)(H0:aF):Prop where
 defers:a.defers=[]
 size:a.tmps.size=N
 env:dH a env
 sat:Sat w H
 ro:RO w R H
 fr:Frame w0 H0 w H
theorem lF{w:World}{b:Nat}{o:Obj}(h:w.heap[b]? =some o):b<w.heap.size:=by
 rcases Nat.lt_or_ge b w.heap.size with h'|h'
 ·exact h'
 ·rw[Array.getElem?_eq_none h']at h;cases h
theorem RO.frame{w w':World}{R:ao}{H H':aF}(h:RO w R H)(f:Frame w H w' H'):RO w' R H':=by
 intro b o d
 obtain⟨a,c⟩:=h b o d
 have g:=lF a
 refine⟨by rw[f.gg b g c];exact a,λp i e=>?_⟩
 rcases f.jC p i with⟨q,j,k⟩|hge
 ·exact c q j (k.trans e)
 ·omega
theorem St.step{N:Nat}{R:ao}{a:Act}{w w':World}{env:Env}{H H':aF}{c:World}{b:aF}(s:St N R a w env H c b)(f:Frame w H w' H')(d:Sat w' H'):St N R a w' env H' c b:=
 ⟨s.defers,s.size,s.env,d,s.ro.frame f,s.fr.trans f⟩
theorem St.put{N:Nat}{R:ao}{a:Act}{w:World}{env:Env}{H:aF}{c:World}{b:aF}(s:St N R a w env H c b){d:Nat}(v:Value)(e:Nat.blt d N=true):St N R (a.put (some d) v) w ((d,v)::env) H c b:=
 ⟨s.defers,by simp[Act.put,s.size],s.env.put (by rw[s.size];exact aah e),s.sat,s.ro,s.fr⟩
theorem Frame.drew(w:World)(H:aF)(n:Nat):Frame w H {w with drawn:=n} H:=
 ⟨aan _,λ_ _ _=>rfl,λp a=>.inl ⟨p,a,rfl⟩,rfl,rfl,rfl⟩
theorem Sat.drew{w:World}{H:aF}(h:Sat w H)(n:Nat):Sat {w with drawn:=n} H:=h
theorem p5(w:World)(o:Obj):(w.alloc o).heap=w.heap.push o:=rfl
theorem Frame.alloc(w:World)(H:aF)(o:Obj):Frame w H (w.alloc o) ([(w.heap.size,o)]::H) where
 le:=by rw[p5,Array.size_push];omega
 gg b hb _:=by rw[p5,aav,aaa (Nat.ne_of_lt hb)]
 jC p hp:=by
  simp only[aac,aad,List.mem_singleton]at hp
  rcases hp with rfl|hp
  ·exact .inr (aan _)
  ·exact .inl ⟨p,hp,rfl⟩
 os:=rfl
 output:=rfl
 tape:=rfl
theorem Sat.alloc{w:World}{H:aF}(h:Sat w H)(o:Obj):Sat (w.alloc o) ([(w.heap.size,o)]::H):=by
 have a:∀p∈H.flatten,p.1<w.heap.size:=λp hp=>lF (h.2 p hp)
 refine⟨?_,λp hp=>?_⟩
 ·simp only[aac,List.cons_append,List.nil_append,List.map_cons,List.nodup_cons]
  refine⟨λb=>?_,h.1⟩
  obtain⟨p,hp,c⟩:=aaq.1 b
  have:=a p hp
  omega
 ·simp only[aac,aad,List.mem_singleton]at hp
  rcases hp with rfl|hp
  ·rw[p5,aav,if_pos rfl]
  ·have:=a p hp
   rw[p5,aav,aaa (Nat.ne_of_lt this),h.2 p hp]
def dz(w:World)(b:Nat)(o:Obj):World:={w with heap:=w.heap.setIfInBounds b o}
theorem Sat.set{w:World}{H1 H2:aF}{T1 T2:au}{b:Nat}{o o':Obj}(h:Sat w (H1++(T1++(b,o)::T2)::H2)):Sat (dz w b o') (H1++(T1++(b,o')::T2)::H2):=by
 obtain⟨d,i⟩:=h
 have e:∀o:Obj,((H1++(T1++(b,o)::T2)::H2).flatten.map (·.1))=(H1.flatten.map (·.1)++T1.map (·.1))++b::(T2.map (·.1)++H2.flatten.map (·.1)):=λo=>by
  simp
 rw[e]at d
 refine⟨by rw[e];exact d,λp hp=>?_⟩
 have k:w.heap[b]? =some o:=i (b,o) (by simp)
 have l:=lF k
 have m:∀q:oK,q∈H1.flatten\/q∈T1\/q∈T2\/q∈H2.flatten->q.1≠b:=by
  intro q hq c
  rw[aar]at d
  obtain⟨_,a,g⟩:=d
  rcases hq with hq|hq|hq|hq
  ·exact g q.1 (aae _ (aai hq)) b (by simp) c
  ·exact g q.1 (aas _ (aai hq)) b (by simp) c
  ·exact(List.nodup_cons.1 a).1 (aae _ (c▸aai hq))
  ·exact(List.nodup_cons.1 a).1 (aas _ (c▸aai hq))
 simp only[aak,aac,aad,List.mem_cons]at hp
 have f:∀q:oK,q∈H1.flatten\/q∈T1\/q∈T2\/q∈H2.flatten->(dz w b o').heap[q.1]? =some q.2:=λq hq=>by
  have j:=m q hq
  have a:w.heap[q.1]? =some q.2:=i q (by
   simp only[aak,aac,aad,List.mem_cons]
   rcases hq with hq|hq|hq|hq
   ·exact .inl hq
   ·exact .inr (.inl (.inl hq))
   ·exact .inr (.inl (.inr (.inr hq)))
   ·exact .inr (.inr hq))
  simp[dz,aau (Ne.symm j),a]
 rcases hp with hp|(hp|rfl|hp)|hp
 ·exact f p (.inl hp)
 ·exact f p (.inr (.inl hp))
 ·simp[dz,l]
 ·exact f p (.inr (.inr (.inl hp)))
 ·exact f p (.inr (.inr (.inr hp)))
theorem Frame.set{w:World}{H1 H2:aF}{T1 T2:au}{b:Nat}{o o':Obj}:Frame w (H1++(T1++(b,o)::T2)::H2) (dz w b o') (H1++(T1++(b,o')::T2)::H2) where
 le:=by simp[dz]
 gg c hc hn:=by
  have:b≠c:=λa=>hn (b,o) (by simp) a
  simp[dz,aau this]
 jC p hp:=by
  simp only[aak,aac,aad,List.mem_cons]at hp
  rcases hp with hp|(hp|rfl|hp)|hp
  ·exact .inl ⟨p,by simp[hp],rfl⟩
  ·exact .inl ⟨p,by simp[hp],rfl⟩
  ·exact .inl ⟨(b,o),by simp,rfl⟩
  ·exact .inl ⟨p,by simp[hp],rfl⟩
  ·exact .inl ⟨p,by simp[hp],rfl⟩
 os:=rfl
 output:=rfl
 tape:=rfl
def bu(H H':aF):Prop:=∃G:au,H.flatten.Perm (H'.flatten++G)
theorem bu.refl(H:aF):bu H H:=⟨[],by simp⟩
theorem bu.sat{H H':aF}(h:bu H H'){w:World}(s:Sat w H):Sat w H':=by
 obtain⟨G,a⟩:=h
 refine⟨?_,λp b=>s.2 p (a.mem_iff.2 (aae _ b))⟩
 have:=(a.map (·.1)).nodup_iff.1 s.1
 rw[List.map_append]at this
 exact(aar.1 this).1
theorem bu.frame{H H':aF}(h:bu H H')(w:World):Frame w H w H':=by
 obtain⟨G,b⟩:=h
 exact⟨aan _,λ_ _ _=>rfl,λp a=>.inl ⟨p,b.mem_iff.2 (aae _ a),rfl⟩,rfl,rfl,rfl⟩
def pick:List Nat->aF->aF
 |[],_=>[]
 |i::is,H=>(H.getD i [])::pick is H
def bf:Nat->aF->aF
 |_,[]=>[]
 |0,_::r=>r
 |i+1,T::r=>T::bf i r
def rest:List Nat->aF->aF
 |[],H=>H
 |i::is,H=>rest is (bf i H)
def take:List Nat->aF->aF
 |[],_=>[]
 |i::is,H=>(H.getD i [])::take is (bf i H)
theorem rU:∀(i:Nat) (H:aF),H.flatten.Perm (H.getD i []++(bf i H).flatten)
 |_,[]=>by simp[bf]
 |0,T::r=>by simp[bf]
 |i+1,T::r=>by
  have:=rU i r
  simp only[aac,bf,List.getD_cons_succ]
  refine(this.append_left T).trans ?_
  rw[<-aaw, <-aaw]
  exact(List.perm_append_comm).append_right _
theorem li:∀(is:List Nat) (H:aF),H.flatten.Perm ((take is H).flatten++(rest is H).flatten)
 |[],H=>by simp[take,rest]
 |i::is,H=>by
  have a:=rU i H
  have b:=li is (bf i H)
  simp only[take,rest,aac,aaw]
  exact a.trans (b.append_left _)
theorem bu.pick(is:List Nat)(H:aF):bu H (take is H):=⟨(rest is H).flatten,li is H⟩
theorem bu.drop(is:List Nat)(H:aF):bu H (rest is H):=⟨(take is H).flatten,(li is H).trans List.perm_append_comm⟩
theorem Sat.perm{w:World}{H H':aF}(a:H.flatten.Perm H'.flatten)(s:Sat w H):Sat w H':=
 ⟨((a.map (·.1)).nodup_iff).1 s.1,λp b=>s.2 p (a.mem_iff.2 b)⟩
def bF(P:Program)(N:Nat)(R:ao)(c:Code)(env:Env)(H:aF)(Q:Exit->Env->aF->Prop):Prop:=
 ∀(Q':Exit->Act->World->Prop) (w0:World) (H0:aF),(∀e env' H' a' w',Q e env' H'->St N R a' w' env' H' w0 H0->Q' e a' w')->
  ∀a w,St N R a w env H w0 H0->c.wp P Q' a w
def Spec(P:Program)(f:FuncId)(args:List Value)(R:ao)(H:aF)(Post:Value->aF->Prop):Prop:=
 ∀w,Sat w H->RO w R H->Calls P f args.toArray w λe w'=>∃v H',e=.returned v/\Post v H'/\Sat w' H'/\Frame w H w' H'
theorem Spec.mono{P:Program}{f:FuncId}{b:List Value}{R:ao}{H:aF}{Post a:Value->aF->Prop}(h:Spec P f b R H Post)(e:∀v H',Post v H'->a v H'):Spec P f b R H a:=
 λw j i=>(h w j i).mono λ_ _ ⟨v,H',c,g,k,d⟩=>⟨v,H',c,e _ _ g,k,d⟩
theorem Spec.weaken{P:Program}{f:FuncId}{a:List Value}{R R':ao}{H:aF}{Post:Value->aF->Prop}(h:Spec P f a R' H Post)(d:∀b o,R' b o->R b o):Spec P f a R H Post:=
 λw g e=>h w g λb o c=>e b o (d b o c)
section rules
variable{P:Program}{N:Nat}{R:ao}{env:Env}{H:aF}{Q:Exit->Env->aF->Prop}
def kj(P:Program)(N:Nat)(R:ao)(y:Code)(Q:Exit->Env->aF->Prop):Exit->Env->aF->Prop
 | .normal,env,H=>bF P N R y env H Q
 |e,env,H=>Q e env H
def lW(id:Nat)(Q:Exit->Env->aF->Prop):Exit->Env->aF->Prop
 | .exit id',env,H=>if id'=id then Q .normal env H else Q (.exit id') env H
 |e,env,H=>Q e env H
def pf(I:Env->aF->Prop)(Q:Exit->Env->aF->Prop):Exit->Env->aF->Prop
 | .normal,env,H=>I env H
 |e,env,H=>Q e env H
theorem bF.seq{x y:Code}(h:bF P N R x env H (kj P N R y Q)):bF P N R (.seq x y) env H Q:=
 λi g b c a w s=>wp_seq (h _ g b (λe m l j k d f=>by
  cases e with
  |normal=>exact d i g b c j k f
  |_=>exact c _ _ _ _ _ d f) a w s)
theorem bF.skip(h:Q .normal env H):bF P N R .skip env H Q:=λ_ _ _ b a w s=>wp_skip (b _ _ _ _ _ h s)
theorem bF.exit{id:Nat}(h:Q (.exit id) env H):bF P N R (.exit id) env H Q:=λ_ _ _ b a w s=>wp_exit (b _ _ _ _ _ h s)
theorem bF.ret(h:Q .ret env H):bF P N R .ret env H Q:=λ_ _ _ b a w s=>wp_ret (b _ _ _ _ _ h s)
theorem bF.block{id:Nat}{c:Code}(h:bF P N R c env H (lW id Q)):bF P N R (.block id c) env H Q:=
 λl j i d a w s=>wp_block (h _ j i (λe n k m o b g=>by
  cases e with
  |exit id'=>
   simp only[lW]at b
   simp only[Exit.inBlock]
   split
   ·rename_i f;rw[if_pos f]at b;exact d _ _ _ _ _ b g
   ·rename_i f;rw[aaa f]at b;exact d _ _ _ _ _ b g
  |_=>exact d _ _ _ _ _ b g) a w s)
theorem bF.cond{c:Operand}{x y:Code}{b:Bool}(i:ev env c=some (.bool b))(k:b=true->bF P N R x env H Q)(j:b=false->bF P N R y env H Q):bF P N R (.cond c x y) env H Q:=
 λe g d f a w s=>wp_cond_split (s.env.eval i) (λh=>k h e g d f a w s) (λh=>j h e g d f a w s)
def di(env env':Env):Prop:=∀t v,Env.get? env' t=some v->Env.get? env t=some v
theorem di.refl(env:Env):di env env:=λ_ _ h=>h
theorem di.nil(env:Env):di env []:=λ_ _ h=>by cases h
theorem di.cons{env b:Env}{t:Nat}{v:Value}(h:di env b)(d:Env.get? env t=some v):di env ((t,v)::b):=λu x a=>by
 simp only[Env.get?]at a
 split at a
 ·rename_i c
  have:=aap c
  simp only[aag]at a
  subst a;subst this;exact d
 ·exact h u x a
theorem di.d{env a:Env}{t:Nat}{v:Value}(h:di env a)(b:Env.get? env t=some v):di env ((t,v)::a):=h.cons b
theorem di.c{env a:Env}{t:Nat}{v:Value}(h:di env a)(b:Env.get? env t=some v:=by rfl):di env ((t,v)::a):=h.cons b
theorem kE{env:Env}:di env []:=di.nil _
theorem dH.le{a:Act}{env b:Env}(h:dH a env)(c:di env b):dH a b:=λt v d=>h t v (c t v d)
theorem St.le{a:Act}{w:World}{env d:Env}{H H':aF}{f:World}{c:aF}(s:St N R a w env H f c)(g:di env d)(e:bu H H'):St N R a w d H' f c:=
 let b:=s.step (e.frame w) (e.sat s.sat)
 ⟨b.defers,b.size,b.env.le g,b.sat,b.ro,b.fr⟩
theorem bF.loop{X:Type}{c:Code}(I:X->Prop)(e:X->Env)(h:X->aF)(μ:X->Nat)(q:X)(y:I q)(K:di env (e q))(L:bu H (h q))
  (U:∀x,I x->bF P N R c (e x) (h x) (pf (λenv' H'=>∃x',I x'/\μ x'<μ x/\di env' (e x')/\bu H' (h x')) Q)):bF P N R (.loop c) env H Q:=
 λA z r G a w s b k t=>by
  have T:∀n x a w,μ x=n->I x->St N R a w (e x) (h x) z r->
    ∃m g i,A m g i/\Arrives P (lone (b.at a (.code c:: .inLoop c::k)) t w) b k t m g i:=by
   intro n
   induction n using Nat.strongRecOn with
   |_ n ih=>
    intro x a w M y s
    have S:=U x y (Exit.then (λg i=>∃x',I x'/\μ x'<μ x/\St N R g i (e x') (h x') z r) A) z r (λm env' H' g i d p=>by
     cases m with
     |normal=>obtain⟨x',u,v,E,F⟩:=d;exact⟨x',u,v,p.le E F⟩
     |_=>exact G _ _ _ _ _ d p) a w s
    obtain⟨m,j,o,d,f⟩:=S b (.inLoop c::k) t
    cases m with
    |normal=>
     obtain⟨x',u,v,p⟩:=d
     obtain⟨D,B,V,O,J⟩:=ih (μ x') (M▸v) x' j o rfl u p
     exact⟨D,B,V,O,.of_steps (Steps.trans f (.one step_inLoop)) J⟩
    |exit id=>exact⟨_,j,o,d,.pass (x:=.inLoop c) rfl (λ_ _=>.inl (by simp)) f⟩
    |goto l=>exact⟨_,j,o,d,.pass (x:=.inLoop c) rfl (λ_ _=>.inl (by simp)) f⟩
    |ret=>exact⟨_,j,o,d,.pass (x:=.inLoop c) rfl (λ_ _=>.inl (by simp)) f⟩
    |panic ch=>exact⟨_,j,o,d,.pass (x:=.inLoop c) rfl (λ_ _=>.inl (by simp)) f⟩
    |outgrown=>exact⟨_,j,o,d,.pass (x:=.inLoop c) rfl (λ_ _=>.inl (by simp)) f⟩
  obtain⟨C,g,i,d,f⟩:=T _ q a w rfl y (s.le K L)
  exact⟨C,g,i,d,.of_steps (.one step_loop) f⟩
end rules
end
section
class bh(P:Program)(t:TypeId)(d:outParam TypeDesc):Prop where h:P.underlying t=some d
class Sz(P:Program)(t:TypeId)(n:outParam Nat):Prop where h:∀w,(sizeOf t).run P w=.ok n w
class Zr(P:Program)(t:TypeId)(v:outParam Value):Prop where h:∀w,(zeroValue t).run P w=.ok v w
class bV(P:Program)(t:TypeId)(b:outParam Bool):Prop where h:∀w,(isAgg t).run P w=.ok b w
class By(P:Program)(t:TypeId)(n:outParam Nat):Prop where h:∀w,∃i,(typeInfo t).run P w=.ok i w/\i.bytes=n
class aC(P:Program)(s:TypeId)(f:Nat)(off:outParam Nat):Prop where
 h:∀(a:Addr) w,(Instr.fieldAt s (.pointer (some a)) f).run P w=.ok (.pointer (some (a.add off))) w
class ap(P:Program)(f:FuncId):Prop where h:∀(args:Array Value) (w:World),(callFunc f args).run P w=.ok (.enter f args) w
theorem aC.of{P:Program}{s:TypeId}{c:Array Field}{f:Nat}{b:Field}{n off:Nat}(i:P.underlying s=some (.struct c))(d:c[f]? =some b)
  (h:∀w,(sizeOf b.type).run P w=.ok n w)(e:(n==0)=false)(ho:b.offset=off):aC P s f off:=⟨λa w=>by
 have g:n≠0:=by simpa using e
 simp[Instr.fieldAt,run_underlying i,d,Instr.sureAddr,fieldPlace,h,g,ho]⟩
def aI(P:Program)(R:ao)(env:Env)(H:aF)(op:Op)(ty:TypeId)(v:Value):Prop:=
 ∀(a:Act) (w:World) (d:Option Tmp) (pos:String) (af:Array Edge) (g:Option (Nat×Bool)),dH a env->Sat w H->RO w R H->(execOp a.eval ⟨d,op,ty,pos,af,g⟩).run P w=.ok (.value v) w
def aB(m:Bool)(P:Program)(N:Nat)(R:ao)(ops:Array Oper)(l:List Oper)(env:Env)(H:aF)(K:Env->aF->Prop):Prop:=
 ∀(Q':Exit->Act->World->Prop) (w0:World) (H0:aF),(∀env' H' a' w',K env' H'->St N R a' w' env' H' w0 H0->Q' .normal a' w')->
  ∀a w,St N R a w env H w0 H0->match m with
   |true=>wpStill P ops w (λa'=>Q' .normal a' w) l a
   |false=>wpList P ops Q' l a w
section
variable{P:Program}{N:Nat}{R:ao}{ops:Array Oper}{l:List Oper}{env:Env}{H:aF}{K:Env->aF->Prop}{Q:Exit->Env->aF->Prop}{m:Bool}
theorem bF.region{id:Nat}(h:aB false P N R l.toArray l env H (Q .normal)):bF P N R (.region id l.toArray false) env H Q:=
 λc g b d a w s=>wp_region_lit (h c g b (λk i j m e f=>d _ _ _ _ _ e f) a w s)
theorem bF.kG{id:Nat}(g:P.follows .mixedOrders=true)(d:Region.lexB .any l.toArray=true)(h:aB true P N R l.toArray l env H (Q .normal)):bF P N R (.region id l.toArray true) env H Q:=
 λc j b e a w s=>wp_region_still_lit g d (h c j b (λn k m o f i=>e _ _ _ _ _ f i) a _ (s.step (Frame.drew w H _) (s.sat.drew _)))
theorem bF.cM{id:Nat}(n:Nat)(m:P.follows .mixedOrders=true)(j:Region.lexTailB .any l.toArray n=true)
  (h:aB true P N R l.toArray (l.take n) env H λenv' H'=>aB false P N R l.toArray (l.drop n) env' H' (Q .normal)):bF P N R (.region id l.toArray true) env H Q:=
 λg i f k a w s=>wp_region_still_tail n m j (h (λ_ b c=>wpList P l.toArray g (l.drop n) b c) i f
  (λenv' H' b c d e=>d g i f (λenv' H' b c d e=>k _ _ _ _ _ d e) b c e) a _ (s.step (Frame.drew w H _) (s.sat.drew _)))
theorem aB.nil(h:K env H):aB m P N R ops [] env H K:=λd e c b a w s=>by
 cases m
 ·exact wpList_nil (b _ _ _ _ h s)
 ·exact wpStill_nil (b _ _ _ _ h s)
theorem aB.q{d:Nat}{op:Op}{ty:TypeId}{f:String}{b:Array Edge}{v:Value}(n:aI P R env H op ty v)(k:aB m P N R ops l ((d,v)::env) H K)(j:Nat.blt d N=true:=by rfl):
  aB m P N R ops (⟨some d,op,ty,f,b,none⟩::l) env H K:=λh o g i a w s=>by
 have e:=n a w (some d) f b none s.env s.sat s.ro
 have c:=k h o g i _ w (s.put v j)
 cases m
 ·simp only[wpList,Region.wanted,if_true]
  exact .inl (by rw[Oper.wp,e];exact c)
 ·simp only[wpStill,Region.wanted,if_true]
  rw[Oper.still,e]
  exact⟨rfl,c⟩
def gV(ops:Array Oper)(j:Nat):Option Nat:=(ops[j]?).bind (·.dst)
theorem pR{a:Act}{j t:Nat}{b:Bool}(d:dH a env)(c:gV ops j=some t)(e:Env.get? env t=some (.bool b)):yielded ops a.tmps j=some b:=by
 unfold gV at c
 simp[yielded,c,d t _ e]
theorem aB.gt{j t:Nat}{d:Bool}{dst:Option Nat}{op:Op}{ty:TypeId}{c:String}{b:Array Edge}(o:Env.get? env t=some (.bool d))(n:aB m P N R ops (⟨dst,op,ty,c,b,none⟩::l) env H K)(k:gV ops j=some t:=by rfl):
  aB m P N R ops (⟨dst,op,ty,c,b,some (j,d)⟩::l) env H K:=λg p f i a w s=>by
 have e:Region.wanted ⟨dst,op,ty,c,b,some (j,d)⟩ (yielded ops a.tmps)=true:=by
  simp[Region.wanted,pR s.env k o]
 have h:=n g p f i a w s
 cases m
 ·simp only[wpList]at h⊢
  rw[if_pos e]
  rw[if_pos (by simp[Region.wanted])]at h
  exact h
 ·simp only[wpStill]at h⊢
  rw[if_pos e]
  rw[if_pos (by simp[Region.wanted])]at h
  exact h
theorem aB.gf{j t d:Nat}{c b:Bool}{op:Op}{ty:TypeId}{g:String}{e:Array Edge}(v:Env.get? env t=some (.bool b))(o:(b==c)=false)(r:aB m P N R ops l ((d,undef)::env) H K)(q:gV ops j=some t:=by rfl)(p:Nat.blt d N=true:=by rfl):
  aB m P N R ops (⟨some d,op,ty,g,e,some (j,c)⟩::l) env H K:=λk x i n a w s=>by
 have f:¬Region.wanted ⟨some d,op,ty,g,e,some (j,c)⟩ (yielded ops a.tmps)=true:=by
  have u:¬b=c:=by simpa using o
  simp[Region.wanted,pR s.env q v,u]
 have h:=r k x i n _ w (s.put undef p)
 cases m
 ·simp only[wpList]
  rw[aaa f]
  exact h
 ·simp only[wpStill]
  rw[aaa f]
  exact h
theorem aB.lv{d:Nat}{op:Op}{ty:TypeId}{c:String}{b:Array Edge}(i:Nat.blt d N=true)
  (h:∀a w,dH a env->Sat w H->RO w R H->∃v w' H',(execOp a.eval ⟨some d,op,ty,c,b,none⟩).run P w=.ok (.value v) w'/\Frame w H w' H'/\Sat w' H'/\aB false P N R ops l ((d,v)::env) H' K):
  aB false P N R ops (⟨some d,op,ty,c,b,none⟩::l) env H K:=λf o e g a w s=>by
 obtain⟨v,w',H',m,j,n,k⟩:=h a w s.env s.sat s.ro
 simp only[wpList,Region.wanted,if_true]
 exact .inl (by rw[Oper.wp,m];exact k f o e g _ w' ((s.step j n).put v i))
theorem aB.mI{op:Op}{ty:TypeId}{c:String}{b:Array Edge}
  (h:∀a w,dH a env->Sat w H->RO w R H->∃w' H',((execOp a.eval ⟨none,op,ty,c,b,none⟩).run P w=.ok .skip w'\/∃v,(execOp a.eval ⟨none,op,ty,c,b,none⟩).run P w=.ok (.value v) w')/\Frame w H w' H'/\Sat w' H'/\aB false P N R ops l env H' K):
  aB false P N R ops (⟨none,op,ty,c,b,none⟩::l) env H K:=λe k d f a w s=>by
 obtain⟨w',H',hr,g,j,i⟩:=h a w s.env s.sat s.ro
 simp only[wpList,Region.wanted,if_true]
 refine .inl ?_
 rcases hr with hr|⟨v,hr⟩
 ·rw[Oper.wp,hr];exact i e k d f _ w' (s.step g j)
 ·rw[Oper.wp,hr];exact i e k d f _ w' (s.step g j)
def Rx(R:ao)(H:aF):ao:=λb o=>R b o\/(b,o)∈H.flatten
theorem lN{w:World}{is:List Nat}(s:Sat w H):Sat w (take is H)/\Sat w (rest is H)/\∀p∈(take is H).flatten,∀q∈(rest is H).flatten,p.1≠q.1:=by
 have c:=li is H
 have a:=(c.map (·.1)).nodup_iff.1 s.1
 rw[List.map_append,aar]at a
 refine⟨⟨a.1,λp b=>s.2 p (c.mem_iff.2 (aae _ b))⟩,⟨a.2.1,λp b=>s.2 p (c.mem_iff.2 (aas _ b))⟩,λp d q e f=>?_⟩
 exact a.2.2 p.1 (aai d) q.1 (aai e) f
theorem RO.split{w:World}{is:List Nat}(s:Sat w H)(r:RO w R H):RO w (Rx R (rest is H)) (take is H):=by
 obtain⟨f,d,e⟩:=lN (is:=is) s
 intro b o hb
 rcases hb with hb|hb
 ·exact⟨(r b o hb).1,λp a=>(r b o hb).2 p ((li is H).mem_iff.2 (aae _ a))⟩
 ·exact⟨d.2 _ hb,λp a c=>e p a _ hb c⟩
theorem mZ{w w':World}{is:List Nat}{H':aF}(s:Sat w H)(i:Sat w' H')(f:Frame w (take is H) w' H'):Sat w' (H'++rest is H)/\Frame w H w' (H'++rest is H):=by
 obtain⟨t,g,j⟩:=lN (is:=is) s
 have h:∀q∈(rest is H).flatten,q.1<w.heap.size:=λq a=>lF (g.2 q a)
 have l:∀p∈H'.flatten,∀q∈(rest is H).flatten,p.1≠q.1:=λp hp q a c=>by
  rcases f.jC p hp with⟨r,d,e⟩|hge
  ·exact j r d q a (e.trans c)
  ·have:=h q a;omega
 refine⟨⟨?_,λp hp=>?_⟩,⟨f.le,λb k m=>?_,λp hp=>?_,f.os,f.output,f.tape⟩⟩
 ·rw[aak,List.map_append,aar]
  refine⟨i.1,g.1,λx n y o c=>?_⟩
  obtain⟨p,hp,rfl⟩:=aaq.1 n
  obtain⟨q,a,rfl⟩:=aaq.1 o
  exact l p hp q a c
 ·rw[aak,aad]at hp
  rcases hp with hp|hp
  ·exact i.2 p hp
  ·rw[f.gg p.1 (h p hp) (λq a c=>j q a p hp c)]
   exact g.2 p hp
 ·exact f.gg b k λp hp=>m p ((li is H).mem_iff.2 (aae _ hp))
 ·rw[aak,aad]at hp
  rcases hp with hp|hp
  ·rcases f.jC p hp with⟨r,d,e⟩|hge
   ·exact .inl ⟨r,(li is H).mem_iff.2 (aae _ d),e⟩
   ·exact .inr hge
  ·exact .inl ⟨p,(li is H).mem_iff.2 (aas _ hp),rfl⟩
theorem aB.p9{dst:Option Nat}{op:Op}{ty:TypeId}{m:String}{h:Array Edge}(is:List Nat){f:FuncId}{vs:List Value}{Post:Value->aF->Prop}
  (y:∀a w,dH a env->(execOp a.eval ⟨dst,op,ty,m,h,none⟩).run P w=.ok (.enter f vs.toArray) w)
  (u:Spec P f vs (Rx R (rest is H)) (take is H) Post)
  (r:∀v H',Post v H'->match dst with
   |some d=>Nat.blt d N=true/\aB false P N R ops l ((d,v)::env) (H'++rest is H) K
   |none=>aB false P N R ops l env (H'++rest is H) K):
  aB false P N R ops (⟨dst,op,ty,m,h,none⟩::l) env H K:=λg o c i a w s=>by
 simp only[wpList,Region.wanted,if_true]
 refine .inl ?_
 rw[Oper.wp,y a w s.env]
 obtain⟨z,A,B⟩:=lN (is:=is) s.sat
 refine(u w z (RO.split s.sat s.ro)).mono λe n ⟨v,H',p,t,x,q⟩=>?_
 subst p
 obtain⟨j,k⟩:=mZ s.sat x q
 have b:=r v H' t
 cases dst with
 |some d=>exact b.2 g o c i _ n ((s.step k j).put v b.1)
 |none=>exact b g o c i _ n (s.step k j)
theorem tE{f:FuncId} [e:ap P f]{xs:List Operand}{c:Array TypeId}{vs:List Value}{dst:Option Nat}{ty:TypeId}{j:String}{b:Array Edge}{g:Option (Nat×Bool)}(hxs:fR env xs=some vs)(a:Act)(w:World)(i:dH a env):
  (execOp a.eval ⟨dst,.call ⟨.value (.func f),xs.toArray,c⟩,ty,j,b,g⟩).run P w=.ok (.enter f vs.toArray) w:=by
 have d:=i.mK hxs
 simp only[execOp,resolve,d,Act.eval,Deferred.ofValue]
 have:=e.h vs.toArray w
 simp[invoke,this]
theorem aB.call{d:Nat}{ty:TypeId}{m:String}{b:Array Edge}(is:List Nat){f:FuncId} [e:ap P f]{xs:List Operand}{c:Array TypeId}{vs:List Value}{Post:Value->aF->Prop}
  (k:Spec P f vs (Rx R (rest is H)) (take is H) Post)
  (i:∀v H',Post v H'->aB false P N R ops l ((d,v)::env) (H'++rest is H) K)(hxs:fR env xs=some vs:=by rfl)(h:Nat.blt d N=true:=by rfl):
  aB false P N R ops (⟨some d,.call ⟨.value (.func f),xs.toArray,c⟩,ty,m,b,none⟩::l) env H K:=
 aB.p9 is (λa w g=>tE hxs a w g) k (λv H' j=>⟨h,i v H' j⟩)
theorem aB.zD{d:Nat}{ty:TypeId}{q:String}{c:Array Edge}(is:List Nat){t:Nat}{f:FuncId}{first captured:List Value} [e:ap P f]{xs:List Operand}{g:Array TypeId}{vs:List Value}{Post:Value->aF->Prop}
  (p:Env.get? env t=some (.func (.func f) first.toArray captured.toArray))
  (o:Spec P f (first++vs++captured) (Rx R (rest is H)) (take is H) Post)
  (m:∀v H',Post v H'->aB false P N R ops l ((d,v)::env) (H'++rest is H) K)(hxs:fR env xs=some vs:=by rfl)(k:Nat.blt d N=true:=by rfl):
  aB false P N R ops (⟨some d,.call ⟨.value (.tmp t),xs.toArray,g⟩,ty,q,c,none⟩::l) env H K:=
 aB.p9 is (λa w b=>by
  have i:=b.mK hxs
  have j:a.eval (.tmp t)=_:=b.eval p
  simp only[execOp,resolve,i,j,Deferred.ofValue]
  have:=e.h (first++vs++captured).toArray w
  rw[<-List.append_toArray, <-List.append_toArray]at this⊢
  exact this) o (λv H' n=>⟨k,m v H' n⟩)
end
end
section
def gr(p:Value)(k:Nat):Value:=match p with
 | .pointer (some a)=>.pointer (some (a.add k))
 |v=>v
def eA(v:Value)(k:Nat):Value:=match v with
 | .slice (some a) _ _=>.pointer (some (a.add k))
 |v=>v
class PC(T:ao)(p:Value)(vs:outParam (List Value)):Prop where
 h:∃b off c E fr,p=.pointer (some ⟨b,off,none⟩)/\T b (.cells c E fr)/\∀j (hj:j<vs.length),c[off+j]? =some vs[j]
def sg(T:au):ao:=λb o=>(b,o)∈T
class RC(R:ao)(H:aF)(p:Value)(vs:outParam (List Value)):Prop where
 h:PC (Rx R H) p vs
theorem PC.mono{T a:ao}{p:Value}{vs:List Value}(h:PC T p vs)(d:∀b o,T b o->a b o):PC a p vs:=
 ⟨let ⟨b,off,c,E,fr,h1,h2,h3⟩:=h.h;⟨b,off,c,E,fr,h1,d _ _ h2,h3⟩⟩
theorem PC.add{T:ao}{p:Value}{vs:List Value}(h:PC T p vs)(k:Nat):PC T (gr p k) (vs.drop k):=by
 obtain⟨b,i,c,E,a,rfl,e,f⟩:=h.h
 refine⟨b,i+k,c,E,a,?_,e,λj g=>?_⟩
 ·simp only[gr,Addr.add];split
  ·rename_i d;subst d;rfl
  ·rfl
 ·rw[List.length_drop]at g
  have:=f (k+j) (by omega)
  rw[List.getElem_drop,aal]
  exact this
instance RC.there{R:ao}{H:aF}{T:au}{p:Value}{vs:List Value} [h:RC R H p vs]:RC R (T::H) p vs:=
 ⟨h.h.mono λb o a=>a.imp id λc=>by simp[c]⟩
instance RC.here{R:ao}{H:aF}{b:Nat}{vs:List Value}{E:TypeId}{fr:Nat×Nat}:RC R ([(b,.cells vs.toArray E fr)]::H) (.pointer (some ⟨b,0,none⟩)) vs:=
 ⟨⟨b,0,vs.toArray,E,fr,rfl,.inr (by simp),λj a=>by simp[a]⟩⟩
class PS(T:au)(p:Value)(vs:outParam (List Value)):Prop where h:PC (sg T) p vs
instance RC.Q4{R:ao}{H:aF}{T:au}{p:Value}{vs:List Value} [h:PS T p vs]:RC R (T::H) p vs:=
 ⟨h.h.mono λb o a=>.inr (List.mem_flatten.2 ⟨T,by simp,a⟩)⟩
instance RC.Q3{R:ao}{H:aF}{p:Value}{vs:List Value} [h:PC R p vs]:RC R H p vs:=⟨h.mono λb o a=>.inl a⟩
instance RC.add{R:ao}{H:aF}{p:Value}{k:Nat}{vs:List Value} [h:RC R H p vs]:RC R H (gr p k) (vs.drop k):=⟨h.h.add k⟩
theorem qO{P:Program}{R:ao}{H:aF}{p:Value}{vs:List Value}(h:PC (Rx R H) p vs){w:World}(s:Sat w H)(r:RO w R H):
  ∃b off,p=.pointer (some ⟨b,off,none⟩)/\∀j (hj:j<vs.length),w.cell? ⟨b,off+j,none⟩=some vs[j]:=by
 obtain⟨b,off,c,E,a,d,h2,e⟩:=h.h
 refine⟨b,off,d,λj hj=>?_⟩
 have f:w.heap[b]? =some (.cells c E a):=by
  rcases h2 with h2|h2
  ·exact(r b _ h2).1
  ·exact s.2 _ h2
 simp[World.cell?,f,e j hj]
theorem x9{P:Program}{a:Addr}{v:Value}{w:World}(h:w.cell? a=some v):(load a).run P w=.ok v w:=by
 rw[run_load,h]
theorem run_loadCellsFrom{P:Program}{w:World}{b off:Nat}:∀(vs:List Value) (i:Nat) (acc:Array Value),(∀j (hj:j<vs.length),w.cell? ⟨b,off+i+j,none⟩=some vs[j])->
  (loadCellsFrom ⟨b,off,none⟩ i vs.length acc).run P w=.ok (acc++vs.toArray) w
 |[],i,acc,_=>by simp[loadCellsFrom]
 |v::r,i,acc,h=>by
  have a:=h 0 (by simp)
  have e:(⟨b,off,none⟩:Addr).add i=⟨b,off+i,none⟩:=by
   simp only[Addr.add];split
   ·rename_i a;subst a;rfl
   ·rfl
  have c:(load ⟨b,off+i,none⟩).run P w=.ok v w:=x9 (by simpa using a)
  have d:=run_loadCellsFrom (P:=P) r (i+1) (acc.push v) (λj hj=>by
   have:=h (j+1) (by simp;omega)
   simpa[aal,Nat.add_comm 1 j]using this)
  simp only[aao,loadCellsFrom,e,Sem.run_bind,c,Result.andThen_ok,d]
  simp
section
variable{P:Program}{R:ao}{env:Env}{H:aF}{ty:TypeId}
theorem aI.move{x:Operand}{v:Value}(h:ev env x=some v:=by rfl):aI P R env H (.move x) ty v:=λa w d e c g b _ _=>by
 simp[execOp,b.eval h]
theorem aI.assign{x:Operand}{v:Value}(h:ev env x=some v:=by rfl):aI P R env H (.assign x) ty v:=λa w d e c g b _ _=>by
 simp[execOp,b.eval h]
theorem aI.pick{c x y:Operand}{b:Bool}{u v:Value}(f:ev env c=some (.bool b):=by rfl)(h:ev env x=some u:=by rfl)(i:ev env y=some v:=by rfl):
  aI P R env H (.pick c x y) ty (if b then u else v):=λa w d k j g e _ _=>by
 simp[execOp,e.eval f,e.eval h,e.eval i,asBool]
theorem aI.dh{c x y:Operand}{u:Value}(e:ev env c=some (.bool true):=by rfl)(f:ev env x=some u:=by rfl):
  aI P R env H (.pick c x y) ty u:=λa w d i h g b _ _=>by
 simp[execOp,b.eval e,b.eval f,asBool]
theorem aI.cd{c x y:Operand}{v:Value}(e:ev env c=some (.bool false):=by rfl)(f:ev env y=some v:=by rfl):
  aI P R env H (.pick c x y) ty v:=λa w d i h g b _ _=>by
 simp[execOp,b.eval e,b.eval f,asBool]
theorem aI.nilCheck{x:Operand}{p:Value}{vs:List Value}(i:ev env x=some p) [rc:RC R H p vs]:aI P R env H (.nilCheck x) ty p:=λa w d m j g f _ _=>by
 obtain⟨b,l,c,E,k,e,_,_⟩:=rc.h.h
 subst e
 simp[execOp,f.eval i]
theorem aI.fieldAddr{x:Operand}{s:TypeId}{f off:Nat}{p:Value}{vs:List Value}(k:ev env x=some p) [e:aC P s f off] [rc:RC R H p vs]:aI P R env H (.fieldAddr s x f) ty (gr p off):=λa w d n l g j _ _=>by
 obtain⟨b,o,c,E,m,i,_,_⟩:=rc.h.h
 subst i
 simp[execOp,j.eval k,e.h,gr]
theorem aI.bo{x:Operand}{t:TypeId}{p u:Value}{vs r:List Value}(l:ev env x=some p) [c:bV P t false] [rc:RC R H p vs](k:vs=u::r:=by rfl):aI P R env H (.load t x) ty u:=λa w d q o g j s n=>by
 obtain⟨b,m,e,f⟩:=qO (P:=P) rc.h s n
 subst e;subst k
 have:=f 0 (by simp)
 have i:w.cell? ⟨b,m,none⟩=some u:=by simpa using this
 simp[execOp,j.eval l,Instr.loadAt,Instr.sureAddr,loadVar,c.h,i]
theorem aI.bj{x:Operand}{t:TypeId}{p:Value}{n:Nat}{vs:List Value}(k:ev env x=some p) [c:bV P t true] [sz:Sz P t n] [rc:RC R H p vs](j:vs.length=n:=by rfl):aI P R env H (.load t x) ty (.agg vs.toArray):=λa w d o m g i s l=>by
 obtain⟨b,off,e,f⟩:=qO (P:=P) rc.h s l
 subst e;subst j
 have:=run_loadCellsFrom (P:=P) (w:=w) (b:=b) (off:=off) vs 0 #[] (by simpa using f)
 simp[execOp,i.eval k,Instr.loadAt,Instr.sureAddr,loadVar,c.h,sz.h,loadCells,this]
theorem aI.loadT{x:Operand}{t:TypeId}{p:Value}{n:Nat}{vs us:List Value}(q:ev env x=some p) [f:bV P t true] [sz:Sz P t n] [rc:RC R H p vs](c:vs.take n=us:=by rfl)(o:us.length=n:=by rfl):aI P R env H (.load t x) ty (.agg us.toArray):=λa w d y u g l s r=>by
 obtain⟨b,off,i,k⟩:=qO (P:=P) rc.h s r
 subst i;subst o
 have v:us.length<=vs.length:=by
  have:=congrArg List.length c;rw[aax]at this;omega
 have:=run_loadCellsFrom (P:=P) (w:=w) (b:=b) (off:=off) us 0 #[] (λj m=>by
  have:=k j (by omega)
  have e:us[j]=vs[j]'(by omega):=by rw[List.getElem_of_eq c.symm m,List.getElem_take]
  rw[e];simpa using this)
 simp[execOp,l.eval q,Instr.loadAt,Instr.sureAddr,loadVar,f.h,sz.h,loadCells,this]
theorem aI.makeFunc{b:Fn}{xs ys:List Operand}{us vs:List Value}(h:fR env xs=some us:=by rfl)(i:fR env ys=some vs:=by rfl):aI P R env H (.makeFunc b xs.toArray ys.toArray) ty (.func b us.toArray vs.toArray):=λa w d k j g c _ _=>by
 have e:=c.mK h
 have f:=c.mK i
 simp only[execOp,e,f,Instr.makeFunc]
 rfl
theorem aI.makeInterface{x:Operand}{t:TypeId}{v:Value}{b:TypeDesc} [ut:bh P t b](e:(match b with| .interface _=>false|_=>true)=true:=by rfl)(f:ev env x=some v:=by rfl):aI P R env H (.makeInterface t x) ty (.iface t v):=λa w d j i g c _ _=>by
 cases b<;>first|(cases e;done)|simp[execOp,c.eval f,Instr.makeInterface,run_underlying ut.h]
theorem aI.extract{x:Operand}{i:Nat}{vs:List Value}{v:Value}(e:ev env x=some (.tuple vs.toArray):=by rfl)(c:vs[i]? =some v:=by rfl):aI P R env H (.extract x i) ty v:=λa w d h f g b _ _=>by
 simp[execOp,b.eval e,Instr.extract,c]
theorem aI.not{x:Operand}{t:TypeId}{b:Bool}(e:ev env x=some (.bool b):=by rfl):aI P R env H (.unOp .not t x) ty (.bool (!b)):=λa w d h f g c _ _=>by
 simp[execOp,c.eval e,Op.unary]
theorem nF{op:BinOp}{t:TypeId}{x y:Operand}{u v:Value}{w:World}(h:(match u,v with| .nilIface,.nilIface=>false| .agg _,.agg _=>false|_,_=>true)=true):(eqGuard op t x y u v).run P w=.ok () w:=by
 unfold eqGuard
 cases u<;>cases v<;>first|(cases h;done)|(cases op<;>rfl)
section ints
variable{x y:Operand}{t u:TypeId}{k:IntKind}{m n:Int}
theorem aI.add(c:ev env x=some (.int k m):=by rfl)(e:ev env y=some (.int k n):=by rfl):aI P R env H (.binOp .add t x y u) ty (.int k (k.wrap (m+n))):=λa w d h f g b _ _=>by
 simp[execOp,b.eval c,b.eval e,eqGuard,binOp,Op.intArith]
theorem aI.sub(c:ev env x=some (.int k m):=by rfl)(e:ev env y=some (.int k n):=by rfl):aI P R env H (.binOp .sub t x y u) ty (.int k (k.wrap (m-n))):=λa w d h f g b _ _=>by
 simp[execOp,b.eval c,b.eval e,eqGuard,binOp,Op.intArith]
theorem aI.mul(c:ev env x=some (.int k m):=by rfl)(e:ev env y=some (.int k n):=by rfl):aI P R env H (.binOp .mul t x y u) ty (.int k (k.wrap (m*n))):=λa w d h f g b _ _=>by
 simp[execOp,b.eval c,b.eval e,eqGuard,binOp,Op.intArith]
theorem aI.quo(e:ev env x=some (.int k m):=by rfl)(f:ev env y=some (.int k n):=by rfl)(c:n≠0:=by decide):aI P R env H (.binOp .quo t x y u) ty (.int k (k.wrap (m.tdiv n))):=λa w d i h g b _ _=>by
 simp[execOp,b.eval e,b.eval f,eqGuard,binOp,Op.intDiv,c]
theorem aI.lss(c:ev env x=some (.int k m):=by rfl)(e:ev env y=some (.int k n):=by rfl):aI P R env H (.binOp .lss t x y u) ty (.bool (m<n)):=λa w d h f g b _ _=>by
 simp[execOp,b.eval c,b.eval e,eqGuard,binOp,Op.intCmp]
theorem aI.leq(c:ev env x=some (.int k m):=by rfl)(e:ev env y=some (.int k n):=by rfl):aI P R env H (.binOp .leq t x y u) ty (.bool (m<=n)):=λa w d h f g b _ _=>by
 simp[execOp,b.eval c,b.eval e,eqGuard,binOp,Op.intCmp]
theorem aI.gtr(c:ev env x=some (.int k m):=by rfl)(e:ev env y=some (.int k n):=by rfl):aI P R env H (.binOp .gtr t x y u) ty (.bool (n<m)):=λa w d h f g b _ _=>by
 simp[execOp,b.eval c,b.eval e,eqGuard,binOp,Op.intCmp]
theorem aI.geq(c:ev env x=some (.int k m):=by rfl)(e:ev env y=some (.int k n):=by rfl):aI P R env H (.binOp .geq t x y u) ty (.bool (n<=m)):=λa w d h f g b _ _=>by
 simp[execOp,b.eval c,b.eval e,eqGuard,binOp,Op.intCmp]
theorem aI.cG(c:ev env x=some (.int k m):=by rfl)(e:ev env y=some (.int k n):=by rfl):aI P R env H (.binOp .eql t x y u) ty (.bool (m==n)):=λa w d h f g b _ _=>by
 simp[execOp,b.eval c,b.eval e,eqGuard,binOp,Op.intCmp]
theorem aI.cb(c:ev env x=some (.int k m):=by rfl)(e:ev env y=some (.int k n):=by rfl):aI P R env H (.binOp .neq t x y u) ty (.bool (m !=n)):=λa w d h f g b _ _=>by
 simp[execOp,b.eval c,b.eval e,eqGuard,binOp,Op.intCmp]
theorem aI.fv{dst:TypeId}{k':IntKind}(e:ev env x=some (.int k n):=by rfl){b:TypeDesc} [us:bh P t b] [f:bh P dst (.int k')]:aI P R env H (.convert t dst x) ty (.int k' (k'.wrap n)):=λa w d j i g c _ _=>by
 simp[execOp,c.eval e,convert,run_underlying us.h,run_underlying f.h,Conv.intToInt]
end ints
theorem qV{op:Op}{t:TypeId}{x y:Operand}{u v:Value}{ty l:TypeId}{a:Act}{w:World}{d:Option Tmp}{k:String}{b:Array Edge}{g:Option (Nat×Bool)}{r:Bool}(i:a.eval x=u)(j:a.eval y=v)
  (h:(eqGuard .eql t x y u v).run P w=.ok () w)(c:binOp .eql t u v=do pure (.bool (<-Op.equal t u v)))(e:(Op.equalIn (9999+1) t u v).run P w=.ok r w):
  (execOp a.eval ⟨d,.binOp .eql t x y l,ty,k,b,g⟩).run P w=.ok (.value (.bool r)) w:=by
 have f:(Op.equal t u v).run P w=.ok r w:=e
 simp only[execOp,i,j,Sem.run_bind,h,Result.andThen_ok,c,f]
 rfl
theorem qY{op:Op}{t:TypeId}{x y:Operand}{u v:Value}{ty l:TypeId}{a:Act}{w:World}{d:Option Tmp}{k:String}{b:Array Edge}{g:Option (Nat×Bool)}{r:Bool}(i:a.eval x=u)(j:a.eval y=v)
  (h:(eqGuard .neq t x y u v).run P w=.ok () w)(c:binOp .neq t u v=do pure (.bool (!(<-Op.equal t u v))))(e:(Op.equalIn (9999+1) t u v).run P w=.ok r w):
  (execOp a.eval ⟨d,.binOp .neq t x y l,ty,k,b,g⟩).run P w=.ok (.value (.bool (!r))) w:=by
 have f:(Op.equal t u v).run P w=.ok r w:=e
 simp only[execOp,i,j,Sem.run_bind,h,Result.andThen_ok,c,f]
 rfl
theorem toList_inj{a b:ByteArray}(h:a.toList=b.toList):a=b:=by
 rw[ByteArray.toList_eq,ByteArray.toList_eq]at h
 exact ByteArray.ext (Array.toList_inj.1 h)
theorem p6(a b:ByteArray):(a.toList==b.toList)=decide (a=b):=by
 by_cases h:a=b
 ·subst h;simp
 ·simp only[h,decide_false,beq_eq_false_iff_ne,ne_eq]
  exact λe=>h (toList_inj e)
theorem p8(a b:ByteArray):(a==b)=decide (a=b):=by rw[beq_toListBytes,p6]
def cw(a b:ByteArray):Bool:=Op.bytesLess a.toList b.toList
section strs
variable{x y:Operand}{t u:TypeId}{p q:ByteArray}
theorem aI.lz(c:ev env x=some (.string p):=by rfl)(e:ev env y=some (.string q):=by rfl):aI P R env H (.binOp .eql t x y u) ty (.bool (decide (p=q))):=λa w d h f g b _ _=>by
 rw[<-p6];simp[execOp,b.eval c,b.eval e,eqGuard,binOp,Op.stringOp]
theorem aI.qB(c:ev env x=some (.string p):=by rfl)(e:ev env y=some (.string q):=by rfl):aI P R env H (.binOp .neq t x y u) ty (.bool !(decide (p=q))):=λa w d h f g b _ _=>by
 rw[<-p6];simp[execOp,b.eval c,b.eval e,eqGuard,binOp,Op.stringOp]
theorem aI.Nj(c:ev env x=some (.string p):=by rfl)(e:ev env y=some (.string q):=by rfl):aI P R env H (.binOp .lss t x y u) ty (.bool (cw p q)):=λa w d h f g b _ _=>by
 simp[execOp,b.eval c,b.eval e,eqGuard,binOp,Op.stringOp,cw]
theorem aI.qj(c:ev env x=some (.string p):=by rfl)(e:ev env y=some (.string q):=by rfl):aI P R env H (.binOp .geq t x y u) ty (.bool !(cw p q)):=λa w d h f g b _ _=>by
 simp[execOp,b.eval c,b.eval e,eqGuard,binOp,Op.stringOp,cw]
theorem aI.lE(c:ev env x=some (.string p):=by rfl) [ut:bh P t .string]:aI P R env H (.call ⟨.builtin .len,#[x],#[t]⟩) ty (.int .i64 p.size):=λa w d f e g b _ _=>by
 simp[execOp,resolve,b.eval c,invoke,builtin,Builtin.len_,run_underlying ut.h,goInt]
theorem aI.qm{i:Operand}{k:IntKind}{j:Int}(n:Nat)(e:n<p.size)(f:ev env x=some (.string p):=by rfl)(hi:ev env i=some (.int k j):=by rfl)(c:j=(n:Int):=by rfl) [ut:bh P t .string]:
  aI P R env H (.index t x i) ty (.int .u8 (p[n]).toNat):=λa w d m l g b _ _=>by
 subst c
 simp[execOp,b.eval f,b.eval hi,Instr.index,asIntOf,run_underlying ut.h,e]
end strs
section nils
variable{x y:Operand}{t u e:TypeId}
theorem qW(n:Nat){w:World}{p:Option Addr}(ut:P.underlying t=some (.pointer e)):(Op.equalIn (n+1) t (.pointer p) (.pointer none)).run P w=.ok p.isNone w:=by
 cases p<;>simp[Op.equalIn,run_underlying ut]
theorem aI.nG{p:Option Addr}(c:ev env x=some (.pointer p))(f:ev env y=some (.pointer none)) [ut:bh P t (.pointer e)]:aI P R env H (.binOp .eql t x y u) ty (.bool p.isNone):=λa w d j i g b _ _=>
 qV (op:=.move x) (b.eval c) (b.eval f) (nF rfl) rfl (qW _ ut.h)
theorem aI.jm{p:Option Addr}(c:ev env x=some (.pointer p))(f:ev env y=some (.pointer none)) [ut:bh P t (.pointer e)]:aI P R env H (.binOp .neq t x y u) ty (.bool !p.isNone):=λa w d j i g b _ _=>
 qY (op:=.move x) (b.eval c) (b.eval f) (nF rfl) rfl (qW _ ut.h)
theorem aI.vz{p:Value}{vs:List Value}(j:ev env x=some p)(k:ev env y=some (.pointer none)) [ut:bh P t (.pointer e)] [rc:RC R H p vs]:aI P R env H (.binOp .eql t x y u) ty (.bool false):=λa w d o l g f _ _=>by
 obtain⟨b,n,c,E,m,i,_,_⟩:=rc.h.h
 subst i
 exact qV (op:=.move x) (f.eval j) (f.eval k) (nF rfl) rfl (qW _ ut.h)
theorem aI.jX{p:Value}{vs:List Value}(j:ev env x=some p)(k:ev env y=some (.pointer none)) [ut:bh P t (.pointer e)] [rc:RC R H p vs]:aI P R env H (.binOp .neq t x y u) ty (.bool true):=λa w d o l g f _ _=>by
 obtain⟨b,n,c,E,m,i,_,_⟩:=rc.h.h
 subst i
 exact qY (op:=.move x) (f.eval j) (f.eval k) (nF rfl) rfl (qW _ ut.h)
end nils
end
end
section
def ay:Value->Bool
 | .agg _| .tuple _=>false
 |_=>true
class One(v:Value):Prop where h:ay v=true
instance One.bool{b:Bool}:One (.bool b):=⟨rfl⟩
instance One.int{k:IntKind}{n:Int}:One (.int k n):=⟨rfl⟩
instance One.string{s:ByteArray}:One (.string s):=⟨rfl⟩
instance One.pointer{a:Option Addr}:One (.pointer a):=⟨rfl⟩
instance One.slice{a:Option Addr}{m n:Nat}:One (.slice a m n):=⟨rfl⟩
instance One.map{r:Option Nat}:One (.map r):=⟨rfl⟩
instance One.func{f:Fn}{a b:Array Value}:One (.func f a b):=⟨rfl⟩
class bI(vs:List Value):Prop where h:∀v∈vs,ay v=true
instance bI.nil:bI []:=⟨by simp⟩
instance bI.cons{v:Value}{vs:List Value} [h1:One v] [h2:bI vs]:bI (v::vs):=⟨by simpa using⟨h1.h,h2.h⟩⟩
theorem oT{v:Value}(h:ay v=true):v.cells= #[v]:=by cases v<;>simp_all[ay,Value.cells]
def bT:List Value->Nat->List Value->List Value
 |[],_,cs=>cs
 |v::vs,k+1,cs=>v::bT vs k cs
 |v::vs,0,[]=>v::vs
 |_::vs,0,c::cs=>c::bT vs 0 cs
theorem gC:∀(vs:List Value) (off:Nat) (cs:List Value),bT vs off cs=vs.take off++cs++vs.drop (off+cs.length)
 |[],k,cs=>by simp[bT]
 |v::vs,k+1,cs=>by simp[bT,gC vs k cs,Nat.add_right_comm]
 |v::vs,0,[]=>by simp[bT]
 |v::vs,0,c::cs=>by simp[bT,gC vs 0 cs]
instance bI.bT{vs cs:List Value}{k:Nat} [h1:bI vs] [h2:bI cs]:bI (Go.Proofs.YtocjmmbldeljnaaGreatDoor.bT vs k cs):=⟨λv hv=>by
 simp only[gC,aad]at hv
 rcases hv with(hv|hv)|hv
 ·exact h1.h v (aam hv)
 ·exact h2.h v hv
 ·exact h1.h v (aaj hv)⟩
instance bI.take{vs:List Value}{k:Nat} [h1:bI vs]:bI (vs.take k):=⟨λv a=>h1.h v (aam a)⟩
instance bI.drop{vs:List Value}{k:Nat} [h1:bI vs]:bI (vs.drop k):=⟨λv a=>h1.h v (aaj a)⟩
theorem mv{vs cs:List Value}{off:Nat}(h:off+cs.length<=vs.length):(bT vs off cs).length=vs.length:=by rw[gC];simp;omega
theorem yk{vs:List Value}{off:Nat}:bT vs off []=vs:=by rw[gC];simp
theorem yj{vs cs:List Value}{off:Nat}{c:Value}(h:off+cs.length<vs.length):bT vs off (c::cs)=bT (vs.set off c) (off+1) cs:=by
 apply List.ext_getElem?
 intro i
 simp only[gC,List.getElem?_append,List.length_append,aax,List.getElem?_take,List.getElem?_drop,List.getElem?_set,aao,List.length_set]
 have e:min off vs.length=off:=by omega
 have d:min (off+1) vs.length=off+1:=by omega
 simp only[e,d,List.getElem?_cons]
 by_cases a:i<off
 ·simp[a,show i<off+(cs.length+1) by omega,show i<off+1 by omega,show i<off+1+cs.length by omega,show ¬off=i by omega]
 ·by_cases f:i=off
  ·subst f;simp[show i<i+(cs.length+1) by omega,show i<i+1+cs.length by omega,show i<vs.length by omega]
  ·by_cases b:i<off+(cs.length+1)
   ·simp[a,b,show ¬i<off+1 by omega,show i<off+1+cs.length by omega,show ¬i-off=0 by omega,show i-off-1=i-(off+1) by omega]
   ·simp[b,show ¬i<off+1+cs.length by omega]
    rw[aaa (by omega),show off+(cs.length+1)+(i-(off+(cs.length+1)))=off+1+cs.length+(i-(off+1+cs.length)) by omega]
theorem O7(w:World)(b:Nat)(o o':Obj):dz (dz w b o) b o'=dz w b o':=by simp[dz]
theorem O6{w:World}{b off:Nat}{vs:List Value}{E:TypeId}{fr:Nat×Nat}(h:w.heap[b]? =some (.cells vs.toArray E fr))(v:Value):w.setCell ⟨b,off,none⟩ v=dz w b (.cells (vs.set off v).toArray E fr):=by
 have c:=lF h
 unfold World.setCell dz
 congr 1
 apply Array.ext_getElem?
 intro i
 simp only[Array.getElem?_modify,aay,c]
 by_cases a:b=i
 ·subst a;simp[h]
 ·simp[a]
theorem pG{P:Program}{b off:Nat}{E:TypeId}:∀(cs:List Value) (i:Nat) (vs:List Value) (w:World),w.heap[b]? =some (.cells vs.toArray E (0,0))->(∀v∈cs,ay v=true)->off+i+cs.length<=vs.length->
  (storeCells ⟨b,off,none⟩ cs i).run P w=.ok () (dz w b (.cells (bT vs (off+i) cs).toArray E (0,0)))
 |[],i,vs,w,hw,_,_=>by
  have:dz w b (.cells vs.toArray E (0,0))=w:=by
   unfold dz
   have:w.heap.setIfInBounds b (.cells vs.toArray E (0,0))=w.heap:=by
    apply Array.ext_getElem?
    intro i
    simp only[aay]
    by_cases a:b=i
    ·subst a;rw[hw];simp[lF hw]
    ·simp[a]
   rw[this]
  rw[yk,this];rfl
 |v::cs,i,vs,w,hw,ho,hl=>by
  simp only[aao]at hl
  have a:(⟨b,off,none⟩:Addr).add i=⟨b,off+i,none⟩:=by
   simp only[Addr.add];split
   ·rename_i c;subst c;rfl
   ·rfl
  have h:w.cell? ⟨b,off+i,none⟩=some (vs[off+i]'(by omega)):=by simp[World.cell?,hw]
  have j:w.frozen? ⟨b,off+i,none⟩=false:=by simp[World.frozen?,hw]
  have k:=ho v (by simp)
  have d:(store ⟨b,off+i,none⟩ v).run P w=.ok () (dz w b (.cells (vs.set (off+i) v).toArray E (0,0))):=by
   rw[<-O6 hw]
   cases v<;>simp_all[store,Sem.run,ay]
  have g:(dz w b (.cells (vs.set (off+i) v).toArray E (0,0))).heap[b]? =some (.cells (vs.set (off+i) v).toArray E (0,0)):=by
   simp[dz,lF hw]
  have e:=pG (P:=P) (b:=b) (off:=off) (E:=E) cs (i+1) (vs.set (off+i) v) _ g (λu f=>ho u (by simp[f])) (by simp;omega)
  simp only[storeCells,a,Sem.run_bind,d,Result.andThen_ok,e,O7]
  rw[yj (by omega),aal]
class Wr(H:aF)(p:Value)(vs:outParam (List Value))(off:outParam Nat)(upd:outParam (List Value->aF)):Prop where
 h:∃b E H1 H2 T1 T2,p=.pointer (some ⟨b,off,none⟩)/\H=H1++(T1++(b,.cells vs.toArray E (0,0))::T2)::H2/\∀vs',upd vs'=H1++(T1++(b,.cells vs'.toArray E (0,0))::T2)::H2
instance Wr.there{H:aF}{T:au}{p:Value}{vs:List Value}{off:Nat}{upd:List Value->aF} [h:Wr H p vs off upd]:Wr (T::H) p vs off (λvs'=>T::upd vs'):=
 ⟨let ⟨b,E,H1,H2,T1,T2,h1,h2,h3⟩:=h.h;⟨b,E,T::H1,H2,T1,T2,h1,by rw[h2];rfl,λvs'=>by rw[h3];rfl⟩⟩
instance Wr.here{H:aF}{b:Nat}{vs:List Value}{E:TypeId}:Wr ([(b,.cells vs.toArray E (0,0))]::H) (.pointer (some ⟨b,0,none⟩)) vs 0 (λvs'=>[(b,.cells vs'.toArray E (0,0))]::H):=
 ⟨⟨b,E,[],H,[],[],rfl,rfl,λ_=>rfl⟩⟩
instance Wr.add{H:aF}{p:Value}{k:Nat}{vs:List Value}{off:Nat}{upd:List Value->aF} [h:Wr H p vs off upd]:Wr H (gr p k) vs (off+k) upd:=
 ⟨by
  obtain⟨b,E,a,c,d,e,g,i,j⟩:=h.h
  refine⟨b,E,a,c,d,e,?_,i,j⟩
  subst g
  simp only[gr,Addr.add];split
  ·rename_i f;subst f;rfl
  ·rfl⟩
section
variable{P:Program}{N:Nat}{R:ao}{ops:Array Oper}{l:List Oper}{env:Env}{H:aF}{K:Env->aF->Prop}{ty:TypeId}{pos:String}{af:Array Edge}
theorem yb{t:TypeId}{n:Nat} [sz:Sz P t n]{b off:Nat}{E:TypeId}{v:Value}{cs vs:List Value}{w:World}(a:v.cells=cs.toArray)(c:cs.length=n)(d:w.heap[b]? =some (.cells vs.toArray E (0,0)))(ho:∀u∈cs,ay u=true)(f:off+cs.length<=vs.length):
  (Instr.storeAt t (.pointer (some ⟨b,off,none⟩)) v).run P w=.ok () (dz w b (.cells (bT vs off cs).toArray E (0,0))):=by
 have h:=pG (P:=P) (b:=b) (off:=off) (E:=E) cs 0 vs w d ho (by omega)
 subst c
 have e:v.cells.size=cs.length:=by rw[a];simp
 simp only[Instr.storeAt,Instr.sureAddr,Sem.run_bind,Sem.run_pure,Result.andThen_ok,storeVar,sz.h,e,ne_eq,not_true,if_false]
 rw[a]
 exact h
theorem aB.tQ{t:TypeId}{x y:Operand}{n:Nat}{p v:Value}{vs cs:List Value}{off:Nat}{c:List Value->aF}(q:ev env x=some p)(r:ev env y=some v)(i:v.cells=cs.toArray)(k:cs.length=n) [sz:Sz P t n] [wr:Wr H p vs off c](ho:∀u∈cs,ay u=true)
  (j:off+cs.length<=vs.length)(m:aB false P N R ops l env (c (bT vs off cs)) K):aB false P N R ops (⟨none,.store t x y,ty,pos,af,none⟩::l) env H K:=
 aB.mI λa w e s D=>by
  obtain⟨b,E,z,A,B,C,f,g,d⟩:=wr.h
  subst f;subst g
  have o:w.heap[b]? =some (.cells vs.toArray E (0,0)):=s.2 (b,_) (by simp)
  refine⟨dz w b (.cells (bT vs off cs).toArray E (0,0)),c (bT vs off cs),.inl ?_,?_,?_,m⟩
  ·simp[execOp,e.eval q,e.eval r,yb i k o ho j]
  ·rw[d];exact Frame.set
  ·rw[d];exact Sat.set s
theorem aB.ca{t:TypeId}{x y:Operand}{p v:Value}{vs:List Value}{off:Nat}{a:List Value->aF}(d:ev env x=some p)(e:ev env y=some v) [sz:Sz P t 1] [wr:Wr H p vs off a] [o:One v](c:aB false P N R ops l env (a (bT vs off [v])) K)
  (b:off+1<=vs.length:=by first|decide|exact aah rfl):aB false P N R ops (⟨none,.store t x y,ty,pos,af,none⟩::l) env H K:=
 aB.tQ (cs:=[v]) d e (oT o.h) rfl (by simpa using o.h) (by simpa using b) c
theorem aB.bZ{t:TypeId}{x y:Operand}{n:Nat}{p:Value}{vs cs:List Value}{off:Nat}{a:List Value->aF}(e:ev env x=some p)(f:ev env y=some (.agg cs.toArray)) [sz:Sz P t n] [wr:Wr H p vs off a] [o:bI cs](d:aB false P N R ops l env (a (bT vs off cs)) K)
  (c:cs.length=n:=by rfl)(b:off+cs.length<=vs.length:=by first|decide|exact aah rfl):aB false P N R ops (⟨none,.store t x y,ty,pos,af,none⟩::l) env H K:=
 aB.tQ (cs:=cs) e f rfl c o.h b d
theorem aB.fresh{op:Op}{d:Nat}{o:Obj}{v:Nat->Value}(e:Nat.blt d N=true)(h:∀a w,dH a env->Sat w H->RO w R H->∃n,(execOp a.eval ⟨some d,op,ty,pos,af,none⟩).run P w=.ok (.value (v w.heap.size)) (({w with drawn:=n}:World).alloc o))
  (f:∀b,aB false P N R ops l ((d,v b)::env) ([(b,o)]::H) K):aB false P N R ops (⟨some d,op,ty,pos,af,none⟩::l) env H K:=
 aB.lv e λa w c s i=>by
  obtain⟨n,g⟩:=h a w c s i
  refine⟨_,_,_,g,?_,?_,f w.heap.size⟩
  ·exact(Frame.drew w H n).trans (Frame.alloc {w with drawn:=n} H o)
  ·exact Sat.alloc (w:={w with drawn:=n}) (s.drew n) o
theorem lH{t:TypeId}{c:Array Value}{w:World}:(newRow t c).run P w=.ok ⟨w.heap.size,0,none⟩ (w.alloc (.cells c t)):=by
 simp[newRow]
theorem aB.zy{d:Nat}{E:TypeId}{x:Operand}{v:Value}(g:ev env x=some v) [o:One v](f:∀b,aB false P N R ops l ((d,.pointer (some ⟨b,0,none⟩))::env) ([(b,.cells [v].toArray E (0,0))]::H) K)(e:Nat.blt d N=true:=by rfl):
  aB false P N R ops (⟨some d,.box E x,ty,pos,af,none⟩::l) env H K:=
 aB.fresh (v:=λb=>.pointer (some ⟨b,0,none⟩)) e (λa w c s i=>⟨w.drawn,by
  have:=oT o.h
  simp[execOp,c.eval g,Instr.box,newVar,this,lH]⟩) f
theorem aB.cc{d:Nat}{E:TypeId}{x:Operand}{cs:List Value}(g:ev env x=some (.agg cs.toArray))(f:∀b,aB false P N R ops l ((d,.pointer (some ⟨b,0,none⟩))::env) ([(b,.cells cs.toArray E (0,0))]::H) K)(e:Nat.blt d N=true:=by rfl):
  aB false P N R ops (⟨some d,.box E x,ty,pos,af,none⟩::l) env H K:=
 aB.fresh (v:=λb=>.pointer (some ⟨b,0,none⟩)) e (λa w c s h=>⟨w.drawn,by
  simp[execOp,c.eval g,Instr.box,newVar,lH,Value.cells]⟩) f
theorem aB.p4{d:Nat}{E:TypeId}{z:Value} [f:Zr P E z] [o:One z](e:∀b,aB false P N R ops l ((d,.pointer (some ⟨b,0,none⟩))::env) ([(b,.cells [z].toArray E (0,0))]::H) K)(c:Nat.blt d N=true:=by rfl):
  aB false P N R ops (⟨some d,.alloc E,ty,pos,af,none⟩::l) env H K:=
 aB.fresh (v:=λb=>.pointer (some ⟨b,0,none⟩)) c (λa w g s i=>⟨w.drawn,by
  have:=oT o.h
  simp[execOp,Instr.alloc,f.h,newVar,this,lH]⟩) e
theorem aB.cn{d:Nat}{E:TypeId}{cs:List Value} [f:Zr P E (.agg cs.toArray)](e:∀b,aB false P N R ops l ((d,.pointer (some ⟨b,0,none⟩))::env) ([(b,.cells cs.toArray E (0,0))]::H) K)(c:Nat.blt d N=true:=by rfl):
  aB false P N R ops (⟨some d,.alloc E,ty,pos,af,none⟩::l) env H K:=
 aB.fresh (v:=λb=>.pointer (some ⟨b,0,none⟩)) c (λa w g s i=>⟨w.drawn,by
  simp[execOp,Instr.alloc,f.h,newVar,lH,Value.cells]⟩) e
theorem aB.makeMap{d:Nat}{T:TypeId}(e:∀b,aB false P N R ops l ((d,.map (some b))::env) ([(b,.map #[] 0)]::H) K)(c:Nat.blt d N=true:=by rfl):
  aB false P N R ops (⟨some d,.makeMap T none,ty,pos,af,none⟩::l) env H K:=
 aB.fresh (v:=λb=>.map (some b)) c (λa w f s g=>⟨w.drawn,by
  simp[execOp,Instr.makeMap,newObj,Sem.run]⟩) e
class dS(P:Program)(t:TypeId)(places:outParam (List (Nat×Nat)))(zero:outParam (List Value)):Prop where
 h:∃fs:Array Field,P.underlying t=some (.struct fs)/\(∀w,(zeroValue t).run P w=.ok (.agg zero.toArray) w)/\∀w,(fs.mapM λf=>do pure (f.offset, <-sizeOf f.type):Sem _).run P w=.ok places.toArray w
def eU(places:List (Nat×Nat))(cells:List Value):List (Nat×Value)->Option (List Value)
 |[]=>some cells
 |(i,v)::r=>match places[i]? with
  |none=>none
  |some (off,size)=>match v with
   | .agg cs=>match Nat.beq cs.toList.length size&&Nat.ble (off+cs.toList.length) cells.length with
    |true=>eU places (bT cells off cs.toList) r
    |false=>none
   |v=>match Nat.beq 1 size&&Nat.ble (off+1) cells.length with
    |true=>eU places (bT cells off [v]) r
    |false=>none
theorem L6(cs:List Value):∀(off:Nat) (vs:List Value) (k:Nat),off+k+cs.length<=vs.length->(cs.zipIdx k).foldl (λ(c:Array Value) x=>c.setIfInBounds (off+x.2) x.1) vs.toArray=(bT vs (off+k) cs).toArray:=by
 induction cs with
 |nil=>intro off vs k _;simp[yk]
 |cons c cs ih=>
  intro off vs k h
  simp only[aao]at h
  rw[List.zipIdx_cons,List.foldl_cons,yj (by omega)]
  simp only[List.setIfInBounds_toArray]
  rw[ih off _ (k+1) (by simp;omega),aal]
theorem sj{d:List (Nat×Nat)}:∀(parts:List (Nat×Value)) (cells:List Value) {out:List Value},eU d cells parts=some out->Instr.fill (d[·]?) cells.toArray parts=some out.toArray
 |[],cells,out,h=>by simp[eU]at h;simp[Instr.fill,h]
 |(i,v)::r,cells,out,h=>by
  simp only[eU]at h
  cases hp:d[i]? with
  |none=>simp[hp]at h
  |some os=>
   obtain⟨f,o⟩:=os
   simp only[hp]at h
   have j:∀a:List Value,v.cells=a.toArray->(Nat.beq a.length o&&Nat.ble (f+a.length) cells.length)=true->eU d (bT cells f a) r=some out->Instr.fill (d[·]?) cells.toArray ((i,v)::r)=some out.toArray:=by
    intro a g b m
    simp only[Bool.and_eq_true]at b
    have k:=aap b.1
    have p:=aah b.2
    subst k
    have n:v.cells.size=a.length:=by rw[g];simp
    have l:=L6 a f cells 0 (by omega)
    have e:v.cells.zipIdx.foldl (λa x=>a.setIfInBounds (f+x.2) x.1) cells.toArray=(bT cells f a).toArray:=by
     rw[g, <-Array.foldl_toList,Array.toList_zipIdx];exact l
    simp only[Instr.fill,hp,n,ne_eq,not_true]
    rw[aaa (by simp;omega)]
    refine Eq.trans ?_ (sj r _ m)
    exact congrArg (λc=>Instr.fill (d[·]?) c r) e
   cases v with
   |agg a=>
    simp only at h
    split at h
    ·rename_i b;exact j a.toList (by simp[Value.cells]) b h
    ·cases h
   |_=>
    simp only at h
    split at h
    ·rename_i b;exact j [_] rfl b h
    ·cases h
theorem wh{p q:Nat->Option (Nat×Nat)}:∀(parts:List (Nat×Value)),(∀x∈parts,p x.1=q x.1)->∀cells,Instr.fill p cells parts=Instr.fill q cells parts
 |[],_,cells=>rfl
 |(i,v)::r,h,cells=>by
  have a:=h (i,v) (by simp)
  simp only at a
  simp only[Instr.fill,a]
  split
  ·rfl
  ·split
   ·rfl
   ·exact wh r (λx b=>h x (by simp[b])) _
theorem aI.build{H:aF}{t:TypeId}{b:List (Nat×Nat)}{zero out:List Value}{xs:List (Nat×Operand)}{parts:List (Nat×Value)} [e:dS P t b zero]
  (u:∀a,dH a env->xs.map (λp=>(p.1,a.eval p.2))=parts)(r:eU b zero parts=some out):aI P R env H (.build t xs.toArray) ty (.agg out.toArray):=λa w d v c g q s z=>by
 obtain⟨y,f,j,k⟩:=e.h
 have l:=sj parts zero r
 have m:xs.toArray.map (λx=>(x.1,a.eval x.2))=parts.toArray:=by rw[aat,u a q]
 have n:(execOp a.eval ⟨d,.build t xs.toArray,ty,v,c,g⟩)=(do pure (.value (<-Instr.build t parts.toArray))):=by
  show(do pure (Next.value (<-Instr.build t (xs.toArray.map λx:Nat×Operand=>(x.1,a.eval x.2)))))=_
  rw[m]
 have o:(λi:Nat=>b.toArray[i]?)=(λi:Nat=>b[i]?):=by funext i;simp
 rw[n]
 simp only[Instr.build,Sem.run_bind,j,Result.andThen_ok,run_underlying f,k,Value.cells,o,l]
 rfl
def lA(env:Env):List (Nat×Operand)->Option (List (Nat×Value))
 |[]=>some []
 |(i,x)::r=>match ev env x,lA env r with
  |some v,some vs=>some ((i,v)::vs)
  |_,_=>none
theorem dH.rZ{a:Act}{env:Env}(h:dH a env):∀{xs:List (Nat×Operand)} {vs:List (Nat×Value)},lA env xs=some vs->xs.map (λp=>(p.1,a.eval p.2))=vs
 |[],vs,hx=>by simp[lA]at hx;simp[hx]
 |(i,x)::r,vs,hx=>by
  simp only[lA]at hx
  split at hx
  ·rename_i v d b c
   simp only[aag]at hx
   subst hx
   simp[h.eval b,h.rZ c]
  ·cases hx
theorem aI.cC{H:aF}{t:TypeId}{b:List (Nat×Nat)}{zero out:List Value}{xs:List (Nat×Operand)}{parts:List (Nat×Value)} [f:dS P t b zero]
  (e:lA env xs=some parts:=by rfl)(d:eU b zero parts=some out:=by rfl):aI P R env H (.build t xs.toArray) ty (.agg out.toArray):=
 aI.build (λa c=>c.rZ e) d
theorem aB.buildSlice{d:Nat}{T E:TypeId}{n k:Nat}{z:Value}{zs out:List Value}{xs:List (Nat×Operand)}{parts:List (Nat×Value)} [ut:bh P T (.slice E)] [sz:Sz P E k] [F:Zr P E z]
  (B:Nat.ble (n*k) (2^24)=true)(c:Nat.beq (n*k) 0=false)(D:((Array.range (n*k)).map (z.cells[· % z.cells.size]!))=zs.toArray)(C:lA env xs=some parts)
  (t:eU ((List.range n).map λi=>(i*k,k)) zs parts=some out)
  (u:∀b,aB false P N R ops l ((d,.slice (some ⟨b,0,none⟩) n n)::env) ([(b,.cells out.toArray E (0,0))]::H) K)(r:Nat.blt d N=true:=by rfl)(y:parts.all (λp=>Nat.blt p.1 n)=true:=by rfl):
  aB false P N R ops (⟨some d,.buildSlice T n xs.toArray,ty,pos,af,none⟩::l) env H K:=
 aB.fresh (v:=λb=>.slice (some ⟨b,0,none⟩) n n) r (λa w q s G=>⟨w.drawn,by
  have f:xs.toArray.map (λx=>(x.1,a.eval x.2))=parts.toArray:=by rw[aat,q.rZ C]
  have g:(execOp a.eval ⟨some d,.buildSlice T n xs.toArray,ty,pos,af,none⟩)=(do pure (.value (<-Instr.buildSlice T n parts.toArray))):=by
   show(do pure (Next.value (<-Instr.buildSlice T n (xs.toArray.map λx:Nat×Operand=>(x.1,a.eval x.2)))))=_
   rw[f]
  have j:Instr.fill (λi=>some (i*k,k)) zs.toArray parts=some out.toArray:=by
   rw[<-sj parts zs t]
   refine wh parts (λp A=>?_) zs.toArray
   have:p.1<n:=aah (List.all_eq_true.1 y p A)
   simp[this]
  have m:¬n*k>2^24:=Nat.not_lt.2 (aah B)
  have o:¬n*k=0:=λe=>by rw[e]at c;cases c
  rw[g]
  simp only[Instr.buildSlice,Sem.run_bind,run_underlying ut.h,Result.andThen_ok,sz.h,aaa m,aaa o,Sem.run_pure,F.h,D,j,lH]⟩) u
end
end
section
def nE:Nat->List Value->Env
 |_,[]=>[]
 |i,v::vs=>(i,v)::nE (i+1) vs
theorem Ap{vs:List Value}:∀(i t:Nat) (v:Value),(nE i vs).get? t=some v->i<=t/\vs[t-i]? =some v:=by
 induction vs with
 |nil=>intro i t v h;cases h
 |cons u vs ih=>
  intro i t v h
  simp only[nE,Env.get?]at h
  split at h
  ·rename_i a
   have:=aap a
   subst this
   simp only[aag]at h
   simp[h]
  ·have:=ih (i+1) t v h
   have b:t-i=(t-(i+1))+1:=by omega
   exact⟨by omega,by rw[b];simpa using this.2⟩
def qZ(tmps:Array Value)(rv:ResultVar):Sem Value:=match rv with
 | .tmp t=>pure (tmps.getD t undef)
 | .cell x t=>do loadVar t (<-asAddr (tmps.getD x undef))
theorem tA(a:Func)(b:Array Value):results a b=(do let vs<-a.results.mapM (qZ b);pure (if h:vs.size=1 then vs[0]else .tuple vs)):=rfl
class RV(R:ao)(H:aF)(env:Env)(P:Program)(rv:ResultVar)(v:outParam Value):Prop where
 h:∀(a:Act) (w:World),dH a env->Sat w H->RO w R H->(qZ a.tmps rv).run P w=.ok v w
section
variable{P:Program}{N:Nat}{R:ao}{env:Env}{H:aF}{Q:Exit->Env->aF->Prop}
theorem RV.tmp{t:Nat}{v:Value}(h:Env.get? env t=some v):RV R H env P (.tmp t) v:=⟨λa w b s c=>by
 have:=b t v h
 simp[qZ,this]⟩
theorem RV.ej{x:Nat}{t:TypeId}{p:Value}{n:Nat}{vs:List Value}(j:Env.get? env x=some p) [c:bV P t true] [sz:Sz P t n] [rc:RC R H p vs](i:vs.length=n):RV R H env P (.cell x t) (.agg vs.toArray):=⟨λa w g s k=>by
 obtain⟨b,off,d,e⟩:=qO (P:=P) rc.h s k
 subst d;subst i
 have:=run_loadCellsFrom (P:=P) (w:=w) (b:=b) (off:=off) vs 0 #[] (by simpa using e)
 have f:=g x _ j
 simp[qZ,f,asAddr,loadVar,c.h,sz.h,loadCells,this]⟩
def jP(P:Program)(R:ao)(rs:List ResultVar)(env:Env)(H:aF)(v:Value):Prop:=
 ∀(a:Act) (w:World) (fn:Func),fn.results=rs.toArray->dH a env->Sat w H->RO w R H->(results fn a.tmps).run P w=.ok v w
theorem jP.none:jP P R [] env H (.tuple #[]):=λa w c b d s e=>by simp[results,b]
theorem jP.one{r:ResultVar}{v:Value}(h:RV R H env P r v):jP P R [r] env H v:=λa w e c b s d=>by
 have:=h.h a w b s d
 rw[tA,c]
 simp[this]
theorem jP.two{c d:ResultVar}{f g:Value}(k:RV R H env P c f)(l:RV R H env P d g):jP P R [c,d] env H (.tuple #[f,g]):=λa w n m b s e=>by
 have i:=k.h a w b s e
 have j:=l.h a w b s e
 rw[tA,m]
 simp[i,j]
theorem jP.three{d e f:ResultVar}{g i j:Value}(n:RV R H env P d g)(o:RV R H env P e i)(p:RV R H env P f j):jP P R [d,e,f] env H (.tuple #[g,i,j]):=λa w r q b s c=>by
 have k:=n.h a w b s c
 have l:=o.h a w b s c
 have m:=p.h a w b s c
 rw[tA,q]
 simp[k,l,m]
def pF(P:Program)(R:ao)(rs:List ResultVar)(Post:Value->aF->Prop):Exit->Env->aF->Prop
 | .normal,env,H=>∃v H',jP P R rs env H v/\bu H H'/\Post v H'
 | .ret,env,H=>∃v H',jP P R rs env H v/\bu H H'/\Post v H'
 |_,_,_=>False
theorem Spec.body{f:FuncId}{d:Func}{c:Code}{b:List Value}{rs:List ResultVar}{Post:Value->aF->Prop}(x:P.funcs[f]? =some d)(u:d.body=some c)(p:d.results=rs.toArray)(z:d.ntmps=N)(r:Nat.ble b.length N=true)
  (h:bF P N R c (nE 0 b) H (pF P R rs Post)):Spec P f b R H Post:=λw s A=>by
 refine calls_of_wp x u ?_
 have D:b.length<=N:=aah r
 have q:St N R {tmps:=b.toArray++Array.replicate (d.ntmps-b.toArray.size) undef,defers:=[]} w (nE 0 b) H w H:=by
  refine⟨rfl,by simp[z];omega,λt v j=>?_,s,A,Frame.refl w H⟩
  have:=(Ap 0 t v j).2
  simp only[Nat.sub_zero]at this
  have y:t<b.length:=by
   rcases Nat.lt_or_ge t b.length with h|h
   ·exact h
   ·rw[List.getElem?_eq_none h]at this;cases this
  rw[Array.getElem?_append_left (by simpa using y)]
  simpa using this
 refine h _ w H (λe C B o k g a=>?_) _ w q
 cases e with
 |normal=>obtain⟨v,m,j,i,n⟩:=g;exact⟨a.defers,v,j o k d p a.env a.sat a.ro,v,m,rfl,n,i.sat a.sat,a.fr.trans (i.frame k)⟩
 |ret=>obtain⟨v,m,j,i,n⟩:=g;exact⟨a.defers,v,j o k d p a.env a.sat a.ro,v,m,rfl,n,i.sat a.sat,a.fr.trans (i.frame k)⟩
 |exit id=>exact g.elim
 |goto l=>exact g.elim
 |panic ch=>exact g.elim
 |outgrown=>exact g.elim
theorem aG{y:Code}(h:bF P N R y env H Q):kj P N R y Q .normal env H:=h
theorem aR{y:Code}(h:Q .ret env H):kj P N R y Q .ret env H:=h
theorem bk{y:Code}{id:Nat}(h:Q (.exit id) env H):kj P N R y Q (.exit id) env H:=h
theorem bz{id:Nat}(h:Q .normal env H):lW id Q .normal env H:=h
theorem bi{id:Nat}(h:Q .ret env H):lW id Q .ret env H:=h
theorem bq{id:Nat}(h:Q .normal env H):lW id Q (.exit id) env H:=by simp only[lW,if_true];exact h
theorem iP{id a:Nat}(h:Q (.exit a) env H)(b:Nat.beq a id=false:=by rfl):lW id Q (.exit a) env H:=by
 have:¬a=id:=λe=>by subst e;rw[Nat.beq_refl]at b;cases b
 simp only[lW,aaa this];exact h
theorem cK{I:Env->aF->Prop}(h:Q .ret env H):pf I Q .ret env H:=h
theorem bw{I:Env->aF->Prop}{id:Nat}(h:Q (.exit id) env H):pf I Q (.exit id) env H:=h
theorem aO{rs:List ResultVar}{Post:Value->aF->Prop}{H':aF}(v:Value)(h:jP P R rs env H v)(a:bu H H')(b:Post v H'):pF P R rs Post .ret env H:=⟨v,H',h,a,b⟩
theorem dc{rs:List ResultVar}{Post:Value->aF->Prop}{H':aF}(v:Value)(h:jP P R rs env H v)(a:bu H H')(b:Post v H'):pF P R rs Post .normal env H:=⟨v,H',h,a,b⟩
theorem bu.none(H:aF):bu H []:=bu.pick [] H
theorem bu.one(is:List Nat)(H:aF):bu H [(take is H).flatten]:=⟨(rest is H).flatten,by simpa using li is H⟩
theorem Spec.du{f:FuncId}{g:List Value}{H':aF}{Post:Value->aF->Prop}(h:H.flatten=H'.flatten)(s:Spec P f g R H' Post):Spec P f g R H Post:=λw q i=>by
 have k:Sat w H':=q.perm (by rw[h])
 have l:RO w R H':=λb o c=>⟨(i b o c).1,by rw[<-h];exact(i b o c).2⟩
 refine(s w k l).mono λe t ⟨v,j,m,d,r,a⟩=>⟨v,j,m,d,r,a.le,λb c n=>a.gg b c (by rw[<-h];exact n),λp d=>by rw[h];exact a.jC p d,a.os,a.output,a.tape⟩
end
end
section
variable{α β:Type}
def Row(c:Array Value)(off:Nat)(cs:List Value):Prop:=∀k,k<cs.length->c[off+k]? =cs[k]?
theorem gU{enc:α->List Value}{sz:Nat}:∀{xs:List α},(∀x∈xs,(enc x).length=sz)->(xs.flatMap enc).length=xs.length*sz
 |[],_=>by simp
 |x::xs,h=>by
  rw[aaf,List.length_append,gU (λy a=>h y (by simp[a])),h x (by simp),aao]
  rw[aab];omega
theorem qg{enc:α->List Value}{sz:Nat}:∀{xs:List α} {i:Nat} {x:α},(∀x∈xs,(enc x).length=sz)->xs[i]? =some x->∀j,j<sz->(xs.flatMap enc)[i*sz+j]? =(enc x)[j]?
 |[],i,x,_,h,j,_=>by simp at h
 |y::xs,0,x,hl,h,j,hj=>by
  simp only[List.getElem?_cons_zero,aag]at h
  subst h
  rw[aaf,List.getElem?_append_left (by rw[hl y (by simp)];omega)]
  simp
 |y::xs,i+1,x,hl,h,j,hj=>by
  simp only[List.getElem?_cons_succ]at h
  have a:=hl y (by simp)
  rw[aaf,List.getElem?_append_right (by rw[a,aab];omega),a,show(i+1)*sz+j-sz=i*sz+j by rw[aab];omega]
  exact qg (λz b=>hl z (by simp[b])) h j hj
theorem wx{enc:α->List Value}{sz:Nat}:∀{xs:List α} {i:Nat} {x x':α} {k:Nat} {cs:List Value},(∀x∈xs,(enc x).length=sz)->xs[i]? =some x->(enc x').length=sz->enc x'=bT (enc x) k cs->k+cs.length<=sz->
  (xs.set i x').flatMap enc=bT (xs.flatMap enc) (i*sz+k) cs
 |[],i,x,x',k,cs,_,h,_,_,_=>by simp at h
 |y::xs,0,x,x',k,cs,hl,h,hx',he,hk=>by
  simp only[List.getElem?_cons_zero,aag]at h
  subst h
  have a:=hl y (by simp)
  simp only[List.set_cons_zero,aaf,he,gC,Nat.zero_mul,Nat.zero_add]
  rw[List.take_append_of_le_length (by omega),List.drop_append_of_le_length (by omega)]
  simp
 |y::xs,i+1,x,x',k,cs,hl,h,hx',he,hk=>by
  simp only[List.getElem?_cons_succ]at h
  have a:=hl y (by simp)
  have c:=wx (λz b=>hl z (by simp[b])) h hx' he hk
  simp only[List.set_cons_succ,aaf,c,gC]
  rw[List.take_append,List.drop_append,a,List.take_of_length_le (l:=enc y) (by rw[a,aab];omega),List.drop_eq_nil_of_le (show(enc y).length<=_ by rw[a,aab];omega)]
  rw[show(i+1)*sz+k-sz=i*sz+k by rw[aab];omega,show(i+1)*sz+k+cs.length-sz=i*sz+k+cs.length by rw[aab];omega]
  simp
structure RS(R:ao)(sz:Nat)(enc:α->List Value)(v:Value)(xs:List α):Prop where
 len:∀x∈xs,(enc x).length=sz
 one:∀x∈xs,∀u∈enc x,ay u=true
 h:∃p cap,v=.slice p xs.length cap/\xs.length<=cap/\cap<=maxLen/\(xs=[]\/∃b off c E fr,p=some ⟨b,off,none⟩/\R b (.cells c E fr)/\Row c off (xs.flatMap enc))
structure OS(E:TypeId)(sz:Nat)(enc:α->List Value)(v:Value)(xs:List α)(T:au):Prop where
 len:∀x∈xs,(enc x).length=sz
 one:∀x∈xs,∀u∈enc x,ay u=true
 h:(v=.slice none 0 0/\xs=[]/\T=[])\/∃b off c cap,v=.slice (some ⟨b,off,none⟩) xs.length cap/\T=[(b,.cells c E (0,0))]/\xs.length<=cap/\cap<=maxLen/\off+cap*sz<=c.size/\Row c off (xs.flatMap enc)
theorem RS.mono{R R':ao}{sz:Nat}{enc:α->List Value}{v:Value}{xs:List α}(h:RS R sz enc v xs)(m:∀b o,R b o->R' b o):RS R' sz enc v xs:=
 ⟨h.len,h.one,by
  obtain⟨p,a,i,j,k,l⟩:=h.h
  refine⟨p,a,i,j,k,l.imp id λ⟨b,n,c,E,d,e,f,g⟩=>⟨b,n,c,E,d,e,m _ _ f,g⟩⟩⟩
theorem RS.rx{R:ao}{H:aF}{sz:Nat}{enc:α->List Value}{v:Value}{xs:List α}(h:RS R sz enc v xs):RS (Rx R H) sz enc v xs:=h.mono λ_ _=>.inl
theorem OS.rs{R:ao}{E:TypeId}{sz:Nat}{enc:α->List Value}{v:Value}{xs:List α}{T:au}(h:OS E sz enc v xs T)(i:∀p∈T,R p.1 p.2):RS R sz enc v xs:=
 ⟨h.len,h.one,by
  rcases h.h with⟨rfl,rfl,rfl⟩|⟨b,a,c,d,rfl,rfl,e,f,j,g⟩
  ·exact⟨none,0,rfl,aan _,Nat.zero_le _,.inl rfl⟩
  ·exact⟨some ⟨b,a,none⟩,d,rfl,e,f,.inr ⟨b,a,c,E,(0,0),rfl,i (b,_) (by simp),g⟩⟩⟩
class dE(H:aF)(T:au)(upd:outParam (au->aF)):Prop where h:∃H1 H2,H=H1++T::H2/\∀T',upd T'=H1++T'::H2
instance dE.there{H:aF}{T T0:au}{upd:au->aF} [h:dE H T upd]:dE (T0::H) T (λT'=>T0::upd T'):=
 ⟨let ⟨H1,H2,h1,h2⟩:=h.h;⟨T0::H1,H2,by rw[h1];rfl,λT'=>by rw[h2];rfl⟩⟩
instance dE.here{H:aF}{T:au}:dE (T::H) T (λT'=>T'::H):=⟨⟨[],H,rfl,λ_=>rfl⟩⟩
theorem dE.mem{H:aF}{T:au}{c:au->aF}(h:dE H T c):∀p∈T,p∈H.flatten:=by
 obtain⟨d,e,a,_⟩:=h.h
 subst a
 intro p b;simp[b]
theorem OS.rx{R:ao}{H:aF}{E:TypeId}{sz:Nat}{enc:α->List Value}{v:Value}{xs:List α}{T:au}{b:au->aF}(h:OS E sz enc v xs T) [s:dE H T b]:RS (Rx R H) sz enc v xs:=h.rs λp a=>.inr (s.mem p a)
theorem OS.nil{E:TypeId}{sz:Nat}{enc:α->List Value}:OS E sz enc (.slice none 0 0) ([]:List α) []:=⟨by simp,by simp,.inl ⟨rfl,rfl,rfl⟩⟩
theorem RS.ay{R:ao}{sz:Nat}{enc:α->List Value}{v:Value}{xs:List α}(h:RS R sz enc v xs):One v:=⟨by obtain⟨p,b,a,_⟩:=h.h;rw[a];rfl⟩
theorem OS.ay{E:TypeId}{sz:Nat}{enc:α->List Value}{v:Value}{xs:List α}{T:au}(h:OS E sz enc v xs T):One v:=⟨by
 rcases h.h with⟨a,_,_⟩|⟨b,e,c,d,a,_⟩<;>rw[a]<;>rfl⟩
theorem RS.le{R:ao}{sz:Nat}{enc:α->List Value}{v:Value}{xs:List α}(h:RS R sz enc v xs):xs.length<=9223372036854775807:=by
 obtain⟨p,b,_,c,a,_⟩:=h.h
 unfold maxLen at a;omega
theorem OS.le{E:TypeId}{sz:Nat}{enc:α->List Value}{v:Value}{xs:List α}{T:au}(h:OS E sz enc v xs T):xs.length<=9223372036854775807:=by
 rcases h.h with⟨_,a,_⟩|⟨b,f,c,e,_,_,a,d,_⟩
 ·subst a;simp
 ·unfold maxLen at d;omega
theorem RS.val{R:ao}{sz:Nat}{enc:α->List Value}{v:Value}{xs:List α}(h:RS R sz enc v xs):∃p cap,v=.slice p xs.length cap:=let ⟨p,cap,h1,_⟩:=h.h;⟨p,cap,h1⟩
theorem RS.pc{R:ao}{sz:Nat}{enc:α->List Value}{v:Value}{xs:List α}{i:Nat}{x:α}(h:RS R sz enc v xs)(a:xs[i]? =some x):PC R (eA v (i*sz)) (enc x):=by
 obtain⟨p,w,l,y,z,m⟩:=h.h
 have t:xs≠[]:=λe=>by subst e;simp at a
 obtain⟨b,u,c,E,d,rfl,f,g⟩:=m.resolve_left t
 subst l
 have s:=List.mem_of_getElem? a
 have A:=h.len x s
 refine⟨b,u+i*sz,c,E,d,?_,f,λj r=>?_⟩
 ·simp only[eA,Addr.add];split
  ·rename_i k;rw[k];rfl
  ·rfl
 ·have n:=qg h.len a j (by omega)
  have o:i*sz+j<(xs.flatMap enc).length:=by
   rw[gU h.len]
   have:i<xs.length:=(List.getElem?_eq_some_iff.1 a).1
   have:=Nat.mul_le_mul_right sz this
   rw[aab]at this;omega
  have q:=g _ o
  rw[aal,q,n,List.getElem?_eq_getElem r]
theorem OS.pc{E:TypeId}{sz:Nat}{enc:α->List Value}{v:Value}{xs:List α}{T:au}{i:Nat}{x:α}(h:OS E sz enc v xs T)(b:xs[i]? =some x):PC (sg T) (eA v (i*sz)) (enc x):=
 (h.rs (R:=sg T) λp a=>a).pc b
section
variable{P:Program}{N:Nat}{R:ao}{ops:Array Oper}{l:List Oper}{env:Env}{H:aF}{K:Env->aF->Prop}{ty:TypeId}{pos:String}{af:Array Edge}{m:Bool}
theorem aI.eY{x:Operand}{t e:TypeId}{p:Option Addr}{n cap:Nat}(c:ev env x=some (.slice p n cap)) [ut:bh P t (.slice e)]:aI P R env H (.call ⟨.builtin .len,#[x],#[t]⟩) ty (.int .i64 n):=λa w d i f g b _ _=>by
 simp[execOp,resolve,b.eval c,invoke,builtin,Builtin.len_,run_underlying ut.h,goInt]
theorem aI.cv{R':ao}{x:Operand}{t e:TypeId}{sz:Nat}{enc:α->List Value}{v:Value}{xs:List α}(h:RS R' sz enc v xs)(b:ev env x=some v:=by rfl) [ut:bh P t (.slice e)]:aI P R env H (.call ⟨.builtin .len,#[x],#[t]⟩) ty (.int .i64 xs.length):=by
 obtain⟨p,c,a⟩:=h.val
 subst a
 exact aI.eY b
theorem aI.kD{x:Operand}{t e E:TypeId}{sz:Nat}{enc:α->List Value}{v:Value}{xs:List α}{T:au}(h:OS E sz enc v xs T)(b:ev env x=some v:=by rfl) [ut:bh P t (.slice e)]:aI P R env H (.call ⟨.builtin .len,#[x],#[t]⟩) ty (.int .i64 xs.length):=
 aI.cv (h.rs (R:=sg T) λp a=>a) b
theorem OL{t e:TypeId}{sz n cap i:Nat}{a:Addr}{k:IntKind}{w:World} [ut:bh P t (.slice e)] [s:Sz P e sz](hi:i<n):(Instr.indexAt t (.slice (some a) n cap) (.int k i)).run P w=.ok (eA (.slice (some a) n cap) (i*sz)) w:=by
 have b:(0:Int)<=i/\(i:Int)<n:=by omega
 simp[Instr.indexAt,asIntOf,run_underlying ut.h,b,s.h,eA,hi]
theorem aI.cB{R':ao}{x y:Operand}{t e:TypeId}{sz:Nat}{enc:α->List Value}{v:Value}{xs:List α}{k:IntKind}{j:Int}{z:α}(i:Nat)(h:RS R' sz enc v xs)(l:xs[i]? =some z)(u:ev env x=some v)(A:ev env y=some (.int k j))(q:j=(i:Int)) [ut:bh P t (.slice e)] [s:Sz P e sz]:
  aI P R env H (.indexAddr t x y) ty (eA v (i*sz)):=λa w d L B g f _ _=>by
 obtain⟨p,C,m,I,J,n⟩:=h.h
 have r:xs≠[]:=λe=>by subst e;simp at l
 obtain⟨b,K,c,E,D,rfl,F,G⟩:=n.resolve_left r
 subst m;subst q
 have o:i<xs.length:=(List.getElem?_eq_some_iff.1 l).1
 simp[execOp,f.eval u,f.eval A,OL (P:=P) (e:=e) (sz:=sz) o]
theorem aB.cB{d:Nat}{x y:Operand}{t e:TypeId}{sz:Nat}{enc:α->List Value}{v:Value}{xs:List α}{k:IntKind}{j:Int}{z:α}(i:Nat)(h:RS R sz enc v xs)(a:xs[i]? =some z) [ut:bh P t (.slice e)] [s:Sz P e sz]
  (f:PC R (eA v (i*sz)) (enc z)->aB m P N R ops l ((d,eA v (i*sz))::env) H K)(g:ev env x=some v:=by rfl)(n:ev env y=some (.int k j):=by rfl)(c:j=(i:Int):=by rfl)(b:Nat.blt d N=true:=by rfl):
  aB m P N R ops (⟨some d,.indexAddr t x y,ty,pos,af,none⟩::l) env H K:=
 aB.q (aI.cB i h a g n c) (f (h.pc a)) b
theorem aB.aU{d:Nat}{x y:Operand}{t e E:TypeId}{sz:Nat}{enc:α->List Value}{v:Value}{xs:List α}{T:au}{k:IntKind}{j:Int}{z:α}(i:Nat)(h:OS E sz enc v xs T)(a:xs[i]? =some z) [ut:bh P t (.slice e)] [s:Sz P e sz]
  (f:PS T (eA v (i*sz)) (enc z)->aB m P N R ops l ((d,eA v (i*sz))::env) H K)(n:ev env x=some v:=by rfl)(o:ev env y=some (.int k j):=by rfl)(c:j=(i:Int):=by rfl)(b:Nat.blt d N=true:=by rfl):
  aB m P N R ops (⟨some d,.indexAddr t x y,ty,pos,af,none⟩::l) env H K:=
 aB.q (aI.cB i (h.rs (R:=sg T) λp g=>g) a n o c) (f ⟨h.pc a⟩) b
theorem run_sliceBound{x:Value}{y n:Nat}{k:IntKind}{a:BoundsCode}{w:World}(c:x=.int k n)(h:n<=y):(Instr.sliceBound x y a).run P w=.ok n w:=by
 subst c
 have b:(0:Int)<=n/\(n:Int)<=y:=by omega
 simp[Instr.sliceBound,asIntOf,b]
def dR(env:Env)(x:Option Operand)(dflt n:Nat):Prop:=match x with
 |none=>n=dflt
 |some o=>∃k,ev env o=some (.int k n)
theorem oc{t e:TypeId}{sz n cap lo hi:Nat}{p:Option Addr}{xl f:Option Operand}{a:Act}{w:World}(l:dH a env) [ut:bh P t (.slice e)] [s:Sz P e sz](g:dR env xl 0 lo)(b:dR env f n hi)(i:lo<=hi)(j:hi<=cap):
  (Instr.sliceAt t (.slice p n cap) (xl.map a.eval) (f.map a.eval) none).run P w=.ok (.slice (if cap=lo then p else p.map (·.add (lo*sz))) (hi-lo) (cap-lo)) w:=by
 have c:∀{x:Operand} {k:IntKind} {y n:Nat} {code:BoundsCode},ev env x=some (.int k n)->n<=y->(Instr.sliceBound (a.eval x) y code).run P w=.ok n w:=λr q=>run_sliceBound (l.eval r) q
 unfold Instr.sliceAt
 simp only[Sem.run_bind,run_underlying ut.h,Result.andThen_ok]
 unfold Instr.slice
 simp only[Sem.run_bind,run_underlying ut.h,Result.andThen_ok]
 unfold Instr.sliceBounds
 cases xl with
 |none=>
  simp only[dR]at g
  subst g
  cases f with
  |none=>simp only[dR]at b;subst b;simp[s.h]
  |some o=>obtain⟨k,d⟩:=b;simp[s.h,c d j]
 |some o=>
  obtain⟨k,d⟩:=g
  cases f with
  |none=>simp only[dR]at b;subst b;simp[s.h,c d i]
  |some o'=>obtain⟨u,m⟩:=b;simp[s.h,c d i,c m j]
theorem Row.sub{c:Array Value}{off:Nat}{cs:List Value}(h:Row c off cs)(i n:Nat):Row c (off+i) ((cs.drop i).take n):=λk a=>by
 rw[aax,List.length_drop]at a
 rw[List.getElem?_take_of_lt (by omega),List.getElem?_drop,aal]
 exact h (i+k) (by omega)
theorem sl{enc:α->List Value}{sz:Nat}:∀{xs:List α} (i:Nat),(∀x∈xs,(enc x).length=sz)->(xs.drop i).flatMap enc=(xs.flatMap enc).drop (i*sz)
 |[],i,_=>by simp
 |x::xs,0,_=>by simp
 |x::xs,i+1,h=>by
  have a:=h x (by simp)
  rw[List.drop_succ_cons,sl i (λy b=>h y (by simp[b])),aaf,List.drop_append,a,List.drop_eq_nil_of_le (show(enc x).length<=_ by rw[a,aab];omega),aab]
  simp
theorem sm{enc:α->List Value}{sz:Nat}:∀{xs:List α} (i:Nat),(∀x∈xs,(enc x).length=sz)->(xs.take i).flatMap enc=(xs.flatMap enc).take (i*sz)
 |[],i,_=>by simp
 |x::xs,0,_=>by simp
 |x::xs,i+1,h=>by
  have a:=h x (by simp)
  rw[List.take_succ_cons,aaf,sm i (λy b=>h y (by simp[b])),aaf,List.take_append,a,List.take_of_length_le (l:=enc x) (by rw[a,aab];omega),aab]
  simp
theorem Row.piece{c:Array Value}{off sz:Nat}{enc:α->List Value}{xs:List α}(h:Row c off (xs.flatMap enc))(a:∀x∈xs,(enc x).length=sz)(lo n:Nat):Row c (off+lo*sz) (((xs.drop lo).take n).flatMap enc):=by
 rw[sm n (λx b=>a x (aaj b)),sl lo a]
 exact h.sub _ _
theorem aI.ld{R':ao}{x:Operand}{xl k:Option Operand}{t e:TypeId}{sz:Nat}{enc:α->List Value}{v:Value}{xs:List α}(lo hi:Nat)(h:RS R' sz enc v xs) [ut:bh P t (.slice e)] [s:Sz P e sz](r:dR env xl 0 lo)(u:dR env k xs.length hi)(y:lo<=hi)(I:hi<=xs.length)(f:ev env x=some v:=by rfl):
  ∃v',RS R' sz enc v' ((xs.drop lo).take (hi-lo))/\aI P R env H (.slice t x xl k none) ty v':=by
 obtain⟨p,cap,m,F,G,o⟩:=h.h
 subst m
 have j:((xs.drop lo).take (hi-lo)).length=hi-lo:=by simp;omega
 refine⟨.slice (if cap=lo then p else p.map (·.add (lo*sz))) (hi-lo) (cap-lo),⟨λx f=>h.len x (aaj (aam f)),λx f=>h.one x (aaj (aam f)),_,_,by rw[j],by rw[j];omega,by omega,?_⟩,?_⟩
 ·rcases o with rfl|⟨b,A,c,E,l,rfl,B,C⟩
  ·exact .inl (by simp)
  ·by_cases z:cap=lo
   ·left
    have:hi-lo=0:=by omega
    rw[this];simp
   ·right
    refine⟨b,A+lo*sz,c,E,l,?_,B,C.piece h.len lo (hi-lo)⟩
    rw[aaa z]
    simp only[Option.map_some,Addr.add]
    split
    ·rename_i q;rw[q];rfl
    ·rfl
 ·intro a w d J D g i _ _
  have:=oc (P:=P) (w:=w) (p:=p) (n:=xs.length) (cap:=cap) i r u y (by omega) (t:=t) (e:=e) (sz:=sz)
  simp only[execOp,i.eval f,Option.map_none]
  rw[Sem.run_bind,this]
  rfl
theorem aI.pK{x:Operand}{xl C:Option Operand}{t e E:TypeId}{sz:Nat}{enc:α->List Value}{v:Value}{xs:List α}{T:au}(lo hi:Nat)(h:OS E sz enc v xs T) [ut:bh P t (.slice e)] [s:Sz P e sz](r:dR env xl 0 lo)(u:dR env C xs.length hi)(y:lo<=hi)(z:hi<=xs.length)(f:ev env x=some v:=by rfl):
  ∃v',OS E sz enc v' ((xs.drop lo).take (hi-lo)) T/\aI P R env H (.slice t x xl C none) ty v':=by
 have A:=λx f=>h.len x (aaj (aam (i:=hi-lo) (l:=xs.drop lo) f))
 have B:=λx f=>h.one x (aaj (aam (i:=hi-lo) (l:=xs.drop lo) f))
 have o:((xs.drop lo).take (hi-lo)).length=hi-lo:=by simp;omega
 rcases h.h with⟨rfl,rfl,rfl⟩|⟨b,m,c,cap,rfl,rfl,N,O,Q,J⟩
 ·have G:lo=0:=by simp at z;omega
  have I:hi=0:=by simpa using z
  subst G;subst I
  refine⟨.slice none 0 0,⟨A,B,.inl ⟨rfl,by simp,rfl⟩⟩,λa w d M D g j _ _=>?_⟩
  have:=oc (P:=P) (w:=w) (p:=none) (n:=0) (cap:=0) j r u y (by omega) (t:=t) (e:=e) (sz:=sz)
  simp only[execOp,j.eval f,Option.map_none]
  rw[Sem.run_bind,this]
  rfl
 ·refine⟨.slice (if cap=lo then some ⟨b,m,none⟩else(some (⟨b,m,none⟩:Addr)).map (·.add (lo*sz))) (hi-lo) (cap-lo),⟨A,B,.inr ?_⟩,λa w d M D g j _ _=>?_⟩
  ·by_cases q:cap=lo
   ·have F:hi-lo=0:=by omega
    refine⟨b,m,c,cap-lo,?_,rfl,by rw[o];omega,by omega,?_,?_⟩
    ·rw[o,if_pos q]
    ·rw[q,Nat.sub_self];simp;omega
    ·rw[F];intro k L;simp at L
   ·refine⟨b,m+lo*sz,c,cap-lo,?_,rfl,by rw[o];omega,by omega,?_,J.piece h.len lo (hi-lo)⟩
    ·rw[o,aaa q]
     simp only[Option.map_some,Addr.add]
     split
     ·rename_i K;rw[K];rfl
     ·rfl
    ·have:(cap-lo)*sz=cap*sz-lo*sz:=Nat.sub_mul ..
     have S:lo*sz<=cap*sz:=Nat.mul_le_mul_right _ (by omega)
     omega
  ·have:=oc (P:=P) (w:=w) (p:=some ⟨b,m,none⟩) (n:=xs.length) (cap:=cap) j r u y (by omega) (t:=t) (e:=e) (sz:=sz)
   simp only[execOp,j.eval f,Option.map_none]
   rw[Sem.run_bind,this]
   rfl
end
end
section
set_option linter.unusedVariables false
theorem OS.congr{α β:Type}{E sz:Nat}{enc:α->List Value}{a:β->List Value}{v:Value}{xs:List α}{ys:List β}{T:au}(h:OS E sz enc v xs T)(j:ys.map a=xs.map enc):OS E sz a v ys T:=by
 have l:ys.length=xs.length:=by simpa using congrArg List.length j
 have r:ys.flatMap a=xs.flatMap enc:=by rw[List.flatMap_def,List.flatMap_def,j]
 have m:∀y∈ys,∃x∈xs,a y=enc x:=λy f=>by
  have:a y∈xs.map enc:=j▸aai f
  obtain⟨x,d,e⟩:=aaq.1 this
  exact⟨x,d,e.symm⟩
 refine⟨λy f=>?_,λy f=>?_,?_⟩
 ·obtain⟨x,d,e⟩:=m y f;rw[e];exact h.len x d
 ·obtain⟨x,d,e⟩:=m y f;rw[e];exact h.one x d
 ·rcases h.h with⟨g,i,k⟩|⟨b,s,c,n,g,i,k,o,p,q⟩
  ·exact .inl ⟨g,List.length_eq_zero_iff.1 (by rw[l,i];rfl),k⟩
  ·exact .inr ⟨b,s,c,n,by rw[l];exact g,i,by omega,o,p,by rw[r];exact q⟩
set_option linter.unusedSimpArgs false
def zf:List UInt8:=[65,66,67,68,69,70,71,72,73,74,75,76,77,78,79,80,81,82,83,84,85,86,87,88,89,90,97,98,99,100,101,102,103,104,105,106,107,108,109,110,111,112,113,114,115,116,117,118,119,120,121,122,48,49,50,51,52,53,54,55,56,57,45,95]
def lD(n:Nat):UInt8:=zf.getD (n % 64) 0
def Ah:List UInt8->List UInt8
 |a::b::c::r=>lD (a.toNat/4)::lD (a.toNat % 4*16+b.toNat/16)::lD (b.toNat % 16*4+c.toNat/64)::lD c.toNat::Ah r
 |[a,b]=>[lD (a.toNat/4),lD (a.toNat % 4*16+b.toNat/16),lD (b.toNat % 16*4)]
 |[a]=>[lD (a.toNat/4),lD (a.toNat % 4*16)]
 |[]=>[]
def held(h:Nat)(c:UInt8):Nat:=(h*256+c.toNat) % 18446744073709551616
end
end Go.Proofs.YtocjmmbldeljnaaGreatDoor

/- What the law 'CoreErrors' uses. No condition. -/
import Derived.KernelRfl
import Derived.LaidEql
import Derived.Laws.StructEq
import Derived.OrdersHeld
import Derived.Shelf.Abstract
import Derived.Still
import Derived.StillTail
import Derived.Tactics
import GoSem.ClaimData
set_option linter.unusedSimpArgs false
set_option linter.unusedVariables false
set_option linter.unusedVariables false
namespace Go.Proofs.YtkkmbiojicgobaaGreatDoor
set_option linter.defProp false
def aaa:=@if_neg
def aab:=@Nat.succ_mul
def aac:=@if_pos
def aad:=@List.append_assoc
def aae:=@List.flatten_cons
def aaf:=@List.mem_append
def aag:=@List.mem_append_left
def aah:=@List.flatMap_cons
def aai:=@Option.some.injEq
def aaj:=@Nat.le_of_ble_eq_true
def aak:=@List.mem_map_of_mem
def aal:=@List.flatten_append
def aam:=@Nat.add_assoc
def aan:=@List.mem_of_mem_take
def aao:=@List.mem_of_mem_drop
def aap:=@Nat.le_refl
def aaq:=@List.length_cons
def aar:=@Nat.eq_of_beq_eq_true
def aas:=@List.cons_append
def aat:=@List.nil_append
def aau:=@List.mem_map
def aav:=@List.nodup_append
def aaw:=@List.mem_append_right
def aax:=@Nat.zero_add
def aay:=@List.map_toArray
def aaz:=@Array.getElem?_setIfInBounds_ne
def aaA:=@Array.getElem?_push
def aaB:=@List.length_take
def aaC:=@Array.getElem?_setIfInBounds
section
abbrev ol:=Nat×Obj
abbrev ax:=List ol
abbrev aV:=List ax
abbrev Env:=List (Nat×Value)
abbrev av:=Nat->Obj->Prop
def Env.get? :Env->Nat->Option Value
 |[],_=>none
 |(k,v)::r,t=>match Nat.beq k t with
  |true=>some v
  |false=>Env.get? r t
def ev(env:Env):Operand->Option Value
 | .tmp t=>env.get? t
 | .const v=>some v
 | .global g=>some (.pointer (some ⟨g,0,none⟩))
 | .func f=>some (.func (.func f) #[] #[])
def hN(env:Env):List Operand->Option (List Value)
 |[]=>some []
 |x::r=>match ev env x,hN env r with
  |some v,some vs=>some (v::vs)
  |_,_=>none
def eW(a:Act)(env:Env):Prop:=∀t v,env.get? t=some v->a.tmps[t]? =some v
theorem eW.eval{a:Act}{env:Env}(h:eW a env){x:Operand}{v:Value}(b:ev env x=some v):a.eval x=v:=by
 cases x with
 |tmp t=>have:=h t v b;simp[Act.eval,this]
 |const u=>simpa[ev,Act.eval]using b
 |global g=>simpa[ev,Act.eval]using b
 |func f=>simpa[ev,Act.eval]using b
theorem eW.uW{a:Act}{env:Env}(h:eW a env):∀{xs:List Operand} {vs:List Value},hN env xs=some vs->xs.map a.eval=vs
 |[],vs,hx=>by simp[hN]at hx;simp[hx]
 |x::r,vs,hx=>by
  simp only[hN]at hx
  split at hx
  ·rename_i v d b c
   simp only[aai]at hx
   subst hx
   simp[h.eval b,h.uW c]
  ·cases hx
theorem eW.m6{a:Act}{env:Env}(h:eW a env){xs:List Operand}{vs:List Value}(b:hN env xs=some vs):xs.toArray.map a.eval=vs.toArray:=by
 rw[aay,h.uW b]
theorem eW.put{a:Act}{env:Env}(h:eW a env){d:Nat}{v:Value}(e:d<a.tmps.size):eW (a.put (some d) v) ((d,v)::env):=by
 intro t u b
 simp only[Env.get?]at b
 by_cases c:d=t
 ·subst c
  have:Nat.beq d d=true:=Nat.beq_refl d
  rw[this]at b
  simp only[aai]at b
  subst b
  simp[Act.put,e]
 ·have:Nat.beq d t=false:=by
   cases hb:Nat.beq d t with
   |false=>rfl
   |true=>exact absurd (aar hb) c
  rw[this]at b
  have:=h t u b
  simp[Act.put,aaz c,this]
def Sat(w:World)(H:aV):Prop:=(H.flatten.map (·.1)).Nodup/\∀p∈H.flatten,w.heap[p.1]? =some p.2
def RO(w:World)(R:av)(H:aV):Prop:=∀b o,R b o->w.heap[b]? =some o/\∀p∈H.flatten,p.1≠b
structure Frame(w:World)(H:aV)(w':World)(H':aV):Prop where
 le:w.heap.size<=w'.heap.size
 iK:∀b,b<w.heap.size->(∀p∈H.flatten,p.1≠b)->w'.heap[b]? =w.heap[b]?
 kL:∀p∈H'.flatten,(∃q∈H.flatten,q.1=p.1)\/w.heap.size<=p.1
 os:w'.os=w.os
 output:w'.output=w.output
 tape:w'.tape=w.tape
theorem Frame.refl(w:World)(H:aV):Frame w H w H:=
 ⟨aap _,λ_ _ _=>rfl,λp a=>.inl ⟨p,a,rfl⟩,rfl,rfl,rfl⟩
theorem Frame.trans{w w' g:World}{H H' f:aV}(h:Frame w H w' H')(a:Frame w' H' g f):Frame w H g f where
 le:=Nat.le_trans h.le a.le
 iK b hb hn:=by
  rw[a.iK b (Nat.lt_of_lt_of_le hb h.le) ?_,h.iK b hb hn]
  intro p c i
  rcases h.kL p c with⟨q,d,e⟩|hge
  ·exact hn q d (e.trans i)
  ·omega
 kL p c:=by
  rcases a.kL p c with⟨q,d,e⟩|hge
  ·rcases h.kL q d with⟨r,j,k⟩|hge
   ·exact .inl ⟨r,j,k.trans e⟩
   ·exact .inr (by omega)
  ·exact .inr (Nat.le_trans h.le hge)
 os:=a.os.trans h.os
 output:=a.output.trans h.output
 tape:=a.tape.trans h.tape
structure St(N:Nat)(R:av)(a:Act)(w:World)(env:Env)(H:aV)(w0:World)(H0:aV):Prop where
 defers:a.defers=[]
 size:a.tmps.size=N
 env:eW a env
 sat:Sat w H
 ro:RO w R H
 fr:Frame w0 H0 w H
theorem ln{w:World}{b:Nat}{o:Obj}(h:w.heap[b]? =some o):b<w.heap.size:=by
 rcases Nat.lt_or_ge b w.heap.size with h'|h'
 ·exact h'
 ·rw[Array.getElem?_eq_none h']at h;cases h
theorem RO.frame{w w':World}{R:av}{H H':aV}(h:RO w R H)(f:Frame w H w' H'):RO w' R H':=by
 intro b o d
 obtain⟨a,c⟩:=h b o d
 have g:=ln a
 refine⟨by rw[f.iK b g c];exact a,λp i e=>?_⟩
 rcases f.kL p i with⟨q,j,k⟩|hge
 ·exact c q j (k.trans e)
 ·omega
theorem St.step{N:Nat}{R:av}{a:Act}{w w':World}{env:Env}{H H':aV}{c:World}{b:aV}(s:St N R a w env H c b)(f:Frame w H w' H')(d:Sat w' H'):St N R a w' env H' c b:=
 ⟨s.defers,s.size,s.env,d,s.ro.frame f,s.fr.trans f⟩
theorem St.put{N:Nat}{R:av}{a:Act}{w:World}{env:Env}{H:aV}{c:World}{b:aV}(s:St N R a w env H c b){d:Nat}(v:Value)(e:Nat.blt d N=true):St N R (a.put (some d) v) w ((d,v)::env) H c b:=
 ⟨s.defers,by simp[Act.put,s.size],s.env.put (by rw[s.size];exact aaj e),s.sat,s.ro,s.fr⟩
theorem Frame.drew(w:World)(H:aV)(n:Nat):Frame w H {w with drawn:=n} H:=
 ⟨aap _,λ_ _ _=>rfl,λp a=>.inl ⟨p,a,rfl⟩,rfl,rfl,rfl⟩
theorem Sat.drew{w:World}{H:aV}(h:Sat w H)(n:Nat):Sat {w with drawn:=n} H:=h
theorem p7(w:World)(o:Obj):(w.alloc o).heap=w.heap.push o:=rfl
theorem Frame.alloc(w:World)(H:aV)(o:Obj):Frame w H (w.alloc o) ([(w.heap.size,o)]::H) where
 le:=by rw[p7,Array.size_push];omega
 iK b hb _:=by rw[p7,aaA,aaa (Nat.ne_of_lt hb)]
 kL p hp:=by
  simp only[aae,aaf,List.mem_singleton]at hp
  rcases hp with rfl|hp
  ·exact .inr (aap _)
  ·exact .inl ⟨p,hp,rfl⟩
 os:=rfl
 output:=rfl
 tape:=rfl
theorem Sat.alloc{w:World}{H:aV}(h:Sat w H)(o:Obj):Sat (w.alloc o) ([(w.heap.size,o)]::H):=by
 have a:∀p∈H.flatten,p.1<w.heap.size:=λp hp=>ln (h.2 p hp)
 refine⟨?_,λp hp=>?_⟩
 ·simp only[aae,aas,aat,List.map_cons,List.nodup_cons]
  refine⟨λb=>?_,h.1⟩
  obtain⟨p,hp,c⟩:=aau.1 b
  have:=a p hp
  omega
 ·simp only[aae,aaf,List.mem_singleton]at hp
  rcases hp with rfl|hp
  ·rw[p7,aaA,aac rfl]
  ·have:=a p hp
   rw[p7,aaA,aaa (Nat.ne_of_lt this),h.2 p hp]
def eC(w:World)(b:Nat)(o:Obj):World:={w with heap:=w.heap.setIfInBounds b o}
theorem Sat.set{w:World}{H1 H2:aV}{T1 T2:ax}{b:Nat}{o o':Obj}(h:Sat w (H1++(T1++(b,o)::T2)::H2)):Sat (eC w b o') (H1++(T1++(b,o')::T2)::H2):=by
 obtain⟨d,i⟩:=h
 have e:∀o:Obj,((H1++(T1++(b,o)::T2)::H2).flatten.map (·.1))=(H1.flatten.map (·.1)++T1.map (·.1))++b::(T2.map (·.1)++H2.flatten.map (·.1)):=λo=>by
  simp
 rw[e]at d
 refine⟨by rw[e];exact d,λp hp=>?_⟩
 have k:w.heap[b]? =some o:=i (b,o) (by simp)
 have l:=ln k
 have m:∀q:ol,q∈H1.flatten\/q∈T1\/q∈T2\/q∈H2.flatten->q.1≠b:=by
  intro q hq c
  rw[aav]at d
  obtain⟨_,a,g⟩:=d
  rcases hq with hq|hq|hq|hq
  ·exact g q.1 (aag _ (aak hq)) b (by simp) c
  ·exact g q.1 (aaw _ (aak hq)) b (by simp) c
  ·exact(List.nodup_cons.1 a).1 (aag _ (c▸aak hq))
  ·exact(List.nodup_cons.1 a).1 (aaw _ (c▸aak hq))
 simp only[aal,aae,aaf,List.mem_cons]at hp
 have f:∀q:ol,q∈H1.flatten\/q∈T1\/q∈T2\/q∈H2.flatten->(eC w b o').heap[q.1]? =some q.2:=λq hq=>by
  have j:=m q hq
  have a:w.heap[q.1]? =some q.2:=i q (by
   simp only[aal,aae,aaf,List.mem_cons]
   rcases hq with hq|hq|hq|hq
   ·exact .inl hq
   ·exact .inr (.inl (.inl hq))
   ·exact .inr (.inl (.inr (.inr hq)))
   ·exact .inr (.inr hq))
  simp[eC,aaz (Ne.symm j),a]
 rcases hp with hp|(hp|rfl|hp)|hp
 ·exact f p (.inl hp)
 ·exact f p (.inr (.inl hp))
 ·simp[eC,l]
 ·exact f p (.inr (.inr (.inl hp)))
 ·exact f p (.inr (.inr (.inr hp)))
theorem Frame.set{w:World}{H1 H2:aV}{T1 T2:ax}{b:Nat}{o o':Obj}:Frame w (H1++(T1++(b,o)::T2)::H2) (eC w b o') (H1++(T1++(b,o')::T2)::H2) where
 le:=by simp[eC]
 iK c hc hn:=by
  have:b≠c:=λa=>hn (b,o) (by simp) a
  simp[eC,aaz this]
 kL p hp:=by
  simp only[aal,aae,aaf,List.mem_cons]at hp
  rcases hp with hp|(hp|rfl|hp)|hp
  ·exact .inl ⟨p,by simp[hp],rfl⟩
  ·exact .inl ⟨p,by simp[hp],rfl⟩
  ·exact .inl ⟨(b,o),by simp,rfl⟩
  ·exact .inl ⟨p,by simp[hp],rfl⟩
  ·exact .inl ⟨p,by simp[hp],rfl⟩
 os:=rfl
 output:=rfl
 tape:=rfl
def aT(H H':aV):Prop:=∃G:ax,H.flatten.Perm (H'.flatten++G)
theorem aT.refl(H:aV):aT H H:=⟨[],by simp⟩
theorem aT.sat{H H':aV}(h:aT H H'){w:World}(s:Sat w H):Sat w H':=by
 obtain⟨G,a⟩:=h
 refine⟨?_,λp b=>s.2 p (a.mem_iff.2 (aag _ b))⟩
 have:=(a.map (·.1)).nodup_iff.1 s.1
 rw[List.map_append]at this
 exact(aav.1 this).1
theorem aT.frame{H H':aV}(h:aT H H')(w:World):Frame w H w H':=by
 obtain⟨G,b⟩:=h
 exact⟨aap _,λ_ _ _=>rfl,λp a=>.inl ⟨p,b.mem_iff.2 (aag _ a),rfl⟩,rfl,rfl,rfl⟩
def pick:List Nat->aV->aV
 |[],_=>[]
 |i::is,H=>(H.getD i [])::pick is H
def aZ:Nat->aV->aV
 |_,[]=>[]
 |0,_::r=>r
 |i+1,T::r=>T::aZ i r
def rest:List Nat->aV->aV
 |[],H=>H
 |i::is,H=>rest is (aZ i H)
def take:List Nat->aV->aV
 |[],_=>[]
 |i::is,H=>(H.getD i [])::take is (aZ i H)
theorem rL:∀(i:Nat) (H:aV),H.flatten.Perm (H.getD i []++(aZ i H).flatten)
 |_,[]=>by simp[aZ]
 |0,T::r=>by simp[aZ]
 |i+1,T::r=>by
  have:=rL i r
  simp only[aae,aZ,List.getD_cons_succ]
  refine(this.append_left T).trans ?_
  rw[<-aad, <-aad]
  exact(List.perm_append_comm).append_right _
theorem my:∀(is:List Nat) (H:aV),H.flatten.Perm ((take is H).flatten++(rest is H).flatten)
 |[],H=>by simp[take,rest]
 |i::is,H=>by
  have a:=rL i H
  have b:=my is (aZ i H)
  simp only[take,rest,aae,aad]
  exact a.trans (b.append_left _)
theorem aT.pick(is:List Nat)(H:aV):aT H (take is H):=⟨(rest is H).flatten,my is H⟩
theorem Sat.perm{w:World}{H H':aV}(a:H.flatten.Perm H'.flatten)(s:Sat w H):Sat w H':=
 ⟨((a.map (·.1)).nodup_iff).1 s.1,λp b=>s.2 p (a.mem_iff.2 b)⟩
def bQ(P:Program)(N:Nat)(R:av)(c:Code)(env:Env)(H:aV)(Q:Exit->Env->aV->Prop):Prop:=
 ∀(Q':Exit->Act->World->Prop) (w0:World) (H0:aV),(∀e env' H' a' w',Q e env' H'->St N R a' w' env' H' w0 H0->Q' e a' w')->
  ∀a w,St N R a w env H w0 H0->c.wp P Q' a w
def Spec(P:Program)(f:FuncId)(args:List Value)(R:av)(H:aV)(Post:Value->aV->Prop):Prop:=
 ∀w,Sat w H->RO w R H->Calls P f args.toArray w λe w'=>∃v H',e=.returned v/\Post v H'/\Sat w' H'/\Frame w H w' H'
theorem Spec.mono{P:Program}{f:FuncId}{b:List Value}{R:av}{H:aV}{Post a:Value->aV->Prop}(h:Spec P f b R H Post)(e:∀v H',Post v H'->a v H'):Spec P f b R H a:=
 λw j i=>(h w j i).mono λ_ _ ⟨v,H',c,g,k,d⟩=>⟨v,H',c,e _ _ g,k,d⟩
theorem Spec.weaken{P:Program}{f:FuncId}{a:List Value}{R R':av}{H:aV}{Post:Value->aV->Prop}(h:Spec P f a R' H Post)(d:∀b o,R' b o->R b o):Spec P f a R H Post:=
 λw g e=>h w g λb o c=>e b o (d b o c)
section rules
variable{P:Program}{N:Nat}{R:av}{env:Env}{H:aV}{Q:Exit->Env->aV->Prop}
def kS(P:Program)(N:Nat)(R:av)(y:Code)(Q:Exit->Env->aV->Prop):Exit->Env->aV->Prop
 | .normal,env,H=>bQ P N R y env H Q
 |e,env,H=>Q e env H
def mE(id:Nat)(Q:Exit->Env->aV->Prop):Exit->Env->aV->Prop
 | .exit id',env,H=>if id'=id then Q .normal env H else Q (.exit id') env H
 |e,env,H=>Q e env H
def oY(I:Env->aV->Prop)(Q:Exit->Env->aV->Prop):Exit->Env->aV->Prop
 | .normal,env,H=>I env H
 |e,env,H=>Q e env H
theorem bQ.seq{x y:Code}(h:bQ P N R x env H (kS P N R y Q)):bQ P N R (.seq x y) env H Q:=
 λi g b c a w s=>wp_seq (h _ g b (λe m l j k d f=>by
  cases e with
  |normal=>exact d i g b c j k f
  |_=>exact c _ _ _ _ _ d f) a w s)
theorem bQ.skip(h:Q .normal env H):bQ P N R .skip env H Q:=λ_ _ _ b a w s=>wp_skip (b _ _ _ _ _ h s)
theorem bQ.exit{id:Nat}(h:Q (.exit id) env H):bQ P N R (.exit id) env H Q:=λ_ _ _ b a w s=>wp_exit (b _ _ _ _ _ h s)
theorem bQ.ret(h:Q .ret env H):bQ P N R .ret env H Q:=λ_ _ _ b a w s=>wp_ret (b _ _ _ _ _ h s)
theorem bQ.block{id:Nat}{c:Code}(h:bQ P N R c env H (mE id Q)):bQ P N R (.block id c) env H Q:=
 λl j i d a w s=>wp_block (h _ j i (λe n k m o b g=>by
  cases e with
  |exit id'=>
   simp only[mE]at b
   simp only[Exit.inBlock]
   split
   ·rename_i f;rw[aac f]at b;exact d _ _ _ _ _ b g
   ·rename_i f;rw[aaa f]at b;exact d _ _ _ _ _ b g
  |_=>exact d _ _ _ _ _ b g) a w s)
theorem bQ.cond{c:Operand}{x y:Code}{b:Bool}(i:ev env c=some (.bool b))(k:b=true->bQ P N R x env H Q)(j:b=false->bQ P N R y env H Q):bQ P N R (.cond c x y) env H Q:=
 λe g d f a w s=>wp_cond_split (s.env.eval i) (λh=>k h e g d f a w s) (λh=>j h e g d f a w s)
def bh(env env':Env):Prop:=∀t v,Env.get? env' t=some v->Env.get? env t=some v
theorem bh.refl(env:Env):bh env env:=λ_ _ h=>h
theorem bh.nil(env:Env):bh env []:=λ_ _ h=>by cases h
theorem bh.cons{env b:Env}{t:Nat}{v:Value}(h:bh env b)(d:Env.get? env t=some v):bh env ((t,v)::b):=λu x a=>by
 simp only[Env.get?]at a
 split at a
 ·rename_i c
  have:=aar c
  simp only[aai]at a
  subst a;subst this;exact d
 ·exact h u x a
theorem bh.d{env a:Env}{t:Nat}{v:Value}(h:bh env a)(b:Env.get? env t=some v):bh env ((t,v)::a):=h.cons b
theorem bh.c{env a:Env}{t:Nat}{v:Value}(h:bh env a)(b:Env.get? env t=some v:=by rfl):bh env ((t,v)::a):=h.cons b
theorem kE{env:Env}:bh env []:=bh.nil _
theorem eW.le{a:Act}{env b:Env}(h:eW a env)(c:bh env b):eW a b:=λt v d=>h t v (c t v d)
theorem St.le{a:Act}{w:World}{env d:Env}{H H':aV}{f:World}{c:aV}(s:St N R a w env H f c)(g:bh env d)(e:aT H H'):St N R a w d H' f c:=
 let b:=s.step (e.frame w) (e.sat s.sat)
 ⟨b.defers,b.size,b.env.le g,b.sat,b.ro,b.fr⟩
theorem bQ.le{c:Code}{b:Env}{H':aV}(g:bh env b)(i:aT H H')(h:bQ P N R c b H' Q):bQ P N R c env H Q:=
 λe j d f a w s=>h e j d f a w (s.le g i)
theorem bQ.loop{X:Type}{c:Code}(I:X->Prop)(e:X->Env)(h:X->aV)(μ:X->Nat)(q:X)(y:I q)(K:bh env (e q))(L:aT H (h q))
  (U:∀x,I x->bQ P N R c (e x) (h x) (oY (λenv' H'=>∃x',I x'/\μ x'<μ x/\bh env' (e x')/\aT H' (h x')) Q)):bQ P N R (.loop c) env H Q:=
 λA z r G a w s b k t=>by
  have T:∀n x a w,μ x=n->I x->St N R a w (e x) (h x) z r->
    ∃m g i,A m g i/\Arrives P (lone (b.at a (.code c:: .inLoop c::k)) t w) b k t m g i:=by
   intro n
   induction n using Nat.strongRecOn with
   |_ n ih=>
    intro x a w M y s
    have S:=U x y (Exit.then (λg i=>∃x',I x'/\μ x'<μ x/\St N R g i (e x') (h x') z r) A) z r (λm env' H' g i d p=>by
     cases m with
     |normal=>obtain⟨x',u,v,E,F⟩:=d;exact⟨x',u,v,p.le E F⟩
     |_=>exact G _ _ _ _ _ d p) a w s
    obtain⟨m,j,o,d,f⟩:=S b (.inLoop c::k) t
    cases m with
    |normal=>
     obtain⟨x',u,v,p⟩:=d
     obtain⟨D,B,V,O,J⟩:=ih (μ x') (M▸v) x' j o rfl u p
     exact⟨D,B,V,O,.of_steps (Steps.trans f (.one step_inLoop)) J⟩
    |exit id=>exact⟨_,j,o,d,.pass (x:=.inLoop c) rfl (λ_ _=>.inl (by simp)) f⟩
    |goto l=>exact⟨_,j,o,d,.pass (x:=.inLoop c) rfl (λ_ _=>.inl (by simp)) f⟩
    |ret=>exact⟨_,j,o,d,.pass (x:=.inLoop c) rfl (λ_ _=>.inl (by simp)) f⟩
    |panic ch=>exact⟨_,j,o,d,.pass (x:=.inLoop c) rfl (λ_ _=>.inl (by simp)) f⟩
    |outgrown=>exact⟨_,j,o,d,.pass (x:=.inLoop c) rfl (λ_ _=>.inl (by simp)) f⟩
  obtain⟨C,g,i,d,f⟩:=T _ q a w rfl y (s.le K L)
  exact⟨C,g,i,d,.of_steps (.one step_loop) f⟩
end rules
end
section
class bP(P:Program)(t:TypeId)(d:outParam TypeDesc):Prop where h:P.underlying t=some d
class Sz(P:Program)(t:TypeId)(n:outParam Nat):Prop where h:∀w,(sizeOf t).run P w=.ok n w
class Zr(P:Program)(t:TypeId)(v:outParam Value):Prop where h:∀w,(zeroValue t).run P w=.ok v w
class dj(P:Program)(t:TypeId)(b:outParam Bool):Prop where h:∀w,(isAgg t).run P w=.ok b w
class By(P:Program)(t:TypeId)(n:outParam Nat):Prop where h:∀w,∃i,(typeInfo t).run P w=.ok i w/\i.bytes=n
class bk(P:Program)(s:TypeId)(f:Nat)(off:outParam Nat):Prop where
 h:∀(a:Addr) w,(Instr.fieldAt s (.pointer (some a)) f).run P w=.ok (.pointer (some (a.add off))) w
class ay(P:Program)(f:FuncId):Prop where h:∀(args:Array Value) (w:World),(callFunc f args).run P w=.ok (.enter f args) w
theorem bk.of{P:Program}{s:TypeId}{c:Array Field}{f:Nat}{b:Field}{n off:Nat}(i:P.underlying s=some (.struct c))(d:c[f]? =some b)
  (h:∀w,(sizeOf b.type).run P w=.ok n w)(e:(n==0)=false)(ho:b.offset=off):bk P s f off:=⟨λa w=>by
 have g:n≠0:=by simpa using e
 simp[Instr.fieldAt,run_underlying i,d,Instr.sureAddr,fieldPlace,h,g,ho]⟩
def aP(P:Program)(R:av)(env:Env)(H:aV)(op:Op)(ty:TypeId)(v:Value):Prop:=
 ∀(a:Act) (w:World) (d:Option Tmp) (pos:String) (af:Array Edge) (g:Option (Nat×Bool)),eW a env->Sat w H->RO w R H->(execOp a.eval ⟨d,op,ty,pos,af,g⟩).run P w=.ok (.value v) w
def aG(m:Bool)(P:Program)(N:Nat)(R:av)(ops:Array Oper)(l:List Oper)(env:Env)(H:aV)(K:Env->aV->Prop):Prop:=
 ∀(Q':Exit->Act->World->Prop) (w0:World) (H0:aV),(∀env' H' a' w',K env' H'->St N R a' w' env' H' w0 H0->Q' .normal a' w')->
  ∀a w,St N R a w env H w0 H0->match m with
   |true=>wpStill P ops w (λa'=>Q' .normal a' w) l a
   |false=>wpList P ops Q' l a w
section
variable{P:Program}{N:Nat}{R:av}{ops:Array Oper}{l:List Oper}{env:Env}{H:aV}{K:Env->aV->Prop}{Q:Exit->Env->aV->Prop}{m:Bool}
theorem bQ.region{id:Nat}(h:aG false P N R l.toArray l env H (Q .normal)):bQ P N R (.region id l.toArray false) env H Q:=
 λc g b d a w s=>wp_region_lit (h c g b (λk i j m e f=>d _ _ _ _ _ e f) a w s)
theorem bQ.iQ{id:Nat}(g:P.follows .mixedOrders=true)(d:Region.lexB .any l.toArray=true)(h:aG true P N R l.toArray l env H (Q .normal)):bQ P N R (.region id l.toArray true) env H Q:=
 λc j b e a w s=>wp_region_still_lit g d (h c j b (λn k m o f i=>e _ _ _ _ _ f i) a _ (s.step (Frame.drew w H _) (s.sat.drew _)))
theorem bQ.df{id:Nat}(n:Nat)(m:P.follows .mixedOrders=true)(j:Region.lexTailB .any l.toArray n=true)
  (h:aG true P N R l.toArray (l.take n) env H λenv' H'=>aG false P N R l.toArray (l.drop n) env' H' (Q .normal)):bQ P N R (.region id l.toArray true) env H Q:=
 λg i f k a w s=>wp_region_still_tail n m j (h (λ_ b c=>wpList P l.toArray g (l.drop n) b c) i f
  (λenv' H' b c d e=>d g i f (λenv' H' b c d e=>k _ _ _ _ _ d e) b c e) a _ (s.step (Frame.drew w H _) (s.sat.drew _)))
theorem aG.nil(h:K env H):aG m P N R ops [] env H K:=λd e c b a w s=>by
 cases m
 ·exact wpList_nil (b _ _ _ _ h s)
 ·exact wpStill_nil (b _ _ _ _ h s)
theorem aG.q{d:Nat}{op:Op}{ty:TypeId}{f:String}{b:Array Edge}{v:Value}(n:aP P R env H op ty v)(k:aG m P N R ops l ((d,v)::env) H K)(j:Nat.blt d N=true:=by rfl):
  aG m P N R ops (⟨some d,op,ty,f,b,none⟩::l) env H K:=λh o g i a w s=>by
 have e:=n a w (some d) f b none s.env s.sat s.ro
 have c:=k h o g i _ w (s.put v j)
 cases m
 ·simp only[wpList,Region.wanted,if_true]
  exact .inl (by rw[Oper.wp,e];exact c)
 ·simp only[wpStill,Region.wanted,if_true]
  rw[Oper.still,e]
  exact⟨rfl,c⟩
def jQ(ops:Array Oper)(j:Nat):Option Nat:=(ops[j]?).bind (·.dst)
theorem q8{a:Act}{j t:Nat}{b:Bool}(d:eW a env)(c:jQ ops j=some t)(e:Env.get? env t=some (.bool b)):yielded ops a.tmps j=some b:=by
 unfold jQ at c
 simp[yielded,c,d t _ e]
theorem aG.gt{j t:Nat}{d:Bool}{dst:Option Nat}{op:Op}{ty:TypeId}{c:String}{b:Array Edge}(o:Env.get? env t=some (.bool d))(n:aG m P N R ops (⟨dst,op,ty,c,b,none⟩::l) env H K)(k:jQ ops j=some t:=by rfl):
  aG m P N R ops (⟨dst,op,ty,c,b,some (j,d)⟩::l) env H K:=λg p f i a w s=>by
 have e:Region.wanted ⟨dst,op,ty,c,b,some (j,d)⟩ (yielded ops a.tmps)=true:=by
  simp[Region.wanted,q8 s.env k o]
 have h:=n g p f i a w s
 cases m
 ·simp only[wpList]at h⊢
  rw[aac e]
  rw[aac (by simp[Region.wanted])]at h
  exact h
 ·simp only[wpStill]at h⊢
  rw[aac e]
  rw[aac (by simp[Region.wanted])]at h
  exact h
theorem aG.gf{j t d:Nat}{c b:Bool}{op:Op}{ty:TypeId}{g:String}{e:Array Edge}(v:Env.get? env t=some (.bool b))(o:(b==c)=false)(r:aG m P N R ops l ((d,undef)::env) H K)(q:jQ ops j=some t:=by rfl)(p:Nat.blt d N=true:=by rfl):
  aG m P N R ops (⟨some d,op,ty,g,e,some (j,c)⟩::l) env H K:=λk x i n a w s=>by
 have f:¬Region.wanted ⟨some d,op,ty,g,e,some (j,c)⟩ (yielded ops a.tmps)=true:=by
  have u:¬b=c:=by simpa using o
  simp[Region.wanted,q8 s.env q v,u]
 have h:=r k x i n _ w (s.put undef p)
 cases m
 ·simp only[wpList]
  rw[aaa f]
  exact h
 ·simp only[wpStill]
  rw[aaa f]
  exact h
theorem aG.l8{d:Nat}{op:Op}{ty:TypeId}{c:String}{b:Array Edge}(i:Nat.blt d N=true)
  (h:∀a w,eW a env->Sat w H->RO w R H->∃v w' H',(execOp a.eval ⟨some d,op,ty,c,b,none⟩).run P w=.ok (.value v) w'/\Frame w H w' H'/\Sat w' H'/\aG false P N R ops l ((d,v)::env) H' K):
  aG false P N R ops (⟨some d,op,ty,c,b,none⟩::l) env H K:=λf o e g a w s=>by
 obtain⟨v,w',H',m,j,n,k⟩:=h a w s.env s.sat s.ro
 simp only[wpList,Region.wanted,if_true]
 exact .inl (by rw[Oper.wp,m];exact k f o e g _ w' ((s.step j n).put v i))
theorem aG.oO{op:Op}{ty:TypeId}{c:String}{b:Array Edge}
  (h:∀a w,eW a env->Sat w H->RO w R H->∃w' H',((execOp a.eval ⟨none,op,ty,c,b,none⟩).run P w=.ok .skip w'\/∃v,(execOp a.eval ⟨none,op,ty,c,b,none⟩).run P w=.ok (.value v) w')/\Frame w H w' H'/\Sat w' H'/\aG false P N R ops l env H' K):
  aG false P N R ops (⟨none,op,ty,c,b,none⟩::l) env H K:=λe k d f a w s=>by
 obtain⟨w',H',hr,g,j,i⟩:=h a w s.env s.sat s.ro
 simp only[wpList,Region.wanted,if_true]
 refine .inl ?_
 rcases hr with hr|⟨v,hr⟩
 ·rw[Oper.wp,hr];exact i e k d f _ w' (s.step g j)
 ·rw[Oper.wp,hr];exact i e k d f _ w' (s.step g j)
def Rx(R:av)(H:aV):av:=λb o=>R b o\/(b,o)∈H.flatten
theorem mv{w:World}{is:List Nat}(s:Sat w H):Sat w (take is H)/\Sat w (rest is H)/\∀p∈(take is H).flatten,∀q∈(rest is H).flatten,p.1≠q.1:=by
 have c:=my is H
 have a:=(c.map (·.1)).nodup_iff.1 s.1
 rw[List.map_append,aav]at a
 refine⟨⟨a.1,λp b=>s.2 p (c.mem_iff.2 (aag _ b))⟩,⟨a.2.1,λp b=>s.2 p (c.mem_iff.2 (aaw _ b))⟩,λp d q e f=>?_⟩
 exact a.2.2 p.1 (aak d) q.1 (aak e) f
theorem RO.split{w:World}{is:List Nat}(s:Sat w H)(r:RO w R H):RO w (Rx R (rest is H)) (take is H):=by
 obtain⟨f,d,e⟩:=mv (is:=is) s
 intro b o hb
 rcases hb with hb|hb
 ·exact⟨(r b o hb).1,λp a=>(r b o hb).2 p ((my is H).mem_iff.2 (aag _ a))⟩
 ·exact⟨d.2 _ hb,λp a c=>e p a _ hb c⟩
theorem nl{w w':World}{is:List Nat}{H':aV}(s:Sat w H)(i:Sat w' H')(f:Frame w (take is H) w' H'):Sat w' (H'++rest is H)/\Frame w H w' (H'++rest is H):=by
 obtain⟨t,g,j⟩:=mv (is:=is) s
 have h:∀q∈(rest is H).flatten,q.1<w.heap.size:=λq a=>ln (g.2 q a)
 have l:∀p∈H'.flatten,∀q∈(rest is H).flatten,p.1≠q.1:=λp hp q a c=>by
  rcases f.kL p hp with⟨r,d,e⟩|hge
  ·exact j r d q a (e.trans c)
  ·have:=h q a;omega
 refine⟨⟨?_,λp hp=>?_⟩,⟨f.le,λb k m=>?_,λp hp=>?_,f.os,f.output,f.tape⟩⟩
 ·rw[aal,List.map_append,aav]
  refine⟨i.1,g.1,λx n y o c=>?_⟩
  obtain⟨p,hp,rfl⟩:=aau.1 n
  obtain⟨q,a,rfl⟩:=aau.1 o
  exact l p hp q a c
 ·rw[aal,aaf]at hp
  rcases hp with hp|hp
  ·exact i.2 p hp
  ·rw[f.iK p.1 (h p hp) (λq a c=>j q a p hp c)]
   exact g.2 p hp
 ·exact f.iK b k λp hp=>m p ((my is H).mem_iff.2 (aag _ hp))
 ·rw[aal,aaf]at hp
  rcases hp with hp|hp
  ·rcases f.kL p hp with⟨r,d,e⟩|hge
   ·exact .inl ⟨r,(my is H).mem_iff.2 (aag _ d),e⟩
   ·exact .inr hge
  ·exact .inl ⟨p,(my is H).mem_iff.2 (aaw _ hp),rfl⟩
theorem aG.qe{dst:Option Nat}{op:Op}{ty:TypeId}{m:String}{h:Array Edge}(is:List Nat){f:FuncId}{vs:List Value}{Post:Value->aV->Prop}
  (y:∀a w,eW a env->(execOp a.eval ⟨dst,op,ty,m,h,none⟩).run P w=.ok (.enter f vs.toArray) w)
  (u:Spec P f vs (Rx R (rest is H)) (take is H) Post)
  (r:∀v H',Post v H'->match dst with
   |some d=>Nat.blt d N=true/\aG false P N R ops l ((d,v)::env) (H'++rest is H) K
   |none=>aG false P N R ops l env (H'++rest is H) K):
  aG false P N R ops (⟨dst,op,ty,m,h,none⟩::l) env H K:=λg o c i a w s=>by
 simp only[wpList,Region.wanted,if_true]
 refine .inl ?_
 rw[Oper.wp,y a w s.env]
 obtain⟨z,A,B⟩:=mv (is:=is) s.sat
 refine(u w z (RO.split s.sat s.ro)).mono λe n ⟨v,H',p,t,x,q⟩=>?_
 subst p
 obtain⟨j,k⟩:=nl s.sat x q
 have b:=r v H' t
 cases dst with
 |some d=>exact b.2 g o c i _ n ((s.step k j).put v b.1)
 |none=>exact b g o c i _ n (s.step k j)
theorem sK{f:FuncId} [e:ay P f]{xs:List Operand}{c:Array TypeId}{vs:List Value}{dst:Option Nat}{ty:TypeId}{j:String}{b:Array Edge}{g:Option (Nat×Bool)}(hxs:hN env xs=some vs)(a:Act)(w:World)(i:eW a env):
  (execOp a.eval ⟨dst,.call ⟨.value (.func f),xs.toArray,c⟩,ty,j,b,g⟩).run P w=.ok (.enter f vs.toArray) w:=by
 have d:=i.m6 hxs
 simp only[execOp,resolve,d,Act.eval,Deferred.ofValue]
 have:=e.h vs.toArray w
 simp[invoke,this]
theorem aG.call{d:Nat}{ty:TypeId}{m:String}{b:Array Edge}(is:List Nat){f:FuncId} [e:ay P f]{xs:List Operand}{c:Array TypeId}{vs:List Value}{Post:Value->aV->Prop}
  (k:Spec P f vs (Rx R (rest is H)) (take is H) Post)
  (i:∀v H',Post v H'->aG false P N R ops l ((d,v)::env) (H'++rest is H) K)(hxs:hN env xs=some vs:=by rfl)(h:Nat.blt d N=true:=by rfl):
  aG false P N R ops (⟨some d,.call ⟨.value (.func f),xs.toArray,c⟩,ty,m,b,none⟩::l) env H K:=
 aG.qe is (λa w g=>sK hxs a w g) k (λv H' j=>⟨h,i v H' j⟩)
theorem aG.zL{d:Nat}{ty:TypeId}{q:String}{c:Array Edge}(is:List Nat){t:Nat}{f:FuncId}{first captured:List Value} [e:ay P f]{xs:List Operand}{g:Array TypeId}{vs:List Value}{Post:Value->aV->Prop}
  (p:Env.get? env t=some (.func (.func f) first.toArray captured.toArray))
  (o:Spec P f (first++vs++captured) (Rx R (rest is H)) (take is H) Post)
  (m:∀v H',Post v H'->aG false P N R ops l ((d,v)::env) (H'++rest is H) K)(hxs:hN env xs=some vs:=by rfl)(k:Nat.blt d N=true:=by rfl):
  aG false P N R ops (⟨some d,.call ⟨.value (.tmp t),xs.toArray,g⟩,ty,q,c,none⟩::l) env H K:=
 aG.qe is (λa w b=>by
  have i:=b.m6 hxs
  have j:a.eval (.tmp t)=_:=b.eval p
  simp only[execOp,resolve,i,j,Deferred.ofValue]
  have:=e.h (first++vs++captured).toArray w
  rw[<-List.append_toArray, <-List.append_toArray]at this⊢
  exact this) o (λv H' n=>⟨k,m v H' n⟩)
end
end
section
def cK(p:Value)(k:Nat):Value:=match p with
 | .pointer (some a)=>.pointer (some (a.add k))
 |v=>v
def eK(v:Value)(k:Nat):Value:=match v with
 | .slice (some a) _ _=>.pointer (some (a.add k))
 |v=>v
class PC(T:av)(p:Value)(vs:outParam (List Value)):Prop where
 h:∃b off c E fr,p=.pointer (some ⟨b,off,none⟩)/\T b (.cells c E fr)/\∀j (hj:j<vs.length),c[off+j]? =some vs[j]
def sg(T:ax):av:=λb o=>(b,o)∈T
class RC(R:av)(H:aV)(p:Value)(vs:outParam (List Value)):Prop where
 h:PC (Rx R H) p vs
theorem PC.mono{T a:av}{p:Value}{vs:List Value}(h:PC T p vs)(d:∀b o,T b o->a b o):PC a p vs:=
 ⟨let ⟨b,off,c,E,fr,h1,h2,h3⟩:=h.h;⟨b,off,c,E,fr,h1,d _ _ h2,h3⟩⟩
theorem PC.add{T:av}{p:Value}{vs:List Value}(h:PC T p vs)(k:Nat):PC T (cK p k) (vs.drop k):=by
 obtain⟨b,i,c,E,a,rfl,e,f⟩:=h.h
 refine⟨b,i+k,c,E,a,?_,e,λj g=>?_⟩
 ·simp only[cK,Addr.add];split
  ·rename_i d;subst d;rfl
  ·rfl
 ·rw[List.length_drop]at g
  have:=f (k+j) (by omega)
  rw[List.getElem_drop,aam]
  exact this
instance RC.there{R:av}{H:aV}{T:ax}{p:Value}{vs:List Value} [h:RC R H p vs]:RC R (T::H) p vs:=
 ⟨h.h.mono λb o a=>a.imp id λc=>by simp[c]⟩
instance RC.here{R:av}{H:aV}{b:Nat}{vs:List Value}{E:TypeId}{fr:Nat×Nat}:RC R ([(b,.cells vs.toArray E fr)]::H) (.pointer (some ⟨b,0,none⟩)) vs:=
 ⟨⟨b,0,vs.toArray,E,fr,rfl,.inr (by simp),λj a=>by simp[a]⟩⟩
class PS(T:ax)(p:Value)(vs:outParam (List Value)):Prop where h:PC (sg T) p vs
instance RC.Pp{R:av}{H:aV}{T:ax}{p:Value}{vs:List Value} [h:PS T p vs]:RC R (T::H) p vs:=
 ⟨h.h.mono λb o a=>.inr (List.mem_flatten.2 ⟨T,by simp,a⟩)⟩
instance RC.Po{R:av}{H:aV}{p:Value}{vs:List Value} [h:PC R p vs]:RC R H p vs:=⟨h.mono λb o a=>.inl a⟩
instance RC.add{R:av}{H:aV}{p:Value}{k:Nat}{vs:List Value} [h:RC R H p vs]:RC R H (cK p k) (vs.drop k):=⟨h.h.add k⟩
theorem qE{P:Program}{R:av}{H:aV}{p:Value}{vs:List Value}(h:PC (Rx R H) p vs){w:World}(s:Sat w H)(r:RO w R H):
  ∃b off,p=.pointer (some ⟨b,off,none⟩)/\∀j (hj:j<vs.length),w.cell? ⟨b,off+j,none⟩=some vs[j]:=by
 obtain⟨b,off,c,E,a,d,h2,e⟩:=h.h
 refine⟨b,off,d,λj hj=>?_⟩
 have f:w.heap[b]? =some (.cells c E a):=by
  rcases h2 with h2|h2
  ·exact(r b _ h2).1
  ·exact s.2 _ h2
 simp[World.cell?,f,e j hj]
theorem xP{P:Program}{a:Addr}{v:Value}{w:World}(h:w.cell? a=some v):(load a).run P w=.ok v w:=by
 rw[run_load,h]
theorem run_loadCellsFrom{P:Program}{w:World}{b off:Nat}:∀(vs:List Value) (i:Nat) (acc:Array Value),(∀j (hj:j<vs.length),w.cell? ⟨b,off+i+j,none⟩=some vs[j])->
  (loadCellsFrom ⟨b,off,none⟩ i vs.length acc).run P w=.ok (acc++vs.toArray) w
 |[],i,acc,_=>by simp[loadCellsFrom]
 |v::r,i,acc,h=>by
  have a:=h 0 (by simp)
  have e:(⟨b,off,none⟩:Addr).add i=⟨b,off+i,none⟩:=by
   simp only[Addr.add];split
   ·rename_i a;subst a;rfl
   ·rfl
  have c:(load ⟨b,off+i,none⟩).run P w=.ok v w:=xP (by simpa using a)
  have d:=run_loadCellsFrom (P:=P) r (i+1) (acc.push v) (λj hj=>by
   have:=h (j+1) (by simp;omega)
   simpa[aam,Nat.add_comm 1 j]using this)
  simp only[aaq,loadCellsFrom,e,Sem.run_bind,c,Result.andThen_ok,d]
  simp
section
variable{P:Program}{R:av}{env:Env}{H:aV}{ty:TypeId}
theorem aP.move{x:Operand}{v:Value}(h:ev env x=some v:=by rfl):aP P R env H (.move x) ty v:=λa w d e c g b _ _=>by
 simp[execOp,b.eval h]
theorem aP.assign{x:Operand}{v:Value}(h:ev env x=some v:=by rfl):aP P R env H (.assign x) ty v:=λa w d e c g b _ _=>by
 simp[execOp,b.eval h]
theorem aP.pick{c x y:Operand}{b:Bool}{u v:Value}(f:ev env c=some (.bool b):=by rfl)(h:ev env x=some u:=by rfl)(i:ev env y=some v:=by rfl):
  aP P R env H (.pick c x y) ty (if b then u else v):=λa w d k j g e _ _=>by
 simp[execOp,e.eval f,e.eval h,e.eval i,asBool]
theorem aP.ca{c x y:Operand}{u:Value}(e:ev env c=some (.bool true):=by rfl)(f:ev env x=some u:=by rfl):
  aP P R env H (.pick c x y) ty u:=λa w d i h g b _ _=>by
 simp[execOp,b.eval e,b.eval f,asBool]
theorem aP.bY{c x y:Operand}{v:Value}(e:ev env c=some (.bool false):=by rfl)(f:ev env y=some v:=by rfl):
  aP P R env H (.pick c x y) ty v:=λa w d i h g b _ _=>by
 simp[execOp,b.eval e,b.eval f,asBool]
theorem aP.nilCheck{x:Operand}{p:Value}{vs:List Value}(i:ev env x=some p) [rc:RC R H p vs]:aP P R env H (.nilCheck x) ty p:=λa w d m j g f _ _=>by
 obtain⟨b,l,c,E,k,e,_,_⟩:=rc.h.h
 subst e
 simp[execOp,f.eval i]
theorem aP.fieldAddr{x:Operand}{s:TypeId}{f off:Nat}{p:Value}{vs:List Value}(k:ev env x=some p) [e:bk P s f off] [rc:RC R H p vs]:aP P R env H (.fieldAddr s x f) ty (cK p off):=λa w d n l g j _ _=>by
 obtain⟨b,o,c,E,m,i,_,_⟩:=rc.h.h
 subst i
 simp[execOp,j.eval k,e.h,cK]
theorem aP.bN{x:Operand}{t:TypeId}{p u:Value}{vs r:List Value}(l:ev env x=some p) [c:dj P t false] [rc:RC R H p vs](k:vs=u::r:=by rfl):aP P R env H (.load t x) ty u:=λa w d q o g j s n=>by
 obtain⟨b,m,e,f⟩:=qE (P:=P) rc.h s n
 subst e;subst k
 have:=f 0 (by simp)
 have i:w.cell? ⟨b,m,none⟩=some u:=by simpa using this
 simp[execOp,j.eval l,Instr.loadAt,Instr.sureAddr,loadVar,c.h,i]
theorem aP.bK{x:Operand}{t:TypeId}{p:Value}{n:Nat}{vs:List Value}(k:ev env x=some p) [c:dj P t true] [sz:Sz P t n] [rc:RC R H p vs](j:vs.length=n:=by rfl):aP P R env H (.load t x) ty (.agg vs.toArray):=λa w d o m g i s l=>by
 obtain⟨b,off,e,f⟩:=qE (P:=P) rc.h s l
 subst e;subst j
 have:=run_loadCellsFrom (P:=P) (w:=w) (b:=b) (off:=off) vs 0 #[] (by simpa using f)
 simp[execOp,i.eval k,Instr.loadAt,Instr.sureAddr,loadVar,c.h,sz.h,loadCells,this]
theorem aP.loadT{x:Operand}{t:TypeId}{p:Value}{n:Nat}{vs us:List Value}(q:ev env x=some p) [f:dj P t true] [sz:Sz P t n] [rc:RC R H p vs](c:vs.take n=us:=by rfl)(o:us.length=n:=by rfl):aP P R env H (.load t x) ty (.agg us.toArray):=λa w d y u g l s r=>by
 obtain⟨b,off,i,k⟩:=qE (P:=P) rc.h s r
 subst i;subst o
 have v:us.length<=vs.length:=by
  have:=congrArg List.length c;rw[aaB]at this;omega
 have:=run_loadCellsFrom (P:=P) (w:=w) (b:=b) (off:=off) us 0 #[] (λj m=>by
  have:=k j (by omega)
  have e:us[j]=vs[j]'(by omega):=by rw[List.getElem_of_eq c.symm m,List.getElem_take]
  rw[e];simpa using this)
 simp[execOp,l.eval q,Instr.loadAt,Instr.sureAddr,loadVar,f.h,sz.h,loadCells,this]
theorem aP.makeFunc{b:Fn}{xs ys:List Operand}{us vs:List Value}(h:hN env xs=some us:=by rfl)(i:hN env ys=some vs:=by rfl):aP P R env H (.makeFunc b xs.toArray ys.toArray) ty (.func b us.toArray vs.toArray):=λa w d k j g c _ _=>by
 have e:=c.m6 h
 have f:=c.m6 i
 simp only[execOp,e,f,Instr.makeFunc]
 rfl
theorem aP.makeInterface{x:Operand}{t:TypeId}{v:Value}{b:TypeDesc} [ut:bP P t b](e:(match b with| .interface _=>false|_=>true)=true:=by rfl)(f:ev env x=some v:=by rfl):aP P R env H (.makeInterface t x) ty (.iface t v):=λa w d j i g c _ _=>by
 cases b<;>first|(cases e;done)|simp[execOp,c.eval f,Instr.makeInterface,run_underlying ut.h]
theorem aP.extract{x:Operand}{i:Nat}{vs:List Value}{v:Value}(e:ev env x=some (.tuple vs.toArray):=by rfl)(c:vs[i]? =some v:=by rfl):aP P R env H (.extract x i) ty v:=λa w d h f g b _ _=>by
 simp[execOp,b.eval e,Instr.extract,c]
theorem aP.not{x:Operand}{t:TypeId}{b:Bool}(e:ev env x=some (.bool b):=by rfl):aP P R env H (.unOp .not t x) ty (.bool (!b)):=λa w d h f g c _ _=>by
 simp[execOp,c.eval e,Op.unary]
theorem mH{op:BinOp}{t:TypeId}{x y:Operand}{u v:Value}{w:World}(h:(match u,v with| .nilIface,.nilIface=>false| .agg _,.agg _=>false|_,_=>true)=true):(eqGuard op t x y u v).run P w=.ok () w:=by
 unfold eqGuard
 cases u<;>cases v<;>first|(cases h;done)|(cases op<;>rfl)
section ints
variable{x y:Operand}{t u:TypeId}{k:IntKind}{m n:Int}
theorem aP.add(c:ev env x=some (.int k m):=by rfl)(e:ev env y=some (.int k n):=by rfl):aP P R env H (.binOp .add t x y u) ty (.int k (k.wrap (m+n))):=λa w d h f g b _ _=>by
 simp[execOp,b.eval c,b.eval e,eqGuard,binOp,Op.intArith]
theorem aP.sub(c:ev env x=some (.int k m):=by rfl)(e:ev env y=some (.int k n):=by rfl):aP P R env H (.binOp .sub t x y u) ty (.int k (k.wrap (m-n))):=λa w d h f g b _ _=>by
 simp[execOp,b.eval c,b.eval e,eqGuard,binOp,Op.intArith]
theorem aP.mul(c:ev env x=some (.int k m):=by rfl)(e:ev env y=some (.int k n):=by rfl):aP P R env H (.binOp .mul t x y u) ty (.int k (k.wrap (m*n))):=λa w d h f g b _ _=>by
 simp[execOp,b.eval c,b.eval e,eqGuard,binOp,Op.intArith]
theorem aP.quo(e:ev env x=some (.int k m):=by rfl)(f:ev env y=some (.int k n):=by rfl)(c:n≠0:=by decide):aP P R env H (.binOp .quo t x y u) ty (.int k (k.wrap (m.tdiv n))):=λa w d i h g b _ _=>by
 simp[execOp,b.eval e,b.eval f,eqGuard,binOp,Op.intDiv,c]
theorem aP.rem(e:ev env x=some (.int k m):=by rfl)(f:ev env y=some (.int k n):=by rfl)(c:n≠0:=by decide):aP P R env H (.binOp .rem t x y u) ty (.int k (m.tmod n)):=λa w d i h g b _ _=>by
 simp[execOp,b.eval e,b.eval f,eqGuard,binOp,Op.intDiv,c]
theorem aP.lss(c:ev env x=some (.int k m):=by rfl)(e:ev env y=some (.int k n):=by rfl):aP P R env H (.binOp .lss t x y u) ty (.bool (m<n)):=λa w d h f g b _ _=>by
 simp[execOp,b.eval c,b.eval e,eqGuard,binOp,Op.intCmp]
theorem aP.leq(c:ev env x=some (.int k m):=by rfl)(e:ev env y=some (.int k n):=by rfl):aP P R env H (.binOp .leq t x y u) ty (.bool (m<=n)):=λa w d h f g b _ _=>by
 simp[execOp,b.eval c,b.eval e,eqGuard,binOp,Op.intCmp]
theorem aP.gtr(c:ev env x=some (.int k m):=by rfl)(e:ev env y=some (.int k n):=by rfl):aP P R env H (.binOp .gtr t x y u) ty (.bool (n<m)):=λa w d h f g b _ _=>by
 simp[execOp,b.eval c,b.eval e,eqGuard,binOp,Op.intCmp]
theorem aP.geq(c:ev env x=some (.int k m):=by rfl)(e:ev env y=some (.int k n):=by rfl):aP P R env H (.binOp .geq t x y u) ty (.bool (n<=m)):=λa w d h f g b _ _=>by
 simp[execOp,b.eval c,b.eval e,eqGuard,binOp,Op.intCmp]
theorem aP.bS(c:ev env x=some (.int k m):=by rfl)(e:ev env y=some (.int k n):=by rfl):aP P R env H (.binOp .eql t x y u) ty (.bool (m==n)):=λa w d h f g b _ _=>by
 simp[execOp,b.eval c,b.eval e,eqGuard,binOp,Op.intCmp]
theorem aP.dL(c:ev env x=some (.int k m):=by rfl)(e:ev env y=some (.int k n):=by rfl):aP P R env H (.binOp .neq t x y u) ty (.bool (m !=n)):=λa w d h f g b _ _=>by
 simp[execOp,b.eval c,b.eval e,eqGuard,binOp,Op.intCmp]
theorem aP.hE{dst:TypeId}{k':IntKind}(e:ev env x=some (.int k n):=by rfl){b:TypeDesc} [us:bP P t b] [f:bP P dst (.int k')]:aP P R env H (.convert t dst x) ty (.int k' (k'.wrap n)):=λa w d j i g c _ _=>by
 simp[execOp,c.eval e,convert,run_underlying us.h,run_underlying f.h,Conv.intToInt]
end ints
theorem qK{op:Op}{t:TypeId}{x y:Operand}{u v:Value}{ty l:TypeId}{a:Act}{w:World}{d:Option Tmp}{k:String}{b:Array Edge}{g:Option (Nat×Bool)}{r:Bool}(i:a.eval x=u)(j:a.eval y=v)
  (h:(eqGuard .eql t x y u v).run P w=.ok () w)(c:binOp .eql t u v=do pure (.bool (<-Op.equal t u v)))(e:(Op.equalIn (9999+1) t u v).run P w=.ok r w):
  (execOp a.eval ⟨d,.binOp .eql t x y l,ty,k,b,g⟩).run P w=.ok (.value (.bool r)) w:=by
 have f:(Op.equal t u v).run P w=.ok r w:=e
 simp only[execOp,i,j,Sem.run_bind,h,Result.andThen_ok,c,f]
 rfl
theorem qN{op:Op}{t:TypeId}{x y:Operand}{u v:Value}{ty l:TypeId}{a:Act}{w:World}{d:Option Tmp}{k:String}{b:Array Edge}{g:Option (Nat×Bool)}{r:Bool}(i:a.eval x=u)(j:a.eval y=v)
  (h:(eqGuard .neq t x y u v).run P w=.ok () w)(c:binOp .neq t u v=do pure (.bool (!(<-Op.equal t u v))))(e:(Op.equalIn (9999+1) t u v).run P w=.ok r w):
  (execOp a.eval ⟨d,.binOp .neq t x y l,ty,k,b,g⟩).run P w=.ok (.value (.bool (!r))) w:=by
 have f:(Op.equal t u v).run P w=.ok r w:=e
 simp only[execOp,i,j,Sem.run_bind,h,Result.andThen_ok,c,f]
 rfl
section bools
variable{x y:Operand}{t u:TypeId}{b c:Bool}
theorem run_equalIn_bool(n:Nat){w:World}(ut:P.underlying t=some .bool):(Op.equalIn (n+1) t (.bool b) (.bool c)).run P w=.ok (b==c) w:=by
 simp[Op.equalIn,run_underlying ut]
theorem aP.uU(f:ev env x=some (.bool b):=by rfl)(i:ev env y=some (.bool c):=by rfl) [ut:bP P t .bool]:aP P R env H (.binOp .eql t x y u) ty (.bool (b==c)):=λa w d k j g e _ _=>
 qK (op:=.move x) (e.eval f) (e.eval i) (mH rfl) rfl (run_equalIn_bool _ ut.h)
end bools
theorem toList_inj{a b:ByteArray}(h:a.toList=b.toList):a=b:=by
 rw[ByteArray.toList_eq,ByteArray.toList_eq]at h
 exact ByteArray.ext (Array.toList_inj.1 h)
theorem p9(a b:ByteArray):(a.toList==b.toList)=decide (a=b):=by
 by_cases h:a=b
 ·subst h;simp
 ·simp only[h,decide_false,beq_eq_false_iff_ne,ne_eq]
  exact λe=>h (toList_inj e)
theorem qa(a b:ByteArray):(a==b)=decide (a=b):=by rw[beq_toListBytes,p9]
def cp(a b:ByteArray):Bool:=Op.bytesLess a.toList b.toList
section strs
variable{x y:Operand}{t u:TypeId}{p q:ByteArray}
theorem aP.ek(c:ev env x=some (.string p):=by rfl)(e:ev env y=some (.string q):=by rfl):aP P R env H (.binOp .eql t x y u) ty (.bool (decide (p=q))):=λa w d h f g b _ _=>by
 rw[<-p9];simp[execOp,b.eval c,b.eval e,eqGuard,binOp,Op.stringOp]
theorem aP.fj(c:ev env x=some (.string p):=by rfl)(e:ev env y=some (.string q):=by rfl):aP P R env H (.binOp .neq t x y u) ty (.bool !(decide (p=q))):=λa w d h f g b _ _=>by
 rw[<-p9];simp[execOp,b.eval c,b.eval e,eqGuard,binOp,Op.stringOp]
theorem aP.m9(c:ev env x=some (.string p):=by rfl)(e:ev env y=some (.string q):=by rfl):aP P R env H (.binOp .lss t x y u) ty (.bool (cp p q)):=λa w d h f g b _ _=>by
 simp[execOp,b.eval c,b.eval e,eqGuard,binOp,Op.stringOp,cp]
theorem aP.fG(c:ev env x=some (.string p):=by rfl) [ut:bP P t .string]:aP P R env H (.call ⟨.builtin .len,#[x],#[t]⟩) ty (.int .i64 p.size):=λa w d f e g b _ _=>by
 simp[execOp,resolve,b.eval c,invoke,builtin,Builtin.len_,run_underlying ut.h,goInt]
theorem aP.iJ{i:Operand}{k:IntKind}{j:Int}(n:Nat)(f:n<p.size)(l:ev env x=some (.string p):=by rfl)(c:ev env i=some (.int k j):=by rfl)(e:j=(n:Int):=by rfl) [ut:bP P t .string]:
  aP P R env H (.index t x i) ty (.int .u8 (p[n]).toNat):=λa w d o m g b _ _=>by
 subst e
 simp[execOp,b.eval l,b.eval c,Instr.index,asIntOf,run_underlying ut.h,f]
end strs
section nils
variable{x y:Operand}{t u e:TypeId}
theorem qL(n:Nat){w:World}{p:Option Addr}(ut:P.underlying t=some (.pointer e)):(Op.equalIn (n+1) t (.pointer p) (.pointer none)).run P w=.ok p.isNone w:=by
 cases p<;>simp[Op.equalIn,run_underlying ut]
theorem aP.ql{p:Option Addr}(c:ev env x=some (.pointer p))(f:ev env y=some (.pointer none)) [ut:bP P t (.pointer e)]:aP P R env H (.binOp .eql t x y u) ty (.bool p.isNone):=λa w d j i g b _ _=>
 qK (op:=.move x) (b.eval c) (b.eval f) (mH rfl) rfl (qL _ ut.h)
theorem aP.wA{p:Option Addr}(c:ev env x=some (.pointer p))(f:ev env y=some (.pointer none)) [ut:bP P t (.pointer e)]:aP P R env H (.binOp .neq t x y u) ty (.bool !p.isNone):=λa w d j i g b _ _=>
 qN (op:=.move x) (b.eval c) (b.eval f) (mH rfl) rfl (qL _ ut.h)
theorem aP.uV{p:Value}{vs:List Value}(j:ev env x=some p)(k:ev env y=some (.pointer none)) [ut:bP P t (.pointer e)] [rc:RC R H p vs]:aP P R env H (.binOp .eql t x y u) ty (.bool false):=λa w d o l g f _ _=>by
 obtain⟨b,n,c,E,m,i,_,_⟩:=rc.h.h
 subst i
 exact qK (op:=.move x) (f.eval j) (f.eval k) (mH rfl) rfl (qL _ ut.h)
theorem aP.qA{p:Value}{vs:List Value}(j:ev env x=some p)(k:ev env y=some (.pointer none)) [ut:bP P t (.pointer e)] [rc:RC R H p vs]:aP P R env H (.binOp .neq t x y u) ty (.bool true):=λa w d o l g f _ _=>by
 obtain⟨b,n,c,E,m,i,_,_⟩:=rc.h.h
 subst i
 exact qN (op:=.move x) (f.eval j) (f.eval k) (mH rfl) rfl (qL _ ut.h)
end nils
end
end
section
def aw:Value->Bool
 | .agg _| .tuple _=>false
 |_=>true
class One(v:Value):Prop where h:aw v=true
instance One.bool{b:Bool}:One (.bool b):=⟨rfl⟩
instance One.int{k:IntKind}{n:Int}:One (.int k n):=⟨rfl⟩
instance One.string{s:ByteArray}:One (.string s):=⟨rfl⟩
instance One.pointer{a:Option Addr}:One (.pointer a):=⟨rfl⟩
instance One.slice{a:Option Addr}{m n:Nat}:One (.slice a m n):=⟨rfl⟩
instance One.map{r:Option Nat}:One (.map r):=⟨rfl⟩
instance One.func{f:Fn}{a b:Array Value}:One (.func f a b):=⟨rfl⟩
class bJ(vs:List Value):Prop where h:∀v∈vs,aw v=true
instance bJ.nil:bJ []:=⟨by simp⟩
instance bJ.cons{v:Value}{vs:List Value} [h1:One v] [h2:bJ vs]:bJ (v::vs):=⟨by simpa using⟨h1.h,h2.h⟩⟩
theorem oz{v:Value}(h:aw v=true):v.cells= #[v]:=by cases v<;>simp_all[aw,Value.cells]
def cc:List Value->Nat->List Value->List Value
 |[],_,cs=>cs
 |v::vs,k+1,cs=>v::cc vs k cs
 |v::vs,0,[]=>v::vs
 |_::vs,0,c::cs=>c::cc vs 0 cs
theorem iY:∀(vs:List Value) (off:Nat) (cs:List Value),cc vs off cs=vs.take off++cs++vs.drop (off+cs.length)
 |[],k,cs=>by simp[cc]
 |v::vs,k+1,cs=>by simp[cc,iY vs k cs,Nat.add_right_comm]
 |v::vs,0,[]=>by simp[cc]
 |v::vs,0,c::cs=>by simp[cc,iY vs 0 cs]
instance bJ.cc{vs cs:List Value}{k:Nat} [h1:bJ vs] [h2:bJ cs]:bJ (Go.Proofs.YtkkmbiojicgobaaGreatDoor.cc vs k cs):=⟨λv hv=>by
 simp only[iY,aaf]at hv
 rcases hv with(hv|hv)|hv
 ·exact h1.h v (aan hv)
 ·exact h2.h v hv
 ·exact h1.h v (aao hv)⟩
instance bJ.take{vs:List Value}{k:Nat} [h1:bJ vs]:bJ (vs.take k):=⟨λv a=>h1.h v (aan a)⟩
theorem nY{vs cs:List Value}{off:Nat}(h:off+cs.length<=vs.length):(cc vs off cs).length=vs.length:=by rw[iY];simp;omega
theorem x3{vs:List Value}{off:Nat}:cc vs off []=vs:=by rw[iY];simp
theorem x1{vs cs:List Value}{off:Nat}{c:Value}(h:off+cs.length<vs.length):cc vs off (c::cs)=cc (vs.set off c) (off+1) cs:=by
 apply List.ext_getElem?
 intro i
 simp only[iY,List.getElem?_append,List.length_append,aaB,List.getElem?_take,List.getElem?_drop,List.getElem?_set,aaq,List.length_set]
 have e:min off vs.length=off:=by omega
 have d:min (off+1) vs.length=off+1:=by omega
 simp only[e,d,List.getElem?_cons]
 by_cases a:i<off
 ·simp[a,show i<off+(cs.length+1) by omega,show i<off+1 by omega,show i<off+1+cs.length by omega,show ¬off=i by omega]
 ·by_cases f:i=off
  ·subst f;simp[show i<i+(cs.length+1) by omega,show i<i+1+cs.length by omega,show i<vs.length by omega]
  ·by_cases b:i<off+(cs.length+1)
   ·simp[a,b,show ¬i<off+1 by omega,show i<off+1+cs.length by omega,show ¬i-off=0 by omega,show i-off-1=i-(off+1) by omega]
   ·simp[b,show ¬i<off+1+cs.length by omega]
    rw[aaa (by omega),show off+(cs.length+1)+(i-(off+(cs.length+1)))=off+1+cs.length+(i-(off+1+cs.length)) by omega]
theorem Nv(w:World)(b:Nat)(o o':Obj):eC (eC w b o) b o'=eC w b o':=by simp[eC]
theorem Nu{w:World}{b off:Nat}{vs:List Value}{E:TypeId}{fr:Nat×Nat}(h:w.heap[b]? =some (.cells vs.toArray E fr))(v:Value):w.setCell ⟨b,off,none⟩ v=eC w b (.cells (vs.set off v).toArray E fr):=by
 have c:=ln h
 unfold World.setCell eC
 congr 1
 apply Array.ext_getElem?
 intro i
 simp only[Array.getElem?_modify,aaC,c]
 by_cases a:b=i
 ·subst a;simp[h]
 ·simp[a]
theorem pf{P:Program}{b off:Nat}{E:TypeId}:∀(cs:List Value) (i:Nat) (vs:List Value) (w:World),w.heap[b]? =some (.cells vs.toArray E (0,0))->(∀v∈cs,aw v=true)->off+i+cs.length<=vs.length->
  (storeCells ⟨b,off,none⟩ cs i).run P w=.ok () (eC w b (.cells (cc vs (off+i) cs).toArray E (0,0)))
 |[],i,vs,w,hw,_,_=>by
  have:eC w b (.cells vs.toArray E (0,0))=w:=by
   unfold eC
   have:w.heap.setIfInBounds b (.cells vs.toArray E (0,0))=w.heap:=by
    apply Array.ext_getElem?
    intro i
    simp only[aaC]
    by_cases a:b=i
    ·subst a;rw[hw];simp[ln hw]
    ·simp[a]
   rw[this]
  rw[x3,this];rfl
 |v::cs,i,vs,w,hw,ho,hl=>by
  simp only[aaq]at hl
  have a:(⟨b,off,none⟩:Addr).add i=⟨b,off+i,none⟩:=by
   simp only[Addr.add];split
   ·rename_i c;subst c;rfl
   ·rfl
  have h:w.cell? ⟨b,off+i,none⟩=some (vs[off+i]'(by omega)):=by simp[World.cell?,hw]
  have j:w.frozen? ⟨b,off+i,none⟩=false:=by simp[World.frozen?,hw]
  have k:=ho v (by simp)
  have d:(store ⟨b,off+i,none⟩ v).run P w=.ok () (eC w b (.cells (vs.set (off+i) v).toArray E (0,0))):=by
   rw[<-Nu hw]
   cases v<;>simp_all[store,Sem.run,aw]
  have g:(eC w b (.cells (vs.set (off+i) v).toArray E (0,0))).heap[b]? =some (.cells (vs.set (off+i) v).toArray E (0,0)):=by
   simp[eC,ln hw]
  have e:=pf (P:=P) (b:=b) (off:=off) (E:=E) cs (i+1) (vs.set (off+i) v) _ g (λu f=>ho u (by simp[f])) (by simp;omega)
  simp only[storeCells,a,Sem.run_bind,d,Result.andThen_ok,e,Nv]
  rw[x1 (by omega),aam]
class Wr(H:aV)(p:Value)(vs:outParam (List Value))(off:outParam Nat)(upd:outParam (List Value->aV)):Prop where
 h:∃b E H1 H2 T1 T2,p=.pointer (some ⟨b,off,none⟩)/\H=H1++(T1++(b,.cells vs.toArray E (0,0))::T2)::H2/\∀vs',upd vs'=H1++(T1++(b,.cells vs'.toArray E (0,0))::T2)::H2
instance Wr.there{H:aV}{T:ax}{p:Value}{vs:List Value}{off:Nat}{upd:List Value->aV} [h:Wr H p vs off upd]:Wr (T::H) p vs off (λvs'=>T::upd vs'):=
 ⟨let ⟨b,E,H1,H2,T1,T2,h1,h2,h3⟩:=h.h;⟨b,E,T::H1,H2,T1,T2,h1,by rw[h2];rfl,λvs'=>by rw[h3];rfl⟩⟩
instance Wr.here{H:aV}{b:Nat}{vs:List Value}{E:TypeId}:Wr ([(b,.cells vs.toArray E (0,0))]::H) (.pointer (some ⟨b,0,none⟩)) vs 0 (λvs'=>[(b,.cells vs'.toArray E (0,0))]::H):=
 ⟨⟨b,E,[],H,[],[],rfl,rfl,λ_=>rfl⟩⟩
instance Wr.add{H:aV}{p:Value}{k:Nat}{vs:List Value}{off:Nat}{upd:List Value->aV} [h:Wr H p vs off upd]:Wr H (cK p k) vs (off+k) upd:=
 ⟨by
  obtain⟨b,E,a,c,d,e,g,i,j⟩:=h.h
  refine⟨b,E,a,c,d,e,?_,i,j⟩
  subst g
  simp only[cK,Addr.add];split
  ·rename_i f;subst f;rfl
  ·rfl⟩
section
variable{P:Program}{N:Nat}{R:av}{ops:Array Oper}{l:List Oper}{env:Env}{H:aV}{K:Env->aV->Prop}{ty:TypeId}{pos:String}{af:Array Edge}
theorem xR{t:TypeId}{n:Nat} [sz:Sz P t n]{b off:Nat}{E:TypeId}{v:Value}{cs vs:List Value}{w:World}(a:v.cells=cs.toArray)(c:cs.length=n)(d:w.heap[b]? =some (.cells vs.toArray E (0,0)))(ho:∀u∈cs,aw u=true)(f:off+cs.length<=vs.length):
  (Instr.storeAt t (.pointer (some ⟨b,off,none⟩)) v).run P w=.ok () (eC w b (.cells (cc vs off cs).toArray E (0,0))):=by
 have h:=pf (P:=P) (b:=b) (off:=off) (E:=E) cs 0 vs w d ho (by omega)
 subst c
 have e:v.cells.size=cs.length:=by rw[a];simp
 simp only[Instr.storeAt,Instr.sureAddr,Sem.run_bind,Sem.run_pure,Result.andThen_ok,storeVar,sz.h,e,ne_eq,not_true,if_false]
 rw[a]
 exact h
theorem aG.sX{t:TypeId}{x y:Operand}{n:Nat}{p v:Value}{vs cs:List Value}{off:Nat}{c:List Value->aV}(q:ev env x=some p)(r:ev env y=some v)(i:v.cells=cs.toArray)(k:cs.length=n) [sz:Sz P t n] [wr:Wr H p vs off c](ho:∀u∈cs,aw u=true)
  (j:off+cs.length<=vs.length)(m:aG false P N R ops l env (c (cc vs off cs)) K):aG false P N R ops (⟨none,.store t x y,ty,pos,af,none⟩::l) env H K:=
 aG.oO λa w e s D=>by
  obtain⟨b,E,z,A,B,C,f,g,d⟩:=wr.h
  subst f;subst g
  have o:w.heap[b]? =some (.cells vs.toArray E (0,0)):=s.2 (b,_) (by simp)
  refine⟨eC w b (.cells (cc vs off cs).toArray E (0,0)),c (cc vs off cs),.inl ?_,?_,?_,m⟩
  ·simp[execOp,e.eval q,e.eval r,xR i k o ho j]
  ·rw[d];exact Frame.set
  ·rw[d];exact Sat.set s
theorem aG.cJ{t:TypeId}{x y:Operand}{p v:Value}{vs:List Value}{off:Nat}{a:List Value->aV}(d:ev env x=some p)(e:ev env y=some v) [sz:Sz P t 1] [wr:Wr H p vs off a] [o:One v](c:aG false P N R ops l env (a (cc vs off [v])) K)
  (b:off+1<=vs.length:=by first|decide|exact aaj rfl):aG false P N R ops (⟨none,.store t x y,ty,pos,af,none⟩::l) env H K:=
 aG.sX (cs:=[v]) d e (oz o.h) rfl (by simpa using o.h) (by simpa using b) c
theorem aG.ct{t:TypeId}{x y:Operand}{n:Nat}{p:Value}{vs cs:List Value}{off:Nat}{a:List Value->aV}(e:ev env x=some p)(f:ev env y=some (.agg cs.toArray)) [sz:Sz P t n] [wr:Wr H p vs off a] [o:bJ cs](d:aG false P N R ops l env (a (cc vs off cs)) K)
  (c:cs.length=n:=by rfl)(b:off+cs.length<=vs.length:=by first|decide|exact aaj rfl):aG false P N R ops (⟨none,.store t x y,ty,pos,af,none⟩::l) env H K:=
 aG.sX (cs:=cs) e f rfl c o.h b d
theorem aG.fresh{op:Op}{d:Nat}{o:Obj}{v:Nat->Value}(e:Nat.blt d N=true)(h:∀a w,eW a env->Sat w H->RO w R H->∃n,(execOp a.eval ⟨some d,op,ty,pos,af,none⟩).run P w=.ok (.value (v w.heap.size)) (({w with drawn:=n}:World).alloc o))
  (f:∀b,aG false P N R ops l ((d,v b)::env) ([(b,o)]::H) K):aG false P N R ops (⟨some d,op,ty,pos,af,none⟩::l) env H K:=
 aG.l8 e λa w c s i=>by
  obtain⟨n,g⟩:=h a w c s i
  refine⟨_,_,_,g,?_,?_,f w.heap.size⟩
  ·exact(Frame.drew w H n).trans (Frame.alloc {w with drawn:=n} H o)
  ·exact Sat.alloc (w:={w with drawn:=n}) (s.drew n) o
theorem mn{t:TypeId}{c:Array Value}{w:World}:(newRow t c).run P w=.ok ⟨w.heap.size,0,none⟩ (w.alloc (.cells c t)):=by
 simp[newRow]
theorem aG.ko{d:Nat}{E:TypeId}{x:Operand}{v:Value}(g:ev env x=some v) [o:One v](f:∀b,aG false P N R ops l ((d,.pointer (some ⟨b,0,none⟩))::env) ([(b,.cells [v].toArray E (0,0))]::H) K)(e:Nat.blt d N=true:=by rfl):
  aG false P N R ops (⟨some d,.box E x,ty,pos,af,none⟩::l) env H K:=
 aG.fresh (v:=λb=>.pointer (some ⟨b,0,none⟩)) e (λa w c s i=>⟨w.drawn,by
  have:=oz o.h
  simp[execOp,c.eval g,Instr.box,newVar,this,mn]⟩) f
theorem aG.dv{d:Nat}{E:TypeId}{x:Operand}{cs:List Value}(g:ev env x=some (.agg cs.toArray))(f:∀b,aG false P N R ops l ((d,.pointer (some ⟨b,0,none⟩))::env) ([(b,.cells cs.toArray E (0,0))]::H) K)(e:Nat.blt d N=true:=by rfl):
  aG false P N R ops (⟨some d,.box E x,ty,pos,af,none⟩::l) env H K:=
 aG.fresh (v:=λb=>.pointer (some ⟨b,0,none⟩)) e (λa w c s h=>⟨w.drawn,by
  simp[execOp,c.eval g,Instr.box,newVar,mn,Value.cells]⟩) f
theorem aG.p6{d:Nat}{E:TypeId}{z:Value} [f:Zr P E z] [o:One z](e:∀b,aG false P N R ops l ((d,.pointer (some ⟨b,0,none⟩))::env) ([(b,.cells [z].toArray E (0,0))]::H) K)(c:Nat.blt d N=true:=by rfl):
  aG false P N R ops (⟨some d,.alloc E,ty,pos,af,none⟩::l) env H K:=
 aG.fresh (v:=λb=>.pointer (some ⟨b,0,none⟩)) c (λa w g s i=>⟨w.drawn,by
  have:=oz o.h
  simp[execOp,Instr.alloc,f.h,newVar,this,mn]⟩) e
theorem aG.cN{d:Nat}{E:TypeId}{cs:List Value} [f:Zr P E (.agg cs.toArray)](e:∀b,aG false P N R ops l ((d,.pointer (some ⟨b,0,none⟩))::env) ([(b,.cells cs.toArray E (0,0))]::H) K)(c:Nat.blt d N=true:=by rfl):
  aG false P N R ops (⟨some d,.alloc E,ty,pos,af,none⟩::l) env H K:=
 aG.fresh (v:=λb=>.pointer (some ⟨b,0,none⟩)) c (λa w g s i=>⟨w.drawn,by
  simp[execOp,Instr.alloc,f.h,newVar,mn,Value.cells]⟩) e
theorem aG.makeMap{d:Nat}{T:TypeId}(e:∀b,aG false P N R ops l ((d,.map (some b))::env) ([(b,.map #[] 0)]::H) K)(c:Nat.blt d N=true:=by rfl):
  aG false P N R ops (⟨some d,.makeMap T none,ty,pos,af,none⟩::l) env H K:=
 aG.fresh (v:=λb=>.map (some b)) c (λa w f s g=>⟨w.drawn,by
  simp[execOp,Instr.makeMap,newObj,Sem.run]⟩) e
class hX(P:Program)(t:TypeId)(places:outParam (List (Nat×Nat)))(zero:outParam (List Value)):Prop where
 h:∃fs:Array Field,P.underlying t=some (.struct fs)/\(∀w,(zeroValue t).run P w=.ok (.agg zero.toArray) w)/\∀w,(fs.mapM λf=>do pure (f.offset, <-sizeOf f.type):Sem _).run P w=.ok places.toArray w
def gA(places:List (Nat×Nat))(cells:List Value):List (Nat×Value)->Option (List Value)
 |[]=>some cells
 |(i,v)::r=>match places[i]? with
  |none=>none
  |some (off,size)=>match v with
   | .agg cs=>match Nat.beq cs.toList.length size&&Nat.ble (off+cs.toList.length) cells.length with
    |true=>gA places (cc cells off cs.toList) r
    |false=>none
   |v=>match Nat.beq 1 size&&Nat.ble (off+1) cells.length with
    |true=>gA places (cc cells off [v]) r
    |false=>none
theorem Kn(cs:List Value):∀(off:Nat) (vs:List Value) (k:Nat),off+k+cs.length<=vs.length->(cs.zipIdx k).foldl (λ(c:Array Value) x=>c.setIfInBounds (off+x.2) x.1) vs.toArray=(cc vs (off+k) cs).toArray:=by
 induction cs with
 |nil=>intro off vs k _;simp[x3]
 |cons c cs ih=>
  intro off vs k h
  simp only[aaq]at h
  rw[List.zipIdx_cons,List.foldl_cons,x1 (by omega)]
  simp only[List.setIfInBounds_toArray]
  rw[ih off _ (k+1) (by simp;omega),aam]
theorem qp{d:List (Nat×Nat)}:∀(parts:List (Nat×Value)) (cells:List Value) {out:List Value},gA d cells parts=some out->Instr.fill (d[·]?) cells.toArray parts=some out.toArray
 |[],cells,out,h=>by simp[gA]at h;simp[Instr.fill,h]
 |(i,v)::r,cells,out,h=>by
  simp only[gA]at h
  cases hp:d[i]? with
  |none=>simp[hp]at h
  |some os=>
   obtain⟨f,o⟩:=os
   simp only[hp]at h
   have j:∀a:List Value,v.cells=a.toArray->(Nat.beq a.length o&&Nat.ble (f+a.length) cells.length)=true->gA d (cc cells f a) r=some out->Instr.fill (d[·]?) cells.toArray ((i,v)::r)=some out.toArray:=by
    intro a g b m
    simp only[Bool.and_eq_true]at b
    have k:=aar b.1
    have p:=aaj b.2
    subst k
    have n:v.cells.size=a.length:=by rw[g];simp
    have l:=Kn a f cells 0 (by omega)
    have e:v.cells.zipIdx.foldl (λa x=>a.setIfInBounds (f+x.2) x.1) cells.toArray=(cc cells f a).toArray:=by
     rw[g, <-Array.foldl_toList,Array.toList_zipIdx];exact l
    simp only[Instr.fill,hp,n,ne_eq,not_true]
    rw[aaa (by simp;omega)]
    refine Eq.trans ?_ (qp r _ m)
    exact congrArg (λc=>Instr.fill (d[·]?) c r) e
   cases v with
   |agg a=>
    simp only at h
    split at h
    ·rename_i b;exact j a.toList (by simp[Value.cells]) b h
    ·cases h
   |_=>
    simp only at h
    split at h
    ·rename_i b;exact j [_] rfl b h
    ·cases h
theorem rS{p q:Nat->Option (Nat×Nat)}:∀(parts:List (Nat×Value)),(∀x∈parts,p x.1=q x.1)->∀cells,Instr.fill p cells parts=Instr.fill q cells parts
 |[],_,cells=>rfl
 |(i,v)::r,h,cells=>by
  have a:=h (i,v) (by simp)
  simp only at a
  simp only[Instr.fill,a]
  split
  ·rfl
  ·split
   ·rfl
   ·exact rS r (λx b=>h x (by simp[b])) _
theorem aP.build{H:aV}{t:TypeId}{b:List (Nat×Nat)}{zero out:List Value}{xs:List (Nat×Operand)}{parts:List (Nat×Value)} [e:hX P t b zero]
  (u:∀a,eW a env->xs.map (λp=>(p.1,a.eval p.2))=parts)(r:gA b zero parts=some out):aP P R env H (.build t xs.toArray) ty (.agg out.toArray):=λa w d v c g q s z=>by
 obtain⟨y,f,j,k⟩:=e.h
 have l:=qp parts zero r
 have m:xs.toArray.map (λx=>(x.1,a.eval x.2))=parts.toArray:=by rw[aay,u a q]
 have n:(execOp a.eval ⟨d,.build t xs.toArray,ty,v,c,g⟩)=(do pure (.value (<-Instr.build t parts.toArray))):=by
  show(do pure (Next.value (<-Instr.build t (xs.toArray.map λx:Nat×Operand=>(x.1,a.eval x.2)))))=_
  rw[m]
 have o:(λi:Nat=>b.toArray[i]?)=(λi:Nat=>b[i]?):=by funext i;simp
 rw[n]
 simp only[Instr.build,Sem.run_bind,j,Result.andThen_ok,run_underlying f,k,Value.cells,o,l]
 rfl
def lI(env:Env):List (Nat×Operand)->Option (List (Nat×Value))
 |[]=>some []
 |(i,x)::r=>match ev env x,lI env r with
  |some v,some vs=>some ((i,v)::vs)
  |_,_=>none
theorem eW.qm{a:Act}{env:Env}(h:eW a env):∀{xs:List (Nat×Operand)} {vs:List (Nat×Value)},lI env xs=some vs->xs.map (λp=>(p.1,a.eval p.2))=vs
 |[],vs,hx=>by simp[lI]at hx;simp[hx]
 |(i,x)::r,vs,hx=>by
  simp only[lI]at hx
  split at hx
  ·rename_i v d b c
   simp only[aai]at hx
   subst hx
   simp[h.eval b,h.qm c]
  ·cases hx
theorem aP.dI{H:aV}{t:TypeId}{b:List (Nat×Nat)}{zero out:List Value}{xs:List (Nat×Operand)}{parts:List (Nat×Value)} [f:hX P t b zero]
  (e:lI env xs=some parts:=by rfl)(d:gA b zero parts=some out:=by rfl):aP P R env H (.build t xs.toArray) ty (.agg out.toArray):=
 aP.build (λa c=>c.qm e) d
theorem aG.buildSlice{d:Nat}{T E:TypeId}{n k:Nat}{z:Value}{zs out:List Value}{xs:List (Nat×Operand)}{parts:List (Nat×Value)} [ut:bP P T (.slice E)] [sz:Sz P E k] [F:Zr P E z]
  (B:Nat.ble (n*k) (2^24)=true)(c:Nat.beq (n*k) 0=false)(D:((Array.range (n*k)).map (z.cells[· % z.cells.size]!))=zs.toArray)(C:lI env xs=some parts)
  (t:gA ((List.range n).map λi=>(i*k,k)) zs parts=some out)
  (u:∀b,aG false P N R ops l ((d,.slice (some ⟨b,0,none⟩) n n)::env) ([(b,.cells out.toArray E (0,0))]::H) K)(r:Nat.blt d N=true:=by rfl)(y:parts.all (λp=>Nat.blt p.1 n)=true:=by rfl):
  aG false P N R ops (⟨some d,.buildSlice T n xs.toArray,ty,pos,af,none⟩::l) env H K:=
 aG.fresh (v:=λb=>.slice (some ⟨b,0,none⟩) n n) r (λa w q s G=>⟨w.drawn,by
  have f:xs.toArray.map (λx=>(x.1,a.eval x.2))=parts.toArray:=by rw[aay,q.qm C]
  have g:(execOp a.eval ⟨some d,.buildSlice T n xs.toArray,ty,pos,af,none⟩)=(do pure (.value (<-Instr.buildSlice T n parts.toArray))):=by
   show(do pure (Next.value (<-Instr.buildSlice T n (xs.toArray.map λx:Nat×Operand=>(x.1,a.eval x.2)))))=_
   rw[f]
  have j:Instr.fill (λi=>some (i*k,k)) zs.toArray parts=some out.toArray:=by
   rw[<-qp parts zs t]
   refine rS parts (λp A=>?_) zs.toArray
   have:p.1<n:=aaj (List.all_eq_true.1 y p A)
   simp[this]
  have m:¬n*k>2^24:=Nat.not_lt.2 (aaj B)
  have o:¬n*k=0:=λe=>by rw[e]at c;cases c
  rw[g]
  simp only[Instr.buildSlice,Sem.run_bind,run_underlying ut.h,Result.andThen_ok,sz.h,aaa m,aaa o,Sem.run_pure,F.h,D,j,mn]⟩) u
end
end
section
def ny:Nat->List Value->Env
 |_,[]=>[]
 |i,v::vs=>(i,v)::ny (i+1) vs
theorem Az{vs:List Value}:∀(i t:Nat) (v:Value),(ny i vs).get? t=some v->i<=t/\vs[t-i]? =some v:=by
 induction vs with
 |nil=>intro i t v h;cases h
 |cons u vs ih=>
  intro i t v h
  simp only[ny,Env.get?]at h
  split at h
  ·rename_i a
   have:=aar a
   subst this
   simp only[aai]at h
   simp[h]
  ·have:=ih (i+1) t v h
   have b:t-i=(t-(i+1))+1:=by omega
   exact⟨by omega,by rw[b];simpa using this.2⟩
def qP(tmps:Array Value)(rv:ResultVar):Sem Value:=match rv with
 | .tmp t=>pure (tmps.getD t undef)
 | .cell x t=>do loadVar t (<-asAddr (tmps.getD x undef))
theorem qH(a:Func)(b:Array Value):results a b=(do let vs<-a.results.mapM (qP b);pure (if h:vs.size=1 then vs[0]else .tuple vs)):=rfl
class RV(R:av)(H:aV)(env:Env)(P:Program)(rv:ResultVar)(v:outParam Value):Prop where
 h:∀(a:Act) (w:World),eW a env->Sat w H->RO w R H->(qP a.tmps rv).run P w=.ok v w
section
variable{P:Program}{N:Nat}{R:av}{env:Env}{H:aV}{Q:Exit->Env->aV->Prop}
theorem RV.tmp{t:Nat}{v:Value}(h:Env.get? env t=some v):RV R H env P (.tmp t) v:=⟨λa w b s c=>by
 have:=b t v h
 simp[qP,this]⟩
theorem RV.ey{x:Nat}{t:TypeId}{p:Value}{n:Nat}{vs:List Value}(j:Env.get? env x=some p) [c:dj P t true] [sz:Sz P t n] [rc:RC R H p vs](i:vs.length=n):RV R H env P (.cell x t) (.agg vs.toArray):=⟨λa w g s k=>by
 obtain⟨b,off,d,e⟩:=qE (P:=P) rc.h s k
 subst d;subst i
 have:=run_loadCellsFrom (P:=P) (w:=w) (b:=b) (off:=off) vs 0 #[] (by simpa using e)
 have f:=g x _ j
 simp[qP,f,asAddr,loadVar,c.h,sz.h,loadCells,this]⟩
def jM(P:Program)(R:av)(rs:List ResultVar)(env:Env)(H:aV)(v:Value):Prop:=
 ∀(a:Act) (w:World) (fn:Func),fn.results=rs.toArray->eW a env->Sat w H->RO w R H->(results fn a.tmps).run P w=.ok v w
theorem jM.none:jM P R [] env H (.tuple #[]):=λa w c b d s e=>by simp[results,b]
theorem jM.one{r:ResultVar}{v:Value}(h:RV R H env P r v):jM P R [r] env H v:=λa w e c b s d=>by
 have:=h.h a w b s d
 rw[qH,c]
 simp[this]
theorem jM.two{c d:ResultVar}{f g:Value}(k:RV R H env P c f)(l:RV R H env P d g):jM P R [c,d] env H (.tuple #[f,g]):=λa w n m b s e=>by
 have i:=k.h a w b s e
 have j:=l.h a w b s e
 rw[qH,m]
 simp[i,j]
theorem jM.three{d e f:ResultVar}{g i j:Value}(n:RV R H env P d g)(o:RV R H env P e i)(p:RV R H env P f j):jM P R [d,e,f] env H (.tuple #[g,i,j]):=λa w r q b s c=>by
 have k:=n.h a w b s c
 have l:=o.h a w b s c
 have m:=p.h a w b s c
 rw[qH,q]
 simp[k,l,m]
def pb(P:Program)(R:av)(rs:List ResultVar)(Post:Value->aV->Prop):Exit->Env->aV->Prop
 | .normal,env,H=>∃v H',jM P R rs env H v/\aT H H'/\Post v H'
 | .ret,env,H=>∃v H',jM P R rs env H v/\aT H H'/\Post v H'
 |_,_,_=>False
theorem Spec.body{f:FuncId}{d:Func}{c:Code}{b:List Value}{rs:List ResultVar}{Post:Value->aV->Prop}(x:P.funcs[f]? =some d)(u:d.body=some c)(p:d.results=rs.toArray)(z:d.ntmps=N)(r:Nat.ble b.length N=true)
  (h:bQ P N R c (ny 0 b) H (pb P R rs Post)):Spec P f b R H Post:=λw s A=>by
 refine calls_of_wp x u ?_
 have D:b.length<=N:=aaj r
 have q:St N R {tmps:=b.toArray++Array.replicate (d.ntmps-b.toArray.size) undef,defers:=[]} w (ny 0 b) H w H:=by
  refine⟨rfl,by simp[z];omega,λt v j=>?_,s,A,Frame.refl w H⟩
  have:=(Az 0 t v j).2
  simp only[Nat.sub_zero]at this
  have y:t<b.length:=by
   rcases Nat.lt_or_ge t b.length with h|h
   ·exact h
   ·rw[List.getElem?_eq_none h]at this;cases this
  rw[Array.getElem?_append_left (by simpa using y)]
  simpa using this
 refine h _ w H (λe C B o k g a=>?_) _ w q
 cases e with
 |normal=>obtain⟨v,m,j,i,n⟩:=g;exact⟨a.defers,v,j o k d p a.env a.sat a.ro,v,m,rfl,n,i.sat a.sat,a.fr.trans (i.frame k)⟩
 |ret=>obtain⟨v,m,j,i,n⟩:=g;exact⟨a.defers,v,j o k d p a.env a.sat a.ro,v,m,rfl,n,i.sat a.sat,a.fr.trans (i.frame k)⟩
 |exit id=>exact g.elim
 |goto l=>exact g.elim
 |panic ch=>exact g.elim
 |outgrown=>exact g.elim
theorem aD{y:Code}(h:bQ P N R y env H Q):kS P N R y Q .normal env H:=h
theorem aL{y:Code}(h:Q .ret env H):kS P N R y Q .ret env H:=h
theorem bD{y:Code}{id:Nat}(h:Q (.exit id) env H):kS P N R y Q (.exit id) env H:=h
theorem bz{id:Nat}(h:Q .normal env H):mE id Q .normal env H:=h
theorem br{id:Nat}(h:Q .ret env H):mE id Q .ret env H:=h
theorem bF{id:Nat}(h:Q .normal env H):mE id Q (.exit id) env H:=by simp only[mE,if_true];exact h
theorem jy{id a:Nat}(h:Q (.exit a) env H)(b:Nat.beq a id=false:=by rfl):mE id Q (.exit a) env H:=by
 have:¬a=id:=λe=>by subst e;rw[Nat.beq_refl]at b;cases b
 simp only[mE,aaa this];exact h
theorem dn{I:Env->aV->Prop}(h:Q .ret env H):oY I Q .ret env H:=h
theorem bH{I:Env->aV->Prop}{id:Nat}(h:Q (.exit id) env H):oY I Q (.exit id) env H:=h
theorem aR{rs:List ResultVar}{Post:Value->aV->Prop}{H':aV}(v:Value)(h:jM P R rs env H v)(a:aT H H')(b:Post v H'):pb P R rs Post .ret env H:=⟨v,H',h,a,b⟩
theorem eh{rs:List ResultVar}{Post:Value->aV->Prop}{H':aV}(v:Value)(h:jM P R rs env H v)(a:aT H H')(b:Post v H'):pb P R rs Post .normal env H:=⟨v,H',h,a,b⟩
theorem aT.none(H:aV):aT H []:=aT.pick [] H
theorem aT.one(is:List Nat)(H:aV):aT H [(take is H).flatten]:=⟨(rest is H).flatten,by simpa using my is H⟩
theorem Spec.dg{f:FuncId}{g:List Value}{H':aV}{Post:Value->aV->Prop}(h:H.flatten=H'.flatten)(s:Spec P f g R H' Post):Spec P f g R H Post:=λw q i=>by
 have k:Sat w H':=q.perm (by rw[h])
 have l:RO w R H':=λb o c=>⟨(i b o c).1,by rw[<-h];exact(i b o c).2⟩
 refine(s w k l).mono λe t ⟨v,j,m,d,r,a⟩=>⟨v,j,m,d,r,a.le,λb c n=>a.iK b c (by rw[<-h];exact n),λp d=>by rw[h];exact a.kL p d,a.os,a.output,a.tape⟩
end
end
section
variable{α β:Type}
def Row(c:Array Value)(off:Nat)(cs:List Value):Prop:=∀k,k<cs.length->c[off+k]? =cs[k]?
theorem jP{enc:α->List Value}{sz:Nat}:∀{xs:List α},(∀x∈xs,(enc x).length=sz)->(xs.flatMap enc).length=xs.length*sz
 |[],_=>by simp
 |x::xs,h=>by
  rw[aah,List.length_append,jP (λy a=>h y (by simp[a])),h x (by simp),aaq]
  rw[aab];omega
theorem oS{enc:α->List Value}{sz:Nat}:∀{xs:List α} {i:Nat} {x:α},(∀x∈xs,(enc x).length=sz)->xs[i]? =some x->∀j,j<sz->(xs.flatMap enc)[i*sz+j]? =(enc x)[j]?
 |[],i,x,_,h,j,_=>by simp at h
 |y::xs,0,x,hl,h,j,hj=>by
  simp only[List.getElem?_cons_zero,aai]at h
  subst h
  rw[aah,List.getElem?_append_left (by rw[hl y (by simp)];omega)]
  simp
 |y::xs,i+1,x,hl,h,j,hj=>by
  simp only[List.getElem?_cons_succ]at h
  have a:=hl y (by simp)
  rw[aah,List.getElem?_append_right (by rw[a,aab];omega),a,show(i+1)*sz+j-sz=i*sz+j by rw[aab];omega]
  exact oS (λz b=>hl z (by simp[b])) h j hj
theorem vy{enc:α->List Value}{sz:Nat}:∀{xs:List α} {i:Nat} {x x':α} {k:Nat} {cs:List Value},(∀x∈xs,(enc x).length=sz)->xs[i]? =some x->(enc x').length=sz->enc x'=cc (enc x) k cs->k+cs.length<=sz->
  (xs.set i x').flatMap enc=cc (xs.flatMap enc) (i*sz+k) cs
 |[],i,x,x',k,cs,_,h,_,_,_=>by simp at h
 |y::xs,0,x,x',k,cs,hl,h,hx',he,hk=>by
  simp only[List.getElem?_cons_zero,aai]at h
  subst h
  have a:=hl y (by simp)
  simp only[List.set_cons_zero,aah,he,iY,Nat.zero_mul,aax]
  rw[List.take_append_of_le_length (by omega),List.drop_append_of_le_length (by omega)]
  simp
 |y::xs,i+1,x,x',k,cs,hl,h,hx',he,hk=>by
  simp only[List.getElem?_cons_succ]at h
  have a:=hl y (by simp)
  have c:=vy (λz b=>hl z (by simp[b])) h hx' he hk
  simp only[List.set_cons_succ,aah,c,iY]
  rw[List.take_append,List.drop_append,a,List.take_of_length_le (l:=enc y) (by rw[a,aab];omega),List.drop_eq_nil_of_le (show(enc y).length<=_ by rw[a,aab];omega)]
  rw[show(i+1)*sz+k-sz=i*sz+k by rw[aab];omega,show(i+1)*sz+k+cs.length-sz=i*sz+k+cs.length by rw[aab];omega]
  simp
structure RS(R:av)(sz:Nat)(enc:α->List Value)(v:Value)(xs:List α):Prop where
 len:∀x∈xs,(enc x).length=sz
 one:∀x∈xs,∀u∈enc x,aw u=true
 h:∃p cap,v=.slice p xs.length cap/\xs.length<=cap/\cap<=maxLen/\(xs=[]\/∃b off c E fr,p=some ⟨b,off,none⟩/\R b (.cells c E fr)/\Row c off (xs.flatMap enc))
structure OS(E:TypeId)(sz:Nat)(enc:α->List Value)(v:Value)(xs:List α)(T:ax):Prop where
 len:∀x∈xs,(enc x).length=sz
 one:∀x∈xs,∀u∈enc x,aw u=true
 h:(v=.slice none 0 0/\xs=[]/\T=[])\/∃b off c cap,v=.slice (some ⟨b,off,none⟩) xs.length cap/\T=[(b,.cells c E (0,0))]/\xs.length<=cap/\cap<=maxLen/\off+cap*sz<=c.size/\Row c off (xs.flatMap enc)
theorem RS.mono{R R':av}{sz:Nat}{enc:α->List Value}{v:Value}{xs:List α}(h:RS R sz enc v xs)(m:∀b o,R b o->R' b o):RS R' sz enc v xs:=
 ⟨h.len,h.one,by
  obtain⟨p,a,i,j,k,l⟩:=h.h
  refine⟨p,a,i,j,k,l.imp id λ⟨b,n,c,E,d,e,f,g⟩=>⟨b,n,c,E,d,e,m _ _ f,g⟩⟩⟩
theorem RS.rx{R:av}{H:aV}{sz:Nat}{enc:α->List Value}{v:Value}{xs:List α}(h:RS R sz enc v xs):RS (Rx R H) sz enc v xs:=h.mono λ_ _=>.inl
theorem OS.rs{R:av}{E:TypeId}{sz:Nat}{enc:α->List Value}{v:Value}{xs:List α}{T:ax}(h:OS E sz enc v xs T)(i:∀p∈T,R p.1 p.2):RS R sz enc v xs:=
 ⟨h.len,h.one,by
  rcases h.h with⟨rfl,rfl,rfl⟩|⟨b,a,c,d,rfl,rfl,e,f,j,g⟩
  ·exact⟨none,0,rfl,aap _,Nat.zero_le _,.inl rfl⟩
  ·exact⟨some ⟨b,a,none⟩,d,rfl,e,f,.inr ⟨b,a,c,E,(0,0),rfl,i (b,_) (by simp),g⟩⟩⟩
class fm(H:aV)(T:ax)(upd:outParam (ax->aV)):Prop where h:∃H1 H2,H=H1++T::H2/\∀T',upd T'=H1++T'::H2
instance fm.there{H:aV}{T T0:ax}{upd:ax->aV} [h:fm H T upd]:fm (T0::H) T (λT'=>T0::upd T'):=
 ⟨let ⟨H1,H2,h1,h2⟩:=h.h;⟨T0::H1,H2,by rw[h1];rfl,λT'=>by rw[h2];rfl⟩⟩
instance fm.here{H:aV}{T:ax}:fm (T::H) T (λT'=>T'::H):=⟨⟨[],H,rfl,λ_=>rfl⟩⟩
theorem fm.mem{H:aV}{T:ax}{c:ax->aV}(h:fm H T c):∀p∈T,p∈H.flatten:=by
 obtain⟨d,e,a,_⟩:=h.h
 subst a
 intro p b;simp[b]
theorem OS.rx{R:av}{H:aV}{E:TypeId}{sz:Nat}{enc:α->List Value}{v:Value}{xs:List α}{T:ax}{b:ax->aV}(h:OS E sz enc v xs T) [s:fm H T b]:RS (Rx R H) sz enc v xs:=h.rs λp a=>.inr (s.mem p a)
theorem OS.nil{E:TypeId}{sz:Nat}{enc:α->List Value}:OS E sz enc (.slice none 0 0) ([]:List α) []:=⟨by simp,by simp,.inl ⟨rfl,rfl,rfl⟩⟩
theorem RS.aw{R:av}{sz:Nat}{enc:α->List Value}{v:Value}{xs:List α}(h:RS R sz enc v xs):One v:=⟨by obtain⟨p,b,a,_⟩:=h.h;rw[a];rfl⟩
theorem OS.aw{E:TypeId}{sz:Nat}{enc:α->List Value}{v:Value}{xs:List α}{T:ax}(h:OS E sz enc v xs T):One v:=⟨by
 rcases h.h with⟨a,_,_⟩|⟨b,e,c,d,a,_⟩<;>rw[a]<;>rfl⟩
theorem RS.le{R:av}{sz:Nat}{enc:α->List Value}{v:Value}{xs:List α}(h:RS R sz enc v xs):xs.length<=9223372036854775807:=by
 obtain⟨p,b,_,c,a,_⟩:=h.h
 unfold maxLen at a;omega
theorem OS.le{E:TypeId}{sz:Nat}{enc:α->List Value}{v:Value}{xs:List α}{T:ax}(h:OS E sz enc v xs T):xs.length<=9223372036854775807:=by
 rcases h.h with⟨_,a,_⟩|⟨b,f,c,e,_,_,a,d,_⟩
 ·subst a;simp
 ·unfold maxLen at d;omega
theorem RS.val{R:av}{sz:Nat}{enc:α->List Value}{v:Value}{xs:List α}(h:RS R sz enc v xs):∃p cap,v=.slice p xs.length cap:=let ⟨p,cap,h1,_⟩:=h.h;⟨p,cap,h1⟩
theorem RS.pc{R:av}{sz:Nat}{enc:α->List Value}{v:Value}{xs:List α}{i:Nat}{x:α}(h:RS R sz enc v xs)(a:xs[i]? =some x):PC R (eK v (i*sz)) (enc x):=by
 obtain⟨p,w,l,y,z,m⟩:=h.h
 have t:xs≠[]:=λe=>by subst e;simp at a
 obtain⟨b,u,c,E,d,rfl,f,g⟩:=m.resolve_left t
 subst l
 have s:=List.mem_of_getElem? a
 have A:=h.len x s
 refine⟨b,u+i*sz,c,E,d,?_,f,λj r=>?_⟩
 ·simp only[eK,Addr.add];split
  ·rename_i k;rw[k];rfl
  ·rfl
 ·have n:=oS h.len a j (by omega)
  have o:i*sz+j<(xs.flatMap enc).length:=by
   rw[jP h.len]
   have:i<xs.length:=(List.getElem?_eq_some_iff.1 a).1
   have:=Nat.mul_le_mul_right sz this
   rw[aab]at this;omega
  have q:=g _ o
  rw[aam,q,n,List.getElem?_eq_getElem r]
theorem OS.pc{E:TypeId}{sz:Nat}{enc:α->List Value}{v:Value}{xs:List α}{T:ax}{i:Nat}{x:α}(h:OS E sz enc v xs T)(b:xs[i]? =some x):PC (sg T) (eK v (i*sz)) (enc x):=
 (h.rs (R:=sg T) λp a=>a).pc b
section
variable{P:Program}{N:Nat}{R:av}{ops:Array Oper}{l:List Oper}{env:Env}{H:aV}{K:Env->aV->Prop}{ty:TypeId}{pos:String}{af:Array Edge}{m:Bool}
theorem aP.nM{x:Operand}{t e:TypeId}{p:Option Addr}{n cap:Nat}(c:ev env x=some (.slice p n cap)) [ut:bP P t (.slice e)]:aP P R env H (.call ⟨.builtin .len,#[x],#[t]⟩) ty (.int .i64 n):=λa w d i f g b _ _=>by
 simp[execOp,resolve,b.eval c,invoke,builtin,Builtin.len_,run_underlying ut.h,goInt]
theorem aP.dl{R':av}{x:Operand}{t e:TypeId}{sz:Nat}{enc:α->List Value}{v:Value}{xs:List α}(h:RS R' sz enc v xs)(b:ev env x=some v:=by rfl) [ut:bP P t (.slice e)]:aP P R env H (.call ⟨.builtin .len,#[x],#[t]⟩) ty (.int .i64 xs.length):=by
 obtain⟨p,c,a⟩:=h.val
 subst a
 exact aP.nM b
theorem aP.ec{x:Operand}{t e E:TypeId}{sz:Nat}{enc:α->List Value}{v:Value}{xs:List α}{T:ax}(h:OS E sz enc v xs T)(b:ev env x=some v:=by rfl) [ut:bP P t (.slice e)]:aP P R env H (.call ⟨.builtin .len,#[x],#[t]⟩) ty (.int .i64 xs.length):=
 aP.dl (h.rs (R:=sg T) λp a=>a) b
theorem MY{t e:TypeId}{sz n cap i:Nat}{a:Addr}{k:IntKind}{w:World} [ut:bP P t (.slice e)] [s:Sz P e sz](c:i<n):(Instr.indexAt t (.slice (some a) n cap) (.int k i)).run P w=.ok (eK (.slice (some a) n cap) (i*sz)) w:=by
 have b:(0:Int)<=i/\(i:Int)<n:=by omega
 simp[Instr.indexAt,asIntOf,run_underlying ut.h,b,s.h,eK,c]
theorem aP.cu{R':av}{x y:Operand}{t e:TypeId}{sz:Nat}{enc:α->List Value}{v:Value}{xs:List α}{k:IntKind}{j:Int}{z:α}(i:Nat)(h:RS R' sz enc v xs)(l:xs[i]? =some z)(u:ev env x=some v)(A:ev env y=some (.int k j))(q:j=(i:Int)) [ut:bP P t (.slice e)] [s:Sz P e sz]:
  aP P R env H (.indexAddr t x y) ty (eK v (i*sz)):=λa w d L B g f _ _=>by
 obtain⟨p,C,m,I,J,n⟩:=h.h
 have r:xs≠[]:=λe=>by subst e;simp at l
 obtain⟨b,K,c,E,D,rfl,F,G⟩:=n.resolve_left r
 subst m;subst q
 have o:i<xs.length:=(List.getElem?_eq_some_iff.1 l).1
 simp[execOp,f.eval u,f.eval A,MY (P:=P) (e:=e) (sz:=sz) o]
theorem aG.cu{d:Nat}{x y:Operand}{t e:TypeId}{sz:Nat}{enc:α->List Value}{v:Value}{xs:List α}{k:IntKind}{j:Int}{z:α}(i:Nat)(h:RS R sz enc v xs)(a:xs[i]? =some z) [ut:bP P t (.slice e)] [s:Sz P e sz]
  (f:PC R (eK v (i*sz)) (enc z)->aG m P N R ops l ((d,eK v (i*sz))::env) H K)(g:ev env x=some v:=by rfl)(n:ev env y=some (.int k j):=by rfl)(c:j=(i:Int):=by rfl)(b:Nat.blt d N=true:=by rfl):
  aG m P N R ops (⟨some d,.indexAddr t x y,ty,pos,af,none⟩::l) env H K:=
 aG.q (aP.cu i h a g n c) (f (h.pc a)) b
theorem aG.bb{d:Nat}{x y:Operand}{t e E:TypeId}{sz:Nat}{enc:α->List Value}{v:Value}{xs:List α}{T:ax}{k:IntKind}{j:Int}{z:α}(i:Nat)(h:OS E sz enc v xs T)(a:xs[i]? =some z) [ut:bP P t (.slice e)] [s:Sz P e sz]
  (f:PS T (eK v (i*sz)) (enc z)->aG m P N R ops l ((d,eK v (i*sz))::env) H K)(n:ev env x=some v:=by rfl)(o:ev env y=some (.int k j):=by rfl)(c:j=(i:Int):=by rfl)(b:Nat.blt d N=true:=by rfl):
  aG m P N R ops (⟨some d,.indexAddr t x y,ty,pos,af,none⟩::l) env H K:=
 aG.q (aP.cu i (h.rs (R:=sg T) λp g=>g) a n o c) (f ⟨h.pc a⟩) b
theorem run_sliceBound{x:Value}{y n:Nat}{k:IntKind}{a:BoundsCode}{w:World}(c:x=.int k n)(h:n<=y):(Instr.sliceBound x y a).run P w=.ok n w:=by
 subst c
 have b:(0:Int)<=n/\(n:Int)<=y:=by omega
 simp[Instr.sliceBound,asIntOf,b]
def fy(env:Env)(x:Option Operand)(dflt n:Nat):Prop:=match x with
 |none=>n=dflt
 |some o=>∃k,ev env o=some (.int k n)
theorem pd{t e:TypeId}{sz n cap lo d:Nat}{p:Option Addr}{xl g:Option Operand}{a:Act}{w:World}(m:eW a env) [ut:bP P t (.slice e)] [s:Sz P e sz](i:fy env xl 0 lo)(b:fy env g n d)(j:lo<=d)(l:d<=cap):
  (Instr.sliceAt t (.slice p n cap) (xl.map a.eval) (g.map a.eval) none).run P w=.ok (.slice (if cap=lo then p else p.map (·.add (lo*sz))) (d-lo) (cap-lo)) w:=by
 have c:∀{x:Operand} {k:IntKind} {y n:Nat} {code:BoundsCode},ev env x=some (.int k n)->n<=y->(Instr.sliceBound (a.eval x) y code).run P w=.ok n w:=λu r=>run_sliceBound (m.eval u) r
 unfold Instr.sliceAt
 simp only[Sem.run_bind,run_underlying ut.h,Result.andThen_ok]
 unfold Instr.slice
 simp only[Sem.run_bind,run_underlying ut.h,Result.andThen_ok]
 unfold Instr.sliceBounds
 cases xl with
 |none=>
  simp only[fy]at i
  subst i
  cases g with
  |none=>simp only[fy]at b;subst b;simp[s.h]
  |some o=>obtain⟨k,f⟩:=b;simp[s.h,c f l]
 |some o=>
  obtain⟨k,f⟩:=i
  cases g with
  |none=>simp only[fy]at b;subst b;simp[s.h,c f j]
  |some o'=>obtain⟨v,q⟩:=b;simp[s.h,c f j,c q l]
theorem Row.sub{c:Array Value}{off:Nat}{cs:List Value}(h:Row c off cs)(i n:Nat):Row c (off+i) ((cs.drop i).take n):=λk a=>by
 rw[aaB,List.length_drop]at a
 rw[List.getElem?_take_of_lt (by omega),List.getElem?_drop,aam]
 exact h (i+k) (by omega)
theorem vx{enc:α->List Value}{sz:Nat}:∀{xs:List α} (i:Nat),(∀x∈xs,(enc x).length=sz)->(xs.drop i).flatMap enc=(xs.flatMap enc).drop (i*sz)
 |[],i,_=>by simp
 |x::xs,0,_=>by simp
 |x::xs,i+1,h=>by
  have a:=h x (by simp)
  rw[List.drop_succ_cons,vx i (λy b=>h y (by simp[b])),aah,List.drop_append,a,List.drop_eq_nil_of_le (show(enc x).length<=_ by rw[a,aab];omega),aab]
  simp
theorem vz{enc:α->List Value}{sz:Nat}:∀{xs:List α} (i:Nat),(∀x∈xs,(enc x).length=sz)->(xs.take i).flatMap enc=(xs.flatMap enc).take (i*sz)
 |[],i,_=>by simp
 |x::xs,0,_=>by simp
 |x::xs,i+1,h=>by
  have a:=h x (by simp)
  rw[List.take_succ_cons,aah,vz i (λy b=>h y (by simp[b])),aah,List.take_append,a,List.take_of_length_le (l:=enc x) (by rw[a,aab];omega),aab]
  simp
theorem Row.piece{c:Array Value}{off sz:Nat}{enc:α->List Value}{xs:List α}(h:Row c off (xs.flatMap enc))(a:∀x∈xs,(enc x).length=sz)(lo n:Nat):Row c (off+lo*sz) (((xs.drop lo).take n).flatMap enc):=by
 rw[vz n (λx b=>a x (aao b)),vx lo a]
 exact h.sub _ _
theorem aP.jW{R':av}{x:Operand}{xl l:Option Operand}{t e:TypeId}{sz:Nat}{enc:α->List Value}{v:Value}{xs:List α}(lo f:Nat)(h:RS R' sz enc v xs) [ut:bP P t (.slice e)] [s:Sz P e sz](u:fy env xl 0 lo)(y:fy env l xs.length f)(z:lo<=f)(J:f<=xs.length)(i:ev env x=some v:=by rfl):
  ∃v',RS R' sz enc v' ((xs.drop lo).take (f-lo))/\aP P R env H (.slice t x xl l none) ty v':=by
 obtain⟨p,cap,o,G,I,q⟩:=h.h
 subst o
 have k:((xs.drop lo).take (f-lo)).length=f-lo:=by simp;omega
 refine⟨.slice (if cap=lo then p else p.map (·.add (lo*sz))) (f-lo) (cap-lo),⟨λx i=>h.len x (aao (aan i)),λx i=>h.one x (aao (aan i)),_,_,by rw[k],by rw[k];omega,by omega,?_⟩,?_⟩
 ·rcases q with rfl|⟨b,B,c,E,m,rfl,C,D⟩
  ·exact .inl (by simp)
  ·by_cases A:cap=lo
   ·left
    have:f-lo=0:=by omega
    rw[this];simp
   ·right
    refine⟨b,B+lo*sz,c,E,m,?_,C,D.piece h.len lo (f-lo)⟩
    rw[aaa A]
    simp only[Option.map_some,Addr.add]
    split
    ·rename_i r;rw[r];rfl
    ·rfl
 ·intro a w d K F g j _ _
  have:=pd (P:=P) (w:=w) (p:=p) (n:=xs.length) (cap:=cap) j u y z (by omega) (t:=t) (e:=e) (sz:=sz)
  simp only[execOp,j.eval i,Option.map_none]
  rw[Sem.run_bind,this]
  rfl
theorem aP.oc{x:Operand}{xl D:Option Operand}{t e E:TypeId}{sz:Nat}{enc:α->List Value}{v:Value}{xs:List α}{T:ax}(lo f:Nat)(h:OS E sz enc v xs T) [ut:bP P t (.slice e)] [s:Sz P e sz](u:fy env xl 0 lo)(y:fy env D xs.length f)(z:lo<=f)(A:f<=xs.length)(j:ev env x=some v:=by rfl):
  ∃v',OS E sz enc v' ((xs.drop lo).take (f-lo)) T/\aP P R env H (.slice t x xl D none) ty v':=by
 have B:=λx j=>h.len x (aao (aan (i:=f-lo) (l:=xs.drop lo) j))
 have C:=λx j=>h.one x (aao (aan (i:=f-lo) (l:=xs.drop lo) j))
 have q:((xs.drop lo).take (f-lo)).length=f-lo:=by simp;omega
 rcases h.h with⟨rfl,rfl,rfl⟩|⟨b,o,c,cap,rfl,rfl,O,Q,S,K⟩
 ·have I:lo=0:=by simp at A;omega
  have J:f=0:=by simpa using A
  subst I;subst J
  refine⟨.slice none 0 0,⟨B,C,.inl ⟨rfl,by simp,rfl⟩⟩,λa w d N F g m _ _=>?_⟩
  have:=pd (P:=P) (w:=w) (p:=none) (n:=0) (cap:=0) m u y z (by omega) (t:=t) (e:=e) (sz:=sz)
  simp only[execOp,m.eval j,Option.map_none]
  rw[Sem.run_bind,this]
  rfl
 ·refine⟨.slice (if cap=lo then some ⟨b,o,none⟩else(some (⟨b,o,none⟩:Addr)).map (·.add (lo*sz))) (f-lo) (cap-lo),⟨B,C,.inr ?_⟩,λa w d N F g m _ _=>?_⟩
  ·by_cases r:cap=lo
   ·have G:f-lo=0:=by omega
    refine⟨b,o,c,cap-lo,?_,rfl,by rw[q];omega,by omega,?_,?_⟩
    ·rw[q,aac r]
    ·rw[r,Nat.sub_self];simp;omega
    ·rw[G];intro k M;simp at M
   ·refine⟨b,o+lo*sz,c,cap-lo,?_,rfl,by rw[q];omega,by omega,?_,K.piece h.len lo (f-lo)⟩
    ·rw[q,aaa r]
     simp only[Option.map_some,Addr.add]
     split
     ·rename_i L;rw[L];rfl
     ·rfl
    ·have:(cap-lo)*sz=cap*sz-lo*sz:=Nat.sub_mul ..
     have U:lo*sz<=cap*sz:=Nat.mul_le_mul_right _ (by omega)
     omega
  ·have:=pd (P:=P) (w:=w) (p:=some ⟨b,o,none⟩) (n:=xs.length) (cap:=cap) m u y z (by omega) (t:=t) (e:=e) (sz:=sz)
   simp only[execOp,m.eval j,Option.map_none]
   rw[Sem.run_bind,this]
   rfl
end
end
section
set_option linter.unusedVariables false
theorem OS.congr{α β:Type}{E sz:Nat}{enc:α->List Value}{a:β->List Value}{v:Value}{xs:List α}{ys:List β}{T:ax}(h:OS E sz enc v xs T)(j:ys.map a=xs.map enc):OS E sz a v ys T:=by
 have l:ys.length=xs.length:=by simpa using congrArg List.length j
 have r:ys.flatMap a=xs.flatMap enc:=by rw[List.flatMap_def,List.flatMap_def,j]
 have m:∀y∈ys,∃x∈xs,a y=enc x:=λy f=>by
  have:a y∈xs.map enc:=j▸aak f
  obtain⟨x,d,e⟩:=aau.1 this
  exact⟨x,d,e.symm⟩
 refine⟨λy f=>?_,λy f=>?_,?_⟩
 ·obtain⟨x,d,e⟩:=m y f;rw[e];exact h.len x d
 ·obtain⟨x,d,e⟩:=m y f;rw[e];exact h.one x d
 ·rcases h.h with⟨g,i,k⟩|⟨b,s,c,n,g,i,k,o,p,q⟩
  ·exact .inl ⟨g,List.length_eq_zero_iff.1 (by rw[l,i];rfl),k⟩
  ·exact .inr ⟨b,s,c,n,by rw[l];exact g,i,by omega,o,p,by rw[r];exact q⟩
set_option linter.unusedSimpArgs false
def tx:List UInt8:=[65,66,67,68,69,70,71,72,73,74,75,76,77,78,79,80,81,82,83,84,85,86,87,88,89,90,97,98,99,100,101,102,103,104,105,106,107,108,109,110,111,112,113,114,115,116,117,118,119,120,121,122,48,49,50,51,52,53,54,55,56,57,45,95]
def cS(n:Nat):UInt8:=tx.getD (n % 64) 0
def dw:List UInt8->List UInt8
 |a::b::c::r=>cS (a.toNat/4)::cS (a.toNat % 4*16+b.toNat/16)::cS (b.toNat % 16*4+c.toNat/64)::cS c.toNat::dw r
 |[a,b]=>[cS (a.toNat/4),cS (a.toNat % 4*16+b.toNat/16),cS (b.toNat % 16*4)]
 |[a]=>[cS (a.toNat/4),cS (a.toNat % 4*16)]
 |[]=>[]
def emit(h n:Nat):List UInt8:=if 6<=n then cS (h/2^(n-6))::emit h (n-6)else []
termination_by n
def held(h:Nat)(c:UInt8):Nat:=(h*256+c.toNat) % 18446744073709551616
def jn(s:Nat×Nat×List UInt8)(c:UInt8):Nat×Nat×List UInt8:=(held s.1 c,(s.2.1+8) % 6,s.2.2++emit (held s.1 c) (s.2.1+8))
def nB(s:Nat×Nat×List UInt8):List UInt8:=s.2.2++if 0<s.2.1 then [cS (s.1*2^(6-s.2.1))]else []
theorem K0(n:Nat):cS (n % 64)=cS n:=by unfold cS;rw[Nat.mod_mod]
theorem iq{n m:Nat}(h:n % 64=m % 64):cS n=cS m:=by unfold cS;rw[h]
theorem oP{h n:Nat}(a:¬6<=n):emit h n=[]:=by rw[emit,aaa a]
theorem nu{h n:Nat}(a:6<=n):emit h n=cS (h/2^(n-6))::emit h (n-6):=by rw[emit,aac a]
theorem rN(h:Nat):emit h 8=[cS (h/4)]:=by rw[nu (by omega),oP (by omega)]
theorem uN(h:Nat):emit h 10=[cS (h/16)]:=by rw[nu (by omega),oP (by omega)]
theorem Aw(h:Nat):emit h 12=[cS (h/64),cS h]:=by rw[nu (by omega),nu (by omega),oP (by omega)];simp
theorem uR:∀(l:List UInt8) (h:Nat) (o:List UInt8),nB (l.foldl jn (h,0,o))=o++dw l
 |[],h,o=>by simp[nB,dw]
 |[a],h,o=>by
  have d:=a.toNat_lt
  simp only[List.foldl,jn,nB,aax,rN,dw,held]
  rw[aac (by decide),aad]
  congr 1
  rw[show(8 % 6:Nat)=2 from rfl,show(6-2:Nat)=4 from rfl]
  simp only[aas,aat]
  congr 1
  ·exact iq (by omega)
  ·congr 1;exact iq (by omega)
 |[a,b],h,o=>by
  have d:=a.toNat_lt
  have e:=b.toNat_lt
  simp only[List.foldl,jn,nB,aax,rN,dw,held,Nat.reduceAdd,Nat.reduceMod,uN]
  rw[aac (by decide),aad,aad]
  congr 1
  simp only[aas,aat,Nat.reduceSub]
  congr 1
  ·exact iq (by omega)
  ·congr 1
   ·exact iq (by omega)
   ·congr 1;exact iq (by omega)
 |a::b::c::r,h,o=>by
  have d:=a.toNat_lt
  have e:=b.toNat_lt
  have f:=c.toNat_lt
  simp only[List.foldl,jn,aax,rN,dw,Nat.reduceAdd,Nat.reduceMod,uN,Aw]
  rw[uR r,aad,aad,aad]
  congr 1
  simp only[aas,aat]
  congr 1
  ·exact iq (by unfold held;omega)
  ·congr 1
   ·exact iq (by unfold held;omega)
   ·congr 1
    ·exact iq (by unfold held;omega)
    ·congr 1
     exact iq (by unfold held;omega)
end
end Go.Proofs.YtkkmbiojicgobaaGreatDoor

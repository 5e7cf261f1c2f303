/- What the law 'SolveA' uses. No condition. -/
import Derived.Test.YtdljmchhecoakaaGreatKSolveAB
import Derived.Test.YtdljmchhecoakaaGreatKSolveAF
import Derived.Test.YtdljmchhecoakaaGreatKSolveAH
import Derived.Test.YtdljmchhecoakaaGreatKSolveAI
import Derived.Test.YtdljmchhecoakaaGreatKSolveAL
import Derived.Test.YtdljmchhecoakaaGreatKSolveAN
import Derived.Test.YtdljmchhecoakaaGreatKSolveAO
import Derived.Test.YtdljmchhecoakaaGreatKSolveAP
namespace Go.Proofs.YtdljmchhecoakaaGreat
open Tryz (prog)
set_option linter.unusedVariables false
set_option linter.unusedSimpArgs false
set_option maxRecDepth 4000
instance S9:fz prog 3 (λs:Int=>.int .i64 s):=fz.int vF yZ
abbrev kI(n:Int):Value:=.int .i64 n
structure CQ(x:XC)(R:aD)(ps:List aF)(va:Value)(k:bc)(ns:List Nd)(mp:Value)(ps1:List aF)(vp:Value)(Ta To:aB)(vL:Value)(L:List fA)(TL Tr:aB)(M:List (Int×Bool))(Tm:aB):Prop where
 eq:ps1.map aF.plain=(dj x.c.plain x.num x.sub k (ps.map aF.plain) ns).1
 at_:jg ps1 va Ta
 o:OS 95 8 aF.enc vp ps1 To
 gr:∃l,ps1=ps++l/\∀p∈l,p.is R
 le:OS 182 1 dZ vL L TL
 rows:∀q∈L,RS (sg Tr) 1 cW q.1 q.2
 ll:L.map (·.2)=(dj x.c.plain x.num x.sub k (ps.map aF.plain) ns).2
 ms:MS kI Value.bool mp M Tm
 AE:M.map (·.1)=(jO [] (dj x.c.plain x.num x.sub k (ps.map aF.plain) ns).2.flatten).map λn:Nat=>(n:Int)
theorem OT{β:Type}{M:List (Int×β)}{l:List Nat}(h:M.map (·.1)=l.map λn:Nat=>(n:Int))(y:β)(j:Nat):(dR (j:Int) y M).map (·.1)=(if j∈l then l else l++[j]).map λn:Nat=>(n:Int):=by
 by_cases c:j∈l
 ·rw[if_pos c, <-h]
  have b:(j:Int)∈M.map (·.1):=by rw[h];exact List.mem_map.2 ⟨j,c,rfl⟩
  clear h
  induction M with
  |nil=>simp at b
  |cons a M ih=>
   obtain⟨g,i⟩:=a
   rw[dR]
   split
   ·rename_i e;simp[e]
   ·rename_i e
    simp only[List.map_cons,List.mem_cons]at b⊢
    rw[ih (b.resolve_left e)]
 ·rw[if_neg c,mW (λb=>by
   rw[h]at b
   obtain⟨n,f,e⟩:=List.mem_map.1 b
   have k:(n:Int)=(j:Int):=e
   have d:n=j:=by omega
   exact c (d▸f)),List.map_append,List.map_append,h]
  rfl
theorem BU{α:Type}{l:List α}{i:Nat}{x:α}(h:l[i]? =some x):l.set i x=l:=by
 obtain⟨a,e⟩:=List.getElem?_eq_some_iff.1 h
 rw[<-e]
 exact List.set_getElem_self a
theorem OS.yg{α:Type}{E sz:Nat}{enc:α->List Value}{v:Value}{xs:List α}{T:aB}{i:Nat}{z:α}(h:OS E sz enc v xs T)(d:xs[i]? =some z):∃a,eC v (i*sz)=.pointer (some a):=by
 rcases h.h with⟨_,rfl,_⟩|⟨b,f,c,e,rfl,_⟩
 ·simp at d
 ·exact⟨_,rfl⟩
theorem PO{a b:List bQ}(h:a.map (·.k)=b.map (·.k))(k:bc):fg a k=fg b k:=by
 have c:∀l:List bQ,fg l k=(l.map (·.k)).findIdx? λy=>decide (y=k):=λl=>by
  unfold fg
  rw[List.findIdx?_map]
  rfl
 rw[c,c,h]
theorem Rj{ps:List aF}{i:Nat}{p q:aF}(a:ps[i]? =some p)(b:q.k=p.k):((ps.set i q).map aF.plain).map (·.k)=(ps.map aF.plain).map (·.k):=by
 rw[List.map_map,List.map_map]
 refine List.ext_getElem? λj=>?_
 rw[List.getElem?_map,List.getElem?_map,List.getElem?_set]
 split
 ·rename_i e
  subst e
  rw[if_pos (List.getElem?_eq_some_iff.1 a).1,a]
  show some q.k=some p.k
  rw[b]
 ·rfl
theorem jg.set{ps:List aF}{i:Nat}{p q:aF}{va:Value}{T:aB}(h:jg ps va T)(d:ps[i]? =some p)(c:q.k=p.k):jg (ps.set i q) va T:=by
 obtain⟨M,b,a⟩:=h
 exact⟨M,b,λk=>by rw[a];exact PO (Rj d c).symm k⟩
def uQ(x:XC)(Rc:aD)(xb:Nat)(ps:List aF)(e:Nat)(va:Value)(i:Nat)(p:aF)(H':aV):Prop:=∃vp Ta To TL Tr Tu l q,
 H'=[x.iW xb va vp (e+(eJ x.c.plain x.num x.sub (ps.map aF.plain) i).2),Ta,To,TL,Tr,Tu]/\(∀p∈l,aF.is Rc p)/\((ps++l).set i q).map aF.plain=(eJ x.c.plain x.num x.sub (ps.map aF.plain) i).1/\jg ((ps++l).set i q) va Ta/\OS 95 8 aF.enc vp ((ps++l).set i q) To/\
 (q=p\/q.vn=p.vn/\q.nodes=p.nodes/\RS (sg Tu) 1 hZ q.vu q.gQ/\RS (sg TL) 1 dZ q.vl q.ll/\∀y∈q.ll,RS (sg Tr) 1 cW y.1 y.2)
theorem Pw(x:XC)(A R:aD)(b5:∀b o,A b o->R b o)(h:x.ok A)(xb:Nat)(ps:List aF)(e:Nat)(va w:Value)(B C:aB)(hA:jg ps va B)(W:OS 95 8 aF.enc w ps C)(i:Nat)(p:aF)(v:ps[i]? =some p)(hn:RS R 5 Nd.enc p.vn p.nodes)(a3:p.plain=one x.c.plain x.num p.k)(f1:p.nodes.length<=1000000)
  (hl:(eJ x.c.plain x.num x.sub (ps.map aF.plain) i).1.length<=3000000)(he:e<=1000000000000):
  Spec prog 85 [pT xb,iN i] R [x.iW xb va w e,B,C] λ_ H'=>uQ x A xb ps e va i p H':=by
 have f5:=Cn x
 have e8:=Ow x A h xb
 have i1:One x.c.vs:=RS.ap h.c.ss
 have i2:One x.c.vc:=RS.ap h.c.sc
 have i3:=h.n.one
 obtain⟨M0,d8,_⟩:=id hA
 have h4:=d8.one
 have h5:=W.ap
 have f3:=aZ v
 have f8:bZ p.enc:=⟨W.one p f3⟩
 have a5:(ps.map aF.plain)[i]? =some p.plain:=by rw[List.getElem?_map,v];rfl
 have e3:=(List.getElem?_eq_some_iff.1 v).1
 have b6:∀H',uQ x A xb ps e va i p H'↔∃w B C V I J l q,
  H'=[x.iW xb va w (e+(eJ x.c.plain x.num x.sub (ps.map aF.plain) i).2),B,C,V,I,J]/\(∀p∈l,aF.is A p)/\((ps++l).set i q).map aF.plain=(eJ x.c.plain x.num x.sub (ps.map aF.plain) i).1/\jg ((ps++l).set i q) va B/\OS 95 8 aF.enc w ((ps++l).set i q) C/\
  (q=p\/q.vn=p.vn/\q.nodes=p.nodes/\RS (sg J) 1 hZ q.vu q.gQ/\RS (sg V) 1 dZ q.vl q.ll/\∀y∈q.ll,RS (sg I) 1 cW y.1 y.2):=λ_=>Iff.rfl
 have Y:=A0 (c:=x.c.plain) (num:=x.num) (sub:=x.sub) a5
 have a4:=Pv (c:=x.c.plain) (num:=x.num) (sub:=x.sub) a5 a3
 have e7:=hn.le
 obtain⟨k,f,vn,d,T,S,t,s,g⟩:=p
 have f2:aF.plain ⟨k,f,vn,d,T,S,t,s,g⟩=⟨k,f,d,g,S,s.map (·.2)⟩:=rfl
 rw[f2]at Y a4 a5 a3
 simp only at Y a4 hn a3 e7 f1
 have c0:=λj=>xV (c:=x.c.plain) (num:=x.num) (sub:=x.sub) k d j (ps.map aF.plain)
 have g5:=C2 (c:=x.c.plain) (num:=x.num) (sub:=x.sub) k d (ps.map aF.plain)
 have e9:=sG (c:=x.c.plain) (num:=x.num) (sub:=x.sub) k d (ps.map aF.plain)
 have f7:=λ(j:Nat) (n:Nd) (hj:d[j]? =some n)=>xX (c:=x.c.plain) (num:=x.num) (sub:=x.sub) hj k (ps.map aF.plain)
 have g7:=λj=>sG (c:=x.c.plain) (num:=x.num) (sub:=x.sub) k (d.take j) (ps.map aF.plain)
 have b9:(dj x.c.plain x.num x.sub k (ps.map aF.plain) d).1.length<=3000000:=by
  rw[Y]at hl
  rwa [List.length_set]at hl
 refine Spec.body Tryz.func85 rfl Tryz.results85 Tryz.ntmps85 rfl ?_
 refine .sr<|.mo rfl<|.nc rfl<|.fa rfl<|.fa rfl<|.lo rfl<|.mo rfl ?_
 refine .bo i W v (λh6=>?_)
 refine .q (.aL rfl) ?_
 refine .bN (λb4=>?_)
 refine .bH rfl rfl<|.zs<|.sr<|.fa rfl<|.lo rfl<|.q .not<|.zn ?_
 refine .cond rfl (λh1=>?_) λh1=>?_
 have hf:f=false:=by simpa using h1
 have c4:=a4 hf
 refine .ret (aI (bk _ .none (aW.AN.trans (aH [4,4,4,0,0,0])) ?_))
 ·refine(b6 _).2 ⟨w,B,C,[],[],[],[],⟨k,f,vn,d,T,S,t,s,g⟩,?_,λq hq=>(by cases hq),?_,?_,?_,.inl rfl⟩
  ·rw[c4];simp[take,bL]
  ·rw[c4,List.append_nil]
   rw[BU v]
  ·rw[List.append_nil];exact hA.set v rfl
  ·rw[List.append_nil]
   rw[BU v];exact W
 have hf:f=true:=by simpa using h1
 refine .kn<|.sr<|.mo rfl<|.fa rfl<|.q (.loadT rfl) ?_
 refine .fa rfl<|.lo rfl ?_
 refine .call [] (f5 _ (h.mono λb o F=>.inl (b5 b o F)) xb va w e (pc:=PC.of (E:=190) (fr:=(0,0)) (.inr (by simp[rest]))) k) (λu H' O=>?_)
 obtain⟨J,Ts,rfl,U,ws,rfl,b3,e1⟩:=O
 have c7:=b3.ap
 have h0:=e1.ap
 conv=>arg 8;simp only[rest,bL,List.cons_append,List.nil_append]
 refine .mo rfl<|.q .extract<|.q .extract<|.ag rfl<|.ag rfl<|.z<|.ag rfl<|.z ?_
 refine .makeMap (λa1=>?_)
 refine .ag rfl<|.zs<|.sr<|.fa rfl<|.lo rfl<|.q (.bJ hn) ?_
 refine .mo rfl<|.zn<|.block ?_
 refine .cx [(0,_),(1,_),(4,_),(5,_),(8,_),(36,_),(37,_)] (X:=Nat×List aF×Value×aB×aB×Value×List fA×aB×aB×List (Int×Bool)×aB) (λy=>y.1<=d.length/\CQ x A ps va k (d.take y.1) (.map (some a1)) y.2.1 y.2.2.1 y.2.2.2.1 y.2.2.2.2.1 y.2.2.2.2.2.1 y.2.2.2.2.2.2.1 y.2.2.2.2.2.2.2.1 y.2.2.2.2.2.2.2.2.1 y.2.2.2.2.2.2.2.2.2.1 y.2.2.2.2.2.2.2.2.2.2) (λy E=>(38,iN y.1)::(7,y.2.2.2.2.2.1)::E) (G:=[J,bl b4 (aF.enc ⟨k,f,vn,d,T,S,t,s,g⟩) 95]) (λy G=>x.iW xb va y.2.2.1 e::y.2.2.2.1::y.2.2.2.2.1::y.2.2.2.2.2.2.2.1::y.2.2.2.2.2.2.2.2.1::y.2.2.2.2.2.2.2.2.2.2::G) (λy=>d.length-y.1) (0,ps,w,B,C,sZ,[],[],[],[],[(a1,.map #[] 0)]) ⟨Nat.zero_le _,⟨rfl,hA,W,⟨[],by simp,λq hq=>(by cases hq)⟩,OS.nil,λq hq=>(by cases hq),rfl,MS.nil,rfl⟩⟩ kE.c.c.c.c.c.c.c.c.c (aW.ja.trans (aH [6,6,6,0,0,0,0,1])) ?_
 rintro⟨j,Q,c9,a7,d2,vL,L,V,I,M,Tm⟩ ⟨hj,a⟩
 simp only at hj a⊢
 have c8:=a.le.ap
 have g9:=a.o.ap
 have g3:L.length<=j:=by
  have h9:=congrArg List.length a.ll
  have h8:=(sF (c:=x.c.plain) (num:=x.num) (sub:=x.sub) k (d.take j) (ps.map aF.plain)).1
  rw[List.length_map]at h9
  rw[List.length_take]at h8
  omega
 have g1:Q.length=(dj x.c.plain x.num x.sub k (ps.map aF.plain) (d.take j)).1.length:=by rw[<-a.eq,List.length_map]
 have g6:=c0 j
 refine .sr<|.q .lss<|.zs ?_
 refine .cond rfl (λh2=>?_) λh2=>?_
 have b7:j<d.length:=cr h2
 obtain⟨n,c3⟩:=bR b7
 have a0:=f7 j n c3
 have c1:=c0 (j+1)
 have e6:(dq x.c.plain x.num (Q.map aF.plain) (ej x.c.plain x.sub k n)).1.length<=3000000:=by
  rw[a.eq]
  rw[a0]at c1
  exact Nat.le_trans c1 b9
 refine .kn<|.seq<|.block<|.sr ?_
 refine .bC j hn c3 (λh7=>?_)
 refine .q (.aL rfl) ?_
 refine .bN (λd3=>?_)
 refine .bH rfl rfl<|.z<|.mo rfl<|.q (.aL rfl)<|.q (.aL rfl) ?_
 refine .call [1,1,1] ((e8 Q e va c9 a7 d2 a.at_ a.o k [.bool f,vn,T,t,iN g] n (ie:=⟨λu O=>f8.h u (by simp only[aF.enc];simp only[List.mem_cons,List.not_mem_nil,or_false]at O⊢;simp[O])⟩) e6 rfl).weaken λb o F=>.inl (b5 b o F)) (λu H' O=>?_)
 obtain⟨f9,d0,a8,b0,Tl,rfl,D⟩:=O
 have iu:=D.l.ap
 have N:=D.l
 have g2:=D.len
 conv=>arg 8;simp only[rest,bL,List.cons_append,List.nil_append]
 obtain⟨r,a6⟩:∃r,r=(dq x.c.plain x.num (Q.map aF.plain) (ej x.c.plain x.sub k n)).2:=⟨_,rfl⟩
 rw[<-a6]at N
 have g8:=N.le
 refine .ag rfl<|.zs<|.sr<|.mo rfl<|.q (.dN N) ?_
 refine .mo rfl<|.zn<|.block ?_
 refine .cx [(0,_),(1,_),(4,_),(5,_),(7,_),(8,_),(11,_),(36,_),(37,_),(38,_),(46,_),(47,_)] (X:=Nat×List (Int×Bool)×aB) (λy=>y.1<=r.length/\MS kI Value.bool (.map (some a1)) y.2.1 y.2.2/\y.2.1.map (·.1)=(jO (jO [] (dj x.c.plain x.num x.sub k (ps.map aF.plain) (d.take j)).2.flatten) (r.take y.1)).map λn:Nat=>(n:Int)) (λy E=>(48,iN y.1)::E) (G:=[Tl,x.iW xb va d0 e,a8,b0,bl d3 n.enc 199,V,I,J,bl b4 (aF.enc ⟨k,f,vn,d,T,S,t,s,g⟩) 95]) (λy G=>y.2.2::G) (λy=>r.length-y.1) (0,M,Tm) ⟨Nat.zero_le _,a.ms,a.AE⟩ kE.c.c.c.c.c.c.c.c.c.c.c.c.c (aH [7,0,0,0,0,0,0,0,0,0]) ?_
 rintro⟨m,M2,d1⟩ ⟨hm,a2,Z⟩
 simp only at hm a2 Z⊢
 refine .sr<|.q .lss<|.zs ?_
 refine .cond rfl (λh3=>?_) λh3=>?_
 have c2:m<r.length:=cr h3
 obtain⟨to,c5⟩:=bR c2
 have f6:=Rf c5 (jO [] (dj x.c.plain x.num x.sub k (ps.map aF.plain) (d.take j)).2.flatten)
 refine .kn<|.seq<|.block<|.sr ?_
 refine .bo m N c5 (λi0=>?_)
 refine .lo rfl<|.az rfl<|.region<|.mo rfl<|.mo rfl ?_
 refine .update (key:=(to:Int)) (u:=true) a2 rfl rfl rfl (λT2 d9 _=>?_)
 have b8:=OT Z true to
 rw[<-f6]at b8
 refine .nil<|bf<|ax<|.region ?_
 refine .ia (m+1) .add ?_
 refine .mo rfl<|.nil ?_
 ·exact aP (m+1,dR (to:Int) true M2,T2) ⟨c2,d9,b8⟩ (by simp only;omega) kE.c.c.c.c.c.c.c.c.c.c.c.c.c rH
 have f0:m=r.length:=by have:=bA h3;omega
 rw[f0,List.take_length]at Z
 obtain⟨pu,cu,rfl,_⟩:=N.shape
 refine .exit<|bq<|bz<|bs<|ax<|.region<|.mo rfl<|.mo rfl ?_
 refine .jT (λg0=>?_)
 refine .append a.le (RS.lits (xs:=[((.slice pu r.length cu,r):fA)]) rfl (by simp[dZ]) (by simp[dZ,ap])) (by simp only[List.length_singleton];omega) (λv5 T5 c6=>?_)
 have i5:=c6.ap
 refine .ag rfl<|.nil<|bf<|ax<|.region ?_
 refine .ia (j+1) .add ?_
 refine .mo rfl<|.nil ?_
 ·exact aP (j+1,f9,d0,a8,b0,v5,L++[(.slice pu r.length cu,r)],T5,Tl++I,M2,d1) ⟨b7,⟨by rw[a0,D.eq,a.eq],D.at_,D.o,by
   obtain⟨l1,d4,d5⟩:=a.gr
   obtain⟨l2,d6,d7⟩:=D.gr
   refine⟨l1++l2,by rw[d6,d4,List.append_assoc],λq hq=>?_⟩
   rcases List.mem_append.1 hq with hq|hq
   ·exact d5 q hq
   ·exact d7 q hq,c6,λq hq=>by
   rcases List.mem_append.1 hq with hq|hq
   ·exact(a.rows q hq).mono λb o F=>gE F
   ·rw[List.mem_singleton]at hq
    subst hq
    exact N.sg.mono λb o F=>iE F,by rw[a0,List.map_append,a.ll,a6,a.eq];rfl,a2,by rw[a0,List.flatten_append,rW,Z,a6,a.eq];simp⟩⟩ (by simp only;omega) kE.c.c.c.c.c.c.c.c.c ((aH [3,3,3,4,2,3,1,2,2]).trans (aW.ez (by simp[take,bL])))
 have e4:j=d.length:=by have:=bA h2;omega
 rw[e4,List.take_length]at a
 have K:Q[i]? =some ⟨k,f,vn,d,T,S,t,s,g⟩:=by
  obtain⟨l,H,_⟩:=a.gr
  rw[H,List.getElem?_append_left e3,v]
 obtain⟨a9,e2⟩:=a.o.yg K
 have b1:M.length=kO (dj x.c.plain x.num x.sub k (ps.map aF.plain) d).2.flatten:=by
  have:=congrArg List.length a.AE
  rw[List.length_map,List.length_map]at this
  exact this
 have g4:M.length<=3000000:=by
  rw[b1]
  refine Nat.le_trans (AL (n:=(dj x.c.plain x.num x.sub k (ps.map aF.plain) d).1.length) λy hy=>?_) b9
  obtain⟨l,H,hy⟩:=List.mem_flatten.1 hy
  exact e9 l H y hy
 refine .exit<|bq<|bz<|bs<|ax<|.seq<|.dp [16,19] mixed ?_
 refine .tO 0 rfl .move<|.tO 1 rfl (.nilCheck rfl)<|.tO 2 rfl (.fieldAddr rfl)<|.tO 3 rfl (.fieldAddr rfl)<|.tO 4 rfl (.cE rfl)<|.tO 5 rfl .move<|.tO 6 rfl .move<|.tO 7 rfl (.nilCheck rfl)<|.tO 8 rfl (.fieldAddr rfl)<|.tO 9 rfl (.fieldAddr rfl)<|.tO 10 rfl (.cE rfl)<|.tK 11 rfl .move<|.tO 12 rfl .move<|.tK 13 rfl .move ?_
 refine RA.bo 14 rfl i a.o K rfl rfl rfl (by kernel_rfl) (λi4=>?_)
 refine .tO 15 rfl (.fieldAddr rfl) ?_
 refine .sT 16 rfl ?_
 refine .pJ (k:=5) (cs:=[U]) (z':=(⟨k,f,vn,d,U,iH x.c.plain x.sub k,t,s,g⟩:aF)) i a.o K rfl rfl rfl (nK c7.h) rfl (by simpa using c7.h) rfl (by simp) (λTd e0=>?_)
 have f4:(Q.set i (⟨k,f,vn,d,U,iH x.c.plain x.sub k,t,s,g⟩:aF))[i]? =some ⟨k,f,vn,d,U,iH x.c.plain x.sub k,t,s,g⟩:=by rw[List.getElem?_set_self (List.getElem?_eq_some_iff.1 K).1]
 refine .nil (Next.mod rfl ?_)
 refine RA.bo 17 rfl i a.o K rfl rfl rfl (by kernel_rfl) (λi6=>?_)
 refine .tK 18 rfl (.eF rfl e2) ?_
 refine .sT 19 rfl ?_
 refine .pJ (k:=6) (cs:=[vL]) (z':=(⟨k,f,vn,d,U,iH x.c.plain x.sub k,vL,L,g⟩:aF)) i e0 f4 rfl rfl rfl (nK c8.h) rfl (by simpa using c8.h) rfl (by simp) (λTe b2=>?_)
 rw[List.set_set]at b2
 refine .nil (Next.mod rfl ?_)
 refine RA.nil (by kernel_rfl) ?_
 refine ax ?_
 refine .dU 11 mixed (by kernel_rfl) ?_
 conv=>arg 6;dsimp only[List.take]
 refine .mo rfl<|.nc rfl<|.fa rfl<|.fa rfl<|.lo rfl<|.mo rfl<|.q (.Al a.ms.rx rfl) ?_
 refine .ia (e+M.length) .add ?_
 refine .nc rfl<|.fa rfl<|.fa rfl<|.nil<|.dw rfl rfl<|.nil<|iT _ .none (aH [0,0,0,0,0,1]) ?_
 ·obtain⟨l,H,e5⟩:=a.gr
  refine(b6 _).2 ⟨c9,a7,Te,V,I,J,l,⟨k,f,vn,d,U,iH x.c.plain x.sub k,vL,L,g⟩,?_,e5,?_,?_,?_,.inr ⟨rfl,rfl,b3.sg,a.le.sg,a.rows⟩⟩
  ·rw[Y, <-b1];simp[take,bL];rfl
  ·rw[Y, <-H,List.map_set,a.eq]
   simp only[hf,if_true]
   rw[<-a.ll]
   rfl
  ·rw[<-H];exact a.at_.set K rfl
  ·rw[<-H];exact b2
def nz(R:aD)(out:List bQ×Nat×Int)(u:Value)(H':aV):Prop:=∃vp ps T,H'=[T]/\u=.tuple [.agg [vp,iN out.2.1].toArray,.int .i64 out.2.2].toArray/\RS (λb o=>R b o\/(b,o)∈T) 8 aF.enc vp ps/\(∀p∈ps,aF.is (λb o=>R b o\/(b,o)∈T) p)/\ps.map aF.plain=out.1
theorem wH{W:ByteArray->Bool}{F:ByteArray->ByteArray->Bool}{c:Cf}{num:List Nat}{k:bc}(b:c.right W F=true):(one c num k).nodes.length<=64:=by
 unfold one
 split
 ·simp
 ·rename_i i e
  simp only[List.getD_eq_getElem?_getD,List.getElem?_map]
  cases hy:c.all[i]? with
  |none=>simp
  |some y=>
   have a:=(nZ b y (aZ hy)).2
   unfold iZ at a
   simp only[Bool.or_eq_false_iff,decide_eq_false_iff_not]at a
   have d:=a.1.2
   simp only[Option.map_some,Option.getD_some]
   omega
theorem wK{c:Cf}{num:List Nat}{sub:bc->List Sub}{k:bc}{N i:Nat}(b:fk c num sub k N)(h:∀j,j<i->j<(opened c num sub k j).1.length):i<=N:=Nat.not_lt.1 λa=>by have:=h N a;have:=b.1;omega
theorem yF{R:aD}{hb:Nat}{vl:Value}{es:List ep}{b5:Nat}(hV:HV R hb vl es b5){g:Nat}{S:cZ}{c9:List RB}{vf vr:Value}{Mf:List (bc×(Value×aB))}{Mr:List (Sub×(Value×aB))}(hS:SV R g S c9 vf vr Mf Mr)
    {L:List bB}(hL:RL S L)(hl:S.rows.length<=512)(w:Int)(en:ep)(b6:kC es w=some en)(num:List Nat)(W:kB isWord di en.c.plain num)(f4:en.ll.map (·.2)=rows en.c.plain.bd num)(f0:b5<=1000000/\es.length<=1000000)(c3:∀e∈es,e.ll.length<=1000000/\∀q∈e.ll,q.2.length<=1000000)
    (k:bc)(b:Int)(g7:b<=9223372036854775807)(sub:bc->List Sub)(g0:sub=λk=>if scan S w then(L.filter λy=>y.there w&&decide (y.t.cQ=k)).map (·.t.sub)else [])
    (c4:∀i,(∀j,j<i->j<(opened en.c.plain num sub k j).1.length)->(opened en.c.plain num sub k i).1.length+(opened en.c.plain num sub k i).2<=1048576)(N:Nat)(hN:fk en.c.plain num sub k N):
    Spec prog 34 [pT hb,pT g,.int .u64 w,.agg [.string k.os,.string k.oi].toArray,.string k.rel,.int .i64 b] R [] (nz R (fq en.c.plain num sub k b (scan S w) N)):=by
  have e0:((kC es w).map λe=>e.c.plain).getD ⟨[],[]⟩=en.c.plain:=by rw[b6];rfl
  have b7:((kC es w).map λe=>e.ll.map (·.2)).getD []=rows en.c.plain.bd num:=by rw[b6];exact f4
  have K:∀out u H',nz R out u H'↔∃B s T,H'=[T]/\u=.tuple [.agg [B,iN out.2.1].toArray,.int .i64 out.2.2].toArray/\RS (λb o=>R b o\/(b,o)∈T) 8 aF.enc B s/\(∀p∈s,aF.is (λb o=>R b o\/(b,o)∈T) p)/\s.map aF.plain=out.1:=λ_ _ _=>Iff.rfl
  have r:fq en.c.plain num sub k b (scan S w) N=if b<1 then([],0,2)else if scan S w=false then([],0,12)
    else if(((opened en.c.plain num sub k N).1.length+(opened en.c.plain num sub k N).2:Nat):Int)<=b then((opened en.c.plain num sub k N).1,(opened en.c.plain num sub k N).2,0)else([],0,16):=rfl
  generalize g8:en.c.plain=cp at *
  refine Spec.body Tryz.func34 rfl Tryz.results34 Tryz.ntmps34 rfl ?_
  refine .sr ?_
  refine .bW rfl (λb9=>?_)
  refine .bN (λb4=>?_)
  refine .ag rfl<|.z<|.mo rfl<|.fa rfl<|.lo rfl<|.fa rfl<|.lo rfl<|.mo rfl ?_
  refine .q .cN ?_
  refine .mo rfl ?_
  refine .cK ((Qa hS (by omega) ⟨k.os,k.oi,k.rel,⟨#[]⟩,⟨#[]⟩,⟨#[]⟩,⟨#[]⟩⟩ w).weaken cU) (λu g5 a=>?_)
  obtain⟨wr,ys,rfl,d9,_⟩:=a
  have i4:=d9.ap
  refine .mo rfl<|.q .extract<|.q .extract<|.ag rfl<|.ag rfl<|.zs<|.block<|.sr<|.mo rfl ?_
  refine .ba ((HV.made hV).weaken cU) (λu a=>?_)
  subst a
  refine .q .not<|.mo rfl ?_
  refine .split (t:=36) rfl (λa5=>?_) (λa5=>?_)
  ·simp at a5
  refine .gT a5<|.mo rfl<|.gT a5<|.q .bK<|.q (.aN a5) ?_
  refine .az rfl ?_
  refine .cond rfl (λh1=>?_) λh1=>?_
  ·cases J:scan S w<;>simp[J]at h1
  refine .sr<|.mo rfl<|.q .lss<|.az rfl ?_
  refine .cond rfl (λh2=>?_) λh2=>?_
  have a2:b<1:=cm h2
  refine .sr ?_
  refine .q .cN ?_
  refine .bH rfl rfl<|.az rfl ?_
  refine .ret (bp (aI (bk _ (.two (.eI rfl rfl) (.tmp rfl)) (aW.one [] _) ?_)))
  ·exact(K _ _ _).2 ⟨_,[],_,rfl,by rw[r,if_pos a2];rfl,RS.gL,λp f=>(by cases f),by rw[r,if_pos a2];rfl⟩
  have a2:¬b<1:=bA h2
  refine .sr<|.mo rfl<|.q .dS<|.az rfl ?_
  refine .cond rfl (λh3=>?_) λh3=>?_
  have J:scan S w=false:=by
    cases J:scan S w with
    |false=>rfl
    |true=>simp[J]at h3
  refine .sr ?_
  refine .q .cN ?_
  refine .mo rfl<|.bH rfl rfl<|.az rfl ?_
  refine .ret (bp (aI (bk _ (.two (.eI rfl rfl) (.tmp rfl)) (aW.one [] _) ?_)))
  ·exact(K _ _ _).2 ⟨_,[],_,rfl,by rw[r,if_neg a2,if_pos J,J];rfl,RS.gL,λp f=>(by cases f),by rw[r,if_neg a2,if_pos J];rfl⟩
  have J:scan S w=true:=by
    cases J:scan S w with
    |true=>rfl
    |false=>simp[J]at h3
  rw[if_neg a2,if_neg (by rw[J];simp)]at r
  refine .skip<|bf<|ax<|.sr<|.mo rfl<|.mo rfl ?_
  refine .cK ((hV.at_ w f0).weaken cU) (λu Tc a=>?_)
  obtain⟨V,rfl,a0,v⟩:=a
  rw[e0]at v
  have i1:bZ V.enc:=⟨a0.cJ⟩
  have h7:One V.vs:=RS.ap a0.ss
  have i0:One V.vc:=RS.ap a0.sc
  refine .mo rfl<|.q .extract<|.q .extract ?_
  refine .bN (λg6=>?_)
  refine .bH rfl rfl<|.ag rfl<|.zs ?_
  refine bx.cL [(4,_),(9,_),(12,_)] kE.c.c.c (X:=Nat×Nat×Value×aB) (λy=>MS mx kX y.2.2.1 (mz cp num) y.2.2.2) (λy E=>(18,.pointer (some ⟨y.1,0,none⟩))::E) (λy=>[XC.iW ⟨V,num,y.2.2.1,g,S,L,w,b⟩ y.1 (.map (some y.2.1)) (sZ) 0,[(y.2.1,.map #[] 0)],[],[],Tc,y.2.2.2,bl b4 [sZ,.int .i64 0] 81,bl b9 [.string k.os,.string k.oi] 44]) ?_ ?_
  refine .dp [] mixed ?_
  refine .tO 0 rfl (.aL rfl)<|.tO 1 rfl (.aL rfl)<|.tO 2 rfl .move<|.tO 3 rfl .move<|.tO 6 rfl .move<|.tO 7 rfl .move<|.tO 9 rfl .move ?_
  refine RA.je 4 8 rfl rfl (by kernel_rfl) rfl ?_ ?_
  refine .cK ((hV.numbers w c3).weaken cU) (λu Tn a=>?_)
  obtain⟨ll,a1,a3⟩:=a
  rw[b7]at a3
  have g1:=a1.rs.ap
  refine .nil (Next.sub ?_)
  refine RA.je 5 8 rfl rfl (by kernel_rfl) rfl ?_ ?_
  refine .cK ((wF V (λb o=>(b,o)∈Tc\/(b,o)∈Tn) (a0.mono λb o hb=>.inl hb) (by rw[v];exact W.dY) _ ll num (a1.mono λb o hb=>.inr hb) (by rw[v];exact a3) (by rw[v];exact W.len)).weaken λb o hb=>.inr (by rcases hb with hb|hb<;>simp[hb])) (λu A a=>?_)
  obtain⟨mn,rfl⟩:∃m,u=.map (some m):=by obtain⟨b,_,_,h,_⟩:=a;exact⟨b,h⟩
  refine .nil (Next.sub ?_)
  refine .sT 8 rfl ?_
  refine .makeMap (λC=>?_)
  refine .nil (Next.sub ?_)
  refine .tO 10 rfl .cN ?_
  refine .sT 11 rfl ?_
  refine .bW rfl (λD=>?_)
  refine .nil (Next.sub ?_)
  refine .tO 12 rfl .assign ?_
  refine RA.nil (by kernel_rfl) ?_
  ·first
      |exact ay (D,C,_,A) (by rw[<-v];exact a) ((((kE.d rfl).d rfl).d rfl).d rfl) (aW.ja.trans (aH [2,2,0,0,3,0,3,3]))
      |exact ay (D,C,_,A) (by rw[<-v];exact a) ((((kE.d rfl).d rfl).d rfl).d rfl) (aW.ja.trans (aH [2,3,0,0,3,0,3,3]))
      |exact ay (D,C,_,A) (by rw[<-v];exact a) ((((kE.d rfl).d rfl).d rfl).d rfl) (aW.ja.trans (aH [2,4,0,0,3,0,3,3]))
  refine .makeMap (λC=>?_)
  refine .nil (Next.sub ?_)
  refine .sT 5 rfl ?_
  refine .cK ((wF V (λb o=>(b,o)∈Tc\/(b,o)∈Tn) (a0.mono λb o hb=>.inl hb) (by rw[v];exact W.dY) _ ll num (a1.mono λb o hb=>.inr hb) (by rw[v];exact a3) (by rw[v];exact W.len)).weaken λb o hb=>.inr (by rcases hb with hb|hb<;>simp[hb])) (λu A a=>?_)
  obtain⟨mn,rfl⟩:∃m,u=.map (some m):=by obtain⟨b,_,_,h,_⟩:=a;exact⟨b,h⟩
  refine .nil (Next.sub ?_)
  refine .tO 10 rfl .cN ?_
  refine .sT 11 rfl ?_
  refine .bW rfl (λD=>?_)
  refine .nil (Next.sub ?_)
  refine .tO 12 rfl .assign ?_
  refine RA.nil (by kernel_rfl) ?_
  ·first
      |exact ay (D,C,_,A) (by rw[<-v];exact a) ((((kE.d rfl).d rfl).d rfl).d rfl) (aW.ja.trans (aH [2,2,0,0,3,0,3,3]))
      |exact ay (D,C,_,A) (by rw[<-v];exact a) ((((kE.d rfl).d rfl).d rfl).d rfl) (aW.ja.trans (aH [2,3,0,0,3,0,3,3]))
      |exact ay (D,C,_,A) (by rw[<-v];exact a) ((((kE.d rfl).d rfl).d rfl).d rfl) (aW.ja.trans (aH [2,4,0,0,3,0,3,3]))
  refine .makeMap (λC=>?_)
  refine .nil (Next.sub ?_)
  refine .sT 4 rfl ?_
  refine .cK ((hV.numbers w c3).weaken cU) (λu Tn a=>?_)
  obtain⟨ll,a1,a3⟩:=a
  rw[b7]at a3
  have g1:=a1.rs.ap
  refine .nil (Next.sub ?_)
  refine .sT 5 rfl ?_
  refine .cK ((wF V (λb o=>(b,o)∈Tc\/(b,o)∈Tn) (a0.mono λb o hb=>.inl hb) (by rw[v];exact W.dY) _ ll num (a1.mono λb o hb=>.inr hb) (by rw[v];exact a3) (by rw[v];exact W.len)).weaken λb o hb=>.inr (by rcases hb with hb|hb<;>simp[hb])) (λu A a=>?_)
  obtain⟨mn,rfl⟩:∃m,u=.map (some m):=by obtain⟨b,_,_,h,_⟩:=a;exact⟨b,h⟩
  refine .nil (Next.sub ?_)
  refine .tO 10 rfl .cN ?_
  refine .sT 11 rfl ?_
  refine .bW rfl (λD=>?_)
  refine .nil (Next.sub ?_)
  refine .tO 12 rfl .assign ?_
  refine RA.nil (by kernel_rfl) ?_
  ·first
      |exact ay (D,C,_,A) (by rw[<-v];exact a) ((((kE.d rfl).d rfl).d rfl).d rfl) (aW.ja.trans (aH [2,2,0,0,3,0,3,3]))
      |exact ay (D,C,_,A) (by rw[<-v];exact a) ((((kE.d rfl).d rfl).d rfl).d rfl) (aW.ja.trans (aH [2,3,0,0,3,0,3,3]))
      |exact ay (D,C,_,A) (by rw[<-v];exact a) ((((kE.d rfl).d rfl).d rfl).d rfl) (aW.ja.trans (aH [2,4,0,0,3,0,3,3]))
  intro y hy
  obtain⟨xb,U,vn,A⟩:=y
  simp only at hy⊢
  obtain⟨x,a4⟩:∃x:XC,x=⟨V,num,vn,g,S,L,w,b⟩:=⟨_,rfl⟩
  have i3:=hy.one
  have c8:x.sub=sub:=by rw[g0,a4];rfl
  have a8:x.c.plain=cp:=by rw[a4];exact v
  have a9:x.num=num:=by rw[a4]
  have M:x.b=b:=by rw[a4]
  obtain⟨Rc,I⟩:∃Rc:aD,Rc=λb o=>R b o\/(b,o)∈Tc\/(b,o)∈A:=⟨_,rfl⟩
  have a6:x.ok Rc:=by
    rw[a4,I]
    exact⟨a0.mono λb o hb=>.inr (.inl hb),by simp only;rw[v];exact hy.rm λp f=>.inr (.inr f),by simp only;rw[v];exact W.len,⟨c9,vf,vr,Mf,Mr,hS.mono λb o hb=>.inl hb⟩,hL,hl⟩
  have f8:=Be x Rc a6 xb
  have f6:=λR h=>Pw x Rc R h a6 xb
  have b3:=λR h=>PD x R h xb
  rw[<-a4]
  refine ax<|.sr<|.mo rfl<|.q (.aL rfl)<|.mo rfl ?_
  refine .call [0,0,0] ((f8 [] 0 (.map (some U)) (sZ) [(U,.map #[] 0)] [] ⟨[],MS.nil,λk=>rfl⟩ OS.nil (by simp) k).weaken λb o hb=>by
    rw[I]at hb
    rcases hb with hb|hb|hb
    ·exact .inl hb
    ·exact .inr (by simp[rest,bL,hb])
    ·exact .inr (by simp[rest,bL,hb])) (λu H' a=>?_)
  obtain⟨d0,g3,d1,d3,rfl,rfl,e6,d5,d7,l1,c2,f7⟩:=a
  rw[List.nil_append]at c2
  subst c2
  conv=>arg 8;simp only[rest,bL,List.cons_append,List.nil_append]
  have h0:d0.map aF.plain=(opened cp num sub k 0).1:=by rw[e6,a8,a9];rfl
  refine .zs<|.sr<|.az rfl<|.block ?_
  refine .cx [(12,_),(18,_)] (X:=Nat×List aF×Value×aB×aB×aB) (λy=>(∀j,j<y.1->j<(opened cp num sub k j).1.length/\(((opened cp num sub k j).1.length+(opened cp num sub k j).2:Nat):Int)<=b)/\y.2.1.map aF.plain=(opened cp num sub k y.1).1/\jg y.2.1 (.map (some U)) y.2.2.2.1/\OS 95 8 aF.enc y.2.2.1 y.2.1 y.2.2.2.2.1/\∀q∈y.2.1,q.is λb o=>Rc b o\/(b,o)∈y.2.2.2.2.2) (λy E=>(19,iN y.1)::E) (G:=[Tc,A,bl b4 [sZ,.int .i64 0] 81,bl b9 [.string k.os,.string k.oi] 44]) (λy G=>x.iW xb (.map (some U)) y.2.2.1 (opened cp num sub k y.1).2::y.2.2.2.1::y.2.2.2.2.1::y.2.2.2.2.2::G) (λy=>N+1-y.1) (0,d0,g3,d1,d3,[]) ⟨λj hj=>(by omega),h0,d5,d7,λq hq=>(f7 q hq).mono λb o hb=>.inl hb⟩ kE.c.c.c rH ?_
  rintro⟨i,s,B,Ta,To,Tp⟩ ⟨hj,Q,hA,H,O⟩
  simp only at hj Q hA H O⊢
  have g2:=H.ap
  have i2:bZ (List.take 2 (List.drop 6 (x.cells (.map (some U)) B (opened cp num sub k i).2))):=⟨λu a=>by
    simp[XC.cells]at a
    rcases a with rfl|rfl
    ·exact g2.h
    ·rfl⟩
  have b0:∀j,j<i->j<(opened cp num sub k j).1.length:=λj Z=>(hj j Z).1
  have b8:=wK hN b0
  have g9:=c4 i b0
  have c7:s.length=(opened cp num sub k i).1.length:=by rw[<-Q,List.length_map]
  refine .seq<|.sr<|.mo rfl<|.mo rfl<|.nc rfl<|.fa rfl<|.fa rfl<|.lo rfl<|.q (.dN H) ?_
  refine .q .lss<|.mo rfl ?_
  refine .split (t:=80) rfl (λF=>?_) (λF=>?_)
  have c0:i<s.length:=by have:=cm F;omega
  refine .gT F<|.mo rfl<|.gT F ?_
  refine .ba (b3 _ (a6.mono λb o hb=>by
    rw[I]at hb
    rcases hb with hb|hb|hb
    ·exact .inl hb
    ·exact .inr (by simp[hb])
    ·exact .inr (by simp[hb])) (.map (some U)) B (opened cp num sub k i).2 s (pc:=PC.of (E:=190) (fr:=(0,0)) (.inr (by simp))) H.rx (by omega) (by rw[M];omega)) (λu a=>?_)
  subst a
  refine .gT F<|.q .not<|.q (.aO F) ?_
  refine .zn ?_
  refine .cond rfl (λh4=>?_) λh4=>?_
  have f2:(((opened cp num sub k i).1.length+(opened cp num sub k i).2:Nat):Int)<=b:=by
    have:¬x.b<(s.length+(opened cp num sub k i).2:Nat):=by simpa using h4
    rw[M]at this;omega
  obtain⟨p,f⟩:=bR c0
  have b1:p.plain=one x.c.plain x.num p.k:=by
    rw[a8,a9]
    exact wJ (c:=cp) (num:=num) (sub:=sub) (k:=k) i i p.plain (Nat.le_refl _) (by rw[<-Q,List.getElem?_map,f];rfl)
  have f3:p.nodes.length<=1000000:=by
    have Z:=wH (num:=num) (k:=p.k) W.right
    rw[a8,a9]at b1
    rw[<-b1]at Z
    exact Nat.le_trans Z (by omega)
  have c1:∀j,j<i+1->j<(opened cp num sub k j).1.length/\(((opened cp num sub k j).1.length+(opened cp num sub k j).2:Nat):Int)<=b:=λj Z=>by
    rcases Nat.lt_or_ge j i with h8|h8
    ·exact hj j h8
    ·obtain rfl:j=i:=by omega
     exact⟨by omega,f2⟩
  have h6:=c4 (i+1) λj Z=>(c1 j Z).1
  have c6:=A3 (c:=cp) (num:=num) (sub:=sub) (k:=k) i
  have c5:(eJ cp num sub (s.map aF.plain) i).1=(opened cp num sub k (i+1)).1:=by rw[c6,Q]
  have f5:(opened cp num sub k i).2+(eJ cp num sub (s.map aF.plain) i).2=(opened cp num sub k (i+1)).2:=by rw[c6,Q]
  refine .kn<|.seq<|.block<|.region<|.mo rfl<|.mo rfl ?_
  refine .call [0,0,0] (f6 _ (λb o hb=>by
    rw[I]at hb
    rcases hb with hb|hb|hb
    ·exact .inl hb
    ·exact .inr (by simp[rest,bL,hb])
    ·exact .inr (by simp[rest,bL,hb])) s (opened cp num sub k i).2 (.map (some U)) B Ta To hA H i p f ((O p (aZ f)).n.mono λb o hb=>by
    rw[I]at hb
    rcases hb with(hb|hb|hb)|hb
    ·exact .inl hb
    ·exact .inr (by simp[rest,bL,hb])
    ·exact .inr (by simp[rest,bL,hb])
    ·exact .inr (by simp[rest,bL,hb])) b1 f3 (by rw[a8,a9,c8,c5];omega) (by omega)) (λu H' a=>?_)
  rw[uQ,a8,a9,c8,c5,f5]at a
  obtain⟨g4,d2,d4,TL,Tr,Tu,l,q,rfl,f1,e7,d6,d8,f9⟩:=a
  conv=>arg 8;simp only[rest,bL,List.cons_append,List.nil_append]
  refine .nil<|bf<|ax<|.region<|.mo rfl ?_
  refine .ia (i+1) .add ?_
  refine .ag rfl<|.nil ?_
  ·exact aP (i+1,(s++l).set i q,g4,d2,d4,TL++(Tr++(Tu++Tp))) ⟨c1,e7,d6,d8,λz hz=>by
      rcases List.mem_or_eq_of_mem_set hz with hz|rfl
      ·rcases List.mem_append.1 hz with hz|hz
       ·exact(O z hz).mono λb o hb=>hb.imp id λhb=>List.mem_append_right _ (List.mem_append_right _ (List.mem_append_right _ hb))
       ·exact(f1 z hz).mono λb o hb=>.inl hb
      ·rcases f9 with rfl|⟨e1,e2,e3,e4,e5⟩
       ·exact(O _ (aZ f)).mono λb o hb=>hb.imp id λhb=>List.mem_append_right _ (List.mem_append_right _ (List.mem_append_right _ hb))
       ·refine⟨?_,e3.mono λb o hb=>.inr (List.mem_append_right _ (List.mem_append_right _ (List.mem_append_left _ hb))),e4.mono λb o hb=>.inr (List.mem_append_left _ hb),λy hy=>(e5 y hy).mono λb o hb=>.inr (List.mem_append_right _ (List.mem_append_left _ hb))⟩
        rw[e1,e2]
        exact(O p (aZ f)).n.mono λb o hb=>hb.imp id λhb=>List.mem_append_right _ (List.mem_append_right _ (List.mem_append_right _ hb))⟩ (by simp only;omega) kE.c.c.c (aW.ez (by simp[du]))
  refine .exit<|bq<|bz<|bs<|ax<|.seq<|.sr<|.mo rfl ?_
  refine .ba (b3 _ (a6.mono λb o hb=>by
    rw[I]at hb
    rcases hb with hb|hb|hb
    ·exact .inl hb
    ·exact .inr (by simp[hb])
    ·exact .inr (by simp[hb])) (.map (some U)) B (opened cp num sub k i).2 s (pc:=PC.of (E:=190) (fr:=(0,0)) (.inr (by simp))) H.rx (by omega) (by rw[M];omega)) (λu a=>?_)
  subst a
  refine .zn ?_
  refine .cond rfl (λY=>?_) λY=>?_
  have a7:b<(((opened cp num sub k i).1.length+(opened cp num sub k i).2:Nat):Int):=by
    have:x.b<(s.length+(opened cp num sub k i).2:Nat):=by simpa using Y
    rw[M]at this;omega
  obtain⟨e8,e9⟩:=tU (c:=cp) (num:=num) (sub:=sub) (k:=k) b8
  rw[if_neg (by omega)]at r
  refine .sr ?_
  refine .q .cN ?_
  refine .bH rfl rfl<|.az rfl ?_
  refine .ret (aI (bk _ (.two (.eI rfl rfl) (.tmp rfl)) (aW.one [2,2,2,2] _) ?_))
  ·first
      |exact(K _ _ _).2 ⟨_,[],_,rfl,by rw[r];rfl,RS.gL,λp f=>(by cases f),by rw[r];rfl⟩
      |exact(K _ _ _).2 ⟨B,s,_,rfl,by rw[r];rfl,H.rs λp f=>.inr (by simp[take,bL,f]),λp f=>(O p f).mono λb o hb=>(by
          rw[I]at hb
          rcases hb with(hb|hb|hb)|hb
          ·exact .inl hb
          ·exact .inr (by simp[take,bL,hb])
          ·exact .inr (by simp[take,bL,hb])
          ·exact .inr (by simp[take,bL,hb])),by rw[r];exact Q⟩
  have a7:(((opened cp num sub k i).1.length+(opened cp num sub k i).2:Nat):Int)<=b:=by
    have:¬x.b<(s.length+(opened cp num sub k i).2:Nat):=by simpa using Y
    rw[M]at this;omega
  have b2:i=N:=by
    refine fk.dY (c:=cp) (num:=num) (sub:=sub) (k:=k) ⟨?_,b0⟩ hN
    first
      |(rw[<-c7];omega)
      |(exfalso
        have:x.b<(s.length+(opened cp num sub k i).2:Nat):=by simpa using h4
        rw[M]at this
        omega)
  subst b2
  rw[if_pos a7]at r
  refine .kn<|.sr<|.mo rfl<|.nc rfl<|.fa rfl<|.q (.loadT rfl) ?_
  refine .bH rfl rfl<|.az rfl ?_
  refine .ret (bk _ (.two (.eI rfl rfl) (.tmp rfl)) (aW.one [2,2,2,2] _) ?_)
  ·first
      |exact(K _ _ _).2 ⟨_,[],_,rfl,by rw[r];rfl,RS.gL,λp f=>(by cases f),by rw[r];rfl⟩
      |exact(K _ _ _).2 ⟨B,s,_,rfl,by rw[r];rfl,H.rs λp f=>.inr (by simp[take,bL,f]),λp f=>(O p f).mono λb o hb=>(by
          rw[I]at hb
          rcases hb with(hb|hb|hb)|hb
          ·exact .inl hb
          ·exact .inr (by simp[take,bL,hb])
          ·exact .inr (by simp[take,bL,hb])
          ·exact .inr (by simp[take,bL,hb])),by rw[r];exact Q⟩
  have c0:¬i<s.length:=by have:=bA F;omega
  refine .gF F<|.gF F<|.gF F<|.q (.aN F) ?_
  refine .zn<|.cS<|.exit<|bq<|bz<|bs<|ax<|.seq<|.sr<|.mo rfl ?_
  refine .ba (b3 _ (a6.mono λb o hb=>by
    rw[I]at hb
    rcases hb with hb|hb|hb
    ·exact .inl hb
    ·exact .inr (by simp[hb])
    ·exact .inr (by simp[hb])) (.map (some U)) B (opened cp num sub k i).2 s (pc:=PC.of (E:=190) (fr:=(0,0)) (.inr (by simp))) H.rx (by omega) (by rw[M];omega)) (λu a=>?_)
  subst a
  refine .zn ?_
  refine .cond rfl (λY=>?_) λY=>?_
  have a7:b<(((opened cp num sub k i).1.length+(opened cp num sub k i).2:Nat):Int):=by
    have:x.b<(s.length+(opened cp num sub k i).2:Nat):=by simpa using Y
    rw[M]at this;omega
  obtain⟨e8,e9⟩:=tU (c:=cp) (num:=num) (sub:=sub) (k:=k) b8
  rw[if_neg (by omega)]at r
  refine .sr ?_
  refine .q .cN ?_
  refine .bH rfl rfl<|.az rfl ?_
  refine .ret (aI (bk _ (.two (.eI rfl rfl) (.tmp rfl)) (aW.one [2,2,2,2] _) ?_))
  ·first
      |exact(K _ _ _).2 ⟨_,[],_,rfl,by rw[r];rfl,RS.gL,λp f=>(by cases f),by rw[r];rfl⟩
      |exact(K _ _ _).2 ⟨B,s,_,rfl,by rw[r];rfl,H.rs λp f=>.inr (by simp[take,bL,f]),λp f=>(O p f).mono λb o hb=>(by
          rw[I]at hb
          rcases hb with(hb|hb|hb)|hb
          ·exact .inl hb
          ·exact .inr (by simp[take,bL,hb])
          ·exact .inr (by simp[take,bL,hb])
          ·exact .inr (by simp[take,bL,hb])),by rw[r];exact Q⟩
  have a7:(((opened cp num sub k i).1.length+(opened cp num sub k i).2:Nat):Int)<=b:=by
    have:¬x.b<(s.length+(opened cp num sub k i).2:Nat):=by simpa using Y
    rw[M]at this;omega
  have b2:i=N:=by
    refine fk.dY (c:=cp) (num:=num) (sub:=sub) (k:=k) ⟨?_,b0⟩ hN
    first
      |(rw[<-c7];omega)
      |(exfalso
        have:x.b<(s.length+(opened cp num sub k i).2:Nat):=by simpa using h4
        rw[M]at this
        omega)
  subst b2
  rw[if_pos a7]at r
  refine .kn<|.sr<|.mo rfl<|.nc rfl<|.fa rfl<|.q (.loadT rfl) ?_
  refine .bH rfl rfl<|.az rfl ?_
  refine .ret (bk _ (.two (.eI rfl rfl) (.tmp rfl)) (aW.one [2,2,2,2] _) ?_)
  ·first
      |exact(K _ _ _).2 ⟨_,[],_,rfl,by rw[r];rfl,RS.gL,λp f=>(by cases f),by rw[r];rfl⟩
      |exact(K _ _ _).2 ⟨B,s,_,rfl,by rw[r];rfl,H.rs λp f=>.inr (by simp[take,bL,f]),λp f=>(O p f).mono λb o hb=>(by
          rw[I]at hb
          rcases hb with(hb|hb|hb)|hb
          ·exact .inl hb
          ·exact .inr (by simp[take,bL,hb])
          ·exact .inr (by simp[take,bL,hb])
          ·exact .inr (by simp[take,bL,hb])),by rw[r];exact Q⟩
def dF.enc(x:dF):List Value:=[iN x.1,iN x.2]
instance dF.one(x:dF):bZ (dF.enc x):=⟨by simp[dF.enc,ap]⟩
abbrev js(sb:Nat)(vp:Value)(e:Nat)(us:ByteArray)(vv vb vw vq:Value):aB:=(bl sb [vp,iN e,.string us,vv,vb,vw,vq] 206)
abbrev rQ(sb:Nat):Value:=jE (pT sb) 6
def QI(sb:Nat)(vp:Value)(e:Nat)(us:ByteArray)(vv vb vw:Value)(L:List dF)(T:aB):Prop:=∃vq Tq,T=js sb vp e us vv vb vw vq++Tq/\OS 280 2 dF.enc vq L Tq/\L.length<=1000000000
theorem B9(v:Value)(L:List dF)(R:aD)(h:RS R 2 dF.enc v L):Spec Tryz.prog 92 [v] R [] λu H'=>u=.int .i64 L.length/\H'=[]:=by
 have a:=h.ap
 refine Spec.body Tryz.func92 rfl Tryz.results92 Tryz.ntmps92 rfl ?_
 refine .sr<|.ag rfl<|.z<|.mo rfl<|.q (.bJ h) ?_
 refine .az rfl ?_
 refine .ret (aM rfl ?_)
 ·exact⟨rfl,rfl⟩
theorem RI(v:Value)(L:List dF)(R:aD)(h:RS R 2 dF.enc v L)(i k:Nat)(x y:dF)(f:L[i]? =some x)(g:L[k]? =some y):Spec Tryz.prog 297 [v,.int .i64 i,.int .i64 k] R [] λu H'=>u=.bool (mw x y)/\H'=[]:=by
 have l:=h.ap
 have e:mw x y=(decide (x.1<y.1)||(decide (x.1=y.1)&&decide (x.2<y.2))):=rfl
 obtain⟨a,b⟩:=x
 obtain⟨c,d⟩:=y
 simp only at e
 generalize mw (a,b) (c,d)=r at *
 refine Spec.body Tryz.func297 rfl Tryz.results297 Tryz.ntmps297 rfl ?_
 refine .sr<|.ag rfl<|.zs<|.seq ?_
 refine .fX mixed (by kernel_rfl) ?_
 refine .mo rfl<|.mo rfl ?_
 refine .bC i h f (λt=>?_)
 refine .fa rfl<|.lo rfl<|.mo rfl<|.mo rfl ?_
 refine .bC k h g (λm=>?_)
 refine .fa rfl<|.lo rfl<|.q .dS<|.zn ?_
 refine .cond rfl (λj=>?_) λj=>?_
 refine .seq ?_
 refine .fX mixed (by kernel_rfl) ?_
 refine .mo rfl<|.mo rfl ?_
 refine .bC i h f (λn=>?_)
 refine .fa rfl<|.lo rfl<|.mo rfl<|.mo rfl ?_
 refine .bC k h g (λo=>?_)
 refine .fa rfl<|.lo rfl<|.q .lss<|.az rfl ?_
 refine .ret (aI (aM rfl ?_))
 ·refine⟨congrArg _ ?_,rfl⟩
  rw[e]
  grind
 refine .kn<|.seq ?_
 refine .fX mixed (by kernel_rfl) ?_
 refine .mo rfl<|.mo rfl ?_
 refine .bC i h f (λp=>?_)
 refine .fa rfl<|.lo rfl<|.mo rfl<|.mo rfl ?_
 refine .bC k h g (λs=>?_)
 refine .fa rfl<|.lo rfl<|.q .lss<|.az rfl ?_
 refine .ret (aM rfl ?_)
 ·refine⟨congrArg _ ?_,rfl⟩
  rw[e]
  grind
theorem RZ(v:Value)(L:List dF)(T:aB)(R:aD)(a:OS 280 2 dF.enc v L T)(i k:Nat)(e:i<L.length)(f:k<L.length):Spec Tryz.prog 298 [v,.int .i64 i,.int .i64 k] R [T] λ_ H'=>∃T',H'=[T']/\OS 280 2 dF.enc v (dK L i k) T':=by
 have m:=a.ap
 obtain⟨x,b⟩:=bR e
 obtain⟨y,c⟩:=bR f
 refine Spec.body Tryz.func298 rfl Tryz.results298 Tryz.ntmps298 rfl ?_
 refine .dp [13,15] mixed ?_
 refine .tO 0 rfl .move<|.tO 1 rfl .move<|.tK 2 rfl .move<|.tK 3 rfl .move<|.tO 4 rfl .move<|.tO 5 rfl .move ?_
 refine RA.bo 6 rfl (k) a c rfl rfl rfl (by kernel_rfl) (λn=>?_)
 refine .tO 7 rfl (.aL rfl)<|.tO 8 rfl .move<|.tO 9 rfl .move ?_
 refine RA.bo 10 rfl (i) a b rfl rfl rfl (by kernel_rfl) (λo=>?_)
 refine .tO 11 rfl (.aL rfl) ?_
 refine RA.bo 12 rfl (i) a b rfl rfl rfl (by kernel_rfl) (λp=>?_)
 refine .sT 13 rfl ?_
 refine .eO (i) a b y (λj g=>?_) (a.one _ (aZ c))
 refine .nil (Next.mod rfl ?_)
 refine RA.bo 14 rfl (k) a c rfl rfl rfl (by kernel_rfl) (λq=>?_)
 refine .sT 15 rfl ?_
 obtain⟨r,h⟩:∃u,(L.set (i) y)[k]? =some u:=⟨_,bu (by rw[List.length_set];exact(List.getElem?_eq_some_iff.1 c).1)⟩
 refine .eO (k) g h x (λl d=>?_) (a.one _ (aZ b))
 rw[<-jt b c]at d
 refine .nil (Next.mod rfl ?_)
 refine RA.nil (by kernel_rfl) ?_
 refine iT _ .none rH ?_
 ·exact⟨_,rfl,d⟩
section
variable(sb:Nat)(vp:Value)(e:Nat)(us:ByteArray)(vv vb vw:Value)
theorem RX(L:List dF)(T:aB)(h:QI sb vp e us vv vb vw L T)(x:dF)(j:L.length<1000000000)(R:aD):
  Spec Tryz.prog 300 [rQ sb,.iface 280 (.agg (dF.enc x).toArray)] R [T] λv H'=>∃T',H'=[T']/\QI sb vp e us vv vb vw (L++[x]) T':=by
 obtain⟨g,f,rfl,b,_⟩:=h
 refine Spec.gO (H':=[js sb vp e us vv vb vw g,f]) (by simp) ?_
 have k:=b.ap
 refine Spec.body Tryz.func300 rfl Tryz.results300 Tryz.ntmps300 rfl ?_
 refine .dp [7,9] mixed ?_
 refine .tK 0 rfl .move<|.tO 1 rfl .move<|.tO 2 rfl (.nilCheck rfl)<|.tO 3 rfl (.cE rfl)<|.tO 4 rfl .move ?_
 refine .tO 5 rfl (.yb (ut:=⟨Tryz.underlying280⟩)) ?_
 refine .sT 6 rfl ?_
 refine .dM (λi=>?_)
 refine .nil (Next.sub ?_)
 refine .sT 7 rfl ?_
 refine .append b (RS.lits (xs:=[x]) rfl (by simp[dF.enc]) (by simp[dF.enc,ap])) (by simp;omega) (λd a c=>?_)
 have l:=c.ap
 refine .nil (Next.mod rfl ?_)
 refine .tK 8 rfl (.lq rfl) ?_
 refine .sT 9 rfl ?_
 refine .dw rfl rfl ?_
 refine .nil (Next.mod rfl ?_)
 refine RA.nil (by kernel_rfl) ?_
 refine iT _ .none ((aH [1,1]).trans (aW.ez (H':=[js sb vp e us vv vb vw d++a]) (by simp[take,bL,du]))) ?_
 ·exact⟨_,rfl,d,a,rfl,c,by simp;omega⟩
theorem RW(L:List dF)(x:dF)(T:aB)(h:QI sb vp e us vv vb vw (L++[x]) T)(R:aD):
  Spec Tryz.prog 299 [rQ sb] R [T] λv H'=>∃T',H'=[T']/\v=.iface 280 (.agg (dF.enc x).toArray)/\QI sb vp e us vv vb vw L T':=by
 obtain⟨g,b,rfl,a,f⟩:=h
 simp only[List.length_append,List.length_singleton]at f
 refine Spec.gO (H':=[js sb vp e us vv vb vw g,b]) (by simp) ?_
 have j:=a.ap
 refine Spec.body Tryz.func299 rfl Tryz.results299 Tryz.ntmps299 rfl ?_
 refine .sr<|.ag rfl<|.z<|.mo rfl<|.nc rfl<|.lo rfl<|.ag rfl<|.z<|.mo rfl<|.mo rfl<|.q (.dN a) ?_
 refine .q (.i64 ((L.length:Nat):Int) .sub ⟨by simp,by omega,by omega⟩) ?_
 refine .bo L.length a (z:=x) (by simp) (λl=>?_)
 refine .q (.aL rfl) ?_
 refine .bN (λi=>?_)
 refine .bH rfl rfl<|.z<|.mo rfl<|.mo rfl<|.mo rfl<|.q (.dN a) ?_
 refine .q (.i64 ((L.length:Nat):Int) .sub ⟨by simp,by omega,by omega⟩) ?_
 refine .rZ 0 L.length a rfl ⟨_,rfl⟩ (by omega) (by simp) (λd c=>?_)
 have k:=c.ap
 refine .nc rfl<|.dw rfl rfl<|.z<|.q (.aL rfl)<|.q (.makeInterface (ut:=⟨Tryz.underlying280⟩)) ?_
 refine .az rfl ?_
 refine .ret (bk _ (.one (.tmp rfl)) ((aH [1,1]).trans (aW.ez (H':=[js sb vp e us vv vb vw d++b]) (by simp[take,bL,du]))) ?_)
 ·exact⟨_,rfl,rfl,d,b,rfl,by simpa using c,by omega⟩
theorem sd:∀w,(typeInfo 282).run Tryz.prog w=.ok Tryz.t282 w:=Tryz.typeInfo282
theorem Bk(R:aD):qN Tryz.prog R 282 (rQ sb) mw (QI sb vp e us vv vb vw) where
 lM L T h:=by obtain⟨a,b,rfl,d,g⟩:=h;exact g
 len L T h:=by
  obtain⟨a,b,rfl,d,g⟩:=h
  have j:RS (Rx R [js sb vp e us vv vb vw a++b]) 2 dF.enc a L:=d.rs λp c=>.inr (by simp[c])
  have c:PC (Rx R [js sb vp e us vv vb vw a++b]) (pT sb) [vp,iN e,.string us,vv,vb,vw,a]:=PC.of (E:=206) (fr:=(0,0)) (.inr (by simp))
  refine(iI.iP (r:=a) (f:=92) (jQ.val sd (by kernel_rfl) inferInstance (by kernel_rfl) inferInstance (c.add 6)) (B9 a L _ j)).mono λu n l=>?_
  obtain⟨rfl,rfl⟩:=l
  exact⟨rfl,a,b,rfl,d,g⟩
 less L T i k x y h hx hy:=by
  obtain⟨a,b,rfl,d,g⟩:=h
  have j:RS (Rx R [js sb vp e us vv vb vw a++b]) 2 dF.enc a L:=d.rs λp c=>.inr (by simp[c])
  have c:PC (Rx R [js sb vp e us vv vb vw a++b]) (pT sb) [vp,iN e,.string us,vv,vb,vw,a]:=PC.of (E:=206) (fr:=(0,0)) (.inr (by simp))
  refine(iI.iP (r:=a) (f:=297) (jQ.val sd (by kernel_rfl) inferInstance (by kernel_rfl) inferInstance (c.add 6)) (RI a L _ j i k x y hx hy)).mono λu n l=>?_
  obtain⟨rfl,rfl⟩:=l
  exact⟨rfl,a,b,rfl,d,g⟩
 swap L T i k h hi hk:=by
  obtain⟨a,b,rfl,d,g⟩:=h
  have c:PC (Rx R [js sb vp e us vv vb vw a++b]) (pT sb) [vp,iN e,.string us,vv,vb,vw,a]:=PC.of (E:=206) (fr:=(0,0)) (.inr (by simp))
  refine⟨298,a,jQ.val sd (by kernel_rfl) inferInstance (by kernel_rfl) inferInstance (c.add 6),inferInstance,?_⟩
  refine Spec.gO (H':=[js sb vp e us vv vb vw a,b]) (by simp) ?_
  refine Spec.flat ((Spec.rA [1] (RZ a L b _ d i k hi hk)).mono λv H' q=>?_)
  obtain⟨s,rfl,m,rfl,o⟩:=q
  refine⟨_,js sb vp e us vv vb vw a++m,rfl,?_,_,rfl,a,m,rfl,o,by rw[pK];exact g⟩
  simp only[rest,bL,List.flatten_append,List.flatten_cons,List.flatten_nil,List.append_nil]
  exact List.perm_append_comm
theorem P1(L:List dF)(T:aB)(h:QI sb vp e us vv vb vw L T)(x:dF)(hl:L.length<1000000000)(R:aD):iI Tryz.prog 282 (rQ sb) "Push" [.iface 280 (.agg (dF.enc x).toArray)] R T fun _ T'=>QI sb vp e us vv vb vw (L++[x]) T':=
 ⟨300,_,jQ.ptr sd (by kernel_rfl) inferInstance (by kernel_rfl),inferInstance,RX sb vp e us vv vb vw L T h x hl R⟩
theorem P0(L:List dF)(x:dF)(T:aB)(h:QI sb vp e us vv vb vw (L++[x]) T)(R:aD):iI Tryz.prog 282 (rQ sb) "Pop" [] R T fun v T'=>v=.iface 280 (.agg (dF.enc x).toArray)∧QI sb vp e us vv vb vw L T':=
 ⟨299,_,jQ.ptr sd (by kernel_rfl) inferInstance (by kernel_rfl),inferInstance,RW sb vp e us vv vb vw L x T h R⟩
end
def dH(b:Bool):List Value:=[.bool b]
structure QW(ps:List bQ)(q:List Bool)(L:List dF):Prop where
 p:L.Perm (items ps q)
 h:fG mw L L.length
section
variable(sb:Nat)(vp:Value)(e:Nat)(us:ByteArray)(vv vb vw:Value)
theorem Cb(L:List dF)(T k:aB)(h:QI sb vp e us vv vb vw L T)(ps:List aF)(R:aD)(C:RS R 8 aF.enc vp ps)(B:∀p∈ps,∀u∈p.enc,ap u=true)(q:List Bool)(d:OS 4 1 dH vw q k)(M:q.length=ps.length)(a:QW (ps.map aF.plain) q L)(i:Nat)(A:i<ps.length)(J:ps.length<1000000000)
  [Q:One vp] [S:One vv] [O:One vb] [U:One vw]:Spec prog 95 [pT sb,.int .i64 i] R [T,k] λ_ H'=>∃T' Tw' L',H'=[T',Tw']/\QI sb vp e us vv vb vw L' T'/\OS 4 1 dH vw (q.set i true) Tw'/\QW (ps.map aF.plain) (q.set i true) L':=by
 have l:=h
 obtain⟨o,r,rfl,v,I⟩:=h
 have N:=v.ap
 have a0:PS (js sb vp e us vv vb vw o++r) (pT sb) [vp,iN e,.string us,vv,vb,vw,o]:=PS.of (E:=206) (fr:=(0,0)) (by simp)
 obtain⟨b,c⟩:∃b,q[i]? =some b:=⟨_,bu (by omega)⟩
 obtain⟨p,g⟩:=bR A
 have K:bZ p.enc:=⟨B p (aZ g)⟩
 have j:q.getD i false=b:=by rw[List.getD_eq_getElem?_getD,c];rfl
 have m:fV (ps.map aF.plain) i=p.number:=by
  unfold fV
  rw[List.getElem?_map,g]
  rfl
 obtain⟨V,G,vn,X,vu,a1,vl,W,n⟩:=p
 simp only at m
 have H:=Oh a.p
 refine Spec.body Tryz.func95 rfl Tryz.results95 Tryz.ntmps95 rfl ?_
 refine .sr<|.mo rfl<|.nc rfl<|.fa rfl<|.lo rfl<|.mo rfl ?_
 refine .bo i d c (λp9=>?_)
 refine .lo rfl<|.q .not<|.zn ?_
 refine .cond rfl (λf=>?_) λf=>?_
 have y:b=false:=by simpa using f
 subst y
 refine .sr<|.mo rfl<|.nc rfl<|.fa rfl<|.lo rfl<|.mo rfl ?_
 refine .bo i d c (λY=>?_)
 refine .gz i d c true (λF w=>?_)
 refine .zn ?_
 refine .dU 16 mixed (by kernel_rfl) ?_
 conv=>arg 6;dsimp only[List.take]
 refine .mo rfl<|.nc rfl<|.fa rfl<|.q .makeInterface<|.mo rfl<|.nc rfl<|.fa rfl<|.fa rfl<|.lo rfl<|.mo rfl ?_
 refine .bC i C g (λZ=>?_)
 refine .fa rfl<|.lo rfl<|.mo rfl ?_
 refine .q .cN ?_
 refine .q (.makeInterface (ut:=⟨Tryz.underlying280⟩)) ?_
 refine .nil ?_
 refine .cY (R:=R) (PT (Bk sb vp e us vv vb vw R) vX L _ _ (n,i) (P1 sb vp e us vv vb vw L _ l (n,i) (by omega) R) a.h) (λu T' D=>?_)
 obtain⟨rfl,L',t,x,s⟩:=D
 refine .nil<|iT _ .none rH ?_
 ·exact⟨_,_,L',rfl,t,w,⟨x.trans (by rw[<-m];exact(a.p.append_right _).trans (Oj (by omega) j)),s⟩⟩
 have z:b=true:=by simpa using f
 subst z
 refine .skip<|iT _ .none rH ?_
 ·exact⟨_,_,L,rfl,l,by rw[u3 j (by omega)];exact d,by rw[u3 j (by omega)];exact a⟩
theorem RU(L:List dF)(T g:aB)(h:QI sb vp e us vv vb vw L T)(R:aD)(ps:List bQ)(q:List Bool)(l:OS 4 1 dH vw q g)(c:QW ps q L)(x:dF)(m:L[0]? =some x) [Q:One vp] [S:One vv] [O:One vb] [U:One vw]:
  Spec prog 93 [pT sb] R [T,g] λu H'=>∃T' Tw' L',H'=[T',Tw']/\u=iN x.2/\QI sb vp e us vv vb vw L' T'/\OS 4 1 dH vw (q.set x.2 false) Tw'/\QW ps (q.set x.2 false) L'/\mU ps q x.2/\x.2<q.length:=by
 have D:=h
 obtain⟨o,s,rfl,y,G⟩:=h
 have M:=y.ap
 have W:PS (js sb vp e us vv vb vw o++s) (pT sb) [vp,iN e,.string us,vv,vb,vw,o]:=PS.of (E:=206) (fr:=(0,0)) (by simp)
 obtain⟨f,n,d⟩:=zZ c.p c.h m
 obtain⟨a,i⟩:=x
 simp only at f n d
 obtain⟨b,k⟩:=bR d
 refine Spec.body Tryz.func93 rfl Tryz.results93 Tryz.ntmps93 rfl ?_
 refine .sr<|.ag rfl<|.z<|.mo rfl<|.nc rfl<|.fa rfl<|.q .makeInterface ?_
 refine .cY (R:=R) (PR (Bk sb vp e us vv vb vw R) vX L _ D (a,i) m c.h (λx=>.iface 280 (.agg (dF.enc x).toArray)) (QI sb vp e us vv vb vw) (λL' T' w G=>P0 sb vp e us vv vb vw L' (a,i) T' w R)) (λu T' H=>?_)
 obtain⟨rfl,L',j,C,v⟩:=H
 have F:=j
 obtain⟨r,t,rfl,A,K⟩:=j
 have N:=A.ap
 have X:PS (js sb vp e us vv vb vw r++t) (pT sb) [vp,iN e,.string us,vv,vb,vw,r]:=PS.of (E:=206) (fr:=(0,0)) (by simp)
 refine .q (.yb (ut:=⟨Tryz.underlying280⟩)) ?_
 refine .bN (λJ=>?_)
 refine .bH rfl rfl<|.zs ?_
 refine .dU 7 mixed (by kernel_rfl) ?_
 conv=>arg 6;dsimp only[List.take]
 refine .mo rfl<|.nc rfl<|.fa rfl<|.lo rfl<|.fa rfl<|.lo rfl ?_
 refine .bo i l k (λV=>?_)
 refine .nil ?_
 skip
 refine .gz i l k false (λI B=>?_)
 refine .z<|.fa rfl<|.lo rfl<|.az rfl ?_
 refine .ret (bk _ (.one (.tmp rfl)) (aH [1,1]) ?_)
 ·exact⟨_,_,L',rfl,rfl,F,B,⟨Og c.p d f.1 (by rw[<-n];exact C),v⟩,f,d⟩
theorem RG(a:Value) [g:One a](v:List Bool)(j:Nat)(b:Bool)(c:v[j]? =some b)(R:aD)(d:RS R 1 dH vv v)(pc:PC R (pT sb) [vp,iN e,.string us,vv,vb,vw,a]) [f:One vp] [h:One vv]:
  Spec prog 152 [pT sb,.int .i64 j] R [] λu H'=>u=.bool b/\H'=[]:=by
 refine Spec.body Tryz.func152 rfl Tryz.results152 Tryz.ntmps152 rfl ?_
 refine .sr<|.ag rfl<|.z<|.mo rfl<|.nc rfl<|.fa rfl<|.lo rfl<|.mo rfl ?_
 refine .bC j d c (λi=>?_)
 refine .lo rfl<|.az rfl ?_
 refine .ret (aM rfl ?_)
 ·exact⟨rfl,rfl⟩
end
namespace LIM
theorem Ob(f:FuncId)(g:List Value) [e:aY prog f](p:Nat->Bool)(v:Value)(l:List Nat)(R:aD)(h:RS R 1 cW v l)(D:∀s∈l,∀R',(∀b o,R b o->R' b o)->Spec prog f (g++[(λn:Nat=>iN n) s]) R' [] λu H'=>u=.bool (p s)/\H'=[]):
  Spec prog 192 [v,.func (.func f) g.toArray #[]] R [] λu H'=>(∃k:Int,u=.int .i64 k/\((∃(i:Nat) (x:Nat),l[i]? =some x/\p x=true/\(∀j y,j<i->l[j]? =some y->p y=false)/\k=i)\/((∀y∈l,p y=false)/\k= -1)))/\H'=[]:=by
 have H:=h.le
 refine Spec.body Tryz.func192 rfl Tryz.results192 Tryz.ntmps192 rfl ?_
 refine .sr<|.ag rfl<|.zs<|.sr<|.mo rfl<|.q (.bJ h) ?_
 refine .mo rfl<|.zn<|.block ?_
 refine .loop (X:=Nat) (λi=>i<=l.length/\∀j z,j<i->l[j]? =some z->p z=false) (λi=>[(0,v),(1,.func (.func f) g.toArray #[]),(7,.int .i64 l.length),(8,iN i)]) (λ_=>[]) (λi=>l.length-i) 0 ⟨by omega,by omega⟩ kE.c.c.c.c rH ?_
 rintro i ⟨G,w⟩
 refine .sr<|.q .lss<|.zs ?_
 refine .cond rfl (λm=>?_) λm=>?_
 have E:i<l.length:=by simp at m;omega
 obtain⟨z,d⟩:=bR E
 have A:=aZ d
 have I:=(⟨h.one z A⟩:bZ (cW z))
 refine .kn<|.seq<|.block<|.sr<|.mo rfl<|.ag rfl<|.z<|.mo rfl<|.mo rfl<|.mo rfl ?_
 refine .bC i h d (λJ=>?_)
 refine .lo rfl ?_
 refine .gu (first:=g) (captured:=[]) (vs:=[(λn:Nat=>iN n) z]) (by rw[List.append_nil];exact D z A _ λb o B=>.inl B) (λu F=>?_)
 subst F
 refine .zn ?_
 refine .cond rfl (λr=>?_) λr=>?_
 refine .sr<|.mo rfl<|.az rfl ?_
 refine .ret (bp (aI (cF (bp (aI (aM rfl ?_))))))
 ·exact⟨⟨_,rfl,.inl ⟨i,z,d,r,w,rfl⟩⟩,rfl⟩
 refine .skip<|bf<|ax<|.region ?_
 refine .q (.inc (n:=i) (by omega)) ?_
 refine .mo rfl<|.nil ?_
 ·exact aP (i+1) ⟨by omega,λj y t a=>by
   rcases Nat.lt_or_ge j i with hh|hh
   ·exact w j y hh a
   ·obtain rfl:j=i:=by omega
    rw[d]at a;cases a;exact r⟩ (by omega) kE.c.c.c.c rH
 refine .exit<|bq<|bz<|bs<|ax<|.sr<|.az rfl ?_
 refine .ret (aM rfl ?_)
 ·have C:i=l.length:=by simp at m;omega
  subst C
  refine⟨⟨_,rfl,.inr ⟨λy a=>?_,rfl⟩⟩,rfl⟩
  obtain⟨j,t,rfl⟩:=List.mem_iff_getElem.1 a
  exact w j _ t (bu t)
theorem yy(f:FuncId)(c:List Value) [e:aY prog f](p:Nat->Bool)(v:Value)(l:List Nat)(R:aD)(h:RS R 1 cW v l)(m:∀s∈l,∀R',(∀b o,R b o->R' b o)->Spec prog f (c++[(λn:Nat=>iN n) s]) R' [] λu H'=>u=.bool (p s)/\H'=[]):
  Spec prog 151 [v,.func (.func f) c.toArray #[]] R [] λu H'=>u=.bool (l.any p)/\H'=[]:=by
 refine Spec.body Tryz.func151 rfl Tryz.results151 Tryz.ntmps151 rfl ?_
 refine .sr<|.ag rfl<|.z<|.mo rfl<|.mo rfl ?_
 refine .ba (Ob f c p v l _ h.rx λs w R' g=>m s w R' λb o j=>g b o (.inl j)) (λu A=>?_)
 obtain⟨k,rfl,r⟩:=A
 have t:decide (0<=k)=l.any p:=by
  rcases r with⟨i,x,a,d,_,rfl⟩|⟨a,rfl⟩
  ·rw[List.any_eq_true.2 ⟨x,aZ a,d⟩];simp
  ·rw[List.any_eq_false.2 λy B=>by rw[a y B];simp];rfl
 refine .q .geq<|.az rfl ?_
 refine .ret (aM rfl ?_)
 ·exact⟨by simp only[t],rfl⟩
end LIM
theorem ye{l:List ByteArray}{s:ByteArray}:(l.any λx=>decide (x=s))=decide (s∈l):=by
 rw[Bool.eq_iff_iff,List.any_eq_true,decide_eq_true_eq]
 constructor
 ·rintro⟨x,a,h⟩
  exact cm h▸a
 ·exact λh=>⟨s,h,decide_eq_true rfl⟩
theorem yh{w:List Bool}{k j:Nat}(h:j<w.length):(w++List.replicate k false)[j]? =some (w.getD j false):=by
 rw[List.getElem?_append_left h,List.getD_eq_getElem?_getD,bu h]
 rfl
theorem Pc{p:bQ}{us:ByteArray}{vf:Nat->Bool}{w:List Bool}{n:Nd}(c:p.nodes[w.length]? =some n)(d:(tree isWord p.nodes (w.length+1)).isSome=true)(f:∀e,e<w.length->w.getD e false=dm p us vf (e+1)):
  dm p us vf (w.length+1)=(if n.kind=1 then decide (us∈p.gQ)||(p.leads.getD w.length []).any vf
   else if n.kind=2\/n.kind=3 then(p.leads.getD w.length []).any vf
   else if n.kind=4 then w.getD n.a.toNat false||w.getD n.b.toNat false
   else if n.kind=5 then w.getD n.a.toNat false&&w.getD n.b.toNat false
   else if n.kind=6 then w.getD n.a.toNat false&& !w.getD n.b.toNat false
   else false):=by
 have h:=QH (t:=none) c d f w.length (by rw[BF];omega)
 rw[<-h]
 unfold qp
 rw[tg,if_neg (by omega),if_pos rfl,ye]
theorem AK{p:List Nd}{i:Nat}{n:Nd}(l:p[i]? =some n)(f:(tree isWord p (i+1)).isSome=true):n.kind=1\/n.kind=2\/n.kind=3\/((n.kind=4\/n.kind=5\/n.kind=6)/\0<=n.a/\n.a.toNat<i/\0<=n.b/\n.b.toNat<i):=by
 obtain⟨r,o⟩:=Option.isSome_iff_exists.1 f
 by_cases e:n.op=true
 ·obtain⟨b,x,y,c,g,d,q,s,_⟩:=od l e o
  obtain⟨t,_,u,_⟩:=jf _ _ c
  obtain⟨v,_,w,_⟩:=jf _ _ d
  unfold Nd.op at e
  simp only[Bool.or_eq_true,beq_iff_eq]at e
  right;right;right
  refine⟨by omega,by omega,by omega,by omega,by omega⟩
 ·have m:n.op=false:=by simpa using e
  rw[lD l m]at f
  have j:n.leaf isWord=true:=by
   cases h:n.leaf isWord with
   |true=>rfl
   |false=>rw[h]at f;cases f
  unfold Nd.leaf at j
  simp only[Bool.and_eq_true]at j
  by_cases c:n.kind=1
  ·exact .inl c
  ·by_cases g:n.kind=2
   ·exact .inr (.inl g)
   ·by_cases d:n.kind=3
    ·exact .inr (.inr (.inl d))
    ·exfalso
     have k:=j.2
     rw[if_neg c,if_neg g,if_neg d]at k
     cases k
theorem RY(sb:Nat)(vp:Value)(e:Nat)(us:ByteArray)(vv vb vw vq:Value) [ip:One vp] [iv:One vv] [iq:One vq](p:aF)(v:List Bool)(R:aD)(hp:p.is R)(hv:RS R 1 dH vv v)(pc:PC R (pT sb) [vp,iN e,.string us,vv,vb,vw,vq])
  (c5:p.ll.length=p.nodes.length)(c6:p.nodes.length<=1000000)(F:∀q∈p.ll,∀j∈q.2,j<v.length)(N:∀i,i<p.nodes.length->(tree isWord p.nodes (i+1)).isSome=true):
  Spec prog 94 [pT sb,.agg p.enc.toArray] R [] λu H'=>u=.bool (dm p.plain us (λj=>v.getD j false) p.nodes.length)/\H'=[]:=by
 have e0:bZ p.enc:=⟨hp.cJ⟩
 obtain⟨Z,W,U,d,S,a0,Q,ll,nm⟩:=p
 have a1:RS R 5 Nd.enc U d:=hp.n
 have b6:RS R 1 hZ S a0:=hp.u
 have a4:RS R 1 dZ Q ll:=hp.l.rs
 have O:=hp.l.all
 simp only at c5 c6 F N O
 have i2:=a1.ap
 have i3:=b6.ap
 have i4:=a4.ap
 have d9:=a1.le
 obtain⟨vf,J⟩:∃vf:Nat->Bool,vf=λj=>v.getD j false:=⟨_,rfl⟩
 rw[<-J]
 have I:=λ(w:List Bool) (n:Nd) (Y:d[w.length]? =some n) h2 h3=>Pc (p:=aF.plain ⟨Z,W,U,d,S,a0,Q,ll,nm⟩) (us:=us) (vf:=vf) (w:=w) (n:=n) Y h2 h3
 have b4:dm (aF.plain ⟨Z,W,U,d,S,a0,Q,ll,nm⟩) us vf 0=false:=by rw[dm]
 have c8:(aF.plain ⟨Z,W,U,d,S,a0,Q,ll,nm⟩).nodes=d:=rfl
 have c9:(aF.plain ⟨Z,W,U,d,S,a0,Q,ll,nm⟩).gQ=a0:=rfl
 have c7:∀i q,ll[i]? =some q->(aF.plain ⟨Z,W,U,d,S,a0,Q,ll,nm⟩).leads.getD i []=q.2:=λi q hq=>by
  show((ll.map (·.2)).getD i [])=q.2
  rw[List.getD_eq_getElem?_getD,List.getElem?_map,hq];rfl
 generalize aF.plain ⟨Z,W,U,d,S,a0,Q,ll,nm⟩=pl at *
 subst c9
 rw[c8]at I
 refine Spec.body Tryz.func94 rfl Tryz.results94 Tryz.ntmps94 rfl ?_
 refine .sr ?_
 refine .bW rfl (λb3=>?_)
 refine .ag rfl<|.z<|.fa rfl<|.lo rfl<|.q (.bJ a1) ?_
 refine .makeSlice (enc:=dH) d.length false rfl rfl (by decide) (by simp[dH,ap]) rfl rfl (by omega) (by omega) (λa6 b8 b9=>?_)
 refine .ag rfl<|.zs<|.sr<|.fa rfl<|.lo rfl<|.q (.bJ a1) ?_
 refine .mo rfl<|.zn<|.block ?_
 refine .cx [(0,_),(3,_),(5,_),(13,_),(14,_)] (X:=Nat×List Bool×aB) (λy=>y.1<=d.length/\y.2.1.length=y.1/\OS 4 1 dH (.slice (some ⟨a6,0,none⟩) d.length d.length) (y.2.1++List.replicate (d.length-y.1) false) y.2.2/\∀e,e<y.2.1.length->y.2.1.getD e false=dm pl us vf (e+1)) (λy E=>(15,iN y.1)::E) (λy G=>y.2.2::G) (λy=>d.length-y.1) (0,[],b8) ⟨Nat.zero_le _,rfl,by simp only[List.nil_append,Nat.sub_zero];exact b9,λe he=>absurd he (by simp)⟩ kE.c.c.c.c.c.c rH ?_
 rintro⟨i,w,T⟩ ⟨hi,C,f,M⟩
 simp only at hi C f M⊢
 refine .sr<|.q .lss<|.zs ?_
 refine .cond rfl (λY=>?_) λY=>?_
 have a5:i<d.length:=cr Y
 obtain⟨n,hn⟩:=bR a5
 obtain⟨⟨vr,a3⟩,a2⟩:∃q,ll[i]? =some q:=⟨_,bu (by omega)⟩
 have b5:=aZ a2
 have hr:RS R 1 cW vr a3:=O _ b5
 have H:=F _ b5
 simp only at H
 have i5:=hr.ap
 obtain⟨k,hk⟩:∃k,d.length-i=k+1:=⟨d.length-i-1,by omega⟩
 have c3:d.length-(i+1)=k:=by omega
 rw[hk]at f
 have f1:PC R (eC Q (i*1)) (dZ (vr,a3)):=a4.pc a2
 have b2:=AK hn (N i a5)
 have m:=I w n (by rw[C];exact hn) (by rw[C];exact N i a5) M
 rw[C,c7 i _ a2]at m
 simp only at m
 have r:(w++List.replicate (k+1) false)[i]? =some false:=by
  rw[List.getElem?_append_right (by omega),C,Nat.sub_self];rfl
 have D:∀j∈a3,∀V,(∀b o,R b o->V b o)->Spec prog 152 ([pT sb]++[iN j]) V [] λu H'=>u=.bool (vf j)/\H'=[]:=λj hj V hR=>by
  obtain⟨b,hb⟩:∃b,v[j]? =some b:=⟨_,bu (H j hj)⟩
  have c1:vf j=b:=by rw[J];simp only;rw[List.getD_eq_getElem?_getD,hb];rfl
  rw[c1]
  exact RG sb vp e us vv vb vw vq v j b hb V (hv.mono hR) (pc.mono hR)
 refine .kn<|.seq<|.block<|.sr<|.mo rfl ?_
 refine .bC i a1 hn (λe3=>?_)
 refine .q (.aL rfl) ?_
 refine .bN (λb7=>?_)
 refine .ag rfl<|.bH rfl rfl<|.z<|.fa rfl<|.lo rfl<|.zn ?_
 refine bx.cL [(0,_),(3,_),(5,_),(13,_),(14,_),(15,_)] kE.c.c.c.c.c.c (X:=aB) (λT=>OS 4 1 dH (.slice (some ⟨a6,0,none⟩) d.length d.length) ((w++[dm pl us vf (i+1)])++List.replicate k false) T) (λ_ E=>E) (λT=>[T,bl b3 (aF.enc ⟨Z,W,U,d,S,pl.gQ,Q,ll,nm⟩) 95]) ?_ ?_
 refine .block<|.sr<|.q .bK<|.az rfl ?_
 refine .cond rfl (λh2=>?_) λh2=>?_
 have a9:n.kind=1:=by simpa using h2
 rw[if_pos a9]at m
 refine .dp [20] mixed ?_
 refine .tO 0 rfl .move<|.tO 1 rfl .move<|.tO 2 rfl (.fieldAddr rfl)<|.tO 3 rfl (.cE rfl)<|.tO 4 rfl .move<|.tO 5 rfl (.nilCheck rfl)<|.tO 6 rfl (.fieldAddr rfl)<|.tO 7 rfl (.cE rfl) ?_
 refine .sT 8 rfl ?_
 refine .ba (Rb S pl.gQ us _ b6.rx) (λu hu=>?_)
 subst hu
 refine .nil (Next.sub ?_)
 refine .tO 9 rfl .move ?_
 refine RA.split (t:=33) rfl (λh=>?_) (λh=>?_)
 refine .iG 10 rfl rfl h rfl (by kernel_rfl) ?_
 refine .iG 11 rfl rfl h rfl (by kernel_rfl) ?_
 refine .iG 12 rfl rfl h rfl (by kernel_rfl) ?_
 refine .iG 13 rfl rfl h rfl (by kernel_rfl) ?_
 refine .iG 14 rfl rfl h rfl (by kernel_rfl) ?_
 refine .iG 15 rfl rfl h rfl (by kernel_rfl) ?_
 refine .iG 16 rfl rfl h rfl (by kernel_rfl) ?_
 refine .sT 17 rfl ?_
 refine .gF h ?_
 refine .nil (Next.sub ?_)
 refine .tO 18 rfl (.aO h) ?_
 refine RA.bo 19 rfl i f r rfl rfl rfl (by kernel_rfl) (λd2=>?_)
 refine .sT 20 rfl ?_
 refine .gz i f r _ (λs g=>?_)
 rw[ka C]at g
 refine .nil (Next.mod rfl ?_)
 refine RA.nil (by kernel_rfl) ?_
 refine bf ?_
 exact ay s (by
  clear I D J M O F H N
  rw[m]
  first
   |exact g
   |(simp_all;done)) kE.c.c.c.c.c.c (aH [1,1])
 refine .ga 10 rfl rfl h (.fieldAddr rfl) (by kernel_rfl) ?_
 refine .ga 11 rfl rfl h (.cE rfl) (by kernel_rfl) ?_
 refine .ga 12 rfl rfl h .move (by kernel_rfl) ?_
 refine .ga 13 rfl rfl h (.bC i a4 a2 rfl rfl rfl) (by kernel_rfl) ?_
 refine .ga 14 rfl rfl h (.cE rfl) (by kernel_rfl) ?_
 refine .ga 15 rfl rfl h .move (by kernel_rfl) ?_
 refine .ga 16 rfl rfl h .makeFunc (by kernel_rfl) ?_
 refine .sT 17 rfl ?_
 refine .gT h ?_
 refine .ba (LIM.yy 152 [pT sb] vf vr a3 _ hr.rx λj hj V hR=>D j hj V λb o hb=>hR b o (.inl hb)) (λu hu=>?_)
 subst hu
 refine .nil (Next.sub ?_)
 refine .tO 18 rfl (.aN h) ?_
 refine RA.bo 19 rfl i f r rfl rfl rfl (by kernel_rfl) (λd2=>?_)
 refine .sT 20 rfl ?_
 refine .gz i f r _ (λs g=>?_)
 rw[ka C]at g
 refine .nil (Next.mod rfl ?_)
 refine RA.nil (by kernel_rfl) ?_
 refine bf ?_
 exact ay s (by
  clear I D J M O F H N
  rw[m]
  first
   |exact g
   |(simp_all;done)) kE.c.c.c.c.c.c (aH [1,1])
 have a9:n.kind≠1:=by simpa using h2
 rw[if_neg a9]at m
 refine .seq<|.sr<|.q .bK<|.az rfl ?_
 refine bx.cL [(0,_),(3,_),(5,_),(6,_),(7,_),(13,_),(14,_),(15,_),(21,_)] kE.c.c.c.c.c.c.c.c.c (X:=Unit) (λ_=>True) (λ_ E=>(44,.bool (decide (n.kind=2\/n.kind=3)))::E) (λ_=>[bl b7 n.enc 199,T,bl b3 (aF.enc ⟨Z,W,U,d,S,pl.gQ,Q,ll,nm⟩) 95]) ?_ ?_
 refine .cond rfl (λh3=>?_) λh3=>?_
 refine .skip ?_
 ·exact ay () trivial (kE.c.c.c.c.c.c.c.c.c.bP rfl (by clear m I D F H J b2;grind)) rH
 refine .region<|.q .bK<|.ag rfl<|.nil ?_
 ·exact ay () trivial (kE.c.c.c.c.c.c.c.c.c.bP rfl (by clear m I D F H J b2;grind)) rH
 intro x hx
 refine ax ?_
 refine .cond rfl (λh4=>?_) λh4=>?_
 have b0:n.kind=2\/n.kind=3:=cm h4
 rw[if_pos b0]at m
 refine .region<|.mo rfl<|.mo rfl<|.fa rfl<|.lo rfl<|.mo rfl ?_
 refine .bC i a4 a2 (λe4=>?_)
 refine .lo rfl<|.mo rfl<|.q .makeFunc ?_
 refine .ba (LIM.yy 152 [pT sb] vf vr a3 _ hr.rx λj hj V hR=>D j hj V λb o hb=>hR b o (.inl hb)) (λu hu=>?_)
 subst hu
 refine .bo i f r (λe5=>?_)
 refine .gz i f r _ (λs g=>?_)
 rw[ka C]at g
 refine .nil<|bf ?_
 exact ay s (by
  clear I D J M O F H N
  rw[m]
  first
   |exact g
   |(simp_all;done)) kE.c.c.c.c.c.c (aH [1,1])
 have b0:¬(n.kind=2\/n.kind=3):=bA h4
 rw[if_neg b0]at m
 have c0:0<=n.a/\n.a.toNat<i/\0<=n.b/\n.b.toNat<i:=by omega
 obtain⟨d5,d6,d7,d8⟩:=c0
 have a7:=yh (w:=w) (k:=k+1) (j:=n.a.toNat) (by omega)
 have a8:=yh (w:=w) (k:=k+1) (j:=n.b.toNat) (by omega)
 refine .sr<|.q .bK<|.az rfl ?_
 refine .cond rfl (λh5=>?_) λh5=>?_
 refine .region<|.mo rfl<|.mo rfl<|.mo rfl<|.fa rfl<|.lo rfl ?_
 refine .bo n.a.toNat f a7 (λe6=>?_) rfl rfl (by omega)
 refine .lo rfl<|.mo rfl ?_
 refine .split (t:=67) rfl (λK=>?_) (λK=>?_)
 refine .gF K<|.gF K<|.gF K<|.gF K<|.gF K<|.q (.aO K) ?_
 refine .bo i f r (λd3=>?_)
 refine .gz i f r _ (λs g=>?_)
 rw[ka C]at g
 refine .nil<|bf ?_
 exact ay s (by
  clear I D J M O F H N
  rw[m]
  first
   |exact g
   |(simp_all;done)) kE.c.c.c.c.c.c (aH [1,1])
 refine .gT K<|.mo rfl<|.gT K<|.fa rfl<|.gT K<|.lo rfl<|.gT K ?_
 refine .bo n.b.toNat f a8 (λe7=>?_) rfl rfl (by omega)
 refine .gT K<|.lo rfl<|.q (.aN K) ?_
 refine .bo i f r (λd3=>?_)
 refine .gz i f r _ (λs g=>?_)
 rw[ka C]at g
 refine .nil<|bf ?_
 exact ay s (by
  clear I D J M O F H N
  rw[m]
  first
   |exact g
   |(simp_all;done)) kE.c.c.c.c.c.c (aH [1,1])
 refine .sr<|.q .bK<|.az rfl ?_
 refine .cond rfl (λh6=>?_) λh6=>?_
 refine .region<|.mo rfl<|.mo rfl<|.mo rfl<|.fa rfl<|.lo rfl ?_
 refine .bo n.a.toNat f a7 (λe8=>?_) rfl rfl (by omega)
 refine .lo rfl<|.mo rfl ?_
 refine .split (t:=84) rfl (λL=>?_) (λL=>?_)
 refine .gT L<|.mo rfl<|.gT L<|.fa rfl<|.gT L<|.lo rfl<|.gT L ?_
 refine .bo n.b.toNat f a8 (λe9=>?_) rfl rfl (by omega)
 refine .gT L<|.lo rfl<|.q (.aO L) ?_
 refine .bo i f r (λd4=>?_)
 refine .gz i f r _ (λs g=>?_)
 rw[ka C]at g
 refine .nil<|bf ?_
 exact ay s (by
  clear I D J M O F H N
  rw[m]
  first
   |exact g
   |(simp_all;done)) kE.c.c.c.c.c.c (aH [1,1])
 refine .gF L<|.gF L<|.gF L<|.gF L<|.gF L<|.q (.aN L) ?_
 refine .bo i f r (λd4=>?_)
 refine .gz i f r _ (λs g=>?_)
 rw[ka C]at g
 refine .nil<|bf ?_
 exact ay s (by
  clear I D J M O F H N
  rw[m]
  first
   |exact g
   |(simp_all;done)) kE.c.c.c.c.c.c (aH [1,1])
 refine .sr<|.q .bK<|.az rfl ?_
 refine .cond rfl (λh7=>?_) λh7=>?_
 refine .region<|.mo rfl<|.mo rfl<|.mo rfl<|.fa rfl<|.lo rfl ?_
 refine .bo n.a.toNat f a7 (λf0=>?_) rfl rfl (by omega)
 refine .lo rfl<|.mo rfl ?_
 refine .split (t:=101) rfl (λB=>?_) (λB=>?_)
 refine .gT B<|.mo rfl<|.gT B<|.fa rfl<|.gT B<|.lo rfl<|.gT B ?_
 refine .bo n.b.toNat f a8 (λe1=>?_) rfl rfl (by omega)
 refine .gT B<|.lo rfl<|.gT B<|.q .not<|.q (.aO B) ?_
 refine .bo i f r (λd1=>?_)
 refine .gz i f r _ (λs g=>?_)
 rw[ka C]at g
 refine .nil<|bf ?_
 exact ay s (by
  clear I D J M O F H N
  rw[m]
  first
   |exact g
   |(simp_all;done)) kE.c.c.c.c.c.c (aH [1,1])
 refine .gF B<|.gF B<|.gF B<|.gF B<|.gF B<|.gF B<|.q (.aN B) ?_
 refine .bo i f r (λd1=>?_)
 refine .gz i f r _ (λs g=>?_)
 rw[ka C]at g
 refine .nil<|bf ?_
 exact ay s (by
  clear I D J M O F H N
  rw[m]
  first
   |exact g
   |(simp_all;done)) kE.c.c.c.c.c.c (aH [1,1])
 ·exfalso
  clear m I D F H J
  simp_all
 intro x hx
 have d0:OS 4 1 dH (.slice (some ⟨a6,0,none⟩) d.length d.length) ((w++[dm pl us vf (i+1)])++List.replicate k false) x:=hx
 refine bf<|ax<|.region ?_
 refine .ia (i+1) .add ?_
 refine .mo rfl<|.nil ?_
 ·exact aP (i+1,w++[dm pl us vf (i+1)],x) ⟨a5,by simp[C],by simp only;rw[c3];exact d0,λe he=>by
   simp only at he⊢
   rw[List.length_append,List.length_singleton]at he
   rw[tg]
   split
   ·exact M e (by assumption)
   ·rw[if_pos (by omega),show e=i by omega]⟩ (by simp only;omega) kE.c.c.c.c.c.c rH
 have c2:i=d.length:=by have:=bA Y;omega
 subst c2
 rw[Nat.sub_self]at f
 simp only[List.replicate_zero,List.append_nil]at f
 refine .exit<|bq<|bz<|bs<|ax<|.sr<|.mo rfl<|.q (.dN f) ?_
 refine .q .gtr<|.mo rfl ?_
 refine .split (t:=114) rfl (λA=>?_) (λA=>?_)
 have b1:0<d.length:=by have:=cm A;omega
 have c4:w[d.length-1]? =some (dm pl us vf d.length):=by
  have Y:=M (d.length-1) (by omega)
  rw[List.getD_eq_getElem?_getD,bu (by omega),Option.getD_some,show d.length-1+1=d.length by omega]at Y
  rw[bu (by omega),Y]
 refine .gT A<|.mo rfl<|.gT A<|.mo rfl<|.gT A<|.q (.dN f) ?_
 refine .gT A ?_
 refine .q (.i64 (((d.length-1:Nat)):Int) .sub ⟨by omega,by omega,by omega⟩) ?_
 refine .gT A ?_
 refine .bo (d.length-1) f c4 (λe2=>?_)
 refine .gT A<|.lo rfl<|.q (.aO A) ?_
 refine .az rfl ?_
 refine .ret (aM rfl ?_)
 ·first
   |exact⟨rfl,rfl⟩
   |exact⟨by rw[b1,b4],rfl⟩
 have b1:d.length=0:=by have:=bA A;omega
 refine .gF A<|.gF A<|.gF A<|.gF A<|.gF A<|.gF A<|.q (.aN A) ?_
 refine .az rfl ?_
 refine .ret (aM rfl ?_)
 ·first
   |exact⟨rfl,rfl⟩
   |exact⟨by rw[b1,b4],rfl⟩
def ld(ps:List bQ):List Bool:=ps.map (·.found)
def qi(ps:List bQ)(i:Nat):List Bool:=(ld ps).take i++List.replicate (ps.length-i) false
theorem Bh{ps:List bQ}{i:Nat}(h:i<=ps.length):(qi ps i).length=ps.length:=by unfold qi ld;simp;omega
theorem Bi{ps:List bQ}{i:Nat}{p:bQ}(h:ps[i]? =some p):qi ps (i+1)=(qi ps i).set i p.found:=by
 have c:=(List.getElem?_eq_some_iff.1 h).1
 obtain⟨k,b⟩:∃k,ps.length-i=k+1:=⟨ps.length-i-1,by omega⟩
 have a:(ld ps)[i]? =some p.found:=by unfold ld;rw[List.getElem?_map,h];rfl
 unfold qi
 rw[b,ka (by unfold ld;simp;omega),dT a,show ps.length-(i+1)=k by omega]
theorem PX{ps:List bQ}{i:Nat}{p:bQ}(h:ps[i]? =some p)(a:p.found=false):qi ps (i+1)=qi ps i:=by
 have b:=(List.getElem?_eq_some_iff.1 h).1
 rw[Bi h,a]
 refine u3 ?_ (by rw[Bh (by omega)];exact b)
 unfold qi
 rw[List.getD_eq_getElem?_getD,List.getElem?_append_right (by simp[ld];omega),List.getElem?_replicate]
 split<;>rfl
theorem PW(ps:List bQ):qi ps ps.length=ld ps:=by
 unfold qi ld
 rw[List.take_of_length_le (by simp),Nat.sub_self,List.replicate_zero,List.append_nil]
theorem Bj(ps:List bQ):qi ps 0=List.replicate ps.length false:=by unfold qi;simp
theorem P2(ps:List bQ):QW ps (qi ps 0) []:=⟨by
 have h:items ps (qi ps 0)=[]:=by
  unfold items
  rw[List.map_eq_nil_iff]
  cases hq:jM (qi ps 0)with
  |nil=>rfl
  |cons x l=>
   have:=fW.1 (show x∈jM (qi ps 0) by rw[hq];exact List.mem_cons_self)
   rw[Bj,zP]at this
   cases this
 rw[h],λk b a=>absurd a (by simp)⟩
theorem Dt(ps:List bQ)(i:Nat)(a:List Nat)(j:Nat):(gU ps i a j).length<=i+1:=by
 have b:(mj ps i j).length<=i:=by
  unfold mj
  exact Nat.le_trans (List.length_filter_le _ _) (by simp)
 unfold gU
 rw[List.length_append]
 split
 ·rw[List.length_singleton];omega
 ·rw[List.length_nil];omega
theorem BA{a:List iV}{n:Nat}{f:Nat->List Nat}(h:a.map (·.1.2)=(List.range n).map f){k:Nat}(e:k<n):∃v T,a[k]? =some ((v,f k),T):=by
 have b:=congrArg (λl=>l[k]?) h
 simp only[List.getElem?_map,List.getElem?_range e,Option.map_some]at b
 obtain⟨⟨⟨v,r⟩,T⟩,d,c⟩:=Option.map_eq_some_iff.1 b
 simp only at c
 subst c
 exact⟨v,T,d⟩
theorem BB{a:List iV}{n:Nat}{f g:Nat->List Nat}(h:a.map (·.1.2)=(List.range n).map f){k:Nat}{v:Value}{r:List Nat}{T:aB}(b:∀j,j<n->g j=if j=k then r else f j)(c:k<n):(a.set k ((v,r),T)).map (·.1.2)=(List.range n).map g:=by
 rw[List.map_set,h]
 refine List.ext_getElem? λj=>?_
 rw[List.getElem?_set]
 rcases Nat.lt_or_ge j n with hj|hj
 ·rw[List.getElem?_map,List.getElem?_map,List.getElem?_range hj,Option.map_some,Option.map_some,b j hj]
  by_cases e:k=j
  ·subst e;simp[c]
  ·rw[if_neg e,if_neg λh=>e h.symm]
 ·rw[if_neg (by omega),List.getElem?_eq_none (by simpa using hj),List.getElem?_eq_none (by simpa using hj)]
theorem Dv(ps:List bQ):(λj=>gU ps 0 [] j)=λ_=>[]:=by
 funext j
 unfold gU mj
 simp
theorem Dq(ps:List bQ):(λj=>gU ps ps.length [] j)=fL ps:=by
 funext j
 unfold gU
 rw[Df]
 simp
theorem NX(n:Nat):((List.replicate n ((((sZ,[]),[]):iV))).flatMap (·.2))=[]:=by
 rw[List.flatMap_eq_nil_iff]
 intro x a
 rw[(List.mem_replicate.1 a).2]
theorem RT(s:Value)(e:Nat)(us:ByteArray)(ps:List aF)(R:aD)(W:RS R 8 aF.enc s ps)(d4:∀p∈ps,p.is R)(g7:ps.length<=2000000)(f6:∀p∈ps,p.ll.length<=1000000)(f5:∀p∈ps,∀q∈p.ll,q.2.length<=1000000/\∀j∈q.2,j<ps.length):
  Spec prog 91 [.agg [s,iN e].toArray,.string us] R [] λu H'=>∃sb vv vb vw L LL Ta Tw Tv To,H'=[Ta,Tw,Tv,To,LL.flatMap (·.2)]/\u=pT sb/\One vv/\One vb/\One vw/\QI sb s e us vv vb vw L Ta/\QW (ps.map aF.plain) (ld (ps.map aF.plain)) L/\OS 4 1 dH vw (ld (ps.map aF.plain)) Tw/\OS 4 1 dH vv (List.replicate ps.length false) Tv/\pV vb LL To/\LL.map (·.1.2)=(List.range ps.length).map (fL (ps.map aF.plain)):=by
 have h6:=W.ap
 have g6:=W.le
 have g0:∀p∈ps,∀u∈p.enc,ap u=true:=λp O=>(d4 p O).cJ
 have e1:∀(i:Nat) (p:aF),ps[i]? =some p->(ps.map aF.plain)[i]? =some p.plain:=λi p O=>by rw[List.getElem?_map,O];rfl
 obtain⟨P,hP⟩:∃P,P=ps.map aF.plain:=⟨_,rfl⟩
 have a5:P.length=ps.length:=by rw[hP,List.length_map]
 rw[<-hP]
 rw[<-hP]at e1
 refine Spec.body Tryz.func91 rfl Tryz.results91 Tryz.ntmps91 rfl ?_
 refine .sr ?_
 refine .bW rfl (λT=>?_)
 refine .ag rfl<|.z<|.fa rfl<|.lo rfl<|.q (.bJ W) ?_
 refine .ag rfl<|.zs ?_
 refine bx.cL [(2,_)] kE.c (X:=(Nat×Nat×Nat×Nat)×(aB×aB×aB)) (λy=>OS 4 1 dH (.slice (some ⟨y.1.2.1,0,none⟩) ps.length ps.length) (List.replicate ps.length false) y.2.1/\OS 182 1 dZ (.slice (some ⟨y.1.2.2.1,0,none⟩) ps.length ps.length) (List.replicate ps.length ((sZ,[]):fA)) y.2.2.1/\OS 4 1 dH (.slice (some ⟨y.1.2.2.2,0,none⟩) ps.length ps.length) (List.replicate ps.length false) y.2.2.2) (λy E=>(6,.pointer (some ⟨y.1.1,0,none⟩))::E) (λy=>[y.2.2.1,[],js y.1.1 s e us (.slice (some ⟨y.1.2.1,0,none⟩) ps.length ps.length) (.slice (some ⟨y.1.2.2.1,0,none⟩) ps.length ps.length) (.slice (some ⟨y.1.2.2.2,0,none⟩) ps.length ps.length) (sZ),y.2.2.2,y.2.1,bl T [s,iN e] 81]) ?_ ?_
 refine .dp [] mixed ?_
 refine .tO 0 rfl (.aL rfl)<|.tO 1 rfl .move<|.tO 2 rfl .move<|.tO 4 rfl .move<|.tO 6 rfl .move ?_
 refine RA.R4 3 5 7 rfl rfl rfl (by kernel_rfl) rfl ?_ ?_ ?_
 refine .makeSlice (enc:=dH) ps.length false rfl rfl (by decide) (by simp[dH,ap]) rfl rfl (by omega) (by omega) (λC Tv n=>?_)
 refine .nil (Next.sub ?_)
 refine RA.je 5 7 rfl rfl (by kernel_rfl) rfl ?_ ?_
 refine .makeSlice (enc:=dZ) ps.length ((sZ,[]):fA) rfl rfl (by decide) (by simp[dZ,ap]) rfl rfl (by omega) (by omega) (λB A f=>?_)
 refine .nil (Next.sub ?_)
 refine .sT 7 rfl ?_
 refine .makeSlice (enc:=dH) ps.length false rfl rfl (by decide) (by simp[dH,ap]) rfl rfl (by omega) (by omega) (λD Tw k=>?_)
 refine .nil (Next.sub ?_)
 refine .tO 8 rfl .cN ?_
 refine .sT 9 rfl ?_
 refine .bW rfl (λF=>?_)
 refine .nil (Next.sub ?_)
 refine .tO 10 rfl .assign ?_
 refine RA.nil (by kernel_rfl) ?_
 ·exact ay ((F,C,B,D),(Tv,A,Tw)) ⟨n,f,k⟩ kE.c.c (aW.ff.trans (by
   first
    |exact(aH [3,0,0,0,0,0])
    |exact(aH [3,0,0,1,0,0])
    |exact(aH [2,0,0,0,0,0])
    |exact(aH [2,0,0,1,0,0])
    |exact(aH [4,0,0,0,0,0])
    |exact(aH [4,0,0,1,0,0])))
 refine .makeSlice (enc:=dH) ps.length false rfl rfl (by decide) (by simp[dH,ap]) rfl rfl (by omega) (by omega) (λD Tw k=>?_)
 refine .nil (Next.sub ?_)
 refine .sT 5 rfl ?_
 refine .makeSlice (enc:=dZ) ps.length ((sZ,[]):fA) rfl rfl (by decide) (by simp[dZ,ap]) rfl rfl (by omega) (by omega) (λB A f=>?_)
 refine .nil (Next.sub ?_)
 refine .tO 8 rfl .cN ?_
 refine .sT 9 rfl ?_
 refine .bW rfl (λF=>?_)
 refine .nil (Next.sub ?_)
 refine .tO 10 rfl .assign ?_
 refine RA.nil (by kernel_rfl) ?_
 ·exact ay ((F,C,B,D),(Tv,A,Tw)) ⟨n,f,k⟩ kE.c.c (aW.ff.trans (by
   first
    |exact(aH [3,0,0,0,0,0])
    |exact(aH [3,0,0,1,0,0])
    |exact(aH [2,0,0,0,0,0])
    |exact(aH [2,0,0,1,0,0])
    |exact(aH [4,0,0,0,0,0])
    |exact(aH [4,0,0,1,0,0])))
 refine .makeSlice (enc:=dZ) ps.length ((sZ,[]):fA) rfl rfl (by decide) (by simp[dZ,ap]) rfl rfl (by omega) (by omega) (λB A f=>?_)
 refine .nil (Next.sub ?_)
 refine RA.je 3 7 rfl rfl (by kernel_rfl) rfl ?_ ?_
 refine .makeSlice (enc:=dH) ps.length false rfl rfl (by decide) (by simp[dH,ap]) rfl rfl (by omega) (by omega) (λC Tv n=>?_)
 refine .nil (Next.sub ?_)
 refine .sT 7 rfl ?_
 refine .makeSlice (enc:=dH) ps.length false rfl rfl (by decide) (by simp[dH,ap]) rfl rfl (by omega) (by omega) (λD Tw k=>?_)
 refine .nil (Next.sub ?_)
 refine .tO 8 rfl .cN ?_
 refine .sT 9 rfl ?_
 refine .bW rfl (λF=>?_)
 refine .nil (Next.sub ?_)
 refine .tO 10 rfl .assign ?_
 refine RA.nil (by kernel_rfl) ?_
 ·exact ay ((F,C,B,D),(Tv,A,Tw)) ⟨n,f,k⟩ kE.c.c (aW.ff.trans (by
   first
    |exact(aH [3,0,0,0,0,0])
    |exact(aH [3,0,0,1,0,0])
    |exact(aH [2,0,0,0,0,0])
    |exact(aH [2,0,0,1,0,0])
    |exact(aH [4,0,0,0,0,0])
    |exact(aH [4,0,0,1,0,0])))
 refine .makeSlice (enc:=dH) ps.length false rfl rfl (by decide) (by simp[dH,ap]) rfl rfl (by omega) (by omega) (λD Tw k=>?_)
 refine .nil (Next.sub ?_)
 refine .sT 3 rfl ?_
 refine .makeSlice (enc:=dH) ps.length false rfl rfl (by decide) (by simp[dH,ap]) rfl rfl (by omega) (by omega) (λC Tv n=>?_)
 refine .nil (Next.sub ?_)
 refine .tO 8 rfl .cN ?_
 refine .sT 9 rfl ?_
 refine .bW rfl (λF=>?_)
 refine .nil (Next.sub ?_)
 refine .tO 10 rfl .assign ?_
 refine RA.nil (by kernel_rfl) ?_
 ·exact ay ((F,C,B,D),(Tv,A,Tw)) ⟨n,f,k⟩ kE.c.c (aW.ff.trans (by
   first
    |exact(aH [3,0,0,0,0,0])
    |exact(aH [3,0,0,1,0,0])
    |exact(aH [2,0,0,0,0,0])
    |exact(aH [2,0,0,1,0,0])
    |exact(aH [4,0,0,0,0,0])
    |exact(aH [4,0,0,1,0,0])))
 refine .makeSlice (enc:=dH) ps.length false rfl rfl (by decide) (by simp[dH,ap]) rfl rfl (by omega) (by omega) (λD Tw k=>?_)
 refine .nil (Next.sub ?_)
 refine RA.je 3 5 rfl rfl (by kernel_rfl) rfl ?_ ?_
 refine .makeSlice (enc:=dH) ps.length false rfl rfl (by decide) (by simp[dH,ap]) rfl rfl (by omega) (by omega) (λC Tv n=>?_)
 refine .nil (Next.sub ?_)
 refine .sT 5 rfl ?_
 refine .makeSlice (enc:=dZ) ps.length ((sZ,[]):fA) rfl rfl (by decide) (by simp[dZ,ap]) rfl rfl (by omega) (by omega) (λB A f=>?_)
 refine .nil (Next.sub ?_)
 refine .tO 8 rfl .cN ?_
 refine .sT 9 rfl ?_
 refine .bW rfl (λF=>?_)
 refine .nil (Next.sub ?_)
 refine .tO 10 rfl .assign ?_
 refine RA.nil (by kernel_rfl) ?_
 ·exact ay ((F,C,B,D),(Tv,A,Tw)) ⟨n,f,k⟩ kE.c.c (aW.ff.trans (by
   first
    |exact(aH [3,0,0,0,0,0])
    |exact(aH [3,0,0,1,0,0])
    |exact(aH [2,0,0,0,0,0])
    |exact(aH [2,0,0,1,0,0])
    |exact(aH [4,0,0,0,0,0])
    |exact(aH [4,0,0,1,0,0])))
 refine .makeSlice (enc:=dZ) ps.length ((sZ,[]):fA) rfl rfl (by decide) (by simp[dZ,ap]) rfl rfl (by omega) (by omega) (λB A f=>?_)
 refine .nil (Next.sub ?_)
 refine .sT 3 rfl ?_
 refine .makeSlice (enc:=dH) ps.length false rfl rfl (by decide) (by simp[dH,ap]) rfl rfl (by omega) (by omega) (λC Tv n=>?_)
 refine .nil (Next.sub ?_)
 refine .tO 8 rfl .cN ?_
 refine .sT 9 rfl ?_
 refine .bW rfl (λF=>?_)
 refine .nil (Next.sub ?_)
 refine .tO 10 rfl .assign ?_
 refine RA.nil (by kernel_rfl) ?_
 ·exact ay ((F,C,B,D),(Tv,A,Tw)) ⟨n,f,k⟩ kE.c.c (aW.ff.trans (by
   first
    |exact(aH [3,0,0,0,0,0])
    |exact(aH [3,0,0,1,0,0])
    |exact(aH [2,0,0,0,0,0])
    |exact(aH [2,0,0,1,0,0])
    |exact(aH [4,0,0,0,0,0])
    |exact(aH [4,0,0,1,0,0])))
 intro y hy
 obtain⟨⟨sb,C,B,D⟩,⟨Tv,A,Tw⟩⟩:=y
 obtain⟨n,f,k⟩:=hy
 simp only at n f k⊢
 obtain⟨vv,e4⟩:∃v,v=Value.slice (some ⟨C,0,none⟩) ps.length ps.length:=⟨_,rfl⟩
 obtain⟨vb,e3⟩:∃v,v=Value.slice (some ⟨B,0,none⟩) ps.length ps.length:=⟨_,rfl⟩
 obtain⟨vw,e5⟩:∃v,v=Value.slice (some ⟨D,0,none⟩) ps.length ps.length:=⟨_,rfl⟩
 rw[<-e4]at n⊢
 rw[<-e3]at f⊢
 rw[<-e5]at k⊢
 clear e4 e3 e5
 have i1:=n.ap
 have i2:=f.ap
 have i3:=k.ap
 refine ax<|.seq<|.sr<|.fa rfl<|.lo rfl<|.q (.bJ W) ?_
 refine .mo rfl<|.zn<|.block ?_
 refine .cx [(6,_),(28,_),(29,_)] (X:=Nat×List dF×List iV×(aB×aB×aB)) (λy=>y.1<=ps.length/\QI sb s e us vv vb vw y.2.1 y.2.2.2.1/\QW P (qi P y.1) y.2.1/\OS 4 1 dH vw (qi P y.1) y.2.2.2.2.1/\pV vb y.2.2.1 y.2.2.2.2.2/\y.2.2.1.map (·.1.2)=(List.range ps.length).map λj=>gU P y.1 [] j) (λy E=>(30,iN y.1)::E) (λy G=>y.2.2.2.2.2::y.2.2.1.flatMap (·.2)::y.2.2.2.1::y.2.2.2.2.1::G) (λy=>ps.length-y.1) (0,[],List.replicate ps.length (((sZ,[]),[]):iV),(js sb s e us vv vb vw (sZ),Tw,A)) ⟨Nat.zero_le _,⟨_,[],(List.append_nil _).symm,OS.nil,by simp⟩,P2 P,by simp only;rw[Bj,a5];exact k,⟨by simp only[List.map_replicate];exact f,λq hq=>by rw[(List.mem_replicate.1 hq).2];exact OS.nil⟩,by simp only;rw[Dv];simp[List.map_const']⟩ kE.c.c.c.c (aW.ez (by simp only[NX];exact .refl _)) ?_
 rintro⟨i,L,LL,⟨Ta,Tw,To⟩⟩ ⟨hi,M,U,k,w,g⟩
 simp only at hi M U k w g⊢
 refine .sr<|.q .lss<|.zs ?_
 refine .cond rfl (λh1=>?_) λh1=>?_
 have V:i<ps.length:=cr h1
 obtain⟨p,O⟩:=bR V
 have b7:=aZ O
 have b6:=d4 p b7
 have b1:=e1 i p O
 have d6:=f5 p b7
 have f7:=f6 p b7
 have h0:bZ p.enc:=⟨b6.cJ⟩
 have f1:p.plain.leads.flatten=p.ll.flatMap (·.2):=by unfold aF.plain;simp[List.flatMap_def]
 have f2:p.plain.found=p.found:=rfl
 have b4:=Dr b1
 have Z:=Bi b1
 have a0:=PX b1
 rw[f1]at b4
 rw[f2]at Z a0
 generalize p.plain=pp at *
 obtain⟨k0,I,vn,a3,vu,a4,S,ll,nm⟩:=p
 have a6:RS R 1 dZ S ll:=b6.l.rs
 have d9:=b6.l.all
 simp only at b4 Z a0 d6 f7 d9
 have i4:=a6.ap
 obtain⟨vq,Tq,d3,c9,e8⟩:=M
 have M:QI sb s e us vv vb vw L Ta:=⟨vq,Tq,d3,c9,e8⟩
 have i5:=c9.ap
 have j2:PS Ta (pT sb) [s,iN e,.string us,vv,vb,vw,vq]:=PS.of (E:=206) (fr:=(0,0)) (by rw[d3];simp)
 refine .kn<|.seq<|.block<|.sr<|.mo rfl ?_
 refine .bC i W O (λh7=>?_)
 refine .q (.aL rfl) ?_
 refine .bN (λb8=>?_)
 refine .ag rfl<|.bH rfl rfl<|.zs<|.sr<|.fa rfl<|.lo rfl<|.q (.bJ a6) ?_
 refine .mo rfl<|.zn<|.block ?_
 refine .cx [(6,_),(7,_),(8,_),(28,_),(29,_),(30,_),(36,_),(37,_)] (X:=Nat×List iV×aB) (λy=>y.1<=ll.length/\pV vb y.2.1 y.2.2/\y.2.1.map (·.1.2)=(List.range ps.length).map λj=>gU P i ((ll.take y.1).flatMap (·.2)) j) (λy E=>(38,iN y.1)::E) (λy _=>[bl b8 (aF.enc ⟨k0,I,vn,a3,vu,a4,S,ll,nm⟩) 95,y.2.2,y.2.1.flatMap (·.2),Ta,Tw,Tv,bl T [s,iN e] 81]) (λy=>ll.length-y.1) (0,LL,To) ⟨Nat.zero_le _,w,by simpa using g⟩ kE.c.c.c.c.c.c.c.c.c rH (G:=[]) ?_
 rintro⟨m,LL,To⟩ ⟨hm,w,g⟩
 simp only at hm w g⊢
 refine .sr<|.q .lss<|.zs ?_
 refine .cond rfl (λh2=>?_) λh2=>?_
 have e0:m<ll.length:=cr h2
 obtain⟨⟨vr,H⟩,a7⟩:=bR e0
 have e2:=aZ a7
 have hr:RS R 1 cW vr H:=d9 _ e2
 obtain⟨g2,d7⟩:=d6 _ e2
 simp only at g2 d7
 have i6:=hr.ap
 have g3:(ll.take (m+1)).flatMap (·.2)=(ll.take m).flatMap (·.2)++H:=by rw[dT a7,List.flatMap_append];simp
 generalize (ll.take m).flatMap (·.2)=seen0 at *
 have j0:PC R (eC S (m*1)) (dZ (vr,H)):=a6.pc a7
 refine .kn<|.seq<|.block<|.sr ?_
 refine .bC m a6 a7 (λh8=>?_)
 refine .lo rfl<|.ag rfl<|.z<|.mo rfl<|.q (.bJ hr) ?_
 refine .mo rfl<|.zn<|.block ?_
 refine .cx [(6,_),(7,_),(8,_),(28,_),(29,_),(30,_),(36,_),(37,_),(38,_),(42,_),(43,_)] (X:=Nat×List iV×aB) (λy=>y.1<=H.length/\pV vb y.2.1 y.2.2/\y.2.1.map (·.1.2)=(List.range ps.length).map λj=>gU P i (seen0++H.take y.1) j) (λy E=>(44,iN y.1)::E) (λy _=>[bl b8 (aF.enc ⟨k0,I,vn,a3,vu,a4,S,ll,nm⟩) 95,y.2.2,y.2.1.flatMap (·.2),Ta,Tw,Tv,bl T [s,iN e] 81]) (λy=>H.length-y.1) (0,LL,To) ⟨Nat.zero_le _,w,by simpa using g⟩ kE.c.c.c.c.c.c.c.c.c.c.c.c rH (G:=[]) ?_
 rintro⟨j,LL,To⟩ ⟨hj,w,g⟩
 simp only at hj w g⊢
 refine .sr<|.q .lss<|.zs ?_
 refine .cond rfl (λh3=>?_) λh3=>?_
 have d8:j<H.length:=cr h3
 obtain⟨d,b0⟩:=bR d8
 have c1:d<ps.length:=d7 d (aZ b0)
 have f9:seen0++H.take (j+1)=(seen0++H.take j)++[d]:=by rw[dT b0,List.append_assoc]
 generalize seen0++H.take j=seen at *
 obtain⟨vk,Tk,hk⟩:=BA g c1
 have N:=Ds P i seen d
 have a9:=λj=>Du P i seen d j
 have e9:=Dt P i seen d
 obtain⟨r,b9⟩:∃r,r=gU P i seen d:=⟨_,rfl⟩
 rw[<-b9]at hk N e9
 obtain⟨f,J⟩:=w
 have K:=J _ (aZ hk)
 simp only at K
 have i7:One vk:=K.ap
 have Y:(LL.map (·.1))[d]? =some (vk,r):=by rw[List.getElem?_map,hk];rfl
 have i9:PS To (eC vb (d*1)) (dZ (vk,r)):=⟨f.pc Y⟩
 have j3:PC R (eC vr (j*1)) (cW d):=hr.pc b0
 obtain⟨L1,L2,a1,g5,a8⟩:=As hk
 have g8:=K.le
 refine .kn<|.seq<|.block<|.sr ?_
 refine .bC j hr b0 (λi0=>?_)
 refine .lo rfl<|.ag rfl<|.z<|.mo rfl ?_
 refine .nc rfl<|.fa rfl<|.lo rfl<|.mo rfl<|.q (.bC d f.sg Y rfl rfl rfl) ?_
 refine .lo rfl<|.q (.bJ K.sg) ?_
 refine .ag rfl<|.zs ?_
 refine bx.cL [(6,_),(7,_),(8,_),(12,_),(28,_),(29,_),(30,_),(36,_),(37,_),(38,_),(42,_),(43,_),(44,_)] kE.c.c.c.c.c.c.c.c.c.c.c.c.c (X:=Unit) (λ_=>True) (λ_ E=>(72,.bool (!decide (d∈seen)))::E) (λ_=>[bl b8 (aF.enc ⟨k0,I,vn,a3,vu,a4,S,ll,nm⟩) 95,To,LL.flatMap (·.2),Ta,Tw,Tv,bl T [s,iN e] 81]) ?_ ?_
 refine .region<|.mo rfl<|.q .bK<|.mo rfl ?_
 refine .split (t:=58) rfl (λa=>?_) (λa=>?_)
 have g1:r=[]:=by
  have h9:=cm a
  exact List.eq_nil_of_length_eq_zero (by omega)
 have b5:(!decide (d∈seen))=true:=by
  rw[g1]at N
  simp only[List.getLast?_nil]at N
  have:¬d∈seen:=λh=>by have:=N.2 h;cases this
  simp[this]
 rw[b5]
 refine .gF a<|.gF a<|.gF a<|.gF a<|.gF a<|.gF a<|.gF a<|.gF a<|.gF a<|.gF a<|.gF a<|.gF a<|.gF a<|.q (.aO a) ?_
 refine .nil ?_
 ·exact ay () trivial kE.c.c.c.c.c.c.c.c.c.c.c.c.c.c rH
 have g9:0<r.length:=by
  have h9:=bA a
  omega
 obtain⟨x,Q⟩:∃x,r[r.length-1]? =some x:=⟨_,bu (by omega)⟩
 have j1:PS (LL.flatMap (·.2)) (eC vk ((r.length-1)*1)) (cW x):=⟨(K.pc Q).mono λb o hb=>List.mem_flatMap.2 ⟨_,aZ hk,hb⟩⟩
 have b5:(!decide (d∈seen))=((x:Int) !=(i:Nat)):=by
  rw[List.getLast?_eq_getElem?,Q]at N
  by_cases h:d∈seen
  ·have h2:=N.2 h
   injection h2 with h2
   simp[h,h2]
  ·have h2:¬x=i:=λe=>h (N.1 (by rw[e]))
   have h3:¬((x:Int)=(i:Int)):=by omega
   rw[bne_iff_ne.2 h3]
   simp[h]
 rw[b5]
 refine .gT a<|.mo rfl<|.gT a<|.nc rfl<|.gT a<|.fa rfl<|.gT a<|.lo rfl<|.gT a<|.mo rfl<|.gT a<|.q (.bC d f.sg Y rfl rfl rfl) ?_
 refine .gT a<|.lo rfl<|.gT a<|.mo rfl<|.gT a ?_
 refine .ia (r.length-1) .sub ?_
 refine .gT a<|.q (.bC (r.length-1) K.sg Q rfl rfl rfl) ?_
 refine .gT a<|.lo rfl<|.gT a<|.mo rfl<|.gT a<|.q .dS<|.q (.aN a) ?_
 refine .nil ?_
 ·exact ay () trivial kE.c.c.c.c.c.c.c.c.c.c.c.c.c.c rH
 intro y hy
 refine ax ?_
 refine bx.cL [(6,_),(7,_),(8,_),(28,_),(29,_),(30,_),(36,_),(37,_),(38,_),(42,_),(43,_),(44,_)] kE.c.c.c.c.c.c.c.c.c.c.c.c (X:=List iV×aB) (λy=>pV vb y.1 y.2/\y.1.map (·.1.2)=(List.range ps.length).map λj=>gU P i (seen++[d]) j) (λ_ E=>E) (λy=>[bl b8 (aF.enc ⟨k0,I,vn,a3,vu,a4,S,ll,nm⟩) 95,y.2,y.1.flatMap (·.2),Ta,Tw,Tv,bl T [s,iN e] 81]) ?_ ?_
 refine .cond rfl (λh4=>?_) λh4=>?_
 have a2:¬d∈seen:=by simpa using h4
 refine bx.le (dL.refl _) (aW.ez (H':=[bl b8 (aF.enc ⟨k0,I,vn,a3,vu,a4,S,ll,nm⟩) 95,To,Tk,L1.flatMap (·.2)++L2.flatMap (·.2),Ta,Tw,Tv,bl T [s,iN e] 81]) (by
  rw[a1]
  simp only[List.flatMap_append,List.flatMap_cons,List.flatten_cons,List.flatten_nil,List.append_nil]
  refine .append_left _ (.append_left _ ?_)
  simp only[<-List.append_assoc]
  refine .append_right _ (.append_right _ (.append_right _ (.append_right _ (.append_right _ ?_))))
  exact List.perm_append_comm)) ?_
 refine .rR [1,1] [14,16] mixed ?_
 conv=>arg 3;simp only[take,rest,bL,List.getD_cons_zero,List.getD_cons_succ]
 conv=>arg 5;simp only[take,rest,bL,List.getD_cons_zero,List.getD_cons_succ]
 conv=>arg 9;simp only[take,rest,bL,List.getD_cons_zero,List.getD_cons_succ]
 refine .tK 0 rfl .move ?_
 refine .tK 1 rfl (.lq rfl) ?_
 refine .tK 2 rfl (.eF rfl) ?_
 refine .tK 3 rfl (.cE rfl)<|.tK 4 rfl .move<|.tO 5 rfl .move<|.tO 6 rfl (.nilCheck rfl)<|.tO 7 rfl (.fieldAddr rfl)<|.tO 8 rfl (.cE rfl)<|.tO 9 rfl .move ?_
 refine .tO 10 rfl (.bC d f.sg Y rfl rfl rfl) ?_
 refine .tO 11 rfl (.cE rfl)<|.tO 12 rfl .move ?_
 refine .sT 13 rfl ?_
 refine .jT (λg4=>?_)
 refine .nil (Next.sub ?_)
 refine .sT 14 rfl ?_
 refine .append K (RS.lits (xs:=[i]) rfl (by simp[cW]) (by simp[cW,ap])) (by simp only[List.length_singleton];omega) (λv5 T5 c2=>?_)
 obtain⟨c3,c5,rfl,_⟩:=c2.shape
 refine .nil (Next.mod rfl ?_)
 refine RA.bo 15 rfl d f Y rfl rfl rfl (by kernel_rfl) (λi8=>?_)
 refine .sT 16 rfl ?_
 refine .gz d f Y ((.slice c3 (r++[i]).length c5,r++[i]):fA) (λTn c8=>?_)
 refine .nil (Next.mod rfl ?_)
 refine RA.nil (by kernel_rfl) ?_
 ·first
   |exact ay (LL,To) ⟨⟨f,J⟩,by
      simp only
      rw[g]
      refine List.map_congr_left λx _=>?_
      rw[a9,if_neg λh=>h.2 a2]⟩ kE.c.c.c.c.c.c.c.c.c.c.c.c rH
   |exact ay (LL.set d ((.slice c3 (r++[i]).length c5,r++[i]),T5),Tn) ⟨⟨by simp only;rw[List.map_set];exact c8,λq hq=>by
      simp only at hq
      rw[a8]at hq
      rcases List.mem_append.1 hq with hq|hq
      ·exact J q (by rw[a1];exact List.mem_append_left _ hq)
      ·rcases List.mem_cons.1 hq with rfl|hq
       ·exact c2
       ·exact J q (by rw[a1];exact List.mem_append_right _ (List.mem_cons_of_mem _ hq))⟩,by
      simp only
      refine BB g (λx Q=>?_) c1
      rw[a9,b9]
      by_cases e:x=d
      ·subst e;rw[if_pos ⟨rfl,a2⟩,if_pos rfl]
      ·rw[if_neg λh=>e h.1,if_neg e]⟩ kE.c.c.c.c.c.c.c.c.c.c.c.c (by
      simp only
      rw[a8]
      refine(aH [3,1,1,1,1,1,1,1]).trans (aW.ez ?_)
      simp only[take,rest,bL,List.getD_cons_zero,List.getD_cons_succ,List.flatMap_append,List.flatMap_cons,List.flatten_cons,List.flatten_nil,List.append_nil,List.cons_append,List.nil_append]
      refine .cons _ (.append_left _ ?_)
      simp only[<-List.append_assoc]
      refine .append_right _ (.append_right _ (.append_right _ (.append_right _ (.append_right _ ?_))))
      exact List.perm_append_comm)
 have a2:d∈seen:=by simpa using h4
 refine .skip ?_
 ·first
   |exact ay (LL,To) ⟨⟨f,J⟩,by
      simp only
      rw[g]
      refine List.map_congr_left λx _=>?_
      rw[a9,if_neg λh=>h.2 a2]⟩ kE.c.c.c.c.c.c.c.c.c.c.c.c rH
   |exact ay (LL.set d ((.slice c3 (r++[i]).length c5,r++[i]),T5),Tn) ⟨⟨by simp only;rw[List.map_set];exact c8,λq hq=>by
      simp only at hq
      rw[a8]at hq
      rcases List.mem_append.1 hq with hq|hq
      ·exact J q (by rw[a1];exact List.mem_append_left _ hq)
      ·rcases List.mem_cons.1 hq with rfl|hq
       ·exact c2
       ·exact J q (by rw[a1];exact List.mem_append_right _ (List.mem_cons_of_mem _ hq))⟩,by
      simp only
      refine BB g (λx Q=>?_) c1
      rw[a9,b9]
      by_cases e:x=d
      ·subst e;rw[if_pos ⟨rfl,a2⟩,if_pos rfl]
      ·rw[if_neg λh=>e h.1,if_neg e]⟩ kE.c.c.c.c.c.c.c.c.c.c.c.c (by
      simp only
      rw[a8]
      refine(aH [3,1,1,1,1,1,1,1]).trans (aW.ez ?_)
      simp only[take,rest,bL,List.getD_cons_zero,List.getD_cons_succ,List.flatMap_append,List.flatMap_cons,List.flatten_cons,List.flatten_nil,List.append_nil,List.cons_append,List.nil_append]
      refine .cons _ (.append_left _ ?_)
      simp only[<-List.append_assoc]
      refine .append_right _ (.append_right _ (.append_right _ (.append_right _ (.append_right _ ?_))))
      exact List.perm_append_comm)
 intro x Q
 obtain⟨e6,e7⟩:=x
 obtain⟨d2,c0⟩:=Q
 simp only at d2 c0⊢
 rw[<-f9]at c0
 refine bf<|ax<|.region ?_
 refine .ia (j+1) .add ?_
 refine .mo rfl<|.nil ?_
 ·exact aP (j+1,e6,e7) ⟨d8,d2,c0⟩ (by simp only;omega) kE.c.c.c.c.c.c.c.c.c.c.c.c rH
 have f4:H.length<=j:=by have:=bA h3;omega
 rw[dx f4, <-g3]at g
 refine .exit<|bq<|bz<|bs<|bf<|ax<|.region ?_
 refine .ia (m+1) .add ?_
 refine .mo rfl<|.nil ?_
 ·exact aP (m+1,LL,To) ⟨e0,w,g⟩ (by simp only;omega) kE.c.c.c.c.c.c.c.c.c rH
 have f8:ll.length<=m:=by have:=bA h2;omega
 rw[dx f8]at g
 have g:LL.map (·.1.2)=(List.range ps.length).map λj=>gU P (i+1) [] j:=by rw[g];exact List.map_congr_left λx _=>b4 x
 refine .exit<|bq<|bz<|bs<|ax<|.sr<|.fa rfl<|.lo rfl<|.zn ?_
 refine .cond rfl (λh5=>?_) λh5=>?_
 have f3:I=true:=h5
 subst f3
 refine .region<|.mo rfl<|.mo rfl ?_
 refine .call [3,3] (Cb sb s e us vv vb vw L Ta Tw M ps _ W.rx g0 (qi P i) k (by rw[Bh (by omega),a5]) (hP▸U) i V (by omega)) (λu H' hu=>?_)
 obtain⟨c6,c7,c4,rfl,d1,d0,b3⟩:=hu
 rw[<-hP]at b3
 conv=>arg 8;simp only[rest,bL,List.cons_append,List.nil_append]
 refine .nil<|bf<|ax<|.region ?_
 refine .ia (i+1) .add ?_
 refine .mo rfl<|.nil ?_
 ·first
   |exact aP (i+1,c4,LL,(c6,c7,To)) ⟨V,d1,by simp only;rw[Z];exact b3,by simp only;rw[Z];exact d0,w,g⟩ (by simp only;omega) kE.c.c.c.c (aH [3,3,0,0,1,1])
   |exact aP (i+1,L,LL,(Ta,Tw,To)) ⟨V,M,by simp only;rw[a0 rfl];exact U,by simp only;rw[a0 rfl];exact k,w,g⟩ (by simp only;omega) kE.c.c.c.c (aH [1,1,1,1,1,1])
 have f0:I=false:=h5
 subst f0
 refine .skip<|bf<|ax<|.region ?_
 refine .ia (i+1) .add ?_
 refine .mo rfl<|.nil ?_
 ·first
   |exact aP (i+1,c4,LL,(c6,c7,To)) ⟨V,d1,by simp only;rw[Z];exact b3,by simp only;rw[Z];exact d0,w,g⟩ (by simp only;omega) kE.c.c.c.c (aH [3,3,0,0,1,1])
   |exact aP (i+1,L,LL,(Ta,Tw,To)) ⟨V,M,by simp only;rw[a0 rfl];exact U,by simp only;rw[a0 rfl];exact k,w,g⟩ (by simp only;omega) kE.c.c.c.c (aH [1,1,1,1,1,1])
 have d5:i=ps.length:=by have:=bA h1;omega
 rw[d5, <-a5,PW]at U k
 have g:LL.map (·.1.2)=(List.range ps.length).map (fL P):=by
  rw[g,d5]
  refine List.map_congr_left λx _=>?_
  rw[<-a5]
  exact congrFun (Dq P) x
 refine .exit<|bq<|bz<|bs<|ax<|.sr<|.mo rfl<|.az rfl ?_
 refine .ret (bk _ (.one (.tmp rfl)) (aH [2,2,2,0,0]) ?_)
 ·exact⟨sb,vv,vb,vw,L,LL,Ta,Tw,Tv,To,rfl,rfl,i1,i2,i3,M,U,k,n,w,g⟩
structure mi(ps:List aF)(us:ByteArray):Prop where
 ok:kg (ps.map aF.plain) us
 tr:∀p∈ps,∀i,i<p.nodes.length->(tree isWord p.nodes (i+1)).isSome=true
 nl:∀p∈ps,p.nodes.length<=1000000
 rl:∀p∈ps,∀q∈p.ll,q.2.length<=1000000
 n:ps.length<=2000000
 ed:oZ (ps.map aF.plain)<=1000000000
theorem mi.ll{ps:List aF}{us:ByteArray}(h:mi ps us):∀p∈ps,p.ll.length=p.nodes.length:=λp c=>by
 have:=h.ok.ln p.plain (List.mem_map.2 ⟨p,c,rfl⟩)
 have a:p.plain.leads.length=p.ll.length:=by unfold aF.plain;simp
 have b:p.plain.nodes=p.nodes:=rfl
 rw[a,b]at this
 exact this
theorem mi.jl{ps:List aF}{us:ByteArray}(h:mi ps us):∀p∈ps,∀q∈p.ll,∀j∈q.2,j<ps.length:=λp b q c j a=>by
 have:=h.ok.lt p.plain (List.mem_map.2 ⟨p,b,rfl⟩) j (List.mem_flatten.2 ⟨q.2,List.mem_map.2 ⟨q,c,rfl⟩,a⟩)
 rwa [List.length_map]at this
def ec(b:Int)(K:Nat)(v:List Bool):List Bool×Nat×Int:=
 if b<1 then([],0,2)else if b<K then([],b.toNat+1,16)else(v,K,0)
theorem Pm(l:List Bool):dO l<=l.length:=List.countP_le_length
theorem dV.more{ps:List bQ}{us:ByteArray}{K k:Nat}{s t:QS}(h:dV ps us K s)(a:jc s.2)(b:dV ps us k t)(d:¬jc t.2):k<K:=by
 rcases Nat.lt_trichotomy k K with h1|h1|h1
 ·exact h1
 ·subst h1
  rw[h.dY b]at a
  exact absurd a d
 ·obtain⟨u,i,f,c⟩:=b.wS h1
  have e:=h.dY f
  subst e
  have:=c.1
  rw[a i]at this
  cases this
theorem qI(f:Value)(e:Nat)(us:ByteArray)(ps:List aF)(R:aD)(b8:RS R 8 aF.enc f ps)(c2:∀p∈ps,p.is R)(J:mi ps us)(b:Int)(Q:b<=9223372036854775807)(K:Nat)(s:QS)(hK:dV (ps.map aF.plain) us K s)(hs:jc s.2):
  Spec prog 42 [.agg [f,iN e].toArray,.string us,.int .i64 b] R [] λu H'=>∃T,H'=[T]/\∃vo,u=.tuple [vo,.int .i64 ((ec b K s.1).2.1:Nat),.int .i64 (ec b K s.1).2.2].toArray/\OS 4 1 dH vo (ec b K s.1).1 T:=by
 have k9:=b8.ap
 have f5:∀p∈ps,∀u∈p.enc,ap u=true:=λp d=>(c2 p d).cJ
 have e9:=J.n
 have f0:=J.ll
 have e7:=J.jl
 have f1:=J.nl
 have j5:=J.tr
 have f4:∀(i:Nat) (p:aF),ps[i]? =some p->(ps.map aF.plain)[i]? =some p.plain:=λi p d=>by rw[List.getElem?_map,d];rfl
 have f2:=RT f e us ps
 have j8:=Cb
 have h0:=J.ed
 have a8:=J.ok
 have N:(ps.map aF.plain).length=ps.length:=List.length_map _
 have e0:∀i,∀k∈fL (ps.map aF.plain) i,k<ps.length:=λi k hk=>by
  have:=(a8.sL hk).1
  rwa [N]at this
 have e1:∀i,(fL (ps.map aF.plain) i).length<=ps.length:=λi=>by
  unfold fL
  refine Nat.le_trans (List.length_filter_le _ _) ?_
  rw[List.length_range,N]
  exact Nat.le_refl _
 have c4:=λk t (h:dV (ps.map aF.plain) us k t)=>(h.inv a8).lp a8
 have e5:=λk t (h:dV (ps.map aF.plain) us k t)=>h.inv a8
 have i0:fE (ps.map aF.plain)<=2000000:=by
  unfold fE
  refine Nat.le_trans (Pm _) ?_
  rw[List.length_map,N]
  exact e9
 have e3:∀(i:Nat) (p:aF) (vf:Nat->Bool),ps[i]? =some p->(eX (ps.map aF.plain) us).ex i vf=dm p.plain us vf p.nodes.length:=λi p vf d=>by
  show(match (ps.map aF.plain)[i]? with|none=>false|some p=>dm p us vf p.nodes.length)=_
  rw[f4 i p d];rfl
 obtain⟨P,hP⟩:∃P,P=ps.map aF.plain:=⟨_,rfl⟩
 rw[<-hP]at hK f4 h0 a8 e0 e1 c4 e5 i0 f2 N e3
 have k5:(List.replicate P.length false,ld P)=(List.replicate P.length false,P.map (·.found)):=rfl
 refine Spec.body Tryz.func42 rfl Tryz.results42 Tryz.ntmps42 rfl ?_
 refine .sr ?_
 refine .bW rfl (λb3=>?_)
 refine .ag rfl<|.ag rfl<|.ag rfl<|.zs<|.sr<|.mo rfl<|.q .lss<|.zn ?_
 refine .cond rfl (λh1=>?_) λh1=>?_
 have S:b<1:=cm h1
 refine .sr<|.ag rfl<|.ag rfl<|.az rfl ?_
 refine .ret (aI (bk _ (.three (.tmp rfl) (.tmp rfl) (.tmp rfl)) (aW.ff.trans (aH [0])) ?_))
 ·exact⟨[],rfl,sZ,by unfold ec;rw[if_pos S];rfl,by unfold ec;rw[if_pos S];exact OS.nil⟩
 have S:¬b<1:=bA h1
 refine .kn<|.sr<|.q (.aL rfl)<|.mo rfl ?_
 refine .call [] (f2 _ b8.rx (λp d=>(c2 p d).mono λb o Q=>.inl Q) e9 (λp d=>by rw[f0 p d];exact f1 p d) (λp d q hq=>⟨J.rl p d q hq,e7 p d q hq⟩)) (λu H' F=>?_)
 obtain⟨A,g,r,l,L,LL,V,Tw,Y,To,rfl,rfl,i1,i2,i3,a0,O,b4,B,d6,j2⟩:=F
 conv=>arg 8;simp only[rest,bL,List.cons_append,List.nil_append]
 refine .ag rfl<|.z<|.ag rfl<|.zs<|.block ?_
 refine .cx [(2,_),(3,_),(9,_)] (X:=Nat×(List Bool×List Bool)×List dF×(aB×aB×aB)) (λy=>dV P us y.1 y.2.1/\(y.1:Int)<=b/\QI A f e us g r l y.2.2.1 y.2.2.2.1/\QW P y.2.1.2 y.2.2.1/\OS 4 1 dH l y.2.1.2 y.2.2.2.2.1/\OS 4 1 dH g y.2.1.1 y.2.2.2.2.2) (λy E=>(10,iN y.1)::E) (λy G=>y.2.2.2.1::y.2.2.2.2.1::y.2.2.2.2.2::G) (λy=>fE P+oZ P-y.1) (0,(List.replicate P.length false,ld P),L,(V,Tw,Y)) ⟨.start,by simp only;omega,a0,O,b4,by simp only;rw[N];exact B⟩ kE.c.c.c.c rH ?_
 rintro⟨k,⟨v,q⟩,L,⟨V,Tw,Y⟩⟩ ⟨a4,h8,a0,O,b4,B⟩
 simp only at a4 h8 a0 O b4 B⊢
 have k4:=c4 _ _ a4
 have e6:=e5 _ _ a4
 have f8:v.length=ps.length:=by rw[<-N];exact e6.l1
 have j1:q.length=ps.length:=by rw[<-N];exact e6.l2
 obtain⟨vq,Tq,c1,b9,g6⟩:=a0
 have a0:QI A f e us g r l L V:=⟨vq,Tq,c1,b9,g6⟩
 have i5:=b9.ap
 have l8:PS V (pT A) [f,iN e,.string us,g,r,l,vq]:=PS.of (E:=206) (fr:=(0,0)) (by rw[c1];simp)
 have j3:RS (sg V) 2 dF.enc vq L:=b9.rs λp d=>by rw[c1];exact List.mem_append_right _ d
 refine .seq<|.sr<|.mo rfl<|.nc rfl<|.fa rfl<|.lo rfl ?_
 refine .ba (B9 vq L _ j3.nt) (λu F=>?_)
 subst F
 refine .q .gtr<|.zn ?_
 refine .cond rfl (λh2=>?_) λh2=>?_
 have g5:0<L.length:=cr h2
 obtain⟨x,hx⟩:=bR g5
 obtain⟨i4,_,k7⟩:=zZ O.p O.h hx
 have k3:k<K:=hK.more hs a4 λh=>by have:=i4.1;rw[h x.2]at this;cases this
 have k1:=c4 _ _ hK
 refine .kn<|.block<|.seq<|.sr<|.mo rfl<|.mo rfl<|.q .bK<|.zn ?_
 refine .cond rfl (λh3=>?_) λh3=>?_
 have e8:(k:Int)=b:=by simpa using h3
 refine .sr<|.mo rfl ?_
 refine .ia (k+1) .add ?_
 refine .ag rfl<|.ag rfl<|.az rfl ?_
 refine .ret (aI (bp (cF (bp (aI (bk _ (.three (.tmp rfl) (.tmp rfl) (.tmp rfl)) (aW.ff.trans (aH [0])) ?_))))))
 ·have d9:b<(K:Int):=by omega
  exact⟨[],rfl,sZ,by unfold ec;rw[if_neg S,if_pos d9];simp only;rw[<-e8];rfl,by unfold ec;rw[if_neg S,if_pos d9];exact OS.nil⟩
 have e8:(k:Int)≠b:=by simpa using h3
 refine .kn<|.sr<|.mo rfl ?_
 refine .ia (k+1) .add ?_
 refine .ag rfl<|.z<|.mo rfl ?_
 refine .call [0,0] (RU A f e us g r l L V Tw a0 _ P q b4 O x hx) (λu H' F=>?_)
 obtain⟨W,b0,a9,rfl,rfl,a6,b5,b6,f3,j9⟩:=F
 obtain⟨xa,i⟩:=x
 simp only at f3 j9 b5 b6
 conv=>arg 8;simp only[rest,bL,List.cons_append,List.nil_append]
 have e4:i<ps.length:=by omega
 obtain⟨bi,b7⟩:∃b,v[i]? =some b:=⟨_,bu (by omega)⟩
 have j6:v.getD i false=bi:=by rw[List.getD_eq_getElem?_getD,b7];rfl
 obtain⟨p,d⟩:=bR e4
 have a2:=aZ d
 have k8:bZ p.enc:=⟨f5 p a2⟩
 have h7:=e3 i p (λj=>v.getD j false) d
 obtain⟨c6,g0,d7,d2,g7⟩:=a6
 have a6:QI A f e us g r l a9 W:=⟨c6,g0,d7,d2,g7⟩
 have i6:=d2.ap
 have k0:PS W (pT A) [f,iN e,.string us,g,r,l,c6]:=PS.of (E:=206) (fr:=(0,0)) (by rw[d7];simp)
 have C:=dV.step a4 f3
 have j0:ue P us (v,q) i=if v.getD i false|| !(eX P us).ex i (λj=>v.getD j false)then(v,q.set i false)else(v.set i true,(fL P i).foldl (gR (v.set i true)) (q.set i false)):=rfl
 rw[j0,j6,h7]at C
 refine .ag rfl<|.zs<|.seq ?_
 refine bx.cL [(2,_),(3,_),(9,_),(10,_),(11,_)] kE.c.c.c.c.c (X:=Unit) (λ_=>True) (λ_ E=>(50,.bool (bi|| !dm p.plain us (λj=>v.getD j false) p.nodes.length))::E) (λ_=>[W,b0,Y,To,LL.flatMap (·.2),bl b3 [f,iN e] 81]) ?_ ?_
 refine .region<|.mo rfl<|.nc rfl<|.fa rfl<|.lo rfl<|.mo rfl ?_
 refine .bo i B b7 (λl0=>?_)
 refine .lo rfl<|.mo rfl ?_
 refine .split (t:=41) rfl (λa=>?_) (λa=>?_)
 refine .gF a<|.gF a<|.gF a<|.gF a<|.gF a<|.gF a<|.gF a<|.gF a<|.q (.aO a) ?_
 refine .nil ?_
 ·first
   |exact ay () trivial (kE.c.c.c.c.c.bP rfl (by rw[a];rfl)) rH
   |exact ay () trivial (kE.c.c.c.c.c.bP rfl (by rw[a];simp)) rH
 refine .gT a<|.mo rfl<|.gT a<|.fa rfl<|.gT a<|.lo rfl<|.gT a<|.mo rfl<|.gT a ?_
 refine .bC i b8 d (λl3=>?_)
 refine .gT a<|.q (.aL rfl)<|.gT a ?_
 refine .ba (RY A f e us g r l c6 p v _ ((c2 p a2).mono λb o Q=>.inl Q) (B.sg.nt) (k0.h.mono λb o Q=>.inr (by simp[sg]at Q;simp[Q])) (f0 p a2) (f1 p a2) (λq hq j hj=>by rw[f8];exact e7 p a2 q hq j hj) (j5 p a2)) (λu F=>?_)
 subst F
 refine .gT a<|.q .not<|.q (.aN a) ?_
 refine .nil ?_
 ·first
   |exact ay () trivial (kE.c.c.c.c.c.bP rfl (by rw[a];rfl)) rH
   |exact ay () trivial (kE.c.c.c.c.c.bP rfl (by rw[a];simp)) rH
 intro y hy
 refine ax ?_
 refine .cond rfl (λh4=>?_) λh4=>?_
 rw[h4]at C
 simp only[if_true]at C
 refine .exit<|bq<|bs ?_
 ·first
   |exact aP (k+1,(v,q.set i false),a9,(W,b0,Y)) ⟨C,by simp only;omega,a6,b6,b5,B⟩ (by simp only;omega) kE.c.c.c.c rH
   |exact aP (k+1,(D,w),U,(M,a5,c8)) ⟨by rw[a3];exact C,by simp only;omega,H,a1,Z,b2⟩ (by simp only;omega) kE.c.c.c.c rH
 rw[h4]at C
 simp only[Bool.false_eq_true,if_false]at C
 obtain⟨vk,Tk,hk⟩:=BA j2 e4
 have d1:=d6.1
 have b1:=d6.2 _ (aZ hk)
 simp only at b1
 have i7:One vk:=b1.ap
 have f6:(LL.map (·.1))[i]? =some (vk,fL P i):=by rw[List.getElem?_map,hk];rfl
 have l6:PS To (eC r (i*1)) (dZ (vk,fL P i)):=⟨d1.pc f6⟩
 have g9:=e0 i
 have k2:=e1 i
 generalize fL P i=row at *
 obtain⟨D,c5⟩:∃D,D=v.set i true:=⟨_,rfl⟩
 rw[<-c5]at C
 have k6:D.length=ps.length:=by rw[c5,List.length_set];exact f8
 have f7:RS (sg (LL.flatMap (·.2))) 1 cW vk row:=b1.rs λp d=>List.mem_flatMap.2 ⟨_,aZ hk,d⟩
 refine .kn<|.sr<|.mo rfl<|.nc rfl<|.fa rfl<|.lo rfl<|.mo rfl ?_
 refine .bo i B b7 (λl4=>?_)
 refine .gz i B b7 true (λc8 b2=>?_)
 rw[<-c5]at b2
 refine .z<|.mo rfl<|.nc rfl<|.fa rfl<|.lo rfl<|.mo rfl<|.q (.bC i d1.sg f6 rfl rfl rfl) ?_
 refine .lo rfl<|.q (.bJ b1.sg) ?_
 refine .mo rfl<|.zn<|.block ?_
 refine .cx [(2,_),(3,_),(9,_),(10,_),(63,_),(64,_)] (X:=Nat×List Bool×List dF×(aB×aB)) (λy=>y.1<=row.length/\y.2.1=(row.take y.1).foldl (gR D) (q.set i false)/\QI A f e us g r l y.2.2.1 y.2.2.2.1/\QW P y.2.1 y.2.2.1/\OS 4 1 dH l y.2.1 y.2.2.2.2) (λy E=>(65,iN y.1)::E) (λy G=>y.2.2.2.1::y.2.2.2.2::G) (λy=>row.length-y.1) (0,q.set i false,a9,(W,b0)) ⟨Nat.zero_le _,rfl,a6,b6,b5⟩ kE.c.c.c.c.c.c.c rH ?_
 rintro⟨m,w,U,⟨M,a5⟩⟩ ⟨hm,a3,H,a1,Z⟩
 simp only at hm a3 H a1 Z⊢
 have i9:w.length=ps.length:=by rw[a3,xA,List.length_set];exact j1
 obtain⟨f9,g1,d8,d3,g8⟩:=H
 have H:QI A f e us g r l U M:=⟨f9,g1,d8,d3,g8⟩
 have i8:=d3.ap
 have l9:PS M (pT A) [f,iN e,.string us,g,r,l,f9]:=PS.of (E:=206) (fr:=(0,0)) (by rw[d8];simp)
 refine .sr<|.q .lss<|.zs ?_
 refine .cond rfl (λh5=>?_) λh5=>?_
 have a7:m<row.length:=cr h5
 obtain⟨t,ht⟩:=bR a7
 have j4:t<ps.length:=g9 t (aZ ht)
 have l7:PS (LL.flatMap (·.2)) (eC vk (m*1)) (cW t):=⟨f7.pc ht⟩
 obtain⟨bt,e2⟩:∃b,D[t]? =some b:=⟨_,bu (by omega)⟩
 have j7:D.getD t false=bt:=by rw[List.getD_eq_getElem?_getD,e2];rfl
 have I:(row.take (m+1)).foldl (gR D) (q.set i false)=if bt then w else w.set t true:=by
  rw[dT ht,List.foldl_append, <-a3]
  show gR D w t=_
  unfold gR
  rw[j7]
 refine .kn<|.seq<|.block<|.sr<|.q (.bC m f7 ht rfl rfl rfl) ?_
 refine .lo rfl<|.ag rfl<|.z<|.mo rfl ?_
 refine .nc rfl<|.fa rfl<|.lo rfl<|.mo rfl ?_
 refine .bo t b2 e2 (λl5=>?_)
 refine .lo rfl<|.q .not<|.zn ?_
 refine .cond rfl (λh6=>?_) λh6=>?_
 have c3:bt=false:=by simpa using h6
 rw[c3]at I
 simp only[Bool.false_eq_true,if_false]at I
 refine .region<|.mo rfl<|.mo rfl ?_
 refine .call [0,0] (j8 A f e us g r l U M a5 H ps _ b8.rx f5 w Z i9 (hP▸a1) t j4 (by omega)) (λu H' F=>?_)
 obtain⟨c7,c9,L4,rfl,d5,d4,c0⟩:=F
 rw[<-hP]at c0
 conv=>arg 8;simp only[rest,bL,List.cons_append,List.nil_append]
 refine .nil<|bf<|ax<|.region ?_
 refine .ia (m+1) .add ?_
 refine .mo rfl<|.nil ?_
 ·first
   |exact aP (m+1,w.set t true,L4,(c7,c9)) ⟨a7,I.symm,d5,c0,d4⟩ (by simp only;omega) kE.c.c.c.c.c.c.c rH
   |exact aP (m+1,w,U,(M,a5)) ⟨a7,I.symm,H,a1,Z⟩ (by simp only;omega) kE.c.c.c.c.c.c.c rH
 have c3:bt=true:=by simpa using h6
 rw[c3]at I
 simp only[if_true]at I
 refine .skip<|bf<|ax<|.region ?_
 refine .ia (m+1) .add ?_
 refine .mo rfl<|.nil ?_
 ·first
   |exact aP (m+1,w.set t true,L4,(c7,c9)) ⟨a7,I.symm,d5,c0,d4⟩ (by simp only;omega) kE.c.c.c.c.c.c.c rH
   |exact aP (m+1,w,U,(M,a5)) ⟨a7,I.symm,H,a1,Z⟩ (by simp only;omega) kE.c.c.c.c.c.c.c rH
 have h9:row.length<=m:=by have:=bA h5;omega
 rw[dx h9]at a3
 refine .exit<|bq<|bz<|bs<|bf ?_
 ·first
   |exact aP (k+1,(v,q.set i false),a9,(W,b0,Y)) ⟨C,by simp only;omega,a6,b6,b5,B⟩ (by simp only;omega) kE.c.c.c.c rH
   |exact aP (k+1,(D,w),U,(M,a5,c8)) ⟨by rw[a3];exact C,by simp only;omega,H,a1,Z,b2⟩ (by simp only;omega) kE.c.c.c.c rH
 have g4:L=[]:=List.eq_nil_of_length_eq_zero (by have:=bA h2;omega)
 obtain⟨g2,g3⟩:=hK.last hs a4 (Oi O.p g4)
 have d0:¬b<(K:Int):=by omega
 refine .exit<|bq<|bz<|bs<|ax<|.sr<|.mo rfl<|.nc rfl<|.fa rfl<|.lo rfl<|.mo rfl<|.ag rfl<|.ag rfl<|.az rfl ?_
 refine .ret (bk _ (.three (.tmp rfl) (.tmp rfl) (.tmp rfl)) (aH [2]) ?_)
 ·exact⟨Y,rfl,g,by unfold ec;rw[if_neg S,if_neg d0,g2],by unfold ec;rw[if_neg S,if_neg d0,g3];exact B⟩
theorem NV(us d c a b:ByteArray){si:ByteArray}:jW ⟨us,d,si,c⟩ ⟨a,b⟩=((!decide (us=⟨#[]⟩)&&decide (a=⟨#[]⟩)&&decide (b=⟨#[]⟩))||(decide (us=⟨#[]⟩)&& !decide (a=⟨#[]⟩)&&decide (a=d)&&decide (b=c))):=by
 unfold jW
 by_cases h:us=⟨#[]⟩<;>simp[h]
theorem P5(c:bM)(R:aD)(h:c.is R)(hf:c.ig)(t:aC):Spec prog 148 [.agg c.enc.toArray,.agg t.enc.toArray] R [] λu H'=>u=.bool (allowed c.plain t.cQ t.sub)/\H'=[]:=by
 have a6:=ug c R h hf
 have i1:One c.vs:=RS.ap h.ss
 have i2:One c.vc:=RS.ap h.sc
 have a1:=wA h
 have s:allowed c.plain t.cQ t.sub=match bX c.plain.all ⟨t.os,t.rel⟩with
  |none=>false
  |some i=>((c.plain.all.map (·.2.types)).getD i []).any (jW t.sub):=rfl
 have T:=pa c
 obtain⟨l,V,m,n,A,si,v⟩:=t
 have a7:aC.sub ⟨l,V,m,n,A,si,v⟩=⟨n,A,si,v⟩:=rfl
 rw[a7]at s⊢
 refine Spec.body Tryz.func148 rfl Tryz.results148 Tryz.ntmps148 rfl ?_
 refine .sr ?_
 refine .bW rfl (λW=>?_)
 refine .bW rfl (λY=>?_)
 refine .ag rfl<|.z<|.q (.aL rfl) ?_
 refine .cK (a6.weaken cU) (λu L I=>?_)
 have iu:=I.ap
 have a3:qQ (λb o=>R b o\/(b,o)∈L) u c.fO:=⟨I.rs λp hp=>.inr hp,λx C=>(a1 x C).mono λb o F=>.inl F⟩
 refine .ag rfl<|.z<|.mo rfl<|.fa rfl<|.fa rfl<|.lo rfl<|.fa rfl<|.lo rfl ?_
 refine .ba ((pA _ _ _ a3 l m).weaken λb o F=>F.elim .inl λF=>.inr (by simp[F])) (λw hw=>?_)
 subst hw
 rw[T]
 refine .ag rfl<|.zs<|.sr<|.mo rfl<|.q .lss<|.zn ?_
 refine .cond rfl (λB=>?_) λB=>?_
 have hn:bX c.plain.all ⟨l,m⟩=none:=by
  cases hh:bX c.plain.all ⟨l,m⟩with
  |none=>rfl
  |some i=>rw[hh]at B;simp only[fI]at B;have:=cm B;omega
 refine .sr<|.az rfl ?_
 refine .ret (aI (aM rfl ?_))
 ·exact⟨by rw[s,hn],rfl⟩
 obtain⟨i,S⟩:∃i,bX c.plain.all ⟨l,m⟩=some i:=by
  cases hh:bX c.plain.all ⟨l,m⟩with
  |none=>rw[hh]at B;simp[fI]at B
  |some i=>exact⟨i,rfl⟩
 rw[S]
 have a4:i<c.fO.length:=by have:=wV S;rw[<-T,List.length_map]at this;exact this
 obtain⟨⟨sn,vt,vn,r⟩,C⟩:=bR a4
 have a2:=a1 _ (aZ C)
 have K:RS R 2 Ty.enc vt r.types:=a2.t
 have b0:=K.ap
 have a9:One vn:=RS.ap a2.d
 have a5:(c.plain.all.map (·.2.types)).getD i []=r.types:=by
  rw[List.getD_eq_getElem?_getD,List.getElem?_map, <-T,List.getElem?_map,C];rfl
 rw[S]at s
 simp only[a5]at s
 have a8:=K.le
 refine .kn<|.seq<|.sr<|.az rfl<|.block ?_
 refine .cx [(3,_),(5,_),(6,_)] (X:=Nat) (λj=>j<=r.types.length/\(r.types.take j).any (jW ⟨n,A,si,v⟩)=false) (λj E=>(7,iN j)::E) (λ_ G=>G) (λj=>r.types.length-j) 0 ⟨Nat.zero_le _,rfl⟩ kE.c.c.c.c rH ?_
 rintro j ⟨hj,U⟩
 refine .seq<|.sr<|.mo rfl<|.mo rfl<|.mo rfl ?_
 refine .bo i I C (λb1=>?_)
 refine .fa rfl<|.fa rfl<|.lo rfl<|.q (.bJ K) ?_
 refine .q .lss<|.zn ?_
 refine .cond rfl (λM=>?_) λM=>?_
 have a0:j<r.types.length:=cr M
 obtain⟨⟨D,H⟩,J⟩:=bR a0
 have Q:=NV n A v D H (si:=si)
 refine .kn<|.seq<|.block<|.sr<|.mo rfl<|.mo rfl ?_
 refine .bo i I C (λb4=>?_)
 refine .fa rfl<|.fa rfl<|.lo rfl<|.mo rfl ?_
 refine .bC j K J (λb5=>?_)
 refine .q (.aL rfl) ?_
 refine .bN (λZ=>?_)
 refine .bH rfl rfl<|.zs<|.seq ?_
 refine bx.cL [(3,_),(5,_),(6,_),(7,_),(8,_)] kE.c.c.c.c.c (X:=Unit) (λ_=>True) (λ_ E=>(53,.bool (!decide (n=⟨#[]⟩)&&decide (D=⟨#[]⟩)&&decide (H=⟨#[]⟩)))::E) (λ_=>[bl Z (Ty.enc ⟨D,H⟩) 249,L,bl Y (aC.enc ⟨l,V,m,n,A,si,v⟩) 119,bl W c.enc 25]) ?_ ?_
 refine .region<|.fa rfl<|.fa rfl<|.lo rfl<|.q .gv<|.mo rfl ?_
 refine .split (t:=44) rfl (λg=>?_) (λg=>?_)
 refine .gT g<|.fa rfl<|.gT g<|.lo rfl<|.gT g<|.q .dW<|.q (.aO g) ?_
 refine .mo rfl ?_
 refine .split (t:=49) rfl (λk=>?_) (λk=>?_)
 refine .gT k<|.fa rfl<|.gT k<|.lo rfl<|.gT k<|.q .dW<|.q (.aO k) ?_
 refine .nil ?_
 ·exact ay () trivial (kE.c.c.c.c.c.bP rfl (by grind)) rH
 refine .gF k<|.gF k<|.gF k<|.q (.aN k) ?_
 refine .nil ?_
 ·exact ay () trivial (kE.c.c.c.c.c.bP rfl (by grind)) rH
 refine .gF g<|.gF g<|.gF g<|.q (.aN g) ?_
 refine .mo rfl<|.gX<|.gX<|.gX<|.q .cT<|.nil ?_
 ·exact ay () trivial (kE.c.c.c.c.c.bP rfl (by grind)) rH
 intro y hy
 refine ax ?_
 refine .cond rfl (λN=>?_) λN=>?_
 refine .sr<|.az rfl ?_
 refine .ret (aI (bp (aI (cF (bp (aI (aM rfl ?_)))))))
 ·exact⟨by rw[s,ow J (by rw[Q,N];rfl)],rfl⟩
 refine .kn<|.seq ?_
 refine bx.cL [(3,_),(5,_),(6,_),(7,_)] kE.c.c.c.c (X:=Unit) (λ_=>True) (λ_ E=>(79,.bool (decide (n=⟨#[]⟩)&& !decide (D=⟨#[]⟩)&&decide (D=A)&&decide (H=v)))::E) (λ_=>[bl Z (Ty.enc ⟨D,H⟩) 249,L,bl Y (aC.enc ⟨l,V,m,n,A,si,v⟩) 119,bl W c.enc 25]) ?_ ?_
 refine .region<|.fa rfl<|.fa rfl<|.lo rfl<|.q .dW<|.mo rfl ?_
 refine .split (t:=58) rfl (λf=>?_) (λf=>?_)
 refine .gT f<|.fa rfl<|.gT f<|.lo rfl<|.gT f<|.q .gv<|.q (.aO f) ?_
 refine .mo rfl ?_
 refine .split (t:=63) rfl (λa=>?_) (λa=>?_)
 refine .gT a<|.fa rfl<|.gT a<|.lo rfl<|.gT a<|.fa rfl<|.gT a<|.fa rfl<|.gT a<|.fa rfl<|.gT a<|.lo rfl<|.gT a<|.q .dW<|.q (.aO a) ?_
 refine .mo rfl ?_
 refine .split (t:=72) rfl (λe=>?_) (λe=>?_)
 refine .gT e<|.fa rfl<|.gT e<|.lo rfl<|.gT e<|.fa rfl<|.gT e<|.fa rfl<|.gT e<|.lo rfl<|.gT e<|.q .dW<|.q (.aO e) ?_
 refine .nil ?_
 ·exact ay () trivial (kE.c.c.c.c.bP rfl (by grind)) rH
 refine .gF e<|.gF e<|.gF e<|.gF e<|.gF e<|.gF e<|.q (.aN e) ?_
 refine .nil ?_
 ·exact ay () trivial (kE.c.c.c.c.bP rfl (by grind)) rH
 refine .gF a<|.gF a<|.gF a<|.gF a<|.gF a<|.gF a<|.gF a<|.q (.aN a) ?_
 refine .mo rfl<|.gX<|.gX<|.gX<|.gX<|.gX<|.gX<|.q .cT<|.nil ?_
 ·exact ay () trivial (kE.c.c.c.c.bP rfl (by grind)) rH
 refine .gF f<|.gF f<|.gF f<|.q (.aN f) ?_
 refine .mo rfl<|.gX<|.gX<|.gX<|.gX<|.gX<|.gX<|.gX<|.q .cT<|.mo rfl<|.gX<|.gX<|.gX<|.gX<|.gX<|.gX<|.q .cT<|.nil ?_
 ·exact ay () trivial (kE.c.c.c.c.bP rfl (by grind)) rH
 intro y hy
 refine ax ?_
 refine .cond rfl (λO=>?_) λO=>?_
 refine .sr<|.az rfl ?_
 refine .ret (bp (aI (cF (bp (aI (aM rfl ?_))))))
 ·exact⟨by rw[s,ow J (by rw[Q,O,Bool.or_true])],rfl⟩
 refine .skip<|bf<|ax<|.region<|.mo rfl ?_
 refine .ia (j+1) .add ?_
 refine .ag rfl<|.nil ?_
 ·exact aP (j+1) ⟨a0,qT J U (by rw[Q,N,O];rfl)⟩ (by omega) kE.c.c.c.c (aW.drop [0] _)
 refine .exit<|bq<|bz<|bs<|ax<|.sr<|.az rfl ?_
 refine .ret (aM rfl ?_)
 ·rw[dx (gj M)]at U
  exact⟨by rw[s,U],rfl⟩
theorem Bt(c:bM)(R:aD)(h:c.is R)(M:c.ig){b:Nat}{S:cZ}{Y:Value}{L:List bB}(J:DV R b S Y L)(U:L.length<=512)(d:Int)(k:bc)(sub:bc->List Sub)(D:sub=λk=>if scan S d then(L.filter λy=>y.there d&&decide (y.t.cQ=k)).map (·.t.sub)else []):
  Spec prog 88 [.agg c.enc.toArray,pT b,.int .u64 d,.agg [.string k.os,.string k.oi].toArray,.string k.rel] R [] λu H'=>∃T,H'=[T]/\OS 117 4 Sub.enc u (fitting c.plain sub k) T:=by
 have K:=P5 c R h M
 have i1:One c.vs:=RS.ap h.ss
 have i2:One c.vc:=RS.ap h.sc
 have a3:(sub k).length<=512:=by
  rw[D]
  simp only
  split
  ·rw[List.length_map]
   exact Nat.le_trans (List.length_filter_le _ _) U
  ·simp
 have N:fitting c.plain sub k=(sub k).filter (allowed c.plain k):=rfl
 have V:sub k=if scan S d then(L.filter λy=>y.there d&&decide (y.t.cQ=k)).map (·.t.sub)else []:=by rw[D]
 rw[N]
 generalize a1:sub k=l at *
 have O:∀i,((l.take i).filter (allowed c.plain k)).length<=512:=λi=>Nat.le_trans (List.length_filter_le _ _) (by rw[List.length_take];omega)
 refine Spec.body Tryz.func88 rfl Tryz.results88 Tryz.ntmps88 rfl ?_
 refine .sr ?_
 refine .bW rfl (λb5=>?_)
 refine .bW rfl (λb8=>?_)
 refine .ag rfl<|.z<|.ag rfl<|.z<|.mo rfl<|.q (.aL rfl)<|.mo rfl<|.mo rfl ?_
 refine .cK ((J.Sb (by omega) k d).weaken cU) (λu Z f=>?_)
 rw[<-V]at f
 have iu:=f.ap
 refine .ag rfl<|.zs<|.sr<|.az rfl<|.block ?_
 refine .cx [(4,_),(5,_),(8,_),(12,_)] (X:=Nat×Value×aB) (λy=>y.1<=l.length/\OS 117 4 Sub.enc y.2.1 ((l.take y.1).filter (allowed c.plain k)) y.2.2) (λy E=>(13,iN y.1)::(11,y.2.1)::E) (λy G=>y.2.2::G) (λy=>l.length-y.1) (0,sZ,[]) ⟨Nat.zero_le _,OS.nil⟩ kE.c.c.c.c.c.c aW.ff ?_
 rintro⟨i,I,p⟩ ⟨Q,a⟩
 simp only at Q a⊢
 have io:=a.ap
 refine .seq<|.sr<|.mo rfl<|.mo rfl<|.q (.dN f) ?_
 refine .q .lss<|.zn ?_
 refine .cond rfl (λr=>?_) λr=>?_
 have e:i<l.length:=cr r
 obtain⟨s,x⟩:=bR e
 have a2:=O i
 have F:=dT x
 obtain⟨n,m,g,j⟩:=s
 refine .kn<|.seq<|.block<|.seq ?_
 refine .dU 8 mixed (by kernel_rfl) ?_
 conv=>arg 6;dsimp only[List.take]
 refine .q (.aL rfl)<|.q (.aL rfl)<|.mo rfl<|.mo rfl<|.mo rfl ?_
 refine .bo i f x (λa4=>?_)
 refine .q (.aL rfl) ?_
 refine .q .cN ?_
 refine .nil ?_
 refine .ba ((K ⟨k.os,k.oi,k.rel,n,m,g,j⟩).weaken cU) (λw W=>?_)
 subst W
 refine .zn ?_
 refine .cond rfl (λv=>?_) λv=>?_
 have B:allowed c.plain k ⟨n,m,g,j⟩=true:=v
 have o:(l.take (i+1)).filter (allowed c.plain k)=(l.take i).filter (allowed c.plain k)++[(⟨n,m,g,j⟩:Sub)]:=by rw[F,List.filter_append];simp[B]
 refine .region<|.mo rfl<|.mo rfl<|.mo rfl ?_
 refine .bo i f x (λa5=>?_)
 refine .q (.aL rfl) ?_
 refine .dM (λa0=>?_)
 refine .append a (RS.lits (xs:=[(⟨n,m,g,j⟩:Sub)]) rfl (by simp[Sub.enc]) (by simp[Sub.enc,ap])) (by simp only[List.length_singleton];omega) (λH C A=>?_)
 rw[<-o]at A
 refine .ag rfl<|.nil<|bf<|ax<|.region<|.mo rfl ?_
 refine .ia (i+1) .add ?_
 refine .ag rfl<|.nil ?_
 ·first
   |exact aP (i+1,H,C) ⟨e,A⟩ (by simp only;omega) kE.c.c.c.c.c.c (aW.drop [0] _)
   |exact aP (i+1,I,p) ⟨e,by simp only;rw[o];exact a⟩ (by simp only;omega) kE.c.c.c.c.c.c rH
 have B:allowed c.plain k ⟨n,m,g,j⟩=false:=v
 have o:(l.take (i+1)).filter (allowed c.plain k)=(l.take i).filter (allowed c.plain k):=by rw[F,List.filter_append];simp[B]
 refine .skip<|bf<|ax<|.region<|.mo rfl ?_
 refine .ia (i+1) .add ?_
 refine .ag rfl<|.nil ?_
 ·first
   |exact aP (i+1,H,C) ⟨e,A⟩ (by simp only;omega) kE.c.c.c.c.c.c (aW.drop [0] _)
   |exact aP (i+1,I,p) ⟨e,by simp only;rw[o];exact a⟩ (by simp only;omega) kE.c.c.c.c.c.c rH
 refine .exit<|bq<|bz<|bs<|ax<|.sr<|.mo rfl<|.az rfl ?_
 refine .ret (bk _ (.one (.tmp rfl)) (.one [0] _) ?_)
 ·rw[dx (gj r)]at a
  exact⟨p,by simp[take],a⟩
theorem Ref.eqv(a b c d:ByteArray):eE [Value.string a,.string b] [Value.string c,.string d]=decide (a=c/\b=d):=by
 have:=Ty.eq ⟨a,b⟩ ⟨c,d⟩
 simp only[Ty.enc,Ty.mk.injEq]at this
 exact this
theorem Qg(v:Value)(ps:List aF)(R:aD)(h:RS R 8 aF.enc v ps)(k:bc):
  Spec prog 90 [v,.agg [.string k.os,.string k.oi].toArray,.string k.rel] R [] λu H'=>u=.int .i64 (fI (fg (ps.map aF.plain) k))/\H'=[]:=by
 have K:=h.le
 have M:=h.ap
 obtain⟨os,oi,rel⟩:=k
 refine Spec.body Tryz.func90 rfl Tryz.results90 Tryz.ntmps90 rfl ?_
 refine .sr ?_
 refine .bW rfl (λA=>?_)
 refine .ag rfl<|.zs<|.sr<|.az rfl<|.block ?_
 refine .cx [(0,_),(2,_),(4,_)] (X:=Nat) (λi=>i<=ps.length/\∀j p,j<i->ps[j]? =some p->p.k≠⟨os,oi,rel⟩) (λi E=>(7,iN i)::E) (λ_ G=>G) (λi=>ps.length-i) 0 ⟨Nat.zero_le _,λj x f=>absurd f (by omega)⟩ kE.c.c.c.c rH ?_
 rintro i ⟨J,w⟩
 refine .seq<|.sr<|.mo rfl<|.mo rfl<|.q (.bJ h) ?_
 refine .q .lss<|.zn ?_
 refine .cond rfl (λn=>?_) λn=>?_
 have s:i<ps.length:=cr n
 obtain⟨p,g⟩:=bR s
 have L:bZ p.enc:=⟨h.one p (aZ g)⟩
 obtain⟨⟨d,b,m⟩,I,W,O,Y,U,V,N,Q⟩:=p
 refine .kn<|.seq<|.block<|.seq ?_
 refine bx.cL [(0,_),(2,_),(4,_),(7,_)] kE.c.c.c.c (X:=Unit) (λ_=>True) (λ_ E=>(29,.bool (decide (d=os/\b=oi)&&decide (m=rel)))::E) (λ_=>[bl A [.string os,.string oi] 44]) ?_ ?_
 refine .fX mixed (by kernel_rfl) ?_
 refine .mo rfl<|.mo rfl ?_
 refine .bC i h g (λS=>?_)
 refine .fa rfl<|.q (.loadT rfl) ?_
 refine .q (.aL rfl)<|.q (.cast (.mQ (xs:=[.string d,.string b]) (ys:=[.string os,.string oi]) rfl rfl (Ty.kinds ⟨d,b⟩) (Ty.kinds ⟨os,oi⟩)) (congrArg Value.bool (Ref.eqv d b os oi))) ?_
 refine .mo rfl ?_
 refine .split (t:=21) rfl (λa=>?_) (λa=>?_)
 refine .gT a<|.mo rfl<|.gT a<|.mo rfl<|.gT a ?_
 refine .bC i h g (λT=>?_)
 refine .gT a<|.fa rfl<|.gT a<|.lo rfl<|.gT a<|.mo rfl<|.gT a<|.q .dW<|.q (.aO a) ?_
 refine .nil ?_
 ·exact ay () trivial (kE.c.c.c.c.bP rfl (by grind)) rH
 refine .gF a<|.gF a<|.gF a<|.gF a<|.gF a<|.gF a<|.gF a<|.q (.aN a) ?_
 refine .nil ?_
 ·exact ay () trivial (kE.c.c.c.c.bP rfl (by grind)) rH
 intro y z
 refine ax ?_
 refine .cond rfl (λo=>?_) λo=>?_
 refine .sr<|.mo rfl<|.az rfl ?_
 refine .ret (bp (aI (cF (bp (aI (aM rfl ?_))))))
 ·refine⟨?_,rfl⟩
  have r:(d=os/\b=oi)/\m=rel:=by simpa using o
  have:fg (ps.map aF.plain) ⟨os,oi,rel⟩=some i:=by
   unfold fg
   rw[List.findIdx?_eq_some_iff_getElem]
   refine⟨by rw[List.length_map];exact s,?_,λj f=>?_⟩
   ·have e:=(List.getElem?_eq_some_iff.1 g).2
    rw[List.getElem_map,e]
    exact decide_eq_true (by show(⟨d,b,m⟩:bc)=_;rw[r.1.1,r.1.2,r.2])
   ·rw[List.getElem_map]
    have:=w j _ f (bu (by omega))
    exact λB=>this (cm B)
  rw[this]
  rfl
 refine .skip<|bf<|ax<|.region<|.mo rfl ?_
 refine .ia (i+1) .add ?_
 refine .ag rfl<|.nil ?_
 ·exact aP (i+1) ⟨s,λj x f l=>by
   rcases Nat.lt_or_ge j i with hh|hh
   ·exact w j x hh l
   ·obtain rfl:j=i:=by omega
    rw[g]at l
    cases l
    intro C
    injection C with k1 k2 k3
    have D:d=os:=k1
    have F:b=oi:=k2
    have H:m=rel:=k3
    subst D;subst F;subst H
    simp at o⟩ (by omega) kE.c.c.c.c rH
 refine .exit<|bq<|bz<|bs<|ax<|.sr<|.az rfl ?_
 refine .ret (aM rfl ?_)
 ·refine⟨?_,rfl⟩
  have:fg (ps.map aF.plain) ⟨os,oi,rel⟩=none:=by
   unfold fg
   rw[List.findIdx?_eq_none_iff]
   intro x l
   obtain⟨y,z,rfl⟩:=List.mem_map.1 l
   obtain⟨j,f,e⟩:=List.mem_iff_getElem.1 z
   have:=w j y (by have:=bA n;omega) (by rw[bu f,e])
   exact decide_eq_false this
  rw[this]
  rfl
def sH(c:Cf)(sub:bc->List Sub)(k:bc)(n:Nd):List Sub:=(ej c sub k n).map λx=>⟨⟨#[]⟩,x.os,x.oi,x.rel⟩
theorem P3(c:bM)(R:aD)(h:c.is R)(hf:c.ig){b:Nat}{S:cZ}{vL:Value}{L:List bB}(hD:DV R b S vL L)(hl:L.length<=512)(a1:Int)(sub:bc->List Sub)(a8:sub=λk=>if scan S a1 then(L.filter λy=>y.there a1&&decide (y.t.cQ=k)).map (·.t.sub)else [])(k:bc)(Q:List Value)(n:Nd) [ie:bZ Q](b1:Q.length=5):
  Spec prog 89 [.agg c.enc.toArray,pT b,.int .u64 a1,.agg (.string k.os:: .string k.oi:: .string k.rel::Q).toArray,.agg n.enc.toArray] R [] λu H'=>∃T,H'=[T]/\OS 117 4 Sub.enc u (sH c.plain sub k n) T:=by
 obtain⟨x3,x4,x5,x6,x7,rfl⟩:∃a b c d f,Q=[a,b,c,d,f]:=by
  match Q,b1 with
  |[a,b,c,d,f],_=>exact⟨a,b,c,d,f,rfl⟩
 have c3:bZ (Value.string k.os:: .string k.oi:: .string k.rel::[x3,x4,x5,x6,x7]):=⟨λu hu=>by
  simp only[List.mem_cons,List.not_mem_nil,or_false]at hu
  rcases hu with rfl|rfl|rfl|hu
  ·rfl
  ·rfl
  ·rfl
  ·exact ie.h u (by simpa using hu)⟩
 have Y:=λk=>Bt c R h hf hD hl a1 k sub a8
 have i1:One c.vs:=RS.ap h.ss
 have i2:One c.vc:=RS.ap h.sc
 have a0:∀k,(fitting c.plain sub k).length<=512:=λk=>by
  unfold fitting
  refine Nat.le_trans (List.length_filter_le _ _) ?_
  rw[a8]
  simp only
  split
  ·rw[List.length_map]
   exact Nat.le_trans (List.length_filter_le _ _) hl
  ·simp
 have Z:∀k,fP c.plain sub k=(fitting c.plain sub k).filter λs=>decide (s.us=⟨#[]⟩):=λ_=>rfl
 have C:sH c.plain sub k n=(if n.kind=1 then(fP c.plain sub k).map λs=>(⟨s.ss,s.si,s.sr⟩:bc)
  else if n.kind=3 then(fP c.plain sub ⟨k.os,k.oi,n.rel⟩).map λs=>⟨s.ss,s.si,n.dy⟩
  else if n.kind=2 then [⟨k.os,k.oi,n.rel⟩]
  else []).map λx=>(⟨⟨#[]⟩,x.os,x.oi,x.rel⟩:Sub):=rfl
 generalize c2:sH c.plain sub k n=out at *
 refine Spec.gO (H':=[[]]) (by simp) ?_
 refine Spec.body Tryz.func89 rfl Tryz.results89 Tryz.ntmps89 rfl ?_
 refine .sr ?_
 refine .bW rfl (λb5=>?_)
 refine .bW rfl (λb8=>?_)
 refine .bW rfl (λb9=>?_)
 refine .ag rfl<|.zs<|.seq ?_
 refine bx.cL [(1,_),(2,_),(5,_),(8,_),(9,_)] kE.c.c.c.c.c (X:=Unit) (λ_=>True) (λ_ E=>(22,.bool (decide (n.kind=1)||decide (n.kind=3)))::E) (λ_=>[bl b9 n.enc 199,bl b8 (Value.string k.os:: .string k.oi:: .string k.rel::[x3,x4,x5,x6,x7]) 93,bl b5 c.enc 25,[]]) ?_ ?_
 refine .region<|.fa rfl<|.lo rfl<|.q .bK<|.mo rfl ?_
 refine .split (t:=18) rfl (λB=>?_) (λB=>?_)
 refine .gF B<|.gF B<|.gF B<|.q (.aO B) ?_
 refine .nil ?_
 ·exact ay () trivial (kE.c.c.c.c.c.bP rfl (by grind)) rH
 refine .gT B<|.fa rfl<|.gT B<|.lo rfl<|.gT B<|.q .bK<|.q (.aN B) ?_
 refine .nil ?_
 ·exact ay () trivial (kE.c.c.c.c.c.bP rfl (by grind)) rH
 intro y hy
 refine ax ?_
 refine .cond rfl (λh1=>?_) λh1=>?_
 have a5:n.kind=1\/n.kind=3:=by simpa using h1
 refine .sr<|.fa rfl<|.lo rfl<|.ag rfl<|.zs<|.sr<|.fa rfl<|.lo rfl<|.q .bK<|.zn ?_
 refine .cond rfl (λh2=>?_) λh2=>?_
 have M:n.kind=3:=cm h2
 have a3:=Y ⟨k.os,k.oi,n.rel⟩
 have b4:=a0 ⟨k.os,k.oi,n.rel⟩
 have a6:∃g:Sub->Sub,g=(λs=>⟨⟨#[]⟩,s.ss,s.si,n.dy⟩)/\out=((fitting c.plain sub ⟨k.os,k.oi,n.rel⟩).filter λs=>decide (s.us=⟨#[]⟩)).map g:=⟨_,rfl,by rw[C,if_neg (by omega),if_pos M,List.map_map,Z];rfl⟩
 clear Y a0 Z C
 generalize b3:fitting c.plain sub ⟨k.os,k.oi,n.rel⟩=l at *
 obtain⟨g,U,a7⟩:=a6
 refine .region<|.fa rfl<|.lo rfl<|.ag rfl<|.z<|.ag rfl<|.z<|.q (.aL rfl)<|.mo rfl<|.mo rfl<|.fa rfl<|.q (.loadT rfl) ?_
 refine .mo rfl ?_
 refine .cK (a3.weaken cU) (λu a2 hu=>?_)
 have iu:=hu.ap
 have a4:∀i,(((l.take i).filter λs=>decide (s.us=⟨#[]⟩)).map g).length<=512:=λi=>by
  rw[List.length_map]
  exact Nat.le_trans (List.length_filter_le _ _) (by rw[List.length_take];omega)
 refine .ag rfl<|.zs<|.sr<|.az rfl<|.block ?_
 refine .cx [(9,_),(13,_)] (X:=Nat×Value×aB) (λy=>y.1<=l.length/\OS 117 4 Sub.enc y.2.1 (((l.take y.1).filter λs=>decide (s.us=⟨#[]⟩)).map g) y.2.2) (λy E=>(14,iN y.1)::(12,y.2.1)::E) (G:=[a2,bl b9 n.enc 199,bl b8 (Value.string k.os:: .string k.oi:: .string k.rel::[x3,x4,x5,x6,x7]) 93,bl b5 c.enc 25]) (λy G=>y.2.2::G) (λy=>l.length-y.1) (0,sZ,[]) ⟨Nat.zero_le _,OS.nil⟩ kE.c.c.c.c (aH [4,0,0,0,0]) ?_
 rintro⟨i,O,A⟩ ⟨hi,m⟩
 simp only at hi m⊢
 have io:=m.ap
 refine .seq<|.sr<|.mo rfl<|.mo rfl<|.q (.dN hu) ?_
 refine .q .lss<|.zn ?_
 refine .cond rfl (λI=>?_) λI=>?_
 have p:i<l.length:=cr I
 obtain⟨s,D⟩:=bR p
 have b2:=a4 i
 have V:=dT D
 obtain⟨W,j,e,o⟩:=s
 refine .kn<|.seq<|.block<|.seq<|.sr<|.mo rfl<|.mo rfl ?_
 refine .bo i hu D (λb6=>?_)
 refine .fa rfl<|.lo rfl<|.q .gv<|.zn ?_
 refine .cond rfl (λJ=>?_) λJ=>?_
 have N:W≠⟨#[]⟩:=by simpa using J
 have r:((l.take (i+1)).filter λs=>decide (s.us=⟨#[]⟩)).map g=((l.take i).filter λs=>decide (s.us=⟨#[]⟩)).map g:=by rw[V,List.filter_append];simp[N]
 refine .exit<|bq<|bs<|ax<|.region<|.mo rfl ?_
 refine .ia (i+1) .add ?_
 refine .ag rfl<|.nil ?_
 ·first
   |exact aP (i+1,H,w) ⟨p,by simp only;rw[r,v];exact F⟩ (by simp only;omega) kE.c.c.c.c (aW.drop [0] _)
   |exact aP (i+1,O,A) ⟨p,by simp only;rw[r];exact m⟩ (by simp only;omega) kE.c.c.c.c rH
 have N:W=⟨#[]⟩:=by simpa using J
 subst N
 have r:((l.take (i+1)).filter λs=>decide (s.us=⟨#[]⟩)).map g=((l.take i).filter λs=>decide (s.us=⟨#[]⟩)).map g++[g ⟨⟨#[]⟩,j,e,o⟩]:=by rw[V,List.filter_append,List.map_append];simp
 refine .kn<|.sr<|.fa rfl<|.lo rfl<|.q .bK<|.zn ?_
 refine .cond rfl (λK=>?_) λK=>?_
 first
  |(have v:g ⟨⟨#[]⟩,j,e,o⟩=⟨⟨#[]⟩,j,e,n.dy⟩:=by rw[U])
  |(have v:g ⟨⟨#[]⟩,j,e,o⟩=⟨⟨#[]⟩,j,e,n.dy⟩:=by exfalso;have:=cm K;omega)
 refine .dp [10] mixed ?_
 refine .tO 0 rfl .move<|.tO 1 rfl .move<|.tO 2 rfl .move ?_
 refine RA.bo 3 rfl i hu D rfl rfl rfl (by kernel_rfl) (λb7=>?_)
 refine .tO 4 rfl (.fieldAddr rfl) ?_
 refine .tO 5 rfl (.loadT rfl) ?_
 refine .tO 6 rfl (.fieldAddr rfl)<|.tO 7 rfl (.cE rfl) ?_
 refine .tO 8 rfl .cN ?_
 refine .sT 9 rfl ?_
 refine .dM (λa9=>?_)
 refine .nil (Next.sub ?_)
 refine .sT 10 rfl ?_
 refine .append m (RS.lits (xs:=[(⟨⟨#[]⟩,j,e,n.dy⟩:Sub)]) rfl (by simp[Sub.enc]) (by simp[Sub.enc,ap])) (by simp only[List.length_singleton];omega) (λH w F=>?_)
 refine .nil (Next.mod rfl ?_)
 refine .tK 11 rfl .assign ?_
 refine RA.nil (by kernel_rfl) ?_
 refine bf<|ax<|.region<|.mo rfl ?_
 refine .ia (i+1) .add ?_
 refine .ag rfl<|.nil ?_
 ·first
   |exact aP (i+1,H,w) ⟨p,by simp only;rw[r,v];exact F⟩ (by simp only;omega) kE.c.c.c.c (aW.drop [0] _)
   |exact aP (i+1,O,A) ⟨p,by simp only;rw[r];exact m⟩ (by simp only;omega) kE.c.c.c.c rH
 first
  |(have v:g ⟨⟨#[]⟩,j,e,o⟩=⟨⟨#[]⟩,j,e,o⟩:=by rw[U])
  |(have v:g ⟨⟨#[]⟩,j,e,o⟩=⟨⟨#[]⟩,j,e,o⟩:=by exfalso;have:=bA K;omega)
 refine .region<|.mo rfl<|.mo rfl<|.mo rfl ?_
 refine .bo i hu D (λc0=>?_)
 refine .q (.aL rfl) ?_
 refine .dM (λb0=>?_)
 refine .append m (RS.lits (xs:=[(⟨⟨#[]⟩,j,e,o⟩:Sub)]) rfl (by simp[Sub.enc]) (by simp[Sub.enc,ap])) (by simp only[List.length_singleton];omega) (λH w F=>?_)
 refine .ag rfl<|.nil<|bf<|ax<|.region<|.mo rfl ?_
 refine .ia (i+1) .add ?_
 refine .ag rfl<|.nil ?_
 ·first
   |exact aP (i+1,H,w) ⟨p,by simp only;rw[r,v];exact F⟩ (by simp only;omega) kE.c.c.c.c (aW.drop [0] _)
   |exact aP (i+1,O,A) ⟨p,by simp only;rw[r];exact m⟩ (by simp only;omega) kE.c.c.c.c rH
 refine .exit<|bq<|bz<|bs<|ax<|.sr<|.mo rfl<|.az rfl ?_
 refine .ret (aI (bk _ (.one (.tmp rfl)) (.one [0] _) ?_))
 ·rw[dx (gj I)]at m
  exact⟨A,by simp[take],by rw[a7];exact m⟩
 have M:n.kind=1:=by have:=bA h2;omega
 have a3:=Y ⟨k.os,k.oi,k.rel⟩
 have b4:=a0 ⟨k.os,k.oi,k.rel⟩
 have a6:∃g:Sub->Sub,g=(λs=>⟨⟨#[]⟩,s.ss,s.si,s.sr⟩)/\out=((fitting c.plain sub ⟨k.os,k.oi,k.rel⟩).filter λs=>decide (s.us=⟨#[]⟩)).map g:=⟨_,rfl,by rw[C,if_pos M,List.map_map,Z];rfl⟩
 clear Y a0 Z C
 generalize b3:fitting c.plain sub ⟨k.os,k.oi,k.rel⟩=l at *
 obtain⟨g,U,a7⟩:=a6
 refine .kn<|.sr<|.ag rfl<|.z<|.q (.aL rfl)<|.mo rfl<|.mo rfl<|.fa rfl<|.q (.loadT rfl) ?_
 refine .mo rfl ?_
 refine .cK (a3.weaken cU) (λu a2 hu=>?_)
 have iu:=hu.ap
 have a4:∀i,(((l.take i).filter λs=>decide (s.us=⟨#[]⟩)).map g).length<=512:=λi=>by
  rw[List.length_map]
  exact Nat.le_trans (List.length_filter_le _ _) (by rw[List.length_take];omega)
 refine .ag rfl<|.zs<|.sr<|.az rfl<|.block ?_
 refine .cx [(9,_),(13,_)] (X:=Nat×Value×aB) (λy=>y.1<=l.length/\OS 117 4 Sub.enc y.2.1 (((l.take y.1).filter λs=>decide (s.us=⟨#[]⟩)).map g) y.2.2) (λy E=>(14,iN y.1)::(12,y.2.1)::E) (G:=[a2,bl b9 n.enc 199,bl b8 (Value.string k.os:: .string k.oi:: .string k.rel::[x3,x4,x5,x6,x7]) 93,bl b5 c.enc 25]) (λy G=>y.2.2::G) (λy=>l.length-y.1) (0,sZ,[]) ⟨Nat.zero_le _,OS.nil⟩ kE.c.c.c.c (aH [4,0,0,0,0]) ?_
 rintro⟨i,O,A⟩ ⟨hi,m⟩
 simp only at hi m⊢
 have io:=m.ap
 refine .seq<|.sr<|.mo rfl<|.mo rfl<|.q (.dN hu) ?_
 refine .q .lss<|.zn ?_
 refine .cond rfl (λI=>?_) λI=>?_
 have p:i<l.length:=cr I
 obtain⟨s,D⟩:=bR p
 have b2:=a4 i
 have V:=dT D
 obtain⟨W,j,e,o⟩:=s
 refine .kn<|.seq<|.block<|.seq<|.sr<|.mo rfl<|.mo rfl ?_
 refine .bo i hu D (λb6=>?_)
 refine .fa rfl<|.lo rfl<|.q .gv<|.zn ?_
 refine .cond rfl (λJ=>?_) λJ=>?_
 have N:W≠⟨#[]⟩:=by simpa using J
 have r:((l.take (i+1)).filter λs=>decide (s.us=⟨#[]⟩)).map g=((l.take i).filter λs=>decide (s.us=⟨#[]⟩)).map g:=by rw[V,List.filter_append];simp[N]
 refine .exit<|bq<|bs<|ax<|.region<|.mo rfl ?_
 refine .ia (i+1) .add ?_
 refine .ag rfl<|.nil ?_
 ·first
   |exact aP (i+1,H,w) ⟨p,by simp only;rw[r,v];exact F⟩ (by simp only;omega) kE.c.c.c.c (aW.drop [0] _)
   |exact aP (i+1,O,A) ⟨p,by simp only;rw[r];exact m⟩ (by simp only;omega) kE.c.c.c.c rH
 have N:W=⟨#[]⟩:=by simpa using J
 subst N
 have r:((l.take (i+1)).filter λs=>decide (s.us=⟨#[]⟩)).map g=((l.take i).filter λs=>decide (s.us=⟨#[]⟩)).map g++[g ⟨⟨#[]⟩,j,e,o⟩]:=by rw[V,List.filter_append,List.map_append];simp
 refine .kn<|.sr<|.fa rfl<|.lo rfl<|.q .bK<|.zn ?_
 refine .cond rfl (λK=>?_) λK=>?_
 first
  |(have v:g ⟨⟨#[]⟩,j,e,o⟩=⟨⟨#[]⟩,j,e,n.dy⟩:=by rw[U])
  |(have v:g ⟨⟨#[]⟩,j,e,o⟩=⟨⟨#[]⟩,j,e,n.dy⟩:=by exfalso;have:=cm K;omega)
 refine .dp [10] mixed ?_
 refine .tO 0 rfl .move<|.tO 1 rfl .move<|.tO 2 rfl .move ?_
 refine RA.bo 3 rfl i hu D rfl rfl rfl (by kernel_rfl) (λb7=>?_)
 refine .tO 4 rfl (.fieldAddr rfl) ?_
 refine .tO 5 rfl (.loadT rfl) ?_
 refine .tO 6 rfl (.fieldAddr rfl)<|.tO 7 rfl (.cE rfl) ?_
 refine .tO 8 rfl .cN ?_
 refine .sT 9 rfl ?_
 refine .dM (λa9=>?_)
 refine .nil (Next.sub ?_)
 refine .sT 10 rfl ?_
 refine .append m (RS.lits (xs:=[(⟨⟨#[]⟩,j,e,n.dy⟩:Sub)]) rfl (by simp[Sub.enc]) (by simp[Sub.enc,ap])) (by simp only[List.length_singleton];omega) (λH w F=>?_)
 refine .nil (Next.mod rfl ?_)
 refine .tK 11 rfl .assign ?_
 refine RA.nil (by kernel_rfl) ?_
 refine bf<|ax<|.region<|.mo rfl ?_
 refine .ia (i+1) .add ?_
 refine .ag rfl<|.nil ?_
 ·first
   |exact aP (i+1,H,w) ⟨p,by simp only;rw[r,v];exact F⟩ (by simp only;omega) kE.c.c.c.c (aW.drop [0] _)
   |exact aP (i+1,O,A) ⟨p,by simp only;rw[r];exact m⟩ (by simp only;omega) kE.c.c.c.c rH
 first
  |(have v:g ⟨⟨#[]⟩,j,e,o⟩=⟨⟨#[]⟩,j,e,o⟩:=by rw[U])
  |(have v:g ⟨⟨#[]⟩,j,e,o⟩=⟨⟨#[]⟩,j,e,o⟩:=by exfalso;have:=bA K;omega)
 refine .region<|.mo rfl<|.mo rfl<|.mo rfl ?_
 refine .bo i hu D (λc0=>?_)
 refine .q (.aL rfl) ?_
 refine .dM (λb0=>?_)
 refine .append m (RS.lits (xs:=[(⟨⟨#[]⟩,j,e,o⟩:Sub)]) rfl (by simp[Sub.enc]) (by simp[Sub.enc,ap])) (by simp only[List.length_singleton];omega) (λH w F=>?_)
 refine .ag rfl<|.nil<|bf<|ax<|.region<|.mo rfl ?_
 refine .ia (i+1) .add ?_
 refine .ag rfl<|.nil ?_
 ·first
   |exact aP (i+1,H,w) ⟨p,by simp only;rw[r,v];exact F⟩ (by simp only;omega) kE.c.c.c.c (aW.drop [0] _)
   |exact aP (i+1,O,A) ⟨p,by simp only;rw[r];exact m⟩ (by simp only;omega) kE.c.c.c.c rH
 refine .exit<|bq<|bz<|bs<|ax<|.sr<|.mo rfl<|.az rfl ?_
 refine .ret (aI (bk _ (.one (.tmp rfl)) (.one [0] _) ?_))
 ·rw[dx (gj I)]at m
  exact⟨A,by simp[take],by rw[a7];exact m⟩
 have a5:n.kind≠1/\n.kind≠3:=by simpa using h1
 rw[if_neg a5.1,if_neg a5.2]at C
 refine .kn<|.seq<|.sr<|.fa rfl<|.lo rfl<|.q .bK<|.zn ?_
 refine .cond rfl (λh6=>?_) λh6=>?_
 refine .sr<|.fa rfl<|.q (.loadT rfl) ?_
 refine .fa rfl<|.lo rfl ?_
 refine .q .cN ?_
 refine .dM (λc1=>?_)
 refine .az rfl ?_
 refine .ret (aI (bk _ (.one (.tmp rfl)) (.one [0] _) ?_))
 ·have M:n.kind=2:=by simpa using h6
  rw[if_pos M]at C
  exact⟨_,rfl,by rw[C];exact OS.lits rfl (by simp[Sub.enc]) (by simp[Sub.enc,ap])⟩
 refine .kn<|.sr<|.az rfl ?_
 refine .ret (bk _ (.one (.tmp rfl)) (.one [3] _) ?_)
 ·have M:n.kind≠2:=by simpa using h6
  rw[if_neg M]at C
  exact⟨_,rfl,by rw[C];exact OS.nil⟩
def aF.zero(k:bc):aF:=⟨k,false,sZ,[],sZ,[],sZ,[],0⟩
def PU(R:aD)(A:List (ByteArray×Rl))(num:List Nat)(k:bc)(m:Nat)(p:aF):Prop:=
 (p=aF.zero k/\∀j x,j<m->A[j]? =some x->eh x≠⟨k.os,k.rel⟩)\/
 ∃j x vn,j<m/\A[j]? =some x/\eh x=⟨k.os,k.rel⟩/\p=⟨k,true,vn,x.2.nodes,sZ,[],sZ,[],num.getD j 0⟩/\RS R 5 Nd.enc vn x.2.nodes
theorem PU.cJ{R:aD}{A:List (ByteArray×Rl)}{num:List Nat}{k:bc}{m:Nat}{p:aF}(h:PU R A num k m p):bZ p.enc:=by
 rcases h with⟨rfl,_⟩|⟨j,x,c,_,_,_,rfl,b⟩
 ·exact⟨by simp[aF.enc,aF.zero,ap]⟩
 ·have:=b.ap
  refine⟨λu a=>?_⟩
  simp only[aF.enc,List.mem_cons,List.not_mem_nil,or_false]at a
  rcases a with rfl|rfl|rfl|rfl|rfl|rfl|rfl|rfl
  ·rfl
  ·rfl
  ·rfl
  ·rfl
  ·exact this.h
  ·rfl
  ·rfl
  ·rfl
theorem PU.skip{R:aD}{A:List (ByteArray×Rl)}{num:List Nat}{k:bc}{m:Nat}{p:aF}{x:ByteArray×Rl}(h:PU R A num k m p)(f:A[m]? =some x)(d:eh x≠⟨k.os,k.rel⟩):PU R A num k (m+1) p:=by
 rcases h with⟨e,b⟩|⟨j,y,g,b,c⟩
 ·refine .inl ⟨e,λj y i a=>?_⟩
  rcases Nat.lt_or_ge j m with h3|h3
  ·exact b j y h3 a
  ·obtain rfl:j=m:=by omega
   rw[f]at a;cases a;exact d
 ·exact .inr ⟨j,y,g,by omega,c⟩
theorem AQ{A:List (ByteArray×Rl)}(a:(A.map eh).Nodup){i j:Nat}{x y:ByteArray×Rl}{t:Ty}(f:A[i]? =some x)(g:A[j]? =some y)(d:eh x=t)(e:eh y=t):i=j:=by
 have b:(A.map eh)[i]? =some t:=by rw[List.getElem?_map,f, <-d];rfl
 have c:(A.map eh)[j]? =some t:=by rw[List.getElem?_map,g, <-e];rfl
 rcases Nat.lt_trichotomy i j with h|h|h
 ·exact absurd a (mZ h c b rfl)
 ·exact h
 ·exact absurd a (mZ h b c rfl)
theorem PU.same{R:aD}{A:List (ByteArray×Rl)}{num:List Nat}{k:bc}{m:Nat}{p:aF}(h:PU R A num k m p)(r:A.length<=m)(n:(A.map eh).Nodup){c:Cf}(g:c.all=A):p.plain=one c num k/\p.is R:=by
 unfold one
 rw[g]
 rcases h with⟨rfl,d⟩|⟨j,x,s,d,a,e,rfl,f⟩
 ·rw[zE λj y q b=>d j y (by omega) b]
  exact⟨rfl,RS.gL,RS.gL,NN.nil⟩
 ·rw[zF a e λi y o b l=>by have:=AQ n a b e l;omega]
  refine⟨?_,f,RS.gL,NN.nil⟩
  simp only[aF.plain,List.getD_eq_getElem?_getD,List.getElem?_map,a]
  rfl
theorem QB(c:bM)(R:aD)(h:c.is R)(num:List Nat)(O:kB isWord di c.plain num)(c5:(c.plain.numbers isWord di).2=rows c.plain.bd num)(k:bc):
  Spec prog 87 [.agg c.enc.toArray,.agg [.string k.os,.string k.oi].toArray,.string k.rel] R [] λu H'=>(∃p:aF,u=.agg p.enc.toArray/\p.plain=one c.plain num k/\p.is R)/\H'=[]:=by
 have b1:=Bz c R h
 have l:=h.ss
 have i1:=l.ap
 have i2:One c.vc:=RS.ap h.sc
 have d6:=l.le
 have c1:=h.all
 have d3:=pR c.plain
 have d7:=O.len
 have b5:(c.plain.all.map eh).Nodup:=O.dY.2.1
 have d2:c.plain.bd.length=c.bd.length:=by unfold bM.plain;simp
 have a9:∀(i:Nat) (s:cj),c.bd[i]? =some s->c.plain.bd[i]? =some s.plain:=λi s b=>pj b
 have d4:=λ(p:gp) (s:cj) (r:ca)=>pe (c:=c) (p:=p) (s:=s) (r:=r)
 have c3:∀i k,c.ix (i,k)=cI c.plain.bd i+k:=λ_ _=>rfl
 have d1:=λ(p:aF) (m:Nat) (h:PU R c.plain.all num k m p) (O:c.plain.all.length<=m)=>h.same O b5 (c:=c.plain) rfl
 rw[c5]at b1
 have d0:∀i s,c.bd[i]? =some s->(rows c.plain.bd num)[i]? =some ((num.drop (cI c.plain.bd i)).take s.bS.length):=λi s b=>by
  have J:=pB (n:=num) (a9 i s b)
  rwa [show s.plain.bS.length=s.bS.length by simp[cj.plain]]at J
 generalize hA:c.plain.all=A at *
 generalize a0:cI c.plain.bd=of at *
 have c6:of 0=0:=by rw[<-a0];cases c.plain.bd<;>rfl
 refine Spec.body Tryz.func87 rfl Tryz.results87 Tryz.ntmps87 rfl ?_
 refine .sr ?_
 refine .bW rfl (λU=>?_)
 refine .bW rfl (λV=>?_)
 refine .bN (λW=>?_)
 refine .z<|.q (.aL rfl)<|.mo rfl ?_
 refine .q .cN ?_
 refine .bN (λY=>?_)
 refine .bH rfl rfl<|.z<|.q (.aL rfl) ?_
 refine .cK (b1.weaken cU) (λu I hu=>?_)
 obtain⟨w,ll,rfl,N,c4⟩:=hu
 have iw:One w:=N.rs.ap
 refine .mo rfl<|.q .extract<|.q .extract<|.ag rfl<|.ag rfl<|.zs<|.sr<|.az rfl<|.block ?_
 refine .cx [(2,_),(3,_),(4,_),(6,_),(7,_),(8,_)] (X:=Nat×aF) (λy=>y.1<=c.bd.length/\PU R A num k (of y.1) y.2) (λy E=>(10,iN y.1)::E) (G:=[I,bl W (aF.enc ⟨⟨⟨#[]⟩,⟨#[]⟩,⟨#[]⟩⟩,false,sZ,[],sZ,[],sZ,[],0⟩) 93,bl V [.string k.os,.string k.oi] 44,bl U c.enc 25]) (λy G=>bl Y y.2.enc 93::G) (λy=>c.bd.length-y.1) (0,aF.zero k) ⟨Nat.zero_le _,.inl ⟨rfl,λj x hj=>by rw[c6]at hj;omega⟩⟩ kE.c.c.c.c.c.c.c (aH [1,0,0,0,0]) ?_
 rintro⟨i,p⟩ ⟨hi,Q⟩
 simp only at hi Q⊢
 have e0:=Q.cJ
 refine .seq<|.sr<|.mo rfl<|.fa rfl<|.lo rfl<|.q (.bJ l) ?_
 refine .q .lss<|.zn ?_
 refine .cond rfl (λJ=>?_) λJ=>?_
 have a5:i<c.bd.length:=cr J
 obtain⟨⟨f,M,g⟩,b⟩:=bR a5
 have a3:=c1 _ (aZ b)
 have H:RS R 3 ca.enc M g:=a3.rs
 have e5:=H.ap
 have d8:=H.le
 have e7:bZ (cj.enc ⟨f,M,g⟩):=⟨a3.cJ⟩
 have c7:=a9 i _ b
 have a8:=pi c7
 rw[a0,show(cj.plain ⟨f,M,g⟩).bS.length=g.length by simp[cj.plain]]at a8
 have a2:=d0 i _ b
 simp only at a2
 rw[<-c4,List.getElem?_map]at a2
 obtain⟨⟨v,b8⟩,a1,b2⟩:=Option.map_eq_some_iff.1 a2
 simp only at b2
 have T:=N.all _ (aZ a1)
 simp only at T
 have iv:=T.ap
 have f4:PS I (eC w (i*1)) (dZ (v,b8)):=⟨N.rs.pc a1⟩
 refine .kn<|.seq<|.block<|.sr<|.az rfl<|.block ?_
 refine .cx [(2,_),(3,_),(4,_),(6,_),(7,_),(8,_),(10,_)] (X:=Nat×aF) (λy=>y.1<=g.length/\PU R A num k (of i+y.1) y.2) (λy E=>(11,iN y.1)::E) (G:=[I,bl W (aF.enc ⟨⟨⟨#[]⟩,⟨#[]⟩,⟨#[]⟩⟩,false,sZ,[],sZ,[],sZ,[],0⟩) 93,bl V [.string k.os,.string k.oi] 44,bl U c.enc 25]) (λy G=>bl Y y.2.enc 93::G) (λy=>g.length-y.1) (0,p) ⟨Nat.zero_le _,Q⟩ kE.c.c.c.c.c.c.c.c rH ?_
 rintro⟨q,L⟩ ⟨hq,C⟩
 simp only at hq C⊢
 have e3:=C.cJ
 refine .seq<|.sr<|.mo rfl<|.fa rfl<|.lo rfl<|.mo rfl ?_
 refine .bC i l b (λe8=>?_)
 refine .fa rfl<|.lo rfl<|.q (.bJ H) ?_
 refine .q .lss<|.zn ?_
 refine .cond rfl (λh2=>?_) λh2=>?_
 have F:q<g.length:=cr h2
 obtain⟨⟨vt,o,r⟩,K⟩:=bR F
 have S:=a3.all _ (aZ K)
 have a7:RS R 5 Nd.enc o r.nodes:=S.d
 have e6:One vt:=RS.ap S.t
 have e4:One o:=RS.ap S.d
 have d9:bZ (ca.enc ⟨vt,o,r⟩):=⟨S.cJ⟩
 have B:=d4 (i,q) _ _ b K
 rw[c3]at B
 have d5:of i+q<A.length:=(List.getElem?_eq_some_iff.1 B).1
 obtain⟨n,hn⟩:∃n,num[of i+q]? =some n:=⟨_,bu (by omega)⟩
 have b0:b8[q]? =some n:=by rw[b2,List.getElem?_take_of_lt F,List.getElem?_drop];exact hn
 have f5:PS I (eC v (q*1)) (cW n):=⟨T.pc b0⟩
 have a6:num.getD (of i+q) 0=n:=by rw[List.getD_eq_getElem?_getD,hn];rfl
 refine .kn<|.seq<|.block<|.seq ?_
 refine bx.cL [(2,_),(3,_),(4,_),(6,_),(7,_),(8,_),(10,_),(11,_)] kE.c.c.c.c.c.c.c.c (X:=Unit) (λ_=>True) (λ_ E=>(60,.bool (decide (f=k.os)&&decide (r.name=k.rel)))::E) (λ_=>[bl Y L.enc 93,I,bl W (aF.enc ⟨⟨⟨#[]⟩,⟨#[]⟩,⟨#[]⟩⟩,false,sZ,[],sZ,[],sZ,[],0⟩) 93,bl V [.string k.os,.string k.oi] 44,bl U c.enc 25]) ?_ ?_
 refine .fX mixed (by kernel_rfl) ?_
 refine .fa rfl<|.lo rfl<|.mo rfl ?_
 refine .bC i l b (λe9=>?_)
 refine .fa rfl<|.lo rfl<|.fa rfl<|.lo rfl<|.q .dW<|.mo rfl ?_
 refine .split (t:=47) rfl (λa=>?_) (λa=>?_)
 refine .gT a<|.fa rfl<|.gT a<|.lo rfl<|.gT a<|.mo rfl<|.gT a ?_
 refine .bC i l b (λf0=>?_)
 refine .gT a<|.fa rfl<|.gT a<|.lo rfl<|.gT a<|.mo rfl<|.gT a ?_
 refine .bC q H K (λf1=>?_)
 refine .gT a<|.fa rfl<|.gT a<|.lo rfl<|.gT a<|.mo rfl<|.gT a<|.q .dW<|.q (.aO a) ?_
 refine .nil ?_
 ·exact ay () trivial (kE.c.c.c.c.c.c.c.c.bP rfl (by grind)) rH
 refine .gF a<|.gF a<|.gF a<|.gF a<|.gF a<|.gF a<|.gF a<|.gF a<|.gF a<|.gF a<|.gF a<|.gF a<|.q (.aN a) ?_
 refine .nil ?_
 ·exact ay () trivial (kE.c.c.c.c.c.c.c.c.bP rfl (by grind)) rH
 intro y hy
 refine ax ?_
 refine .cond rfl (λh3=>?_) λh3=>?_
 have a4:f=k.os/\r.name=k.rel:=by simpa using h3
 have D:eh (f,r)=⟨k.os,k.rel⟩:=by show(⟨f,r.name⟩:Ty)=_;rw[a4.1,a4.2]
 have c8:L=aF.zero k:=by
  rcases C with⟨e,_⟩|⟨j,x,v9,g1,g2,g3,_⟩
  ·exact e
  ·have:=AQ b5 B g2 D g3;omega
 subst c8
 have f2:PC R (eC c.vs (i*2)) (cj.enc ⟨f,M,g⟩):=l.pc b
 have f3:PC R (eC M (q*3)) (ca.enc ⟨vt,o,r⟩):=H.pc K
 refine .rR [0] [18,20,22] mixed ?_
 conv=>arg 3;simp only[take,rest,bL,List.getD_cons_zero,List.getD_cons_succ]
 conv=>arg 5;simp only[take,rest,bL,List.getD_cons_zero,List.getD_cons_succ]
 conv=>arg 9;simp only[take,rest,bL,List.getD_cons_zero,List.getD_cons_succ]
 refine .tK 0 rfl (.eF rfl) ?_
 refine .tK 1 rfl (.cE rfl)<|.tK 2 rfl .move ?_
 refine .tK 3 rfl (.bC i l b rfl rfl rfl) ?_
 refine .tK 4 rfl (.fieldAddr rfl)<|.tK 5 rfl (.cE rfl)<|.tK 6 rfl .move ?_
 refine .tK 7 rfl (.bC q H K rfl rfl rfl) ?_
 refine .tK 8 rfl (.fieldAddr rfl)<|.tK 9 rfl (.cE rfl)<|.tK 10 rfl .move<|.tK 11 rfl .move ?_
 refine .tK 12 rfl (.bC i N.rs a1 rfl rfl rfl) ?_
 refine .tK 13 rfl (.cE rfl)<|.tK 14 rfl .move ?_
 refine .tK 15 rfl (.bC q T b0 rfl rfl rfl) ?_
 refine .tK 16 rfl (.cE rfl)<|.tO 17 rfl (.fieldAddr rfl) ?_
 refine .sT 18 rfl ?_
 refine .dw rfl rfl ?_
 refine .nil (Next.mod rfl ?_)
 refine .tK 19 rfl (.eF rfl) ?_
 refine .sT 20 rfl ?_
 refine .dw rfl rfl ?_
 refine .nil (Next.mod rfl ?_)
 refine .tK 21 rfl (.eF rfl) ?_
 refine .sT 22 rfl ?_
 refine .dw rfl rfl ?_
 refine .nil (Next.mod rfl ?_)
 refine RA.nil (by kernel_rfl) ?_
 refine bf<|ax<|.region<|.mo rfl ?_
 refine .ia (q+1) .add ?_
 refine .ag rfl<|.nil ?_
 ·first
   |exact aP (q+1,⟨k,true,o,r.nodes,sZ,[],sZ,[],n⟩) ⟨F,.inr ⟨of i+q,(f,r),o,by simp only;omega,B,D,by rw[a6],a7⟩⟩ (by simp only;omega) kE.c.c.c.c.c.c.c.c rH
   |exact aP (q+1,L) ⟨F,C.skip B D⟩ (by simp only;omega) kE.c.c.c.c.c.c.c.c rH
 have D:eh (f,r)≠⟨k.os,k.rel⟩:=λhe=>by
  injection he with e1 Z
  have b9:f=k.os:=e1
  have c0:r.name=k.rel:=Z
  simp[b9,c0]at h3
 refine .skip<|bf<|ax<|.region<|.mo rfl ?_
 refine .ia (q+1) .add ?_
 refine .ag rfl<|.nil ?_
 ·first
   |exact aP (q+1,⟨k,true,o,r.nodes,sZ,[],sZ,[],n⟩) ⟨F,.inr ⟨of i+q,(f,r),o,by simp only;omega,B,D,by rw[a6],a7⟩⟩ (by simp only;omega) kE.c.c.c.c.c.c.c.c rH
   |exact aP (q+1,L) ⟨F,C.skip B D⟩ (by simp only;omega) kE.c.c.c.c.c.c.c.c rH
 have c9:q=g.length:=by have:=bA h2;omega
 rw[c9, <-a8]at C
 refine .exit<|bq<|bz<|bs<|bf<|ax<|.region<|.mo rfl ?_
 refine .ia (i+1) .add ?_
 refine .ag rfl<|.nil ?_
 ·exact aP (i+1,L) ⟨a5,C⟩ (by simp only;omega) kE.c.c.c.c.c.c.c rH
 refine .exit<|bq<|bz<|bs<|ax<|.sr<|.q (.aL rfl)<|.bH rfl rfl<|.zn ?_
 refine .ret (bk _ (.one (.eI rfl rfl)) (aW.none _) ?_)
 ·have c2:A.length<=of i:=by
   have:i=c.bd.length:=by have:=bA J;omega
   rw[this, <-d2, <-a0, <-d3]
   exact Nat.le_refl _
  obtain⟨e1,Z⟩:=d1 p _ Q c2
  exact⟨⟨p,rfl,e1,Z⟩,rfl⟩
structure CR(c:Cf)(num:List Nat)(sub:bc->List Sub)(R:aD)(ps:List aF)(k:bc)(ns:List Nd)(ps1:List aF)(vp:Value)(To:aB)(vL:Value)(L:List fA)(TL Tr:aB)(vS:Value)(sn:List Nat)(TS:aB):Prop where
 eq:ps1.map aF.plain=(dj c num sub k (ps.map aF.plain) ns).1
 o:OS 93 8 aF.enc vp ps1 To
 gr:∃l,ps1=ps++l/\∀p∈l,p.is R
 le:OS 182 1 dZ vL L TL
 rows:∀q∈L,RS (sg Tr) 1 cW q.1 q.2
 ll:L.map (·.2)=(dj c num sub k (ps.map aF.plain) ns).2
 so:OS 3 1 cW vS sn TS
 sq:sn=jO [] (dj c num sub k (ps.map aF.plain) ns).2.flatten
structure CS(c:Cf)(num:List Nat)(R:aD)(ps1:List aF)(ks:List bc)(sn0:List Nat)(ps2:List aF)(vp:Value)(To:aB)(vR:Value)(TR:aB)(vS:Value)(sn:List Nat)(TS:aB):Prop where
 eq:ps2.map aF.plain=(dq c num (ps1.map aF.plain) ks).1
 o:OS 93 8 aF.enc vp ps2 To
 gr:∃l,ps2=ps1++l/\∀p∈l,p.is R
 r:OS 3 1 cW vR (dq c num (ps1.map aF.plain) ks).2 TR
 so:OS 3 1 cW vS sn TS
 sq:sn=jO sn0 (dq c num (ps1.map aF.plain) ks).2
theorem Dc{l:List Nat}{i x:Nat}(a:l[i]? =some x)(t:Nat):(l.take (i+1)).any (λz=>decide (z=t))=((l.take i).any (λz=>decide (z=t))||decide (x=t)):=by
 rw[dT a,List.any_append]
 simp
theorem P8(c:bM)(R:aD)(h:c.is R)(num:List Nat)(hm:kB isWord di c.plain num)(l8:(c.plain.numbers isWord di).2=rows c.plain.bd num){g:Nat}{S:cZ}{vl:Value}{L:List bB}(hD:DV R g S vl L)(hl:L.length<=512)(a0:Int)
  (k:bc)(b:Int)(sub:bc->List Sub)(d4:sub=λk=>if scan S a0 then(L.filter λy=>y.there a0&&decide (y.t.cQ=k)).map (·.t.sub)else [])
  (g5:∀i,(∀j,j<i->j<(opened c.plain num sub k j).1.length)->(opened c.plain num sub k i).1.length+(opened c.plain num sub k i).2<=1048576)(N:Nat)(hN:fk c.plain num sub k N):
  Spec prog 35 [.agg c.enc.toArray,pT g,.int .u64 a0,.agg [.string k.os,.string k.oi].toArray,.string k.rel,.int .i64 b] R [] (nz R (fq c.plain num sub k b (scan S a0) N)):=by
 have g9:=QB c R h num hm l8
 have f5:=(tc hm.right).1
 have k3:=λk=>Bt c R h f5 hD hl a0 k sub d4
 have k0:=λk ex n (ie:bZ ex) k2=>P3 c R h f5 hD hl a0 sub d4 k ex n k2
 have i1:One c.vs:=RS.ap h.ss
 have i2:One c.vc:=RS.ap h.sc
 have i6:∀k,(fP c.plain sub k).length<=512:=λk=>by
  unfold fP fitting
  refine Nat.le_trans (List.length_filter_le _ _) (Nat.le_trans (List.length_filter_le _ _) ?_)
  rw[d4]
  simp only
  split
  ·rw[List.length_map]
   exact Nat.le_trans (List.length_filter_le _ _) hl
  ·simp
 have k1:∀k n,(ej c.plain sub k n).length<=512:=λk n=>by
  unfold ej
  split
  ·rw[List.length_map];exact i6 _
  ·split
   ·rw[List.length_map];exact i6 _
   ·split<;>simp
 have k4:∀k,(fitting c.plain sub k).length<=512:=λk=>by
  unfold fitting
  refine Nat.le_trans (List.length_filter_le _ _) ?_
  rw[d4]
  simp only
  split
  ·rw[List.length_map]
   exact Nat.le_trans (List.length_filter_le _ _) hl
  ·simp
 have n3:∀k,iH c.plain sub k=((fitting c.plain sub k).filter λs=> !decide (s.us=⟨#[]⟩)).map (·.us):=λ_=>rfl
 have c8:∀out u H',nz R out u H'↔∃vp I T,H'=[T]/\u=.tuple [.agg [vp,iN out.2.1].toArray,.int .i64 out.2.2].toArray/\RS (λb o=>R b o\/(b,o)∈T) 8 aF.enc vp I/\(∀p∈I,aF.is (λb o=>R b o\/(b,o)∈T) p)/\I.map aF.plain=out.1:=λ_ _ _=>Iff.rfl
 have Z:fq c.plain num sub k b (scan S a0) N=if b<1 then([],0,2)else if scan S a0=false then([],0,12)
  else if(((opened c.plain num sub k N).1.length+(opened c.plain num sub k N).2:Nat):Int)<=b then((opened c.plain num sub k N).1,(opened c.plain num sub k N).2,0)else([],0,16):=rfl
 have m0:∀x:bc,(one c.plain num x).nodes.length<=64:=λx=>wH (num:=num) (k:=x) hm.right
 generalize o5:c.plain=cp at *
 refine Spec.body Tryz.func35 rfl Tryz.results35 Tryz.ntmps35 rfl ?_
 refine .sr ?_
 refine .bW rfl (λb6=>?_)
 refine .bW rfl (λb9=>?_)
 refine .bN (λb0=>?_)
 refine .ag rfl<|.zs<|.sr<|.mo rfl<|.q .lss<|.zn ?_
 refine .cond rfl (λh1=>?_) λh1=>?_
 have b3:b<1:=cm h1
 refine .sr ?_
 refine .q .cN ?_
 refine .bH rfl rfl<|.az rfl ?_
 refine .ret (aI (bk _ (.two (.eI rfl rfl) (.tmp rfl)) (aW.one [] _) ?_))
 ·exact(c8 _ _ _).2 ⟨_,[],_,rfl,by rw[Z,if_pos b3];rfl,RS.gL,λp A=>(by cases A),by rw[Z,if_pos b3];rfl⟩
 have b3:¬b<1:=bA h1
 refine .kn<|.seq<|.sr<|.mo rfl<|.mo rfl ?_
 refine .ba ((hD.can a0).weaken cU) (λu M=>?_)
 subst M
 refine .q .not<|.zn ?_
 refine .cond rfl (λh2=>?_) λh2=>?_
 have d3:scan S a0=false:=by simpa using h2
 refine .sr ?_
 refine .q .cN ?_
 refine .bH rfl rfl<|.az rfl ?_
 refine .ret (aI (bk _ (.two (.eI rfl rfl) (.tmp rfl)) (aW.one [] _) ?_))
 ·exact(c8 _ _ _).2 ⟨_,[],_,rfl,by rw[Z,if_neg b3,if_pos d3];rfl,RS.gL,λp A=>(by cases A),by rw[Z,if_neg b3,if_pos d3];rfl⟩
 have d3:scan S a0=true:=by simpa using h2
 rw[if_neg b3,if_neg (by rw[d3];simp)]at Z
 refine .kn<|.sr<|.q (.aL rfl)<|.q (.aL rfl)<|.mo rfl ?_
 refine .ba ((g9 k).weaken cU) (λu M=>?_)
 obtain⟨p0,rfl,m2,e6⟩:=M
 have n4:bZ p0.enc:=⟨e6.cJ⟩
 refine .dM (λf1=>?_)
 refine .q .cN ?_
 refine .bN (λb1=>?_)
 refine .bH rfl rfl<|.zs<|.sr<|.az rfl<|.block ?_
 refine .cx [(1,_),(2,_),(5,_),(6,_),(12,_),(14,_)] (X:=Nat×List aF×Value×aB×aB) (λy=>(∀j,j<y.1->j<(opened cp num sub k j).1.length)/\y.2.1.map aF.plain=(opened cp num sub k y.1).1/\OS 93 8 aF.enc y.2.2.1 y.2.1 y.2.2.2.1/\∀q∈y.2.1,(q.is λb o=>R b o\/(b,o)∈y.2.2.2.2)/\RS R 5 Nd.enc q.vn q.nodes) (λy E=>(15,iN y.1)::E) (G:=[bl b0 [sZ,.int .i64 0] 86,bl b9 [.string k.os,.string k.oi] 44,bl b6 c.enc 25]) (λy G=>bl b1 [y.2.2.1,.int .i64 ((opened cp num sub k y.1).2:Nat)] 86::y.2.2.2.1::y.2.2.2.2::G) (λy=>N+1-y.1) (0,[p0],.slice (some ⟨f1,0,none⟩) 1 1,bl f1 p0.enc 93,[]) ⟨λj hj=>(by omega),by simp only[List.map_cons,List.map_nil,m2];rfl,OS.lits (by simp) (by simp[aF.enc]) (by simpa using n4.h),λq hq=>by
  rw[List.mem_singleton]at hq
  subst hq
  exact⟨e6.mono λb o C=>.inl C,e6.n⟩⟩ kE.c.c.c.c.c.c.c (aW.ff.trans (aH [1,1,0,0,0,0])) ?_
 rintro⟨i,I,vp,To,Tp⟩ ⟨c4,c3,hO,hP⟩
 simp only at c4 c3 hO hP⊢
 have r3:=hO.ap
 have o8:=wK hN c4
 have p5:=g5 i c4
 have p7:I.length=(opened cp num sub k i).1.length:=by rw[<-c3,List.length_map]
 refine .seq<|.sr<|.mo rfl<|.fa rfl<|.lo rfl<|.q (.dN hO) ?_
 refine .q .lss<|.zn ?_
 refine .cond rfl (λh3=>?_) λh3=>?_
 have f7:i<I.length:=cr h3
 obtain⟨p,A⟩:=bR f7
 have i3:=aZ A
 have m4:=(hP p i3).1
 have m6:=(hP p i3).2
 have n6:bZ p.enc:=⟨m4.cJ⟩
 have k5:p.plain=one cp num p.k:=wJ (c:=cp) (num:=num) (sub:=sub) (k:=k) i i p.plain (Nat.le_refl _) (by rw[<-c3,List.getElem?_map,A];rfl)
 have l6:p.nodes.length<=64:=by
  have O:=m0 p.k
  rw[<-k5]at O
  exact O
 have f8:∀j,j<i+1->j<(opened cp num sub k j).1.length:=λj O=>by
  rcases Nat.lt_or_ge j i with h8|h8
  ·exact c4 j h8
  ·obtain rfl:j=i:=by omega
   omega
 have p6:=g5 (i+1) f8
 have b4:=A3 (c:=cp) (num:=num) (sub:=sub) (k:=k) i
 have m5:(I.map aF.plain)[i]? =some p.plain:=by rw[List.getElem?_map,A];rfl
 have m1:=A0 (c:=cp) (num:=num) (sub:=sub) m5
 rw[<-c3,m1]at b4
 obtain⟨a,D,U,v,a5,us,a1,ll,Q⟩:=p
 have hn:RS R 5 Nd.enc U v:=m6
 have m3:aF.plain ⟨a,D,U,v,a5,us,a1,ll,Q⟩=⟨a,D,v,Q,us,ll.map (·.2)⟩:=rfl
 rw[m3]at b4
 simp only at b4 l6
 have o9:=hn.ap
 have g1:=λj=>xV (c:=cp) (num:=num) (sub:=sub) a v j (I.map aF.plain)
 have n0:=λ(j:Nat) (n:Nd) (hj:v[j]? =some n)=>xX (c:=cp) (num:=num) (sub:=sub) hj a (I.map aF.plain)
 have g7:=λj=>sG (c:=cp) (num:=num) (sub:=sub) a (v.take j) (I.map aF.plain)
 have p2:(dj cp num sub a (I.map aF.plain) v).1.length<=1048576:=by
  have O:=congrArg (λz:List bQ×Nat=>z.1.length) b4
  simp only[List.length_set]at O
  omega
 refine .kn<|.seq<|.block<|.sr<|.fa rfl<|.lo rfl<|.mo rfl ?_
 refine .bo i hO A (λs2=>?_)
 refine .q (.aL rfl) ?_
 refine .bN (λc2=>?_)
 refine .bH rfl rfl<|.z<|.ag rfl<|.z<|.ag rfl<|.zs ?_
 refine bx.cL [(1,_),(2,_),(5,_),(6,_),(12,_),(14,_),(15,_),(16,_),(17,_)] kE.c.c.c.c.c.c.c.c.c (X:=Value×aB) (λy=>OS 9 1 hZ y.1 (if D then iH cp sub a else []) y.2) (λy E=>(18,y.1)::E) (λy=>[y.2,bl c2 (aF.enc ⟨a,D,U,v,a5,us,a1,ll,Q⟩) 93,bl b1 [vp,.int .i64 ((opened cp num sub k i).2:Nat)] 86,To,Tp,bl b0 [sZ,.int .i64 0] 86,bl b9 [.string k.os,.string k.oi] 44,bl b6 c.enc 25]) ?_ ?_
 refine .sr<|.fa rfl<|.lo rfl<|.zn ?_
 refine .cond rfl (λh4=>?_) λh4=>?_
 have hf:D=true:=h4
 refine .sr<|.q (.aL rfl)<|.mo rfl<|.mo rfl<|.fa rfl<|.q (.loadT rfl) ?_
 refine .fa rfl<|.lo rfl ?_
 refine .cK ((k3 a).weaken cU) (λu n7 M=>?_)
 have iu:=M.ap
 have o6:=k4 a
 have j0:=n3 a
 generalize o7:fitting cp sub a=fl at *
 have n2:∀q,(((fl.take q).filter λs=> !decide (s.us=⟨#[]⟩)).map (·.us)).length<=512:=λq=>by
  rw[List.length_map]
  exact Nat.le_trans (List.length_filter_le _ _) (by rw[List.length_take];omega)
 refine .ag rfl<|.z<|.az rfl<|.block ?_
 refine .cx [(1,_),(2,_),(5,_),(6,_),(12,_),(14,_),(15,_),(16,_),(17,_),(19,_)] (X:=Nat×Value×aB) (λy=>y.1<=fl.length/\OS 9 1 hZ y.2.1 (((fl.take y.1).filter λs=> !decide (s.us=⟨#[]⟩)).map (·.us)) y.2.2) (λy E=>(20,iN y.1)::(18,y.2.1)::E) (λy G=>y.2.2::G) (λy=>fl.length-y.1) (0,sZ,[]) ⟨Nat.zero_le _,OS.nil⟩ kE.c.c.c.c.c.c.c.c.c.c.c.c aW.ff ?_
 rintro⟨q,vo,Tq⟩ ⟨hq,a3⟩
 simp only at hq a3⊢
 have io:=a3.ap
 refine .seq<|.sr<|.mo rfl<|.mo rfl<|.q (.dN M) ?_
 refine .q .lss<|.zn ?_
 refine .cond rfl (λh5=>?_) λh5=>?_
 have a4:q<fl.length:=cr h5
 obtain⟨s,hs⟩:=bR a4
 have q1:=n2 q
 have i7:=dT hs
 obtain⟨d8,s7,s5,s6⟩:=s
 refine .kn<|.seq<|.block<|.sr<|.mo rfl<|.mo rfl ?_
 refine .bo q M hs (λs3=>?_)
 refine .fa rfl<|.lo rfl<|.q .gv<|.zn ?_
 refine .cond rfl (λh6=>?_) λh6=>?_
 have e8:d8≠⟨#[]⟩:=by simpa using h6
 have d2:((fl.take (q+1)).filter λs=> !decide (s.us=⟨#[]⟩)).map (·.us)=((fl.take q).filter λs=> !decide (s.us=⟨#[]⟩)).map (·.us)++[d8]:=by rw[i7,List.filter_append,List.map_append];simp[e8]
 refine .region<|.mo rfl<|.mo rfl<|.mo rfl ?_
 refine .bo q M hs (λs4=>?_)
 refine .fa rfl<|.lo rfl ?_
 refine .jT (λo1=>?_)
 refine .append a3 (RS.lits (xs:=[d8]) rfl (by simp[hZ]) (by simp[hZ,ap])) (by simp only[List.length_singleton];omega) (λv5 T5 a2=>?_)
 rw[<-d2]at a2
 refine .ag rfl<|.nil<|bf<|ax<|.region<|.mo rfl ?_
 refine .ia (q+1) .add ?_
 refine .ag rfl<|.nil ?_
 ·first
   |exact aP (q+1,v5,T5) ⟨a4,a2⟩ (by simp only;omega) kE.c.c.c.c.c.c.c.c.c.c.c.c (aW.drop [0] _)
   |exact aP (q+1,vo,Tq) ⟨a4,by simp only;rw[d2];exact a3⟩ (by simp only;omega) kE.c.c.c.c.c.c.c.c.c.c.c.c rH
 have e8:d8=⟨#[]⟩:=by simpa using h6
 have d2:((fl.take (q+1)).filter λs=> !decide (s.us=⟨#[]⟩)).map (·.us)=((fl.take q).filter λs=> !decide (s.us=⟨#[]⟩)).map (·.us):=by rw[i7,List.filter_append];simp[e8]
 refine .skip<|bf<|ax<|.region<|.mo rfl ?_
 refine .ia (q+1) .add ?_
 refine .ag rfl<|.nil ?_
 ·first
   |exact aP (q+1,v5,T5) ⟨a4,a2⟩ (by simp only;omega) kE.c.c.c.c.c.c.c.c.c.c.c.c (aW.drop [0] _)
   |exact aP (q+1,vo,Tq) ⟨a4,by simp only;rw[d2];exact a3⟩ (by simp only;omega) kE.c.c.c.c.c.c.c.c.c.c.c.c rH
 refine .exit<|bq<|bz<|bs ?_
 ·first
   |exact ay (vo,Tq) (by
     rw[dx (gj h5), <-j0]at a3
     simp only[hf,if_true]
     exact a3) kE.c.c.c.c.c.c.c.c.c.c (aH [0,1,1,1,1,1,1,1])
   |exact ay (sZ,[]) (by simp only[hf];exact OS.nil) kE.c.c.c.c.c.c.c.c.c.c aW.ff
 have hf:D=false:=h4
 refine .skip ?_
 ·first
   |exact ay (vo,Tq) (by
     rw[dx (gj h5), <-j0]at a3
     simp only[hf,if_true]
     exact a3) kE.c.c.c.c.c.c.c.c.c.c (aH [0,1,1,1,1,1,1,1])
   |exact ay (sZ,[]) (by simp only[hf];exact OS.nil) kE.c.c.c.c.c.c.c.c.c.c aW.ff
 intro y hy
 obtain⟨vu,Tu⟩:=y
 have M:=hy
 simp only at M⊢
 have j2:=M.ap
 clear hy
 refine ax<|.sr<|.ag rfl<|.zs<|.sr<|.az rfl<|.block ?_
 refine .cx [(1,_),(2,_),(5,_),(6,_),(12,_),(14,_),(15,_),(16,_),(18,_)] (X:=Nat×List aF×Value×aB×Value×List fA×aB×aB×Value×List Nat×aB) (λy=>y.1<=v.length/\CR cp num sub R I a (v.take y.1) y.2.1 y.2.2.1 y.2.2.2.1 y.2.2.2.2.1 y.2.2.2.2.2.1 y.2.2.2.2.2.2.1 y.2.2.2.2.2.2.2.1 y.2.2.2.2.2.2.2.2.1 y.2.2.2.2.2.2.2.2.2.1 y.2.2.2.2.2.2.2.2.2.2) (λy E=>(22,iN y.1)::(21,y.2.2.2.2.1)::(17,y.2.2.2.2.2.2.2.2.1)::E) (G:=[Tu,bl c2 (aF.enc ⟨a,D,U,v,a5,us,a1,ll,Q⟩) 93,Tp,bl b0 [sZ,.int .i64 0] 86,bl b9 [.string k.os,.string k.oi] 44,bl b6 c.enc 25]) (λy G=>bl b1 [y.2.2.1,.int .i64 ((opened cp num sub k i).2:Nat)] 86::y.2.2.2.1::y.2.2.2.2.2.2.1::y.2.2.2.2.2.2.2.1::y.2.2.2.2.2.2.2.2.2.2::G) (λy=>v.length-y.1) (0,I,vp,To,sZ,[],[],[],sZ,[],[]) ⟨Nat.zero_le _,⟨rfl,hO,⟨[],by simp,λq hq=>(by cases hq)⟩,OS.nil,λq hq=>(by cases hq),rfl,OS.nil,rfl⟩⟩ kE.c.c.c.c.c.c.c.c.c.c.c.c (aW.AN.trans (aH [5,5,0,0,0,0,0,0,0,0,0])) ?_
 rintro⟨j,F,j3,j4,vL,L,TL,Tr,vS,sn,TS⟩ ⟨hj,d⟩
 simp only at hj d⊢
 have j1:=d.le.ap
 have q2:=d.o.ap
 have r1:=d.so.ap
 have o3:L.length<=j:=by
  have O:=congrArg List.length d.ll
  have h8:=(sF (c:=cp) (num:=num) (sub:=sub) a (v.take j) (I.map aF.plain)).1
  rw[List.length_map]at O
  rw[List.length_take]at h8
  omega
 have j6:F.length=(dj cp num sub a (I.map aF.plain) (v.take j)).1.length:=by rw[<-d.eq,List.length_map]
 have p3:=g1 j
 have q0:sn.length<=F.length:=by
  rw[d.sq,j6]
  refine BO λy hy=>?_
  obtain⟨l,a8,hy⟩:=List.mem_flatten.1 hy
  exact g7 j l a8 y hy
 refine .seq<|.sr<|.mo rfl<|.fa rfl<|.lo rfl<|.q (.bJ hn) ?_
 refine .q .lss<|.zn ?_
 refine .cond rfl (λh7=>?_) λh7=>?_
 have f9:j<v.length:=cr h7
 obtain⟨n,g8⟩:=bR f9
 have d5:=n0 j n g8
 have g2:=g1 (j+1)
 rw[d5, <-d.eq]at g2
 simp only at g2
 have j7:sH cp sub a n=(ej cp sub a n).map λx=>⟨⟨#[]⟩,x.os,x.oi,x.rel⟩:=rfl
 have o4:=k1 a n
 generalize p1:ej cp sub a n=ks at *
 have g3:=λm=>xQ (c:=cp) (num:=num) ks m (F.map aF.plain)
 have l3:=λm=>sE (c:=cp) (num:=num) (ks.take m) (F.map aF.plain)
 refine .kn<|.seq<|.block<|.sr<|.ag rfl<|.zs ?_
 refine .dU 9 mixed (by kernel_rfl) ?_
 conv=>arg 6;dsimp only[List.take]
 refine .q (.aL rfl)<|.mo rfl<|.mo rfl<|.q (.aL rfl)<|.fa rfl<|.lo rfl<|.mo rfl ?_
 refine .bC j hn g8 (λr4=>?_)
 refine .q (.aL rfl)<|.nil ?_
 refine .cK ((k0 a [.bool D,U,a5,a1,iN Q] n ⟨λu M=>n6.h u (by simp only[aF.enc];simp only[List.mem_cons,List.not_mem_nil,or_false]at M⊢;simp[M])⟩ rfl).weaken cU) (λu e0 hS=>?_)
 have q5:=hS.ap
 rw[j7]at hS
 refine .ag rfl<|.zs<|.sr<|.az rfl<|.block ?_
 refine .cx [(1,_),(2,_),(5,_),(6,_),(12,_),(14,_),(15,_),(16,_),(18,_),(21,_),(22,_),(24,_)] (X:=Nat×List aF×Value×aB×Value×aB×Value×List Nat×aB) (λy=>y.1<=ks.length/\CS cp num R F (ks.take y.1) sn y.2.1 y.2.2.1 y.2.2.2.1 y.2.2.2.2.1 y.2.2.2.2.2.1 y.2.2.2.2.2.2.1 y.2.2.2.2.2.2.2.1 y.2.2.2.2.2.2.2.2) (λy E=>(25,iN y.1)::(23,y.2.2.2.2.1)::(17,y.2.2.2.2.2.2.1)::E) (G:=[e0,TL,Tr,Tu,bl c2 (aF.enc ⟨a,D,U,v,a5,us,a1,ll,Q⟩) 93,Tp,bl b0 [sZ,.int .i64 0] 86,bl b9 [.string k.os,.string k.oi] 44,bl b6 c.enc 25]) (λy G=>bl b1 [y.2.2.1,.int .i64 ((opened cp num sub k i).2:Nat)] 86::y.2.2.2.1::y.2.2.2.2.2.1::y.2.2.2.2.2.2.2.2::G) (λy=>ks.length-y.1) (0,F,j3,j4,sZ,[],vS,sn,TS) ⟨Nat.zero_le _,⟨rfl,d.o,⟨[],by simp,λq hq=>(by cases hq)⟩,OS.nil,d.so,rfl⟩⟩ kE.c.c.c.c.c.c.c.c.c.c.c.c.c.c.c (aW.ff.trans (aH [2,2,0,3,0,0,0,0,0,0,0,0,0])) ?_
 rintro⟨m,B,d9,e1,vR,TR,f0,H,c0⟩ ⟨l4,f⟩
 simp only at l4 f⊢
 have r0:=f.r.ap
 have q3:=f.o.ap
 have r2:=f.so.ap
 have p4:=g3 m
 have g6:=l3 m
 rw[List.length_take]at g6
 have o2:B.length=(dq cp num (F.map aF.plain) (ks.take m)).1.length:=by rw[<-f.eq,List.length_map]
 have p8:H.length<=1048576:=by
  rw[f.sq,d.sq, <-rW]
  refine Nat.le_trans (BO (n:=B.length) λy hy=>?_) (by omega)
  rcases List.mem_append.1 hy with hy|hy
  ·obtain⟨l,a8,hy⟩:=List.mem_flatten.1 hy
   have h8:=g7 j l a8 y hy
   obtain⟨l7,l0,_⟩:=f.gr
   rw[l0,List.length_append]
   omega
  ·have h8:=uU (c:=cp) (num:=num) (ks.take m) (F.map aF.plain) y hy
   omega
 refine .seq<|.sr<|.mo rfl<|.mo rfl<|.q (.dN hS) ?_
 refine .q .lss<|.zn ?_
 refine .cond rfl (λh8=>?_) λh8=>?_
 have c5:m<ks.length:=by have:=cm h8;rw[List.length_map]at this;omega
 obtain⟨⟨W,V,Y⟩,hx⟩:=bR c5
 have hs:(ks.map λx=>(⟨⟨#[]⟩,x.os,x.oi,x.rel⟩:Sub))[m]? =some ⟨⟨#[]⟩,W,V,Y⟩:=by rw[List.getElem?_map,hx];rfl
 have d6:=xS (c:=cp) (num:=num) hx (F.map aF.plain)
 rw[<-f.eq]at d6
 have g4:=g3 (m+1)
 rw[d6]at g4
 simp only at g4
 have k8:∀q,fg (B.map aF.plain) ⟨W,V,Y⟩=some q->eB cp num (B.map aF.plain) ⟨W,V,Y⟩=(B.map aF.plain,q):=λq hq=>by unfold eB;rw[hq]
 have k9:fg (B.map aF.plain) ⟨W,V,Y⟩=none->eB cp num (B.map aF.plain) ⟨W,V,Y⟩=(B.map aF.plain++[one cp num ⟨W,V,Y⟩],B.length):=λhq=>by unfold eB;rw[hq];simp
 refine .kn<|.seq<|.block<|.seq ?_
 refine .dU 12 mixed (by kernel_rfl) ?_
 conv=>arg 6;dsimp only[List.take]
 refine .fa rfl<|.lo rfl<|.mo rfl<|.mo rfl ?_
 refine .bo m hS hs (λr5=>?_)
 refine .fa rfl<|.q (.loadT rfl) ?_
 refine .mo rfl<|.mo rfl ?_
 refine .bo m hS hs (λr6=>?_)
 refine .fa rfl<|.lo rfl<|.nil ?_
 refine .ba (Qg d9 B _ f.o.rx ⟨W,V,Y⟩) (λw hw=>?_)
 subst hw
 refine .ag rfl<|.zs ?_
 refine bx.cL [(1,_),(2,_),(5,_),(6,_),(12,_),(14,_),(15,_),(16,_),(17,_),(18,_),(21,_),(22,_),(23,_),(24,_),(25,_)] kE.c.c.c.c.c.c.c.c.c.c.c.c.c.c.c (X:=Nat×List aF×Value×aB) (λy=>y.1=(eB cp num (B.map aF.plain) ⟨W,V,Y⟩).2/\y.2.1.map aF.plain=(eB cp num (B.map aF.plain) ⟨W,V,Y⟩).1/\OS 93 8 aF.enc y.2.2.1 y.2.1 y.2.2.2/\∃l,y.2.1=B++l/\∀p∈l,aF.is R p) (λy E=>(26,iN y.1)::E) (λy=>[bl b1 [y.2.2.1,.int .i64 ((opened cp num sub k i).2:Nat)] 86,y.2.2.2,TR,c0,e0,TL,Tr,Tu,bl c2 (aF.enc ⟨a,D,U,v,a5,us,a1,ll,Q⟩) 93,Tp,bl b0 [sZ,.int .i64 0] 86,bl b9 [.string k.os,.string k.oi] 44,bl b6 c.enc 25]) ?_ ?_
 refine .sr<|.mo rfl<|.q .lss<|.zn ?_
 refine .cond rfl (λO=>?_) λO=>?_
 have l9:fg (B.map aF.plain) ⟨W,V,Y⟩=none:=by
  cases hh:fg (B.map aF.plain) ⟨W,V,Y⟩with
  |none=>rfl
  |some q=>rw[hh]at O;simp only[fI]at O;have:=cm O;omega
 have d1:=k9 l9
 refine .sr<|.fa rfl<|.lo rfl<|.q (.dN f.o) ?_
 refine .ag rfl<|.z<|.fa rfl<|.lo rfl<|.az rfl<|.dp [14,16] mixed ?_
 refine .tO 0 rfl .move<|.tO 1 rfl (.aL rfl)<|.tO 2 rfl .move<|.tO 3 rfl .move ?_
 refine RA.bo 4 rfl m hS hs rfl rfl rfl (by kernel_rfl) (λr7=>?_)
 refine .tO 5 rfl (.fieldAddr rfl) ?_
 refine .tO 6 rfl (.loadT rfl) ?_
 refine .tO 7 rfl .move<|.tO 8 rfl .move ?_
 refine RA.bo 9 rfl m hS hs rfl rfl rfl (by kernel_rfl) (λr8=>?_)
 refine .tO 10 rfl (.fieldAddr rfl)<|.tO 11 rfl (.cE rfl) ?_
 refine .sT 12 rfl ?_
 refine .ba ((g9 ⟨W,V,Y⟩).weaken cU) (λu n1=>?_)
 obtain⟨p9,rfl,i0,e7⟩:=n1
 have n5:bZ p9.enc:=⟨e7.cJ⟩
 refine .nil (Next.sub ?_)
 refine .sT 13 rfl ?_
 refine .dM (λn8=>?_)
 refine .nil (Next.sub ?_)
 refine .sT 14 rfl ?_
 refine .append f.o (RS.lits (xs:=[p9]) (by simp) (by simp[aF.enc]) (by simpa using n5.h)) (by simp only[List.length_singleton];omega) (λv5 T5 a2=>?_)
 have q6:=a2.ap
 refine .nil (Next.mod rfl ?_)
 refine .tK 15 rfl (.eF rfl) ?_
 refine .sT 16 rfl ?_
 refine .dw rfl rfl ?_
 refine .nil (Next.mod rfl ?_)
 refine RA.nil (by kernel_rfl) ?_
 ·first
   |exact ay (B.length,B++[p9],v5,T5) ⟨by rw[d1],by rw[d1,List.map_append,List.map_cons,List.map_nil,i0],a2,_,rfl,λp A=>by rw[List.mem_singleton]at A;subst A;exact e7⟩ kE.c.c.c.c.c.c.c.c.c.c.c.c.c.c.c.c (aW.drop [0] _)
   |exact ay (q9,B,d9,e1) ⟨by rw[d0],by rw[d0],f.o,[],by simp,λp A=>(by cases A)⟩ kE.c.c.c.c.c.c.c.c.c.c.c.c.c.c.c.c rH
 obtain⟨q9,i4⟩:∃q,fg (B.map aF.plain) ⟨W,V,Y⟩=some q:=by
  cases hh:fg (B.map aF.plain) ⟨W,V,Y⟩with
  |none=>rw[hh]at O;simp[fI]at O
  |some q=>exact⟨q,rfl⟩
 have d0:=k8 q9 i4
 rw[i4]
 refine .skip ?_
 ·first
   |exact ay (B.length,B++[p9],v5,T5) ⟨by rw[d1],by rw[d1,List.map_append,List.map_cons,List.map_nil,i0],a2,_,rfl,λp A=>by rw[List.mem_singleton]at A;subst A;exact e7⟩ kE.c.c.c.c.c.c.c.c.c.c.c.c.c.c.c.c (aW.drop [0] _)
   |exact ay (q9,B,d9,e1) ⟨by rw[d0],by rw[d0],f.o,[],by simp,λp A=>(by cases A)⟩ kE.c.c.c.c.c.c.c.c.c.c.c.c.c.c.c.c rH
 intro y hy
 obtain⟨J,b8,c7,c1⟩:=y
 obtain⟨i9,f4,b2,f6⟩:=hy
 simp only at i9 f4 b2 f6⊢
 have q4:=b2.ap
 have i8:(dq cp num (F.map aF.plain) (ks.take (m+1))).2=(dq cp num (F.map aF.plain) (ks.take m)).2++[J]:=by rw[d6,i9]
 have d7:(dq cp num (F.map aF.plain) (ks.take (m+1))).1=b8.map aF.plain:=by rw[d6,f4]
 have b5:jO sn (dq cp num (F.map aF.plain) (ks.take (m+1))).2=if J∈H then H else H++[J]:=by rw[i8,rW, <-f.sq,BP]
 have c9:∃l,b8=F++l/\∀p∈l,aF.is R p:=by
  obtain⟨l1,a6,a7⟩:=f.gr
  obtain⟨l2,e3,e4⟩:=f6
  refine⟨l1++l2,by rw[e3,a6,List.append_assoc],λq hq=>?_⟩
  rcases List.mem_append.1 hq with hq|hq
  ·exact a7 q hq
  ·exact e4 q hq
 refine ax<|.sr<|.mo rfl<|.mo rfl ?_
 refine .jT (λj5=>?_)
 refine .append f.r (RS.lits (xs:=[J]) rfl (by simp[cW]) (by simp[cW,ap])) (by simp only[List.length_singleton];omega) (λv6 T6 b7=>?_)
 have q7:=b7.ap
 rw[<-i8]at b7
 refine .ag rfl<|.z<|.ag rfl<|.zs<|.sr<|.az rfl<|.block ?_
 refine .cx [(1,_),(2,_),(5,_),(6,_),(12,_),(14,_),(15,_),(16,_),(17,_),(18,_),(21,_),(22,_),(23,_),(24,_),(25,_),(26,_)] (X:=Nat) (λq=>q<=H.length) (λq E=>(29,iN q)::(28,.bool ((H.take q).any λz=>decide (z=J)))::E) (λ_ G=>G) (λq=>H.length-q) 0 (Nat.zero_le _) kE.c.c.c.c.c.c.c.c.c.c.c.c.c.c.c.c.c.c rH ?_
 rintro q hq
 refine .seq<|.sr<|.mo rfl<|.mo rfl<|.q (.dN f.so) ?_
 refine .q .lss<|.zn ?_
 refine .cond rfl (λe2=>?_) λe2=>?_
 have a4:q<H.length:=cr e2
 obtain⟨z,hz⟩:=bR a4
 have f3:=Dc hz J
 refine .kn<|.seq<|.block ?_
 refine bx.cL [(1,_),(2,_),(5,_),(6,_),(12,_),(14,_),(15,_),(16,_),(17,_),(18,_),(21,_),(22,_),(23,_),(24,_),(25,_),(26,_),(29,_)] kE.c.c.c.c.c.c.c.c.c.c.c.c.c.c.c.c.c (X:=Unit) (λ_=>True) (λ_ E=>(28,.bool ((H.take (q+1)).any λz=>decide (z=J)))::E) (λ_=>[bl j5 [iN J] 3,bl b1 [c7,.int .i64 ((opened cp num sub k i).2:Nat)] 86,c1,T6,c0,e0,TL,Tr,Tu,bl c2 (aF.enc ⟨a,D,U,v,a5,us,a1,ll,Q⟩) 93,Tp,bl b0 [sZ,.int .i64 0] 86,bl b9 [.string k.os,.string k.oi] 44,bl b6 c.enc 25]) ?_ ?_
 refine .region<|.mo rfl<|.mo rfl ?_
 refine .split (t:=156) rfl (λK=>?_) (λK=>?_)
 refine .gF K<|.gF K<|.gF K<|.gF K<|.gF K<|.gF K<|.q (.aO K) ?_
 refine .ag rfl<|.nil ?_
 ·exact ay () trivial (kE.c.c.c.c.c.c.c.c.c.c.c.c.c.c.c.c.c.bP rfl (by rw[f3];grind)) rH
 refine .gT K<|.mo rfl<|.gT K<|.mo rfl<|.gT K ?_
 refine .bo q f.so hz (λr9=>?_)
 refine .gT K<|.lo rfl<|.gT K<|.mo rfl<|.gT K<|.q .bK<|.q (.aN K) ?_
 refine .ag rfl<|.nil ?_
 ·exact ay () trivial (kE.c.c.c.c.c.c.c.c.c.c.c.c.c.c.c.c.c.bP rfl (by rw[f3];grind)) rH
 intro y hy
 refine bf<|ax<|.region<|.mo rfl ?_
 refine .ia (q+1) .add ?_
 refine .ag rfl<|.nil ?_
 ·exact aP (q+1) a4 (by omega) kE.c.c.c.c.c.c.c.c.c.c.c.c.c.c.c.c.c.c rH
 have m8:q=H.length:=by have:=bA e2;omega
 subst m8
 refine .exit<|bq<|bz<|bs<|ax<|.sr<|.mo rfl<|.q .not<|.zn ?_
 refine .cond rfl (λa6=>?_) λa6=>?_
 have e5:J∉H:=by
  have:((H.take H.length).any λz=>decide (z=J))=false:=by simpa using a6
  rw[List.take_length]at this
  intro hh
  have h8:=List.any_eq_false.1 this J hh
  simp at h8
 rw[if_neg e5]at b5
 refine .region<|.mo rfl<|.mo rfl ?_
 refine .jT (λn9=>?_)
 refine .append f.so (RS.lits (xs:=[J]) rfl (by simp[cW]) (by simp[cW,ap])) (by simp only[List.length_singleton];omega) (λv7 T7 e9=>?_)
 have q8:=e9.ap
 refine .ag rfl<|.nil<|bf<|ax<|.region<|.mo rfl ?_
 refine .ia (m+1) .add ?_
 refine .ag rfl<|.nil ?_
 ·first
   |exact aP (m+1,b8,c7,c1,v6,T6,v7,H++[J],T7) ⟨c5,⟨d7.symm,b2,c9,b7,e9,b5.symm⟩⟩ (by simp only;omega) kE.c.c.c.c.c.c.c.c.c.c.c.c.c.c.c (aW.drop [0,0] _)
   |exact aP (m+1,b8,c7,c1,v6,T6,f0,H,c0) ⟨c5,⟨d7.symm,b2,c9,b7,f.so,b5.symm⟩⟩ (by simp only;omega) kE.c.c.c.c.c.c.c.c.c.c.c.c.c.c.c (aW.drop [0] _)
 have e5:J∈H:=by
  have:((H.take H.length).any λz=>decide (z=J))=true:=by simpa using a6
  rw[List.take_length,List.any_eq_true]at this
  obtain⟨z,hz,e⟩:=this
  exact(cm e)▸hz
 rw[if_pos e5]at b5
 refine .skip<|bf<|ax<|.region<|.mo rfl ?_
 refine .ia (m+1) .add ?_
 refine .ag rfl<|.nil ?_
 ·first
   |exact aP (m+1,b8,c7,c1,v6,T6,v7,H++[J],T7) ⟨c5,⟨d7.symm,b2,c9,b7,e9,b5.symm⟩⟩ (by simp only;omega) kE.c.c.c.c.c.c.c.c.c.c.c.c.c.c.c (aW.drop [0,0] _)
   |exact aP (m+1,b8,c7,c1,v6,T6,f0,H,c0) ⟨c5,⟨d7.symm,b2,c9,b7,f.so,b5.symm⟩⟩ (by simp only;omega) kE.c.c.c.c.c.c.c.c.c.c.c.c.c.c.c (aW.drop [0] _)
 have l5:m=ks.length:=by have:=bA h8;rw[List.length_map]at this;omega
 rw[l5,List.take_length]at f g6
 obtain⟨pu,cu,rfl,_⟩:=f.r.shape
 refine .exit<|bq<|bz<|bs<|ax<|.region<|.mo rfl<|.mo rfl ?_
 refine .jT (λo0=>?_)
 refine .append d.le (RS.lits (xs:=[((.slice pu (dq cp num (F.map aF.plain) ks).2.length cu,(dq cp num (F.map aF.plain) ks).2):fA)]) rfl (by simp[dZ]) (by simp[dZ,ap])) (by simp only[List.length_singleton];omega) (λv5 T5 a2=>?_)
 have i5:=a2.ap
 refine .ag rfl<|.nil<|bf<|ax<|.region<|.mo rfl ?_
 refine .ia (j+1) .add ?_
 refine .ag rfl<|.nil ?_
 ·exact aP (j+1,B,d9,e1,v5,L++[(.slice pu (dq cp num (F.map aF.plain) ks).2.length cu,(dq cp num (F.map aF.plain) ks).2)],T5,TR++Tr,f0,H,c0) ⟨f9,⟨by rw[d5,f.eq,d.eq],f.o,by
   obtain⟨l1,a6,a7⟩:=d.gr
   obtain⟨l2,e3,e4⟩:=f.gr
   refine⟨l1++l2,by rw[e3,a6,List.append_assoc],λq hq=>?_⟩
   rcases List.mem_append.1 hq with hq|hq
   ·exact a7 q hq
   ·exact e4 q hq,a2,λq hq=>by
   rcases List.mem_append.1 hq with hq|hq
   ·exact(d.rows q hq).mono λb o C=>gE C
   ·rw[List.mem_singleton]at hq
    subst hq
    exact f.r.sg.mono λb o C=>iE C,by rw[d5,List.map_append,d.ll,d.eq];rfl,f.so,by rw[d5,List.flatten_append,rW,f.sq,d.sq,d.eq];simp⟩⟩ (by simp only;omega) kE.c.c.c.c.c.c.c.c.c.c.c.c ((aH [1,1,4,1,3,1,2,2,2,2,2,2]).trans (aW.ez (by simp[take,bL])))
 have k7:j=v.length:=by have:=bA h7;omega
 rw[k7,List.take_length]at d
 have c6:F[i]? =some ⟨a,D,U,v,a5,us,a1,ll,Q⟩:=by
  obtain⟨l,a8,_⟩:=d.gr
  rw[a8,List.getElem?_append_left f7,A]
 obtain⟨a9,j9⟩:=d.o.yg c6
 have m9:sn.length=kO (dj cp num sub a (I.map aF.plain) v).2.flatten:=by rw[d.sq];rfl
 refine .exit<|bq<|bz<|bs<|ax<|.seq<|.rR [1] [10,13] mixed ?_
 conv=>arg 3;simp only[take,rest,bL,List.getD_cons_zero,List.getD_cons_succ]
 conv=>arg 5;simp only[take,rest,bL,List.getD_cons_zero,List.getD_cons_succ]
 conv=>arg 9;simp only[take,rest,bL,List.getD_cons_zero,List.getD_cons_succ]
 refine .tO 0 rfl (.fieldAddr rfl)<|.tO 1 rfl (.cE rfl)<|.tO 2 rfl .move ?_
 refine .tK 3 rfl (.eF rfl) ?_
 refine .tK 4 rfl (.cE rfl)<|.tK 5 rfl .move<|.tO 6 rfl .move<|.tK 7 rfl .move ?_
 refine RA.bo 8 rfl i d.o c6 rfl rfl rfl (by kernel_rfl) (λs0=>?_)
 refine .tO 9 rfl (.fieldAddr rfl) ?_
 refine .sT 10 rfl ?_
 refine .pJ (k:=5) (cs:=[vu]) (z':=(⟨a,D,U,v,vu,if D then iH cp sub a else [],a1,ll,Q⟩:aF)) i d.o c6 rfl rfl rfl (nK j2.h) rfl (by simpa using j2.h) rfl (by simp) (λTd j8=>?_)
 have m7:(F.set i (⟨a,D,U,v,vu,if D then iH cp sub a else [],a1,ll,Q⟩:aF))[i]? =some ⟨a,D,U,v,vu,if D then iH cp sub a else [],a1,ll,Q⟩:=by rw[List.getElem?_set_self (List.getElem?_eq_some_iff.1 c6).1]
 refine .nil (Next.mod rfl ?_)
 refine RA.bo 11 rfl i d.o c6 rfl rfl rfl (by kernel_rfl) (λs1=>?_)
 refine .tK 12 rfl (.eF rfl j9) ?_
 refine .sT 13 rfl ?_
 refine .pJ (k:=6) (cs:=[vL]) (z':=(⟨a,D,U,v,vu,if D then iH cp sub a else [],vL,L,Q⟩:aF)) i j8 m7 rfl rfl rfl (nK j1.h) rfl (by simpa using j1.h) rfl (by simp) (λTe f2=>?_)
 rw[List.set_set]at f2
 refine .nil (Next.mod rfl ?_)
 refine RA.nil (by kernel_rfl) ?_
 refine ax<|.region ?_
 conv=>arg 8;simp only[rest,bL,List.cons_append,List.nil_append]
 refine .fa rfl<|.lo rfl<|.mo rfl<|.q (.dN d.so) ?_
 refine .ia ((opened cp num sub k i).2+sn.length) .add ?_
 refine .fa rfl<|.dw rfl rfl<|.nil<|bf<|ax<|.region<|.mo rfl ?_
 refine .ia (i+1) .add ?_
 refine .ag rfl<|.nil ?_
 ·exact aP (i+1,F.set i ⟨a,D,U,v,vu,if D then iH cp sub a else [],vL,L,Q⟩,j3,Te,TL++(Tr++(Tu++Tp))) ⟨f8,by
   simp only
   rw[b4,List.map_set,d.eq, <-d.ll]
   rfl,f2,λz hz=>by
   rcases List.mem_or_eq_of_mem_set hz with hz|rfl
   ·obtain⟨l,a8,g0⟩:=d.gr
    rw[a8]at hz
    rcases List.mem_append.1 hz with hz|hz
    ·exact⟨(hP z hz).1.mono λb o C=>C.imp id λC=>List.mem_append_right _ (List.mem_append_right _ (List.mem_append_right _ C)),(hP z hz).2⟩
    ·exact⟨(g0 z hz).mono λb o C=>.inl C,(g0 z hz).n⟩
   ·exact⟨⟨hn.mono λb o C=>.inl C,M.sg.mono λb o C=>.inr (List.mem_append_right _ (List.mem_append_right _ (List.mem_append_left _ C))),d.le.sg.mono λb o C=>.inr (List.mem_append_left _ C),λy hy=>(d.rows y hy).mono λb o C=>.inr (List.mem_append_right _ (List.mem_append_left _ C))⟩,hn⟩⟩ (by simp only;omega) kE.c.c.c.c.c.c.c ((aH [1,0,0,0,1,2,2,2,2]).trans (aW.ez (by simp[take,bL,du,b4,m9])))
 have k6:i=N:=fk.dY (c:=cp) (num:=num) (sub:=sub) (k:=k) ⟨by have:=bA h3;omega,c4⟩ hN
 subst k6
 refine .exit<|bq<|bz<|bs<|ax<|.seq<|.sr<|.fa rfl<|.lo rfl<|.q (.dN hO) ?_
 refine .fa rfl<|.lo rfl ?_
 refine .ia (I.length+(opened cp num sub k i).2) .add ?_
 refine .mo rfl<|.q .gtr<|.zn ?_
 refine .cond rfl (λa7=>?_) λa7=>?_
 have h0:b<(((opened cp num sub k i).1.length+(opened cp num sub k i).2:Nat):Int):=by have:=cm a7;omega
 rw[if_neg (by omega)]at Z
 refine .sr ?_
 refine .q .cN ?_
 refine .bH rfl rfl<|.az rfl ?_
 refine .ret (aI (bk _ (.two (.eI rfl rfl) (.tmp rfl)) (aW.one [] _) ?_))
 ·exact(c8 _ _ _).2 ⟨_,[],_,rfl,by rw[Z];rfl,RS.gL,λp A=>(by cases A),by rw[Z];rfl⟩
 have h0:(((opened cp num sub k i).1.length+(opened cp num sub k i).2:Nat):Int)<=b:=by have:=bA a7;omega
 rw[if_pos h0]at Z
 refine .kn<|.sr<|.q (.aL rfl)<|.bH rfl rfl<|.az rfl ?_
 refine .ret (bk _ (.two (.eI rfl rfl) (.tmp rfl)) (aW.one [1,1] _) ?_)
 ·exact(c8 _ _ _).2 ⟨vp,I,_,rfl,by rw[Z];rfl,hO.rs λp A=>.inr (by simp[take,bL,A]),λp A=>(hP p A).1.mono λb o C=>C.imp id λC=>by simp[take,bL,C],by rw[Z];exact c3⟩
def dg(S:cZ)(L:List bB)(rev:Int)(k:bc):List Sub:=if scan S rev then(L.filter λy=>y.there rev&&decide (y.t.cQ=k)).map (·.t.sub)else []
structure WS(R:aD)(cp:Cf)(c:bM)(hb g x:Nat)(S:cZ)(num:List Nat)(L:List bB):Prop where
 ci:c.is R
 pl:c.plain=cp
 h:∃vl e,HV R hb vl [e] 0/\e.rev=0/\e.c.plain=cp/\e.ll.map (·.2)=rows cp.bd num
 s:∃ps vf vr Mf Mr,SV R g S ps vf vr Mf Mr
 d:∃vL,DV R x S vL L
 rl:RL S L
 uy:gh S
 len:S.rows.length<=512
 m:kB isWord di cp num
 nm:(cp.numbers isWord di).2=rows cp.bd num
 qA:cp.bd.length<=5/\∀y∈cp.bd,y.bS.length<=6
theorem WS.mono{R R':aD}{f:Cf}{c:bM}{i g x:Nat}{S:cZ}{num:List Nat}{L:List bB}(h:WS R f c i g x S num L)(a:∀b o,R b o->R' b o):WS R' f c i g x S num L:=by
 obtain⟨y,e,l,n,p,q⟩:=h.h
 obtain⟨u,w,z,j,k,r⟩:=h.s
 obtain⟨v,t⟩:=h.d
 exact⟨h.ci.mono a,h.pl,⟨y,e,l.mono a,n,p,q⟩,⟨u,w,z,j,k,r.mono a⟩,⟨v,t.mono a⟩,h.rl,h.uy,h.len,h.m,h.nm,h.qA⟩
theorem DE(c:Cf):(fM c).bd.length<=5/\∀y∈(fM c).bd,y.bS.length<=6:=by
 unfold fM
 refine⟨by simp only[List.length_map,List.length_take];omega,λy a=>?_⟩
 simp only at a
 obtain⟨s,_,rfl⟩:=List.mem_map.1 a
 unfold s9
 simp only[List.length_map,List.length_take]
 omega
section
variable{R:aD}{cp:Cf}{c:bM}{hb g x:Nat}{S:cZ}{num:List Nat}{L:List bB}
theorem WS.ll(h:WS R cp c hb g x S num L):L.length<=512:=by rw[h.rl.pm.length_eq];exact h.len
theorem R9(S:cZ)(L:List bB)(b:Int):∃M:List (bc×Sub),M.length<=L.length/\(∀y∈M,∃r∈L,y=(r.t.cQ,r.t.sub))/\fQ M=dg S L b:=by
 refine⟨if scan S b then(L.filter λy=>y.there b).map λy=>(y.t.cQ,y.t.sub)else [],?_,?_,?_⟩
 ·split
  ·rw[List.length_map];exact List.length_filter_le _ _
  ·simp
 ·intro y c
  split at c
  ·obtain⟨r,d,rfl⟩:=List.mem_map.1 c
   exact⟨r,(List.mem_filter.1 d).1,rfl⟩
  ·cases c
 ·funext k
  unfold fQ dg
  split
  ·rw[List.filter_map,List.map_map,List.filter_filter]
   have:(λa:bB=>((λx:bc×Sub=>decide (x.1=k))∘λy:bB=>(y.t.cQ,y.t.sub)) a&&a.there b)=λy:bB=>y.there b&&decide (y.t.cQ=k):=by
    funext y
    simp[Bool.and_comm]
   rw[this]
   rfl
  ·rfl
theorem R8{b:Int}{k:bc}{s:Sub}(h:s∈dg S L b k):∃r∈L,s=r.t.sub:=by
 unfold dg at h
 split at h
 ·obtain⟨r,a,rfl⟩:=List.mem_map.1 h
  exact⟨r,(List.mem_filter.1 a).1,rfl⟩
 ·cases h
theorem WS.my(h:WS R cp c hb g x S num L)(a:Int)(k:bc)(i:Nat)(b:∀j,j<i->j<(opened cp num (dg S L a) k j).1.length):(opened cp num (dg S L a) k i).1.length+(opened cp num (dg S L a) k i).2<=1048576:=by
 obtain⟨M,d,_,e⟩:=R9 S L a
 rw[<-e]at b⊢
 obtain⟨E,f,_⟩:=h.m.ex
 exact SB f h.m.right h.m.dY h.qA.2 (Nat.le_trans d h.ll) k i b
theorem WS.fin(h:WS R cp c hb g x S num L)(a:Int)(k:bc):∃N,fk cp num (dg S L a) k N:=by
 have e:∀k,∀s∈dg S L a k,s∈L.map (·.t.sub):=λk s d=>by
  obtain⟨r,b,rfl⟩:=R8 d
  exact List.mem_map.2 ⟨r,b,rfl⟩
 exact fk.ex λi=>Px (P9 e) Rg i
theorem WS.ux(h:WS R cp c hb g x S num L)(a:Int)(k:bc):(fitting cp (dg S L a) k).length<=512:=by
 unfold fitting
 refine Nat.le_trans (List.length_filter_le _ _) ?_
 unfold dg
 split
 ·rw[List.length_map]
  exact Nat.le_trans (List.length_filter_le _ _) h.ll
 ·simp
theorem WS.uW(h:WS R cp c hb g x S num L)(a:Int)(k:bc)(n:Nd):(ej cp (dg S L a) k n).length<=512:=by
 have b:∀k,(fP cp (dg S L a) k).length<=512:=λk=>Nat.le_trans (List.length_filter_le _ _) (h.ux a k)
 unfold ej
 split
 ·rw[List.length_map];exact b _
 ·split
  ·rw[List.length_map];exact b _
  ·split<;>simp
theorem WS.fq(h:WS R cp c hb g x S num L)(a:Int)(E:0<=a)(k:bc)(b:Int)(y:b<=9223372036854775807){N:Nat}(t:fk cp num (dg S L a) k N):
  Spec prog 34 [pT hb,pT g,.int .u64 a,.agg [.string k.os,.string k.oi].toArray,.string k.rel,.int .i64 b] R [] (nz R (fq cp num (dg S L a) k b (scan S a) N)):=by
 obtain⟨K,e,v,z,A,j⟩:=h.h
 obtain⟨I,J,M,F,G,u⟩:=h.s
 have w:kC [e] a=some e:=by
  unfold kC
  have:hl [e] a 1=some 0:=by
   simp only[hl,List.getElem?_cons_zero,z]
   simp[E]
  rw[show([e]:List ep).length=1 from rfl,this]
  rfl
 have B:=h.my a k
 subst A
 exact yF v u h.rl h.len a e w num h.m j (by simp) (λd l=>by
  rw[List.mem_singleton]at l
  subst l
  have H:d.ll.length=d.c.plain.bd.length:=by rw[<-np d.c.plain.bd num, <-j,List.length_map]
  refine⟨by have:=h.qA.1;omega,λq C=>?_⟩
  have D:q.2∈rows d.c.plain.bd num:=by rw[<-j];exact List.mem_map.2 ⟨q,C,rfl⟩
  obtain⟨i,f,p⟩:=List.mem_iff_getElem.1 D
  rw[np]at f
  have o:=pB (n:=num) (bu f)
  rw[bu (by rw[np];exact f),p]at o
  have r:=Option.some.inj o
  rw[r,List.length_take]
  have:=h.qA.2 _ (List.getElem_mem f)
  omega) k b y (dg S L a) rfl B N t
theorem WS.P7(h:WS R cp c hb g x S num L)(a:Int)(k:bc)(b:Int){N:Nat}(f:fk cp num (dg S L a) k N):
  Spec prog 35 [.agg c.enc.toArray,pT x,.int .u64 a,.agg [.string k.os,.string k.oi].toArray,.string k.rel,.int .i64 b] R [] (nz R (Go.Proofs.YtdljmchhecoakaaGreat.fq cp num (dg S L a) k b (scan S a) N)):=by
 obtain⟨o,e⟩:=h.d
 have j:=h.my a k
 have l:=h.m
 have n:=h.nm
 have i:=h.pl
 subst i
 exact P8 c R h.ci num l n e h.ll a k b (dg S L a) rfl j N f
end
theorem tG(w:jD)(R:aD)(h:w.is R):Spec prog 14 [.agg w.enc.toArray] R [] λu H'=>∃T,H'=[T]/\∃(c:bM) (p1 p2 p3:Value) (ok:Bool),u=.tuple [p1,p2,.agg c.enc.toArray,p3,.bool ok].toArray/\One p1/\One p2/\One p3/\c.is (λb o=>R b o\/(b,o)∈T)/\c.plain=fM w.c.plain/\ok=decide (((fM w.c.plain).numbers isWord di).1=0)/\
  (ok=true->∃hb g x S num L,p1=pT hb/\p2=pT g/\p3=pT x/\WS (λb o=>R b o\/(b,o)∈T) (fM w.c.plain) c hb g x S num L):=by
 refine Spec.flat ((OM w R h).mono λu H' hu=>?_)
 rcases hu with hu|⟨T,c,x,rfl,rfl,k,a,l⟩
 ·obtain⟨d,f,i,j,hb,g,x,e,S,c,rfl,rfl,k,a,l,E,n,y,A,B,t,F⟩:=hu
  obtain⟨num,q,G⟩:=AV l
  refine⟨_,d++(f++(i++j)),rfl,by simp,_,rfl,c,_,_,_,true,rfl,⟨rfl⟩,⟨rfl⟩,⟨rfl⟩,k.mono λb o hb=>hb.imp id λhb=>List.mem_append_left _ hb,a,by rw[l];rfl,λ_=>?_⟩
  obtain⟨K,m⟩:=y.view (R:=λb o=>R b o\/(b,o)∈d++(f++(i++j))) λp a=>.inr (List.mem_append_right _ (List.mem_append_left _ a))
  obtain⟨H,J,M,r,s,C⟩:=A.view (R:=λb o=>R b o\/(b,o)∈d++(f++(i++j))) λp a=>.inr (List.mem_append_right _ (List.mem_append_right _ (List.mem_append_left _ a)))
  obtain⟨I,L,v,z⟩:=t.view (R:=λb o=>R b o\/(b,o)∈d++(f++(i++j))) λp a=>.inr (List.mem_append_right _ (List.mem_append_right _ (List.mem_append_right _ a)))
  have D:=m.all e (by simp)
  exact⟨hb,g,x,S,num,L,rfl,rfl,rfl,k.mono λb o hb=>hb.imp id λhb=>List.mem_append_left _ hb,a,⟨K,e,m,E,n,by rw[D.eq,n,q]⟩,⟨H,J,M,r,s,C⟩,⟨I,v⟩,z,B,F,G,q,DE _⟩
 ·exact⟨_,T,rfl,by simp,_,rfl,c,_,_,_,false,rfl,⟨rfl⟩,⟨rfl⟩,⟨rfl⟩,k,a,(decide_eq_false l).symm,λh=>(by cases h)⟩
theorem DY{W:ByteArray->Bool}{l:List Nd}(h:fS W l≠0):∀i,i<l.length->(tree W l (i+1)).isSome=true:=λi d=>by
 unfold fS at h
 cases ht:tree W l l.length with
 |none=>rw[ht]at h;exact absurd rfl h
 |some p=>
  obtain⟨b,x⟩:=p
  rw[ht]at h
  simp only at h
  have c:b=0:=by
   by_cases a:b=0
   ·exact a
   ·rw[if_neg a]at h;exact absurd rfl h
  subst c
  exact(jf _ _ ht).2.2.2 i (Nat.zero_le _) d
theorem Ps{W:ByteArray->Bool}{F:ByteArray->ByteArray->Bool}{c:Cf}{num:List Nat}{k:bc}(d:c.right W F=true):∀i,i<(one c num k).nodes.length->(tree W (one c num k).nodes (i+1)).isSome=true:=by
 unfold one
 split
 ·intro i a;exact absurd a (by simp)
 ·rename_i i a
  simp only[List.getD_eq_getElem?_getD,List.getElem?_map]
  cases hy:c.all[i]? with
  |none=>intro i a;exact absurd a (by simp)
  |some y=>
   have b:=(nZ d y (aZ hy)).1
   unfold nk at b
   simp only[Bool.and_eq_true,bne_iff_ne,ne_eq]at b
   simp only[Option.map_some,Option.getD_some]
   exact DY b.1.2
section
variable{R R':aD}{cp:Cf}{c:bM}{hb g x:Nat}{S:cZ}{num:List Nat}{L:List bB}
theorem WS.B6(h:WS R cp c hb g x S num L){b:Int}{k:bc}{N:Nat}(d:fk cp num (dg S L b) k N){ps:List aF}(e:ps.map aF.plain=(opened cp num (dg S L b) k N).1)(us:ByteArray):mi ps us:=by
 have l:=d.gr
 have D:∀p∈ps,p.plain∈(opened cp num (dg S L b) k N).1:=λp a=>by rw[<-e];exact List.mem_map.2 ⟨p,a,rfl⟩
 have r:∀p∈ps,p.nodes=(one cp num p.k).nodes:=λp a=>(l.one p.plain (D p a)).2.1
 have J:=h.my b k N d.2
 have A:=d.sS
 have I:(opened cp num (dg S L b) k N).1.length=ps.length:=by rw[<-e,List.length_map]
 refine⟨by rw[e];exact h.m.ps d us,λp a=>by rw[r p a];exact Ps h.m.right,λp a=>by rw[r p a];exact Nat.le_trans (wH h.m.right) (by decide),λp a q G=>?_,by omega,by rw[e,A];omega⟩
 obtain⟨i,B,t⟩:=List.mem_iff_getElem.1 a
 have F:(opened cp num (dg S L b) k N).1[i]? =some p.plain:=by rw[<-e,List.getElem?_map,bu B,t];rfl
 obtain⟨⟨u,w⟩,H⟩:=l.op i p.plain (by omega) F
 have v:p.ll.length=p.nodes.length:=by have:(p.ll.map (·.2)).length=p.nodes.length:=u;rwa [List.length_map]at this
 obtain⟨j,o,s⟩:=List.mem_iff_getElem.1 G
 have C:j<p.nodes.length:=by rw[<-v];exact o
 obtain⟨n,E⟩:∃n,p.nodes[j]? =some n:=⟨_,bu C⟩
 have f:=w j n E
 have y:(p.plain.leads.getD j [])=q.2:=by
  show((p.ll.map (·.2)).getD j [])=q.2
  rw[List.getD_eq_getElem?_getD,List.getElem?_map,bu o,s];rfl
 rw[y]at f
 have z:=congrArg List.length f
 rw[List.length_map,List.length_map]at z
 have:=h.uW b p.plain.k n
 omega
end
theorem mO{P:Program}{f:FuncId}{c:List Value}{R a:aD}{H:aV}{out:List bQ×Nat×Int}(h:Spec P f c a H (nz R out)):Spec P f c a H λu H'=>∃T,H'=[T]/\∃vp ps,u=.tuple [.agg [vp,iN out.2.1].toArray,.int .i64 out.2.2].toArray/\RS (λb o=>R b o\/(b,o)∈T) 8 aF.enc vp ps/\(∀p∈ps,aF.is (λb o=>R b o\/(b,o)∈T) p)/\ps.map aF.plain=out.1:=h.mono λu H' g=>by
 obtain⟨vp,ps,T,d,e⟩:=g
 exact⟨T,d,vp,ps,e⟩
def kD(us:ByteArray)(D:List bQ×Nat×Int)(b:Int)(K:Nat)(v:List Bool):Bool×Int:=
 if eu us=false then(false,9)else if D.2.2≠0 then(false,D.2.2)
 else if(ec b K v).2.2≠0 then(false,(ec b K v).2.2)else((ec b K v).1.getD 0 false,0)
theorem yE{c:Cf}{num:List Nat}{sub:bc->List Sub}{k:bc}{b:Int}{can:Bool}{N:Nat}(h:(fq c num sub k b can N).2.2=0):(fq c num sub k b can N).1=(opened c num sub k N).1/\(fq c num sub k b can N).2.1=(opened c num sub k N).2/\1<=b:=by
 unfold fq at h⊢
 split
 ·rename_i a;rw[if_pos a]at h;cases h
 ·rename_i a
  rw[if_neg a]at h
  split
  ·rename_i d;rw[if_pos d]at h;cases h
  ·rename_i d
   rw[if_neg d]at h
   split
   ·exact⟨rfl,rfl,by omega⟩
   ·rename_i e;rw[if_neg e]at h;cases h
theorem tV(c:Cf)(num:List Nat)(sub:bc->List Sub)(k:bc)(N:Nat):0<(opened c num sub k N).1.length:=by
 have:=(tU (c:=c) (num:=num) (sub:=sub) (k:=k) (Nat.zero_le N)).1
 have a:(opened c num sub k 0).1.length=1:=by simp[opened]
 omega
theorem B8{ps:List bQ}{us:ByteArray}{K:Nat}{s:QS}(ok:kg ps us)(e:dV ps us K s){b:Int}(a:(ec b K s.1).2.2=0):(ec b K s.1).1=s.1/\(ec b K s.1).1.length=ps.length:=by
 have f:=(e.inv ok).l1
 unfold ec at a⊢
 split
 ·rename_i c;rw[if_pos c]at a;cases a
 ·rename_i c
  rw[if_neg c]at a
  split
  ·rename_i d;rw[if_pos d]at a;cases a
  ·exact⟨rfl,f⟩
theorem RF{R R':aD}{i:Cf}{c:bM}{f g x:Nat}{S:cZ}{num:List Nat}{L:List bB}(h:WS R i c f g x S num L)(a:Int)(X:0<=a)(k:bc)(us:ByteArray)(a0:us.size<=9223372036854775807)(b:Int)(C:b<=9223372036854775807){N:Nat}(z:fk i num (dg S L a) k N){K:Nat}{s:QS}(t:dV (opened i num (dg S L a) k N).1 us K s)(Y:jc s.2):
  Spec prog 26 [pT f,pT g,.int .u64 a,.agg [.string k.os,.string k.oi].toArray,.string k.rel,.string us,.int .i64 b] R [] λu H'=>u=.tuple [.bool (kD us (fq i num (dg S L a) k b (scan S a) N) b K s.1).1,.int .i64 (kD us (fq i num (dg S L a) k b (scan S a) N) b K s.1).2].toArray/\H'=[]:=by
 have E:=h.fq a X k b C z
 have Z:=λ(ps:List aF) e=>h.B6 z (ps:=ps) e us
 have J:=yE (c:=i) (num:=num) (sub:=dg S L a) (k:=k) (b:=b) (can:=scan S a) (N:=N)
 have F:=tV i num (dg S L a) k N
 obtain⟨D,T⟩:∃D,D=fq i num (dg S L a) k b (scan S a) N:=⟨_,rfl⟩
 rw[<-T]at E J⊢
 have d:kD us D b K s.1=if eu us=false then(false,9)else if D.2.2≠0 then(false,D.2.2)
  else if(ec b K s.1).2.2≠0 then(false,(ec b K s.1).2.2)else((ec b K s.1).1.getD 0 false,0):=rfl
 generalize kD us D b K s.1=out at *
 generalize (opened i num (dg S L a) k N).1=OP at *
 refine Spec.body Tryz.func26 rfl Tryz.results26 Tryz.ntmps26 rfl ?_
 refine .sr ?_
 refine .bW rfl (λa4=>?_)
 refine .ag rfl<|.ag rfl<|.zs<|.sr<|.mo rfl ?_
 refine .ba ((tj us a0 R).weaken cU) (λu j=>?_)
 subst j
 refine .q .not<|.zn ?_
 refine .cond rfl (λm=>?_) λm=>?_
 have w:eu us=false:=by simpa using m
 rw[if_pos w]at d
 subst d
 refine .sr<|.ag rfl<|.az rfl ?_
 refine .ret (aI (bk _ (.two (.tmp rfl) (.tmp rfl)) (.none _) ?_))
 ·exact⟨rfl,rfl⟩
 have w:¬eu us=false:=by simpa using m
 rw[if_neg w]at d
 refine .kn<|.sr<|.mo rfl<|.mo rfl<|.mo rfl<|.q (.aL rfl)<|.mo rfl<|.mo rfl ?_
 refine .cK ((mO E).weaken cU) (λu a2 j=>?_)
 obtain⟨vp,ps,rfl,G,U,v⟩:=j
 have b1:=G.ap
 refine .mo rfl<|.q .extract<|.q .extract ?_
 refine .bN (λa5=>?_)
 refine .bH rfl rfl<|.ag rfl<|.zs<|.sr<|.mo rfl<|.q .dS<|.zn ?_
 refine .cond rfl (λn=>?_) λn=>?_
 have y:D.2.2≠0:=by simpa using n
 rw[if_pos y]at d
 subst d
 refine .sr<|.mo rfl<|.ag rfl<|.az rfl ?_
 refine .ret (aI (bk _ (.two (.tmp rfl) (.tmp rfl)) (.none _) ?_))
 ·exact⟨rfl,rfl⟩
 have M:D.2.2=0:=by simpa using n
 rw[if_neg (by rw[M];simp)]at d
 obtain⟨a1,a7,a8⟩:=J M
 rw[a1]at v
 have I:=Z ps v
 rw[<-v]at t F
 have H:=λQ=>B8 I.ok t (b:=b) Q
 rw[List.length_map]at F H
 refine .kn<|.sr<|.q (.aL rfl)<|.mo rfl<|.mo rfl ?_
 refine .cK (qI vp _ us ps _ (G.mono λb o f=>f.elim .inl λf=>.inr (by simp[f])) (λp W=>(U p W).mono λb o f=>f.elim .inl λf=>.inr (by simp[f])) I b C K s t Y) (λu a3 j=>?_)
 obtain⟨vo,rfl,A⟩:=j
 have a9:=A.ap
 refine .mo rfl<|.q .extract<|.q .extract<|.q .extract<|.ag rfl<|.ag rfl<|.ag rfl<|.zs<|.sr<|.mo rfl<|.q .dS<|.zn ?_
 refine .cond rfl (λr=>?_) λr=>?_
 have y:(ec b K s.1).2.2≠0:=by simpa using r
 rw[if_pos y]at d
 subst d
 refine .sr<|.mo rfl<|.ag rfl<|.az rfl ?_
 refine .ret (aI (bk _ (.two (.tmp rfl) (.tmp rfl)) (.none _) ?_))
 ·exact⟨rfl,rfl⟩
 have O:(ec b K s.1).2.2=0:=by simpa using r
 rw[if_neg (by rw[O];simp)]at d
 obtain⟨_,a6⟩:=H O
 obtain⟨l,B⟩:∃l,(ec b K s.1).1[0]? =some l:=⟨_,bu (by omega)⟩
 have V:(ec b K s.1).1.getD 0 false=l:=by rw[List.getD_eq_getElem?_getD,B];rfl
 rw[V]at d
 subst d
 refine .kn<|.sr<|.mo rfl ?_
 refine .bo 0 A B (λb2=>?_)
 refine .lo rfl<|.ag rfl<|.az rfl ?_
 refine .ret (bk _ (.two (.tmp rfl) (.tmp rfl)) (.none _) ?_)
 ·exact⟨rfl,rfl⟩
theorem SG{H:Type}{enc:TypeId×Value->H}{W:World}{f:Nat}{cs:List Value}{x:DataW H×List MemPlace}(h:DataW.trod enc prog W 0 (λ_=>true) true f 249 cs=some x):∃t:Ty,cs=t.enc/\t.fits:=by
 obtain⟨c,d⟩:=kQ Tryz.underlying249 h
 have j:Tryz.prog.cellsOf 249=2:=by kernel_rfl
 rw[j]at c
 have e:Tryz.prog.cellsOf 9=1:=by kernel_rfl
 match cs,c with
 |[a0,a1],_=>
  obtain⟨p,r,a⟩:∃n y,DataW.trod enc prog W 0 (λ_=>true) true n 9 (([a0,a1].drop 0).take (Tryz.prog.cellsOf 9))=some y:=d 0 _ rfl
  obtain⟨q,s,b⟩:∃n y,DataW.trod enc prog W 0 (λ_=>true) true n 9 (([a0,a1].drop 1).take (Tryz.prog.cellsOf 9))=some y:=d 1 _ rfl
  simp only[e,List.drop_zero,List.drop_succ_cons,List.take_succ_cons,List.take_zero]at a b
  obtain⟨m,g,k⟩:=kV a
  obtain⟨o,i,l⟩:=kV b
  cases g;cases i
  exact⟨⟨m,o⟩,rfl,k,l⟩
theorem OZ{H:Type}{enc:TypeId×Value->H}{W:World}{f:Nat}{cs:List Value}{x:DataW H×List MemPlace}(h:DataW.trod enc prog W 0 (λ_=>true) true f 199 cs=some x):∃t:Nd,cs=t.enc/\t.fits:=by
 obtain⟨i,a⟩:=kQ Tryz.underlying199 h
 have s:Tryz.prog.cellsOf 199=5:=by kernel_rfl
 rw[s]at i
 have j:Tryz.prog.cellsOf 3=1:=by kernel_rfl
 have l:Tryz.prog.cellsOf 9=1:=by kernel_rfl
 match cs,i with
 |[a0,a1,a2,a3,a4],_=>
  obtain⟨D,J,b⟩:∃n y,DataW.trod enc prog W 0 (λ_=>true) true n 3 (([a0,a1,a2,a3,a4].drop 0).take (Tryz.prog.cellsOf 3))=some y:=a 0 _ rfl
  obtain⟨E,K,c⟩:∃n y,DataW.trod enc prog W 0 (λ_=>true) true n 9 (([a0,a1,a2,a3,a4].drop 1).take (Tryz.prog.cellsOf 9))=some y:=a 1 _ rfl
  obtain⟨F,L,d⟩:∃n y,DataW.trod enc prog W 0 (λ_=>true) true n 9 (([a0,a1,a2,a3,a4].drop 2).take (Tryz.prog.cellsOf 9))=some y:=a 2 _ rfl
  obtain⟨G,M,e⟩:∃n y,DataW.trod enc prog W 0 (λ_=>true) true n 3 (([a0,a1,a2,a3,a4].drop 3).take (Tryz.prog.cellsOf 3))=some y:=a 3 _ rfl
  obtain⟨I,N,g⟩:∃n y,DataW.trod enc prog W 0 (λ_=>true) true n 3 (([a0,a1,a2,a3,a4].drop 4).take (Tryz.prog.cellsOf 3))=some y:=a 4 _ rfl
  simp only[j,l,List.drop_zero,List.drop_succ_cons,List.take_succ_cons,List.take_zero]at b c d e g
  obtain⟨A,m⟩:=tn (k:=.i64) b
  obtain⟨w,o,u⟩:=kV c
  obtain⟨z,p,v⟩:=kV d
  obtain⟨B,q⟩:=tn (k:=.i64) e
  obtain⟨C,r⟩:=tn (k:=.i64) g
  cases m;cases o;cases p;cases q;cases r
  exact⟨⟨A,w,z,B,C⟩,rfl,u,v⟩
theorem Q6{H:Type}{enc:TypeId×Value->H}{W:World}{f:Nat}{cs:List Value}{x:DataW H×List MemPlace}(h:DataW.trod enc prog W 0 (λ_=>true) true f 169 cs=some x):∃t:Sc,cs=t.enc/\t.fits:=by
 obtain⟨e,a⟩:=kQ Tryz.underlying169 h
 have m:Tryz.prog.cellsOf 169=4:=by kernel_rfl
 rw[m]at e
 have i:Tryz.prog.cellsOf 9=1:=by kernel_rfl
 have g:Tryz.prog.cellsOf 44=2:=by kernel_rfl
 match cs,e with
 |[a0,a1,a2,a3],_=>
  obtain⟨z,C,b⟩:∃n y,DataW.trod enc prog W 0 (λ_=>true) true n 9 (([a0,a1,a2,a3].drop 0).take (Tryz.prog.cellsOf 9))=some y:=a 0 _ rfl
  obtain⟨A,D,c⟩:∃n y,DataW.trod enc prog W 0 (λ_=>true) true n 44 (([a0,a1,a2,a3].drop 1).take (Tryz.prog.cellsOf 44))=some y:=a 1 _ rfl
  obtain⟨B,E,d⟩:∃n y,DataW.trod enc prog W 0 (λ_=>true) true n 9 (([a0,a1,a2,a3].drop 3).take (Tryz.prog.cellsOf 9))=some y:=a 2 _ rfl
  simp only[i,g,List.drop_zero,List.drop_succ_cons,List.take_succ_cons,List.take_zero]at b c d
  obtain⟨s,j,o⟩:=kV b
  obtain⟨u,v,k,p,q⟩:=nX c
  obtain⟨w,l,r⟩:=kV d
  cases j;cases k;cases l
  exact⟨⟨s,u,v,w⟩,rfl,o,p,q,r⟩
theorem SJ{H:Type}{enc:TypeId×Value->H}{W:World}{f:Nat}{cs:List Value}{x:DataW H×List MemPlace}(h:DataW.trod enc prog W 0 (λ_=>true) true f 165 cs=some x):∃v l,cs=[v]/\RS (Rw W) 2 Ty.enc v l/\∀t∈l,t.fits:=
 RS.nS (D:=λt:Ty=>t.fits) (sz:=2) (en:=Ty.enc) Tryz.underlying165 (by kernel_rfl) (by omega) h λn cs x b=>by
  obtain⟨t,rfl,a⟩:=SG b
  exact⟨rfl,(Ty.one t).h,t,rfl,a⟩
theorem O2{H:Type}{enc:TypeId×Value->H}{W:World}{f:Nat}{cs:List Value}{x:DataW H×List MemPlace}(h:DataW.trod enc prog W 0 (λ_=>true) true f 90 cs=some x):∃v l,cs=[v]/\RS (Rw W) 5 Nd.enc v l/\∀t∈l,t.fits:=
 RS.nS (D:=λt:Nd=>t.fits) (sz:=5) (en:=Nd.enc) Tryz.underlying90 (by kernel_rfl) (by omega) h λn cs x b=>by
  obtain⟨t,rfl,a⟩:=OZ b
  exact⟨rfl,(Nd.one t).h,t,rfl,a⟩
theorem Re{H:Type}{enc:TypeId×Value->H}{W:World}{f:Nat}{cs:List Value}{x:DataW H×List MemPlace}(h:DataW.trod enc prog W 0 (λ_=>true) true f 23 cs=some x):∃v l,cs=[v]/\RS (Rw W) 4 Sc.enc v l/\∀t∈l,t.fits:=
 RS.nS (D:=λt:Sc=>t.fits) (sz:=4) (en:=Sc.enc) Tryz.underlying23 (by kernel_rfl) (by omega) h λn cs x b=>by
  obtain⟨t,rfl,a⟩:=Q6 b
  exact⟨rfl,(Sc.one t).h,t,rfl,a⟩
theorem Qt{H:Type}{enc:TypeId×Value->H}{W:World}{f:Nat}{cs:List Value}{x:DataW H×List MemPlace}(h:DataW.trod enc prog W 0 (λ_=>true) true f 167 cs=some x):∃t:ca,cs=t.enc/\t.is (Rw W):=by
 obtain⟨e,a⟩:=kQ Tryz.underlying167 h
 have q:Tryz.prog.cellsOf 167=3:=by kernel_rfl
 rw[q]at e
 have i:Tryz.prog.cellsOf 9=1:=by kernel_rfl
 have j:Tryz.prog.cellsOf 90=1:=by kernel_rfl
 have g:Tryz.prog.cellsOf 165=1:=by kernel_rfl
 match cs,e with
 |[a0,a1,a2],_=>
  obtain⟨A,F,b⟩:∃n y,DataW.trod enc prog W 0 (λ_=>true) true n 9 (([a0,a1,a2].drop 0).take (Tryz.prog.cellsOf 9))=some y:=a 0 _ rfl
  obtain⟨B,G,c⟩:∃n y,DataW.trod enc prog W 0 (λ_=>true) true n 165 (([a0,a1,a2].drop 1).take (Tryz.prog.cellsOf 165))=some y:=a 1 _ rfl
  obtain⟨C,I,d⟩:∃n y,DataW.trod enc prog W 0 (λ_=>true) true n 90 (([a0,a1,a2].drop 2).take (Tryz.prog.cellsOf 90))=some y:=a 2 _ rfl
  simp only[i,j,g,List.drop_zero,List.drop_succ_cons,List.take_succ_cons,List.take_zero]at b c d
  obtain⟨z,k,r⟩:=kV b
  obtain⟨D,s,l,v,o⟩:=SJ c
  obtain⟨E,u,m,w,p⟩:=O2 d
  cases k;cases l;cases m
  exact⟨⟨_,_,⟨z,s,u⟩⟩,rfl,r,v,w,o,p⟩
theorem Qv{H:Type}{enc:TypeId×Value->H}{W:World}{f:Nat}{cs:List Value}{x:DataW H×List MemPlace}(h:DataW.trod enc prog W 0 (λ_=>true) true f 162 cs=some x):∃v l,cs=[v]/\RS (Rw W) 3 ca.enc v l/\∀t∈l,t.is (Rw W):=
 RS.nS (D:=λt:ca=>t.is (Rw W)) (sz:=3) (en:=ca.enc) Tryz.underlying162 (by kernel_rfl) (by omega) h λn cs x b=>by
  obtain⟨t,rfl,a⟩:=Qt b
  exact⟨rfl,a.cJ,t,rfl,a⟩
theorem R0{H:Type}{enc:TypeId×Value->H}{W:World}{f:Nat}{cs:List Value}{x:DataW H×List MemPlace}(h:DataW.trod enc prog W 0 (λ_=>true) true f 164 cs=some x):∃t:cj,cs=t.enc/\t.is (Rw W):=by
 obtain⟨c,d⟩:=kQ Tryz.underlying164 h
 have l:Tryz.prog.cellsOf 164=2:=by kernel_rfl
 rw[l]at c
 have g:Tryz.prog.cellsOf 9=1:=by kernel_rfl
 have e:Tryz.prog.cellsOf 162=1:=by kernel_rfl
 match cs,c with
 |[a0,a1],_=>
  obtain⟨r,v,a⟩:∃n y,DataW.trod enc prog W 0 (λ_=>true) true n 9 (([a0,a1].drop 0).take (Tryz.prog.cellsOf 9))=some y:=d 0 _ rfl
  obtain⟨s,w,b⟩:∃n y,DataW.trod enc prog W 0 (λ_=>true) true n 162 (([a0,a1].drop 1).take (Tryz.prog.cellsOf 162))=some y:=d 1 _ rfl
  simp only[g,e,List.drop_zero,List.drop_succ_cons,List.take_succ_cons,List.take_zero]at a b
  obtain⟨q,i,m⟩:=kV a
  obtain⟨u,o,j,p,k⟩:=Qv b
  cases i;cases j
  exact⟨⟨q,_,o⟩,rfl,m,p,k⟩
theorem R2{H:Type}{enc:TypeId×Value->H}{W:World}{f:Nat}{cs:List Value}{x:DataW H×List MemPlace}(h:DataW.trod enc prog W 0 (λ_=>true) true f 22 cs=some x):∃v l,cs=[v]/\RS (Rw W) 2 cj.enc v l/\∀t∈l,t.is (Rw W):=
 RS.nS (D:=λt:cj=>t.is (Rw W)) (sz:=2) (en:=cj.enc) Tryz.underlying22 (by kernel_rfl) (by omega) h λn cs x b=>by
  obtain⟨t,rfl,a⟩:=R0 b
  exact⟨rfl,a.cJ,t,rfl,a⟩
theorem DF{H:Type}{enc:TypeId×Value->H}{W:World}{f:Nat}{cs:List Value}{x:DataW H×List MemPlace}(h:DataW.trod enc prog W 0 (λ_=>true) true f 25 cs=some x):∃c:bM,cs=c.enc/\c.is (Rw W):=by
 obtain⟨d,e⟩:=kQ Tryz.underlying25 h
 have o:Tryz.prog.cellsOf 25=2:=by kernel_rfl
 rw[o]at d
 have g:Tryz.prog.cellsOf 22=1:=by kernel_rfl
 have i:Tryz.prog.cellsOf 23=1:=by kernel_rfl
 match cs,d with
 |[a0,a1],_=>
  obtain⟨t,z,a⟩:∃n y,DataW.trod enc prog W 0 (λ_=>true) true n 22 (([a0,a1].drop 0).take (Tryz.prog.cellsOf 22))=some y:=e 0 _ rfl
  obtain⟨u,A,b⟩:∃n y,DataW.trod enc prog W 0 (λ_=>true) true n 23 (([a0,a1].drop 1).take (Tryz.prog.cellsOf 23))=some y:=e 1 _ rfl
  simp only[g,i,List.drop_zero,List.drop_succ_cons,List.take_succ_cons,List.take_zero]at a b
  obtain⟨v,p,j,r,l⟩:=R2 a
  obtain⟨w,q,k,s,m⟩:=Re b
  cases j;cases k
  exact⟨⟨_,_,p,q⟩,rfl,r,s,l,m⟩
theorem uN{H:Type}{enc:TypeId×Value->H}{W:World}{f:Nat}{cs:List Value}{x:DataW H×List MemPlace}(h:DataW.trod enc prog W 0 (λ_=>true) true f 28 cs=some x):∃w:jD,cs=w.enc/\w.is (Rw W):=by
 obtain⟨e,g⟩:=kQ Tryz.underlying28 h
 have a:Tryz.prog.cellsOf 28=3:=by kernel_rfl
 rw[a]at e
 have i:Tryz.prog.cellsOf 25=2:=by kernel_rfl
 have j:Tryz.prog.cellsOf 26=1:=by kernel_rfl
 match cs,e with
 |[a0,a1,a2],_=>
  obtain⟨q,t,b⟩:∃n y,DataW.trod enc prog W 0 (λ_=>true) true n 25 (([a0,a1,a2].drop 0).take (Tryz.prog.cellsOf 25))=some y:=g 0 _ rfl
  obtain⟨r,u,d⟩:∃n y,DataW.trod enc prog W 0 (λ_=>true) true n 26 (([a0,a1,a2].drop 2).take (Tryz.prog.cellsOf 26))=some y:=g 1 _ rfl
  simp only[i,j,List.drop_zero,List.drop_succ_cons,List.take_succ_cons,List.take_zero]at b d
  obtain⟨c,k,a⟩:=DF b
  obtain⟨s,o,l,p,m⟩:=Q8 d
  cases k;cases l
  exact⟨⟨c,_,o⟩,rfl,a,p,m⟩
theorem BE(o:Value)(a:List Nat)(p:Value)(v:List Bool)(R:aD)(e:RS R 1 cW o a)(m:RS R 1 dH p v)(t:∀j∈a,j<v.length):
  Spec prog 96 [o,p] R [] λu H'=>u=.bool (a.any λj=>v.getD j false)/\H'=[]:=by
 have z:=e.ap
 have A:=m.ap
 have y:=e.le
 refine Spec.body Tryz.func96 rfl Tryz.results96 Tryz.ntmps96 rfl ?_
 refine .sr<|.ag rfl<|.zs<|.sr<|.az rfl<|.block ?_
 refine .cx [(0,_),(1,_)] (X:=Nat) (λi=>i<=a.length/\(a.take i).any (λj=>v.getD j false)=false) (λi E=>(5,iN i)::E) (λ_ G=>G) (λi=>a.length-i) 0 ⟨Nat.zero_le _,by simp⟩ kE.c.c.c rH ?_
 rintro i ⟨x,h⟩
 refine .seq<|.sr<|.mo rfl<|.mo rfl<|.q (.bJ e) ?_
 refine .q .lss<|.zn ?_
 refine .cond rfl (λf=>?_) λf=>?_
 have l:i<a.length:=cr f
 obtain⟨j,d⟩:=bR l
 have w:=t j (aZ d)
 obtain⟨b,k⟩:=bR w
 have n:v.getD j false=b:=by rw[List.getD_eq_getElem?_getD,k];rfl
 refine .kn<|.seq<|.block<|.sr<|.mo rfl<|.mo rfl<|.mo rfl ?_
 refine .bC i e d (λB=>?_)
 refine .lo rfl ?_
 refine .bC j m k (λC=>?_)
 refine .lo rfl<|.zn ?_
 refine .cond rfl (λg=>?_) λg=>?_
 have s:b=true:=g
 refine .sr<|.az rfl ?_
 refine .ret (bp (aI (cF (bp (aI (aM rfl ?_))))))
 ·exact⟨by rw[ow d (by rw[n];exact s)],rfl⟩
 have r:b=false:=g
 refine .skip<|bf<|ax<|.region<|.mo rfl ?_
 refine .ia (i+1) .add ?_
 refine .ag rfl<|.nil ?_
 ·exact aP (i+1) ⟨l,qT d h (by rw[n];exact r)⟩ (by omega) kE.c.c.c rH
 refine .exit<|bq<|bz<|bs<|ax<|.sr<|.az rfl ?_
 refine .ret (aM rfl ?_)
 ·rw[dx (gj f)]at h
  exact⟨by rw[h],rfl⟩
theorem AR{p:bQ}{us:ByteArray}{vf:Nat->Bool}{e:Nat}{n:Nd}(g:p.nodes[e]? =some n)(j:n.kind=1\/n.kind=2\/n.kind=3\/((n.kind=4\/n.kind=5\/n.kind=6)/\0<=n.a/\n.a.toNat<e/\0<=n.b/\n.b.toNat<e)):
  dm p us vf (e+1)=(if n.kind=1 then decide (us∈p.gQ)||(p.leads.getD e []).any vf
   else if n.kind=4 then dm p us vf (n.a.toNat+1)||dm p us vf (n.b.toNat+1)
   else if n.kind=5 then dm p us vf (n.a.toNat+1)&&dm p us vf (n.b.toNat+1)
   else if n.kind=6 then dm p us vf (n.a.toNat+1)&& !dm p us vf (n.b.toNat+1)
   else(p.leads.getD e []).any vf):=by
 rw[dm]
 simp only[g]
 by_cases c:n.op=true
 ·have d:n.kind=4\/n.kind=5\/n.kind=6:=by
   unfold Nd.op at c
   simp only[Bool.or_eq_true,beq_iff_eq]at c
   omega
  have f:n.a.toNat+1<=e/\n.b.toNat+1<=e:=by omega
  simp only[c,if_true]
  rw[dif_pos f]
  rcases d with h|h|h<;>simp[h]
 ·have d:n.kind=1\/n.kind=2\/n.kind=3:=by
   unfold Nd.op at c
   simp only[Bool.or_eq_true,beq_iff_eq]at c
   omega
  have i:n.op=false:=by simpa using c
  simp only[i,Bool.false_eq_true,if_false]
  rw[ye]
  rcases d with h|h|h<;>simp[h]
theorem Bx(us:ByteArray)(p:aF)(S:Value)(v:List Bool)(b6:p.ll.length=p.nodes.length)(a8:∀q∈p.ll,∀j∈q.2,j<v.length)(ht:∀i,i<p.nodes.length->(tree isWord p.nodes (i+1)).isSome=true):
  ∀(e:Nat),e<p.nodes.length->∀(R:aD),p.is R->RS R 1 dH S v->Spec prog 45 [.agg p.enc.toArray,iN e,.string us,S] R [] λu H'=>u=.bool (dm p.plain us (λj=>v.getD j false) (e+1))/\H'=[]:=by
 intro e
 induction e using Nat.strongRecOn with
 |ind e ih=>
 intro he R N V
 have c0:bZ p.enc:=⟨N.cJ⟩
 have i1:=V.ap
 obtain⟨n,Z⟩:=bR he
 have a7:=AK Z (ht e he)
 have d:=AR (p:=p.plain) (us:=us) (vf:=λj=>v.getD j false) (e:=e) (n:=n) Z a7
 obtain⟨⟨vr,W⟩,U⟩:∃q,p.ll[e]? =some q:=⟨_,bu (by omega)⟩
 have a6:=aZ U
 have hr:RS R 1 cW vr W:=N.l.all _ a6
 have a0:=a8 _ a6
 simp only at a0
 have a9:p.plain.leads.getD e []=W:=by
  show((p.ll.map (·.2)).getD e [])=W
  rw[List.getD_eq_getElem?_getD,List.getElem?_map,U];rfl
 rw[a9]at d
 have O:∀(D:aD),(∀b o,R b o->D b o)->n.a.toNat<e->0<=n.a->Spec prog 45 [.agg p.enc.toArray,.int .i64 n.a,.string us,S] D [] λu H'=>u=.bool (dm p.plain us (λj=>v.getD j false) (n.a.toNat+1))/\H'=[]:=λD T H I=>by
  have h9:=ih _ H (by omega) D (N.mono T) (V.mono T)
  have h8:=congrArg (Value.int .i64) (Int.toNat_of_nonneg I)
  rw[<-h8]
  exact h9
 have Q:∀(D:aD),(∀b o,R b o->D b o)->n.b.toNat<e->0<=n.b->Spec prog 45 [.agg p.enc.toArray,.int .i64 n.b,.string us,S] D [] λu H'=>u=.bool (dm p.plain us (λj=>v.getD j false) (n.b.toNat+1))/\H'=[]:=λD T H I=>by
  have h9:=ih _ H (by omega) D (N.mono T) (V.mono T)
  have h8:=congrArg (Value.int .i64) (Int.toNat_of_nonneg I)
  rw[<-h8]
  exact h9
 clear ih
 have b0:p.plain.gQ=p.gQ:=rfl
 rw[b0]at d
 generalize dm p.plain us (λj=>v.getD j false) (e+1)=val at *
 generalize dm p.plain us (λj=>v.getD j false) (n.a.toNat+1)=va at *
 generalize dm p.plain us (λj=>v.getD j false) (n.b.toNat+1)=vb at *
 obtain⟨k0,fo,vn,b3,vu,Y,vl,ll,nm⟩:=p
 have n0:RS R 5 Nd.enc vn b3:=N.n
 have u0:RS R 1 hZ vu Y:=N.u
 have l0:RS R 1 dZ vl ll:=N.l.rs
 simp only at Z U d he
 have b8:=n0.ap
 have c2:=u0.ap
 have b7:=l0.ap
 have c1:=hr.ap
 have c3:=u0.le
 refine Spec.body Tryz.func45 rfl Tryz.results45 Tryz.ntmps45 rfl ?_
 refine .sr ?_
 refine .bW rfl (λb4=>?_)
 refine .ag rfl<|.z<|.fa rfl<|.lo rfl<|.mo rfl ?_
 refine .bC e n0 Z (λc4=>?_)
 refine .q (.aL rfl) ?_
 refine .bN (λb9=>?_)
 refine .bH rfl rfl<|.zs<|.sr<|.fa rfl<|.lo rfl<|.q .bK<|.zn ?_
 refine .cond rfl (λH=>?_) λH=>?_
 have hk:n.kind=1:=by simpa using H
 rw[if_pos hk]at d
 refine .sr<|.az rfl<|.block ?_
 refine .cx [(1,_),(2,_),(3,_),(4,_),(9,_)] (X:=Nat) (λi=>i<=Y.length/\us∉Y.take i) (λi E=>(10,iN i)::E) (λ_ G=>G) (λi=>Y.length-i) 0 ⟨Nat.zero_le _,by simp⟩ kE.c.c.c.c.c.c rH ?_
 rintro i ⟨hi,a3⟩
 refine .seq<|.sr<|.mo rfl<|.fa rfl<|.lo rfl<|.q (.bJ u0) ?_
 refine .q .lss<|.zn ?_
 refine .cond rfl (λI=>?_) λI=>?_
 have a5:i<Y.length:=cr I
 obtain⟨s,hs⟩:=bR a5
 refine .kn<|.seq<|.block<|.sr<|.fa rfl<|.lo rfl<|.mo rfl ?_
 refine .bC i u0 hs (λc5=>?_)
 refine .lo rfl<|.mo rfl<|.q .dW<|.zn ?_
 refine .cond rfl (λh3=>?_) λh3=>?_
 have a4:s=us:=cm h3
 rw[decide_eq_true (a4▸aZ hs),Bool.true_or]at d
 subst d
 refine .sr<|.az rfl ?_
 refine .ret (bp (aI (cF (bp (aI (bk _ (.one (.tmp rfl)) (aW.none _) ?_))))))
 ·first
   |exact⟨rfl,rfl⟩
   |exact⟨by simp_all,rfl⟩
 have a4:¬s=us:=bA h3
 refine .skip<|bf<|ax<|.region<|.mo rfl ?_
 refine .ia (i+1) .add ?_
 refine .ag rfl<|.nil ?_
 ·exact aP (i+1) ⟨a5,by
   rw[dT hs,List.mem_append,List.mem_singleton]
   rintro(h|h)
   ·exact a3 h
   ·exact a4 h.symm⟩ (by omega) kE.c.c.c.c.c.c rH
 rw[dx (gj I)]at a3
 rw[decide_eq_false a3,Bool.false_or]at d
 refine .exit<|bq<|bz<|bs<|ax<|.seq<|.sr<|.fa rfl<|.lo rfl<|.q .bK<|.zn ?_
 refine .cond rfl (λJ=>?_) λJ=>?_
 have C:n.kind=4:=by simpa using J
 have B:0<=n.a/\n.a.toNat<e/\0<=n.b/\n.b.toNat<e:=by omega
 obtain⟨w,x,y,A⟩:=B
 have d:val=(va||vb):=by
  first
   |(rw[if_pos C]at d;exact d)
   |(exfalso;omega)
 subst d
 refine .sr<|.q (.aL rfl)<|.fa rfl<|.lo rfl<|.mo rfl<|.mo rfl ?_
 refine .ba (O _ (λb o r=>.inl r) x w) (λu m=>?_)
 subst m
 refine .mo rfl ?_
 refine .split (t:=42) rfl (λk=>?_) (λk=>?_)
 refine .gF k<|.gF k<|.gF k<|.gF k<|.gF k<|.gF k<|.q (.aO k) ?_
 refine .az rfl ?_
 refine .ret (aI (bk _ (.one (.tmp rfl)) (aW.none _) ?_))
 ·first
   |exact⟨rfl,rfl⟩
   |exact⟨by simp_all,rfl⟩
 refine .gT k<|.q (.aL rfl)<|.gT k<|.fa rfl<|.gT k<|.lo rfl<|.gT k<|.mo rfl<|.gT k<|.mo rfl<|.gT k ?_
 refine .ba (Q _ (λb o r=>.inl r) A y) (λu m=>?_)
 subst m
 refine .q (.aN k) ?_
 refine .az rfl ?_
 refine .ret (aI (bk _ (.one (.tmp rfl)) (aW.none _) ?_))
 ·first
   |exact⟨rfl,rfl⟩
   |exact⟨by simp_all,rfl⟩
 have C:n.kind≠4:=by simpa using J
 refine .kn<|.seq<|.sr<|.fa rfl<|.lo rfl<|.q .bK<|.zn ?_
 refine .cond rfl (λK=>?_) λK=>?_
 have F:n.kind=5:=by simpa using K
 have B:0<=n.a/\n.a.toNat<e/\0<=n.b/\n.b.toNat<e:=by omega
 obtain⟨w,x,y,A⟩:=B
 have d:val=(va&&vb):=by
  first
   |(rw[if_neg C,if_pos F]at d;exact d)
   |(exfalso;omega)
 subst d
 refine .sr<|.q (.aL rfl)<|.fa rfl<|.lo rfl<|.mo rfl<|.mo rfl ?_
 refine .ba (O _ (λb o r=>.inl r) x w) (λu m=>?_)
 subst m
 refine .mo rfl ?_
 refine .split (t:=59) rfl (λg=>?_) (λg=>?_)
 refine .gT g<|.q (.aL rfl)<|.gT g<|.fa rfl<|.gT g<|.lo rfl<|.gT g<|.mo rfl<|.gT g<|.mo rfl<|.gT g ?_
 refine .ba (Q _ (λb o r=>.inl r) A y) (λu m=>?_)
 subst m
 refine .q (.aO g) ?_
 refine .az rfl ?_
 refine .ret (aI (bk _ (.one (.tmp rfl)) (aW.none _) ?_))
 ·first
   |exact⟨rfl,rfl⟩
   |exact⟨by simp_all,rfl⟩
 refine .gF g<|.gF g<|.gF g<|.gF g<|.gF g<|.gF g<|.q (.aN g) ?_
 refine .az rfl ?_
 refine .ret (aI (bk _ (.one (.tmp rfl)) (aW.none _) ?_))
 ·first
   |exact⟨rfl,rfl⟩
   |exact⟨by simp_all,rfl⟩
 have F:n.kind≠5:=by simpa using K
 refine .kn<|.seq<|.sr<|.fa rfl<|.lo rfl<|.q .bK<|.zn ?_
 refine .cond rfl (λL=>?_) λL=>?_
 have M:n.kind=6:=by simpa using L
 have B:0<=n.a/\n.a.toNat<e/\0<=n.b/\n.b.toNat<e:=by omega
 obtain⟨w,x,y,A⟩:=B
 have d:val=(va&& !vb):=by
  first
   |(rw[if_neg C,if_neg F,if_pos M]at d;exact d)
   |(exfalso;omega)
 subst d
 refine .sr<|.q (.aL rfl)<|.fa rfl<|.lo rfl<|.mo rfl<|.mo rfl ?_
 refine .ba (O _ (λb o r=>.inl r) x w) (λu m=>?_)
 subst m
 refine .mo rfl ?_
 refine .split (t:=76) rfl (λf=>?_) (λf=>?_)
 refine .gT f<|.q (.aL rfl)<|.gT f<|.fa rfl<|.gT f<|.lo rfl<|.gT f<|.mo rfl<|.gT f<|.mo rfl<|.gT f ?_
 refine .ba (Q _ (λb o r=>.inl r) A y) (λu m=>?_)
 subst m
 refine .gT f<|.q .not<|.q (.aO f) ?_
 refine .az rfl ?_
 refine .ret (aI (bk _ (.one (.tmp rfl)) (aW.none _) ?_))
 ·first
   |exact⟨rfl,rfl⟩
   |exact⟨by simp_all,rfl⟩
 refine .gF f<|.gF f<|.gF f<|.gF f<|.gF f<|.gF f<|.gF f<|.q (.aN f) ?_
 refine .az rfl ?_
 refine .ret (aI (bk _ (.one (.tmp rfl)) (aW.none _) ?_))
 ·first
   |exact⟨rfl,rfl⟩
   |exact⟨by simp_all,rfl⟩
 have M:n.kind≠6:=by simpa using L
 refine .kn<|.sr<|.fa rfl<|.lo rfl<|.mo rfl ?_
 refine .bC e l0 U (λb5=>?_)
 refine .lo rfl<|.mo rfl ?_
 refine .ba (BE vr W S v _ hr.rx V.rx a0) (λu m=>?_)
 subst m
 first
  |rw[if_neg C,if_neg F,if_neg M]at d
  |skip
 subst d
 refine .az rfl ?_
 refine .ret (bk _ (.one (.tmp rfl)) (aW.none _) ?_)
 ·first
   |exact⟨rfl,rfl⟩
   |exact⟨by simp_all,rfl⟩
 have hk:n.kind≠1:=by simpa using H
 rw[if_neg hk]at d
 refine .kn<|.seq<|.sr<|.fa rfl<|.lo rfl<|.q .bK<|.zn ?_
 refine .cond rfl (λJ=>?_) λJ=>?_
 have C:n.kind=4:=by simpa using J
 have B:0<=n.a/\n.a.toNat<e/\0<=n.b/\n.b.toNat<e:=by omega
 obtain⟨w,x,y,A⟩:=B
 have d:val=(va||vb):=by
  first
   |(rw[if_pos C]at d;exact d)
   |(exfalso;omega)
 subst d
 refine .sr<|.q (.aL rfl)<|.fa rfl<|.lo rfl<|.mo rfl<|.mo rfl ?_
 refine .ba (O _ (λb o r=>.inl r) x w) (λu m=>?_)
 subst m
 refine .mo rfl ?_
 refine .split (t:=42) rfl (λk=>?_) (λk=>?_)
 refine .gF k<|.gF k<|.gF k<|.gF k<|.gF k<|.gF k<|.q (.aO k) ?_
 refine .az rfl ?_
 refine .ret (aI (bk _ (.one (.tmp rfl)) (aW.none _) ?_))
 ·first
   |exact⟨rfl,rfl⟩
   |exact⟨by simp_all,rfl⟩
 refine .gT k<|.q (.aL rfl)<|.gT k<|.fa rfl<|.gT k<|.lo rfl<|.gT k<|.mo rfl<|.gT k<|.mo rfl<|.gT k ?_
 refine .ba (Q _ (λb o r=>.inl r) A y) (λu m=>?_)
 subst m
 refine .q (.aN k) ?_
 refine .az rfl ?_
 refine .ret (aI (bk _ (.one (.tmp rfl)) (aW.none _) ?_))
 ·first
   |exact⟨rfl,rfl⟩
   |exact⟨by simp_all,rfl⟩
 have C:n.kind≠4:=by simpa using J
 refine .kn<|.seq<|.sr<|.fa rfl<|.lo rfl<|.q .bK<|.zn ?_
 refine .cond rfl (λK=>?_) λK=>?_
 have F:n.kind=5:=by simpa using K
 have B:0<=n.a/\n.a.toNat<e/\0<=n.b/\n.b.toNat<e:=by omega
 obtain⟨w,x,y,A⟩:=B
 have d:val=(va&&vb):=by
  first
   |(rw[if_neg C,if_pos F]at d;exact d)
   |(exfalso;omega)
 subst d
 refine .sr<|.q (.aL rfl)<|.fa rfl<|.lo rfl<|.mo rfl<|.mo rfl ?_
 refine .ba (O _ (λb o r=>.inl r) x w) (λu m=>?_)
 subst m
 refine .mo rfl ?_
 refine .split (t:=59) rfl (λg=>?_) (λg=>?_)
 refine .gT g<|.q (.aL rfl)<|.gT g<|.fa rfl<|.gT g<|.lo rfl<|.gT g<|.mo rfl<|.gT g<|.mo rfl<|.gT g ?_
 refine .ba (Q _ (λb o r=>.inl r) A y) (λu m=>?_)
 subst m
 refine .q (.aO g) ?_
 refine .az rfl ?_
 refine .ret (aI (bk _ (.one (.tmp rfl)) (aW.none _) ?_))
 ·first
   |exact⟨rfl,rfl⟩
   |exact⟨by simp_all,rfl⟩
 refine .gF g<|.gF g<|.gF g<|.gF g<|.gF g<|.gF g<|.q (.aN g) ?_
 refine .az rfl ?_
 refine .ret (aI (bk _ (.one (.tmp rfl)) (aW.none _) ?_))
 ·first
   |exact⟨rfl,rfl⟩
   |exact⟨by simp_all,rfl⟩
 have F:n.kind≠5:=by simpa using K
 refine .kn<|.seq<|.sr<|.fa rfl<|.lo rfl<|.q .bK<|.zn ?_
 refine .cond rfl (λL=>?_) λL=>?_
 have M:n.kind=6:=by simpa using L
 have B:0<=n.a/\n.a.toNat<e/\0<=n.b/\n.b.toNat<e:=by omega
 obtain⟨w,x,y,A⟩:=B
 have d:val=(va&& !vb):=by
  first
   |(rw[if_neg C,if_neg F,if_pos M]at d;exact d)
   |(exfalso;omega)
 subst d
 refine .sr<|.q (.aL rfl)<|.fa rfl<|.lo rfl<|.mo rfl<|.mo rfl ?_
 refine .ba (O _ (λb o r=>.inl r) x w) (λu m=>?_)
 subst m
 refine .mo rfl ?_
 refine .split (t:=76) rfl (λf=>?_) (λf=>?_)
 refine .gT f<|.q (.aL rfl)<|.gT f<|.fa rfl<|.gT f<|.lo rfl<|.gT f<|.mo rfl<|.gT f<|.mo rfl<|.gT f ?_
 refine .ba (Q _ (λb o r=>.inl r) A y) (λu m=>?_)
 subst m
 refine .gT f<|.q .not<|.q (.aO f) ?_
 refine .az rfl ?_
 refine .ret (aI (bk _ (.one (.tmp rfl)) (aW.none _) ?_))
 ·first
   |exact⟨rfl,rfl⟩
   |exact⟨by simp_all,rfl⟩
 refine .gF f<|.gF f<|.gF f<|.gF f<|.gF f<|.gF f<|.gF f<|.q (.aN f) ?_
 refine .az rfl ?_
 refine .ret (aI (bk _ (.one (.tmp rfl)) (aW.none _) ?_))
 ·first
   |exact⟨rfl,rfl⟩
   |exact⟨by simp_all,rfl⟩
 have M:n.kind≠6:=by simpa using L
 refine .kn<|.sr<|.fa rfl<|.lo rfl<|.mo rfl ?_
 refine .bC e l0 U (λb5=>?_)
 refine .lo rfl<|.mo rfl ?_
 refine .ba (BE vr W S v _ hr.rx V.rx a0) (λu m=>?_)
 subst m
 first
  |rw[if_neg C,if_neg F,if_neg M]at d
  |skip
 subst d
 refine .az rfl ?_
 refine .ret (bk _ (.one (.tmp rfl)) (aW.none _) ?_)
 ·first
   |exact⟨rfl,rfl⟩
   |exact⟨by simp_all,rfl⟩
end Go.Proofs.YtdljmchhecoakaaGreat

/- What the law 'ReachFinds' uses. No condition. -/
import Derived.Test.YtdljmchhecoakaaGreatKReachFindsB
import Derived.Test.YtdljmchhecoakaaGreatKReachFindsF
import Derived.Test.YtdljmchhecoakaaGreatKReachFindsH
import Derived.Test.YtdljmchhecoakaaGreatKReachFindsI
import Derived.Test.YtdljmchhecoakaaGreatKReachFindsL
import Derived.Test.YtdljmchhecoakaaGreatKReachFindsN
import Derived.Test.YtdljmchhecoakaaGreatKReachFindsO
import Derived.Test.YtdljmchhecoakaaGreatKReachFindsP
namespace Go.Proofs.YtdljmchhecoakaaGreat
open Tryz (prog)
set_option linter.unusedVariables false
set_option linter.unusedSimpArgs false
set_option maxRecDepth 4000
instance OI:eP prog 3 (λs:Int=>.int .i64 s):=eP.int qu sP
abbrev kI(n:Int):Value:=.int .i64 n
structure z8(x:XC)(R:aB)(ps:List aJ)(va:Value)(k:aU)(ns:List Nd)(mp:Value)(ps1:List aJ)(vp:Value)(Ta To:aA)(vL:Value)(L:List fP)(TL Tr:aA)(M:List (Int×Bool))(Tm:aA):Prop where
 eq:ps1.map aJ.plain=(cY x.c.plain x.num x.sub k (ps.map aJ.plain) ns).1
 at_:gN ps1 va Ta
 o:OS 95 8 aJ.enc vp ps1 To
 gr:∃l,ps1=ps++l/\∀p∈l,p.is R
 le:OS 182 1 fe vL L TL
 rows:∀q∈L,RS (sg Tr) 1 dc q.1 q.2
 ll:L.map (·.2)=(cY x.c.plain x.num x.sub k (ps.map aJ.plain) ns).2
 ms:MS kI Value.bool mp M Tm
 ya:M.map (·.1)=(iB [] (cY x.c.plain x.num x.sub k (ps.map aJ.plain) ns).2.flatten).map λn:Nat=>(n:Int)
theorem KV{β:Type}{M:List (Int×β)}{l:List Nat}(h:M.map (·.1)=l.map λn:Nat=>(n:Int))(y:β)(j:Nat):(dy (j:Int) y M).map (·.1)=(if j∈l then l else l++[j]).map λn:Nat=>(n:Int):=by
 by_cases c:j∈l
 ·rw[if_pos c, <-h]
  have b:(j:Int)∈M.map (·.1):=by rw[h];exact List.mem_map.2 ⟨j,c,rfl⟩
  clear h
  induction M with
  |nil=>simp at b
  |cons a M ih=>
   obtain⟨g,i⟩:=a
   rw[dy]
   split
   ·rename_i e;simp[e]
   ·rename_i e
    simp only[List.map_cons,List.mem_cons]at b⊢
    rw[ih (b.resolve_left e)]
 ·rw[if_neg c,lj (λb=>by
   rw[h]at b
   obtain⟨n,f,e⟩:=List.mem_map.1 b
   have k:(n:Int)=(j:Int):=e
   have d:n=j:=by omega
   exact c (d▸f)),List.map_append,List.map_append,h]
  rfl
theorem zg{α:Type}{l:List α}{i:Nat}{x:α}(h:l[i]? =some x):l.set i x=l:=by
 obtain⟨a,e⟩:=List.getElem?_eq_some_iff.1 h
 rw[<-e]
 exact List.set_getElem_self a
theorem OS.vA{α:Type}{E sz:Nat}{enc:α->List Value}{v:Value}{xs:List α}{T:aA}{i:Nat}{z:α}(h:OS E sz enc v xs T)(d:xs[i]? =some z):∃a,eR v (i*sz)=.pointer (some a):=by
 rcases h.h with⟨_,rfl,_⟩|⟨b,f,c,e,rfl,_⟩
 ·simp at d
 ·exact⟨_,rfl⟩
theorem LJ{a b:List cG}(h:a.map (·.k)=b.map (·.k))(k:aU):eG a k=eG b k:=by
 have c:∀l:List cG,eG l k=(l.map (·.k)).findIdx? λy=>decide (y=k):=λl=>by
  unfold eG
  rw[List.findIdx?_map]
  rfl
 rw[c,c,h]
theorem Nk{ps:List aJ}{i:Nat}{p q:aJ}(a:ps[i]? =some p)(b:q.k=p.k):((ps.set i q).map aJ.plain).map (·.k)=(ps.map aJ.plain).map (·.k):=by
 rw[List.map_map,List.map_map]
 refine List.ext_getElem? λj=>?_
 rw[List.getElem?_map,List.getElem?_map,List.getElem?_set]
 split
 ·rename_i e
  subst e
  rw[if_pos (List.getElem?_eq_some_iff.1 a).1,a]
  show some q.k=some p.k
  rw[b]
 ·rfl
theorem gN.set{ps:List aJ}{i:Nat}{p q:aJ}{va:Value}{T:aA}(h:gN ps va T)(d:ps[i]? =some p)(c:q.k=p.k):gN (ps.set i q) va T:=by
 obtain⟨M,b,a⟩:=h
 exact⟨M,b,λk=>by rw[a];exact LJ (Nk d c).symm k⟩
def rZ(x:XC)(Rc:aB)(xb:Nat)(ps:List aJ)(e:Nat)(va:Value)(i:Nat)(p:aJ)(H':aN):Prop:=∃vp Ta To TL Tr Tu l q,
 H'=[x.gB xb va vp (e+(eF x.c.plain x.num x.sub (ps.map aJ.plain) i).2),Ta,To,TL,Tr,Tu]/\(∀p∈l,aJ.is Rc p)/\((ps++l).set i q).map aJ.plain=(eF x.c.plain x.num x.sub (ps.map aJ.plain) i).1/\gN ((ps++l).set i q) va Ta/\OS 95 8 aJ.enc vp ((ps++l).set i q) To/\
 (q=p\/q.vn=p.vn/\q.nodes=p.nodes/\RS (sg Tu) 1 gG q.vu q.jA/\RS (sg TL) 1 fe q.vl q.ll/\∀y∈q.ll,RS (sg Tr) 1 dc y.1 y.2)
theorem Ls(x:XC)(A R:aB)(b5:∀b o,A b o->R b o)(h:x.ok A)(xb:Nat)(ps:List aJ)(e:Nat)(va w:Value)(B C:aA)(hA:gN ps va B)(W:OS 95 8 aJ.enc w ps C)(i:Nat)(p:aJ)(v:ps[i]? =some p)(hn:RS R 5 Nd.enc p.vn p.nodes)(a3:p.plain=one x.c.plain x.num p.k)(f1:p.nodes.length<=1000000)
  (hl:(eF x.c.plain x.num x.sub (ps.map aJ.plain) i).1.length<=3000000)(he:e<=1000000000000):
  Spec prog 85 [pT xb,iN i] R [x.gB xb va w e,B,C] λ_ H'=>rZ x A xb ps e va i p H':=by
 have f5:=zG x
 have e8:=KA x A h xb
 have i1:One x.c.vs:=RS.ap h.c.ss
 have i2:One x.c.vc:=RS.ap h.c.sc
 have i3:=h.n.one
 obtain⟨M0,d8,_⟩:=id hA
 have h4:=d8.one
 have h5:=W.ap
 have f3:=aX v
 have f8:bW p.enc:=⟨W.one p f3⟩
 have a5:(ps.map aJ.plain)[i]? =some p.plain:=by rw[List.getElem?_map,v];rfl
 have e3:=(List.getElem?_eq_some_iff.1 v).1
 have b6:∀H',rZ x A xb ps e va i p H'↔∃w B C V I J l q,
  H'=[x.gB xb va w (e+(eF x.c.plain x.num x.sub (ps.map aJ.plain) i).2),B,C,V,I,J]/\(∀p∈l,aJ.is A p)/\((ps++l).set i q).map aJ.plain=(eF x.c.plain x.num x.sub (ps.map aJ.plain) i).1/\gN ((ps++l).set i q) va B/\OS 95 8 aJ.enc w ((ps++l).set i q) C/\
  (q=p\/q.vn=p.vn/\q.nodes=p.nodes/\RS (sg J) 1 gG q.vu q.jA/\RS (sg V) 1 fe q.vl q.ll/\∀y∈q.ll,RS (sg I) 1 dc y.1 y.2):=λ_=>Iff.rfl
 have Y:=yq (c:=x.c.plain) (num:=x.num) (sub:=x.sub) a5
 have a4:=Lr (c:=x.c.plain) (num:=x.num) (sub:=x.sub) a5 a3
 have e7:=hn.le
 obtain⟨k,f,vn,d,T,S,t,s,g⟩:=p
 have f2:aJ.plain ⟨k,f,vn,d,T,S,t,s,g⟩=⟨k,f,d,g,S,s.map (·.2)⟩:=rfl
 rw[f2]at Y a4 a5 a3
 simp only at Y a4 hn a3 e7 f1
 have c0:=λj=>u9 (c:=x.c.plain) (num:=x.num) (sub:=x.sub) k d j (ps.map aJ.plain)
 have g5:=Ak (c:=x.c.plain) (num:=x.num) (sub:=x.sub) k d (ps.map aJ.plain)
 have e9:=qa (c:=x.c.plain) (num:=x.num) (sub:=x.sub) k d (ps.map aJ.plain)
 have f7:=λ(j:Nat) (n:Nd) (hj:d[j]? =some n)=>vg (c:=x.c.plain) (num:=x.num) (sub:=x.sub) hj k (ps.map aJ.plain)
 have g7:=λj=>qa (c:=x.c.plain) (num:=x.num) (sub:=x.sub) k (d.take j) (ps.map aJ.plain)
 have b9:(cY x.c.plain x.num x.sub k (ps.map aJ.plain) d).1.length<=3000000:=by
  rw[Y]at hl
  rwa [List.length_set]at hl
 refine Spec.body Tryz.func85 rfl Tryz.results85 Tryz.ntmps85 rfl ?_
 refine .sr<|.mo rfl<|.nc rfl<|.fa rfl<|.fa rfl<|.lo rfl<|.mo rfl ?_
 refine .bo i W v (λh6=>?_)
 refine .q (.aI rfl) ?_
 refine .bN (λb4=>?_)
 refine .bG rfl rfl<|.zs<|.sr<|.fa rfl<|.lo rfl<|.q .not<|.zn ?_
 refine .cond rfl (λh1=>?_) λh1=>?_
 have hf:f=false:=by simpa using h1
 have c4:=a4 hf
 refine .ret (aF (bj _ .none (bf.yi.trans (aY [4,4,4,0,0,0])) ?_))
 ·refine(b6 _).2 ⟨w,B,C,[],[],[],[],⟨k,f,vn,d,T,S,t,s,g⟩,?_,λq hq=>(by cases hq),?_,?_,?_,.inl rfl⟩
  ·rw[c4];simp[take,bF]
  ·rw[c4,List.append_nil]
   rw[zg v]
  ·rw[List.append_nil];exact hA.set v rfl
  ·rw[List.append_nil]
   rw[zg v];exact W
 have hf:f=true:=by simpa using h1
 refine .kn<|.sr<|.mo rfl<|.fa rfl<|.q (.loadT rfl) ?_
 refine .fa rfl<|.lo rfl ?_
 refine .call [] (f5 _ (h.mono λb o F=>.inl (b5 b o F)) xb va w e (pc:=PC.of (E:=190) (fr:=(0,0)) (.inr (by simp[rest]))) k) (λu H' O=>?_)
 obtain⟨J,Ts,rfl,U,ws,rfl,b3,e1⟩:=O
 have c7:=b3.ap
 have h0:=e1.ap
 conv=>arg 8;simp only[rest,bF,List.cons_append,List.nil_append]
 refine .mo rfl<|.q .extract<|.q .extract<|.ag rfl<|.ag rfl<|.z<|.ag rfl<|.z ?_
 refine .makeMap (λa1=>?_)
 refine .ag rfl<|.zs<|.sr<|.fa rfl<|.lo rfl<|.q (.bD hn) ?_
 refine .mo rfl<|.zn<|.block ?_
 refine .cq [(0,_),(1,_),(4,_),(5,_),(8,_),(36,_),(37,_)] (X:=Nat×List aJ×Value×aA×aA×Value×List fP×aA×aA×List (Int×Bool)×aA) (λy=>y.1<=d.length/\z8 x A ps va k (d.take y.1) (.map (some a1)) y.2.1 y.2.2.1 y.2.2.2.1 y.2.2.2.2.1 y.2.2.2.2.2.1 y.2.2.2.2.2.2.1 y.2.2.2.2.2.2.2.1 y.2.2.2.2.2.2.2.2.1 y.2.2.2.2.2.2.2.2.2.1 y.2.2.2.2.2.2.2.2.2.2) (λy E=>(38,iN y.1)::(7,y.2.2.2.2.2.1)::E) (G:=[J,bl b4 (aJ.enc ⟨k,f,vn,d,T,S,t,s,g⟩) 95]) (λy G=>x.gB xb va y.2.2.1 e::y.2.2.2.1::y.2.2.2.2.1::y.2.2.2.2.2.2.2.1::y.2.2.2.2.2.2.2.2.1::y.2.2.2.2.2.2.2.2.2.2::G) (λy=>d.length-y.1) (0,ps,w,B,C,sZ,[],[],[],[],[(a1,.map #[] 0)]) ⟨Nat.zero_le _,⟨rfl,hA,W,⟨[],by simp,λq hq=>(by cases hq)⟩,OS.nil,λq hq=>(by cases hq),rfl,MS.nil,rfl⟩⟩ kE.c.c.c.c.c.c.c.c.c (bf.gJ.trans (aY [6,6,6,0,0,0,0,1])) ?_
 rintro⟨j,Q,c9,a7,d2,vL,L,V,I,M,Tm⟩ ⟨hj,a⟩
 simp only at hj a⊢
 have c8:=a.le.ap
 have g9:=a.o.ap
 have g3:L.length<=j:=by
  have h9:=congrArg List.length a.ll
  have h8:=(pZ (c:=x.c.plain) (num:=x.num) (sub:=x.sub) k (d.take j) (ps.map aJ.plain)).1
  rw[List.length_map]at h9
  rw[List.length_take]at h8
  omega
 have g1:Q.length=(cY x.c.plain x.num x.sub k (ps.map aJ.plain) (d.take j)).1.length:=by rw[<-a.eq,List.length_map]
 have g6:=c0 j
 refine .sr<|.q .lss<|.zs ?_
 refine .cond rfl (λh2=>?_) λh2=>?_
 have b7:j<d.length:=cg h2
 obtain⟨n,c3⟩:=bU b7
 have a0:=f7 j n c3
 have c1:=c0 (j+1)
 have e6:(dd x.c.plain x.num (Q.map aJ.plain) (eh x.c.plain x.sub k n)).1.length<=3000000:=by
  rw[a.eq]
  rw[a0]at c1
  exact Nat.le_trans c1 b9
 refine .kn<|.seq<|.block<|.sr ?_
 refine .bA j hn c3 (λh7=>?_)
 refine .q (.aI rfl) ?_
 refine .bN (λd3=>?_)
 refine .bG rfl rfl<|.z<|.mo rfl<|.q (.aI rfl)<|.q (.aI rfl) ?_
 refine .call [1,1,1] ((e8 Q e va c9 a7 d2 a.at_ a.o k [.bool f,vn,T,t,iN g] n (ie:=⟨λu O=>f8.h u (by simp only[aJ.enc];simp only[List.mem_cons,List.not_mem_nil,or_false]at O⊢;simp[O])⟩) e6 rfl).weaken λb o F=>.inl (b5 b o F)) (λu H' O=>?_)
 obtain⟨f9,d0,a8,b0,Tl,rfl,D⟩:=O
 have iu:=D.l.ap
 have N:=D.l
 have g2:=D.len
 conv=>arg 8;simp only[rest,bF,List.cons_append,List.nil_append]
 obtain⟨r,a6⟩:∃r,r=(dd x.c.plain x.num (Q.map aJ.plain) (eh x.c.plain x.sub k n)).2:=⟨_,rfl⟩
 rw[<-a6]at N
 have g8:=N.le
 refine .ag rfl<|.zs<|.sr<|.mo rfl<|.q (.ej N) ?_
 refine .mo rfl<|.zn<|.block ?_
 refine .cq [(0,_),(1,_),(4,_),(5,_),(7,_),(8,_),(11,_),(36,_),(37,_),(38,_),(46,_),(47,_)] (X:=Nat×List (Int×Bool)×aA) (λy=>y.1<=r.length/\MS kI Value.bool (.map (some a1)) y.2.1 y.2.2/\y.2.1.map (·.1)=(iB (iB [] (cY x.c.plain x.num x.sub k (ps.map aJ.plain) (d.take j)).2.flatten) (r.take y.1)).map λn:Nat=>(n:Int)) (λy E=>(48,iN y.1)::E) (G:=[Tl,x.gB xb va d0 e,a8,b0,bl d3 n.enc 199,V,I,J,bl b4 (aJ.enc ⟨k,f,vn,d,T,S,t,s,g⟩) 95]) (λy G=>y.2.2::G) (λy=>r.length-y.1) (0,M,Tm) ⟨Nat.zero_le _,a.ms,a.ya⟩ kE.c.c.c.c.c.c.c.c.c.c.c.c.c (aY [7,0,0,0,0,0,0,0,0,0]) ?_
 rintro⟨m,M2,d1⟩ ⟨hm,a2,Z⟩
 simp only at hm a2 Z⊢
 refine .sr<|.q .lss<|.zs ?_
 refine .cond rfl (λh3=>?_) λh3=>?_
 have c2:m<r.length:=cg h3
 obtain⟨to,c5⟩:=bU c2
 have f6:=Nf c5 (iB [] (cY x.c.plain x.num x.sub k (ps.map aJ.plain) (d.take j)).2.flatten)
 refine .kn<|.seq<|.block<|.sr ?_
 refine .bo m N c5 (λi0=>?_)
 refine .lo rfl<|.az rfl<|.region<|.mo rfl<|.mo rfl ?_
 refine .update (key:=(to:Int)) (u:=true) a2 rfl rfl rfl (λT2 d9 _=>?_)
 have b8:=KV Z true to
 rw[<-f6]at b8
 refine .nil<|ba<|aw<|.region ?_
 refine .ia (m+1) .add ?_
 refine .mo rfl<|.nil ?_
 ·exact bi (m+1,dy (to:Int) true M2,T2) ⟨c2,d9,b8⟩ (by simp only;omega) kE.c.c.c.c.c.c.c.c.c.c.c.c.c rH
 have f0:m=r.length:=by have:=bC h3;omega
 rw[f0,List.take_length]at Z
 obtain⟨pu,cu,rfl,_⟩:=N.shape
 refine .exit<|bq<|bz<|br<|aw<|.region<|.mo rfl<|.mo rfl ?_
 refine .iV (λg0=>?_)
 refine .append a.le (RS.lits (xs:=[((.slice pu r.length cu,r):fP)]) rfl (by simp[fe]) (by simp[fe,ap])) (by simp only[List.length_singleton];omega) (λv5 T5 c6=>?_)
 have i5:=c6.ap
 refine .ag rfl<|.nil<|ba<|aw<|.region ?_
 refine .ia (j+1) .add ?_
 refine .mo rfl<|.nil ?_
 ·exact bi (j+1,f9,d0,a8,b0,v5,L++[(.slice pu r.length cu,r)],T5,Tl++I,M2,d1) ⟨b7,⟨by rw[a0,D.eq,a.eq],D.at_,D.o,by
   obtain⟨l1,d4,d5⟩:=a.gr
   obtain⟨l2,d6,d7⟩:=D.gr
   refine⟨l1++l2,by rw[d6,d4,List.append_assoc],λq hq=>?_⟩
   rcases List.mem_append.1 hq with hq|hq
   ·exact d5 q hq
   ·exact d7 q hq,c6,λq hq=>by
   rcases List.mem_append.1 hq with hq|hq
   ·exact(a.rows q hq).mono λb o F=>fO F
   ·rw[List.mem_singleton]at hq
    subst hq
    exact N.sg.mono λb o F=>gy F,by rw[a0,List.map_append,a.ll,a6,a.eq];rfl,a2,by rw[a0,List.flatten_append,pH,Z,a6,a.eq];simp⟩⟩ (by simp only;omega) kE.c.c.c.c.c.c.c.c.c ((aY [3,3,3,4,2,3,1,2,2]).trans (bf.eT (by simp[take,bF])))
 have e4:j=d.length:=by have:=bC h2;omega
 rw[e4,List.take_length]at a
 have K:Q[i]? =some ⟨k,f,vn,d,T,S,t,s,g⟩:=by
  obtain⟨l,H,_⟩:=a.gr
  rw[H,List.getElem?_append_left e3,v]
 obtain⟨a9,e2⟩:=a.o.vA K
 have b1:M.length=kK (cY x.c.plain x.num x.sub k (ps.map aJ.plain) d).2.flatten:=by
  have:=congrArg List.length a.ya
  rw[List.length_map,List.length_map]at this
  exact this
 have g4:M.length<=3000000:=by
  rw[b1]
  refine Nat.le_trans (ye (n:=(cY x.c.plain x.num x.sub k (ps.map aJ.plain) d).1.length) λy hy=>?_) b9
  obtain⟨l,H,hy⟩:=List.mem_flatten.1 hy
  exact e9 l H y hy
 refine .exit<|bq<|bz<|br<|aw<|.seq<|.dt [16,19] mixed ?_
 refine .tO 0 rfl .move<|.tO 1 rfl (.nilCheck rfl)<|.tO 2 rfl (.fieldAddr rfl)<|.tO 3 rfl (.fieldAddr rfl)<|.tO 4 rfl (.cI rfl)<|.tO 5 rfl .move<|.tO 6 rfl .move<|.tO 7 rfl (.nilCheck rfl)<|.tO 8 rfl (.fieldAddr rfl)<|.tO 9 rfl (.fieldAddr rfl)<|.tO 10 rfl (.cI rfl)<|.tK 11 rfl .move<|.tO 12 rfl .move<|.tK 13 rfl .move ?_
 refine RA.bo 14 rfl i a.o K rfl rfl rfl (by kernel_rfl) (λi4=>?_)
 refine .tO 15 rfl (.fieldAddr rfl) ?_
 refine .sT 16 rfl ?_
 refine .nj (k:=5) (cs:=[U]) (z':=(⟨k,f,vn,d,U,gj x.c.plain x.sub k,t,s,g⟩:aJ)) i a.o K rfl rfl rfl (lO c7.h) rfl (by simpa using c7.h) rfl (by simp) (λTd e0=>?_)
 have f4:(Q.set i (⟨k,f,vn,d,U,gj x.c.plain x.sub k,t,s,g⟩:aJ))[i]? =some ⟨k,f,vn,d,U,gj x.c.plain x.sub k,t,s,g⟩:=by rw[List.getElem?_set_self (List.getElem?_eq_some_iff.1 K).1]
 refine .nil (Next.mod rfl ?_)
 refine RA.bo 17 rfl i a.o K rfl rfl rfl (by kernel_rfl) (λi6=>?_)
 refine .tK 18 rfl (.eE rfl e2) ?_
 refine .sT 19 rfl ?_
 refine .nj (k:=6) (cs:=[vL]) (z':=(⟨k,f,vn,d,U,gj x.c.plain x.sub k,vL,L,g⟩:aJ)) i e0 f4 rfl rfl rfl (lO c8.h) rfl (by simpa using c8.h) rfl (by simp) (λTe b2=>?_)
 rw[List.set_set]at b2
 refine .nil (Next.mod rfl ?_)
 refine RA.nil (by kernel_rfl) ?_
 refine aw ?_
 refine .dF 11 mixed (by kernel_rfl) ?_
 conv=>arg 6;dsimp only[List.take]
 refine .mo rfl<|.nc rfl<|.fa rfl<|.fa rfl<|.lo rfl<|.mo rfl<|.q (.xL a.ms.rx rfl) ?_
 refine .ia (e+M.length) .add ?_
 refine .nc rfl<|.fa rfl<|.fa rfl<|.nil<|.dm rfl rfl<|.nil<|jO _ .none (aY [0,0,0,0,0,1]) ?_
 ·obtain⟨l,H,e5⟩:=a.gr
  refine(b6 _).2 ⟨c9,a7,Te,V,I,J,l,⟨k,f,vn,d,U,gj x.c.plain x.sub k,vL,L,g⟩,?_,e5,?_,?_,?_,.inr ⟨rfl,rfl,b3.sg,a.le.sg,a.rows⟩⟩
  ·rw[Y, <-b1];simp[take,bF];rfl
  ·rw[Y, <-H,List.map_set,a.eq]
   simp only[hf,if_true]
   rw[<-a.ll]
   rfl
  ·rw[<-H];exact a.at_.set K rfl
  ·rw[<-H];exact b2
def mx(R:aB)(out:List cG×Nat×Int)(u:Value)(H':aN):Prop:=∃vp ps T,H'=[T]/\u=.tuple [.agg [vp,iN out.2.1].toArray,.int .i64 out.2.2].toArray/\RS (λb o=>R b o\/(b,o)∈T) 8 aJ.enc vp ps/\(∀p∈ps,aJ.is (λb o=>R b o\/(b,o)∈T) p)/\ps.map aJ.plain=out.1
theorem yp{W:ByteArray->Bool}{F:ByteArray->ByteArray->Bool}{c:Cf}{num:List Nat}{k:aU}(b:c.right W F=true):(one c num k).nodes.length<=64:=by
 unfold one
 split
 ·simp
 ·rename_i i e
  simp only[List.getD_eq_getElem?_getD,List.getElem?_map]
  cases hy:c.all[i]? with
  |none=>simp
  |some y=>
   have a:=(pD b y (aX hy)).2
   unfold gI at a
   simp only[Bool.or_eq_false_iff,decide_eq_false_iff_not]at a
   have d:=a.1.2
   simp only[Option.map_some,Option.getD_some]
   omega
theorem tP{c:Cf}{num:List Nat}{sub:aU->List Sub}{k:aU}{N i:Nat}(b:gl c num sub k N)(h:∀j,j<i->j<(opened c num sub k j).1.length):i<=N:=Nat.not_lt.1 λa=>by have:=h N a;have:=b.1;omega
theorem vY{R:aB}{hb:Nat}{vl:Value}{es:List dT}{b4:Nat}(hV:HV R hb vl es b4){g:Nat}{S:cU}{c8:List RB}{vf vr:Value}{Mf:List (aU×(Value×aA))}{Mr:List (Sub×(Value×aA))}(hS:SV R g S c8 vf vr Mf Mr)
    {L:List bk}(hL:RL S L)(hl:S.rows.length<=1000)(rev:Int)(en:dT)(b5:jk es rev=some en)(num:List Nat)(V:oA isWord cX en.c.plain num)(f3:en.ll.map (·.2)=rows en.c.plain.aR num)(e9:b4<=1000000/\es.length<=1000000)(c2:∀e∈es,e.ll.length<=1000000/\∀q∈e.ll,q.2.length<=1000000)
    (k:aU)(b:Int)(g6:b<=9223372036854775807)(sub:aU->List Sub)(f9:sub=λk=>if scan S rev then(L.filter λy=>y.there rev&&decide (y.t.cE=k)).map (·.t.sub)else [])
    (c3:∀i,(∀j,j<i->j<(opened en.c.plain num sub k j).1.length)->(opened en.c.plain num sub k i).1.length+(opened en.c.plain num sub k i).2<=1048576)(N:Nat)(hN:gl en.c.plain num sub k N):
    Spec prog 34 [pT hb,pT g,.int .u64 rev,.agg [.string k.os,.string k.oi].toArray,.string k.rel,.int .i64 b] R [] (mx R (ke en.c.plain num sub k b (scan S rev) N)):=by
  have d9:((jk es rev).map λe=>e.c.plain).getD ⟨[],[]⟩=en.c.plain:=by rw[b5];rfl
  have b6:((jk es rev).map λe=>e.ll.map (·.2)).getD []=rows en.c.plain.aR num:=by rw[b5];exact f3
  have J:∀out u H',mx R out u H'↔∃A s T,H'=[T]/\u=.tuple [.agg [A,iN out.2.1].toArray,.int .i64 out.2.2].toArray/\RS (λb o=>R b o\/(b,o)∈T) 8 aJ.enc A s/\(∀p∈s,aJ.is (λb o=>R b o\/(b,o)∈T) p)/\s.map aJ.plain=out.1:=λ_ _ _=>Iff.rfl
  have r:ke en.c.plain num sub k b (scan S rev) N=if b<1 then([],0,2)else if scan S rev=false then([],0,12)
    else if(((opened en.c.plain num sub k N).1.length+(opened en.c.plain num sub k N).2:Nat):Int)<=b then((opened en.c.plain num sub k N).1,(opened en.c.plain num sub k N).2,0)else([],0,16):=rfl
  generalize g7:en.c.plain=cp at *
  refine Spec.body Tryz.func34 rfl Tryz.results34 Tryz.ntmps34 rfl ?_
  refine .sr ?_
  refine .bX rfl (λb9=>?_)
  refine .bN (λb3=>?_)
  refine .ag rfl<|.z<|.mo rfl<|.fa rfl<|.lo rfl<|.fa rfl<|.lo rfl<|.mo rfl ?_
  refine .q .cO ?_
  refine .mo rfl ?_
  refine .da ((L3 hS (by omega) ⟨k.os,k.oi,k.rel,⟨#[]⟩,⟨#[]⟩,⟨#[]⟩,⟨#[]⟩⟩ rev).weaken cQ) (λu g4 a=>?_)
  obtain⟨wr,ys,rfl,d8,_⟩:=a
  have i3:=d8.ap
  refine .mo rfl<|.q .extract<|.q .extract<|.ag rfl<|.ag rfl<|.zs<|.block<|.sr<|.mo rfl ?_
  refine .bd ((HV.made hV).weaken cQ) (λu a=>?_)
  subst a
  refine .q .not<|.mo rfl ?_
  refine .split (t:=36) rfl (λa4=>?_) (λa4=>?_)
  ·simp at a4
  refine .gT a4<|.mo rfl<|.gT a4<|.q .bO<|.q (.aK a4) ?_
  refine .az rfl ?_
  refine .cond rfl (λh1=>?_) λh1=>?_
  ·cases I:scan S rev<;>simp[I]at h1
  refine .sr<|.mo rfl<|.q .lss<|.az rfl ?_
  refine .cond rfl (λh2=>?_) λh2=>?_
  have a1:b<1:=cv h2
  refine .sr ?_
  refine .q .cO ?_
  refine .bG rfl rfl<|.az rfl ?_
  refine .ret (bg (aF (bj _ (.two (.ei rfl rfl) (.tmp rfl)) (bf.one [] _) ?_)))
  ·exact(J _ _ _).2 ⟨_,[],_,rfl,by rw[r,if_pos a1];rfl,RS.fZ,λp f=>(by cases f),by rw[r,if_pos a1];rfl⟩
  have a1:¬b<1:=bC h2
  refine .sr<|.mo rfl<|.q .dQ<|.az rfl ?_
  refine .cond rfl (λh3=>?_) λh3=>?_
  have I:scan S rev=false:=by
    cases I:scan S rev with
    |false=>rfl
    |true=>simp[I]at h3
  refine .sr ?_
  refine .q .cO ?_
  refine .mo rfl<|.bG rfl rfl<|.az rfl ?_
  refine .ret (bg (aF (bj _ (.two (.ei rfl rfl) (.tmp rfl)) (bf.one [] _) ?_)))
  ·exact(J _ _ _).2 ⟨_,[],_,rfl,by rw[r,if_neg a1,if_pos I,I];rfl,RS.fZ,λp f=>(by cases f),by rw[r,if_neg a1,if_pos I];rfl⟩
  have I:scan S rev=true:=by
    cases I:scan S rev with
    |true=>rfl
    |false=>simp[I]at h3
  rw[if_neg a1,if_neg (by rw[I];simp)]at r
  refine .skip<|ba<|aw<|.sr<|.mo rfl<|.mo rfl ?_
  refine .da ((hV.at_ rev e9).weaken cQ) (λu Tc a=>?_)
  obtain⟨U,rfl,Z,v⟩:=a
  rw[d9]at v
  have i0:bW U.enc:=⟨Z.cH⟩
  have h6:One U.vs:=RS.ap Z.ss
  have h7:One U.vc:=RS.ap Z.sc
  refine .mo rfl<|.q .extract<|.q .extract ?_
  refine .bN (λg5=>?_)
  refine .bG rfl rfl<|.ag rfl<|.zs ?_
  refine bp.cP [(4,_),(9,_),(12,_)] kE.c.c.c (X:=Nat×Nat×Value×aA) (λy=>MS kJ jB y.2.2.1 (kL cp num) y.2.2.2) (λy E=>(18,.pointer (some ⟨y.1,0,none⟩))::E) (λy=>[XC.gB ⟨U,num,y.2.2.1,g,S,L,rev,b⟩ y.1 (.map (some y.2.1)) (sZ) 0,[(y.2.1,.map #[] 0)],[],[],Tc,y.2.2.2,bl b3 [sZ,.int .i64 0] 81,bl b9 [.string k.os,.string k.oi] 44]) ?_ ?_
  refine .dt [] mixed ?_
  refine .tO 0 rfl (.aI rfl)<|.tO 1 rfl (.aI rfl)<|.tO 2 rfl .move<|.tO 3 rfl .move<|.tO 6 rfl .move<|.tO 7 rfl .move<|.tO 9 rfl .move ?_
  refine RA.jS 4 8 rfl rfl (by kernel_rfl) rfl ?_ ?_
  refine .da ((hV.numbers rev c2).weaken cQ) (λu Tn a=>?_)
  obtain⟨ll,a0,a2⟩:=a
  rw[b6]at a2
  have g0:=a0.rs.ap
  refine .nil (Next.sub ?_)
  refine RA.jS 5 8 rfl rfl (by kernel_rfl) rfl ?_ ?_
  refine .da ((tH U (λb o=>(b,o)∈Tc\/(b,o)∈Tn) (Z.mono λb o hb=>.inl hb) (by rw[v];exact V.dG) _ ll num (a0.mono λb o hb=>.inr hb) (by rw[v];exact a2) (by rw[v];exact V.len)).weaken λb o hb=>.inr (by rcases hb with hb|hb<;>simp[hb])) (λu w a=>?_)
  obtain⟨mn,rfl⟩:∃m,u=.map (some m):=by obtain⟨b,_,_,h,_⟩:=a;exact⟨b,h⟩
  refine .nil (Next.sub ?_)
  refine .sT 8 rfl ?_
  refine .makeMap (λB=>?_)
  refine .nil (Next.sub ?_)
  refine .tO 10 rfl .cO ?_
  refine .sT 11 rfl ?_
  refine .bX rfl (λC=>?_)
  refine .nil (Next.sub ?_)
  refine .tO 12 rfl .assign ?_
  refine RA.nil (by kernel_rfl) ?_
  ·first
      |exact aE (C,B,_,w) (by rw[<-v];exact a) ((((kE.d rfl).d rfl).d rfl).d rfl) (bf.gJ.trans (aY [2,2,0,0,3,0,3,3]))
      |exact aE (C,B,_,w) (by rw[<-v];exact a) ((((kE.d rfl).d rfl).d rfl).d rfl) (bf.gJ.trans (aY [2,3,0,0,3,0,3,3]))
      |exact aE (C,B,_,w) (by rw[<-v];exact a) ((((kE.d rfl).d rfl).d rfl).d rfl) (bf.gJ.trans (aY [2,4,0,0,3,0,3,3]))
  refine .makeMap (λB=>?_)
  refine .nil (Next.sub ?_)
  refine .sT 5 rfl ?_
  refine .da ((tH U (λb o=>(b,o)∈Tc\/(b,o)∈Tn) (Z.mono λb o hb=>.inl hb) (by rw[v];exact V.dG) _ ll num (a0.mono λb o hb=>.inr hb) (by rw[v];exact a2) (by rw[v];exact V.len)).weaken λb o hb=>.inr (by rcases hb with hb|hb<;>simp[hb])) (λu w a=>?_)
  obtain⟨mn,rfl⟩:∃m,u=.map (some m):=by obtain⟨b,_,_,h,_⟩:=a;exact⟨b,h⟩
  refine .nil (Next.sub ?_)
  refine .tO 10 rfl .cO ?_
  refine .sT 11 rfl ?_
  refine .bX rfl (λC=>?_)
  refine .nil (Next.sub ?_)
  refine .tO 12 rfl .assign ?_
  refine RA.nil (by kernel_rfl) ?_
  ·first
      |exact aE (C,B,_,w) (by rw[<-v];exact a) ((((kE.d rfl).d rfl).d rfl).d rfl) (bf.gJ.trans (aY [2,2,0,0,3,0,3,3]))
      |exact aE (C,B,_,w) (by rw[<-v];exact a) ((((kE.d rfl).d rfl).d rfl).d rfl) (bf.gJ.trans (aY [2,3,0,0,3,0,3,3]))
      |exact aE (C,B,_,w) (by rw[<-v];exact a) ((((kE.d rfl).d rfl).d rfl).d rfl) (bf.gJ.trans (aY [2,4,0,0,3,0,3,3]))
  refine .makeMap (λB=>?_)
  refine .nil (Next.sub ?_)
  refine .sT 4 rfl ?_
  refine .da ((hV.numbers rev c2).weaken cQ) (λu Tn a=>?_)
  obtain⟨ll,a0,a2⟩:=a
  rw[b6]at a2
  have g0:=a0.rs.ap
  refine .nil (Next.sub ?_)
  refine .sT 5 rfl ?_
  refine .da ((tH U (λb o=>(b,o)∈Tc\/(b,o)∈Tn) (Z.mono λb o hb=>.inl hb) (by rw[v];exact V.dG) _ ll num (a0.mono λb o hb=>.inr hb) (by rw[v];exact a2) (by rw[v];exact V.len)).weaken λb o hb=>.inr (by rcases hb with hb|hb<;>simp[hb])) (λu w a=>?_)
  obtain⟨mn,rfl⟩:∃m,u=.map (some m):=by obtain⟨b,_,_,h,_⟩:=a;exact⟨b,h⟩
  refine .nil (Next.sub ?_)
  refine .tO 10 rfl .cO ?_
  refine .sT 11 rfl ?_
  refine .bX rfl (λC=>?_)
  refine .nil (Next.sub ?_)
  refine .tO 12 rfl .assign ?_
  refine RA.nil (by kernel_rfl) ?_
  ·first
      |exact aE (C,B,_,w) (by rw[<-v];exact a) ((((kE.d rfl).d rfl).d rfl).d rfl) (bf.gJ.trans (aY [2,2,0,0,3,0,3,3]))
      |exact aE (C,B,_,w) (by rw[<-v];exact a) ((((kE.d rfl).d rfl).d rfl).d rfl) (bf.gJ.trans (aY [2,3,0,0,3,0,3,3]))
      |exact aE (C,B,_,w) (by rw[<-v];exact a) ((((kE.d rfl).d rfl).d rfl).d rfl) (bf.gJ.trans (aY [2,4,0,0,3,0,3,3]))
  intro y hy
  obtain⟨xb,Q,vn,w⟩:=y
  simp only at hy⊢
  obtain⟨x,a3⟩:∃x:XC,x=⟨U,num,vn,g,S,L,rev,b⟩:=⟨_,rfl⟩
  have i2:=hy.one
  have c7:x.sub=sub:=by rw[f9,a3];rfl
  have a7:x.c.plain=cp:=by rw[a3];exact v
  have a8:x.num=num:=by rw[a3]
  have K:x.b=b:=by rw[a3]
  obtain⟨Rc,H⟩:∃Rc:aB,Rc=λb o=>R b o\/(b,o)∈Tc\/(b,o)∈w:=⟨_,rfl⟩
  have a5:x.ok Rc:=by
    rw[a3,H]
    exact⟨Z.mono λb o hb=>.inr (.inl hb),by simp only;rw[v];exact hy.rm λp f=>.inr (.inr f),by simp only;rw[v];exact V.len,⟨c8,vf,vr,Mf,Mr,hS.mono λb o hb=>.inl hb⟩,hL,hl⟩
  have f7:=yE x Rc a5 xb
  have f5:=λR h=>Ls x Rc R h a5 xb
  have b2:=λR h=>Ly x R h xb
  rw[<-a3]
  refine aw<|.sr<|.mo rfl<|.q (.aI rfl)<|.mo rfl ?_
  refine .call [0,0,0] ((f7 [] 0 (.map (some Q)) (sZ) [(Q,.map #[] 0)] [] ⟨[],MS.nil,λk=>rfl⟩ OS.nil (by simp) k).weaken λb o hb=>by
    rw[H]at hb
    rcases hb with hb|hb|hb
    ·exact .inl hb
    ·exact .inr (by simp[rest,bF,hb])
    ·exact .inr (by simp[rest,bF,hb])) (λu H' a=>?_)
  obtain⟨c9,g2,d0,d2,rfl,rfl,e0,d4,d6,l1,c1,f6⟩:=a
  rw[List.nil_append]at c1
  subst c1
  conv=>arg 8;simp only[rest,bF,List.cons_append,List.nil_append]
  have h0:c9.map aJ.plain=(opened cp num sub k 0).1:=by rw[e0,a7,a8];rfl
  refine .zs<|.sr<|.az rfl<|.block ?_
  refine .cq [(12,_),(18,_)] (X:=Nat×List aJ×Value×aA×aA×aA) (λy=>(∀j,j<y.1->j<(opened cp num sub k j).1.length/\(((opened cp num sub k j).1.length+(opened cp num sub k j).2:Nat):Int)<=b)/\y.2.1.map aJ.plain=(opened cp num sub k y.1).1/\gN y.2.1 (.map (some Q)) y.2.2.2.1/\OS 95 8 aJ.enc y.2.2.1 y.2.1 y.2.2.2.2.1/\∀q∈y.2.1,q.is λb o=>Rc b o\/(b,o)∈y.2.2.2.2.2) (λy E=>(19,iN y.1)::E) (G:=[Tc,w,bl b3 [sZ,.int .i64 0] 81,bl b9 [.string k.os,.string k.oi] 44]) (λy G=>x.gB xb (.map (some Q)) y.2.2.1 (opened cp num sub k y.1).2::y.2.2.2.1::y.2.2.2.2.1::y.2.2.2.2.2::G) (λy=>N+1-y.1) (0,c9,g2,d0,d2,[]) ⟨λj hj=>(by omega),h0,d4,d6,λq hq=>(f6 q hq).mono λb o hb=>.inl hb⟩ kE.c.c.c rH ?_
  rintro⟨i,s,A,Ta,To,Tp⟩ ⟨hj,O,hA,F,M⟩
  simp only at hj O hA F M⊢
  have g1:=F.ap
  have i1:bW (List.take 2 (List.drop 6 (x.cells (.map (some Q)) A (opened cp num sub k i).2))):=⟨λu a=>by
    simp[XC.cells]at a
    rcases a with rfl|rfl
    ·exact g1.h
    ·rfl⟩
  have a9:∀j,j<i->j<(opened cp num sub k j).1.length:=λj Y=>(hj j Y).1
  have b7:=tP hN a9
  have g8:=c3 i a9
  have c6:s.length=(opened cp num sub k i).1.length:=by rw[<-O,List.length_map]
  refine .seq<|.sr<|.mo rfl<|.mo rfl<|.nc rfl<|.fa rfl<|.fa rfl<|.lo rfl<|.q (.ej F) ?_
  refine .q .lss<|.mo rfl ?_
  refine .split (t:=80) rfl (λD=>?_) (λD=>?_)
  have b8:i<s.length:=by have:=cv D;omega
  refine .gT D<|.mo rfl<|.gT D ?_
  refine .bd (b2 _ (a5.mono λb o hb=>by
    rw[H]at hb
    rcases hb with hb|hb|hb
    ·exact .inl hb
    ·exact .inr (by simp[hb])
    ·exact .inr (by simp[hb])) (.map (some Q)) A (opened cp num sub k i).2 s (pc:=PC.of (E:=190) (fr:=(0,0)) (.inr (by simp))) F.rx (by omega) (by rw[K];omega)) (λu a=>?_)
  subst a
  refine .gT D<|.q .not<|.q (.aO D) ?_
  refine .zn ?_
  refine .cond rfl (λh4=>?_) λh4=>?_
  have f1:(((opened cp num sub k i).1.length+(opened cp num sub k i).2:Nat):Int)<=b:=by
    have:¬x.b<(s.length+(opened cp num sub k i).2:Nat):=by simpa using h4
    rw[K]at this;omega
  obtain⟨p,f⟩:=bU b8
  have b0:p.plain=one x.c.plain x.num p.k:=by
    rw[a7,a8]
    exact tN (c:=cp) (num:=num) (sub:=sub) (k:=k) i i p.plain (Nat.le_refl _) (by rw[<-O,List.getElem?_map,f];rfl)
  have f2:p.nodes.length<=1000000:=by
    have Y:=yp (num:=num) (k:=p.k) V.right
    rw[a7,a8]at b0
    rw[<-b0]at Y
    exact Nat.le_trans Y (by omega)
  have c0:∀j,j<i+1->j<(opened cp num sub k j).1.length/\(((opened cp num sub k j).1.length+(opened cp num sub k j).2:Nat):Int)<=b:=λj Y=>by
    rcases Nat.lt_or_ge j i with h8|h8
    ·exact hj j h8
    ·obtain rfl:j=i:=by omega
     exact⟨by omega,f1⟩
  have g9:=c3 (i+1) λj Y=>(c0 j Y).1
  have c5:=yt (c:=cp) (num:=num) (sub:=sub) (k:=k) i
  have c4:(eF cp num sub (s.map aJ.plain) i).1=(opened cp num sub k (i+1)).1:=by rw[c5,O]
  have f4:(opened cp num sub k i).2+(eF cp num sub (s.map aJ.plain) i).2=(opened cp num sub k (i+1)).2:=by rw[c5,O]
  refine .kn<|.seq<|.block<|.region<|.mo rfl<|.mo rfl ?_
  refine .call [0,0,0] (f5 _ (λb o hb=>by
    rw[H]at hb
    rcases hb with hb|hb|hb
    ·exact .inl hb
    ·exact .inr (by simp[rest,bF,hb])
    ·exact .inr (by simp[rest,bF,hb])) s (opened cp num sub k i).2 (.map (some Q)) A Ta To hA F i p f ((M p (aX f)).n.mono λb o hb=>by
    rw[H]at hb
    rcases hb with(hb|hb|hb)|hb
    ·exact .inl hb
    ·exact .inr (by simp[rest,bF,hb])
    ·exact .inr (by simp[rest,bF,hb])
    ·exact .inr (by simp[rest,bF,hb])) b0 f2 (by rw[a7,a8,c7,c4];omega) (by omega)) (λu H' a=>?_)
  rw[rZ,a7,a8,c7,c4,f4]at a
  obtain⟨g3,d1,d3,TL,Tr,Tu,l,q,rfl,f0,e6,d5,d7,f8⟩:=a
  conv=>arg 8;simp only[rest,bF,List.cons_append,List.nil_append]
  refine .nil<|ba<|aw<|.region<|.mo rfl ?_
  refine .ia (i+1) .add ?_
  refine .ag rfl<|.nil ?_
  ·exact bi (i+1,(s++l).set i q,g3,d1,d3,TL++(Tr++(Tu++Tp))) ⟨c0,e6,d5,d7,λz hz=>by
      rcases List.mem_or_eq_of_mem_set hz with hz|rfl
      ·rcases List.mem_append.1 hz with hz|hz
       ·exact(M z hz).mono λb o hb=>hb.imp id λhb=>List.mem_append_right _ (List.mem_append_right _ (List.mem_append_right _ hb))
       ·exact(f0 z hz).mono λb o hb=>.inl hb
      ·rcases f8 with rfl|⟨e1,e2,e3,e4,e5⟩
       ·exact(M _ (aX f)).mono λb o hb=>hb.imp id λhb=>List.mem_append_right _ (List.mem_append_right _ (List.mem_append_right _ hb))
       ·refine⟨?_,e3.mono λb o hb=>.inr (List.mem_append_right _ (List.mem_append_right _ (List.mem_append_left _ hb))),e4.mono λb o hb=>.inr (List.mem_append_left _ hb),λy hy=>(e5 y hy).mono λb o hb=>.inr (List.mem_append_right _ (List.mem_append_left _ hb))⟩
        rw[e1,e2]
        exact(M p (aX f)).n.mono λb o hb=>hb.imp id λhb=>List.mem_append_right _ (List.mem_append_right _ (List.mem_append_right _ hb))⟩ (by simp only;omega) kE.c.c.c (bf.eT (by simp[dh]))
  refine .exit<|bq<|bz<|br<|aw<|.seq<|.sr<|.mo rfl ?_
  refine .bd (b2 _ (a5.mono λb o hb=>by
    rw[H]at hb
    rcases hb with hb|hb|hb
    ·exact .inl hb
    ·exact .inr (by simp[hb])
    ·exact .inr (by simp[hb])) (.map (some Q)) A (opened cp num sub k i).2 s (pc:=PC.of (E:=190) (fr:=(0,0)) (.inr (by simp))) F.rx (by omega) (by rw[K];omega)) (λu a=>?_)
  subst a
  refine .zn ?_
  refine .cond rfl (λW=>?_) λW=>?_
  have a6:b<(((opened cp num sub k i).1.length+(opened cp num sub k i).2:Nat):Int):=by
    have:x.b<(s.length+(opened cp num sub k i).2:Nat):=by simpa using W
    rw[K]at this;omega
  obtain⟨e7,e8⟩:=tQ (c:=cp) (num:=num) (sub:=sub) (k:=k) b7
  rw[if_neg (by omega)]at r
  refine .sr ?_
  refine .q .cO ?_
  refine .bG rfl rfl<|.az rfl ?_
  refine .ret (aF (bj _ (.two (.ei rfl rfl) (.tmp rfl)) (bf.one [2,2,2,2] _) ?_))
  ·first
      |exact(J _ _ _).2 ⟨_,[],_,rfl,by rw[r];rfl,RS.fZ,λp f=>(by cases f),by rw[r];rfl⟩
      |exact(J _ _ _).2 ⟨A,s,_,rfl,by rw[r];rfl,F.rs λp f=>.inr (by simp[take,bF,f]),λp f=>(M p f).mono λb o hb=>(by
          rw[H]at hb
          rcases hb with(hb|hb|hb)|hb
          ·exact .inl hb
          ·exact .inr (by simp[take,bF,hb])
          ·exact .inr (by simp[take,bF,hb])
          ·exact .inr (by simp[take,bF,hb])),by rw[r];exact O⟩
  have a6:(((opened cp num sub k i).1.length+(opened cp num sub k i).2:Nat):Int)<=b:=by
    have:¬x.b<(s.length+(opened cp num sub k i).2:Nat):=by simpa using W
    rw[K]at this;omega
  have b1:i=N:=by
    refine gl.dG (c:=cp) (num:=num) (sub:=sub) (k:=k) ⟨?_,a9⟩ hN
    first
      |(rw[<-c6];omega)
      |(exfalso
        have:x.b<(s.length+(opened cp num sub k i).2:Nat):=by simpa using h4
        rw[K]at this
        omega)
  subst b1
  rw[if_pos a6]at r
  refine .kn<|.sr<|.mo rfl<|.nc rfl<|.fa rfl<|.q (.loadT rfl) ?_
  refine .bG rfl rfl<|.az rfl ?_
  refine .ret (bj _ (.two (.ei rfl rfl) (.tmp rfl)) (bf.one [2,2,2,2] _) ?_)
  ·first
      |exact(J _ _ _).2 ⟨_,[],_,rfl,by rw[r];rfl,RS.fZ,λp f=>(by cases f),by rw[r];rfl⟩
      |exact(J _ _ _).2 ⟨A,s,_,rfl,by rw[r];rfl,F.rs λp f=>.inr (by simp[take,bF,f]),λp f=>(M p f).mono λb o hb=>(by
          rw[H]at hb
          rcases hb with(hb|hb|hb)|hb
          ·exact .inl hb
          ·exact .inr (by simp[take,bF,hb])
          ·exact .inr (by simp[take,bF,hb])
          ·exact .inr (by simp[take,bF,hb])),by rw[r];exact O⟩
  have b8:¬i<s.length:=by have:=bC D;omega
  refine .gF D<|.gF D<|.gF D<|.q (.aK D) ?_
  refine .zn<|.cF<|.exit<|bq<|bz<|br<|aw<|.seq<|.sr<|.mo rfl ?_
  refine .bd (b2 _ (a5.mono λb o hb=>by
    rw[H]at hb
    rcases hb with hb|hb|hb
    ·exact .inl hb
    ·exact .inr (by simp[hb])
    ·exact .inr (by simp[hb])) (.map (some Q)) A (opened cp num sub k i).2 s (pc:=PC.of (E:=190) (fr:=(0,0)) (.inr (by simp))) F.rx (by omega) (by rw[K];omega)) (λu a=>?_)
  subst a
  refine .zn ?_
  refine .cond rfl (λW=>?_) λW=>?_
  have a6:b<(((opened cp num sub k i).1.length+(opened cp num sub k i).2:Nat):Int):=by
    have:x.b<(s.length+(opened cp num sub k i).2:Nat):=by simpa using W
    rw[K]at this;omega
  obtain⟨e7,e8⟩:=tQ (c:=cp) (num:=num) (sub:=sub) (k:=k) b7
  rw[if_neg (by omega)]at r
  refine .sr ?_
  refine .q .cO ?_
  refine .bG rfl rfl<|.az rfl ?_
  refine .ret (aF (bj _ (.two (.ei rfl rfl) (.tmp rfl)) (bf.one [2,2,2,2] _) ?_))
  ·first
      |exact(J _ _ _).2 ⟨_,[],_,rfl,by rw[r];rfl,RS.fZ,λp f=>(by cases f),by rw[r];rfl⟩
      |exact(J _ _ _).2 ⟨A,s,_,rfl,by rw[r];rfl,F.rs λp f=>.inr (by simp[take,bF,f]),λp f=>(M p f).mono λb o hb=>(by
          rw[H]at hb
          rcases hb with(hb|hb|hb)|hb
          ·exact .inl hb
          ·exact .inr (by simp[take,bF,hb])
          ·exact .inr (by simp[take,bF,hb])
          ·exact .inr (by simp[take,bF,hb])),by rw[r];exact O⟩
  have a6:(((opened cp num sub k i).1.length+(opened cp num sub k i).2:Nat):Int)<=b:=by
    have:¬x.b<(s.length+(opened cp num sub k i).2:Nat):=by simpa using W
    rw[K]at this;omega
  have b1:i=N:=by
    refine gl.dG (c:=cp) (num:=num) (sub:=sub) (k:=k) ⟨?_,a9⟩ hN
    first
      |(rw[<-c6];omega)
      |(exfalso
        have:x.b<(s.length+(opened cp num sub k i).2:Nat):=by simpa using h4
        rw[K]at this
        omega)
  subst b1
  rw[if_pos a6]at r
  refine .kn<|.sr<|.mo rfl<|.nc rfl<|.fa rfl<|.q (.loadT rfl) ?_
  refine .bG rfl rfl<|.az rfl ?_
  refine .ret (bj _ (.two (.ei rfl rfl) (.tmp rfl)) (bf.one [2,2,2,2] _) ?_)
  ·first
      |exact(J _ _ _).2 ⟨_,[],_,rfl,by rw[r];rfl,RS.fZ,λp f=>(by cases f),by rw[r];rfl⟩
      |exact(J _ _ _).2 ⟨A,s,_,rfl,by rw[r];rfl,F.rs λp f=>.inr (by simp[take,bF,f]),λp f=>(M p f).mono λb o hb=>(by
          rw[H]at hb
          rcases hb with(hb|hb|hb)|hb
          ·exact .inl hb
          ·exact .inr (by simp[take,bF,hb])
          ·exact .inr (by simp[take,bF,hb])
          ·exact .inr (by simp[take,bF,hb])),by rw[r];exact O⟩
structure uT(ps:List aJ)(us:ByteArray):Prop where
 ok:se (ps.map aJ.plain) us
 tr:∀p∈ps,∀i,i<p.nodes.length->(tree isWord p.nodes (i+1)).isSome=true
 nl:∀p∈ps,p.nodes.length<=1000000
 rl:∀p∈ps,∀q∈p.ll,q.2.length<=1000000
 n:ps.length<=2000000
 ed:K5 (ps.map aJ.plain)<=1000000000
theorem uT.ll{ps:List aJ}{us:ByteArray}(h:uT ps us):∀p∈ps,p.ll.length=p.nodes.length:=λp c=>by
 have:=h.ok.ln p.plain (List.mem_map.2 ⟨p,c,rfl⟩)
 have a:p.plain.leads.length=p.ll.length:=by unfold aJ.plain;simp
 have b:p.plain.nodes=p.nodes:=rfl
 rw[a,b]at this
 exact this
def OP(b:Int)(K:Nat)(v:List Bool):List Bool×Nat×Int:=
 if b<1 then([],0,2)else if b<K then([],b.toNat+1,16)else(v,K,0)
theorem gm.more{ps:List cG}{us:ByteArray}{K k:Nat}{s t:QS}(h:gm ps us K s)(a:py s.2)(b:gm ps us k t)(d:¬py t.2):k<K:=by
 rcases Nat.lt_trichotomy k K with h1|h1|h1
 ·exact h1
 ·subst h1
  rw[h.dG b]at a
  exact absurd a d
 ·obtain⟨u,i,f,c⟩:=b.tY h1
  have e:=h.dG f
  subst e
  have:=c.1
  rw[a i]at this
  cases this
theorem J8(us d c a b:ByteArray){si:ByteArray}:iM ⟨us,d,si,c⟩ ⟨a,b⟩=((!decide (us=⟨#[]⟩)&&decide (a=⟨#[]⟩)&&decide (b=⟨#[]⟩))||(decide (us=⟨#[]⟩)&& !decide (a=⟨#[]⟩)&&decide (a=d)&&decide (b=c))):=by
 unfold iM
 by_cases h:us=⟨#[]⟩<;>simp[h]
theorem LU(c:bE)(R:aB)(h:c.is R)(hf:c.fW)(t:ay):Spec prog 148 [.agg c.enc.toArray,.agg t.enc.toArray] R [] λu H'=>u=.bool (allowed c.plain t.cE t.sub)/\H'=[]:=by
 have a6:=rn c R h hf
 have i1:One c.vs:=RS.ap h.ss
 have i2:One c.vc:=RS.ap h.sc
 have a1:=tF h
 have s:allowed c.plain t.cE t.sub=match bM c.plain.all ⟨t.os,t.rel⟩with
  |none=>false
  |some i=>((c.plain.all.map (·.2.types)).getD i []).any (iM t.sub):=rfl
 have T:=mT c
 obtain⟨l,V,m,n,A,si,v⟩:=t
 have a7:ay.sub ⟨l,V,m,n,A,si,v⟩=⟨n,A,si,v⟩:=rfl
 rw[a7]at s⊢
 refine Spec.body Tryz.func148 rfl Tryz.results148 Tryz.ntmps148 rfl ?_
 refine .sr ?_
 refine .bX rfl (λW=>?_)
 refine .bX rfl (λY=>?_)
 refine .ag rfl<|.z<|.q (.aI rfl) ?_
 refine .da (a6.weaken cQ) (λu L I=>?_)
 have iu:=I.ap
 have a3:oB (λb o=>R b o\/(b,o)∈L) u c.eY:=⟨I.rs λp hp=>.inr hp,λx C=>(a1 x C).mono λb o F=>.inl F⟩
 refine .ag rfl<|.z<|.mo rfl<|.fa rfl<|.fa rfl<|.lo rfl<|.fa rfl<|.lo rfl ?_
 refine .bd ((mY _ _ _ a3 l m).weaken λb o F=>F.elim .inl λF=>.inr (by simp[F])) (λw hw=>?_)
 subst hw
 rw[T]
 refine .ag rfl<|.zs<|.sr<|.mo rfl<|.q .lss<|.zn ?_
 refine .cond rfl (λB=>?_) λB=>?_
 have hn:bM c.plain.all ⟨l,m⟩=none:=by
  cases hh:bM c.plain.all ⟨l,m⟩with
  |none=>rfl
  |some i=>rw[hh]at B;simp only[fI]at B;have:=cv B;omega
 refine .sr<|.az rfl ?_
 refine .ret (aF (aH rfl ?_))
 ·exact⟨by rw[s,hn],rfl⟩
 obtain⟨i,S⟩:∃i,bM c.plain.all ⟨l,m⟩=some i:=by
  cases hh:bM c.plain.all ⟨l,m⟩with
  |none=>rw[hh]at B;simp[fI]at B
  |some i=>exact⟨i,rfl⟩
 rw[S]
 have a4:i<c.eY.length:=by have:=uf S;rw[<-T,List.length_map]at this;exact this
 obtain⟨⟨sn,vt,vn,r⟩,C⟩:=bU a4
 have a2:=a1 _ (aX C)
 have K:RS R 2 Ty.enc vt r.types:=a2.t
 have b0:=K.ap
 have a9:One vn:=RS.ap a2.d
 have a5:(c.plain.all.map (·.2.types)).getD i []=r.types:=by
  rw[List.getD_eq_getElem?_getD,List.getElem?_map, <-T,List.getElem?_map,C];rfl
 rw[S]at s
 simp only[a5]at s
 have a8:=K.le
 refine .kn<|.seq<|.sr<|.az rfl<|.block ?_
 refine .cq [(3,_),(5,_),(6,_)] (X:=Nat) (λj=>j<=r.types.length/\(r.types.take j).any (iM ⟨n,A,si,v⟩)=false) (λj E=>(7,iN j)::E) (λ_ G=>G) (λj=>r.types.length-j) 0 ⟨Nat.zero_le _,rfl⟩ kE.c.c.c.c rH ?_
 rintro j ⟨hj,U⟩
 refine .seq<|.sr<|.mo rfl<|.mo rfl<|.mo rfl ?_
 refine .bo i I C (λb1=>?_)
 refine .fa rfl<|.fa rfl<|.lo rfl<|.q (.bD K) ?_
 refine .q .lss<|.zn ?_
 refine .cond rfl (λM=>?_) λM=>?_
 have a0:j<r.types.length:=cg M
 obtain⟨⟨D,H⟩,J⟩:=bU a0
 have Q:=J8 n A v D H (si:=si)
 refine .kn<|.seq<|.block<|.sr<|.mo rfl<|.mo rfl ?_
 refine .bo i I C (λb4=>?_)
 refine .fa rfl<|.fa rfl<|.lo rfl<|.mo rfl ?_
 refine .bA j K J (λb5=>?_)
 refine .q (.aI rfl) ?_
 refine .bN (λZ=>?_)
 refine .bG rfl rfl<|.zs<|.seq ?_
 refine bp.cP [(3,_),(5,_),(6,_),(7,_),(8,_)] kE.c.c.c.c.c (X:=Unit) (λ_=>True) (λ_ E=>(53,.bool (!decide (n=⟨#[]⟩)&&decide (D=⟨#[]⟩)&&decide (H=⟨#[]⟩)))::E) (λ_=>[bl Z (Ty.enc ⟨D,H⟩) 249,L,bl Y (ay.enc ⟨l,V,m,n,A,si,v⟩) 119,bl W c.enc 25]) ?_ ?_
 refine .region<|.fa rfl<|.fa rfl<|.lo rfl<|.q .ff<|.mo rfl ?_
 refine .split (t:=44) rfl (λg=>?_) (λg=>?_)
 refine .gT g<|.fa rfl<|.gT g<|.lo rfl<|.gT g<|.q .dI<|.q (.aO g) ?_
 refine .mo rfl ?_
 refine .split (t:=49) rfl (λk=>?_) (λk=>?_)
 refine .gT k<|.fa rfl<|.gT k<|.lo rfl<|.gT k<|.q .dI<|.q (.aO k) ?_
 refine .nil ?_
 ·exact aE () trivial (kE.c.c.c.c.c.bL rfl (by grind)) rH
 refine .gF k<|.gF k<|.gF k<|.q (.aK k) ?_
 refine .nil ?_
 ·exact aE () trivial (kE.c.c.c.c.c.bL rfl (by grind)) rH
 refine .gF g<|.gF g<|.gF g<|.q (.aK g) ?_
 refine .mo rfl<|.gX<|.gX<|.gX<|.q .cK<|.nil ?_
 ·exact aE () trivial (kE.c.c.c.c.c.bL rfl (by grind)) rH
 intro y hy
 refine aw ?_
 refine .cond rfl (λN=>?_) λN=>?_
 refine .sr<|.az rfl ?_
 refine .ret (aF (bg (aF (cz (bg (aF (aH rfl ?_)))))))
 ·exact⟨by rw[s,nE J (by rw[Q,N];rfl)],rfl⟩
 refine .kn<|.seq ?_
 refine bp.cP [(3,_),(5,_),(6,_),(7,_)] kE.c.c.c.c (X:=Unit) (λ_=>True) (λ_ E=>(79,.bool (decide (n=⟨#[]⟩)&& !decide (D=⟨#[]⟩)&&decide (D=A)&&decide (H=v)))::E) (λ_=>[bl Z (Ty.enc ⟨D,H⟩) 249,L,bl Y (ay.enc ⟨l,V,m,n,A,si,v⟩) 119,bl W c.enc 25]) ?_ ?_
 refine .region<|.fa rfl<|.fa rfl<|.lo rfl<|.q .dI<|.mo rfl ?_
 refine .split (t:=58) rfl (λf=>?_) (λf=>?_)
 refine .gT f<|.fa rfl<|.gT f<|.lo rfl<|.gT f<|.q .ff<|.q (.aO f) ?_
 refine .mo rfl ?_
 refine .split (t:=63) rfl (λa=>?_) (λa=>?_)
 refine .gT a<|.fa rfl<|.gT a<|.lo rfl<|.gT a<|.fa rfl<|.gT a<|.fa rfl<|.gT a<|.fa rfl<|.gT a<|.lo rfl<|.gT a<|.q .dI<|.q (.aO a) ?_
 refine .mo rfl ?_
 refine .split (t:=72) rfl (λe=>?_) (λe=>?_)
 refine .gT e<|.fa rfl<|.gT e<|.lo rfl<|.gT e<|.fa rfl<|.gT e<|.fa rfl<|.gT e<|.lo rfl<|.gT e<|.q .dI<|.q (.aO e) ?_
 refine .nil ?_
 ·exact aE () trivial (kE.c.c.c.c.bL rfl (by grind)) rH
 refine .gF e<|.gF e<|.gF e<|.gF e<|.gF e<|.gF e<|.q (.aK e) ?_
 refine .nil ?_
 ·exact aE () trivial (kE.c.c.c.c.bL rfl (by grind)) rH
 refine .gF a<|.gF a<|.gF a<|.gF a<|.gF a<|.gF a<|.gF a<|.q (.aK a) ?_
 refine .mo rfl<|.gX<|.gX<|.gX<|.gX<|.gX<|.gX<|.q .cK<|.nil ?_
 ·exact aE () trivial (kE.c.c.c.c.bL rfl (by grind)) rH
 refine .gF f<|.gF f<|.gF f<|.q (.aK f) ?_
 refine .mo rfl<|.gX<|.gX<|.gX<|.gX<|.gX<|.gX<|.gX<|.q .cK<|.mo rfl<|.gX<|.gX<|.gX<|.gX<|.gX<|.gX<|.q .cK<|.nil ?_
 ·exact aE () trivial (kE.c.c.c.c.bL rfl (by grind)) rH
 intro y hy
 refine aw ?_
 refine .cond rfl (λO=>?_) λO=>?_
 refine .sr<|.az rfl ?_
 refine .ret (bg (aF (cz (bg (aF (aH rfl ?_))))))
 ·exact⟨by rw[s,nE J (by rw[Q,O,Bool.or_true])],rfl⟩
 refine .skip<|ba<|aw<|.region<|.mo rfl ?_
 refine .ia (j+1) .add ?_
 refine .ag rfl<|.nil ?_
 ·exact bi (j+1) ⟨a0,qe J U (by rw[Q,N,O];rfl)⟩ (by omega) kE.c.c.c.c (bf.drop [0] _)
 refine .exit<|bq<|bz<|br<|aw<|.sr<|.az rfl ?_
 refine .ret (aH rfl ?_)
 ·rw[dD (gV M)]at U
  exact⟨by rw[s,U],rfl⟩
theorem yO(c:bE)(R:aB)(h:c.is R)(I:c.fW){b:Nat}{S:cU}{V:Value}{L:List bk}(F:DV R b S V L)(N:L.length<=512)(rev:Int)(k:aU)(sub:aU->List Sub)(A:sub=λk=>if scan S rev then(L.filter λy=>y.there rev&&decide (y.t.cE=k)).map (·.t.sub)else []):
  Spec prog 88 [.agg c.enc.toArray,pT b,.int .u64 rev,.agg [.string k.os,.string k.oi].toArray,.string k.rel] R [] λu H'=>∃T,H'=[T]/\OS 117 4 Sub.enc u (fitting c.plain sub k) T:=by
 have H:=LU c R h I
 have i1:One c.vs:=RS.ap h.ss
 have i2:One c.vc:=RS.ap h.sc
 have a2:(sub k).length<=512:=by
  rw[A]
  simp only
  split
  ·rw[List.length_map]
   exact Nat.le_trans (List.length_filter_le _ _) N
  ·simp
 have J:fitting c.plain sub k=(sub k).filter (allowed c.plain k):=rfl
 have O:sub k=if scan S rev then(L.filter λy=>y.there rev&&decide (y.t.cE=k)).map (·.t.sub)else []:=by rw[A]
 rw[J]
 generalize a0:sub k=l at *
 have K:∀i,((l.take i).filter (allowed c.plain k)).length<=512:=λi=>Nat.le_trans (List.length_filter_le _ _) (by rw[List.length_take];omega)
 refine Spec.body Tryz.func88 rfl Tryz.results88 Tryz.ntmps88 rfl ?_
 refine .sr ?_
 refine .bX rfl (λb5=>?_)
 refine .bX rfl (λb8=>?_)
 refine .ag rfl<|.z<|.ag rfl<|.z<|.mo rfl<|.q (.aI rfl)<|.mo rfl<|.mo rfl ?_
 refine .da ((F.NR (by omega) k rev).weaken cQ) (λu Y d=>?_)
 rw[<-O]at d
 have iu:=d.ap
 refine .ag rfl<|.zs<|.sr<|.az rfl<|.block ?_
 refine .cq [(4,_),(5,_),(8,_),(12,_)] (X:=Nat×Value×aA) (λy=>y.1<=l.length/\OS 117 4 Sub.enc y.2.1 ((l.take y.1).filter (allowed c.plain k)) y.2.2) (λy E=>(13,iN y.1)::(11,y.2.1)::E) (λy G=>y.2.2::G) (λy=>l.length-y.1) (0,sZ,[]) ⟨Nat.zero_le _,OS.nil⟩ kE.c.c.c.c.c.c bf.gw ?_
 rintro⟨i,W,x⟩ ⟨M,a⟩
 simp only at M a⊢
 have io:=a.ap
 refine .seq<|.sr<|.mo rfl<|.mo rfl<|.q (.ej d) ?_
 refine .q .lss<|.zn ?_
 refine .cond rfl (λm=>?_) λm=>?_
 have o:i<l.length:=cg m
 obtain⟨s,r⟩:=bU o
 have a1:=K i
 have B:=dS r
 obtain⟨j,g,e,f⟩:=s
 refine .kn<|.seq<|.block<|.seq ?_
 refine .dF 8 mixed (by kernel_rfl) ?_
 conv=>arg 6;dsimp only[List.take]
 refine .q (.aI rfl)<|.q (.aI rfl)<|.mo rfl<|.mo rfl<|.mo rfl ?_
 refine .bo i d r (λa3=>?_)
 refine .q (.aI rfl) ?_
 refine .q .cO ?_
 refine .nil ?_
 refine .bd ((H ⟨k.os,k.oi,k.rel,j,g,e,f⟩).weaken cQ) (λw Q=>?_)
 subst Q
 refine .zn ?_
 refine .cond rfl (λn=>?_) λn=>?_
 have v:allowed c.plain k ⟨j,g,e,f⟩=true:=n
 have p:(l.take (i+1)).filter (allowed c.plain k)=(l.take i).filter (allowed c.plain k)++[(⟨j,g,e,f⟩:Sub)]:=by rw[B,List.filter_append];simp[v]
 refine .region<|.mo rfl<|.mo rfl<|.mo rfl ?_
 refine .bo i d r (λa4=>?_)
 refine .q (.aI rfl) ?_
 refine .dA (λZ=>?_)
 refine .append a (RS.lits (xs:=[(⟨j,g,e,f⟩:Sub)]) rfl (by simp[Sub.enc]) (by simp[Sub.enc,ap])) (by simp only[List.length_singleton];omega) (λU D C=>?_)
 rw[<-p]at C
 refine .ag rfl<|.nil<|ba<|aw<|.region<|.mo rfl ?_
 refine .ia (i+1) .add ?_
 refine .ag rfl<|.nil ?_
 ·exact bi (i+1,U,D) ⟨o,C⟩ (by simp only;omega) kE.c.c.c.c.c.c (bf.drop [0] _)
 have v:allowed c.plain k ⟨j,g,e,f⟩=false:=n
 have p:(l.take (i+1)).filter (allowed c.plain k)=(l.take i).filter (allowed c.plain k):=by rw[B,List.filter_append];simp[v]
 refine .skip<|ba<|aw<|.region<|.mo rfl ?_
 refine .ia (i+1) .add ?_
 refine .ag rfl<|.nil ?_
 ·exact bi (i+1,W,x) ⟨o,by simp only;rw[p];exact a⟩ (by simp only;omega) kE.c.c.c.c.c.c rH
 refine .exit<|bq<|bz<|br<|aw<|.sr<|.mo rfl<|.az rfl ?_
 refine .ret (bj _ (.one (.tmp rfl)) (.one [0] _) ?_)
 ·rw[dD (gV m)]at a
  exact⟨x,by simp[take],a⟩
theorem Ref.eqv(a b c d:ByteArray):dU [Value.string a,.string b] [Value.string c,.string d]=decide (a=c/\b=d):=by
 have:=Ty.eq ⟨a,b⟩ ⟨c,d⟩
 simp only[Ty.enc,Ty.mk.injEq]at this
 exact this
theorem L9(v:Value)(ps:List aJ)(R:aB)(h:RS R 8 aJ.enc v ps)(k:aU):
  Spec prog 90 [v,.agg [.string k.os,.string k.oi].toArray,.string k.rel] R [] λu H'=>u=.int .i64 (fI (eG (ps.map aJ.plain) k))/\H'=[]:=by
 have K:=h.le
 have M:=h.ap
 obtain⟨os,oi,rel⟩:=k
 refine Spec.body Tryz.func90 rfl Tryz.results90 Tryz.ntmps90 rfl ?_
 refine .sr ?_
 refine .bX rfl (λA=>?_)
 refine .ag rfl<|.zs<|.sr<|.az rfl<|.block ?_
 refine .cq [(0,_),(2,_),(4,_)] (X:=Nat) (λi=>i<=ps.length/\∀j p,j<i->ps[j]? =some p->p.k≠⟨os,oi,rel⟩) (λi E=>(7,iN i)::E) (λ_ G=>G) (λi=>ps.length-i) 0 ⟨Nat.zero_le _,λj x f=>absurd f (by omega)⟩ kE.c.c.c.c rH ?_
 rintro i ⟨J,w⟩
 refine .seq<|.sr<|.mo rfl<|.mo rfl<|.q (.bD h) ?_
 refine .q .lss<|.zn ?_
 refine .cond rfl (λn=>?_) λn=>?_
 have s:i<ps.length:=cg n
 obtain⟨p,g⟩:=bU s
 have L:bW p.enc:=⟨h.one p (aX g)⟩
 obtain⟨⟨d,b,m⟩,I,W,O,Y,U,V,N,Q⟩:=p
 refine .kn<|.seq<|.block<|.seq ?_
 refine bp.cP [(0,_),(2,_),(4,_),(7,_)] kE.c.c.c.c (X:=Unit) (λ_=>True) (λ_ E=>(29,.bool (decide (d=os/\b=oi)&&decide (m=rel)))::E) (λ_=>[bl A [.string os,.string oi] 44]) ?_ ?_
 refine .fq mixed (by kernel_rfl) ?_
 refine .mo rfl<|.mo rfl ?_
 refine .bA i h g (λS=>?_)
 refine .fa rfl<|.q (.loadT rfl) ?_
 refine .q (.aI rfl)<|.q (.cast (.kZ (xs:=[.string d,.string b]) (ys:=[.string os,.string oi]) rfl rfl (Ty.kinds ⟨d,b⟩) (Ty.kinds ⟨os,oi⟩)) (congrArg Value.bool (Ref.eqv d b os oi))) ?_
 refine .mo rfl ?_
 refine .split (t:=21) rfl (λa=>?_) (λa=>?_)
 refine .gT a<|.mo rfl<|.gT a<|.mo rfl<|.gT a ?_
 refine .bA i h g (λT=>?_)
 refine .gT a<|.fa rfl<|.gT a<|.lo rfl<|.gT a<|.mo rfl<|.gT a<|.q .dI<|.q (.aO a) ?_
 refine .nil ?_
 ·exact aE () trivial (kE.c.c.c.c.bL rfl (by grind)) rH
 refine .gF a<|.gF a<|.gF a<|.gF a<|.gF a<|.gF a<|.gF a<|.q (.aK a) ?_
 refine .nil ?_
 ·exact aE () trivial (kE.c.c.c.c.bL rfl (by grind)) rH
 intro y z
 refine aw ?_
 refine .cond rfl (λo=>?_) λo=>?_
 refine .sr<|.mo rfl<|.az rfl ?_
 refine .ret (bg (aF (cz (bg (aF (aH rfl ?_))))))
 ·refine⟨?_,rfl⟩
  have r:(d=os/\b=oi)/\m=rel:=by simpa using o
  have:eG (ps.map aJ.plain) ⟨os,oi,rel⟩=some i:=by
   unfold eG
   rw[List.findIdx?_eq_some_iff_getElem]
   refine⟨by rw[List.length_map];exact s,?_,λj f=>?_⟩
   ·have e:=(List.getElem?_eq_some_iff.1 g).2
    rw[List.getElem_map,e]
    exact decide_eq_true (by show(⟨d,b,m⟩:aU)=_;rw[r.1.1,r.1.2,r.2])
   ·rw[List.getElem_map]
    have:=w j _ f (bB (by omega))
    exact λB=>this (cv B)
  rw[this]
  rfl
 refine .skip<|ba<|aw<|.region<|.mo rfl ?_
 refine .ia (i+1) .add ?_
 refine .ag rfl<|.nil ?_
 ·exact bi (i+1) ⟨s,λj x f l=>by
   rcases Nat.lt_or_ge j i with hh|hh
   ·exact w j x hh l
   ·obtain rfl:j=i:=by omega
    rw[g]at l
    cases l
    intro C
    injection C with k1 k2 k3
    have D:d=os:=k1
    have F:b=oi:=k2
    have H:m=rel:=k3
    subst D;subst F;subst H
    simp at o⟩ (by omega) kE.c.c.c.c rH
 refine .exit<|bq<|bz<|br<|aw<|.sr<|.az rfl ?_
 refine .ret (aH rfl ?_)
 ·refine⟨?_,rfl⟩
  have:eG (ps.map aJ.plain) ⟨os,oi,rel⟩=none:=by
   unfold eG
   rw[List.findIdx?_eq_none_iff]
   intro x l
   obtain⟨y,z,rfl⟩:=List.mem_map.1 l
   obtain⟨j,f,e⟩:=List.mem_iff_getElem.1 z
   have:=w j y (by have:=bC n;omega) (by rw[bB f,e])
   exact decide_eq_false this
  rw[this]
  rfl
def qb(c:Cf)(sub:aU->List Sub)(k:aU)(n:Nd):List Sub:=(eh c sub k n).map λx=>⟨⟨#[]⟩,x.os,x.oi,x.rel⟩
theorem LR(c:bE)(R:aB)(h:c.is R)(hf:c.fW){b:Nat}{S:cU}{vL:Value}{L:List bk}(hD:DV R b S vL L)(hl:L.length<=512)(rev:Int)(sub:aU->List Sub)(a6:sub=λk=>if scan S rev then(L.filter λy=>y.there rev&&decide (y.t.cE=k)).map (·.t.sub)else [])(k:aU)(N:List Value)(n:Nd) [ie:bW N](a9:N.length=5):
  Spec prog 89 [.agg c.enc.toArray,pT b,.int .u64 rev,.agg (.string k.os:: .string k.oi:: .string k.rel::N).toArray,.agg n.enc.toArray] R [] λu H'=>∃T,H'=[T]/\OS 117 4 Sub.enc u (qb c.plain sub k n) T:=by
 obtain⟨Z,x4,x5,x6,x7,rfl⟩:∃a b c d f,N=[a,b,c,d,f]:=by
  match N,a9 with
  |[a,b,c,d,f],_=>exact⟨a,b,c,d,f,rfl⟩
 have c1:bW (Value.string k.os:: .string k.oi:: .string k.rel::[Z,x4,x5,x6,x7]):=⟨λu hu=>by
  simp only[List.mem_cons,List.not_mem_nil,or_false]at hu
  rcases hu with rfl|rfl|rfl|hu
  ·rfl
  ·rfl
  ·rfl
  ·exact ie.h u (by simpa using hu)⟩
 have V:=λk=>yO c R h hf hD hl rev k sub a6
 have i1:One c.vs:=RS.ap h.ss
 have i2:One c.vc:=RS.ap h.sc
 have Y:∀k,(fitting c.plain sub k).length<=512:=λk=>by
  unfold fitting
  refine Nat.le_trans (List.length_filter_le _ _) ?_
  rw[a6]
  simp only
  split
  ·rw[List.length_map]
   exact Nat.le_trans (List.length_filter_le _ _) hl
  ·simp
 have W:∀k,fh c.plain sub k=(fitting c.plain sub k).filter λs=>decide (s.us=⟨#[]⟩):=λ_=>rfl
 have r:qb c.plain sub k n=(if n.kind=1 then(fh c.plain sub k).map λs=>(⟨s.ss,s.si,s.sr⟩:aU)
  else if n.kind=3 then(fh c.plain sub ⟨k.os,k.oi,n.rel⟩).map λs=>⟨s.ss,s.si,n.dw⟩
  else if n.kind=2 then [⟨k.os,k.oi,n.rel⟩]
  else []).map λx=>(⟨⟨#[]⟩,x.os,x.oi,x.rel⟩:Sub):=rfl
 generalize c0:qb c.plain sub k n=out at *
 refine Spec.gx (H':=[[]]) (by simp) ?_
 refine Spec.body Tryz.func89 rfl Tryz.results89 Tryz.ntmps89 rfl ?_
 refine .sr ?_
 refine .bX rfl (λb5=>?_)
 refine .bX rfl (λb8=>?_)
 refine .bX rfl (λb9=>?_)
 refine .ag rfl<|.zs<|.seq ?_
 refine bp.cP [(1,_),(2,_),(5,_),(8,_),(9,_)] kE.c.c.c.c.c (X:=Unit) (λ_=>True) (λ_ E=>(22,.bool (decide (n.kind=1)||decide (n.kind=3)))::E) (λ_=>[bl b9 n.enc 199,bl b8 (Value.string k.os:: .string k.oi:: .string k.rel::[Z,x4,x5,x6,x7]) 93,bl b5 c.enc 25,[]]) ?_ ?_
 refine .region<|.fa rfl<|.lo rfl<|.q .bO<|.mo rfl ?_
 refine .split (t:=18) rfl (λp=>?_) (λp=>?_)
 refine .gF p<|.gF p<|.gF p<|.q (.aO p) ?_
 refine .nil ?_
 ·exact aE () trivial (kE.c.c.c.c.c.bL rfl (by grind)) rH
 refine .gT p<|.fa rfl<|.gT p<|.lo rfl<|.gT p<|.q .bO<|.q (.aK p) ?_
 refine .nil ?_
 ·exact aE () trivial (kE.c.c.c.c.c.bL rfl (by grind)) rH
 intro y hy
 refine aw ?_
 refine .cond rfl (λh1=>?_) λh1=>?_
 have a3:n.kind=1\/n.kind=3:=by simpa using h1
 refine .sr<|.fa rfl<|.lo rfl<|.ag rfl<|.zs<|.sr<|.fa rfl<|.lo rfl<|.q .bO<|.zn ?_
 refine .cond rfl (λh2=>?_) λh2=>?_
 have H:n.kind=3:=cv h2
 have a1:=V ⟨k.os,k.oi,n.rel⟩
 have b2:=Y ⟨k.os,k.oi,n.rel⟩
 have a4:∃g:Sub->Sub,g=(λs=>⟨⟨#[]⟩,s.ss,s.si,n.dw⟩)/\out=((fitting c.plain sub ⟨k.os,k.oi,n.rel⟩).filter λs=>decide (s.us=⟨#[]⟩)).map g:=⟨_,rfl,by rw[r,if_neg (by omega),if_pos H,List.map_map,W];rfl⟩
 clear V Y W r
 generalize b1:fitting c.plain sub ⟨k.os,k.oi,n.rel⟩=l at *
 obtain⟨g,hg,a5⟩:=a4
 refine .region<|.fa rfl<|.lo rfl<|.ag rfl<|.z<|.ag rfl<|.z<|.q (.aI rfl)<|.mo rfl<|.mo rfl<|.fa rfl<|.q (.loadT rfl) ?_
 refine .mo rfl ?_
 refine .da (a1.weaken cQ) (λu a0 hu=>?_)
 have iu:=hu.ap
 have a2:∀i,(((l.take i).filter λs=>decide (s.us=⟨#[]⟩)).map g).length<=512:=λi=>by
  rw[List.length_map]
  exact Nat.le_trans (List.length_filter_le _ _) (by rw[List.length_take];omega)
 refine .ag rfl<|.zs<|.sr<|.az rfl<|.block ?_
 refine .cq [(9,_),(13,_)] (X:=Nat×Value×aA) (λy=>y.1<=l.length/\OS 117 4 Sub.enc y.2.1 (((l.take y.1).filter λs=>decide (s.us=⟨#[]⟩)).map g) y.2.2) (λy E=>(14,iN y.1)::(12,y.2.1)::E) (G:=[a0,bl b9 n.enc 199,bl b8 (Value.string k.os:: .string k.oi:: .string k.rel::[Z,x4,x5,x6,x7]) 93,bl b5 c.enc 25]) (λy G=>y.2.2::G) (λy=>l.length-y.1) (0,sZ,[]) ⟨Nat.zero_le _,OS.nil⟩ kE.c.c.c.c (aY [4,0,0,0,0]) ?_
 rintro⟨i,vo,M⟩ ⟨hi,e⟩
 simp only at hi e⊢
 have io:=e.ap
 refine .seq<|.sr<|.mo rfl<|.mo rfl<|.q (.ej hu) ?_
 refine .q .lss<|.zn ?_
 refine .cond rfl (λC=>?_) λC=>?_
 have v:i<l.length:=cg C
 obtain⟨s,A⟩:=bU v
 have b0:=a2 i
 have Q:=dS A
 obtain⟨U,m,j,o⟩:=s
 refine .kn<|.seq<|.block<|.seq<|.sr<|.mo rfl<|.mo rfl ?_
 refine .bo i hu A (λb3=>?_)
 refine .fa rfl<|.lo rfl<|.q .ff<|.zn ?_
 refine .cond rfl (λD=>?_) λD=>?_
 have I:U≠⟨#[]⟩:=by simpa using D
 have w:((l.take (i+1)).filter λs=>decide (s.us=⟨#[]⟩)).map g=((l.take i).filter λs=>decide (s.us=⟨#[]⟩)).map g:=by rw[Q,List.filter_append];simp[I]
 refine .exit<|bq<|br<|aw<|.region<|.mo rfl ?_
 refine .ia (i+1) .add ?_
 refine .ag rfl<|.nil ?_
 ·exact bi (i+1,vo,M) ⟨v,by simp only;rw[w];exact e⟩ (by simp only;omega) kE.c.c.c.c rH
 have I:U=⟨#[]⟩:=by simpa using D
 subst I
 have w:((l.take (i+1)).filter λs=>decide (s.us=⟨#[]⟩)).map g=((l.take i).filter λs=>decide (s.us=⟨#[]⟩)).map g++[g ⟨⟨#[]⟩,m,j,o⟩]:=by rw[Q,List.filter_append,List.map_append];simp
 refine .kn<|.sr<|.fa rfl<|.lo rfl<|.q .bO<|.zn ?_
 refine .cond rfl (λO=>?_) λO=>?_
 (have F:g ⟨⟨#[]⟩,m,j,o⟩=⟨⟨#[]⟩,m,j,n.dw⟩:=by rw[hg])
 refine .dt [10] mixed ?_
 refine .tO 0 rfl .move<|.tO 1 rfl .move<|.tO 2 rfl .move ?_
 refine RA.bo 3 rfl i hu A rfl rfl rfl (by kernel_rfl) (λb4=>?_)
 refine .tO 4 rfl (.fieldAddr rfl) ?_
 refine .tO 5 rfl (.loadT rfl) ?_
 refine .tO 6 rfl (.fieldAddr rfl)<|.tO 7 rfl (.cI rfl) ?_
 refine .tO 8 rfl .cO ?_
 refine .sT 9 rfl ?_
 refine .dA (λa7=>?_)
 refine .nil (Next.sub ?_)
 refine .sT 10 rfl ?_
 refine .append e (RS.lits (xs:=[(⟨⟨#[]⟩,m,j,n.dw⟩:Sub)]) rfl (by simp[Sub.enc]) (by simp[Sub.enc,ap])) (by simp only[List.length_singleton];omega) (λK B J=>?_)
 refine .nil (Next.mod rfl ?_)
 refine .tK 11 rfl .assign ?_
 refine RA.nil (by kernel_rfl) ?_
 refine ba<|aw<|.region<|.mo rfl ?_
 refine .ia (i+1) .add ?_
 refine .ag rfl<|.nil ?_
 ·exact bi (i+1,K,B) ⟨v,by simp only;rw[w,F];exact J⟩ (by simp only;omega) kE.c.c.c.c (bf.drop [0] _)
 (have F:g ⟨⟨#[]⟩,m,j,o⟩=⟨⟨#[]⟩,m,j,o⟩:=by exfalso;have:=bC O;omega)
 refine .region<|.mo rfl<|.mo rfl<|.mo rfl ?_
 refine .bo i hu A (λb6=>?_)
 refine .q (.aI rfl) ?_
 refine .dA (λa8=>?_)
 refine .append e (RS.lits (xs:=[(⟨⟨#[]⟩,m,j,o⟩:Sub)]) rfl (by simp[Sub.enc]) (by simp[Sub.enc,ap])) (by simp only[List.length_singleton];omega) (λK B J=>?_)
 refine .ag rfl<|.nil<|ba<|aw<|.region<|.mo rfl ?_
 refine .ia (i+1) .add ?_
 refine .ag rfl<|.nil ?_
 ·exact bi (i+1,K,B) ⟨v,by simp only;rw[w,F];exact J⟩ (by simp only;omega) kE.c.c.c.c (bf.drop [0] _)
 refine .exit<|bq<|bz<|br<|aw<|.sr<|.mo rfl<|.az rfl ?_
 refine .ret (aF (bj _ (.one (.tmp rfl)) (.one [0] _) ?_))
 ·rw[dD (gV C)]at e
  exact⟨M,by simp[take],by rw[a5];exact e⟩
 have H:n.kind=1:=by have:=bC h2;omega
 have a1:=V ⟨k.os,k.oi,k.rel⟩
 have b2:=Y ⟨k.os,k.oi,k.rel⟩
 have a4:∃g:Sub->Sub,g=(λs=>⟨⟨#[]⟩,s.ss,s.si,s.sr⟩)/\out=((fitting c.plain sub ⟨k.os,k.oi,k.rel⟩).filter λs=>decide (s.us=⟨#[]⟩)).map g:=⟨_,rfl,by rw[r,if_pos H,List.map_map,W];rfl⟩
 clear V Y W r
 generalize b1:fitting c.plain sub ⟨k.os,k.oi,k.rel⟩=l at *
 obtain⟨g,hg,a5⟩:=a4
 refine .kn<|.sr<|.ag rfl<|.z<|.q (.aI rfl)<|.mo rfl<|.mo rfl<|.fa rfl<|.q (.loadT rfl) ?_
 refine .mo rfl ?_
 refine .da (a1.weaken cQ) (λu a0 hu=>?_)
 have iu:=hu.ap
 have a2:∀i,(((l.take i).filter λs=>decide (s.us=⟨#[]⟩)).map g).length<=512:=λi=>by
  rw[List.length_map]
  exact Nat.le_trans (List.length_filter_le _ _) (by rw[List.length_take];omega)
 refine .ag rfl<|.zs<|.sr<|.az rfl<|.block ?_
 refine .cq [(9,_),(13,_)] (X:=Nat×Value×aA) (λy=>y.1<=l.length/\OS 117 4 Sub.enc y.2.1 (((l.take y.1).filter λs=>decide (s.us=⟨#[]⟩)).map g) y.2.2) (λy E=>(14,iN y.1)::(12,y.2.1)::E) (G:=[a0,bl b9 n.enc 199,bl b8 (Value.string k.os:: .string k.oi:: .string k.rel::[Z,x4,x5,x6,x7]) 93,bl b5 c.enc 25]) (λy G=>y.2.2::G) (λy=>l.length-y.1) (0,sZ,[]) ⟨Nat.zero_le _,OS.nil⟩ kE.c.c.c.c (aY [4,0,0,0,0]) ?_
 rintro⟨i,vo,M⟩ ⟨hi,e⟩
 simp only at hi e⊢
 have io:=e.ap
 refine .seq<|.sr<|.mo rfl<|.mo rfl<|.q (.ej hu) ?_
 refine .q .lss<|.zn ?_
 refine .cond rfl (λC=>?_) λC=>?_
 have v:i<l.length:=cg C
 obtain⟨s,A⟩:=bU v
 have b0:=a2 i
 have Q:=dS A
 obtain⟨U,m,j,o⟩:=s
 refine .kn<|.seq<|.block<|.seq<|.sr<|.mo rfl<|.mo rfl ?_
 refine .bo i hu A (λb3=>?_)
 refine .fa rfl<|.lo rfl<|.q .ff<|.zn ?_
 refine .cond rfl (λD=>?_) λD=>?_
 have I:U≠⟨#[]⟩:=by simpa using D
 have w:((l.take (i+1)).filter λs=>decide (s.us=⟨#[]⟩)).map g=((l.take i).filter λs=>decide (s.us=⟨#[]⟩)).map g:=by rw[Q,List.filter_append];simp[I]
 refine .exit<|bq<|br<|aw<|.region<|.mo rfl ?_
 refine .ia (i+1) .add ?_
 refine .ag rfl<|.nil ?_
 ·exact bi (i+1,vo,M) ⟨v,by simp only;rw[w];exact e⟩ (by simp only;omega) kE.c.c.c.c rH
 have I:U=⟨#[]⟩:=by simpa using D
 subst I
 have w:((l.take (i+1)).filter λs=>decide (s.us=⟨#[]⟩)).map g=((l.take i).filter λs=>decide (s.us=⟨#[]⟩)).map g++[g ⟨⟨#[]⟩,m,j,o⟩]:=by rw[Q,List.filter_append,List.map_append];simp
 refine .kn<|.sr<|.fa rfl<|.lo rfl<|.q .bO<|.zn ?_
 refine .cond rfl (λO=>?_) λO=>?_
 (have F:g ⟨⟨#[]⟩,m,j,o⟩=⟨⟨#[]⟩,m,j,n.dw⟩:=by exfalso;have:=cv O;omega)
 refine .dt [10] mixed ?_
 refine .tO 0 rfl .move<|.tO 1 rfl .move<|.tO 2 rfl .move ?_
 refine RA.bo 3 rfl i hu A rfl rfl rfl (by kernel_rfl) (λb4=>?_)
 refine .tO 4 rfl (.fieldAddr rfl) ?_
 refine .tO 5 rfl (.loadT rfl) ?_
 refine .tO 6 rfl (.fieldAddr rfl)<|.tO 7 rfl (.cI rfl) ?_
 refine .tO 8 rfl .cO ?_
 refine .sT 9 rfl ?_
 refine .dA (λa7=>?_)
 refine .nil (Next.sub ?_)
 refine .sT 10 rfl ?_
 refine .append e (RS.lits (xs:=[(⟨⟨#[]⟩,m,j,n.dw⟩:Sub)]) rfl (by simp[Sub.enc]) (by simp[Sub.enc,ap])) (by simp only[List.length_singleton];omega) (λK B J=>?_)
 refine .nil (Next.mod rfl ?_)
 refine .tK 11 rfl .assign ?_
 refine RA.nil (by kernel_rfl) ?_
 refine ba<|aw<|.region<|.mo rfl ?_
 refine .ia (i+1) .add ?_
 refine .ag rfl<|.nil ?_
 ·exact bi (i+1,K,B) ⟨v,by simp only;rw[w,F];exact J⟩ (by simp only;omega) kE.c.c.c.c (bf.drop [0] _)
 (have F:g ⟨⟨#[]⟩,m,j,o⟩=⟨⟨#[]⟩,m,j,o⟩:=by rw[hg])
 refine .region<|.mo rfl<|.mo rfl<|.mo rfl ?_
 refine .bo i hu A (λb6=>?_)
 refine .q (.aI rfl) ?_
 refine .dA (λa8=>?_)
 refine .append e (RS.lits (xs:=[(⟨⟨#[]⟩,m,j,o⟩:Sub)]) rfl (by simp[Sub.enc]) (by simp[Sub.enc,ap])) (by simp only[List.length_singleton];omega) (λK B J=>?_)
 refine .ag rfl<|.nil<|ba<|aw<|.region<|.mo rfl ?_
 refine .ia (i+1) .add ?_
 refine .ag rfl<|.nil ?_
 ·exact bi (i+1,K,B) ⟨v,by simp only;rw[w,F];exact J⟩ (by simp only;omega) kE.c.c.c.c (bf.drop [0] _)
 refine .exit<|bq<|bz<|br<|aw<|.sr<|.mo rfl<|.az rfl ?_
 refine .ret (aF (bj _ (.one (.tmp rfl)) (.one [0] _) ?_))
 ·rw[dD (gV C)]at e
  exact⟨M,by simp[take],by rw[a5];exact e⟩
 have a3:n.kind≠1/\n.kind≠3:=by simpa using h1
 rw[if_neg a3.1,if_neg a3.2]at r
 refine .kn<|.seq<|.sr<|.fa rfl<|.lo rfl<|.q .bO<|.zn ?_
 refine .cond rfl (λh6=>?_) λh6=>?_
 refine .sr<|.fa rfl<|.q (.loadT rfl) ?_
 refine .fa rfl<|.lo rfl ?_
 refine .q .cO ?_
 refine .dA (λb7=>?_)
 refine .az rfl ?_
 refine .ret (aF (bj _ (.one (.tmp rfl)) (.one [0] _) ?_))
 ·have H:n.kind=2:=by simpa using h6
  rw[if_pos H]at r
  exact⟨_,rfl,by rw[r];exact OS.lits rfl (by simp[Sub.enc]) (by simp[Sub.enc,ap])⟩
 refine .kn<|.sr<|.az rfl ?_
 refine .ret (bj _ (.one (.tmp rfl)) (.one [3] _) ?_)
 ·have H:n.kind≠2:=by simpa using h6
  rw[if_neg H]at r
  exact⟨_,rfl,by rw[r];exact OS.nil⟩
def aJ.zero(k:aU):aJ:=⟨k,false,sZ,[],sZ,[],sZ,[],0⟩
def PU(R:aB)(A:List (ByteArray×Rl))(num:List Nat)(k:aU)(m:Nat)(p:aJ):Prop:=
 (p=aJ.zero k/\∀j x,j<m->A[j]? =some x->dL x≠⟨k.os,k.rel⟩)\/
 ∃j x vn,j<m/\A[j]? =some x/\dL x=⟨k.os,k.rel⟩/\p=⟨k,true,vn,x.2.nodes,sZ,[],sZ,[],num.getD j 0⟩/\RS R 5 Nd.enc vn x.2.nodes
theorem PU.cH{R:aB}{A:List (ByteArray×Rl)}{num:List Nat}{k:aU}{m:Nat}{p:aJ}(h:PU R A num k m p):bW p.enc:=by
 rcases h with⟨rfl,_⟩|⟨j,x,c,_,_,_,rfl,b⟩
 ·exact⟨by simp[aJ.enc,aJ.zero,ap]⟩
 ·have:=b.ap
  refine⟨λu a=>?_⟩
  simp only[aJ.enc,List.mem_cons,List.not_mem_nil,or_false]at a
  rcases a with rfl|rfl|rfl|rfl|rfl|rfl|rfl|rfl
  ·rfl
  ·rfl
  ·rfl
  ·rfl
  ·exact this.h
  ·rfl
  ·rfl
  ·rfl
theorem PU.skip{R:aB}{A:List (ByteArray×Rl)}{num:List Nat}{k:aU}{m:Nat}{p:aJ}{x:ByteArray×Rl}(h:PU R A num k m p)(f:A[m]? =some x)(d:dL x≠⟨k.os,k.rel⟩):PU R A num k (m+1) p:=by
 rcases h with⟨e,b⟩|⟨j,y,g,b,c⟩
 ·refine .inl ⟨e,λj y i a=>?_⟩
  rcases Nat.lt_or_ge j m with h3|h3
  ·exact b j y h3 a
  ·obtain rfl:j=m:=by omega
   rw[f]at a;cases a;exact d
 ·exact .inr ⟨j,y,g,by omega,c⟩
theorem yk{A:List (ByteArray×Rl)}(a:(A.map dL).Nodup){i j:Nat}{x y:ByteArray×Rl}{t:Ty}(f:A[i]? =some x)(g:A[j]? =some y)(d:dL x=t)(e:dL y=t):i=j:=by
 have b:(A.map dL)[i]? =some t:=by rw[List.getElem?_map,f, <-d];rfl
 have c:(A.map dL)[j]? =some t:=by rw[List.getElem?_map,g, <-e];rfl
 rcases Nat.lt_trichotomy i j with h|h|h
 ·exact absurd a (lp h c b rfl)
 ·exact h
 ·exact absurd a (lp h b c rfl)
theorem PU.same{R:aB}{A:List (ByteArray×Rl)}{num:List Nat}{k:aU}{m:Nat}{p:aJ}(h:PU R A num k m p)(r:A.length<=m)(n:(A.map dL).Nodup){c:Cf}(g:c.all=A):p.plain=one c num k/\p.is R:=by
 unfold one
 rw[g]
 rcases h with⟨rfl,d⟩|⟨j,x,s,d,a,e,rfl,f⟩
 ·rw[xc λj y q b=>d j y (by omega) b]
  exact⟨rfl,RS.fZ,RS.fZ,NN.nil⟩
 ·rw[xd a e λi y o b l=>by have:=yk n a b e l;omega]
  refine⟨?_,f,RS.fZ,NN.nil⟩
  simp only[aJ.plain,List.getD_eq_getElem?_getD,List.getElem?_map,a]
  rfl
theorem Mx(c:bE)(R:aB)(h:c.is R)(num:List Nat)(M:oA isWord cX c.plain num)(c5:(c.plain.numbers isWord cX).2=rows c.plain.aR num)(k:aU):
  Spec prog 87 [.agg c.enc.toArray,.agg [.string k.os,.string k.oi].toArray,.string k.rel] R [] λu H'=>(∃p:aJ,u=.agg p.enc.toArray/\p.plain=one c.plain num k/\p.is R)/\H'=[]:=by
 have a9:=uj c R h
 have l:=h.ss
 have i1:=l.ap
 have i2:One c.vc:=RS.ap h.sc
 have d6:=l.le
 have b9:=h.all
 have d3:=ny c.plain
 have d7:=M.len
 have b1:(c.plain.all.map dL).Nodup:=M.dG.2.1
 have d2:c.plain.aR.length=c.aR.length:=by unfold bE.plain;simp
 have a7:∀(i:Nat) (s:bT),c.aR[i]? =some s->c.plain.aR[i]? =some s.plain:=λi s b=>mX b
 have d4:=λ(p:fx) (s:bT) (r:bQ)=>mU (c:=c) (p:=p) (s:=s) (r:=r)
 have c1:∀i k,c.ix (i,k)=cA c.plain.aR i+k:=λ_ _=>rfl
 have d1:=λ(p:aJ) (m:Nat) (h:PU R c.plain.all num k m p) (M:c.plain.all.length<=m)=>h.same M b1 (c:=c.plain) rfl
 rw[c5]at a9
 have d0:∀i s,c.aR[i]? =some s->(rows c.plain.aR num)[i]? =some ((num.drop (cA c.plain.aR i)).take s.bI.length):=λi s b=>by
  have F:=mZ (n:=num) (a7 i s b)
  rwa [show s.plain.bI.length=s.bI.length by simp[bT.plain]]at F
 generalize hA:c.plain.all=A at *
 generalize a0:cA c.plain.aR=of at *
 have c6:of 0=0:=by rw[<-a0];cases c.plain.aR<;>rfl
 refine Spec.body Tryz.func87 rfl Tryz.results87 Tryz.ntmps87 rfl ?_
 refine .sr ?_
 refine .bX rfl (λU=>?_)
 refine .bX rfl (λV=>?_)
 refine .bN (λW=>?_)
 refine .z<|.q (.aI rfl)<|.mo rfl ?_
 refine .q .cO ?_
 refine .bN (λY=>?_)
 refine .bG rfl rfl<|.z<|.q (.aI rfl) ?_
 refine .da (a9.weaken cQ) (λu D hu=>?_)
 obtain⟨w,ll,rfl,K,c2⟩:=hu
 have iw:One w:=K.rs.ap
 refine .mo rfl<|.q .extract<|.q .extract<|.ag rfl<|.ag rfl<|.zs<|.sr<|.az rfl<|.block ?_
 refine .cq [(2,_),(3,_),(4,_),(6,_),(7,_),(8,_)] (X:=Nat×aJ) (λy=>y.1<=c.aR.length/\PU R A num k (of y.1) y.2) (λy E=>(10,iN y.1)::E) (G:=[D,bl W (aJ.enc ⟨⟨⟨#[]⟩,⟨#[]⟩,⟨#[]⟩⟩,false,sZ,[],sZ,[],sZ,[],0⟩) 93,bl V [.string k.os,.string k.oi] 44,bl U c.enc 25]) (λy G=>bl Y y.2.enc 93::G) (λy=>c.aR.length-y.1) (0,aJ.zero k) ⟨Nat.zero_le _,.inl ⟨rfl,λj x hj=>by rw[c6]at hj;omega⟩⟩ kE.c.c.c.c.c.c.c (aY [1,0,0,0,0]) ?_
 rintro⟨i,p⟩ ⟨hi,N⟩
 simp only at hi N⊢
 have e0:=N.cH
 refine .seq<|.sr<|.mo rfl<|.fa rfl<|.lo rfl<|.q (.bD l) ?_
 refine .q .lss<|.zn ?_
 refine .cond rfl (λF=>?_) λF=>?_
 have a5:i<c.aR.length:=cg F
 obtain⟨⟨f,J,g⟩,b⟩:=bU a5
 have a3:=b9 _ (aX b)
 have B:RS R 3 bQ.enc J g:=a3.rs
 have e5:=B.ap
 have d8:=B.le
 have e7:bW (bT.enc ⟨f,J,g⟩):=⟨a3.cH⟩
 have c7:=a7 i _ b
 have a6:=mW c7
 rw[a0,show(bT.plain ⟨f,J,g⟩).bI.length=g.length by simp[bT.plain]]at a6
 have a2:=d0 i _ b
 simp only at a2
 rw[<-c2,List.getElem?_map]at a2
 obtain⟨⟨v,b2⟩,a1,b0⟩:=Option.map_eq_some_iff.1 a2
 simp only at b0
 have S:=K.all _ (aX a1)
 simp only at S
 have iv:=S.ap
 have f4:PS D (eR w (i*1)) (fe (v,b2)):=⟨K.rs.pc a1⟩
 refine .kn<|.seq<|.block<|.sr<|.az rfl<|.block ?_
 refine .cq [(2,_),(3,_),(4,_),(6,_),(7,_),(8,_),(10,_)] (X:=Nat×aJ) (λy=>y.1<=g.length/\PU R A num k (of i+y.1) y.2) (λy E=>(11,iN y.1)::E) (G:=[D,bl W (aJ.enc ⟨⟨⟨#[]⟩,⟨#[]⟩,⟨#[]⟩⟩,false,sZ,[],sZ,[],sZ,[],0⟩) 93,bl V [.string k.os,.string k.oi] 44,bl U c.enc 25]) (λy G=>bl Y y.2.enc 93::G) (λy=>g.length-y.1) (0,p) ⟨Nat.zero_le _,N⟩ kE.c.c.c.c.c.c.c.c rH ?_
 rintro⟨q,T⟩ ⟨hq,o⟩
 simp only at hq o⊢
 have e3:=o.cH
 refine .seq<|.sr<|.mo rfl<|.fa rfl<|.lo rfl<|.mo rfl ?_
 refine .bA i l b (λe8=>?_)
 refine .fa rfl<|.lo rfl<|.q (.bD B) ?_
 refine .q .lss<|.zn ?_
 refine .cond rfl (λh2=>?_) λh2=>?_
 have O:q<g.length:=cg h2
 obtain⟨⟨vt,C,r⟩,I⟩:=bU O
 have Q:=a3.all _ (aX I)
 have c4:RS R 5 Nd.enc C r.nodes:=Q.d
 have e6:One vt:=RS.ap Q.t
 have e4:One C:=RS.ap Q.d
 have d9:bW (bQ.enc ⟨vt,C,r⟩):=⟨Q.cH⟩
 have H:=d4 (i,q) _ _ b I
 rw[c1]at H
 have d5:of i+q<A.length:=(List.getElem?_eq_some_iff.1 H).1
 obtain⟨n,hn⟩:∃n,num[of i+q]? =some n:=⟨_,bB (by omega)⟩
 have a8:b2[q]? =some n:=by rw[b0,List.getElem?_take_of_lt O,List.getElem?_drop];exact hn
 have f5:PS D (eR v (q*1)) (dc n):=⟨S.pc a8⟩
 have c3:num.getD (of i+q) 0=n:=by rw[List.getD_eq_getElem?_getD,hn];rfl
 refine .kn<|.seq<|.block<|.seq ?_
 refine bp.cP [(2,_),(3,_),(4,_),(6,_),(7,_),(8,_),(10,_),(11,_)] kE.c.c.c.c.c.c.c.c (X:=Unit) (λ_=>True) (λ_ E=>(60,.bool (decide (f=k.os)&&decide (r.name=k.rel)))::E) (λ_=>[bl Y T.enc 93,D,bl W (aJ.enc ⟨⟨⟨#[]⟩,⟨#[]⟩,⟨#[]⟩⟩,false,sZ,[],sZ,[],sZ,[],0⟩) 93,bl V [.string k.os,.string k.oi] 44,bl U c.enc 25]) ?_ ?_
 refine .fq mixed (by kernel_rfl) ?_
 refine .fa rfl<|.lo rfl<|.mo rfl ?_
 refine .bA i l b (λe9=>?_)
 refine .fa rfl<|.lo rfl<|.fa rfl<|.lo rfl<|.q .dI<|.mo rfl ?_
 refine .split (t:=47) rfl (λa=>?_) (λa=>?_)
 refine .gT a<|.fa rfl<|.gT a<|.lo rfl<|.gT a<|.mo rfl<|.gT a ?_
 refine .bA i l b (λf0=>?_)
 refine .gT a<|.fa rfl<|.gT a<|.lo rfl<|.gT a<|.mo rfl<|.gT a ?_
 refine .bA q B I (λf1=>?_)
 refine .gT a<|.fa rfl<|.gT a<|.lo rfl<|.gT a<|.mo rfl<|.gT a<|.q .dI<|.q (.aO a) ?_
 refine .nil ?_
 ·exact aE () trivial (kE.c.c.c.c.c.c.c.c.bL rfl (by grind)) rH
 refine .gF a<|.gF a<|.gF a<|.gF a<|.gF a<|.gF a<|.gF a<|.gF a<|.gF a<|.gF a<|.gF a<|.gF a<|.q (.aK a) ?_
 refine .nil ?_
 ·exact aE () trivial (kE.c.c.c.c.c.c.c.c.bL rfl (by grind)) rH
 intro y hy
 refine aw ?_
 refine .cond rfl (λh3=>?_) λh3=>?_
 have a4:f=k.os/\r.name=k.rel:=by simpa using h3
 have L:dL (f,r)=⟨k.os,k.rel⟩:=by show(⟨f,r.name⟩:Ty)=_;rw[a4.1,a4.2]
 have c8:T=aJ.zero k:=by
  rcases o with⟨e,_⟩|⟨j,x,v9,g1,g2,g3,_⟩
  ·exact e
  ·have:=yk b1 H g2 L g3;omega
 subst c8
 have f2:PC R (eR c.vs (i*2)) (bT.enc ⟨f,J,g⟩):=l.pc b
 have f3:PC R (eR J (q*3)) (bQ.enc ⟨vt,C,r⟩):=B.pc I
 refine .ry [0] [18,20,22] mixed ?_
 conv=>arg 3;simp only[take,rest,bF,List.getD_cons_zero,List.getD_cons_succ]
 conv=>arg 5;simp only[take,rest,bF,List.getD_cons_zero,List.getD_cons_succ]
 conv=>arg 9;simp only[take,rest,bF,List.getD_cons_zero,List.getD_cons_succ]
 refine .tK 0 rfl (.eE rfl) ?_
 refine .tK 1 rfl (.cI rfl)<|.tK 2 rfl .move ?_
 refine .tK 3 rfl (.bA i l b rfl rfl rfl) ?_
 refine .tK 4 rfl (.fieldAddr rfl)<|.tK 5 rfl (.cI rfl)<|.tK 6 rfl .move ?_
 refine .tK 7 rfl (.bA q B I rfl rfl rfl) ?_
 refine .tK 8 rfl (.fieldAddr rfl)<|.tK 9 rfl (.cI rfl)<|.tK 10 rfl .move<|.tK 11 rfl .move ?_
 refine .tK 12 rfl (.bA i K.rs a1 rfl rfl rfl) ?_
 refine .tK 13 rfl (.cI rfl)<|.tK 14 rfl .move ?_
 refine .tK 15 rfl (.bA q S a8 rfl rfl rfl) ?_
 refine .tK 16 rfl (.cI rfl)<|.tO 17 rfl (.fieldAddr rfl) ?_
 refine .sT 18 rfl ?_
 refine .dm rfl rfl ?_
 refine .nil (Next.mod rfl ?_)
 refine .tK 19 rfl (.eE rfl) ?_
 refine .sT 20 rfl ?_
 refine .dm rfl rfl ?_
 refine .nil (Next.mod rfl ?_)
 refine .tK 21 rfl (.eE rfl) ?_
 refine .sT 22 rfl ?_
 refine .dm rfl rfl ?_
 refine .nil (Next.mod rfl ?_)
 refine RA.nil (by kernel_rfl) ?_
 refine ba<|aw<|.region<|.mo rfl ?_
 refine .ia (q+1) .add ?_
 refine .ag rfl<|.nil ?_
 ·exact bi (q+1,⟨k,true,C,r.nodes,sZ,[],sZ,[],n⟩) ⟨O,.inr ⟨of i+q,(f,r),C,by simp only;omega,H,L,by rw[c3],c4⟩⟩ (by simp only;omega) kE.c.c.c.c.c.c.c.c rH
 have L:dL (f,r)≠⟨k.os,k.rel⟩:=λhe=>by
  injection he with e1 Z
  have b5:f=k.os:=e1
  have b8:r.name=k.rel:=Z
  simp[b5,b8]at h3
 refine .skip<|ba<|aw<|.region<|.mo rfl ?_
 refine .ia (q+1) .add ?_
 refine .ag rfl<|.nil ?_
 ·exact bi (q+1,T) ⟨O,o.skip H L⟩ (by simp only;omega) kE.c.c.c.c.c.c.c.c rH
 have c9:q=g.length:=by have:=bC h2;omega
 rw[c9, <-a6]at o
 refine .exit<|bq<|bz<|br<|ba<|aw<|.region<|.mo rfl ?_
 refine .ia (i+1) .add ?_
 refine .ag rfl<|.nil ?_
 ·exact bi (i+1,T) ⟨a5,o⟩ (by simp only;omega) kE.c.c.c.c.c.c.c rH
 refine .exit<|bq<|bz<|br<|aw<|.sr<|.q (.aI rfl)<|.bG rfl rfl<|.zn ?_
 refine .ret (bj _ (.one (.ei rfl rfl)) (bf.none _) ?_)
 ·have c0:A.length<=of i:=by
   have:i=c.aR.length:=by have:=bC F;omega
   rw[this, <-d2, <-a0, <-d3]
   exact Nat.le_refl _
  obtain⟨e1,Z⟩:=d1 p _ N c0
  exact⟨⟨p,rfl,e1,Z⟩,rfl⟩
structure Ab(c:Cf)(num:List Nat)(sub:aU->List Sub)(R:aB)(ps:List aJ)(k:aU)(ns:List Nd)(ps1:List aJ)(vp:Value)(To:aA)(vL:Value)(L:List fP)(TL Tr:aA)(vS:Value)(sn:List Nat)(TS:aA):Prop where
 eq:ps1.map aJ.plain=(cY c num sub k (ps.map aJ.plain) ns).1
 o:OS 93 8 aJ.enc vp ps1 To
 gr:∃l,ps1=ps++l/\∀p∈l,p.is R
 le:OS 182 1 fe vL L TL
 rows:∀q∈L,RS (sg Tr) 1 dc q.1 q.2
 ll:L.map (·.2)=(cY c num sub k (ps.map aJ.plain) ns).2
 so:OS 3 1 dc vS sn TS
 sq:sn=iB [] (cY c num sub k (ps.map aJ.plain) ns).2.flatten
structure Ac(c:Cf)(num:List Nat)(R:aB)(ps1:List aJ)(ks:List aU)(sn0:List Nat)(ps2:List aJ)(vp:Value)(To:aA)(vR:Value)(TR:aA)(vS:Value)(sn:List Nat)(TS:aA):Prop where
 eq:ps2.map aJ.plain=(dd c num (ps1.map aJ.plain) ks).1
 o:OS 93 8 aJ.enc vp ps2 To
 gr:∃l,ps2=ps1++l/\∀p∈l,p.is R
 r:OS 3 1 dc vR (dd c num (ps1.map aJ.plain) ks).2 TR
 so:OS 3 1 dc vS sn TS
 sq:sn=iB sn0 (dd c num (ps1.map aJ.plain) ks).2
theorem Av{l:List Nat}{i x:Nat}(a:l[i]? =some x)(t:Nat):(l.take (i+1)).any (λz=>decide (z=t))=((l.take i).any (λz=>decide (z=t))||decide (x=t)):=by
 rw[dS a,List.any_append]
 simp
theorem LX(c:bE)(R:aB)(h:c.is R)(num:List Nat)(hm:oA isWord cX c.plain num)(l4:(c.plain.numbers isWord cX).2=rows c.plain.aR num){g:Nat}{S:cU}{vl:Value}{L:List bk}(hD:DV R g S vl L)(hl:L.length<=512)(rev:Int)
  (k:aU)(b:Int)(sub:aU->List Sub)(c4:sub=λk=>if scan S rev then(L.filter λy=>y.there rev&&decide (y.t.cE=k)).map (·.t.sub)else [])
  (g0:∀i,(∀j,j<i->j<(opened c.plain num sub k j).1.length)->(opened c.plain num sub k i).1.length+(opened c.plain num sub k i).2<=1048576)(N:Nat)(hN:gl c.plain num sub k N):
  Spec prog 35 [.agg c.enc.toArray,pT g,.int .u64 rev,.agg [.string k.os,.string k.oi].toArray,.string k.rel,.int .i64 b] R [] (mx R (ke c.plain num sub k b (scan S rev) N)):=by
 have g4:=Mx c R h num hm l4
 have e7:=(qy hm.right).1
 have k0:=λk=>yO c R h e7 hD hl rev k sub c4
 have j7:=λk ex n (ie:bW ex) j9=>LR c R h e7 hD hl rev sub c4 k ex n j9
 have i1:One c.vs:=RS.ap h.ss
 have i2:One c.vc:=RS.ap h.sc
 have g9:∀k,(fh c.plain sub k).length<=512:=λk=>by
  unfold fh fitting
  refine Nat.le_trans (List.length_filter_le _ _) (Nat.le_trans (List.length_filter_le _ _) ?_)
  rw[c4]
  simp only
  split
  ·rw[List.length_map]
   exact Nat.le_trans (List.length_filter_le _ _) hl
  ·simp
 have j8:∀k n,(eh c.plain sub k n).length<=512:=λk n=>by
  unfold eh
  split
  ·rw[List.length_map];exact g9 _
  ·split
   ·rw[List.length_map];exact g9 _
   ·split<;>simp
 have k1:∀k,(fitting c.plain sub k).length<=512:=λk=>by
  unfold fitting
  refine Nat.le_trans (List.length_filter_le _ _) ?_
  rw[c4]
  simp only
  split
  ·rw[List.length_map]
   exact Nat.le_trans (List.length_filter_le _ _) hl
  ·simp
 have n1:∀k,gj c.plain sub k=((fitting c.plain sub k).filter λs=> !decide (s.us=⟨#[]⟩)).map (·.us):=λ_=>rfl
 have c1:∀out u H',mx R out u H'↔∃vp I T,H'=[T]/\u=.tuple [.agg [vp,iN out.2.1].toArray,.int .i64 out.2.2].toArray/\RS (λb o=>R b o\/(b,o)∈T) 8 aJ.enc vp I/\(∀p∈I,aJ.is (λb o=>R b o\/(b,o)∈T) p)/\I.map aJ.plain=out.1:=λ_ _ _=>Iff.rfl
 have Z:ke c.plain num sub k b (scan S rev) N=if b<1 then([],0,2)else if scan S rev=false then([],0,12)
  else if(((opened c.plain num sub k N).1.length+(opened c.plain num sub k N).2:Nat):Int)<=b then((opened c.plain num sub k N).1,(opened c.plain num sub k N).2,0)else([],0,16):=rfl
 have l6:∀x:aU,(one c.plain num x).nodes.length<=64:=λx=>yp (num:=num) (k:=x) hm.right
 generalize o4:c.plain=cp at *
 refine Spec.body Tryz.func35 rfl Tryz.results35 Tryz.ntmps35 rfl ?_
 refine .sr ?_
 refine .bX rfl (λb6=>?_)
 refine .bX rfl (λb9=>?_)
 refine .bN (λa6=>?_)
 refine .ag rfl<|.zs<|.sr<|.mo rfl<|.q .lss<|.zn ?_
 refine .cond rfl (λh1=>?_) λh1=>?_
 have b0:b<1:=cv h1
 refine .sr ?_
 refine .q .cO ?_
 refine .bG rfl rfl<|.az rfl ?_
 refine .ret (aF (bj _ (.two (.ei rfl rfl) (.tmp rfl)) (bf.one [] _) ?_))
 ·exact(c1 _ _ _).2 ⟨_,[],_,rfl,by rw[Z,if_pos b0];rfl,RS.fZ,λp F=>(by cases F),by rw[Z,if_pos b0];rfl⟩
 have b0:¬b<1:=bC h1
 refine .kn<|.seq<|.sr<|.mo rfl<|.mo rfl ?_
 refine .bd ((hD.can rev).weaken cQ) (λu K=>?_)
 subst K
 refine .q .not<|.zn ?_
 refine .cond rfl (λh2=>?_) λh2=>?_
 have c2:scan S rev=false:=by simpa using h2
 refine .sr ?_
 refine .q .cO ?_
 refine .bG rfl rfl<|.az rfl ?_
 refine .ret (aF (bj _ (.two (.ei rfl rfl) (.tmp rfl)) (bf.one [] _) ?_))
 ·exact(c1 _ _ _).2 ⟨_,[],_,rfl,by rw[Z,if_neg b0,if_pos c2];rfl,RS.fZ,λp F=>(by cases F),by rw[Z,if_neg b0,if_pos c2];rfl⟩
 have c2:scan S rev=true:=by simpa using h2
 rw[if_neg b0,if_neg (by rw[c2];simp)]at Z
 refine .kn<|.sr<|.q (.aI rfl)<|.q (.aI rfl)<|.mo rfl ?_
 refine .bd ((g4 k).weaken cQ) (λu K=>?_)
 obtain⟨p0,rfl,l9,d8⟩:=K
 have n3:bW p0.enc:=⟨d8.cH⟩
 refine .dA (λe3=>?_)
 refine .q .cO ?_
 refine .bN (λa7=>?_)
 refine .bG rfl rfl<|.zs<|.sr<|.az rfl<|.block ?_
 refine .cq [(1,_),(2,_),(5,_),(6,_),(12,_),(14,_)] (X:=Nat×List aJ×Value×aA×aA) (λy=>(∀j,j<y.1->j<(opened cp num sub k j).1.length)/\y.2.1.map aJ.plain=(opened cp num sub k y.1).1/\OS 93 8 aJ.enc y.2.2.1 y.2.1 y.2.2.2.1/\∀q∈y.2.1,(q.is λb o=>R b o\/(b,o)∈y.2.2.2.2)/\RS R 5 Nd.enc q.vn q.nodes) (λy E=>(15,iN y.1)::E) (G:=[bl a6 [sZ,.int .i64 0] 86,bl b9 [.string k.os,.string k.oi] 44,bl b6 c.enc 25]) (λy G=>bl a7 [y.2.2.1,.int .i64 ((opened cp num sub k y.1).2:Nat)] 86::y.2.2.2.1::y.2.2.2.2::G) (λy=>N+1-y.1) (0,[p0],.slice (some ⟨e3,0,none⟩) 1 1,bl e3 p0.enc 93,[]) ⟨λj hj=>(by omega),by simp only[List.map_cons,List.map_nil,l9];rfl,OS.lits (by simp) (by simp[aJ.enc]) (by simpa using n3.h),λq hq=>by
  rw[List.mem_singleton]at hq
  subst hq
  exact⟨d8.mono λb o A=>.inl A,d8.n⟩⟩ kE.c.c.c.c.c.c.c (bf.gw.trans (aY [1,1,0,0,0,0])) ?_
 rintro⟨i,I,vp,To,Tp⟩ ⟨b5,b4,hO,hP⟩
 simp only at b5 b4 hO hP⊢
 have r2:=hO.ap
 have o7:=tP hN b5
 have p4:=g0 i b5
 have p6:I.length=(opened cp num sub k i).1.length:=by rw[<-b4,List.length_map]
 refine .seq<|.sr<|.mo rfl<|.fa rfl<|.lo rfl<|.q (.ej hO) ?_
 refine .q .lss<|.zn ?_
 refine .cond rfl (λh3=>?_) λh3=>?_
 have f0:i<I.length:=cg h3
 obtain⟨p,F⟩:=bU f0
 have g7:=aX F
 have m2:=(hP p g7).1
 have m4:=(hP p g7).2
 have n5:bW p.enc:=⟨m2.cH⟩
 have k2:p.plain=one cp num p.k:=tN (c:=cp) (num:=num) (sub:=sub) (k:=k) i i p.plain (Nat.le_refl _) (by rw[<-b4,List.getElem?_map,F];rfl)
 have l3:p.nodes.length<=64:=by
  have O:=l6 p.k
  rw[<-k2]at O
  exact O
 have f1:∀j,j<i+1->j<(opened cp num sub k j).1.length:=λj O=>by
  rcases Nat.lt_or_ge j i with h8|h8
  ·exact b5 j h8
  ·obtain rfl:j=i:=by omega
   omega
 have p5:=g0 (i+1) f1
 have b1:=yt (c:=cp) (num:=num) (sub:=sub) (k:=k) i
 have m3:(I.map aJ.plain)[i]? =some p.plain:=by rw[List.getElem?_map,F];rfl
 have l8:=yq (c:=cp) (num:=num) (sub:=sub) m3
 rw[<-b4,l8]at b1
 obtain⟨a,B,U,v,a2,us,a0,ll,Q⟩:=p
 have hn:RS R 5 Nd.enc U v:=m4
 have m1:aJ.plain ⟨a,B,U,v,a2,us,a0,ll,Q⟩=⟨a,B,v,Q,us,ll.map (·.2)⟩:=rfl
 rw[m1]at b1
 simp only at b1 l3
 have o8:=hn.ap
 have f6:=λj=>u9 (c:=cp) (num:=num) (sub:=sub) a v j (I.map aJ.plain)
 have m8:=λ(j:Nat) (n:Nd) (hj:v[j]? =some n)=>vg (c:=cp) (num:=num) (sub:=sub) hj a (I.map aJ.plain)
 have g2:=λj=>qa (c:=cp) (num:=num) (sub:=sub) a (v.take j) (I.map aJ.plain)
 have p1:(cY cp num sub a (I.map aJ.plain) v).1.length<=1048576:=by
  have O:=congrArg (λz:List cG×Nat=>z.1.length) b1
  simp only[List.length_set]at O
  omega
 refine .kn<|.seq<|.block<|.sr<|.fa rfl<|.lo rfl<|.mo rfl ?_
 refine .bo i hO F (λs1=>?_)
 refine .q (.aI rfl) ?_
 refine .bN (λb3=>?_)
 refine .bG rfl rfl<|.z<|.ag rfl<|.z<|.ag rfl<|.zs ?_
 refine bp.cP [(1,_),(2,_),(5,_),(6,_),(12,_),(14,_),(15,_),(16,_),(17,_)] kE.c.c.c.c.c.c.c.c.c (X:=Value×aA) (λy=>OS 9 1 gG y.1 (if B then gj cp sub a else []) y.2) (λy E=>(18,y.1)::E) (λy=>[y.2,bl b3 (aJ.enc ⟨a,B,U,v,a2,us,a0,ll,Q⟩) 93,bl a7 [vp,.int .i64 ((opened cp num sub k i).2:Nat)] 86,To,Tp,bl a6 [sZ,.int .i64 0] 86,bl b9 [.string k.os,.string k.oi] 44,bl b6 c.enc 25]) ?_ ?_
 refine .sr<|.fa rfl<|.lo rfl<|.zn ?_
 refine .cond rfl (λh4=>?_) λh4=>?_
 have hf:B=true:=h4
 refine .sr<|.q (.aI rfl)<|.mo rfl<|.mo rfl<|.fa rfl<|.q (.loadT rfl) ?_
 refine .fa rfl<|.lo rfl ?_
 refine .da ((k0 a).weaken cQ) (λu n6 K=>?_)
 have iu:=K.ap
 have o5:=k1 a
 have n2:=n1 a
 generalize o6:fitting cp sub a=fl at *
 have n0:∀q,(((fl.take q).filter λs=> !decide (s.us=⟨#[]⟩)).map (·.us)).length<=512:=λq=>by
  rw[List.length_map]
  exact Nat.le_trans (List.length_filter_le _ _) (by rw[List.length_take];omega)
 refine .ag rfl<|.z<|.az rfl<|.block ?_
 refine .cq [(1,_),(2,_),(5,_),(6,_),(12,_),(14,_),(15,_),(16,_),(17,_),(19,_)] (X:=Nat×Value×aA) (λy=>y.1<=fl.length/\OS 9 1 gG y.2.1 (((fl.take y.1).filter λs=> !decide (s.us=⟨#[]⟩)).map (·.us)) y.2.2) (λy E=>(20,iN y.1)::(18,y.2.1)::E) (λy G=>y.2.2::G) (λy=>fl.length-y.1) (0,sZ,[]) ⟨Nat.zero_le _,OS.nil⟩ kE.c.c.c.c.c.c.c.c.c.c.c.c bf.gw ?_
 rintro⟨q,vo,Tq⟩ ⟨hq,a8⟩
 simp only at hq a8⊢
 have io:=a8.ap
 refine .seq<|.sr<|.mo rfl<|.mo rfl<|.q (.ej K) ?_
 refine .q .lss<|.zn ?_
 refine .cond rfl (λh5=>?_) λh5=>?_
 have b2:q<fl.length:=cg h5
 obtain⟨s,hs⟩:=bU b2
 have q0:=n0 q
 have h0:=dS hs
 obtain⟨c9,s6,s4,s5⟩:=s
 refine .kn<|.seq<|.block<|.sr<|.mo rfl<|.mo rfl ?_
 refine .bo q K hs (λs2=>?_)
 refine .fa rfl<|.lo rfl<|.q .ff<|.zn ?_
 refine .cond rfl (λh6=>?_) λh6=>?_
 have d9:c9≠⟨#[]⟩:=by simpa using h6
 have d7:((fl.take (q+1)).filter λs=> !decide (s.us=⟨#[]⟩)).map (·.us)=((fl.take q).filter λs=> !decide (s.us=⟨#[]⟩)).map (·.us)++[c9]:=by rw[h0,List.filter_append,List.map_append];simp[d9]
 refine .region<|.mo rfl<|.mo rfl<|.mo rfl ?_
 refine .bo q K hs (λs3=>?_)
 refine .fa rfl<|.lo rfl ?_
 refine .iV (λo0=>?_)
 refine .append a8 (RS.lits (xs:=[c9]) rfl (by simp[gG]) (by simp[gG,ap])) (by simp only[List.length_singleton];omega) (λv5 T5 a1=>?_)
 rw[<-d7]at a1
 refine .ag rfl<|.nil<|ba<|aw<|.region<|.mo rfl ?_
 refine .ia (q+1) .add ?_
 refine .ag rfl<|.nil ?_
 ·exact bi (q+1,v5,T5) ⟨b2,a1⟩ (by simp only;omega) kE.c.c.c.c.c.c.c.c.c.c.c.c (bf.drop [0] _)
 have d9:c9=⟨#[]⟩:=by simpa using h6
 have d7:((fl.take (q+1)).filter λs=> !decide (s.us=⟨#[]⟩)).map (·.us)=((fl.take q).filter λs=> !decide (s.us=⟨#[]⟩)).map (·.us):=by rw[h0,List.filter_append];simp[d9]
 refine .skip<|ba<|aw<|.region<|.mo rfl ?_
 refine .ia (q+1) .add ?_
 refine .ag rfl<|.nil ?_
 ·exact bi (q+1,vo,Tq) ⟨b2,by simp only;rw[d7];exact a8⟩ (by simp only;omega) kE.c.c.c.c.c.c.c.c.c.c.c.c rH
 refine .exit<|bq<|bz<|br ?_
 ·exact aE (vo,Tq) (by
   rw[dD (gV h5), <-n2]at a8
   simp only[hf,if_true]
   exact a8) kE.c.c.c.c.c.c.c.c.c.c (aY [0,1,1,1,1,1,1,1])
 have hf:B=false:=h4
 refine .skip ?_
 ·exact aE (sZ,[]) (by simp only[hf];exact OS.nil) kE.c.c.c.c.c.c.c.c.c.c bf.gw
 intro y hy
 obtain⟨vu,Tu⟩:=y
 have K:=hy
 simp only at K⊢
 have i8:=K.ap
 clear hy
 refine aw<|.sr<|.ag rfl<|.zs<|.sr<|.az rfl<|.block ?_
 refine .cq [(1,_),(2,_),(5,_),(6,_),(12,_),(14,_),(15,_),(16,_),(18,_)] (X:=Nat×List aJ×Value×aA×Value×List fP×aA×aA×Value×List Nat×aA) (λy=>y.1<=v.length/\Ab cp num sub R I a (v.take y.1) y.2.1 y.2.2.1 y.2.2.2.1 y.2.2.2.2.1 y.2.2.2.2.2.1 y.2.2.2.2.2.2.1 y.2.2.2.2.2.2.2.1 y.2.2.2.2.2.2.2.2.1 y.2.2.2.2.2.2.2.2.2.1 y.2.2.2.2.2.2.2.2.2.2) (λy E=>(22,iN y.1)::(21,y.2.2.2.2.1)::(17,y.2.2.2.2.2.2.2.2.1)::E) (G:=[Tu,bl b3 (aJ.enc ⟨a,B,U,v,a2,us,a0,ll,Q⟩) 93,Tp,bl a6 [sZ,.int .i64 0] 86,bl b9 [.string k.os,.string k.oi] 44,bl b6 c.enc 25]) (λy G=>bl a7 [y.2.2.1,.int .i64 ((opened cp num sub k i).2:Nat)] 86::y.2.2.2.1::y.2.2.2.2.2.2.1::y.2.2.2.2.2.2.2.1::y.2.2.2.2.2.2.2.2.2.2::G) (λy=>v.length-y.1) (0,I,vp,To,sZ,[],[],[],sZ,[],[]) ⟨Nat.zero_le _,⟨rfl,hO,⟨[],by simp,λq hq=>(by cases hq)⟩,OS.nil,λq hq=>(by cases hq),rfl,OS.nil,rfl⟩⟩ kE.c.c.c.c.c.c.c.c.c.c.c.c (bf.yi.trans (aY [5,5,0,0,0,0,0,0,0,0,0])) ?_
 rintro⟨j,C,j0,j1,vL,L,TL,Tr,vS,sn,TS⟩ ⟨hj,d⟩
 simp only at hj d⊢
 have i7:=d.le.ap
 have q1:=d.o.ap
 have r0:=d.so.ap
 have o2:L.length<=j:=by
  have O:=congrArg List.length d.ll
  have h8:=(pZ (c:=cp) (num:=num) (sub:=sub) a (v.take j) (I.map aJ.plain)).1
  rw[List.length_map]at O
  rw[List.length_take]at h8
  omega
 have j3:C.length=(cY cp num sub a (I.map aJ.plain) (v.take j)).1.length:=by rw[<-d.eq,List.length_map]
 have p2:=f6 j
 have p8:sn.length<=C.length:=by
  rw[d.sq,j3]
  refine zb λy hy=>?_
  obtain⟨l,a5,hy⟩:=List.mem_flatten.1 hy
  exact g2 j l a5 y hy
 refine .seq<|.sr<|.mo rfl<|.fa rfl<|.lo rfl<|.q (.bD hn) ?_
 refine .q .lss<|.zn ?_
 refine .cond rfl (λh7=>?_) λh7=>?_
 have f2:j<v.length:=cg h7
 obtain⟨n,g3⟩:=bU f2
 have c5:=m8 j n g3
 have f7:=f6 (j+1)
 rw[c5, <-d.eq]at f7
 simp only at f7
 have j4:qb cp sub a n=(eh cp sub a n).map λx=>⟨⟨#[]⟩,x.os,x.oi,x.rel⟩:=rfl
 have o3:=j8 a n
 generalize o9:eh cp sub a n=ks at *
 have f8:=λm=>u3 (c:=cp) (num:=num) ks m (C.map aJ.plain)
 have k8:=λm=>pY (c:=cp) (num:=num) (ks.take m) (C.map aJ.plain)
 refine .kn<|.seq<|.block<|.sr<|.ag rfl<|.zs ?_
 refine .dF 9 mixed (by kernel_rfl) ?_
 conv=>arg 6;dsimp only[List.take]
 refine .q (.aI rfl)<|.mo rfl<|.mo rfl<|.q (.aI rfl)<|.fa rfl<|.lo rfl<|.mo rfl ?_
 refine .bA j hn g3 (λr3=>?_)
 refine .q (.aI rfl)<|.nil ?_
 refine .da ((j7 a [.bool B,U,a2,a0,iN Q] n ⟨λu K=>n5.h u (by simp only[aJ.enc];simp only[List.mem_cons,List.not_mem_nil,or_false]at K⊢;simp[K])⟩ rfl).weaken cQ) (λu d0 hS=>?_)
 have q4:=hS.ap
 rw[j4]at hS
 refine .ag rfl<|.zs<|.sr<|.az rfl<|.block ?_
 refine .cq [(1,_),(2,_),(5,_),(6,_),(12,_),(14,_),(15,_),(16,_),(18,_),(21,_),(22,_),(24,_)] (X:=Nat×List aJ×Value×aA×Value×aA×Value×List Nat×aA) (λy=>y.1<=ks.length/\Ac cp num R C (ks.take y.1) sn y.2.1 y.2.2.1 y.2.2.2.1 y.2.2.2.2.1 y.2.2.2.2.2.1 y.2.2.2.2.2.2.1 y.2.2.2.2.2.2.2.1 y.2.2.2.2.2.2.2.2) (λy E=>(25,iN y.1)::(23,y.2.2.2.2.1)::(17,y.2.2.2.2.2.2.1)::E) (G:=[d0,TL,Tr,Tu,bl b3 (aJ.enc ⟨a,B,U,v,a2,us,a0,ll,Q⟩) 93,Tp,bl a6 [sZ,.int .i64 0] 86,bl b9 [.string k.os,.string k.oi] 44,bl b6 c.enc 25]) (λy G=>bl a7 [y.2.2.1,.int .i64 ((opened cp num sub k i).2:Nat)] 86::y.2.2.2.1::y.2.2.2.2.2.1::y.2.2.2.2.2.2.2.2::G) (λy=>ks.length-y.1) (0,C,j0,j1,sZ,[],vS,sn,TS) ⟨Nat.zero_le _,⟨rfl,d.o,⟨[],by simp,λq hq=>(by cases hq)⟩,OS.nil,d.so,rfl⟩⟩ kE.c.c.c.c.c.c.c.c.c.c.c.c.c.c.c (bf.gw.trans (aY [2,2,0,3,0,0,0,0,0,0,0,0,0])) ?_
 rintro⟨m,D,e0,e2,vR,TR,i9,H,b8⟩ ⟨k9,f⟩
 simp only at k9 f⊢
 have q8:=f.r.ap
 have q2:=f.o.ap
 have r1:=f.so.ap
 have p3:=f8 m
 have g1:=k8 m
 rw[List.length_take]at g1
 have o1:D.length=(dd cp num (C.map aJ.plain) (ks.take m)).1.length:=by rw[<-f.eq,List.length_map]
 have p7:H.length<=1048576:=by
  rw[f.sq,d.sq, <-pH]
  refine Nat.le_trans (zb (n:=D.length) λy hy=>?_) (by omega)
  rcases List.mem_append.1 hy with hy|hy
  ·obtain⟨l,a5,hy⟩:=List.mem_flatten.1 hy
   have h8:=g2 j l a5 y hy
   obtain⟨l7,k7,_⟩:=f.gr
   rw[k7,List.length_append]
   omega
  ·have h8:=sj (c:=cp) (num:=num) (ks.take m) (C.map aJ.plain) y hy
   omega
 refine .seq<|.sr<|.mo rfl<|.mo rfl<|.q (.ej hS) ?_
 refine .q .lss<|.zn ?_
 refine .cond rfl (λh8=>?_) λh8=>?_
 have d6:m<ks.length:=by have:=cv h8;rw[List.length_map]at this;omega
 obtain⟨⟨W,V,Y⟩,hx⟩:=bU d6
 have hs:(ks.map λx=>(⟨⟨#[]⟩,x.os,x.oi,x.rel⟩:Sub))[m]? =some ⟨⟨#[]⟩,W,V,Y⟩:=by rw[List.getElem?_map,hx];rfl
 have c6:=u5 (c:=cp) (num:=num) hx (C.map aJ.plain)
 rw[<-f.eq]at c6
 have f9:=f8 (m+1)
 rw[c6]at f9
 simp only at f9
 have k5:∀q,eG (D.map aJ.plain) ⟨W,V,Y⟩=some q->dZ cp num (D.map aJ.plain) ⟨W,V,Y⟩=(D.map aJ.plain,q):=λq hq=>by unfold dZ;rw[hq]
 have k6:eG (D.map aJ.plain) ⟨W,V,Y⟩=none->dZ cp num (D.map aJ.plain) ⟨W,V,Y⟩=(D.map aJ.plain++[one cp num ⟨W,V,Y⟩],D.length):=λhq=>by unfold dZ;rw[hq];simp
 refine .kn<|.seq<|.block<|.seq ?_
 refine .dF 12 mixed (by kernel_rfl) ?_
 conv=>arg 6;dsimp only[List.take]
 refine .fa rfl<|.lo rfl<|.mo rfl<|.mo rfl ?_
 refine .bo m hS hs (λr4=>?_)
 refine .fa rfl<|.q (.loadT rfl) ?_
 refine .mo rfl<|.mo rfl ?_
 refine .bo m hS hs (λr5=>?_)
 refine .fa rfl<|.lo rfl<|.nil ?_
 refine .bd (L9 e0 D _ f.o.rx ⟨W,V,Y⟩) (λw hw=>?_)
 subst hw
 refine .ag rfl<|.zs ?_
 refine bp.cP [(1,_),(2,_),(5,_),(6,_),(12,_),(14,_),(15,_),(16,_),(17,_),(18,_),(21,_),(22,_),(23,_),(24,_),(25,_)] kE.c.c.c.c.c.c.c.c.c.c.c.c.c.c.c (X:=Nat×List aJ×Value×aA) (λy=>y.1=(dZ cp num (D.map aJ.plain) ⟨W,V,Y⟩).2/\y.2.1.map aJ.plain=(dZ cp num (D.map aJ.plain) ⟨W,V,Y⟩).1/\OS 93 8 aJ.enc y.2.2.1 y.2.1 y.2.2.2/\∃l,y.2.1=D++l/\∀p∈l,aJ.is R p) (λy E=>(26,iN y.1)::E) (λy=>[bl a7 [y.2.2.1,.int .i64 ((opened cp num sub k i).2:Nat)] 86,y.2.2.2,TR,b8,d0,TL,Tr,Tu,bl b3 (aJ.enc ⟨a,B,U,v,a2,us,a0,ll,Q⟩) 93,Tp,bl a6 [sZ,.int .i64 0] 86,bl b9 [.string k.os,.string k.oi] 44,bl b6 c.enc 25]) ?_ ?_
 refine .sr<|.mo rfl<|.q .lss<|.zn ?_
 refine .cond rfl (λO=>?_) λO=>?_
 have l5:eG (D.map aJ.plain) ⟨W,V,Y⟩=none:=by
  cases hh:eG (D.map aJ.plain) ⟨W,V,Y⟩with
  |none=>rfl
  |some q=>rw[hh]at O;simp only[fI]at O;have:=cv O;omega
 have f4:=k6 l5
 refine .sr<|.fa rfl<|.lo rfl<|.q (.ej f.o) ?_
 refine .ag rfl<|.z<|.fa rfl<|.lo rfl<|.az rfl<|.dt [14,16] mixed ?_
 refine .tO 0 rfl .move<|.tO 1 rfl (.aI rfl)<|.tO 2 rfl .move<|.tO 3 rfl .move ?_
 refine RA.bo 4 rfl m hS hs rfl rfl rfl (by kernel_rfl) (λr6=>?_)
 refine .tO 5 rfl (.fieldAddr rfl) ?_
 refine .tO 6 rfl (.loadT rfl) ?_
 refine .tO 7 rfl .move<|.tO 8 rfl .move ?_
 refine RA.bo 9 rfl m hS hs rfl rfl rfl (by kernel_rfl) (λr7=>?_)
 refine .tO 10 rfl (.fieldAddr rfl)<|.tO 11 rfl (.cI rfl) ?_
 refine .sT 12 rfl ?_
 refine .bd ((g4 ⟨W,V,Y⟩).weaken cQ) (λu m9=>?_)
 obtain⟨p9,rfl,m0,g6⟩:=m9
 have n4:bW p9.enc:=⟨g6.cH⟩
 refine .nil (Next.sub ?_)
 refine .sT 13 rfl ?_
 refine .dA (λn7=>?_)
 refine .nil (Next.sub ?_)
 refine .sT 14 rfl ?_
 refine .append f.o (RS.lits (xs:=[p9]) (by simp) (by simp[aJ.enc]) (by simpa using n4.h)) (by simp only[List.length_singleton];omega) (λv5 T5 a1=>?_)
 have q5:=a1.ap
 refine .nil (Next.mod rfl ?_)
 refine .tK 15 rfl (.eE rfl) ?_
 refine .sT 16 rfl ?_
 refine .dm rfl rfl ?_
 refine .nil (Next.mod rfl ?_)
 refine RA.nil (by kernel_rfl) ?_
 ·exact aE (D.length,D++[p9],v5,T5) ⟨by rw[f4],by rw[f4,List.map_append,List.map_cons,List.map_nil,m0],a1,_,rfl,λp F=>by rw[List.mem_singleton]at F;subst F;exact g6⟩ kE.c.c.c.c.c.c.c.c.c.c.c.c.c.c.c.c (bf.drop [0] _)
 obtain⟨q9,g8⟩:∃q,eG (D.map aJ.plain) ⟨W,V,Y⟩=some q:=by
  cases hh:eG (D.map aJ.plain) ⟨W,V,Y⟩with
  |none=>rw[hh]at O;simp[fI]at O
  |some q=>exact⟨q,rfl⟩
 have f3:=k5 q9 g8
 rw[g8]
 refine .skip ?_
 ·exact aE (q9,D,e0,e2) ⟨by rw[f3],by rw[f3],f.o,[],by simp,λp F=>(by cases F)⟩ kE.c.c.c.c.c.c.c.c.c.c.c.c.c.c.c.c rH
 intro y hy
 obtain⟨M,c8,e1,d1⟩:=y
 obtain⟨i4,e6,c0,e8⟩:=hy
 simp only at i4 e6 c0 e8⊢
 have q3:=c0.ap
 have i3:(dd cp num (C.map aJ.plain) (ks.take (m+1))).2=(dd cp num (C.map aJ.plain) (ks.take m)).2++[M]:=by rw[c6,i4]
 have i0:(dd cp num (C.map aJ.plain) (ks.take (m+1))).1=c8.map aJ.plain:=by rw[c6,e6]
 have c3:iB sn (dd cp num (C.map aJ.plain) (ks.take (m+1))).2=if M∈H then H else H++[M]:=by rw[i3,pH, <-f.sq,zc]
 have e9:∃l,c8=C++l/\∀p∈l,aJ.is R p:=by
  obtain⟨l1,a3,a4⟩:=f.gr
  obtain⟨l2,d3,d4⟩:=e8
  refine⟨l1++l2,by rw[d3,a3,List.append_assoc],λq hq=>?_⟩
  rcases List.mem_append.1 hq with hq|hq
  ·exact a4 q hq
  ·exact d4 q hq
 refine aw<|.sr<|.mo rfl<|.mo rfl ?_
 refine .iV (λj2=>?_)
 refine .append f.r (RS.lits (xs:=[M]) rfl (by simp[dc]) (by simp[dc,ap])) (by simp only[List.length_singleton];omega) (λv6 T6 c7=>?_)
 have q6:=c7.ap
 rw[<-i3]at c7
 refine .ag rfl<|.z<|.ag rfl<|.zs<|.sr<|.az rfl<|.block ?_
 refine .cq [(1,_),(2,_),(5,_),(6,_),(12,_),(14,_),(15,_),(16,_),(17,_),(18,_),(21,_),(22,_),(23,_),(24,_),(25,_),(26,_)] (X:=Nat) (λq=>q<=H.length) (λq E=>(29,iN q)::(28,.bool ((H.take q).any λz=>decide (z=M)))::E) (λ_ G=>G) (λq=>H.length-q) 0 (Nat.zero_le _) kE.c.c.c.c.c.c.c.c.c.c.c.c.c.c.c.c.c.c rH ?_
 rintro q hq
 refine .seq<|.sr<|.mo rfl<|.mo rfl<|.q (.ej f.so) ?_
 refine .q .lss<|.zn ?_
 refine .cond rfl (λd2=>?_) λd2=>?_
 have b2:q<H.length:=cg d2
 obtain⟨z,hz⟩:=bU b2
 have e5:=Av hz M
 refine .kn<|.seq<|.block ?_
 refine bp.cP [(1,_),(2,_),(5,_),(6,_),(12,_),(14,_),(15,_),(16,_),(17,_),(18,_),(21,_),(22,_),(23,_),(24,_),(25,_),(26,_),(29,_)] kE.c.c.c.c.c.c.c.c.c.c.c.c.c.c.c.c.c (X:=Unit) (λ_=>True) (λ_ E=>(28,.bool ((H.take (q+1)).any λz=>decide (z=M)))::E) (λ_=>[bl j2 [iN M] 3,bl a7 [e1,.int .i64 ((opened cp num sub k i).2:Nat)] 86,d1,T6,b8,d0,TL,Tr,Tu,bl b3 (aJ.enc ⟨a,B,U,v,a2,us,a0,ll,Q⟩) 93,Tp,bl a6 [sZ,.int .i64 0] 86,bl b9 [.string k.os,.string k.oi] 44,bl b6 c.enc 25]) ?_ ?_
 refine .region<|.mo rfl<|.mo rfl ?_
 refine .split (t:=156) rfl (λJ=>?_) (λJ=>?_)
 refine .gF J<|.gF J<|.gF J<|.gF J<|.gF J<|.gF J<|.q (.aO J) ?_
 refine .ag rfl<|.nil ?_
 ·exact aE () trivial (kE.c.c.c.c.c.c.c.c.c.c.c.c.c.c.c.c.c.bL rfl (by rw[e5];grind)) rH
 refine .gT J<|.mo rfl<|.gT J<|.mo rfl<|.gT J ?_
 refine .bo q f.so hz (λr8=>?_)
 refine .gT J<|.lo rfl<|.gT J<|.mo rfl<|.gT J<|.q .bO<|.q (.aK J) ?_
 refine .ag rfl<|.nil ?_
 ·exact aE () trivial (kE.c.c.c.c.c.c.c.c.c.c.c.c.c.c.c.c.c.bL rfl (by rw[e5];grind)) rH
 intro y hy
 refine ba<|aw<|.region<|.mo rfl ?_
 refine .ia (q+1) .add ?_
 refine .ag rfl<|.nil ?_
 ·exact bi (q+1) b2 (by omega) kE.c.c.c.c.c.c.c.c.c.c.c.c.c.c.c.c.c.c rH
 have m6:q=H.length:=by have:=bC d2;omega
 subst m6
 refine .exit<|bq<|bz<|br<|aw<|.sr<|.mo rfl<|.q .not<|.zn ?_
 refine .cond rfl (λa3=>?_) λa3=>?_
 have d5:M∉H:=by
  have:((H.take H.length).any λz=>decide (z=M))=false:=by simpa using a3
  rw[List.take_length]at this
  intro hh
  have h8:=List.any_eq_false.1 this M hh
  simp at h8
 rw[if_neg d5]at c3
 refine .region<|.mo rfl<|.mo rfl ?_
 refine .iV (λn8=>?_)
 refine .append f.so (RS.lits (xs:=[M]) rfl (by simp[dc]) (by simp[dc,ap])) (by simp only[List.length_singleton];omega) (λv7 T7 i6=>?_)
 have q7:=i6.ap
 refine .ag rfl<|.nil<|ba<|aw<|.region<|.mo rfl ?_
 refine .ia (m+1) .add ?_
 refine .ag rfl<|.nil ?_
 ·exact bi (m+1,c8,e1,d1,v6,T6,v7,H++[M],T7) ⟨d6,⟨i0.symm,c0,e9,c7,i6,c3.symm⟩⟩ (by simp only;omega) kE.c.c.c.c.c.c.c.c.c.c.c.c.c.c.c (bf.drop [0,0] _)
 have d5:M∈H:=by
  have:((H.take H.length).any λz=>decide (z=M))=true:=by simpa using a3
  rw[List.take_length,List.any_eq_true]at this
  obtain⟨z,hz,e⟩:=this
  exact(cv e)▸hz
 rw[if_pos d5]at c3
 refine .skip<|ba<|aw<|.region<|.mo rfl ?_
 refine .ia (m+1) .add ?_
 refine .ag rfl<|.nil ?_
 ·exact bi (m+1,c8,e1,d1,v6,T6,i9,H,b8) ⟨d6,⟨i0.symm,c0,e9,c7,f.so,c3.symm⟩⟩ (by simp only;omega) kE.c.c.c.c.c.c.c.c.c.c.c.c.c.c.c (bf.drop [0] _)
 have l0:m=ks.length:=by have:=bC h8;rw[List.length_map]at this;omega
 rw[l0,List.take_length]at f g1
 obtain⟨pu,cu,rfl,_⟩:=f.r.shape
 refine .exit<|bq<|bz<|br<|aw<|.region<|.mo rfl<|.mo rfl ?_
 refine .iV (λn9=>?_)
 refine .append d.le (RS.lits (xs:=[((.slice pu (dd cp num (C.map aJ.plain) ks).2.length cu,(dd cp num (C.map aJ.plain) ks).2):fP)]) rfl (by simp[fe]) (by simp[fe,ap])) (by simp only[List.length_singleton];omega) (λv5 T5 a1=>?_)
 have i5:=a1.ap
 refine .ag rfl<|.nil<|ba<|aw<|.region<|.mo rfl ?_
 refine .ia (j+1) .add ?_
 refine .ag rfl<|.nil ?_
 ·exact bi (j+1,D,e0,e2,v5,L++[(.slice pu (dd cp num (C.map aJ.plain) ks).2.length cu,(dd cp num (C.map aJ.plain) ks).2)],T5,TR++Tr,i9,H,b8) ⟨f2,⟨by rw[c5,f.eq,d.eq],f.o,by
   obtain⟨l1,a3,a4⟩:=d.gr
   obtain⟨l2,d3,d4⟩:=f.gr
   refine⟨l1++l2,by rw[d3,a3,List.append_assoc],λq hq=>?_⟩
   rcases List.mem_append.1 hq with hq|hq
   ·exact a4 q hq
   ·exact d4 q hq,a1,λq hq=>by
   rcases List.mem_append.1 hq with hq|hq
   ·exact(d.rows q hq).mono λb o A=>fO A
   ·rw[List.mem_singleton]at hq
    subst hq
    exact f.r.sg.mono λb o A=>gy A,by rw[c5,List.map_append,d.ll,d.eq];rfl,f.so,by rw[c5,List.flatten_append,pH,f.sq,d.sq,d.eq];simp⟩⟩ (by simp only;omega) kE.c.c.c.c.c.c.c.c.c.c.c.c ((aY [1,1,4,1,3,1,2,2,2,2,2,2]).trans (bf.eT (by simp[take,bF])))
 have k4:j=v.length:=by have:=bC h7;omega
 rw[k4,List.take_length]at d
 have b7:C[i]? =some ⟨a,B,U,v,a2,us,a0,ll,Q⟩:=by
  obtain⟨l,a5,_⟩:=d.gr
  rw[a5,List.getElem?_append_left f0,F]
 obtain⟨a9,j6⟩:=d.o.vA b7
 have m7:sn.length=kK (cY cp num sub a (I.map aJ.plain) v).2.flatten:=by rw[d.sq];rfl
 refine .exit<|bq<|bz<|br<|aw<|.seq<|.ry [1] [10,13] mixed ?_
 conv=>arg 3;simp only[take,rest,bF,List.getD_cons_zero,List.getD_cons_succ]
 conv=>arg 5;simp only[take,rest,bF,List.getD_cons_zero,List.getD_cons_succ]
 conv=>arg 9;simp only[take,rest,bF,List.getD_cons_zero,List.getD_cons_succ]
 refine .tO 0 rfl (.fieldAddr rfl)<|.tO 1 rfl (.cI rfl)<|.tO 2 rfl .move ?_
 refine .tK 3 rfl (.eE rfl) ?_
 refine .tK 4 rfl (.cI rfl)<|.tK 5 rfl .move<|.tO 6 rfl .move<|.tK 7 rfl .move ?_
 refine RA.bo 8 rfl i d.o b7 rfl rfl rfl (by kernel_rfl) (λr9=>?_)
 refine .tO 9 rfl (.fieldAddr rfl) ?_
 refine .sT 10 rfl ?_
 refine .nj (k:=5) (cs:=[vu]) (z':=(⟨a,B,U,v,vu,if B then gj cp sub a else [],a0,ll,Q⟩:aJ)) i d.o b7 rfl rfl rfl (lO i8.h) rfl (by simpa using i8.h) rfl (by simp) (λTd j5=>?_)
 have m5:(C.set i (⟨a,B,U,v,vu,if B then gj cp sub a else [],a0,ll,Q⟩:aJ))[i]? =some ⟨a,B,U,v,vu,if B then gj cp sub a else [],a0,ll,Q⟩:=by rw[List.getElem?_set_self (List.getElem?_eq_some_iff.1 b7).1]
 refine .nil (Next.mod rfl ?_)
 refine RA.bo 11 rfl i d.o b7 rfl rfl rfl (by kernel_rfl) (λs0=>?_)
 refine .tK 12 rfl (.eE rfl j6) ?_
 refine .sT 13 rfl ?_
 refine .nj (k:=6) (cs:=[vL]) (z':=(⟨a,B,U,v,vu,if B then gj cp sub a else [],vL,L,Q⟩:aJ)) i j5 m5 rfl rfl rfl (lO i7.h) rfl (by simpa using i7.h) rfl (by simp) (λTe e4=>?_)
 rw[List.set_set]at e4
 refine .nil (Next.mod rfl ?_)
 refine RA.nil (by kernel_rfl) ?_
 refine aw<|.region ?_
 conv=>arg 8;simp only[rest,bF,List.cons_append,List.nil_append]
 refine .fa rfl<|.lo rfl<|.mo rfl<|.q (.ej d.so) ?_
 refine .ia ((opened cp num sub k i).2+sn.length) .add ?_
 refine .fa rfl<|.dm rfl rfl<|.nil<|ba<|aw<|.region<|.mo rfl ?_
 refine .ia (i+1) .add ?_
 refine .ag rfl<|.nil ?_
 ·exact bi (i+1,C.set i ⟨a,B,U,v,vu,if B then gj cp sub a else [],vL,L,Q⟩,j0,Te,TL++(Tr++(Tu++Tp))) ⟨f1,by
   simp only
   rw[b1,List.map_set,d.eq, <-d.ll]
   rfl,e4,λz hz=>by
   rcases List.mem_or_eq_of_mem_set hz with hz|rfl
   ·obtain⟨l,a5,f5⟩:=d.gr
    rw[a5]at hz
    rcases List.mem_append.1 hz with hz|hz
    ·exact⟨(hP z hz).1.mono λb o A=>A.imp id λA=>List.mem_append_right _ (List.mem_append_right _ (List.mem_append_right _ A)),(hP z hz).2⟩
    ·exact⟨(f5 z hz).mono λb o A=>.inl A,(f5 z hz).n⟩
   ·exact⟨⟨hn.mono λb o A=>.inl A,K.sg.mono λb o A=>.inr (List.mem_append_right _ (List.mem_append_right _ (List.mem_append_left _ A))),d.le.sg.mono λb o A=>.inr (List.mem_append_left _ A),λy hy=>(d.rows y hy).mono λb o A=>.inr (List.mem_append_right _ (List.mem_append_left _ A))⟩,hn⟩⟩ (by simp only;omega) kE.c.c.c.c.c.c.c ((aY [1,0,0,0,1,2,2,2,2]).trans (bf.eT (by simp[take,bF,dh,b1,m7])))
 have k3:i=N:=gl.dG (c:=cp) (num:=num) (sub:=sub) (k:=k) ⟨by have:=bC h3;omega,b5⟩ hN
 subst k3
 refine .exit<|bq<|bz<|br<|aw<|.seq<|.sr<|.fa rfl<|.lo rfl<|.q (.ej hO) ?_
 refine .fa rfl<|.lo rfl ?_
 refine .ia (I.length+(opened cp num sub k i).2) .add ?_
 refine .mo rfl<|.q .gtr<|.zn ?_
 refine .cond rfl (λa4=>?_) λa4=>?_
 have g5:b<(((opened cp num sub k i).1.length+(opened cp num sub k i).2:Nat):Int):=by have:=cv a4;omega
 rw[if_neg (by omega)]at Z
 refine .sr ?_
 refine .q .cO ?_
 refine .bG rfl rfl<|.az rfl ?_
 refine .ret (aF (bj _ (.two (.ei rfl rfl) (.tmp rfl)) (bf.one [] _) ?_))
 ·exact(c1 _ _ _).2 ⟨_,[],_,rfl,by rw[Z];rfl,RS.fZ,λp F=>(by cases F),by rw[Z];rfl⟩
 have g5:(((opened cp num sub k i).1.length+(opened cp num sub k i).2:Nat):Int)<=b:=by have:=bC a4;omega
 rw[if_pos g5]at Z
 refine .kn<|.sr<|.q (.aI rfl)<|.bG rfl rfl<|.az rfl ?_
 refine .ret (bj _ (.two (.ei rfl rfl) (.tmp rfl)) (bf.one [1,1] _) ?_)
 ·exact(c1 _ _ _).2 ⟨vp,I,_,rfl,by rw[Z];rfl,hO.rs λp F=>.inr (by simp[take,bF,F]),λp F=>(hP p F).1.mono λb o A=>A.imp id λA=>by simp[take,bF,A],by rw[Z];exact b4⟩
def iD(S:cU)(L:List bk)(rev:Int)(k:aU):List Sub:=if scan S rev then(L.filter λy=>y.there rev&&decide (y.t.cE=k)).map (·.t.sub)else []
structure WS(R:aB)(cp:Cf)(c:bE)(hb g x:Nat)(S:cU)(num:List Nat)(L:List bk):Prop where
 ci:c.is R
 pl:c.plain=cp
 h:∃vl e,HV R hb vl [e] 0/\e.rev=0/\e.c.plain=cp/\e.ll.map (·.2)=rows cp.aR num
 s:∃ps vf vr Mf Mr,SV R g S ps vf vr Mf Mr
 d:∃vL,DV R x S vL L
 rl:RL S L
 NE:fv S
 len:S.rows.length<=512
 m:oA isWord cX cp num
 nm:(cp.numbers isWord cX).2=rows cp.aR num
 rL:cp.aR.length<=5/\∀y∈cp.aR,y.bI.length<=6
theorem WS.mono{R R':aB}{cp:Cf}{c:bE}{f g x:Nat}{S:cU}{num:List Nat}{L:List bk}(h:WS R cp c f g x S num L)(a:∀b o,R b o->R' b o):WS R' cp c f g x S num L:=by
 obtain⟨w,e,k,l,n,p⟩:=h.h
 obtain⟨t,v,y,i,j,q⟩:=h.s
 obtain⟨u,r⟩:=h.d
 exact⟨h.ci.mono a,h.pl,⟨w,e,k.mono a,l,n,p⟩,⟨t,v,y,i,j,q.mono a⟩,⟨u,r.mono a⟩,h.rl,h.NE,h.len,h.m,h.nm,h.rL⟩
theorem AI(c:Cf):(gC c).aR.length<=5/\∀y∈(gC c).aR,y.bI.length<=6:=by
 unfold gC
 refine⟨by simp only[List.length_map,List.length_take];omega,λy a=>?_⟩
 simp only at a
 obtain⟨s,_,rfl⟩:=List.mem_map.1 a
 unfold qx
 simp only[List.length_map,List.length_take]
 omega
section
variable{R:aB}{cp:Cf}{c:bE}{hb g x:Nat}{S:cU}{num:List Nat}{L:List bk}
theorem WS.ll(h:WS R cp c hb g x S num L):L.length<=512:=by rw[h.rl.pm.length_eq];exact h.len
theorem NP(S:cU)(L:List bk)(rev:Int):∃M:List (aU×Sub),M.length<=L.length/\(∀y∈M,∃r∈L,y=(r.t.cE,r.t.sub))/\eZ M=iD S L rev:=by
 refine⟨if scan S rev then(L.filter λy=>y.there rev).map λy=>(y.t.cE,y.t.sub)else [],?_,?_,?_⟩
 ·split
  ·rw[List.length_map];exact List.length_filter_le _ _
  ·simp
 ·intro y b
  split at b
  ·obtain⟨r,c,rfl⟩:=List.mem_map.1 b
   exact⟨r,(List.mem_filter.1 c).1,rfl⟩
  ·cases b
 ·funext k
  unfold eZ iD
  split
  ·rw[List.filter_map,List.map_map,List.filter_filter]
   have:(λa:bk=>((λx:aU×Sub=>decide (x.1=k))∘λy:bk=>(y.t.cE,y.t.sub)) a&&a.there rev)=λy:bk=>y.there rev&&decide (y.t.cE=k):=by
    funext y
    simp[Bool.and_comm]
   rw[this]
   rfl
  ·rfl
theorem NO{rev:Int}{k:aU}{s:Sub}(h:s∈iD S L rev k):∃r∈L,s=r.t.sub:=by
 unfold iD at h
 split at h
 ·obtain⟨r,a,rfl⟩:=List.mem_map.1 h
  exact⟨r,(List.mem_filter.1 a).1,rfl⟩
 ·cases h
theorem WS.oW(h:WS R cp c hb g x S num L)(rev:Int)(k:aU)(i:Nat)(a:∀j,j<i->j<(opened cp num (iD S L rev) k j).1.length):(opened cp num (iD S L rev) k i).1.length+(opened cp num (iD S L rev) k i).2<=1048576:=by
 obtain⟨M,b,_,d⟩:=NP S L rev
 rw[<-d]at a⊢
 obtain⟨E,e,_⟩:=h.m.ex
 exact N9 e h.m.right h.m.dG h.rL.2 (Nat.le_trans b (Nat.le_trans h.ll (by decide))) k i a
theorem WS.fin(h:WS R cp c hb g x S num L)(rev:Int)(k:aU):∃N,gl cp num (iD S L rev) k N:=by
 have d:∀k,∀s∈iD S L rev k,s∈L.map (·.t.sub):=λk s b=>by
  obtain⟨r,a,rfl⟩:=NO b
  exact List.mem_map.2 ⟨r,a,rfl⟩
 exact gl.ex λi=>Lt (LZ d) Ng i
theorem WS.ke(h:WS R cp c hb g x S num L)(rev:Int)(D:0<=rev)(k:aU)(b:Int)(w:b<=9223372036854775807){N:Nat}(r:gl cp num (iD S L rev) k N):
  Spec prog 34 [pT hb,pT g,.int .u64 rev,.agg [.string k.os,.string k.oi].toArray,.string k.rel,.int .i64 b] R [] (mx R (ke cp num (iD S L rev) k b (scan S rev) N)):=by
 obtain⟨J,e,u,y,z,f⟩:=h.h
 obtain⟨H,I,K,E,F,t⟩:=h.s
 have v:jk [e] rev=some e:=by
  unfold jk
  have:hl [e] rev 1=some 0:=by
   simp only[hl,List.getElem?_cons_zero,y]
   simp[D]
  rw[show([e]:List dT).length=1 from rfl,this]
  rfl
 have A:=h.oW rev k
 subst z
 exact vY u t h.rl (Nat.le_trans h.len (by decide)) rev e v num h.m f (by simp) (λa j=>by
  rw[List.mem_singleton]at j
  subst j
  have G:a.ll.length=a.c.plain.aR.length:=by rw[<-lC a.c.plain.aR num, <-f,List.length_map]
  refine⟨by have:=h.rL.1;omega,λq B=>?_⟩
  have C:q.2∈rows a.c.plain.aR num:=by rw[<-f];exact List.mem_map.2 ⟨q,B,rfl⟩
  obtain⟨i,d,o⟩:=List.mem_iff_getElem.1 C
  rw[lC]at d
  have l:=mZ (n:=num) (bB d)
  rw[bB (by rw[lC];exact d),o]at l
  have p:=Option.some.inj l
  rw[p,List.length_take]
  have:=h.rL.2 _ (List.getElem_mem d)
  omega) k b w (iD S L rev) rfl A N r
theorem WS.LW(h:WS R cp c hb g x S num L)(rev:Int)(k:aU)(b:Int){N:Nat}(e:gl cp num (iD S L rev) k N):
  Spec prog 35 [.agg c.enc.toArray,pT x,.int .u64 rev,.agg [.string k.os,.string k.oi].toArray,.string k.rel,.int .i64 b] R [] (mx R (Go.Proofs.YtdljmchhecoakaaGreat.ke cp num (iD S L rev) k b (scan S rev) N)):=by
 obtain⟨n,a⟩:=h.d
 have i:=h.oW rev k
 have j:=h.m
 have l:=h.nm
 have f:=h.pl
 subst f
 exact LX c R h.ci num j l a h.ll rev k b (iD S L rev) rfl i N e
end
theorem KP(w:kA)(R:aB)(h:w.is R):Spec prog 14 [.agg w.enc.toArray] R [] λu H'=>∃T,H'=[T]/\∃(c:bE) (p1 p2 p3:Value) (ok:Bool),u=.tuple [p1,p2,.agg c.enc.toArray,p3,.bool ok].toArray/\One p1/\One p2/\One p3/\c.is (λb o=>R b o\/(b,o)∈T)/\c.plain=gC w.c.plain/\ok=decide (((gC w.c.plain).numbers isWord cX).1=0)/\
  (ok=true->∃hb g x S num L,p1=pT hb/\p2=pT g/\p3=pT x/\WS (λb o=>R b o\/(b,o)∈T) (gC w.c.plain) c hb g x S num L):=by
 refine Spec.flat ((KQ w R h).mono λu H' hu=>?_)
 rcases hu with hu|⟨T,c,x,rfl,rfl,k,a,l⟩
 ·obtain⟨d,f,i,j,hb,g,x,e,S,c,rfl,rfl,k,a,l,E,n,y,A,B,t,F⟩:=hu
  obtain⟨num,q,G⟩:=yn l
  refine⟨_,d++(f++(i++j)),rfl,by simp,_,rfl,c,_,_,_,true,rfl,⟨rfl⟩,⟨rfl⟩,⟨rfl⟩,k.mono λb o hb=>hb.imp id λhb=>List.mem_append_left _ hb,a,by rw[l];rfl,λ_=>?_⟩
  obtain⟨K,m⟩:=y.view (R:=λb o=>R b o\/(b,o)∈d++(f++(i++j))) λp a=>.inr (List.mem_append_right _ (List.mem_append_left _ a))
  obtain⟨H,J,M,r,s,C⟩:=A.view (R:=λb o=>R b o\/(b,o)∈d++(f++(i++j))) λp a=>.inr (List.mem_append_right _ (List.mem_append_right _ (List.mem_append_left _ a)))
  obtain⟨I,L,v,z⟩:=t.view (R:=λb o=>R b o\/(b,o)∈d++(f++(i++j))) λp a=>.inr (List.mem_append_right _ (List.mem_append_right _ (List.mem_append_right _ a)))
  have D:=m.all e (by simp)
  exact⟨hb,g,x,S,num,L,rfl,rfl,rfl,k.mono λb o hb=>hb.imp id λhb=>List.mem_append_left _ hb,a,⟨K,e,m,E,n,by rw[D.eq,n,q]⟩,⟨H,J,M,r,s,C⟩,⟨I,v⟩,z,B,F,G,q,AI _⟩
 ·exact⟨_,T,rfl,by simp,_,rfl,c,_,_,_,false,rfl,⟨rfl⟩,⟨rfl⟩,⟨rfl⟩,k,a,(decide_eq_false l).symm,λh=>(by cases h)⟩
theorem sG{P:Program}{f:FuncId}{c:List Value}{R a:aB}{H:aN}{out:List cG×Nat×Int}(h:Spec P f c a H (mx R out)):Spec P f c a H λu H'=>∃T,H'=[T]/\∃vp ps,u=.tuple [.agg [vp,iN out.2.1].toArray,.int .i64 out.2.2].toArray/\RS (λb o=>R b o\/(b,o)∈T) 8 aJ.enc vp ps/\(∀p∈ps,aJ.is (λb o=>R b o\/(b,o)∈T) p)/\ps.map aJ.plain=out.1:=h.mono λu H' g=>by
 obtain⟨vp,ps,T,d,e⟩:=g
 exact⟨T,d,vp,ps,e⟩
theorem Od{H:Type}{enc:TypeId×Value->H}{W:World}{f:Nat}{cs:List Value}{x:DataW H×List MemPlace}(h:DataW.trod enc prog W 0 (λ_=>true) true f 249 cs=some x):∃t:Ty,cs=t.enc/\t.fits:=by
 obtain⟨c,d⟩:=jt Tryz.underlying249 h
 have j:Tryz.prog.cellsOf 249=2:=by kernel_rfl
 rw[j]at c
 have e:Tryz.prog.cellsOf 9=1:=by kernel_rfl
 match cs,c with
 |[a0,a1],_=>
  obtain⟨p,r,a⟩:∃n y,DataW.trod enc prog W 0 (λ_=>true) true n 9 (([a0,a1].drop 0).take (Tryz.prog.cellsOf 9))=some y:=d 0 _ rfl
  obtain⟨q,s,b⟩:∃n y,DataW.trod enc prog W 0 (λ_=>true) true n 9 (([a0,a1].drop 1).take (Tryz.prog.cellsOf 9))=some y:=d 1 _ rfl
  simp only[e,List.drop_zero,List.drop_succ_cons,List.take_succ_cons,List.take_zero]at a b
  obtain⟨m,g,k⟩:=jy a
  obtain⟨o,i,l⟩:=jy b
  cases g;cases i
  exact⟨⟨m,o⟩,rfl,k,l⟩
theorem K0{H:Type}{enc:TypeId×Value->H}{W:World}{f:Nat}{cs:List Value}{x:DataW H×List MemPlace}(h:DataW.trod enc prog W 0 (λ_=>true) true f 199 cs=some x):∃t:Nd,cs=t.enc/\t.fits:=by
 obtain⟨i,a⟩:=jt Tryz.underlying199 h
 have s:Tryz.prog.cellsOf 199=5:=by kernel_rfl
 rw[s]at i
 have j:Tryz.prog.cellsOf 3=1:=by kernel_rfl
 have l:Tryz.prog.cellsOf 9=1:=by kernel_rfl
 match cs,i with
 |[a0,a1,a2,a3,a4],_=>
  obtain⟨D,J,b⟩:∃n y,DataW.trod enc prog W 0 (λ_=>true) true n 3 (([a0,a1,a2,a3,a4].drop 0).take (Tryz.prog.cellsOf 3))=some y:=a 0 _ rfl
  obtain⟨E,K,c⟩:∃n y,DataW.trod enc prog W 0 (λ_=>true) true n 9 (([a0,a1,a2,a3,a4].drop 1).take (Tryz.prog.cellsOf 9))=some y:=a 1 _ rfl
  obtain⟨F,L,d⟩:∃n y,DataW.trod enc prog W 0 (λ_=>true) true n 9 (([a0,a1,a2,a3,a4].drop 2).take (Tryz.prog.cellsOf 9))=some y:=a 2 _ rfl
  obtain⟨G,M,e⟩:∃n y,DataW.trod enc prog W 0 (λ_=>true) true n 3 (([a0,a1,a2,a3,a4].drop 3).take (Tryz.prog.cellsOf 3))=some y:=a 3 _ rfl
  obtain⟨I,N,g⟩:∃n y,DataW.trod enc prog W 0 (λ_=>true) true n 3 (([a0,a1,a2,a3,a4].drop 4).take (Tryz.prog.cellsOf 3))=some y:=a 4 _ rfl
  simp only[j,l,List.drop_zero,List.drop_succ_cons,List.take_succ_cons,List.take_zero]at b c d e g
  obtain⟨A,m⟩:=qF (k:=.i64) b
  obtain⟨w,o,u⟩:=jy c
  obtain⟨z,p,v⟩:=jy d
  obtain⟨B,q⟩:=qF (k:=.i64) e
  obtain⟨C,r⟩:=qF (k:=.i64) g
  cases m;cases o;cases p;cases q;cases r
  exact⟨⟨A,w,z,B,C⟩,rfl,u,v⟩
theorem M7{H:Type}{enc:TypeId×Value->H}{W:World}{f:Nat}{cs:List Value}{x:DataW H×List MemPlace}(h:DataW.trod enc prog W 0 (λ_=>true) true f 169 cs=some x):∃t:Sc,cs=t.enc/\t.fits:=by
 obtain⟨e,a⟩:=jt Tryz.underlying169 h
 have m:Tryz.prog.cellsOf 169=4:=by kernel_rfl
 rw[m]at e
 have i:Tryz.prog.cellsOf 9=1:=by kernel_rfl
 have g:Tryz.prog.cellsOf 44=2:=by kernel_rfl
 match cs,e with
 |[a0,a1,a2,a3],_=>
  obtain⟨z,C,b⟩:∃n y,DataW.trod enc prog W 0 (λ_=>true) true n 9 (([a0,a1,a2,a3].drop 0).take (Tryz.prog.cellsOf 9))=some y:=a 0 _ rfl
  obtain⟨A,D,c⟩:∃n y,DataW.trod enc prog W 0 (λ_=>true) true n 44 (([a0,a1,a2,a3].drop 1).take (Tryz.prog.cellsOf 44))=some y:=a 1 _ rfl
  obtain⟨B,E,d⟩:∃n y,DataW.trod enc prog W 0 (λ_=>true) true n 9 (([a0,a1,a2,a3].drop 3).take (Tryz.prog.cellsOf 9))=some y:=a 2 _ rfl
  simp only[i,g,List.drop_zero,List.drop_succ_cons,List.take_succ_cons,List.take_zero]at b c d
  obtain⟨s,j,o⟩:=jy b
  obtain⟨u,v,k,p,q⟩:=pz c
  obtain⟨w,l,r⟩:=jy d
  cases j;cases k;cases l
  exact⟨⟨s,u,v,w⟩,rfl,o,p,q,r⟩
theorem Of{H:Type}{enc:TypeId×Value->H}{W:World}{f:Nat}{cs:List Value}{x:DataW H×List MemPlace}(h:DataW.trod enc prog W 0 (λ_=>true) true f 165 cs=some x):∃v l,cs=[v]/\RS (Rw W) 2 Ty.enc v l/\∀t∈l,t.fits:=
 RS.lX (D:=λt:Ty=>t.fits) (sz:=2) (en:=Ty.enc) Tryz.underlying165 (by kernel_rfl) (by omega) h λn cs x b=>by
  obtain⟨t,rfl,a⟩:=Od b
  exact⟨rfl,(Ty.one t).h,t,rfl,a⟩
theorem K2{H:Type}{enc:TypeId×Value->H}{W:World}{f:Nat}{cs:List Value}{x:DataW H×List MemPlace}(h:DataW.trod enc prog W 0 (λ_=>true) true f 90 cs=some x):∃v l,cs=[v]/\RS (Rw W) 5 Nd.enc v l/\∀t∈l,t.fits:=
 RS.lX (D:=λt:Nd=>t.fits) (sz:=5) (en:=Nd.enc) Tryz.underlying90 (by kernel_rfl) (by omega) h λn cs x b=>by
  obtain⟨t,rfl,a⟩:=K0 b
  exact⟨rfl,(Nd.one t).h,t,rfl,a⟩
theorem Nc{H:Type}{enc:TypeId×Value->H}{W:World}{f:Nat}{cs:List Value}{x:DataW H×List MemPlace}(h:DataW.trod enc prog W 0 (λ_=>true) true f 23 cs=some x):∃v l,cs=[v]/\RS (Rw W) 4 Sc.enc v l/\∀t∈l,t.fits:=
 RS.lX (D:=λt:Sc=>t.fits) (sz:=4) (en:=Sc.enc) Tryz.underlying23 (by kernel_rfl) (by omega) h λn cs x b=>by
  obtain⟨t,rfl,a⟩:=M7 b
  exact⟨rfl,(Sc.one t).h,t,rfl,a⟩
theorem Mn{H:Type}{enc:TypeId×Value->H}{W:World}{f:Nat}{cs:List Value}{x:DataW H×List MemPlace}(h:DataW.trod enc prog W 0 (λ_=>true) true f 167 cs=some x):∃t:bQ,cs=t.enc/\t.is (Rw W):=by
 obtain⟨e,a⟩:=jt Tryz.underlying167 h
 have q:Tryz.prog.cellsOf 167=3:=by kernel_rfl
 rw[q]at e
 have i:Tryz.prog.cellsOf 9=1:=by kernel_rfl
 have j:Tryz.prog.cellsOf 90=1:=by kernel_rfl
 have g:Tryz.prog.cellsOf 165=1:=by kernel_rfl
 match cs,e with
 |[a0,a1,a2],_=>
  obtain⟨A,F,b⟩:∃n y,DataW.trod enc prog W 0 (λ_=>true) true n 9 (([a0,a1,a2].drop 0).take (Tryz.prog.cellsOf 9))=some y:=a 0 _ rfl
  obtain⟨B,G,c⟩:∃n y,DataW.trod enc prog W 0 (λ_=>true) true n 165 (([a0,a1,a2].drop 1).take (Tryz.prog.cellsOf 165))=some y:=a 1 _ rfl
  obtain⟨C,I,d⟩:∃n y,DataW.trod enc prog W 0 (λ_=>true) true n 90 (([a0,a1,a2].drop 2).take (Tryz.prog.cellsOf 90))=some y:=a 2 _ rfl
  simp only[i,j,g,List.drop_zero,List.drop_succ_cons,List.take_succ_cons,List.take_zero]at b c d
  obtain⟨z,k,r⟩:=jy b
  obtain⟨D,s,l,v,o⟩:=Of c
  obtain⟨E,u,m,w,p⟩:=K2 d
  cases k;cases l;cases m
  exact⟨⟨_,_,⟨z,s,u⟩⟩,rfl,r,v,w,o,p⟩
theorem Mp{H:Type}{enc:TypeId×Value->H}{W:World}{f:Nat}{cs:List Value}{x:DataW H×List MemPlace}(h:DataW.trod enc prog W 0 (λ_=>true) true f 162 cs=some x):∃v l,cs=[v]/\RS (Rw W) 3 bQ.enc v l/\∀t∈l,t.is (Rw W):=
 RS.lX (D:=λt:bQ=>t.is (Rw W)) (sz:=3) (en:=bQ.enc) Tryz.underlying162 (by kernel_rfl) (by omega) h λn cs x b=>by
  obtain⟨t,rfl,a⟩:=Mn b
  exact⟨rfl,a.cH,t,rfl,a⟩
theorem NG{H:Type}{enc:TypeId×Value->H}{W:World}{f:Nat}{cs:List Value}{x:DataW H×List MemPlace}(h:DataW.trod enc prog W 0 (λ_=>true) true f 164 cs=some x):∃t:bT,cs=t.enc/\t.is (Rw W):=by
 obtain⟨c,d⟩:=jt Tryz.underlying164 h
 have l:Tryz.prog.cellsOf 164=2:=by kernel_rfl
 rw[l]at c
 have g:Tryz.prog.cellsOf 9=1:=by kernel_rfl
 have e:Tryz.prog.cellsOf 162=1:=by kernel_rfl
 match cs,c with
 |[a0,a1],_=>
  obtain⟨r,v,a⟩:∃n y,DataW.trod enc prog W 0 (λ_=>true) true n 9 (([a0,a1].drop 0).take (Tryz.prog.cellsOf 9))=some y:=d 0 _ rfl
  obtain⟨s,w,b⟩:∃n y,DataW.trod enc prog W 0 (λ_=>true) true n 162 (([a0,a1].drop 1).take (Tryz.prog.cellsOf 162))=some y:=d 1 _ rfl
  simp only[g,e,List.drop_zero,List.drop_succ_cons,List.take_succ_cons,List.take_zero]at a b
  obtain⟨q,i,m⟩:=jy a
  obtain⟨u,o,j,p,k⟩:=Mp b
  cases i;cases j
  exact⟨⟨q,_,o⟩,rfl,m,p,k⟩
theorem NI{H:Type}{enc:TypeId×Value->H}{W:World}{f:Nat}{cs:List Value}{x:DataW H×List MemPlace}(h:DataW.trod enc prog W 0 (λ_=>true) true f 22 cs=some x):∃v l,cs=[v]/\RS (Rw W) 2 bT.enc v l/\∀t∈l,t.is (Rw W):=
 RS.lX (D:=λt:bT=>t.is (Rw W)) (sz:=2) (en:=bT.enc) Tryz.underlying22 (by kernel_rfl) (by omega) h λn cs x b=>by
  obtain⟨t,rfl,a⟩:=NG b
  exact⟨rfl,a.cH,t,rfl,a⟩
theorem AJ{H:Type}{enc:TypeId×Value->H}{W:World}{f:Nat}{cs:List Value}{x:DataW H×List MemPlace}(h:DataW.trod enc prog W 0 (λ_=>true) true f 25 cs=some x):∃c:bE,cs=c.enc/\c.is (Rw W):=by
 obtain⟨d,e⟩:=jt Tryz.underlying25 h
 have o:Tryz.prog.cellsOf 25=2:=by kernel_rfl
 rw[o]at d
 have g:Tryz.prog.cellsOf 22=1:=by kernel_rfl
 have i:Tryz.prog.cellsOf 23=1:=by kernel_rfl
 match cs,d with
 |[a0,a1],_=>
  obtain⟨t,z,a⟩:∃n y,DataW.trod enc prog W 0 (λ_=>true) true n 22 (([a0,a1].drop 0).take (Tryz.prog.cellsOf 22))=some y:=e 0 _ rfl
  obtain⟨u,A,b⟩:∃n y,DataW.trod enc prog W 0 (λ_=>true) true n 23 (([a0,a1].drop 1).take (Tryz.prog.cellsOf 23))=some y:=e 1 _ rfl
  simp only[g,i,List.drop_zero,List.drop_succ_cons,List.take_succ_cons,List.take_zero]at a b
  obtain⟨v,p,j,r,l⟩:=NI a
  obtain⟨w,q,k,s,m⟩:=Nc b
  cases j;cases k
  exact⟨⟨_,_,p,q⟩,rfl,r,s,l,m⟩
theorem Oo{H:Type}{enc:TypeId×Value->H}{W:World}{f:Nat}{cs:List Value}{x:DataW H×List MemPlace}(h:DataW.trod enc prog W 0 (λ_=>true) true f 28 cs=some x):∃w:kA,cs=w.enc/\w.is (Rw W):=by
 obtain⟨e,g⟩:=jt Tryz.underlying28 h
 have a:Tryz.prog.cellsOf 28=3:=by kernel_rfl
 rw[a]at e
 have i:Tryz.prog.cellsOf 25=2:=by kernel_rfl
 have j:Tryz.prog.cellsOf 26=1:=by kernel_rfl
 match cs,e with
 |[a0,a1,a2],_=>
  obtain⟨q,t,b⟩:∃n y,DataW.trod enc prog W 0 (λ_=>true) true n 25 (([a0,a1,a2].drop 0).take (Tryz.prog.cellsOf 25))=some y:=g 0 _ rfl
  obtain⟨r,u,d⟩:∃n y,DataW.trod enc prog W 0 (λ_=>true) true n 26 (([a0,a1,a2].drop 2).take (Tryz.prog.cellsOf 26))=some y:=g 1 _ rfl
  simp only[i,j,List.drop_zero,List.drop_succ_cons,List.take_succ_cons,List.take_zero]at b d
  obtain⟨c,k,a⟩:=AJ b
  obtain⟨s,o,l,p,m⟩:=M9 d
  cases k;cases l
  exact⟨⟨c,_,o⟩,rfl,a,p,m⟩
end Go.Proofs.YtdljmchhecoakaaGreat

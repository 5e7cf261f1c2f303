/- What the law 'LookupFinds' uses. No condition. -/
import Derived.Test.YtdljmchhecoakaaGreatKLookupFindsB
import Derived.Test.YtdljmchhecoakaaGreatKLookupFindsF
import Derived.Test.YtdljmchhecoakaaGreatKLookupFindsH
import Derived.Test.YtdljmchhecoakaaGreatKLookupFindsI
import Derived.Test.YtdljmchhecoakaaGreatKLookupFindsL
import Derived.Test.YtdljmchhecoakaaGreatKLookupFindsM
import Derived.Test.YtdljmchhecoakaaGreatKLookupFindsP
import Derived.Test.YtdljmchhecoakaaGreatKLookupFindsQ
import Derived.Test.YtdljmchhecoakaaGreatKLookupFindsR
namespace Go.Proofs.YtdljmchhecoakaaGreat
set_option linter.defProp false
def agn:=@if_neg
def ago:=@if_pos
def agp:=@List.length_map
def agq:=@List.getElem?_map
def agr:=@Nat.le_trans
def ags:=@List.mem_append_right
def agt:=@Nat.zero_le
def agu:=@trivial
def agv:=@List.length_filter_le
def agw:=@List.getD_eq_getElem?_getD
def agx:=@List.length_singleton
def agy:=@List.mem_map
def agz:=@List.nil_append
def agA:=@congrArg
def agB:=@List.mem_append_left
def agC:=@List.getElem?_eq_some_iff
def agD:=@List.append_nil
def agE:=@List.cons_append
def agF:=@List.length_take
def agG:=@List.mem_append
def agH:=@List.getD_cons_zero
def agI:=@List.getD_cons_succ
def agJ:=@List.map_append
def agK:=@List.filter_append
def agL:=@List.drop_zero
def agM:=@List.drop_succ_cons
def agN:=@List.take_succ_cons
def agO:=@List.take_zero
def agP:=@List.mem_cons
def agQ:=@List.take_length
def agR:=@List.append_assoc
def agS:=@List.mem_singleton
def agT:=@Nat.lt_or_ge
def agU:=@List.map_map
def agV:=@List.length_set
def agW:=@Option.map_some
def agX:=@List.mem_iff_getElem
def agY:=@List.not_mem_nil
def agZ:=@List.mem_flatten
def ag0:=@List.map_set
def ag1:=@List.length_append
def ag2:=@List.flatten_append
def ag3:=@List.getElem?_append_left
def ag4:=@Option.getD_some
def ag5:=@List.flatten_cons
def ag6:=@List.flatten_nil
def ag7:=@List.perm_append_comm
def ag8:=@List.any_eq_true
def ag9:=@List.flatMap_append
def aha:=@List.map_congr_left
def ahb:=@Bool.false_eq_true
def ahc:=@List.eq_nil_of_length_eq_zero
open Tryz
set_option linter.unusedVariables false
set_option linter.unusedSimpArgs false
set_option maxRecDepth 4000
instance UK:fC prog 3 (λs:Int=>.int .i64 s):=fC.int vj zi
abbrev kI(n:Int):Value:=.int .i64 n
structure Dc(x:XC)(R:ay)(ps:List aH)(va:Value)(k:bf)(ns:List Nd)(mp:Value)(ps1:List aH)(vp:Value)(Ta To:aw)(vL:Value)(L:List fD)(TL Tr:aw)(M:List (Int×Bool))(Tm:aw):Prop where
 eq:ps1.map aH.plain=(dj x.c.plain x.num x.sub k (ps.map aH.plain) ns).1
 at_:jd ps1 va Ta
 o:OS 95 8 aH.enc vp ps1 To
 gr:∃l,ps1=ps++l/\∀p∈l,p.is R
 le:OS 182 1 eg vL L TL
 rows:∀q∈L,RS (sg Tr) 1 da q.1 q.2
 ll:L.map (·.2)=(dj x.c.plain x.num x.sub k (ps.map aH.plain) ns).2
 ms:MS kI Value.bool mp M Tm
 AS:M.map (·.1)=(jJ [] (dj x.c.plain x.num x.sub k (ps.map aH.plain) ns).2.flatten).map λn:Nat=>(n:Int)
theorem PX{β:Type}{M:List (Int×β)}{l:List Nat}(h:M.map (·.1)=l.map λn:Nat=>(n:Int))(y:β)(j:Nat):(dO (j:Int) y M).map (·.1)=(if j∈l then l else l++[j]).map λn:Nat=>(n:Int):=by
 by_cases c:j∈l
 ·rw[ago c, <-h]
  have b:(j:Int)∈M.map (·.1):=by rw[h];exact agy.2 ⟨j,c,rfl⟩
  clear h
  induction M with
  |nil=>simp at b
  |cons a M ih=>
   obtain⟨g,i⟩:=a
   rw[dO]
   split
   ·rename_i e;simp[e]
   ·rename_i e
    simp only[List.map_cons,agP]at b⊢
    rw[ih (b.resolve_left e)]
 ·rw[agn c,mP (λb=>by
   rw[h]at b
   obtain⟨n,f,e⟩:=agy.1 b
   have d:n=j:=by omega
   exact c (d▸f)),agJ,agJ,h]
  rfl
theorem Ce{α:Type}{l:List α}{i:Nat}{x:α}(h:l[i]? =some x):l.set i x=l:=by
 obtain⟨a,e⟩:=agC.1 h
 rw[<-e]
 exact List.set_getElem_self a
theorem OS.ym{α:Type}{E sz:Nat}{enc:α->List Value}{v:Value}{xs:List α}{T:aw}{i:Nat}{z:α}(h:OS E sz enc v xs T)(d:xs[i]? =some z):∃a,ez v (i*sz)=.pointer (some a):=by
 rcases h.h with⟨_,rfl,_⟩|⟨b,f,c,e,rfl,_⟩
 ·simp at d
 ·exact⟨_,rfl⟩
theorem QM{a b:List bO}(h:a.map (·.k)=b.map (·.k))(k:bf):fi a k=fi b k:=by
 have c:∀l:List bO,fi l k=(l.map (·.k)).findIdx? λy=>decide (y=k):=λl=>by
  unfold fi
  rw[List.findIdx?_map]
  rfl
 rw[c,c,h]
theorem Sv{ps:List aH}{i:Nat}{p q:aH}(a:ps[i]? =some p)(b:q.k=p.k):((ps.set i q).map aH.plain).map (·.k)=(ps.map aH.plain).map (·.k):=by
 rw[agU,agU]
 refine List.ext_getElem? λj=>?_
 rw[agq,agq,List.getElem?_set]
 split
 ·rename_i e
  subst e
  rw[ago (agC.1 a).1,a]
  show some q.k=some p.k
  rw[b]
 ·rfl
theorem jd.set{ps:List aH}{i:Nat}{p q:aH}{va:Value}{T:aw}(h:jd ps va T)(d:ps[i]? =some p)(c:q.k=p.k):jd (ps.set i q) va T:=by
 obtain⟨M,b,a⟩:=h
 exact⟨M,b,λk=>by rw[a];exact QM (Sv d c).symm k⟩
def uF(x:XC)(Rc:ay)(xb:Nat)(ps:List aH)(e:Nat)(va:Value)(i:Nat)(p:aH)(H':aV):Prop:=∃vp Ta To TL Tr Tu l q,
 H'=[x.iV xb va vp (e+(eL x.c.plain x.num x.sub (ps.map aH.plain) i).2),Ta,To,TL,Tr,Tu]/\(∀p∈l,aH.is Rc p)/\((ps++l).set i q).map aH.plain=(eL x.c.plain x.num x.sub (ps.map aH.plain) i).1/\jd ((ps++l).set i q) va Ta/\OS 95 8 aH.enc vp ((ps++l).set i q) To/\
 (q=p\/q.vn=p.vn/\q.nodes=p.nodes/\RS (sg Tu) 1 cr q.vu q.fG/\RS (sg TL) 1 eg q.vl q.ll/\∀y∈q.ll,RS (sg Tr) 1 da y.1 y.2)
theorem QA(x:XC)(A R:ay)(b5:∀b o,A b o->R b o)(h:x.ok A)(xb:Nat)(ps:List aH)(e:Nat)(va w:Value)(B C:aw)(hA:jd ps va B)(V:OS 95 8 aH.enc w ps C)(i:Nat)(p:aH)(v:ps[i]? =some p)(hn:RS R 5 Nd.enc p.vn p.nodes)(a3:p.plain=one x.c.plain x.num p.k)(e9:p.nodes.length<=1000000)
  (hl:(eL x.c.plain x.num x.sub (ps.map aH.plain) i).1.length<=3000000)(he:e<=1000000000000):
  Spec prog 85 [pT xb,iN i] R [x.iV xb va w e,B,C] λ_ H'=>uF x A xb ps e va i p H':=by
 have f3:=CE x
 have e6:=Ps x A h xb
 obtain⟨M0,d6,_⟩:=id hA
 have g4:=d6.one
 have g5:=V.aE
 have f1:=ba v
 have f7:cB p.enc:=⟨V.one p f1⟩
 have a5:(ps.map aH.plain)[i]? =some p.plain:=by rw[agq,v];rfl
 have e0:=(agC.1 v).1
 have b6:∀H',uF x A xb ps e va i p H'↔∃w B C U H I l q,
  H'=[x.iV xb va w (e+(eL x.c.plain x.num x.sub (ps.map aH.plain) i).2),B,C,U,H,I]/\(∀p∈l,aH.is A p)/\((ps++l).set i q).map aH.plain=(eL x.c.plain x.num x.sub (ps.map aH.plain) i).1/\jd ((ps++l).set i q) va B/\OS 95 8 aH.enc w ((ps++l).set i q) C/\
  (q=p\/q.vn=p.vn/\q.nodes=p.nodes/\RS (sg I) 1 cr q.vu q.fG/\RS (sg U) 1 eg q.vl q.ll/\∀y∈q.ll,RS (sg H) 1 da y.1 y.2):=λ_=>Iff.rfl
 have W:=Bh (c:=x.c.plain) (num:=x.num) (sub:=x.sub) a5
 have a4:=Qz (c:=x.c.plain) (num:=x.num) (sub:=x.sub) a5 a3
 have e5:=hn.le
 obtain⟨k,f,vn,d,S,Q,t,s,g⟩:=p
 have f0:aH.plain ⟨k,f,vn,d,S,Q,t,s,g⟩=⟨k,f,d,g,Q,s.map (·.2)⟩:=rfl
 rw[f0]at W a4 a5 a3
 simp only at W a4 hn a3 e5 e9
 have e3:=λj=>xY (c:=x.c.plain) (num:=x.num) (sub:=x.sub) k d j (ps.map aH.plain)
 have e7:=uJ (c:=x.c.plain) (num:=x.num) (sub:=x.sub) k d (ps.map aH.plain)
 have f5:=λ(j:Nat) (n:Nd) (hj:d[j]? =some n)=>x1 (c:=x.c.plain) (num:=x.num) (sub:=x.sub) hj k (ps.map aH.plain)
 have b9:(dj x.c.plain x.num x.sub k (ps.map aH.plain) d).1.length<=3000000:=by
  rw[W]at hl
  rwa [agV]at hl
 refine Spec.body func85 rfl results85 ntmps85 rfl<|.sr<|.mo rfl<|.nc rfl<|.fa rfl<|.fa rfl<|.lo rfl<|.mo rfl ?_
 refine .aK i V v (λg6=>?_)
 refine .q (.aM rfl) ?_
 refine .bX (λb4=>?_)
 refine .bN rfl rfl<|.zs<|.sr<|.fa rfl<|.lo rfl<|.q .not<|.zn<|.cond rfl (λh1=>?_) λh1=>?_
 have hf:f=false:=by simpa using h1
 have c3:=a4 hf
 refine .ret (aJ (aY _ .none (bk.A2.trans (aN [4,4,4,0,0,0])) ?_))
 ·refine(b6 _).2 ⟨w,B,C,[],[],[],[],⟨k,f,vn,d,S,Q,t,s,g⟩,?_,λq hq=>(by cases hq),?_,?_,?_,.inl rfl⟩
  ·rw[c3];simp[take,bJ]
  ·rw[c3,agD]
   rw[Ce v]
  ·rw[agD];exact hA.set v rfl
  ·rw[agD]
   rw[Ce v];exact V
 have hf:f=true:=by simpa using h1
 refine .kn<|.sr<|.mo rfl<|.fa rfl<|.q (.loadT rfl)<|.fa rfl<|.lo rfl<|.call [] (f3 _ (h.mono λb o D=>.inl (b5 b o D)) xb va w e (pc:=PC.of (E:=190) (fr:=(0,0)) (.inr (by simp[rest]))) k) (λu H' O=>?_)
 obtain⟨I,Ts,rfl,T,ws,rfl,b3,g2⟩:=O
 have c5:=b3.aE
 conv=>arg 8;simp only[rest,bJ,agE,agz]
 refine .mo rfl<|.q .extract<|.q .extract<|.ag rfl<|.ag rfl<|.z<|.ag rfl<|.z ?_
 refine .makeMap (λa1=>?_)
 refine .ag rfl<|.zs<|.sr<|.fa rfl<|.lo rfl<|.q (.bI hn)<|.mo rfl<|.zn<|.block<|.cy [(0,_),(1,_),(4,_),(5,_),(8,_),(36,_),(37,_)] (X:=Nat×List aH×Value×aw×aw×Value×List fD×aw×aw×List (Int×Bool)×aw) (λy=>y.1<=d.length/\Dc x A ps va k (d.take y.1) (.map (some a1)) y.2.1 y.2.2.1 y.2.2.2.1 y.2.2.2.2.1 y.2.2.2.2.2.1 y.2.2.2.2.2.2.1 y.2.2.2.2.2.2.2.1 y.2.2.2.2.2.2.2.2.1 y.2.2.2.2.2.2.2.2.2.1 y.2.2.2.2.2.2.2.2.2.2) (λy E=>(38,iN y.1)::(7,y.2.2.2.2.2.1)::E) (G:=[I,bl b4 (aH.enc ⟨k,f,vn,d,S,Q,t,s,g⟩) 95]) (λy G=>x.iV xb va y.2.2.1 e::y.2.2.2.1::y.2.2.2.2.1::y.2.2.2.2.2.2.2.1::y.2.2.2.2.2.2.2.2.1::y.2.2.2.2.2.2.2.2.2.2::G) (λy=>d.length-y.1) (0,ps,w,B,C,sZ,[],[],[],[],[(a1,.map #[] 0)]) ⟨agt _,⟨rfl,hA,V,⟨[],by simp,λq hq=>(by cases hq)⟩,OS.nil,λq hq=>(by cases hq),rfl,MS.nil,rfl⟩⟩ kE.c.c.c.c.c.c.c.c.c (bk.iZ.trans (aN [6,6,6,0,0,0,0,1])) ?_
 rintro⟨j,Y,c7,a7,d0,vL,L,U,H,M,Tm⟩ ⟨hj,a⟩
 simp only at hj a⊢
 have c6:=a.le.aE
 have g0:L.length<=j:=by
  have h9:=agA List.length a.ll
  have h8:=(sF (c:=x.c.plain) (num:=x.num) (sub:=x.sub) k (d.take j) (ps.map aH.plain)).1
  rw[agp]at h9
  rw[agF]at h8
  omega
 refine .sr<|.q .lss<|.zs<|.cond rfl (λh2=>?_) λh2=>?_
 have b7:j<d.length:=cg h2
 obtain⟨n,c2⟩:=bQ b7
 have a0:=f5 j n c2
 have c0:=e3 (j+1)
 have e4:(dq x.c.plain x.num (Y.map aH.plain) (ee x.c.plain x.sub k n)).1.length<=3000000:=by
  rw[a.eq]
  rw[a0]at c0
  exact agr c0 b9
 refine .kn<|.seq<|.block<|.sr ?_
 refine .bC j hn c2 (λg7=>?_)
 refine .q (.aM rfl) ?_
 refine .bX (λd1=>?_)
 refine .bN rfl rfl<|.z<|.mo rfl<|.q (.aM rfl)<|.q (.aM rfl)<|.call [1,1,1] ((e6 Y e va c7 a7 d0 a.at_ a.o k [.bool f,vn,S,t,iN g] n (ie:=⟨λu O=>f7.h u (by simp only[aH.enc];simp only[agP,agY,or_false]at O⊢;simp[O])⟩) e4 rfl).weaken λb o D=>.inl (b5 b o D)) (λu H' O=>?_)
 obtain⟨f8,c8,a8,b0,Tl,rfl,J⟩:=O
 have iu:=J.l.aE
 have N:=J.l
 conv=>arg 8;simp only[rest,bJ,agE,agz]
 obtain⟨r,a6⟩:∃r,r=(dq x.c.plain x.num (Y.map aH.plain) (ee x.c.plain x.sub k n)).2:=⟨_,rfl⟩
 rw[<-a6]at N
 have g3:=N.le
 refine .ag rfl<|.zs<|.sr<|.mo rfl<|.q (.dG N)<|.mo rfl<|.zn<|.block<|.cy [(0,_),(1,_),(4,_),(5,_),(7,_),(8,_),(11,_),(36,_),(37,_),(38,_),(46,_),(47,_)] (X:=Nat×List (Int×Bool)×aw) (λy=>y.1<=r.length/\MS kI Value.bool (.map (some a1)) y.2.1 y.2.2/\y.2.1.map (·.1)=(jJ (jJ [] (dj x.c.plain x.num x.sub k (ps.map aH.plain) (d.take j)).2.flatten) (r.take y.1)).map λn:Nat=>(n:Int)) (λy E=>(48,iN y.1)::E) (G:=[Tl,x.iV xb va c8 e,a8,b0,bl d1 n.enc 199,U,H,I,bl b4 (aH.enc ⟨k,f,vn,d,S,Q,t,s,g⟩) 95]) (λy G=>y.2.2::G) (λy=>r.length-y.1) (0,M,Tm) ⟨agt _,a.ms,a.AS⟩ kE.c.c.c.c.c.c.c.c.c.c.c.c.c (aN [7,0,0,0,0,0,0,0,0,0]) ?_
 rintro⟨m,M2,c9⟩ ⟨hm,a2,Z⟩
 simp only at hm a2 Z⊢
 refine .sr<|.q .lss<|.zs<|.cond rfl (λh3=>?_) λh3=>?_
 have c1:m<r.length:=cg h3
 obtain⟨to,c4⟩:=bQ c1
 have f4:=So c4 (jJ [] (dj x.c.plain x.num x.sub k (ps.map aH.plain) (d.take j)).2.flatten)
 refine .kn<|.seq<|.block<|.sr ?_
 refine .aK m N c4 (λg8=>?_)
 refine .lo rfl<|.az rfl<|.region<|.mo rfl<|.mo rfl<|.update (key:=(to:Int)) (u:=true) a2 rfl rfl rfl (λT2 d7 _=>?_)
 have b8:=PX Z true to
 rw[<-f4]at b8
 refine .nil<|aS<|au<|.region<|.ia (m+1) .add<|.mo rfl<|.nil ?_
 ·exact bd (m+1,dO (to:Int) true M2,T2) ⟨c1,d7,b8⟩ (by simp only;omega) kE.c.c.c.c.c.c.c.c.c.c.c.c.c rH
 have e8:m=r.length:=by have:=bA h3;omega
 rw[e8,agQ]at Z
 obtain⟨pu,cu,rfl,_⟩:=N.shape
 refine .exit<|bo<|bq<|bp<|au<|.region<|.mo rfl<|.mo rfl ?_
 refine .gL (λf9=>?_)
 refine .append a.le (RS.lits (xs:=[((.slice pu r.length cu,r):fD)]) rfl (by simp[eg]) (by simp[eg,aE])) (by simp only[agx];omega) (λv5 T5 f6=>?_)
 refine .ag rfl<|.nil<|aS<|au<|.region<|.ia (j+1) .add<|.mo rfl<|.nil ?_
 ·exact bd (j+1,f8,c8,a8,b0,v5,L++[(.slice pu r.length cu,r)],T5,Tl++H,M2,c9) ⟨b7,⟨by rw[a0,J.eq,a.eq],J.at_,J.o,by
   obtain⟨l1,d2,d3⟩:=a.gr
   obtain⟨l2,d4,d5⟩:=J.gr
   refine⟨l1++l2,by rw[d4,d2,agR],λq hq=>?_⟩
   rcases agG.1 hq with hq|hq
   ·exact d3 q hq
   ·exact d5 q hq,f6,λq hq=>by
   rcases agG.1 hq with hq|hq
   ·exact(a.rows q hq).mono λb o D=>gR D
   ·rw[agS]at hq
    subst hq
    exact N.sg.mono λb o D=>iP D,by rw[a0,agJ,a.ll,a6,a.eq];rfl,a2,by rw[a0,ag2,rZ,Z,a6,a.eq];simp⟩⟩ (by simp only;omega) kE.c.c.c.c.c.c.c.c.c ((aN [3,3,3,4,2,3,1,2,2]).trans (bk.eK (by simp[take,bJ])))
 have e1:j=d.length:=by have:=bA h2;omega
 rw[e1,agQ]at a
 have K:Y[i]? =some ⟨k,f,vn,d,S,Q,t,s,g⟩:=by
  obtain⟨l,F,_⟩:=a.gr
  rw[F,ag3 e0,v]
 obtain⟨a9,d9⟩:=a.o.ym K
 have b1:M.length=kJ (dj x.c.plain x.num x.sub k (ps.map aH.plain) d).2.flatten:=by
  have:=agA List.length a.AS
  rw[agp,agp]at this
  exact this
 have g1:M.length<=3000000:=by
  rw[b1]
  refine agr (A0 (n:=(dj x.c.plain x.num x.sub k (ps.map aH.plain) d).1.length) λy hy=>?_) b9
  obtain⟨l,F,hy⟩:=agZ.1 hy
  exact e7 l F y hy
 refine .exit<|bo<|bq<|bp<|au<|.seq<|.cY [16,19] mixed<|.tO 0 rfl .move<|.tO 1 rfl (.nilCheck rfl)<|.tO 2 rfl (.fieldAddr rfl)<|.tO 3 rfl (.fieldAddr rfl)<|.tO 4 rfl (.ca rfl)<|.tO 5 rfl .move<|.tO 6 rfl .move<|.tO 7 rfl (.nilCheck rfl)<|.tO 8 rfl (.fieldAddr rfl)<|.tO 9 rfl (.fieldAddr rfl)<|.tO 10 rfl (.ca rfl)<|.tK 11 rfl .move<|.tO 12 rfl .move<|.tK 13 rfl .move ?_
 refine RA.aK 14 rfl i a.o K rfl rfl rfl (by kernel_rfl) (λg9=>?_)
 refine .tO 15 rfl (.fieldAddr rfl)<|.sT 16 rfl<|.ph (k:=5) (cs:=[T]) (z':=(⟨k,f,vn,d,T,iA x.c.plain x.sub k,t,s,g⟩:aH)) i a.o K rfl rfl rfl (nF c5.h) rfl (by simpa using c5.h) rfl (by simp) (λTd d8=>?_)
 have f2:(Y.set i (⟨k,f,vn,d,T,iA x.c.plain x.sub k,t,s,g⟩:aH))[i]? =some ⟨k,f,vn,d,T,iA x.c.plain x.sub k,t,s,g⟩:=by rw[List.getElem?_set_self (agC.1 K).1]
 refine .nil (Next.mod rfl ?_)
 refine RA.aK 17 rfl i a.o K rfl rfl rfl (by kernel_rfl) (λh0=>?_)
 refine .tK 18 rfl (.fe rfl d9)<|.sT 19 rfl<|.ph (k:=6) (cs:=[vL]) (z':=(⟨k,f,vn,d,T,iA x.c.plain x.sub k,vL,L,g⟩:aH)) i d8 f2 rfl rfl rfl (nF c6.h) rfl (by simpa using c6.h) rfl (by simp) (λTe b2=>?_)
 rw[List.set_set]at b2
 refine .nil<|Next.mod rfl<|RA.nil (by kernel_rfl)<|au<|.dm 11 mixed (by kernel_rfl) ?_
 conv=>arg 6;dsimp only[List.take]
 refine .mo rfl<|.nc rfl<|.fa rfl<|.fa rfl<|.lo rfl<|.mo rfl<|.q (.Az a.ms.rx rfl) ?_
 refine .ia (e+M.length) .add ?_
 refine .nc rfl<|.fa rfl<|.fa rfl<|.nil<|.dt rfl rfl<|.nil<|gg _ .none (aN [0,0,0,0,0,1]) ?_
 ·obtain⟨l,F,e2⟩:=a.gr
  refine(b6 _).2 ⟨c7,a7,Te,U,H,I,l,⟨k,f,vn,d,T,iA x.c.plain x.sub k,vL,L,g⟩,?_,e2,?_,?_,?_,.inr ⟨rfl,rfl,b3.sg,a.le.sg,a.rows⟩⟩
  ·rw[W, <-b1];simp[take,bJ];rfl
  ·rw[W, <-F,ag0,a.eq]
   simp only[hf,if_true]
   rw[<-a.ll]
   rfl
  ·rw[<-F];exact a.at_.set K rfl
  ·rw[<-F];exact b2
def lD(R:ay)(out:List bO×Nat×Int)(u:Value)(H':aV):Prop:=∃vp ps T,H'=[T]/\u=.tuple [.agg [vp,iN out.2.1].toArray,.int .i64 out.2.2].toArray/\RS (λb o=>R b o\/(b,o)∈T) 8 aH.enc vp ps/\(∀p∈ps,aH.is (λb o=>R b o\/(b,o)∈T) p)/\ps.map aH.plain=out.1
theorem wD{W:ByteArray->Bool}{F:ByteArray->ByteArray->Bool}{c:Cf}{num:List Nat}{k:bf}(b:c.right W F=true):(one c num k).nodes.length<=64:=by
 unfold one
 split
 ·simp
 ·rename_i i d
  simp only[agw,agq]
  cases hy:c.all[i]? with
  |none=>simp
  |some y=>
   have a:=(nT b y (ba hy)).2
   unfold iY at a
   simp only[Bool.or_eq_false_iff,decide_eq_false_iff_not]at a
   simp only[agW,ag4]
   omega
theorem wG{c:Cf}{num:List Nat}{sub:bf->List Sub}{k:bf}{N i:Nat}(b:eN c num sub k N)(h:∀j,j<i->j<(opened c num sub k j).1.length):i<=N:=Nat.not_lt.1 λa=>by have:=h N a;have:=b.1;omega
theorem yN{R:ay}{hb:Nat}{vl:Value}{es:List ep}{b4:Nat}(hV:HV R hb vl es b4){g:Nat}{S:cT}{c7:List RB}{vf vr:Value}{Mf:List (bf×(Value×aw))}{Mr:List (Sub×(Value×aw))}(hS:SV R g S c7 vf vr Mf Mr)
    {L:List bB}(hL:RL S L)(hl:S.rows.length<=1000)(rev:Int)(en:ep)(b5:kA es rev=some en)(num:List Nat)(V:kz isWord dh en.c.plain num)(f2:en.ll.map (·.2)=rows en.c.plain.bj num)(e8:b4<=1000000/\es.length<=1000000)(c2:∀e∈es,e.ll.length<=1000000/\∀q∈e.ll,q.2.length<=1000000)
    (k:bf)(b:Int)(g6:b<=9223372036854775807)(sub:bf->List Sub)(f9:sub=λk=>if scan S rev then(L.filter λy=>y.there rev&&decide (y.t.cQ=k)).map (·.t.sub)else [])
    (c3:∀i,(∀j,j<i->j<(opened en.c.plain num sub k j).1.length)->(opened en.c.plain num sub k i).1.length+(opened en.c.plain num sub k i).2<=1048576)(N:Nat)(hN:eN en.c.plain num sub k N):
    Spec prog 34 [pT hb,pT g,.int .u64 rev,.agg [.string k.os,.string k.oi].toArray,.string k.rel,.int .i64 b] R [] (lD R (et en.c.plain num sub k b (scan S rev) N)):=by
  have d8:((kA es rev).map λe=>e.c.plain).getD ⟨[],[]⟩=en.c.plain:=by rw[b5];rfl
  have b6:((kA es rev).map λe=>e.ll.map (·.2)).getD []=rows en.c.plain.bj num:=by rw[b5];exact f2
  have J:∀out u H',lD R out u H'↔∃A s T,H'=[T]/\u=.tuple [.agg [A,iN out.2.1].toArray,.int .i64 out.2.2].toArray/\RS (λb o=>R b o\/(b,o)∈T) 8 aH.enc A s/\(∀p∈s,aH.is (λb o=>R b o\/(b,o)∈T) p)/\s.map aH.plain=out.1:=λ_ _ _=>Iff.rfl
  have r:et en.c.plain num sub k b (scan S rev) N=if b<1 then([],0,2)else if scan S rev=false then([],0,12)
    else if(((opened en.c.plain num sub k N).1.length+(opened en.c.plain num sub k N).2:Nat):Int)<=b then((opened en.c.plain num sub k N).1,(opened en.c.plain num sub k N).2,0)else([],0,16):=rfl
  generalize g7:en.c.plain=cp at *
  refine Spec.body func34 rfl results34 ntmps34 rfl ?_
  refine .sr ?_
  refine .cb rfl (λb9=>?_)
  refine .bX (λb3=>?_)
  refine .ag rfl<|.z<|.mo rfl<|.fa rfl<|.lo rfl<|.fa rfl<|.lo rfl<|.mo rfl ?_
  refine .q .cL ?_
  refine .mo rfl ?_
  refine .cX ((BG hS (by omega) ⟨k.os,k.oi,k.rel,⟨#[]⟩,⟨#[]⟩,⟨#[]⟩,⟨#[]⟩⟩ rev).weaken cM) (λu g4 a=>?_)
  obtain⟨wr,ys,rfl,d7,_⟩:=a
  have i3:=d7.aE
  refine .mo rfl<|.q .extract<|.q .extract<|.ag rfl<|.ag rfl<|.zs<|.block<|.sr<|.mo rfl ?_
  refine .aX ((HV.made hV).weaken cM) (λu a=>?_)
  subst a
  refine .q .not<|.mo rfl ?_
  refine .split (t:=36) rfl (λa4=>?_) (λa4=>?_)
  ·simp at a4
  refine .gT a4<|.mo rfl<|.gT a4<|.q .bU<|.q (.aQ a4) ?_
  refine .az rfl ?_
  refine .cond rfl (λh1=>?_) λh1=>?_
  ·cases I:scan S rev<;>simp[I]at h1
  refine .sr<|.mo rfl<|.q .lss<|.az rfl ?_
  refine .cond rfl (λh2=>?_) λh2=>?_
  have a1:b<1:=bT h2
  refine .sr ?_
  refine .q .cL ?_
  refine .bN rfl rfl<|.az rfl ?_
  refine .ret (bw (aJ (aY _ (.two (.eQ rfl rfl) (.tmp rfl)) (bk.one [] _) ?_)))
  ·exact(J _ _ _).2 ⟨_,[],_,rfl,by rw[r,ago a1];rfl,RS.gO,λp f=>(by cases f),by rw[r,ago a1];rfl⟩
  have a1:¬b<1:=bA h2
  refine .sr<|.mo rfl<|.q .eh<|.az rfl ?_
  refine .cond rfl (λh3=>?_) λh3=>?_
  have I:scan S rev=false:=by
    cases I:scan S rev with
    |false=>rfl
    |true=>simp[I]at h3
  refine .sr ?_
  refine .q .cL ?_
  refine .mo rfl<|.bN rfl rfl<|.az rfl ?_
  refine .ret (bw (aJ (aY _ (.two (.eQ rfl rfl) (.tmp rfl)) (bk.one [] _) ?_)))
  ·exact(J _ _ _).2 ⟨_,[],_,rfl,by rw[r,agn a1,ago I,I];rfl,RS.gO,λp f=>(by cases f),by rw[r,agn a1,ago I];rfl⟩
  have I:scan S rev=true:=by
    cases I:scan S rev with
    |true=>rfl
    |false=>simp[I]at h3
  rw[agn a1,agn (by rw[I];simp)]at r
  refine .skip<|aS<|au<|.sr<|.mo rfl<|.mo rfl ?_
  refine .cX ((hV.at_ rev e8).weaken cM) (λu Tc a=>?_)
  obtain⟨U,rfl,Z,v⟩:=a
  rw[d8]at v
  have i0:cB U.enc:=⟨Z.cV⟩
  have h6:One U.vs:=RS.aE Z.ss
  have h7:One U.vc:=RS.aE Z.sc
  refine .mo rfl<|.q .extract<|.q .extract ?_
  refine .bX (λg5=>?_)
  refine .bN rfl rfl<|.ag rfl<|.zs ?_
  refine bz.cO [(4,_),(9,_),(12,_)] kE.c.c.c (X:=Nat×Nat×Value×aw) (λy=>MS mw kT y.2.2.1 (my cp num) y.2.2.2) (λy E=>(18,.pointer (some ⟨y.1,0,none⟩))::E) (λy=>[XC.iV ⟨U,num,y.2.2.1,g,S,L,rev,b⟩ y.1 (.map (some y.2.1)) (sZ) 0,[(y.2.1,.map #[] 0)],[],[],Tc,y.2.2.2,bl b3 [sZ,.int .i64 0] 81,bl b9 [.string k.os,.string k.oi] 44]) ?_ ?_
  refine .cY [] mixed ?_
  refine .tO 0 rfl (.aM rfl)<|.tO 1 rfl (.aM rfl)<|.tO 2 rfl .move<|.tO 3 rfl .move<|.tO 6 rfl .move<|.tO 7 rfl .move<|.tO 9 rfl .move ?_
  refine RA.jL 4 8 rfl rfl (by kernel_rfl) rfl ?_ ?_
  refine .cX ((hV.numbers rev c2).weaken cM) (λu Tn a=>?_)
  obtain⟨ll,a0,a2⟩:=a
  rw[b6]at a2
  have g0:=a0.rs.aE
  refine .nil (Next.sub ?_)
  refine RA.jL 5 8 rfl rfl (by kernel_rfl) rfl ?_ ?_
  refine .cX ((wB U (λb o=>(b,o)∈Tc\/(b,o)∈Tn) (Z.mono λb o hb=>.inl hb) (by rw[v];exact V.dW) _ ll num (a0.mono λb o hb=>.inr hb) (by rw[v];exact a2) (by rw[v];exact V.len)).weaken λb o hb=>.inr (by rcases hb with hb|hb<;>simp[hb])) (λu w a=>?_)
  obtain⟨mn,rfl⟩:∃m,u=.map (some m):=by obtain⟨b,_,_,h,_⟩:=a;exact⟨b,h⟩
  refine .nil (Next.sub ?_)
  refine .sT 8 rfl ?_
  refine .makeMap (λB=>?_)
  refine .nil (Next.sub ?_)
  refine .tO 10 rfl .cL ?_
  refine .sT 11 rfl ?_
  refine .cb rfl (λC=>?_)
  refine .nil (Next.sub ?_)
  refine .tO 12 rfl .assign ?_
  refine RA.nil (by kernel_rfl) ?_
  ·first
      |exact aF (C,B,_,w) (by rw[<-v];exact a) ((((kE.d rfl).d rfl).d rfl).d rfl) (bk.iZ.trans (aN [2,2,0,0,3,0,3,3]))
      |exact aF (C,B,_,w) (by rw[<-v];exact a) ((((kE.d rfl).d rfl).d rfl).d rfl) (bk.iZ.trans (aN [2,3,0,0,3,0,3,3]))
      |exact aF (C,B,_,w) (by rw[<-v];exact a) ((((kE.d rfl).d rfl).d rfl).d rfl) (bk.iZ.trans (aN [2,4,0,0,3,0,3,3]))
  refine .makeMap (λB=>?_)
  refine .nil (Next.sub ?_)
  refine .sT 5 rfl ?_
  refine .cX ((wB U (λb o=>(b,o)∈Tc\/(b,o)∈Tn) (Z.mono λb o hb=>.inl hb) (by rw[v];exact V.dW) _ ll num (a0.mono λb o hb=>.inr hb) (by rw[v];exact a2) (by rw[v];exact V.len)).weaken λb o hb=>.inr (by rcases hb with hb|hb<;>simp[hb])) (λu w a=>?_)
  obtain⟨mn,rfl⟩:∃m,u=.map (some m):=by obtain⟨b,_,_,h,_⟩:=a;exact⟨b,h⟩
  refine .nil (Next.sub ?_)
  refine .tO 10 rfl .cL ?_
  refine .sT 11 rfl ?_
  refine .cb rfl (λC=>?_)
  refine .nil (Next.sub ?_)
  refine .tO 12 rfl .assign ?_
  refine RA.nil (by kernel_rfl) ?_
  ·first
      |exact aF (C,B,_,w) (by rw[<-v];exact a) ((((kE.d rfl).d rfl).d rfl).d rfl) (bk.iZ.trans (aN [2,2,0,0,3,0,3,3]))
      |exact aF (C,B,_,w) (by rw[<-v];exact a) ((((kE.d rfl).d rfl).d rfl).d rfl) (bk.iZ.trans (aN [2,3,0,0,3,0,3,3]))
      |exact aF (C,B,_,w) (by rw[<-v];exact a) ((((kE.d rfl).d rfl).d rfl).d rfl) (bk.iZ.trans (aN [2,4,0,0,3,0,3,3]))
  refine .makeMap (λB=>?_)
  refine .nil (Next.sub ?_)
  refine .sT 4 rfl ?_
  refine .cX ((hV.numbers rev c2).weaken cM) (λu Tn a=>?_)
  obtain⟨ll,a0,a2⟩:=a
  rw[b6]at a2
  have g0:=a0.rs.aE
  refine .nil (Next.sub ?_)
  refine .sT 5 rfl ?_
  refine .cX ((wB U (λb o=>(b,o)∈Tc\/(b,o)∈Tn) (Z.mono λb o hb=>.inl hb) (by rw[v];exact V.dW) _ ll num (a0.mono λb o hb=>.inr hb) (by rw[v];exact a2) (by rw[v];exact V.len)).weaken λb o hb=>.inr (by rcases hb with hb|hb<;>simp[hb])) (λu w a=>?_)
  obtain⟨mn,rfl⟩:∃m,u=.map (some m):=by obtain⟨b,_,_,h,_⟩:=a;exact⟨b,h⟩
  refine .nil (Next.sub ?_)
  refine .tO 10 rfl .cL ?_
  refine .sT 11 rfl ?_
  refine .cb rfl (λC=>?_)
  refine .nil (Next.sub ?_)
  refine .tO 12 rfl .assign ?_
  refine RA.nil (by kernel_rfl) ?_
  ·first
      |exact aF (C,B,_,w) (by rw[<-v];exact a) ((((kE.d rfl).d rfl).d rfl).d rfl) (bk.iZ.trans (aN [2,2,0,0,3,0,3,3]))
      |exact aF (C,B,_,w) (by rw[<-v];exact a) ((((kE.d rfl).d rfl).d rfl).d rfl) (bk.iZ.trans (aN [2,3,0,0,3,0,3,3]))
      |exact aF (C,B,_,w) (by rw[<-v];exact a) ((((kE.d rfl).d rfl).d rfl).d rfl) (bk.iZ.trans (aN [2,4,0,0,3,0,3,3]))
  intro y hy
  obtain⟨xb,Q,vn,w⟩:=y
  simp only at hy⊢
  obtain⟨x,a3⟩:∃x:XC,x=⟨U,num,vn,g,S,L,rev,b⟩:=⟨_,rfl⟩
  have i2:=hy.one
  have c6:x.sub=sub:=by rw[f9,a3];rfl
  have a7:x.c.plain=cp:=by rw[a3];exact v
  have a8:x.num=num:=by rw[a3]
  have O:x.b=b:=by rw[a3]
  obtain⟨Rc,H⟩:∃Rc:ay,Rc=λb o=>R b o\/(b,o)∈Tc\/(b,o)∈w:=⟨_,rfl⟩
  have a5:x.ok Rc:=by
    rw[a3,H]
    exact⟨Z.mono λb o hb=>.inr (.inl hb),by simp only;rw[v];exact hy.rm λp f=>.inr (.inr f),by simp only;rw[v];exact V.len,⟨c7,vf,vr,Mf,Mr,hS.mono λb o hb=>.inl hb⟩,hL,hl⟩
  have f7:=Bv x Rc a5 xb
  have f4:=λR h=>QA x Rc R h a5 xb
  have b2:=λR h=>QG x R h xb
  rw[<-a3]
  refine au<|.sr<|.mo rfl<|.q (.aM rfl)<|.mo rfl ?_
  refine .call [0,0,0] ((f7 [] 0 (.map (some Q)) (sZ) [(Q,.map #[] 0)] [] ⟨[],MS.nil,λk=>rfl⟩ OS.nil (by simp) k).weaken λb o hb=>by
    rw[H]at hb
    rcases hb with hb|hb|hb
    ·exact .inl hb
    ·exact .inr (by simp[rest,bJ,hb])
    ·exact .inr (by simp[rest,bJ,hb])) (λu H' a=>?_)
  obtain⟨c8,g2,c9,d1,rfl,rfl,d9,d3,d5,l1,c1,f5⟩:=a
  rw[agz]at c1
  subst c1
  conv=>arg 8;simp only[rest,bJ,agE,agz]
  have h0:c8.map aH.plain=(opened cp num sub k 0).1:=by rw[d9,a7,a8];rfl
  refine .zs<|.sr<|.az rfl<|.block ?_
  refine .cy [(12,_),(18,_)] (X:=Nat×List aH×Value×aw×aw×aw) (λy=>(∀j,j<y.1->j<(opened cp num sub k j).1.length/\(((opened cp num sub k j).1.length+(opened cp num sub k j).2:Nat):Int)<=b)/\y.2.1.map aH.plain=(opened cp num sub k y.1).1/\jd y.2.1 (.map (some Q)) y.2.2.2.1/\OS 95 8 aH.enc y.2.2.1 y.2.1 y.2.2.2.2.1/\∀q∈y.2.1,q.is λb o=>Rc b o\/(b,o)∈y.2.2.2.2.2) (λy E=>(19,iN y.1)::E) (G:=[Tc,w,bl b3 [sZ,.int .i64 0] 81,bl b9 [.string k.os,.string k.oi] 44]) (λy G=>x.iV xb (.map (some Q)) y.2.2.1 (opened cp num sub k y.1).2::y.2.2.2.1::y.2.2.2.2.1::y.2.2.2.2.2::G) (λy=>N+1-y.1) (0,c8,g2,c9,d1,[]) ⟨λj hj=>(by omega),h0,d3,d5,λq hq=>(f5 q hq).mono λb o hb=>.inl hb⟩ kE.c.c.c rH ?_
  rintro⟨i,s,A,Ta,To,Tp⟩ ⟨hj,M,hA,F,K⟩
  simp only at hj M hA F K⊢
  have g1:=F.aE
  have i1:cB (List.take 2 (List.drop 6 (x.cells (.map (some Q)) A (opened cp num sub k i).2))):=⟨λu a=>by
    simp[XC.cells]at a
    rcases a with rfl|rfl
    ·exact g1.h
    ·rfl⟩
  have a9:∀j,j<i->j<(opened cp num sub k j).1.length:=λj Y=>(hj j Y).1
  have b7:=wG hN a9
  have g8:=c3 i a9
  have f6:s.length=(opened cp num sub k i).1.length:=by rw[<-M,agp]
  refine .seq<|.sr<|.mo rfl<|.mo rfl<|.nc rfl<|.fa rfl<|.fa rfl<|.lo rfl<|.q (.dG F) ?_
  refine .q .lss<|.mo rfl ?_
  refine .split (t:=80) rfl (λD=>?_) (λD=>?_)
  have b8:i<s.length:=by have:=bT D;omega
  refine .gT D<|.mo rfl<|.gT D ?_
  refine .aX (b2 _ (a5.mono λb o hb=>by
    rw[H]at hb
    rcases hb with hb|hb|hb
    ·exact .inl hb
    ·exact .inr (by simp[hb])
    ·exact .inr (by simp[hb])) (.map (some Q)) A (opened cp num sub k i).2 s (pc:=PC.of (E:=190) (fr:=(0,0)) (.inr (by simp))) F.rx (by omega) (by rw[O];omega)) (λu a=>?_)
  subst a
  refine .gT D<|.q .not<|.q (.aT D) ?_
  refine .zn ?_
  refine .cond rfl (λh4=>?_) λh4=>?_
  have f0:(((opened cp num sub k i).1.length+(opened cp num sub k i).2:Nat):Int)<=b:=by
    have:¬x.b<(s.length+(opened cp num sub k i).2:Nat):=by simpa using h4
    rw[O]at this;omega
  obtain⟨p,f⟩:=bQ b8
  have b0:p.plain=one x.c.plain x.num p.k:=by
    rw[a7,a8]
    exact wF (c:=cp) (num:=num) (sub:=sub) (k:=k) i i p.plain (Nat.le_refl _) (by rw[<-M,agq,f];rfl)
  have f1:p.nodes.length<=1000000:=by
    have Y:=wD (num:=num) (k:=p.k) V.right
    rw[a7,a8]at b0
    rw[<-b0]at Y
    exact agr Y (by omega)
  have c0:∀j,j<i+1->j<(opened cp num sub k j).1.length/\(((opened cp num sub k j).1.length+(opened cp num sub k j).2:Nat):Int)<=b:=λj Y=>by
    rcases agT j i with h8|h8
    ·exact hj j h8
    ·obtain rfl:j=i:=by omega
     exact⟨by omega,f0⟩
  have g9:=c3 (i+1) λj Y=>(c0 j Y).1
  have c5:=Bl (c:=cp) (num:=num) (sub:=sub) (k:=k) i
  have c4:(eL cp num sub (s.map aH.plain) i).1=(opened cp num sub k (i+1)).1:=by rw[c5,M]
  have f3:(opened cp num sub k i).2+(eL cp num sub (s.map aH.plain) i).2=(opened cp num sub k (i+1)).2:=by rw[c5,M]
  refine .kn<|.seq<|.block<|.region<|.mo rfl<|.mo rfl ?_
  refine .call [0,0,0] (f4 _ (λb o hb=>by
    rw[H]at hb
    rcases hb with hb|hb|hb
    ·exact .inl hb
    ·exact .inr (by simp[rest,bJ,hb])
    ·exact .inr (by simp[rest,bJ,hb])) s (opened cp num sub k i).2 (.map (some Q)) A Ta To hA F i p f ((K p (ba f)).n.mono λb o hb=>by
    rw[H]at hb
    rcases hb with(hb|hb|hb)|hb
    ·exact .inl hb
    ·exact .inr (by simp[rest,bJ,hb])
    ·exact .inr (by simp[rest,bJ,hb])
    ·exact .inr (by simp[rest,bJ,hb])) b0 f1 (by rw[a7,a8,c6,c4];omega) (by omega)) (λu H' a=>?_)
  rw[uF,a7,a8,c6,c4,f3]at a
  obtain⟨g3,d0,d2,TL,Tr,Tu,l,q,rfl,e9,e0,d4,d6,f8⟩:=a
  conv=>arg 8;simp only[rest,bJ,agE,agz]
  refine .nil<|aS<|au<|.region<|.mo rfl ?_
  refine .ia (i+1) .add ?_
  refine .ag rfl<|.nil ?_
  ·exact bd (i+1,(s++l).set i q,g3,d0,d2,TL++(Tr++(Tu++Tp))) ⟨c0,e0,d4,d6,λz hz=>by
      rcases List.mem_or_eq_of_mem_set hz with hz|rfl
      ·rcases agG.1 hz with hz|hz
       ·exact(K z hz).mono λb o hb=>hb.imp id λhb=>ags _ (ags _ (ags _ hb))
       ·exact(e9 z hz).mono λb o hb=>.inl hb
      ·rcases f8 with rfl|⟨e1,e2,e3,e4,e5⟩
       ·exact(K _ (ba f)).mono λb o hb=>hb.imp id λhb=>ags _ (ags _ (ags _ hb))
       ·refine⟨?_,e3.mono λb o hb=>.inr (ags _ (ags _ (agB _ hb))),e4.mono λb o hb=>.inr (agB _ hb),λy hy=>(e5 y hy).mono λb o hb=>.inr (ags _ (agB _ hb))⟩
        rw[e1,e2]
        exact(K p (ba f)).n.mono λb o hb=>hb.imp id λhb=>ags _ (ags _ (ags _ hb))⟩ (by simp only;omega) kE.c.c.c (bk.eK (by simp[dp]))
  refine .exit<|bo<|bq<|bp<|au<|.seq<|.sr<|.mo rfl ?_
  refine .aX (b2 _ (a5.mono λb o hb=>by
    rw[H]at hb
    rcases hb with hb|hb|hb
    ·exact .inl hb
    ·exact .inr (by simp[hb])
    ·exact .inr (by simp[hb])) (.map (some Q)) A (opened cp num sub k i).2 s (pc:=PC.of (E:=190) (fr:=(0,0)) (.inr (by simp))) F.rx (by omega) (by rw[O];omega)) (λu a=>?_)
  subst a
  refine .zn ?_
  refine .cond rfl (λW=>?_) λW=>?_
  have a6:b<(((opened cp num sub k i).1.length+(opened cp num sub k i).2:Nat):Int):=by
    have:x.b<(s.length+(opened cp num sub k i).2:Nat):=by simpa using W
    rw[O]at this;omega
  obtain⟨e6,e7⟩:=tH (c:=cp) (num:=num) (sub:=sub) (k:=k) b7
  rw[agn (by omega)]at r
  refine .sr ?_
  refine .q .cL ?_
  refine .bN rfl rfl<|.az rfl ?_
  refine .ret (aJ (aY _ (.two (.eQ rfl rfl) (.tmp rfl)) (bk.one [2,2,2,2] _) ?_))
  ·first
      |exact(J _ _ _).2 ⟨_,[],_,rfl,by rw[r];rfl,RS.gO,λp f=>(by cases f),by rw[r];rfl⟩
      |exact(J _ _ _).2 ⟨A,s,_,rfl,by rw[r];rfl,F.rs λp f=>.inr (by simp[take,bJ,f]),λp f=>(K p f).mono λb o hb=>(by
          rw[H]at hb
          rcases hb with(hb|hb|hb)|hb
          ·exact .inl hb
          ·exact .inr (by simp[take,bJ,hb])
          ·exact .inr (by simp[take,bJ,hb])
          ·exact .inr (by simp[take,bJ,hb])),by rw[r];exact M⟩
  have a6:(((opened cp num sub k i).1.length+(opened cp num sub k i).2:Nat):Int)<=b:=by
    have:¬x.b<(s.length+(opened cp num sub k i).2:Nat):=by simpa using W
    rw[O]at this;omega
  have b1:i=N:=by
    refine eN.dW (c:=cp) (num:=num) (sub:=sub) (k:=k) ⟨?_,a9⟩ hN
    (exfalso
     have:x.b<(s.length+(opened cp num sub k i).2:Nat):=by simpa using h4
     rw[O]at this
     omega)
  subst b1
  rw[ago a6]at r
  refine .kn<|.sr<|.mo rfl<|.nc rfl<|.fa rfl<|.q (.loadT rfl) ?_
  refine .bN rfl rfl<|.az rfl ?_
  refine .ret (aY _ (.two (.eQ rfl rfl) (.tmp rfl)) (bk.one [2,2,2,2] _) ?_)
  ·first
      |exact(J _ _ _).2 ⟨_,[],_,rfl,by rw[r];rfl,RS.gO,λp f=>(by cases f),by rw[r];rfl⟩
      |exact(J _ _ _).2 ⟨A,s,_,rfl,by rw[r];rfl,F.rs λp f=>.inr (by simp[take,bJ,f]),λp f=>(K p f).mono λb o hb=>(by
          rw[H]at hb
          rcases hb with(hb|hb|hb)|hb
          ·exact .inl hb
          ·exact .inr (by simp[take,bJ,hb])
          ·exact .inr (by simp[take,bJ,hb])
          ·exact .inr (by simp[take,bJ,hb])),by rw[r];exact M⟩
  have b8:¬i<s.length:=by have:=bA D;omega
  refine .gF D<|.gF D<|.gF D<|.q (.aQ D) ?_
  refine .zn<|.cU<|.exit<|bo<|bq<|bp<|au<|.seq<|.sr<|.mo rfl ?_
  refine .aX (b2 _ (a5.mono λb o hb=>by
    rw[H]at hb
    rcases hb with hb|hb|hb
    ·exact .inl hb
    ·exact .inr (by simp[hb])
    ·exact .inr (by simp[hb])) (.map (some Q)) A (opened cp num sub k i).2 s (pc:=PC.of (E:=190) (fr:=(0,0)) (.inr (by simp))) F.rx (by omega) (by rw[O];omega)) (λu a=>?_)
  subst a
  refine .zn ?_
  refine .cond rfl (λW=>?_) λW=>?_
  have a6:b<(((opened cp num sub k i).1.length+(opened cp num sub k i).2:Nat):Int):=by
    have:x.b<(s.length+(opened cp num sub k i).2:Nat):=by simpa using W
    rw[O]at this;omega
  obtain⟨e6,e7⟩:=tH (c:=cp) (num:=num) (sub:=sub) (k:=k) b7
  rw[agn (by omega)]at r
  refine .sr ?_
  refine .q .cL ?_
  refine .bN rfl rfl<|.az rfl ?_
  refine .ret (aJ (aY _ (.two (.eQ rfl rfl) (.tmp rfl)) (bk.one [2,2,2,2] _) ?_))
  ·first
      |exact(J _ _ _).2 ⟨_,[],_,rfl,by rw[r];rfl,RS.gO,λp f=>(by cases f),by rw[r];rfl⟩
      |exact(J _ _ _).2 ⟨A,s,_,rfl,by rw[r];rfl,F.rs λp f=>.inr (by simp[take,bJ,f]),λp f=>(K p f).mono λb o hb=>(by
          rw[H]at hb
          rcases hb with(hb|hb|hb)|hb
          ·exact .inl hb
          ·exact .inr (by simp[take,bJ,hb])
          ·exact .inr (by simp[take,bJ,hb])
          ·exact .inr (by simp[take,bJ,hb])),by rw[r];exact M⟩
  have a6:(((opened cp num sub k i).1.length+(opened cp num sub k i).2:Nat):Int)<=b:=by
    have:¬x.b<(s.length+(opened cp num sub k i).2:Nat):=by simpa using W
    rw[O]at this;omega
  have b1:i=N:=by
    refine eN.dW (c:=cp) (num:=num) (sub:=sub) (k:=k) ⟨?_,a9⟩ hN
    (rw[<-f6];omega)
  subst b1
  rw[ago a6]at r
  refine .kn<|.sr<|.mo rfl<|.nc rfl<|.fa rfl<|.q (.loadT rfl) ?_
  refine .bN rfl rfl<|.az rfl ?_
  refine .ret (aY _ (.two (.eQ rfl rfl) (.tmp rfl)) (bk.one [2,2,2,2] _) ?_)
  ·first
      |exact(J _ _ _).2 ⟨_,[],_,rfl,by rw[r];rfl,RS.gO,λp f=>(by cases f),by rw[r];rfl⟩
      |exact(J _ _ _).2 ⟨A,s,_,rfl,by rw[r];rfl,F.rs λp f=>.inr (by simp[take,bJ,f]),λp f=>(K p f).mono λb o hb=>(by
          rw[H]at hb
          rcases hb with(hb|hb|hb)|hb
          ·exact .inl hb
          ·exact .inr (by simp[take,bJ,hb])
          ·exact .inr (by simp[take,bJ,hb])
          ·exact .inr (by simp[take,bJ,hb])),by rw[r];exact M⟩
def dA.enc(x:dA):List Value:=[iN x.1,iN x.2]
instance dA.one(x:dA):cB (dA.enc x):=⟨by simp[dA.enc,aE]⟩
abbrev jr(sb:Nat)(vp:Value)(e:Nat)(us:ByteArray)(vv vb vw vq:Value):aw:=(bl sb [vp,iN e,.string us,vv,vb,vw,vq] 206)
abbrev rT(sb:Nat):Value:=jz (pT sb) 6
def QI(sb:Nat)(vp:Value)(e:Nat)(us:ByteArray)(vv vb vw:Value)(L:List dA)(T:aw):Prop:=∃vq Tq,T=jr sb vp e us vv vb vw vq++Tq/\OS 280 2 dA.enc vq L Tq/\L.length<=1000000000
theorem Cs(v:Value)(L:List dA)(R:ay)(h:RS R 2 dA.enc v L):Spec prog 92 [v] R [] λu H'=>u=.int .i64 L.length/\H'=[]:=by
 refine Spec.body func92 rfl results92 ntmps92 rfl<|.sr<|.ag rfl<|.z<|.mo rfl<|.q (.bI h)<|.az rfl<|.ret (aP rfl ?_)
 ·exact⟨rfl,rfl⟩
theorem SX(v:Value)(L:List dA)(R:ay)(h:RS R 2 dA.enc v L)(i k:Nat)(x y:dA)(f:L[i]? =some x)(g:L[k]? =some y):Spec prog 297 [v,.int .i64 i,.int .i64 k] R [] λu H'=>u=.bool (mv x y)/\H'=[]:=by
 have e:mv x y=(decide (x.1<y.1)||(decide (x.1=y.1)&&decide (x.2<y.2))):=rfl
 obtain⟨a,b⟩:=x
 obtain⟨c,d⟩:=y
 simp only at e
 generalize mv (a,b) (c,d)=r at *
 refine Spec.body func297 rfl results297 ntmps297 rfl<|.sr<|.ag rfl<|.zs<|.seq<|.fS mixed (by kernel_rfl)<|.mo rfl<|.mo rfl ?_
 refine .bC i h f (λs=>?_)
 refine .fa rfl<|.lo rfl<|.mo rfl<|.mo rfl ?_
 refine .bC k h g (λl=>?_)
 refine .fa rfl<|.lo rfl<|.q .eh<|.zn<|.cond rfl (λj=>?_) λj=>?_
 refine .seq<|.fS mixed (by kernel_rfl)<|.mo rfl<|.mo rfl ?_
 refine .bC i h f (λm=>?_)
 refine .fa rfl<|.lo rfl<|.mo rfl<|.mo rfl ?_
 refine .bC k h g (λn=>?_)
 refine .fa rfl<|.lo rfl<|.q .lss<|.az rfl<|.ret (aJ (aP rfl ?_))
 ·refine⟨agA _ ?_,rfl⟩
  rw[e]
  grind
 refine .kn<|.seq<|.fS mixed (by kernel_rfl)<|.mo rfl<|.mo rfl ?_
 refine .bC i h f (λo=>?_)
 refine .fa rfl<|.lo rfl<|.mo rfl<|.mo rfl ?_
 refine .bC k h g (λp=>?_)
 refine .fa rfl<|.lo rfl<|.q .lss<|.az rfl<|.ret (aP rfl ?_)
 ·refine⟨agA _ ?_,rfl⟩
  rw[e]
  grind
theorem S5(v:Value)(L:List dA)(T:aw)(R:ay)(a:OS 280 2 dA.enc v L T)(i k:Nat)(e:i<L.length)(f:k<L.length):Spec prog 298 [v,.int .i64 i,.int .i64 k] R [T] λ_ H'=>∃T',H'=[T']/\OS 280 2 dA.enc v (dd L i k) T':=by
 obtain⟨x,b⟩:=bQ e
 obtain⟨y,c⟩:=bQ f
 refine Spec.body func298 rfl results298 ntmps298 rfl<|.cY [13,15] mixed<|.tO 0 rfl .move<|.tO 1 rfl .move<|.tK 2 rfl .move<|.tK 3 rfl .move<|.tO 4 rfl .move<|.tO 5 rfl .move ?_
 refine RA.aK 6 rfl (k) a c rfl rfl rfl (by kernel_rfl) (λm=>?_)
 refine .tO 7 rfl (.aM rfl)<|.tO 8 rfl .move<|.tO 9 rfl .move ?_
 refine RA.aK 10 rfl (i) a b rfl rfl rfl (by kernel_rfl) (λn=>?_)
 refine .tO 11 rfl (.aM rfl) ?_
 refine RA.aK 12 rfl (i) a b rfl rfl rfl (by kernel_rfl) (λo=>?_)
 refine .sT 13 rfl<|.eW (i) a b y (λj g=>?_) (a.one _ (ba c))
 refine .nil (Next.mod rfl ?_)
 refine RA.aK 14 rfl (k) a c rfl rfl rfl (by kernel_rfl) (λp=>?_)
 refine .sT 15 rfl ?_
 obtain⟨q,h⟩:∃u,(L.set (i) y)[k]? =some u:=⟨_,aZ (by rw[agV];exact(agC.1 c).1)⟩
 refine .eW (k) g h x (λl d=>?_) (a.one _ (ba b))
 rw[<-eX b c]at d
 refine .nil<|Next.mod rfl<|RA.nil (by kernel_rfl)<|gg _ .none rH ?_
 ·exact⟨_,rfl,d⟩
section
variable(sb:Nat)(vp:Value)(e:Nat)(us:ByteArray)(vv vb vw:Value)
theorem S3(L:List dA)(T:aw)(h:QI sb vp e us vv vb vw L T)(x:dA)(j:L.length<1000000000)(R:ay):
  Spec prog 300 [rT sb,.iface 280 (.agg (dA.enc x).toArray)] R [T] λv H'=>∃T',H'=[T']/\QI sb vp e us vv vb vw (L++[x]) T':=by
 obtain⟨g,d,rfl,f,_⟩:=h
 refine Spec.gQ (H':=[jr sb vp e us vv vb vw g,d]) (by simp) ?_
 refine Spec.body func300 rfl results300 ntmps300 rfl<|.cY [7,9] mixed<|.tK 0 rfl .move<|.tO 1 rfl .move<|.tO 2 rfl (.nilCheck rfl)<|.tO 3 rfl (.ca rfl)<|.tO 4 rfl .move<|.tO 5 rfl (.yi (ut:=⟨underlying280⟩))<|.sT 6 rfl ?_
 refine .dN (λi=>?_)
 refine .nil<|Next.sub<|.sT 7 rfl<|.append f (RS.lits (xs:=[x]) rfl (by simp[dA.enc]) (by simp[dA.enc,aE])) (by simp;omega) (λc a b=>?_)
 have k:=b.aE
 refine .nil<|Next.mod rfl<|.tK 8 rfl (.mR rfl)<|.sT 9 rfl<|.dt rfl rfl<|.nil<|Next.mod rfl<|RA.nil (by kernel_rfl)<|gg _ .none ((aN [1,1]).trans (bk.eK (H':=[jr sb vp e us vv vb vw c++a]) (by simp[take,bJ,dp]))) ?_
 ·exact⟨_,rfl,c,a,rfl,b,by simp;omega⟩
theorem S2(L:List dA)(x:dA)(T:aw)(h:QI sb vp e us vv vb vw (L++[x]) T)(R:ay):
  Spec prog 299 [rT sb] R [T] λv H'=>∃T',H'=[T']/\v=.iface 280 (.agg (dA.enc x).toArray)/\QI sb vp e us vv vb vw L T':=by
 obtain⟨g,b,rfl,a,f⟩:=h
 simp only[ag1,agx]at f
 refine Spec.gQ (H':=[jr sb vp e us vv vb vw g,b]) (by simp) ?_
 refine Spec.body func299 rfl results299 ntmps299 rfl<|.sr<|.ag rfl<|.z<|.mo rfl<|.nc rfl<|.lo rfl<|.ag rfl<|.z<|.mo rfl<|.mo rfl<|.q (.dG a)<|.q (.i64 ((L.length:Nat):Int) .sub ⟨by simp,by omega,by omega⟩) ?_
 refine .aK L.length a (z:=x) (by simp) (λk=>?_)
 refine .q (.aM rfl) ?_
 refine .bX (λi=>?_)
 refine .bN rfl rfl<|.z<|.mo rfl<|.mo rfl<|.mo rfl<|.q (.dG a)<|.q (.i64 ((L.length:Nat):Int) .sub ⟨by simp,by omega,by omega⟩)<|.r7 0 L.length a rfl ⟨_,rfl⟩ (by omega) (by simp) (λd c=>?_)
 have j:=c.aE
 refine .nc rfl<|.dt rfl rfl<|.z<|.q (.aM rfl)<|.q (.makeInterface (ut:=⟨underlying280⟩))<|.az rfl<|.ret (aY _ (.one (.tmp rfl)) ((aN [1,1]).trans (bk.eK (H':=[jr sb vp e us vv vb vw d++b]) (by simp[take,bJ,dp]))) ?_)
 ·exact⟨_,rfl,rfl,d,b,rfl,by simpa using c,by omega⟩
theorem r8:∀w,(typeInfo 282).run prog w=.ok t282 w:=typeInfo282
theorem BB(R:ay):qI prog R 282 (rT sb) mv (QI sb vp e us vv vb vw) where
 lL L T h:=by obtain⟨a,b,rfl,d,g⟩:=h;exact g
 len L T h:=by
  obtain⟨a,b,rfl,d,g⟩:=h
  have j:RS (Rx R [jr sb vp e us vv vb vw a++b]) 2 dA.enc a L:=d.rs λp c=>.inr (by simp[c])
  have c:PC (Rx R [jr sb vp e us vv vb vw a++b]) (pT sb) [vp,iN e,.string us,vv,vb,vw,a]:=PC.of (E:=206) (fr:=(0,0)) (.inr (by simp))
  refine(iB.iI (r:=a) (f:=92) (jN.val r8 (by kernel_rfl) inferInstance (by kernel_rfl) inferInstance (c.add 6)) (Cs a L _ j)).mono λu n l=>?_
  obtain⟨rfl,rfl⟩:=l
  exact⟨rfl,a,b,rfl,d,g⟩
 less L T i k x y h hx hy:=by
  obtain⟨a,b,rfl,d,g⟩:=h
  have j:RS (Rx R [jr sb vp e us vv vb vw a++b]) 2 dA.enc a L:=d.rs λp c=>.inr (by simp[c])
  have c:PC (Rx R [jr sb vp e us vv vb vw a++b]) (pT sb) [vp,iN e,.string us,vv,vb,vw,a]:=PC.of (E:=206) (fr:=(0,0)) (.inr (by simp))
  refine(iB.iI (r:=a) (f:=297) (jN.val r8 (by kernel_rfl) inferInstance (by kernel_rfl) inferInstance (c.add 6)) (SX a L _ j i k x y hx hy)).mono λu n l=>?_
  obtain⟨rfl,rfl⟩:=l
  exact⟨rfl,a,b,rfl,d,g⟩
 swap L T i k h hi hk:=by
  obtain⟨a,b,rfl,d,g⟩:=h
  have c:PC (Rx R [jr sb vp e us vv vb vw a++b]) (pT sb) [vp,iN e,.string us,vv,vb,vw,a]:=PC.of (E:=206) (fr:=(0,0)) (.inr (by simp))
  refine⟨298,a,jN.val r8 (by kernel_rfl) inferInstance (by kernel_rfl) inferInstance (c.add 6),inferInstance,?_⟩
  refine Spec.gQ (H':=[jr sb vp e us vv vb vw a,b]) (by simp)<|Spec.flat ((Spec.rz [1] (S5 a L b _ d i k hi hk)).mono λv H' q=>?_)
  obtain⟨s,rfl,m,rfl,o⟩:=q
  refine⟨_,jr sb vp e us vv vb vw a++m,rfl,?_,_,rfl,a,m,rfl,o,by rw[mA];exact g⟩
  simp only[rest,bJ,ag2,ag5,ag6,agD]
  exact ag7
theorem Q1(L:List dA)(T:aw)(h:QI sb vp e us vv vb vw L T)(x:dA)(hl:L.length<1000000000)(R:ay):iB Tryz.prog 282 (rT sb) "Push" [.iface 280 (.agg (dA.enc x).toArray)] R T fun _ T'=>QI sb vp e us vv vb vw (L++[x]) T':=
 ⟨300,_,jN.ptr r8 (by kernel_rfl) inferInstance (by kernel_rfl),inferInstance,S3 sb vp e us vv vb vw L T h x hl R⟩
theorem Q0(L:List dA)(x:dA)(T:aw)(h:QI sb vp e us vv vb vw (L++[x]) T)(R:ay):iB Tryz.prog 282 (rT sb) "Pop" [] R T fun v T'=>v=.iface 280 (.agg (dA.enc x).toArray)∧QI sb vp e us vv vb vw L T':=
 ⟨299,_,jN.ptr r8 (by kernel_rfl) inferInstance (by kernel_rfl),inferInstance,S2 sb vp e us vv vb vw L x T h R⟩
end
def dE(b:Bool):List Value:=[.bool b]
structure QW(ps:List bO)(q:List Bool)(L:List dA):Prop where
 p:L.Perm (items ps q)
 h:fJ mv L L.length
section
variable(sb:Nat)(vp:Value)(e:Nat)(us:ByteArray)(vv vb vw:Value)
theorem Ct(L:List dA)(T k:aw)(h:QI sb vp e us vv vb vw L T)(ps:List aH)(R:ay)(B:RS R 8 aH.enc vp ps)(A:∀p∈ps,∀u∈p.enc,aE u=true)(q:List Bool)(d:OS 4 1 dE vw q k)(M:q.length=ps.length)(a:QW (ps.map aH.plain) q L)(i:Nat)(z:i<ps.length)(J:ps.length<1000000000)
  [O:One vp] [Q:One vv] [N:One vb] [S:One vw]:Spec prog 95 [pT sb,.int .i64 i] R [T,k] λ_ H'=>∃T' Tw' L',H'=[T',Tw']/\QI sb vp e us vv vb vw L' T'/\OS 4 1 dE vw (q.set i true) Tw'/\QW (ps.map aH.plain) (q.set i true) L':=by
 have l:=h
 obtain⟨o,r,rfl,H,I⟩:=h
 have a0:PS (jr sb vp e us vv vb vw o++r) (pT sb) [vp,iN e,.string us,vv,vb,vw,o]:=PS.of (E:=206) (fr:=(0,0)) (by simp)
 obtain⟨b,c⟩:∃b,q[i]? =some b:=⟨_,aZ (by omega)⟩
 obtain⟨p,g⟩:=bQ z
 have K:cB p.enc:=⟨A p (ba g)⟩
 have j:q.getD i false=b:=by rw[agw,c];rfl
 have m:gb (ps.map aH.plain) i=p.number:=by
  unfold gb
  rw[agq,g]
  rfl
 obtain⟨U,F,vn,W,vu,a1,vl,V,n⟩:=p
 simp only at m
 have G:=Pd a.p
 refine Spec.body func95 rfl results95 ntmps95 rfl<|.sr<|.mo rfl<|.nc rfl<|.fa rfl<|.lo rfl<|.mo rfl ?_
 refine .aK i d c (λZ=>?_)
 refine .lo rfl<|.q .not<|.zn<|.cond rfl (λf=>?_) λf=>?_
 have x:b=false:=by simpa using f
 subst x
 refine .sr<|.mo rfl<|.nc rfl<|.fa rfl<|.lo rfl<|.mo rfl ?_
 refine .aK i d c (λX=>?_)
 refine .du i d c true (λD v=>?_)
 refine .zn<|.dm 16 mixed (by kernel_rfl) ?_
 conv=>arg 6;dsimp only[List.take]
 refine .mo rfl<|.nc rfl<|.fa rfl<|.q .makeInterface<|.mo rfl<|.nc rfl<|.fa rfl<|.fa rfl<|.lo rfl<|.mo rfl ?_
 refine .bC i B g (λY=>?_)
 refine .fa rfl<|.lo rfl<|.mo rfl ?_
 refine .q .cL ?_
 refine .q (.makeInterface (ut:=⟨underlying280⟩))<|.nil<|.cA (R:=R) (QT (BB sb vp e us vv vb vw R) vQ L _ _ (n,i) (Q1 sb vp e us vv vb vw L _ l (n,i) (by omega) R) a.h) (λu T' C=>?_)
 obtain⟨rfl,L',t,w,s⟩:=C
 refine .nil<|gg _ .none rH ?_
 ·exact⟨_,_,L',rfl,t,v,⟨w.trans (by rw[<-m];exact(a.p.append_right _).trans (Pf (by omega) j)),s⟩⟩
 have y:b=true:=by simpa using f
 subst y
 refine .skip<|gg _ .none rH ?_
 ·exact⟨_,_,L,rfl,l,by rw[uQ j (by omega)];exact d,by rw[uQ j (by omega)];exact a⟩
theorem S1(L:List dA)(T g:aw)(h:QI sb vp e us vv vb vw L T)(R:ay)(ps:List bO)(q:List Bool)(l:OS 4 1 dE vw q g)(c:QW ps q L)(x:dA)(m:L[0]? =some x) [N:One vp] [O:One vv] [M:One vb] [Q:One vw]:
  Spec prog 93 [pT sb] R [T,g] λu H'=>∃T' Tw' L',H'=[T',Tw']/\u=iN x.2/\QI sb vp e us vv vb vw L' T'/\OS 4 1 dE vw (q.set x.2 false) Tw'/\QW ps (q.set x.2 false) L'/\mN ps q x.2/\x.2<q.length:=by
 have B:=h
 obtain⟨o,s,rfl,I,D⟩:=h
 have U:PS (jr sb vp e us vv vb vw o++s) (pT sb) [vp,iN e,.string us,vv,vb,vw,o]:=PS.of (E:=206) (fr:=(0,0)) (by simp)
 obtain⟨f,n,d⟩:=Ad c.p c.h m
 obtain⟨a,i⟩:=x
 simp only at f n d
 obtain⟨b,k⟩:=bQ d
 refine Spec.body func93 rfl results93 ntmps93 rfl<|.sr<|.ag rfl<|.z<|.mo rfl<|.nc rfl<|.fa rfl<|.q .makeInterface<|.cA (R:=R) (QP (BB sb vp e us vv vb vw R) vQ L _ B (a,i) m c.h (λx=>.iface 280 (.agg (dA.enc x).toArray)) (QI sb vp e us vv vb vw) (λL' T' w D=>Q0 sb vp e us vv vb vw L' (a,i) T' w R)) (λu T' F=>?_)
 obtain⟨rfl,L',j,A,v⟩:=F
 have C:=j
 obtain⟨r,t,rfl,J,K⟩:=j
 have V:PS (jr sb vp e us vv vb vw r++t) (pT sb) [vp,iN e,.string us,vv,vb,vw,r]:=PS.of (E:=206) (fr:=(0,0)) (by simp)
 refine .q (.yi (ut:=⟨underlying280⟩)) ?_
 refine .bX (λH=>?_)
 refine .bN rfl rfl<|.zs<|.dm 7 mixed (by kernel_rfl) ?_
 conv=>arg 6;dsimp only[List.take]
 refine .mo rfl<|.nc rfl<|.fa rfl<|.lo rfl<|.fa rfl<|.lo rfl ?_
 refine .aK i l k (λS=>?_)
 refine .nil ?_
 skip
 refine .du i l k false (λG y=>?_)
 refine .z<|.fa rfl<|.lo rfl<|.az rfl<|.ret (aY _ (.one (.tmp rfl)) (aN [1,1]) ?_)
 ·exact⟨_,_,L',rfl,rfl,C,y,⟨Pc c.p d f.1 (by rw[<-n];exact A),v⟩,f,d⟩
theorem SS(a:Value) [g:One a](v:List Bool)(j:Nat)(b:Bool)(c:v[j]? =some b)(R:ay)(d:RS R 1 dE vv v)(pc:PC R (pT sb) [vp,iN e,.string us,vv,vb,vw,a]) [f:One vp] [h:One vv]:
  Spec prog 152 [pT sb,.int .i64 j] R [] λu H'=>u=.bool b/\H'=[]:=by
 refine Spec.body func152 rfl results152 ntmps152 rfl<|.sr<|.ag rfl<|.z<|.mo rfl<|.nc rfl<|.fa rfl<|.lo rfl<|.mo rfl ?_
 refine .bC j d c (λi=>?_)
 refine .lo rfl<|.az rfl<|.ret (aP rfl ?_)
 ·exact⟨rfl,rfl⟩
end
namespace LIM
theorem O6(f:FuncId)(g:List Value) [e:aU prog f](p:Nat->Bool)(v:Value)(l:List Nat)(R:ay)(h:RS R 1 da v l)(C:∀s∈l,∀R',(∀b o,R b o->R' b o)->Spec prog f (g++[(λn:Nat=>iN n) s]) R' [] λu H'=>u=.bool (p s)/\H'=[]):
  Spec prog 192 [v,.func (.func f) g.toArray #[]] R [] λu H'=>(∃k:Int,u=.int .i64 k/\((∃(i:Nat) (x:Nat),l[i]? =some x/\p x=true/\(∀j y,j<i->l[j]? =some y->p y=false)/\k=i)\/((∀y∈l,p y=false)/\k= -1)))/\H'=[]:=by
 have H:=h.le
 refine Spec.body func192 rfl results192 ntmps192 rfl<|.sr<|.ag rfl<|.zs<|.sr<|.mo rfl<|.q (.bI h)<|.mo rfl<|.zn<|.block<|.loop (X:=Nat) (λi=>i<=l.length/\∀j z,j<i->l[j]? =some z->p z=false) (λi=>[(0,v),(1,.func (.func f) g.toArray #[]),(7,.int .i64 l.length),(8,iN i)]) (λ_=>[]) (λi=>l.length-i) 0 ⟨by omega,by omega⟩ kE.c.c.c.c rH ?_
 rintro i ⟨G,w⟩
 refine .sr<|.q .lss<|.zs<|.cond rfl (λm=>?_) λm=>?_
 have D:i<l.length:=by simp at m;omega
 obtain⟨z,d⟩:=bQ D
 have F:=ba d
 refine .kn<|.seq<|.block<|.sr<|.mo rfl<|.ag rfl<|.z<|.mo rfl<|.mo rfl<|.mo rfl ?_
 refine .bC i h d (λI=>?_)
 refine .lo rfl<|.gv (first:=g) (captured:=[]) (vs:=[(λn:Nat=>iN n) z]) (by rw[agD];exact C z F _ λb o A=>.inl A) (λu E=>?_)
 subst E
 refine .zn<|.cond rfl (λr=>?_) λr=>?_
 refine .sr<|.mo rfl<|.az rfl<|.ret (bw (aJ (cG (bw (aJ (aP rfl ?_))))))
 ·exact⟨⟨_,rfl,.inl ⟨i,z,d,r,w,rfl⟩⟩,rfl⟩
 refine .skip<|aS<|au<|.region<|.q (.inc (n:=i) (by omega))<|.mo rfl<|.nil ?_
 ·exact bd (i+1) ⟨by omega,λj y t a=>by
   rcases agT j i with hh|hh
   ·exact w j y hh a
   ·obtain rfl:j=i:=by omega
    rw[d]at a;cases a;exact r⟩ (by omega) kE.c.c.c.c rH
 refine .exit<|bo<|bq<|bp<|au<|.sr<|.az rfl<|.ret (aP rfl ?_)
 ·have B:i=l.length:=by simp at m;omega
  subst B
  refine⟨⟨_,rfl,.inr ⟨λy a=>?_,rfl⟩⟩,rfl⟩
  obtain⟨j,t,rfl⟩:=agX.1 a
  exact w j _ t (aZ t)
theorem yD(f:FuncId)(c:List Value) [e:aU prog f](p:Nat->Bool)(v:Value)(l:List Nat)(R:ay)(h:RS R 1 da v l)(m:∀s∈l,∀R',(∀b o,R b o->R' b o)->Spec prog f (c++[(λn:Nat=>iN n) s]) R' [] λu H'=>u=.bool (p s)/\H'=[]):
  Spec prog 151 [v,.func (.func f) c.toArray #[]] R [] λu H'=>u=.bool (l.any p)/\H'=[]:=by
 refine Spec.body func151 rfl results151 ntmps151 rfl<|.sr<|.ag rfl<|.z<|.mo rfl<|.mo rfl<|.aX (O6 f c p v l _ h.rx λs w R' g=>m s w R' λb o j=>g b o (.inl j)) (λu A=>?_)
 obtain⟨k,rfl,r⟩:=A
 have t:decide (0<=k)=l.any p:=by
  rcases r with⟨i,x,a,d,_,rfl⟩|⟨a,rfl⟩
  ·rw[ag8.2 ⟨x,ba a,d⟩];simp
  ·rw[List.any_eq_false.2 λy B=>by rw[a y B];simp];rfl
 refine .q .geq<|.az rfl<|.ret (aP rfl ?_)
 ·exact⟨by simp only[t],rfl⟩
end LIM
theorem yl{l:List ByteArray}{s:ByteArray}:(l.any λx=>decide (x=s))=decide (s∈l):=by
 rw[Bool.eq_iff_iff,ag8,decide_eq_true_eq]
 constructor
 ·rintro⟨x,a,h⟩
  exact bT h▸a
 ·exact λh=>⟨s,h,decide_eq_true rfl⟩
theorem yn{w:List Bool}{k j:Nat}(h:j<w.length):(w++List.replicate k false)[j]? =some (w.getD j false):=by
 rw[ag3 h,agw,aZ h]
 rfl
theorem Qi{p:bO}{us:ByteArray}{vf:Nat->Bool}{w:List Bool}{n:Nd}(c:p.nodes[w.length]? =some n)(d:(tree isWord p.nodes (w.length+1)).isSome=true)(f:∀e,e<w.length->w.getD e false=di p us vf (e+1)):
  di p us vf (w.length+1)=(if n.kind=1 then decide (us∈p.fG)||(p.leads.getD w.length []).any vf
   else if n.kind=2\/n.kind=3 then(p.leads.getD w.length []).any vf
   else if n.kind=4 then w.getD n.a.toNat false||w.getD n.b.toNat false
   else if n.kind=5 then w.getD n.a.toNat false&&w.getD n.b.toNat false
   else if n.kind=6 then w.getD n.a.toNat false&& !w.getD n.b.toNat false
   else false):=by
 have h:=RW (t:=none) c d f w.length (by rw[BX];omega)
 rw[<-h]
 unfold qk
 rw[s4,agn (by omega),ago rfl,yl]
theorem AZ{p:List Nd}{i:Nat}{n:Nd}(l:p[i]? =some n)(f:(tree isWord p (i+1)).isSome=true):n.kind=1\/n.kind=2\/n.kind=3\/((n.kind=4\/n.kind=5\/n.kind=6)/\0<=n.a/\n.a.toNat<i/\0<=n.b/\n.b.toNat<i):=by
 obtain⟨r,o⟩:=Option.isSome_iff_exists.1 f
 by_cases e:n.op=true
 ·obtain⟨b,x,y,c,g,d,q,s,_⟩:=oa l e o
  obtain⟨t,_,u,_⟩:=jc _ _ c
  obtain⟨v,_,w,_⟩:=jc _ _ d
  unfold Nd.op at e
  simp only[Bool.or_eq_true,beq_iff_eq]at e
  right;right;right
  refine⟨by omega,by omega,by omega,by omega,by omega⟩
 ·have m:n.op=false:=by simpa using e
  rw[lA l m]at f
  have j:n.leaf isWord=true:=by
   cases h:n.leaf isWord with
   |true=>rfl
   |false=>rw[h]at f;cases f
  unfold Nd.leaf at j
  simp only[Bool.and_eq_true]at j
  by_cases c:n.kind=1
  ·exact .inl c
  ·by_cases g:n.kind=2
   ·exact .inr (.inl g)
   ·by_cases d:n.kind=3
    ·exact .inr (.inr (.inl d))
    ·exfalso
     have k:=j.2
     rw[agn c,agn g,agn d]at k
     cases k
theorem S4(sb:Nat)(vp:Value)(e:Nat)(us:ByteArray)(vv vb vw vq:Value) [ip:One vp] [iv:One vv] [iq:One vq](p:aH)(v:List Bool)(R:ay)(hp:p.is R)(hv:RS R 1 dE vv v)(pc:PC R (pT sb) [vp,iN e,.string us,vv,vb,vw,vq])
  (c3:p.ll.length=p.nodes.length)(c5:p.nodes.length<=1000000)(F:∀q∈p.ll,∀j∈q.2,j<v.length)(N:∀i,i<p.nodes.length->(tree isWord p.nodes (i+1)).isSome=true):
  Spec prog 94 [pT sb,.agg p.enc.toArray] R [] λu H'=>u=.bool (di p.plain us (λj=>v.getD j false) p.nodes.length)/\H'=[]:=by
 have e0:cB p.enc:=⟨hp.cV⟩
 obtain⟨Z,W,U,d,S,a0,Q,ll,nm⟩:=p
 have a4:RS R 5 Nd.enc U d:=hp.n
 have c9:RS R 1 cr S a0:=hp.u
 have b0:RS R 1 eg Q ll:=hp.l.rs
 have O:=hp.l.all
 simp only at c3 c5 F N O
 have d9:=a4.le
 obtain⟨vf,J⟩:∃vf:Nat->Bool,vf=λj=>v.getD j false:=⟨_,rfl⟩
 rw[<-J]
 have I:=λ(w:List Bool) (n:Nd) (Y:d[w.length]? =some n) h2 h3=>Qi (p:=aH.plain ⟨Z,W,U,d,S,a0,Q,ll,nm⟩) (us:=us) (vf:=vf) (w:=w) (n:=n) Y h2 h3
 have c4:di (aH.plain ⟨Z,W,U,d,S,a0,Q,ll,nm⟩) us vf 0=false:=by rw[di]
 have c7:(aH.plain ⟨Z,W,U,d,S,a0,Q,ll,nm⟩).nodes=d:=rfl
 have c8:(aH.plain ⟨Z,W,U,d,S,a0,Q,ll,nm⟩).fG=a0:=rfl
 have c6:∀i q,ll[i]? =some q->(aH.plain ⟨Z,W,U,d,S,a0,Q,ll,nm⟩).leads.getD i []=q.2:=λi q hq=>by
  show((ll.map (·.2)).getD i [])=q.2
  rw[agw,agq,hq];rfl
 generalize aH.plain ⟨Z,W,U,d,S,a0,Q,ll,nm⟩=pl at *
 subst c8
 rw[c7]at I
 refine Spec.body func94 rfl results94 ntmps94 rfl ?_
 refine .sr ?_
 refine .cb rfl (λb3=>?_)
 refine .ag rfl<|.z<|.fa rfl<|.lo rfl<|.q (.bI a4) ?_
 refine .makeSlice (enc:=dE) d.length false rfl rfl (by decide) (by simp[dE,aE]) rfl rfl (by omega) (by omega) (λa5 b5 b6=>?_)
 refine .ag rfl<|.zs<|.sr<|.fa rfl<|.lo rfl<|.q (.bI a4) ?_
 refine .mo rfl<|.zn<|.block ?_
 refine .cy [(0,_),(3,_),(5,_),(13,_),(14,_)] (X:=Nat×List Bool×aw) (λy=>y.1<=d.length/\y.2.1.length=y.1/\OS 4 1 dE (.slice (some ⟨a5,0,none⟩) d.length d.length) (y.2.1++List.replicate (d.length-y.1) false) y.2.2/\∀e,e<y.2.1.length->y.2.1.getD e false=di pl us vf (e+1)) (λy E=>(15,iN y.1)::E) (λy G=>y.2.2::G) (λy=>d.length-y.1) (0,[],b5) ⟨agt _,rfl,by simp only[agz,Nat.sub_zero];exact b6,λe he=>absurd he (by simp)⟩ kE.c.c.c.c.c.c rH ?_
 rintro⟨i,w,T⟩ ⟨hi,C,f,M⟩
 simp only at hi C f M⊢
 refine .sr<|.q .lss<|.zs ?_
 refine .cond rfl (λY=>?_) λY=>?_
 have a3:i<d.length:=cg Y
 obtain⟨n,hn⟩:=bQ a3
 obtain⟨⟨vr,a2⟩,a1⟩:∃q,ll[i]? =some q:=⟨_,aZ (by omega)⟩
 have b4:=ba a1
 have hr:RS R 1 da vr a2:=O _ b4
 have H:=F _ b4
 simp only at H
 obtain⟨k,hk⟩:∃k,d.length-i=k+1:=⟨d.length-i-1,by omega⟩
 have c1:d.length-(i+1)=k:=by omega
 rw[hk]at f
 have f1:PC R (ez Q (i*1)) (eg (vr,a2)):=b0.pc a1
 have b1:=AZ hn (N i a3)
 have m:=I w n (by rw[C];exact hn) (by rw[C];exact N i a3) M
 rw[C,c6 i _ a1]at m
 simp only at m
 have r:(w++List.replicate (k+1) false)[i]? =some false:=by
  rw[List.getElem?_append_right (by omega),C,Nat.sub_self];rfl
 have D:∀j∈a2,∀V,(∀b o,R b o->V b o)->Spec prog 152 ([pT sb]++[iN j]) V [] λu H'=>u=.bool (vf j)/\H'=[]:=λj hj V hR=>by
  obtain⟨b,hb⟩:∃b,v[j]? =some b:=⟨_,aZ (H j hj)⟩
  have b9:vf j=b:=by rw[J];simp only;rw[agw,hb];rfl
  rw[b9]
  exact SS sb vp e us vv vb vw vq v j b hb V (hv.mono hR) (pc.mono hR)
 refine .kn<|.seq<|.block<|.sr<|.mo rfl ?_
 refine .bC i a4 hn (λe3=>?_)
 refine .q (.aM rfl) ?_
 refine .bX (λb7=>?_)
 refine .ag rfl<|.bN rfl rfl<|.z<|.fa rfl<|.lo rfl<|.zn ?_
 refine bz.cO [(0,_),(3,_),(5,_),(13,_),(14,_),(15,_)] kE.c.c.c.c.c.c (X:=aw) (λT=>OS 4 1 dE (.slice (some ⟨a5,0,none⟩) d.length d.length) ((w++[di pl us vf (i+1)])++List.replicate k false) T) (λ_ E=>E) (λT=>[T,bl b3 (aH.enc ⟨Z,W,U,d,S,pl.fG,Q,ll,nm⟩) 95]) ?_ ?_
 refine .block<|.sr<|.q .bU<|.az rfl ?_
 refine .cond rfl (λh2=>?_) λh2=>?_
 have a8:n.kind=1:=by simpa using h2
 rw[ago a8]at m
 refine .cY [20] mixed ?_
 refine .tO 0 rfl .move<|.tO 1 rfl .move<|.tO 2 rfl (.fieldAddr rfl)<|.tO 3 rfl (.ca rfl)<|.tO 4 rfl .move<|.tO 5 rfl (.nilCheck rfl)<|.tO 6 rfl (.fieldAddr rfl)<|.tO 7 rfl (.ca rfl) ?_
 refine .sT 8 rfl ?_
 refine .aX (Sm S pl.fG us _ c9.rx) (λu hu=>?_)
 subst hu
 refine .nil (Next.sub ?_)
 refine .tO 9 rfl .move ?_
 refine RA.split (t:=33) rfl (λh=>?_) (λh=>?_)
 refine .py 10 rfl rfl h rfl (by kernel_rfl) ?_
 refine .py 11 rfl rfl h rfl (by kernel_rfl) ?_
 refine .py 12 rfl rfl h rfl (by kernel_rfl) ?_
 refine .py 13 rfl rfl h rfl (by kernel_rfl) ?_
 refine .py 14 rfl rfl h rfl (by kernel_rfl) ?_
 refine .py 15 rfl rfl h rfl (by kernel_rfl) ?_
 refine .py 16 rfl rfl h rfl (by kernel_rfl) ?_
 refine .sT 17 rfl ?_
 refine .gF h ?_
 refine .nil (Next.sub ?_)
 refine .tO 18 rfl (.aT h) ?_
 refine RA.aK 19 rfl i f r rfl rfl rfl (by kernel_rfl) (λd2=>?_)
 refine .sT 20 rfl ?_
 refine .du i f r _ (λs g=>?_)
 rw[jX C]at g
 refine .nil (Next.mod rfl ?_)
 refine RA.nil (by kernel_rfl) ?_
 refine aS ?_
 exact aF s (by
  clear I D J M O F H N
  rw[m]
  first
   |exact g
   |(simp_all;done)) kE.c.c.c.c.c.c (aN [1,1])
 refine .pz 10 rfl rfl h (.fieldAddr rfl) (by kernel_rfl) ?_
 refine .pz 11 rfl rfl h (.ca rfl) (by kernel_rfl) ?_
 refine .pz 12 rfl rfl h .move (by kernel_rfl) ?_
 refine .pz 13 rfl rfl h (.bC i b0 a1 rfl rfl rfl) (by kernel_rfl) ?_
 refine .pz 14 rfl rfl h (.ca rfl) (by kernel_rfl) ?_
 refine .pz 15 rfl rfl h .move (by kernel_rfl) ?_
 refine .pz 16 rfl rfl h .makeFunc (by kernel_rfl) ?_
 refine .sT 17 rfl ?_
 refine .gT h ?_
 refine .aX (LIM.yD 152 [pT sb] vf vr a2 _ hr.rx λj hj V hR=>D j hj V λb o hb=>hR b o (.inl hb)) (λu hu=>?_)
 subst hu
 refine .nil (Next.sub ?_)
 refine .tO 18 rfl (.aQ h) ?_
 refine RA.aK 19 rfl i f r rfl rfl rfl (by kernel_rfl) (λd2=>?_)
 refine .sT 20 rfl ?_
 refine .du i f r _ (λs g=>?_)
 rw[jX C]at g
 refine .nil (Next.mod rfl ?_)
 refine RA.nil (by kernel_rfl) ?_
 refine aS ?_
 exact aF s (by
  clear I D J M O F H N
  rw[m]
  first
   |exact g
   |(simp_all;done)) kE.c.c.c.c.c.c (aN [1,1])
 have a8:n.kind≠1:=by simpa using h2
 rw[agn a8]at m
 refine .seq<|.sr<|.q .bU<|.az rfl ?_
 refine bz.cO [(0,_),(3,_),(5,_),(6,_),(7,_),(13,_),(14,_),(15,_),(21,_)] kE.c.c.c.c.c.c.c.c.c (X:=Unit) (λ_=>True) (λ_ E=>(44,.bool (decide (n.kind=2\/n.kind=3)))::E) (λ_=>[bl b7 n.enc 199,T,bl b3 (aH.enc ⟨Z,W,U,d,S,pl.fG,Q,ll,nm⟩) 95]) ?_ ?_
 refine .cond rfl (λh3=>?_) λh3=>?_
 refine .skip ?_
 ·exact aF () agu (kE.c.c.c.c.c.c.c.c.c.bV rfl (by clear m I D F H J b1;grind)) rH
 refine .region<|.q .bU<|.ag rfl<|.nil ?_
 ·exact aF () agu (kE.c.c.c.c.c.c.c.c.c.bV rfl (by clear m I D F H J b1;grind)) rH
 intro x hx
 refine au ?_
 refine .cond rfl (λh4=>?_) λh4=>?_
 have a9:n.kind=2\/n.kind=3:=bT h4
 rw[ago a9]at m
 refine .region<|.mo rfl<|.mo rfl<|.fa rfl<|.lo rfl<|.mo rfl ?_
 refine .bC i b0 a1 (λe4=>?_)
 refine .lo rfl<|.mo rfl<|.q .makeFunc ?_
 refine .aX (LIM.yD 152 [pT sb] vf vr a2 _ hr.rx λj hj V hR=>D j hj V λb o hb=>hR b o (.inl hb)) (λu hu=>?_)
 subst hu
 refine .aK i f r (λe5=>?_)
 refine .du i f r _ (λs g=>?_)
 rw[jX C]at g
 refine .nil<|aS ?_
 exact aF s (by
  clear I D J M O F H N
  rw[m]
  first
   |exact g
   |(simp_all;done)) kE.c.c.c.c.c.c (aN [1,1])
 have a9:¬(n.kind=2\/n.kind=3):=bA h4
 rw[agn a9]at m
 have b8:0<=n.a/\n.a.toNat<i/\0<=n.b/\n.b.toNat<i:=by omega
 obtain⟨d5,d6,d7,d8⟩:=b8
 have a6:=yn (w:=w) (k:=k+1) (j:=n.a.toNat) (by omega)
 have a7:=yn (w:=w) (k:=k+1) (j:=n.b.toNat) (by omega)
 refine .sr<|.q .bU<|.az rfl ?_
 refine .cond rfl (λh5=>?_) λh5=>?_
 refine .region<|.mo rfl<|.mo rfl<|.mo rfl<|.fa rfl<|.lo rfl ?_
 refine .aK n.a.toNat f a6 (λe6=>?_) rfl rfl (by omega)
 refine .lo rfl<|.mo rfl ?_
 refine .split (t:=67) rfl (λK=>?_) (λK=>?_)
 refine .gF K<|.gF K<|.gF K<|.gF K<|.gF K<|.q (.aT K) ?_
 refine .aK i f r (λd3=>?_)
 refine .du i f r _ (λs g=>?_)
 rw[jX C]at g
 refine .nil<|aS ?_
 exact aF s (by
  clear I D J M O F H N
  rw[m]
  first
   |exact g
   |(simp_all;done)) kE.c.c.c.c.c.c (aN [1,1])
 refine .gT K<|.mo rfl<|.gT K<|.fa rfl<|.gT K<|.lo rfl<|.gT K ?_
 refine .aK n.b.toNat f a7 (λe7=>?_) rfl rfl (by omega)
 refine .gT K<|.lo rfl<|.q (.aQ K) ?_
 refine .aK i f r (λd3=>?_)
 refine .du i f r _ (λs g=>?_)
 rw[jX C]at g
 refine .nil<|aS ?_
 exact aF s (by
  clear I D J M O F H N
  rw[m]
  first
   |exact g
   |(simp_all;done)) kE.c.c.c.c.c.c (aN [1,1])
 refine .sr<|.q .bU<|.az rfl ?_
 refine .cond rfl (λh6=>?_) λh6=>?_
 refine .region<|.mo rfl<|.mo rfl<|.mo rfl<|.fa rfl<|.lo rfl ?_
 refine .aK n.a.toNat f a6 (λe8=>?_) rfl rfl (by omega)
 refine .lo rfl<|.mo rfl ?_
 refine .split (t:=84) rfl (λL=>?_) (λL=>?_)
 refine .gT L<|.mo rfl<|.gT L<|.fa rfl<|.gT L<|.lo rfl<|.gT L ?_
 refine .aK n.b.toNat f a7 (λe9=>?_) rfl rfl (by omega)
 refine .gT L<|.lo rfl<|.q (.aT L) ?_
 refine .aK i f r (λd4=>?_)
 refine .du i f r _ (λs g=>?_)
 rw[jX C]at g
 refine .nil<|aS ?_
 exact aF s (by
  clear I D J M O F H N
  rw[m]
  first
   |exact g
   |(simp_all;done)) kE.c.c.c.c.c.c (aN [1,1])
 refine .gF L<|.gF L<|.gF L<|.gF L<|.gF L<|.q (.aQ L) ?_
 refine .aK i f r (λd4=>?_)
 refine .du i f r _ (λs g=>?_)
 rw[jX C]at g
 refine .nil<|aS ?_
 exact aF s (by
  clear I D J M O F H N
  rw[m]
  first
   |exact g
   |(simp_all;done)) kE.c.c.c.c.c.c (aN [1,1])
 refine .sr<|.q .bU<|.az rfl ?_
 refine .cond rfl (λh7=>?_) λh7=>?_
 refine .region<|.mo rfl<|.mo rfl<|.mo rfl<|.fa rfl<|.lo rfl ?_
 refine .aK n.a.toNat f a6 (λf0=>?_) rfl rfl (by omega)
 refine .lo rfl<|.mo rfl ?_
 refine .split (t:=101) rfl (λB=>?_) (λB=>?_)
 refine .gT B<|.mo rfl<|.gT B<|.fa rfl<|.gT B<|.lo rfl<|.gT B ?_
 refine .aK n.b.toNat f a7 (λe1=>?_) rfl rfl (by omega)
 refine .gT B<|.lo rfl<|.gT B<|.q .not<|.q (.aT B) ?_
 refine .aK i f r (λd1=>?_)
 refine .du i f r _ (λs g=>?_)
 rw[jX C]at g
 refine .nil<|aS ?_
 exact aF s (by
  clear I D J M O F H N
  rw[m]
  first
   |exact g
   |(simp_all;done)) kE.c.c.c.c.c.c (aN [1,1])
 refine .gF B<|.gF B<|.gF B<|.gF B<|.gF B<|.gF B<|.q (.aQ B) ?_
 refine .aK i f r (λd1=>?_)
 refine .du i f r _ (λs g=>?_)
 rw[jX C]at g
 refine .nil<|aS ?_
 exact aF s (by
  clear I D J M O F H N
  rw[m]
  first
   |exact g
   |(simp_all;done)) kE.c.c.c.c.c.c (aN [1,1])
 ·exfalso
  clear m I D F H J
  simp_all
 intro x hx
 have d0:OS 4 1 dE (.slice (some ⟨a5,0,none⟩) d.length d.length) ((w++[di pl us vf (i+1)])++List.replicate k false) x:=hx
 refine aS<|au<|.region ?_
 refine .ia (i+1) .add ?_
 refine .mo rfl<|.nil ?_
 ·exact bd (i+1,w++[di pl us vf (i+1)],x) ⟨a3,by simp[C],by simp only;rw[c1];exact d0,λe he=>by
   simp only at he⊢
   rw[ag1,agx]at he
   rw[s4]
   split
   ·exact M e (by assumption)
   ·rw[ago (by omega),show e=i by omega]⟩ (by simp only;omega) kE.c.c.c.c.c.c rH
 have c0:i=d.length:=by have:=bA Y;omega
 subst c0
 rw[Nat.sub_self]at f
 simp only[List.replicate_zero,agD]at f
 refine .exit<|bo<|bq<|bp<|au<|.sr<|.mo rfl<|.q (.dG f) ?_
 refine .q .gtr<|.mo rfl ?_
 refine .split (t:=114) rfl (λA=>?_) (λA=>?_)
 have b2:0<d.length:=by have:=bT A;omega
 have c2:w[d.length-1]? =some (di pl us vf d.length):=by
  have Y:=M (d.length-1) (by omega)
  rw[agw,aZ (by omega),ag4,show d.length-1+1=d.length by omega]at Y
  rw[aZ (by omega),Y]
 refine .gT A<|.mo rfl<|.gT A<|.mo rfl<|.gT A<|.q (.dG f) ?_
 refine .gT A ?_
 refine .q (.i64 (((d.length-1:Nat)):Int) .sub ⟨by omega,by omega,by omega⟩) ?_
 refine .gT A ?_
 refine .aK (d.length-1) f c2 (λe2=>?_)
 refine .gT A<|.lo rfl<|.q (.aT A) ?_
 refine .az rfl ?_
 refine .ret (aP rfl ?_)
 ·exact⟨rfl,rfl⟩
 have b2:d.length=0:=by have:=bA A;omega
 refine .gF A<|.gF A<|.gF A<|.gF A<|.gF A<|.gF A<|.q (.aQ A) ?_
 refine .az rfl ?_
 refine .ret (aP rfl ?_)
 ·exact⟨by rw[b2,c4],rfl⟩
def kX(ps:List bO):List Bool:=ps.map (·.found)
def qi(ps:List bO)(i:Nat):List Bool:=(kX ps).take i++List.replicate (ps.length-i) false
theorem Bx{ps:List bO}{i:Nat}(h:i<=ps.length):(qi ps i).length=ps.length:=by unfold qi kX;simp;omega
theorem Bz{ps:List bO}{i:Nat}{p:bO}(h:ps[i]? =some p):qi ps (i+1)=(qi ps i).set i p.found:=by
 have c:=(agC.1 h).1
 obtain⟨k,b⟩:∃k,ps.length-i=k+1:=⟨ps.length-i-1,by omega⟩
 have a:(kX ps)[i]? =some p.found:=by unfold kX;rw[agq,h];rfl
 unfold qi
 rw[b,jX (by unfold kX;simp;omega),dS a,show ps.length-(i+1)=k by omega]
theorem QX{ps:List bO}{i:Nat}{p:bO}(h:ps[i]? =some p)(a:p.found=false):qi ps (i+1)=qi ps i:=by
 have b:=(agC.1 h).1
 rw[Bz h,a]
 refine uQ ?_ (by rw[Bx (by omega)];exact b)
 unfold qi
 rw[agw,List.getElem?_append_right (by simp[kX];omega),List.getElem?_replicate]
 split<;>rfl
theorem QV(ps:List bO):qi ps ps.length=kX ps:=by
 unfold qi kX
 rw[List.take_of_length_le (by simp),Nat.sub_self,List.replicate_zero,agD]
theorem BA(ps:List bO):qi ps 0=List.replicate ps.length false:=by unfold qi;simp
theorem Q2(ps:List bO):QW ps (qi ps 0) []:=⟨by
 have h:items ps (qi ps 0)=[]:=by
  unfold items
  rw[List.map_eq_nil_iff]
  cases hq:jH (qi ps 0)with
  |nil=>rfl
  |cons x l=>
   have:=gd.1 (show x∈jH (qi ps 0) by rw[hq];exact List.mem_cons_self)
   rw[BA,zW]at this
   cases this
 rw[h],λk b a=>absurd a (by simp)⟩
theorem DL(ps:List bO)(i:Nat)(a:List Nat)(j:Nat):(gW ps i a j).length<=i+1:=by
 have b:(mi ps i j).length<=i:=by
  unfold mi
  exact agr (agv _ _) (by simp)
 unfold gW
 rw[ag1]
 split
 ·rw[agx];omega
 ·rw[List.length_nil];omega
theorem BT{a:List iU}{n:Nat}{f:Nat->List Nat}(h:a.map (·.1.2)=(List.range n).map f){k:Nat}(e:k<n):∃v T,a[k]? =some ((v,f k),T):=by
 have b:=agA (λl=>l[k]?) h
 simp only[agq,List.getElem?_range e,agW]at b
 obtain⟨⟨⟨v,r⟩,T⟩,d,c⟩:=Option.map_eq_some_iff.1 b
 simp only at c
 subst c
 exact⟨v,T,d⟩
theorem RQ{a:List iU}{n:Nat}{f g:Nat->List Nat}(h:a.map (·.1.2)=(List.range n).map f){k:Nat}{v:Value}{r:List Nat}{T:aw}(b:∀j,j<n->g j=if j=k then r else f j)(c:k<n):(a.set k ((v,r),T)).map (·.1.2)=(List.range n).map g:=by
 rw[ag0,h]
 refine List.ext_getElem? λj=>?_
 rw[List.getElem?_set]
 rcases agT j n with hj|hj
 ·rw[agq,agq,List.getElem?_range hj,agW,agW,b j hj]
  by_cases e:k=j
  ·subst e;simp[c]
  ·rw[agn e,agn λh=>e h.symm]
 ·rw[agn (by omega),List.getElem?_eq_none (by simpa using hj),List.getElem?_eq_none (by simpa using hj)]
theorem DN(ps:List bO):(λj=>gW ps 0 [] j)=λ_=>[]:=by
 funext j
 unfold gW mi
 simp
theorem DH(ps:List bO):(λj=>gW ps ps.length [] j)=fN ps:=by
 funext j
 unfold gW
 rw[Dy]
 simp
theorem OU(n:Nat):((List.replicate n ((((sZ,[]),[]):iU))).flatMap (·.2))=[]:=by
 rw[List.flatMap_eq_nil_iff]
 intro x a
 rw[(List.mem_replicate.1 a).2]
theorem S0(s:Value)(e:Nat)(us:ByteArray)(ps:List aH)(R:ay)(Q:RS R 8 aH.enc s ps)(c2:∀p∈ps,p.is R)(h0:ps.length<=2000000)(f9:∀p∈ps,p.ll.length<=1000000)(f8:∀p∈ps,∀q∈p.ll,q.2.length<=1000000/\∀j∈q.2,j<ps.length):
  Spec prog 91 [.agg [s,iN e].toArray,.string us] R [] λu H'=>∃sb vv vb vw L LL Ta Tw Tv To,H'=[Ta,Tw,Tv,To,LL.flatMap (·.2)]/\u=pT sb/\One vv/\One vb/\One vw/\QI sb s e us vv vb vw L Ta/\QW (ps.map aH.plain) (kX (ps.map aH.plain)) L/\OS 4 1 dE vw (kX (ps.map aH.plain)) Tw/\OS 4 1 dE vv (List.replicate ps.length false) Tv/\pJ vb LL To/\LL.map (·.1.2)=(List.range ps.length).map (fN (ps.map aH.plain)):=by
 have i0:=Q.aE
 have g9:=Q.le
 have g3:∀p∈ps,∀u∈p.enc,aE u=true:=λp K=>(c2 p K).cV
 have d1:∀(i:Nat) (p:aH),ps[i]? =some p->(ps.map aH.plain)[i]? =some p.plain:=λi p K=>by rw[agq,K];rfl
 obtain⟨P,Y⟩:∃P,P=ps.map aH.plain:=⟨_,rfl⟩
 have a3:P.length=ps.length:=by rw[Y,agp]
 rw[<-Y]
 rw[<-Y]at d1
 refine Spec.body func91 rfl results91 ntmps91 rfl ?_
 refine .sr ?_
 refine .cb rfl (λM=>?_)
 refine .ag rfl<|.z<|.fa rfl<|.lo rfl<|.q (.bI Q) ?_
 refine .ag rfl<|.zs ?_
 refine bz.cO [(2,_)] kE.c (X:=(Nat×Nat×Nat×Nat)×(aw×aw×aw)) (λy=>OS 4 1 dE (.slice (some ⟨y.1.2.1,0,none⟩) ps.length ps.length) (List.replicate ps.length false) y.2.1/\OS 182 1 eg (.slice (some ⟨y.1.2.2.1,0,none⟩) ps.length ps.length) (List.replicate ps.length ((sZ,[]):fD)) y.2.2.1/\OS 4 1 dE (.slice (some ⟨y.1.2.2.2,0,none⟩) ps.length ps.length) (List.replicate ps.length false) y.2.2.2) (λy E=>(6,.pointer (some ⟨y.1.1,0,none⟩))::E) (λy=>[y.2.2.1,[],jr y.1.1 s e us (.slice (some ⟨y.1.2.1,0,none⟩) ps.length ps.length) (.slice (some ⟨y.1.2.2.1,0,none⟩) ps.length ps.length) (.slice (some ⟨y.1.2.2.2,0,none⟩) ps.length ps.length) (sZ),y.2.2.2,y.2.1,bl M [s,iN e] 81]) ?_ ?_
 refine .cY [] mixed ?_
 refine .tO 0 rfl (.aM rfl)<|.tO 1 rfl .move<|.tO 2 rfl .move<|.tO 4 rfl .move<|.tO 6 rfl .move ?_
 refine RA.Tg 3 5 7 rfl rfl rfl (by kernel_rfl) rfl ?_ ?_ ?_
 refine .makeSlice (enc:=dE) ps.length false rfl rfl (by decide) (by simp[dE,aE]) rfl rfl (by omega) (by omega) (λB Tv n=>?_)
 refine .nil (Next.sub ?_)
 refine RA.jL 5 7 rfl rfl (by kernel_rfl) rfl ?_ ?_
 refine .makeSlice (enc:=eg) ps.length ((sZ,[]):fD) rfl rfl (by decide) (by simp[eg,aE]) rfl rfl (by omega) (by omega) (λA w f=>?_)
 refine .nil (Next.sub ?_)
 refine .sT 7 rfl ?_
 refine .makeSlice (enc:=dE) ps.length false rfl rfl (by decide) (by simp[dE,aE]) rfl rfl (by omega) (by omega) (λC Tw g=>?_)
 refine .nil (Next.sub ?_)
 refine .tO 8 rfl .cL ?_
 refine .sT 9 rfl ?_
 refine .cb rfl (λF=>?_)
 refine .nil (Next.sub ?_)
 refine .tO 10 rfl .assign ?_
 refine RA.nil (by kernel_rfl) ?_
 ·exact aF ((F,B,A,C),(Tv,w,Tw)) ⟨n,f,g⟩ kE.c.c (bk.eC.trans (by
   first
    |exact(aN [3,0,0,0,0,0])
    |exact(aN [3,0,0,1,0,0])
    |exact(aN [2,0,0,0,0,0])
    |exact(aN [2,0,0,1,0,0])
    |exact(aN [4,0,0,0,0,0])
    |exact(aN [4,0,0,1,0,0])))
 refine .makeSlice (enc:=dE) ps.length false rfl rfl (by decide) (by simp[dE,aE]) rfl rfl (by omega) (by omega) (λC Tw g=>?_)
 refine .nil (Next.sub ?_)
 refine .sT 5 rfl ?_
 refine .makeSlice (enc:=eg) ps.length ((sZ,[]):fD) rfl rfl (by decide) (by simp[eg,aE]) rfl rfl (by omega) (by omega) (λA w f=>?_)
 refine .nil (Next.sub ?_)
 refine .tO 8 rfl .cL ?_
 refine .sT 9 rfl ?_
 refine .cb rfl (λF=>?_)
 refine .nil (Next.sub ?_)
 refine .tO 10 rfl .assign ?_
 refine RA.nil (by kernel_rfl) ?_
 ·exact aF ((F,B,A,C),(Tv,w,Tw)) ⟨n,f,g⟩ kE.c.c (bk.eC.trans (by
   first
    |exact(aN [3,0,0,0,0,0])
    |exact(aN [3,0,0,1,0,0])
    |exact(aN [2,0,0,0,0,0])
    |exact(aN [2,0,0,1,0,0])
    |exact(aN [4,0,0,0,0,0])
    |exact(aN [4,0,0,1,0,0])))
 refine .makeSlice (enc:=eg) ps.length ((sZ,[]):fD) rfl rfl (by decide) (by simp[eg,aE]) rfl rfl (by omega) (by omega) (λA w f=>?_)
 refine .nil (Next.sub ?_)
 refine RA.jL 3 7 rfl rfl (by kernel_rfl) rfl ?_ ?_
 refine .makeSlice (enc:=dE) ps.length false rfl rfl (by decide) (by simp[dE,aE]) rfl rfl (by omega) (by omega) (λB Tv n=>?_)
 refine .nil (Next.sub ?_)
 refine .sT 7 rfl ?_
 refine .makeSlice (enc:=dE) ps.length false rfl rfl (by decide) (by simp[dE,aE]) rfl rfl (by omega) (by omega) (λC Tw g=>?_)
 refine .nil (Next.sub ?_)
 refine .tO 8 rfl .cL ?_
 refine .sT 9 rfl ?_
 refine .cb rfl (λF=>?_)
 refine .nil (Next.sub ?_)
 refine .tO 10 rfl .assign ?_
 refine RA.nil (by kernel_rfl) ?_
 ·exact aF ((F,B,A,C),(Tv,w,Tw)) ⟨n,f,g⟩ kE.c.c (bk.eC.trans (by
   first
    |exact(aN [3,0,0,0,0,0])
    |exact(aN [3,0,0,1,0,0])
    |exact(aN [2,0,0,0,0,0])
    |exact(aN [2,0,0,1,0,0])
    |exact(aN [4,0,0,0,0,0])
    |exact(aN [4,0,0,1,0,0])))
 refine .makeSlice (enc:=dE) ps.length false rfl rfl (by decide) (by simp[dE,aE]) rfl rfl (by omega) (by omega) (λC Tw g=>?_)
 refine .nil (Next.sub ?_)
 refine .sT 3 rfl ?_
 refine .makeSlice (enc:=dE) ps.length false rfl rfl (by decide) (by simp[dE,aE]) rfl rfl (by omega) (by omega) (λB Tv n=>?_)
 refine .nil (Next.sub ?_)
 refine .tO 8 rfl .cL ?_
 refine .sT 9 rfl ?_
 refine .cb rfl (λF=>?_)
 refine .nil (Next.sub ?_)
 refine .tO 10 rfl .assign ?_
 refine RA.nil (by kernel_rfl) ?_
 ·exact aF ((F,B,A,C),(Tv,w,Tw)) ⟨n,f,g⟩ kE.c.c (bk.eC.trans (by
   first
    |exact(aN [3,0,0,0,0,0])
    |exact(aN [3,0,0,1,0,0])
    |exact(aN [2,0,0,0,0,0])
    |exact(aN [2,0,0,1,0,0])
    |exact(aN [4,0,0,0,0,0])
    |exact(aN [4,0,0,1,0,0])))
 refine .makeSlice (enc:=dE) ps.length false rfl rfl (by decide) (by simp[dE,aE]) rfl rfl (by omega) (by omega) (λC Tw g=>?_)
 refine .nil (Next.sub ?_)
 refine RA.jL 3 5 rfl rfl (by kernel_rfl) rfl ?_ ?_
 refine .makeSlice (enc:=dE) ps.length false rfl rfl (by decide) (by simp[dE,aE]) rfl rfl (by omega) (by omega) (λB Tv n=>?_)
 refine .nil (Next.sub ?_)
 refine .sT 5 rfl ?_
 refine .makeSlice (enc:=eg) ps.length ((sZ,[]):fD) rfl rfl (by decide) (by simp[eg,aE]) rfl rfl (by omega) (by omega) (λA w f=>?_)
 refine .nil (Next.sub ?_)
 refine .tO 8 rfl .cL ?_
 refine .sT 9 rfl ?_
 refine .cb rfl (λF=>?_)
 refine .nil (Next.sub ?_)
 refine .tO 10 rfl .assign ?_
 refine RA.nil (by kernel_rfl) ?_
 ·exact aF ((F,B,A,C),(Tv,w,Tw)) ⟨n,f,g⟩ kE.c.c (bk.eC.trans (by
   first
    |exact(aN [3,0,0,0,0,0])
    |exact(aN [3,0,0,1,0,0])
    |exact(aN [2,0,0,0,0,0])
    |exact(aN [2,0,0,1,0,0])
    |exact(aN [4,0,0,0,0,0])
    |exact(aN [4,0,0,1,0,0])))
 refine .makeSlice (enc:=eg) ps.length ((sZ,[]):fD) rfl rfl (by decide) (by simp[eg,aE]) rfl rfl (by omega) (by omega) (λA w f=>?_)
 refine .nil (Next.sub ?_)
 refine .sT 3 rfl ?_
 refine .makeSlice (enc:=dE) ps.length false rfl rfl (by decide) (by simp[dE,aE]) rfl rfl (by omega) (by omega) (λB Tv n=>?_)
 refine .nil (Next.sub ?_)
 refine .tO 8 rfl .cL ?_
 refine .sT 9 rfl ?_
 refine .cb rfl (λF=>?_)
 refine .nil (Next.sub ?_)
 refine .tO 10 rfl .assign ?_
 refine RA.nil (by kernel_rfl) ?_
 ·exact aF ((F,B,A,C),(Tv,w,Tw)) ⟨n,f,g⟩ kE.c.c (bk.eC.trans (by
   first
    |exact(aN [3,0,0,0,0,0])
    |exact(aN [3,0,0,1,0,0])
    |exact(aN [2,0,0,0,0,0])
    |exact(aN [2,0,0,1,0,0])
    |exact(aN [4,0,0,0,0,0])
    |exact(aN [4,0,0,1,0,0])))
 intro y hy
 obtain⟨⟨sb,B,A,C⟩,⟨Tv,w,Tw⟩⟩:=y
 obtain⟨n,f,g⟩:=hy
 simp only at n f g⊢
 obtain⟨vv,d9⟩:∃v,v=Value.slice (some ⟨B,0,none⟩) ps.length ps.length:=⟨_,rfl⟩
 obtain⟨vb,d8⟩:∃v,v=Value.slice (some ⟨A,0,none⟩) ps.length ps.length:=⟨_,rfl⟩
 obtain⟨vw,e0⟩:∃v,v=Value.slice (some ⟨C,0,none⟩) ps.length ps.length:=⟨_,rfl⟩
 rw[<-d9]at n⊢
 rw[<-d8]at f⊢
 rw[<-e0]at g⊢
 clear d9 d8 e0
 have i1:=n.aE
 have i2:=f.aE
 have i3:=g.aE
 refine au<|.seq<|.sr<|.fa rfl<|.lo rfl<|.q (.bI Q) ?_
 refine .mo rfl<|.zn<|.block ?_
 refine .cy [(6,_),(28,_),(29,_)] (X:=Nat×List dA×List iU×(aw×aw×aw)) (λy=>y.1<=ps.length/\QI sb s e us vv vb vw y.2.1 y.2.2.2.1/\QW P (qi P y.1) y.2.1/\OS 4 1 dE vw (qi P y.1) y.2.2.2.2.1/\pJ vb y.2.2.1 y.2.2.2.2.2/\y.2.2.1.map (·.1.2)=(List.range ps.length).map λj=>gW P y.1 [] j) (λy E=>(30,iN y.1)::E) (λy G=>y.2.2.2.2.2::y.2.2.1.flatMap (·.2)::y.2.2.2.1::y.2.2.2.2.1::G) (λy=>ps.length-y.1) (0,[],List.replicate ps.length (((sZ,[]),[]):iU),(jr sb s e us vv vb vw (sZ),Tw,w)) ⟨agt _,⟨_,[],(agD _).symm,OS.nil,by simp⟩,Q2 P,by simp only;rw[BA,a3];exact g,⟨by simp only[List.map_replicate];exact f,λq hq=>by rw[(List.mem_replicate.1 hq).2];exact OS.nil⟩,by simp only;rw[DN];simp[List.map_const']⟩ kE.c.c.c.c (bk.eK (by simp only[OU];exact .refl _)) ?_
 rintro⟨i,L,LL,⟨Ta,Tw,To⟩⟩ ⟨hi,O,Z,g,D,k⟩
 simp only at hi O Z g D k⊢
 refine .sr<|.q .lss<|.zs ?_
 refine .cond rfl (λh1=>?_) λh1=>?_
 have a4:i<ps.length:=cg h1
 obtain⟨p,K⟩:=bQ a4
 have b5:=ba K
 have b4:=c2 p b5
 have a9:=d1 i p K
 have c4:=f8 p b5
 have g0:=f9 p b5
 have h8:cB p.enc:=⟨b4.cV⟩
 have f4:p.plain.leads.flatten=p.ll.flatMap (·.2):=by unfold aH.plain;simp[List.flatMap_def]
 have f5:p.plain.found=p.found:=rfl
 have b0:=DJ a9
 have a5:=Bz a9
 have a6:=QX a9
 rw[f4]at b0
 rw[f5]at a5 a6
 generalize p.plain=pp at *
 obtain⟨k0,I,vn,a0,vu,a1,U,ll,nm⟩:=p
 have c9:RS R 1 eg U ll:=b4.l.rs
 have c8:=b4.l.all
 simp only at b0 a5 a6 c4 g0 c8
 obtain⟨vq,Tq,c1,e9,e7⟩:=O
 have O:QI sb s e us vv vb vw L Ta:=⟨vq,Tq,c1,e9,e7⟩
 have j0:PS Ta (pT sb) [s,iN e,.string us,vv,vb,vw,vq]:=PS.of (E:=206) (fr:=(0,0)) (by rw[c1];simp)
 refine .kn<|.seq<|.block<|.sr<|.mo rfl ?_
 refine .bC i Q K (λi4=>?_)
 refine .q (.aM rfl) ?_
 refine .bX (λV=>?_)
 refine .ag rfl<|.bN rfl rfl<|.zs<|.sr<|.fa rfl<|.lo rfl<|.q (.bI c9) ?_
 refine .mo rfl<|.zn<|.block ?_
 refine .cy [(6,_),(7,_),(8,_),(28,_),(29,_),(30,_),(36,_),(37,_)] (X:=Nat×List iU×aw) (λy=>y.1<=ll.length/\pJ vb y.2.1 y.2.2/\y.2.1.map (·.1.2)=(List.range ps.length).map λj=>gW P i ((ll.take y.1).flatMap (·.2)) j) (λy E=>(38,iN y.1)::E) (λy _=>[bl V (aH.enc ⟨k0,I,vn,a0,vu,a1,U,ll,nm⟩) 95,y.2.2,y.2.1.flatMap (·.2),Ta,Tw,Tv,bl M [s,iN e] 81]) (λy=>ll.length-y.1) (0,LL,To) ⟨agt _,D,by simpa using k⟩ kE.c.c.c.c.c.c.c.c.c rH (G:=[]) ?_
 rintro⟨m,LL,To⟩ ⟨hm,D,k⟩
 simp only at hm D k⊢
 refine .sr<|.q .lss<|.zs ?_
 refine .cond rfl (λh2=>?_) λh2=>?_
 have d0:m<ll.length:=cg h2
 obtain⟨⟨vr,H⟩,b6⟩:=bQ d0
 have d3:=ba b6
 have hr:RS R 1 da vr H:=c8 _ d3
 obtain⟨g5,c6⟩:=c4 _ d3
 simp only at g5 c6
 have g6:(ll.take (m+1)).flatMap (·.2)=(ll.take m).flatMap (·.2)++H:=by rw[dS b6,ag9];simp
 generalize (ll.take m).flatMap (·.2)=seen0 at *
 refine .kn<|.seq<|.block<|.sr ?_
 refine .bC m c9 b6 (λi5=>?_)
 refine .lo rfl<|.ag rfl<|.z<|.mo rfl<|.q (.bI hr) ?_
 refine .mo rfl<|.zn<|.block ?_
 refine .cy [(6,_),(7,_),(8,_),(28,_),(29,_),(30,_),(36,_),(37,_),(38,_),(42,_),(43,_)] (X:=Nat×List iU×aw) (λy=>y.1<=H.length/\pJ vb y.2.1 y.2.2/\y.2.1.map (·.1.2)=(List.range ps.length).map λj=>gW P i (seen0++H.take y.1) j) (λy E=>(44,iN y.1)::E) (λy _=>[bl V (aH.enc ⟨k0,I,vn,a0,vu,a1,U,ll,nm⟩) 95,y.2.2,y.2.1.flatMap (·.2),Ta,Tw,Tv,bl M [s,iN e] 81]) (λy=>H.length-y.1) (0,LL,To) ⟨agt _,D,by simpa using k⟩ kE.c.c.c.c.c.c.c.c.c.c.c.c rH (G:=[]) ?_
 rintro⟨j,LL,To⟩ ⟨hj,D,k⟩
 simp only at hj D k⊢
 refine .sr<|.q .lss<|.zs ?_
 refine .cond rfl (λW=>?_) λW=>?_
 have c7:j<H.length:=cg W
 obtain⟨d,a7⟩:=bQ c7
 have d6:d<ps.length:=c6 d (ba a7)
 have g2:seen0++H.take (j+1)=(seen0++H.take j)++[d]:=by rw[dS a7,agR]
 generalize seen0++H.take j=seen at *
 obtain⟨vk,Tk,hk⟩:=BT k d6
 have J:=DK P i seen d
 have d5:=λj=>DM P i seen d j
 have f2:=DL P i seen d
 obtain⟨r,d2⟩:∃r,r=gW P i seen d:=⟨_,rfl⟩
 rw[<-d2]at hk J f2
 obtain⟨f,a2⟩:=D
 have N:=a2 _ (ba hk)
 simp only at N
 have S:(LL.map (·.1))[d]? =some (vk,r):=by rw[agq,hk];rfl
 have i8:PS To (ez vb (d*1)) (eg (vk,r)):=⟨f.pc S⟩
 have j1:PC R (ez vr (j*1)) (da d):=hr.pc a7
 obtain⟨L1,L2,a8,g8,d4⟩:=AH hk
 have h6:=N.le
 refine .kn<|.seq<|.block<|.sr ?_
 refine .bC j hr a7 (λi6=>?_)
 refine .lo rfl<|.ag rfl<|.z<|.mo rfl ?_
 refine .nc rfl<|.fa rfl<|.lo rfl<|.mo rfl<|.q (.bC d f.sg S rfl rfl rfl) ?_
 refine .lo rfl<|.q (.bI N.sg) ?_
 refine .ag rfl<|.zs ?_
 refine bz.cO [(6,_),(7,_),(8,_),(12,_),(28,_),(29,_),(30,_),(36,_),(37,_),(38,_),(42,_),(43,_),(44,_)] kE.c.c.c.c.c.c.c.c.c.c.c.c.c (X:=Unit) (λ_=>True) (λ_ E=>(72,.bool (!decide (d∈seen)))::E) (λ_=>[bl V (aH.enc ⟨k0,I,vn,a0,vu,a1,U,ll,nm⟩) 95,To,LL.flatMap (·.2),Ta,Tw,Tv,bl M [s,iN e] 81]) ?_ ?_
 refine .region<|.mo rfl<|.q .bU<|.mo rfl ?_
 refine .split (t:=58) rfl (λa=>?_) (λa=>?_)
 have g4:r=[]:=by
  have h9:=bT a
  exact ahc (by omega)
 have b1:(!decide (d∈seen))=true:=by
  rw[g4]at J
  simp only[List.getLast?_nil]at J
  have:¬d∈seen:=λh=>by have:=J.2 h;cases this
  simp[this]
 rw[b1]
 refine .gF a<|.gF a<|.gF a<|.gF a<|.gF a<|.gF a<|.gF a<|.gF a<|.gF a<|.gF a<|.gF a<|.gF a<|.gF a<|.q (.aT a) ?_
 refine .nil ?_
 ·exact aF () agu kE.c.c.c.c.c.c.c.c.c.c.c.c.c.c rH
 have h7:0<r.length:=by
  have h9:=bA a
  omega
 obtain⟨x,T⟩:∃x,r[r.length-1]? =some x:=⟨_,aZ (by omega)⟩
 have i9:PS (LL.flatMap (·.2)) (ez vk ((r.length-1)*1)) (da x):=⟨(N.pc T).mono λb o hb=>List.mem_flatMap.2 ⟨_,ba hk,hb⟩⟩
 have b1:(!decide (d∈seen))=((x:Int) !=(i:Nat)):=by
  rw[List.getLast?_eq_getElem?,T]at J
  by_cases h:d∈seen
  ·have h2:=J.2 h
   injection h2 with h2
   simp[h,h2]
  ·have h2:¬x=i:=λe=>h (J.1 (by rw[e]))
   have W:¬((x:Int)=(i:Int)):=by omega
   rw[bne_iff_ne.2 W]
   simp[h]
 rw[b1]
 refine .gT a<|.mo rfl<|.gT a<|.nc rfl<|.gT a<|.fa rfl<|.gT a<|.lo rfl<|.gT a<|.mo rfl<|.gT a<|.q (.bC d f.sg S rfl rfl rfl) ?_
 refine .gT a<|.lo rfl<|.gT a<|.mo rfl<|.gT a ?_
 refine .ia (r.length-1) .sub ?_
 refine .gT a<|.q (.bC (r.length-1) N.sg T rfl rfl rfl) ?_
 refine .gT a<|.lo rfl<|.gT a<|.mo rfl<|.gT a<|.q .eh<|.q (.aQ a) ?_
 refine .nil ?_
 ·exact aF () agu kE.c.c.c.c.c.c.c.c.c.c.c.c.c.c rH
 intro y hy
 refine au ?_
 refine bz.cO [(6,_),(7,_),(8,_),(28,_),(29,_),(30,_),(36,_),(37,_),(38,_),(42,_),(43,_),(44,_)] kE.c.c.c.c.c.c.c.c.c.c.c.c (X:=List iU×aw) (λy=>pJ vb y.1 y.2/\y.1.map (·.1.2)=(List.range ps.length).map λj=>gW P i (seen++[d]) j) (λ_ E=>E) (λy=>[bl V (aH.enc ⟨k0,I,vn,a0,vu,a1,U,ll,nm⟩) 95,y.2,y.1.flatMap (·.2),Ta,Tw,Tv,bl M [s,iN e] 81]) ?_ ?_
 refine .cond rfl (λh4=>?_) λh4=>?_
 have b3:¬d∈seen:=by simpa using h4
 refine bz.le (dD.refl _) (bk.eK (H':=[bl V (aH.enc ⟨k0,I,vn,a0,vu,a1,U,ll,nm⟩) 95,To,Tk,L1.flatMap (·.2)++L2.flatMap (·.2),Ta,Tw,Tv,bl M [s,iN e] 81]) (by
  rw[a8]
  simp only[ag9,List.flatMap_cons,ag5,ag6,agD]
  refine .append_left _ (.append_left _ ?_)
  simp only[<-agR]
  refine .append_right _ (.append_right _ (.append_right _ (.append_right _ (.append_right _ ?_))))
  exact ag7)) ?_
 refine .rU [1,1] [14,16] mixed ?_
 conv=>arg 3;simp only[take,rest,bJ,agH,agI]
 conv=>arg 5;simp only[take,rest,bJ,agH,agI]
 conv=>arg 9;simp only[take,rest,bJ,agH,agI]
 refine .tK 0 rfl .move ?_
 refine .tK 1 rfl (.mR rfl) ?_
 refine .tK 2 rfl (.fe rfl) ?_
 refine .tK 3 rfl (.ca rfl)<|.tK 4 rfl .move<|.tO 5 rfl .move<|.tO 6 rfl (.nilCheck rfl)<|.tO 7 rfl (.fieldAddr rfl)<|.tO 8 rfl (.ca rfl)<|.tO 9 rfl .move ?_
 refine .tO 10 rfl (.bC d f.sg S rfl rfl rfl) ?_
 refine .tO 11 rfl (.ca rfl)<|.tO 12 rfl .move ?_
 refine .sT 13 rfl ?_
 refine .gL (λg7=>?_)
 refine .nil (Next.sub ?_)
 refine .sT 14 rfl ?_
 refine .append N (RS.lits (xs:=[i]) rfl (by simp[da]) (by simp[da,aE])) (by simp only[agx];omega) (λv5 T5 d7=>?_)
 obtain⟨e1,c5,rfl,_⟩:=d7.shape
 refine .nil (Next.mod rfl ?_)
 refine RA.aK 15 rfl d f S rfl rfl rfl (by kernel_rfl) (λi7=>?_)
 refine .sT 16 rfl ?_
 refine .du d f S ((.slice e1 (r++[i]).length c5,r++[i]):fD) (λTn e8=>?_)
 refine .nil (Next.mod rfl ?_)
 refine RA.nil (by kernel_rfl) ?_
 ·exact aF (LL.set d ((.slice e1 (r++[i]).length c5,r++[i]),T5),Tn) ⟨⟨by simp only;rw[ag0];exact e8,λq hq=>by
    simp only at hq
    rw[d4]at hq
    rcases agG.1 hq with hq|hq
    ·exact a2 q (by rw[a8];exact agB _ hq)
    ·rcases agP.1 hq with rfl|hq
     ·exact d7
     ·exact a2 q (by rw[a8];exact ags _ (List.mem_cons_of_mem _ hq))⟩,by
    simp only
    refine RQ k (λx T=>?_) d6
    rw[d5,d2]
    by_cases e:x=d
    ·subst e;rw[ago ⟨rfl,b3⟩,ago rfl]
    ·rw[agn λh=>e h.1,agn e]⟩ kE.c.c.c.c.c.c.c.c.c.c.c.c (by
    simp only
    rw[d4]
    refine(aN [3,1,1,1,1,1,1,1]).trans (bk.eK ?_)
    simp only[take,rest,bJ,agH,agI,ag9,List.flatMap_cons,ag5,ag6,agD,agE,agz]
    refine .cons _ (.append_left _ ?_)
    simp only[<-agR]
    refine .append_right _ (.append_right _ (.append_right _ (.append_right _ (.append_right _ ?_))))
    exact ag7)
 have b3:d∈seen:=by simpa using h4
 refine .skip ?_
 ·exact aF (LL,To) ⟨⟨f,a2⟩,by
    simp only
    rw[k]
    refine aha λx _=>?_
    rw[d5,agn λh=>h.2 b3]⟩ kE.c.c.c.c.c.c.c.c.c.c.c.c rH
 intro x T
 obtain⟨e3,e5⟩:=x
 obtain⟨c0,b7⟩:=T
 simp only at c0 b7⊢
 rw[<-g2]at b7
 refine aS<|au<|.region ?_
 refine .ia (j+1) .add ?_
 refine .mo rfl<|.nil ?_
 ·exact bd (j+1,e3,e5) ⟨c7,c0,b7⟩ (by simp only;omega) kE.c.c.c.c.c.c.c.c.c.c.c.c rH
 have f7:H.length<=j:=by have:=bA W;omega
 rw[dB f7, <-g6]at k
 refine .exit<|bo<|bq<|bp<|aS<|au<|.region ?_
 refine .ia (m+1) .add ?_
 refine .mo rfl<|.nil ?_
 ·exact bd (m+1,LL,To) ⟨d0,D,k⟩ (by simp only;omega) kE.c.c.c.c.c.c.c.c.c rH
 have g1:ll.length<=m:=by have:=bA h2;omega
 rw[dB g1]at k
 have k:LL.map (·.1.2)=(List.range ps.length).map λj=>gW P (i+1) [] j:=by rw[k];exact aha λx _=>b0 x
 refine .exit<|bo<|bq<|bp<|au<|.sr<|.fa rfl<|.lo rfl<|.zn ?_
 refine .cond rfl (λh5=>?_) λh5=>?_
 have f6:I=true:=h5
 subst f6
 refine .region<|.mo rfl<|.mo rfl ?_
 refine .call [3,3] (Ct sb s e us vv vb vw L Ta Tw O ps _ Q.rx g3 (qi P i) g (by rw[Bx (by omega),a3]) (Y▸Z) i a4 (by omega)) (λu H' hu=>?_)
 obtain⟨e4,e6,e2,rfl,f1,f0,b9⟩:=hu
 rw[<-Y]at b9
 conv=>arg 8;simp only[rest,bJ,agE,agz]
 refine .nil<|aS<|au<|.region ?_
 refine .ia (i+1) .add ?_
 refine .mo rfl<|.nil ?_
 ·exact bd (i+1,e2,LL,(e4,e6,To)) ⟨a4,f1,by simp only;rw[a5];exact b9,by simp only;rw[a5];exact f0,D,k⟩ (by simp only;omega) kE.c.c.c.c (aN [3,3,0,0,1,1])
 have f3:I=false:=h5
 subst f3
 refine .skip<|aS<|au<|.region ?_
 refine .ia (i+1) .add ?_
 refine .mo rfl<|.nil ?_
 ·exact bd (i+1,L,LL,(Ta,Tw,To)) ⟨a4,O,by simp only;rw[a6 rfl];exact Z,by simp only;rw[a6 rfl];exact g,D,k⟩ (by simp only;omega) kE.c.c.c.c (aN [1,1,1,1,1,1])
 have c3:i=ps.length:=by have:=bA h1;omega
 rw[c3, <-a3,QV]at Z g
 have k:LL.map (·.1.2)=(List.range ps.length).map (fN P):=by
  rw[k,c3]
  refine aha λx _=>?_
  rw[<-a3]
  exact congrFun (DH P) x
 refine .exit<|bo<|bq<|bp<|au<|.sr<|.mo rfl<|.az rfl ?_
 refine .ret (aY _ (.one (.tmp rfl)) (aN [2,2,2,0,0]) ?_)
 ·exact⟨sb,vv,vb,vw,L,LL,Ta,Tw,Tv,To,rfl,rfl,i1,i2,i3,O,Z,g,n,D,k⟩
structure lG(ps:List aH)(us:ByteArray):Prop where
 ok:ka (ps.map aH.plain) us
 tr:∀p∈ps,∀i,i<p.nodes.length->(tree isWord p.nodes (i+1)).isSome=true
 nl:∀p∈ps,p.nodes.length<=1000000
 rl:∀p∈ps,∀q∈p.ll,q.2.length<=1000000
 n:ps.length<=2000000
 ed:oN (ps.map aH.plain)<=1000000000
theorem lG.ll{ps:List aH}{us:ByteArray}(h:lG ps us):∀p∈ps,p.ll.length=p.nodes.length:=λp c=>by
 have:=h.ok.ln p.plain (agy.2 ⟨p,c,rfl⟩)
 have a:p.plain.leads.length=p.ll.length:=by unfold aH.plain;simp
 have b:p.plain.nodes=p.nodes:=rfl
 rw[a,b]at this
 exact this
theorem lG.jl{ps:List aH}{us:ByteArray}(h:lG ps us):∀p∈ps,∀q∈p.ll,∀j∈q.2,j<ps.length:=λp b q c j a=>by
 have:=h.ok.lt p.plain (agy.2 ⟨p,b,rfl⟩) j (agZ.2 ⟨q.2,agy.2 ⟨q,c,rfl⟩,a⟩)
 rwa [agp]at this
def eG(b:Int)(K:Nat)(v:List Bool):List Bool×Nat×Int:=
 if b<1 then([],0,2)else if b<K then([],b.toNat+1,16)else(v,K,0)
theorem Qp(l:List Bool):dQ l<=l.length:=List.countP_le_length
theorem dR.more{ps:List bO}{us:ByteArray}{K k:Nat}{s t:QS}(h:dR ps us K s)(a:iM s.2)(b:dR ps us k t)(d:¬iM t.2):k<K:=by
 rcases Nat.lt_trichotomy k K with h1|h1|h1
 ·exact h1
 ·subst h1
  rw[h.dW b]at a
  exact absurd a d
 ·obtain⟨u,i,f,c⟩:=b.wR h1
  have e:=h.dW f
  subst e
  have:=c.1
  rw[a i]at this
  cases this
theorem CX(f:Value)(e:Nat)(us:ByteArray)(ps:List aH)(R:ay)(a8:RS R 8 aH.enc f ps)(b8:∀p∈ps,p.is R)(D:lG ps us)(b:Int)(M:b<=9223372036854775807)(K:Nat)(s:QS)(hK:dR (ps.map aH.plain) us K s)(hs:iM s.2):
  Spec prog 42 [.agg [f,iN e].toArray,.string us,.int .i64 b] R [] λu H'=>∃T,H'=[T]/\∃vo,u=.tuple [vo,.int .i64 ((eG b K s.1).2.1:Nat),.int .i64 (eG b K s.1).2.2].toArray/\OS 4 1 dE vo (eG b K s.1).1 T:=by
 have k7:=a8.aE
 have e8:∀p∈ps,∀u∈p.enc,aE u=true:=λp d=>(b8 p d).cV
 have e2:=D.n
 have e3:=D.ll
 have e0:=D.jl
 have e4:=D.nl
 have j3:=D.tr
 have e7:∀(i:Nat) (p:aH),ps[i]? =some p->(ps.map aH.plain)[i]? =some p.plain:=λi p d=>by rw[agq,d];rfl
 have e5:=S0 f e us ps
 have j6:=Ct
 have g8:=D.ed
 have a0:=D.ok
 have I:(ps.map aH.plain).length=ps.length:=agp _
 have d3:∀i,∀k∈fN (ps.map aH.plain) i,k<ps.length:=λi k hk=>by
  have:=(a0.sJ hk).1
  rwa [I]at this
 have d4:∀i,(fN (ps.map aH.plain) i).length<=ps.length:=λi=>by
  unfold fN
  refine agr (agv _ _) ?_
  rw[List.length_range,I]
  exact Nat.le_refl _
 have c0:=λk t (h:dR (ps.map aH.plain) us k t)=>(h.inv a0).li a0
 have d8:=λk t (h:dR (ps.map aH.plain) us k t)=>h.inv a0
 have h8:ja (ps.map aH.plain)<=2000000:=by
  unfold ja
  refine agr (Qp _) ?_
  rw[agp,I]
  exact e2
 have d6:∀(i:Nat) (p:aH) (vf:Nat->Bool),ps[i]? =some p->(eF (ps.map aH.plain) us).ex i vf=di p.plain us vf p.nodes.length:=λi p vf d=>by
  show(match (ps.map aH.plain)[i]? with|none=>false|some p=>di p us vf p.nodes.length)=_
  rw[e7 i p d];rfl
 obtain⟨P,hP⟩:∃P,P=ps.map aH.plain:=⟨_,rfl⟩
 rw[<-hP]at hK e7 g8 a0 d3 d4 c0 d8 h8 e5 I d6
 have k3:(List.replicate P.length false,kX P)=(List.replicate P.length false,P.map (·.found)):=rfl
 refine Spec.body func42 rfl results42 ntmps42 rfl<|.sr ?_
 refine .cb rfl (λb3=>?_)
 refine .ag rfl<|.ag rfl<|.ag rfl<|.zs<|.sr<|.mo rfl<|.q .lss<|.zn<|.cond rfl (λh1=>?_) λh1=>?_
 have N:b<1:=bT h1
 refine .sr<|.ag rfl<|.ag rfl<|.az rfl<|.ret (aJ (aY _ (.three (.tmp rfl) (.tmp rfl) (.tmp rfl)) (bk.eC.trans (aN [0])) ?_))
 ·exact⟨[],rfl,sZ,by unfold eG;rw[ago N];rfl,by unfold eG;rw[ago N];exact OS.nil⟩
 have N:¬b<1:=bA h1
 refine .kn<|.sr<|.q (.aM rfl)<|.mo rfl<|.call [] (e5 _ a8.rx (λp d=>(b8 p d).mono λb o M=>.inl M) e2 (λp d=>by rw[e3 p d];exact e4 p d) (λp d q hq=>⟨D.rl p d q hq,e0 p d q hq⟩)) (λu H' B=>?_)
 obtain⟨w,g,r,l,L,LL,O,Tw,Tv,To,rfl,rfl,i1,i2,i3,Q,J,a3,A,c9,j0⟩:=B
 conv=>arg 8;simp only[rest,bJ,agE,agz]
 refine .ag rfl<|.z<|.ag rfl<|.zs<|.block<|.cy [(2,_),(3,_),(9,_)] (X:=Nat×(List Bool×List Bool)×List dA×(aw×aw×aw)) (λy=>dR P us y.1 y.2.1/\(y.1:Int)<=b/\QI w f e us g r l y.2.2.1 y.2.2.2.1/\QW P y.2.1.2 y.2.2.1/\OS 4 1 dE l y.2.1.2 y.2.2.2.2.1/\OS 4 1 dE g y.2.1.1 y.2.2.2.2.2) (λy E=>(10,iN y.1)::E) (λy G=>y.2.2.2.1::y.2.2.2.2.1::y.2.2.2.2.2::G) (λy=>ja P+oN P-y.1) (0,(List.replicate P.length false,kX P),L,(O,Tw,Tv)) ⟨.start,by simp only;omega,Q,J,a3,by simp only;rw[I];exact A⟩ kE.c.c.c.c rH ?_
 rintro⟨k,⟨v,q⟩,L,⟨O,Tw,Tv⟩⟩ ⟨W,h0,Q,J,a3,A⟩
 simp only at W h0 Q J a3 A⊢
 have k2:=c0 _ _ W
 have d9:=d8 _ _ W
 have f1:v.length=ps.length:=by rw[<-I];exact d9.l1
 have i9:q.length=ps.length:=by rw[<-I];exact d9.l2
 obtain⟨vq,Tq,b7,b2,g2⟩:=Q
 have Q:QI w f e us g r l L O:=⟨vq,Tq,b7,b2,g2⟩
 have i5:=b2.aE
 have l6:PS O (pT w) [f,iN e,.string us,g,r,l,vq]:=PS.of (E:=206) (fr:=(0,0)) (by rw[b7];simp)
 have j1:RS (sg O) 2 dA.enc vq L:=b2.rs λp d=>by rw[b7];exact ags _ d
 refine .seq<|.sr<|.mo rfl<|.nc rfl<|.fa rfl<|.lo rfl<|.aX (Cs vq L _ j1.nq) (λu B=>?_)
 subst B
 refine .q .gtr<|.zn<|.cond rfl (λh2=>?_) λh2=>?_
 have g1:0<L.length:=cg h2
 obtain⟨x,hx⟩:=bQ g1
 obtain⟨h9,_,k5⟩:=Ad J.p J.h hx
 have k1:k<K:=hK.more hs W λh=>by have:=h9.1;rw[h x.2]at this;cases this
 have j9:=c0 _ _ hK
 refine .kn<|.block<|.seq<|.sr<|.mo rfl<|.mo rfl<|.q .bU<|.zn<|.cond rfl (λh3=>?_) λh3=>?_
 have e1:(k:Int)=b:=by simpa using h3
 refine .sr<|.mo rfl<|.ia (k+1) .add<|.ag rfl<|.ag rfl<|.az rfl<|.ret (aJ (bw (cG (bw (aJ (aY _ (.three (.tmp rfl) (.tmp rfl) (.tmp rfl)) (bk.eC.trans (aN [0])) ?_))))))
 ·have d2:b<(K:Int):=by omega
  exact⟨[],rfl,sZ,by unfold eG;rw[agn N,ago d2];simp only;rw[<-e1];rfl,by unfold eG;rw[agn N,ago d2];exact OS.nil⟩
 have e1:(k:Int)≠b:=by simpa using h3
 refine .kn<|.sr<|.mo rfl<|.ia (k+1) .add<|.ag rfl<|.z<|.mo rfl<|.call [0,0] (S1 w f e us g r l L O Tw Q _ P q a3 J x hx) (λu H' B=>?_)
 obtain⟨Y,b0,a9,rfl,rfl,a5,b5,b6,e6,j7⟩:=B
 obtain⟨xa,i⟩:=x
 simp only at e6 j7 b5 b6
 conv=>arg 8;simp only[rest,bJ,agE,agz]
 have d7:i<ps.length:=by omega
 obtain⟨bi,a7⟩:∃b,v[i]? =some b:=⟨_,aZ (by omega)⟩
 have j4:v.getD i false=bi:=by rw[agw,a7];rfl
 obtain⟨p,d⟩:=bQ d7
 have V:=ba d
 have k6:cB p.enc:=⟨e8 p V⟩
 have g9:=d6 i p (λj=>v.getD j false) d
 obtain⟨c3,f4,d0,c6,g3⟩:=a5
 have a5:QI w f e us g r l a9 Y:=⟨c3,f4,d0,c6,g3⟩
 have i6:=c6.aE
 have j8:PS Y (pT w) [f,iN e,.string us,g,r,l,c3]:=PS.of (E:=206) (fr:=(0,0)) (by rw[d0];simp)
 have F:=dR.step W e6
 have i4:rS P us (v,q) i=if v.getD i false|| !(eF P us).ex i (λj=>v.getD j false)then(v,q.set i false)else(v.set i true,(fN P i).foldl (gS (v.set i true)) (q.set i false)):=rfl
 rw[i4,j4,g9]at F
 refine .ag rfl<|.zs<|.seq ?_
 refine bz.cO [(2,_),(3,_),(9,_),(10,_),(11,_)] kE.c.c.c.c.c (X:=Unit) (λ_=>True) (λ_ E=>(50,.bool (bi|| !di p.plain us (λj=>v.getD j false) p.nodes.length))::E) (λ_=>[Y,b0,Tv,To,LL.flatMap (·.2),bl b3 [f,iN e] 81]) ?_ ?_
 refine .region<|.mo rfl<|.nc rfl<|.fa rfl<|.lo rfl<|.mo rfl ?_
 refine .aK i A a7 (λk8=>?_)
 refine .lo rfl<|.mo rfl<|.split (t:=41) rfl (λa=>?_) (λa=>?_)
 refine .gF a<|.gF a<|.gF a<|.gF a<|.gF a<|.gF a<|.gF a<|.gF a<|.q (.aT a)<|.nil ?_
 ·exact aF () agu (kE.c.c.c.c.c.bV rfl (by rw[a];rfl)) rH
 refine .gT a<|.mo rfl<|.gT a<|.fa rfl<|.gT a<|.lo rfl<|.gT a<|.mo rfl<|.gT a ?_
 refine .bC i a8 d (λk9=>?_)
 refine .gT a<|.q (.aM rfl)<|.gT a<|.aX (S4 w f e us g r l c3 p v _ ((b8 p V).mono λb o M=>.inl M) (A.sg.nq) (j8.h.mono λb o M=>.inr (by simp[sg]at M;simp[M])) (e3 p V) (e4 p V) (λq hq j hj=>by rw[f1];exact e0 p V q hq j hj) (j3 p V)) (λu B=>?_)
 subst B
 refine .gT a<|.q .not<|.q (.aQ a)<|.nil ?_
 ·exact aF () agu (kE.c.c.c.c.c.bV rfl (by rw[a];rfl)) rH
 intro y hy
 refine au<|.cond rfl (λh4=>?_) λh4=>?_
 rw[h4]at F
 simp only[if_true]at F
 refine .exit<|bo<|bp ?_
 ·exact bd (k+1,(v,q.set i false),a9,(Y,b0,Tv)) ⟨F,by simp only;omega,a5,b6,b5,A⟩ (by simp only;omega) kE.c.c.c.c rH
 rw[h4]at F
 simp only[ahb,if_false]at F
 obtain⟨vk,Tk,hk⟩:=BT j0 d7
 have c5:=c9.1
 have a2:=c9.2 _ (ba hk)
 simp only at a2
 have i7:One vk:=a2.aE
 have e9:(LL.map (·.1))[i]? =some (vk,fN P i):=by rw[agq,hk];rfl
 have l4:PS To (ez r (i*1)) (eg (vk,fN P i)):=⟨c5.pc e9⟩
 have g7:=d3 i
 have k0:=d4 i
 generalize fN P i=row at *
 obtain⟨C,c2⟩:∃C,C=v.set i true:=⟨_,rfl⟩
 rw[<-c2]at F
 have k4:C.length=ps.length:=by rw[c2,agV];exact f1
 have f0:RS (sg (LL.flatMap (·.2))) 1 da vk row:=a2.rs λp d=>List.mem_flatMap.2 ⟨_,ba hk,d⟩
 refine .kn<|.sr<|.mo rfl<|.nc rfl<|.fa rfl<|.lo rfl<|.mo rfl ?_
 refine .aK i A a7 (λl0=>?_)
 refine .du i A a7 true (λf6 b4=>?_)
 rw[<-c2]at b4
 refine .z<|.mo rfl<|.nc rfl<|.fa rfl<|.lo rfl<|.mo rfl<|.q (.bC i c5.sg e9 rfl rfl rfl)<|.lo rfl<|.q (.bI a2.sg)<|.mo rfl<|.zn<|.block<|.cy [(2,_),(3,_),(9,_),(10,_),(63,_),(64,_)] (X:=Nat×List Bool×List dA×(aw×aw)) (λy=>y.1<=row.length/\y.2.1=(row.take y.1).foldl (gS C) (q.set i false)/\QI w f e us g r l y.2.2.1 y.2.2.2.1/\QW P y.2.1 y.2.2.1/\OS 4 1 dE l y.2.1 y.2.2.2.2) (λy E=>(65,iN y.1)::E) (λy G=>y.2.2.2.1::y.2.2.2.2::G) (λy=>row.length-y.1) (0,q.set i false,a9,(Y,b0)) ⟨agt _,rfl,a5,b6,b5⟩ kE.c.c.c.c.c.c.c rH ?_
 rintro⟨m,H,L3,⟨Z,b1⟩⟩ ⟨hm,a1,S,a6,a4⟩
 simp only at hm a1 S a6 a4⊢
 have i0:H.length=ps.length:=by rw[a1,xE,agV];exact i9
 obtain⟨f2,f5,d1,c7,g4⟩:=S
 have S:QI w f e us g r l L3 Z:=⟨f2,f5,d1,c7,g4⟩
 have i8:=c7.aE
 have l7:PS Z (pT w) [f,iN e,.string us,g,r,l,f2]:=PS.of (E:=206) (fr:=(0,0)) (by rw[d1];simp)
 refine .sr<|.q .lss<|.zs<|.cond rfl (λh5=>?_) λh5=>?_
 have c1:m<row.length:=cg h5
 obtain⟨t,ht⟩:=bQ c1
 have j2:t<ps.length:=g7 t (ba ht)
 have l5:PS (LL.flatMap (·.2)) (ez vk (m*1)) (da t):=⟨f0.pc ht⟩
 obtain⟨bt,d5⟩:∃b,C[t]? =some b:=⟨_,aZ (by omega)⟩
 have j5:C.getD t false=bt:=by rw[agw,d5];rfl
 have U:(row.take (m+1)).foldl (gS C) (q.set i false)=if bt then H else H.set t true:=by
  rw[dS ht,List.foldl_append, <-a1]
  show gS C H t=_
  unfold gS
  rw[j5]
 refine .kn<|.seq<|.block<|.sr<|.q (.bC m f0 ht rfl rfl rfl)<|.lo rfl<|.ag rfl<|.z<|.mo rfl<|.nc rfl<|.fa rfl<|.lo rfl<|.mo rfl ?_
 refine .aK t b4 d5 (λl3=>?_)
 refine .lo rfl<|.q .not<|.zn<|.cond rfl (λh6=>?_) λh6=>?_
 have b9:bt=false:=by simpa using h6
 rw[b9]at U
 simp only[ahb,if_false]at U
 refine .region<|.mo rfl<|.mo rfl<|.call [0,0] (j6 w f e us g r l L3 Z b1 S ps _ a8.rx e8 H a4 i0 (hP▸a6) t j2 (by omega)) (λu H' B=>?_)
 obtain⟨f3,f7,L4,rfl,g6,g5,c8⟩:=B
 rw[<-hP]at c8
 conv=>arg 8;simp only[rest,bJ,agE,agz]
 refine .nil<|aS<|au<|.region<|.ia (m+1) .add<|.mo rfl<|.nil ?_
 ·exact bd (m+1,H.set t true,L4,(f3,f7)) ⟨c1,U.symm,g6,c8,g5⟩ (by simp only;omega) kE.c.c.c.c.c.c.c rH
 have b9:bt=true:=by simpa using h6
 rw[b9]at U
 simp only[if_true]at U
 refine .skip<|aS<|au<|.region<|.ia (m+1) .add<|.mo rfl<|.nil ?_
 ·exact bd (m+1,H,L3,(Z,b1)) ⟨c1,U.symm,S,a6,a4⟩ (by simp only;omega) kE.c.c.c.c.c.c.c rH
 have h7:row.length<=m:=by have:=bA h5;omega
 rw[dB h7]at a1
 refine .exit<|bo<|bq<|bp<|aS ?_
 ·exact bd (k+1,(C,H),L3,(Z,b1,f6)) ⟨by rw[a1];exact F,by simp only;omega,S,a6,a4,b4⟩ (by simp only;omega) kE.c.c.c.c rH
 have g0:L=[]:=ahc (by have:=bA h2;omega)
 obtain⟨f8,f9⟩:=hK.last hs W (Pe J.p g0)
 have c4:¬b<(K:Int):=by omega
 refine .exit<|bo<|bq<|bp<|au<|.sr<|.mo rfl<|.nc rfl<|.fa rfl<|.lo rfl<|.mo rfl<|.ag rfl<|.ag rfl<|.az rfl<|.ret (aY _ (.three (.tmp rfl) (.tmp rfl) (.tmp rfl)) (aN [2]) ?_)
 ·exact⟨Tv,rfl,g,by unfold eG;rw[agn N,agn c4,f8],by unfold eG;rw[agn N,agn c4,f9];exact A⟩
theorem OR(us d c a b:ByteArray){si:ByteArray}:jU ⟨us,d,si,c⟩ ⟨a,b⟩=((!decide (us=⟨#[]⟩)&&decide (a=⟨#[]⟩)&&decide (b=⟨#[]⟩))||(decide (us=⟨#[]⟩)&& !decide (a=⟨#[]⟩)&&decide (a=d)&&decide (b=c))):=by
 unfold jU
 by_cases h:us=⟨#[]⟩<;>simp[h]
theorem Q5(c:bL)(R:ay)(h:c.is R)(hf:c.ik)(t:aB):Spec prog 148 [.agg c.enc.toArray,.agg t.enc.toArray] R [] λu H'=>u=.bool (allowed c.plain t.cQ t.sub)/\H'=[]:=by
 have a4:=tP c R h hf
 have a0:=wv h
 have n:allowed c.plain t.cQ t.sub=match bW c.plain.all ⟨t.os,t.rel⟩with
  |none=>false
  |some i=>((c.plain.all.map (·.2.types)).getD i []).any (jU t.sub):=rfl
 have Q:=oO c
 obtain⟨k,U,l,m,v,si,s⟩:=t
 have a5:aB.sub ⟨k,U,l,m,v,si,s⟩=⟨m,v,si,s⟩:=rfl
 rw[a5]at n⊢
 refine Spec.body func148 rfl results148 ntmps148 rfl<|.sr ?_
 refine .cb rfl (λV=>?_)
 refine .cb rfl (λW=>?_)
 refine .ag rfl<|.z<|.q (.aM rfl)<|.cX (a4.weaken cM) (λu I M=>?_)
 have a1:qL (λb o=>R b o\/(b,o)∈I) u c.fQ:=⟨M.rs λp hp=>.inr hp,λx B=>(a0 x B).mono λb o D=>.inl D⟩
 refine .ag rfl<|.z<|.mo rfl<|.fa rfl<|.fa rfl<|.lo rfl<|.fa rfl<|.lo rfl<|.aX ((oU _ _ _ a1 k l).weaken λb o D=>D.elim .inl λD=>.inr (by simp[D])) (λw hw=>?_)
 subst hw
 rw[Q]
 refine .ag rfl<|.zs<|.sr<|.mo rfl<|.q .lss<|.zn<|.cond rfl (λA=>?_) λA=>?_
 have hn:bW c.plain.all ⟨k,l⟩=none:=by
  cases hh:bW c.plain.all ⟨k,l⟩with
  |none=>rfl
  |some i=>rw[hh]at A;simp only[fI]at A;have:=bT A;omega
 refine .sr<|.az rfl<|.ret (aJ (aP rfl ?_))
 ·exact⟨by rw[n,hn],rfl⟩
 obtain⟨i,O⟩:∃i,bW c.plain.all ⟨k,l⟩=some i:=by
  cases hh:bW c.plain.all ⟨k,l⟩with
  |none=>rw[hh]at A;simp[fI]at A
  |some i=>exact⟨i,rfl⟩
 rw[O]
 have a2:i<c.fQ.length:=by have:=wV O;rw[<-Q,agp]at this;exact this
 obtain⟨⟨sn,vt,vn,r⟩,B⟩:=bQ a2
 have a6:=a0 _ (ba B)
 have T:RS R 2 Ty.enc vt r.types:=a6.t
 have a3:(c.plain.all.map (·.2.types)).getD i []=r.types:=by
  rw[agw,agq, <-Q,agq,B];rfl
 rw[O]at n
 simp only[a3]at n
 have a7:=T.le
 refine .kn<|.seq<|.sr<|.az rfl<|.block<|.cy [(3,_),(5,_),(6,_)] (X:=Nat) (λj=>j<=r.types.length/\(r.types.take j).any (jU ⟨m,v,si,s⟩)=false) (λj E=>(7,iN j)::E) (λ_ G=>G) (λj=>r.types.length-j) 0 ⟨agt _,rfl⟩ kE.c.c.c.c rH ?_
 rintro j ⟨hj,S⟩
 refine .seq<|.sr<|.mo rfl<|.mo rfl<|.mo rfl ?_
 refine .aK i M B (λa8=>?_)
 refine .fa rfl<|.fa rfl<|.lo rfl<|.q (.bI T)<|.q .lss<|.zn<|.cond rfl (λJ=>?_) λJ=>?_
 have Z:j<r.types.length:=cg J
 obtain⟨⟨C,F⟩,H⟩:=bQ Z
 have N:=OR m v s C F (si:=si)
 refine .kn<|.seq<|.block<|.sr<|.mo rfl<|.mo rfl ?_
 refine .aK i M B (λa9=>?_)
 refine .fa rfl<|.fa rfl<|.lo rfl<|.mo rfl ?_
 refine .bC j T H (λb0=>?_)
 refine .q (.aM rfl) ?_
 refine .bX (λY=>?_)
 refine .bN rfl rfl<|.zs<|.seq ?_
 refine bz.cO [(3,_),(5,_),(6,_),(7,_),(8,_)] kE.c.c.c.c.c (X:=Unit) (λ_=>True) (λ_ E=>(53,.bool (!decide (m=⟨#[]⟩)&&decide (C=⟨#[]⟩)&&decide (F=⟨#[]⟩)))::E) (λ_=>[bl Y (Ty.enc ⟨C,F⟩) 249,I,bl W (aB.enc ⟨k,U,l,m,v,si,s⟩) 119,bl V c.enc 25]) ?_ ?_
 refine .region<|.fa rfl<|.fa rfl<|.lo rfl<|.q .fP<|.mo rfl<|.split (t:=44) rfl (λf=>?_) (λf=>?_)
 refine .gT f<|.fa rfl<|.gT f<|.lo rfl<|.gT f<|.q .dF<|.q (.aT f)<|.mo rfl<|.split (t:=49) rfl (λg=>?_) (λg=>?_)
 refine .gT g<|.fa rfl<|.gT g<|.lo rfl<|.gT g<|.q .dF<|.q (.aT g)<|.nil ?_
 ·exact aF () agu (kE.c.c.c.c.c.bV rfl (by grind)) rH
 refine .gF g<|.gF g<|.gF g<|.q (.aQ g)<|.nil ?_
 ·exact aF () agu (kE.c.c.c.c.c.bV rfl (by grind)) rH
 refine .gF f<|.gF f<|.gF f<|.q (.aQ f)<|.mo rfl<|.gX<|.gX<|.gX<|.q .cR<|.nil ?_
 ·exact aF () agu (kE.c.c.c.c.c.bV rfl (by grind)) rH
 intro y hy
 refine au<|.cond rfl (λK=>?_) λK=>?_
 refine .sr<|.az rfl<|.ret (aJ (bw (aJ (cG (bw (aJ (aP rfl ?_)))))))
 ·exact⟨by rw[n,ot H (by rw[N,K];rfl)],rfl⟩
 refine .kn<|.seq ?_
 refine bz.cO [(3,_),(5,_),(6,_),(7,_)] kE.c.c.c.c (X:=Unit) (λ_=>True) (λ_ E=>(79,.bool (decide (m=⟨#[]⟩)&& !decide (C=⟨#[]⟩)&&decide (C=v)&&decide (F=s)))::E) (λ_=>[bl Y (Ty.enc ⟨C,F⟩) 249,I,bl W (aB.enc ⟨k,U,l,m,v,si,s⟩) 119,bl V c.enc 25]) ?_ ?_
 refine .region<|.fa rfl<|.fa rfl<|.lo rfl<|.q .dF<|.mo rfl<|.split (t:=58) rfl (λe=>?_) (λe=>?_)
 refine .gT e<|.fa rfl<|.gT e<|.lo rfl<|.gT e<|.q .fP<|.q (.aT e)<|.mo rfl<|.split (t:=63) rfl (λa=>?_) (λa=>?_)
 refine .gT a<|.fa rfl<|.gT a<|.lo rfl<|.gT a<|.fa rfl<|.gT a<|.fa rfl<|.gT a<|.fa rfl<|.gT a<|.lo rfl<|.gT a<|.q .dF<|.q (.aT a)<|.mo rfl<|.split (t:=72) rfl (λd=>?_) (λd=>?_)
 refine .gT d<|.fa rfl<|.gT d<|.lo rfl<|.gT d<|.fa rfl<|.gT d<|.fa rfl<|.gT d<|.lo rfl<|.gT d<|.q .dF<|.q (.aT d)<|.nil ?_
 ·exact aF () agu (kE.c.c.c.c.bV rfl (by grind)) rH
 refine .gF d<|.gF d<|.gF d<|.gF d<|.gF d<|.gF d<|.q (.aQ d)<|.nil ?_
 ·exact aF () agu (kE.c.c.c.c.bV rfl (by grind)) rH
 refine .gF a<|.gF a<|.gF a<|.gF a<|.gF a<|.gF a<|.gF a<|.q (.aQ a)<|.mo rfl<|.gX<|.gX<|.gX<|.gX<|.gX<|.gX<|.q .cR<|.nil ?_
 ·exact aF () agu (kE.c.c.c.c.bV rfl (by grind)) rH
 refine .gF e<|.gF e<|.gF e<|.q (.aQ e)<|.mo rfl<|.gX<|.gX<|.gX<|.gX<|.gX<|.gX<|.gX<|.q .cR<|.mo rfl<|.gX<|.gX<|.gX<|.gX<|.gX<|.gX<|.q .cR<|.nil ?_
 ·exact aF () agu (kE.c.c.c.c.bV rfl (by grind)) rH
 intro y hy
 refine au<|.cond rfl (λL=>?_) λL=>?_
 refine .sr<|.az rfl<|.ret (bw (aJ (cG (bw (aJ (aP rfl ?_))))))
 ·exact⟨by rw[n,ot H (by rw[N,L,Bool.or_true])],rfl⟩
 refine .skip<|aS<|au<|.region<|.mo rfl<|.ia (j+1) .add<|.ag rfl<|.nil ?_
 ·exact bd (j+1) ⟨Z,qP H S (by rw[N,K,L];rfl)⟩ (by omega) kE.c.c.c.c (bk.drop [0] _)
 refine .exit<|bo<|bq<|bp<|au<|.sr<|.az rfl<|.ret (aP rfl ?_)
 ·rw[dB (il J)]at S
  exact⟨by rw[n,S],rfl⟩
theorem BN(c:bL)(R:ay)(h:c.is R)(I:c.ik){b:Nat}{S:cT}{V:Value}{L:List bB}(F:DV R b S V L)(N:L.length<=512)(rev:Int)(k:bf)(sub:bf->List Sub)(A:sub=λk=>if scan S rev then(L.filter λy=>y.there rev&&decide (y.t.cQ=k)).map (·.t.sub)else []):
  Spec prog 88 [.agg c.enc.toArray,pT b,.int .u64 rev,.agg [.string k.os,.string k.oi].toArray,.string k.rel] R [] λu H'=>∃T,H'=[T]/\OS 117 4 Sub.enc u (fitting c.plain sub k) T:=by
 have H:=Q5 c R h I
 have i1:One c.vs:=RS.aE h.ss
 have i2:One c.vc:=RS.aE h.sc
 have a2:(sub k).length<=512:=by
  rw[A]
  simp only
  split
  ·rw[agp]
   exact agr (agv _ _) N
  ·simp
 have J:fitting c.plain sub k=(sub k).filter (allowed c.plain k):=rfl
 have O:sub k=if scan S rev then(L.filter λy=>y.there rev&&decide (y.t.cQ=k)).map (·.t.sub)else []:=by rw[A]
 rw[J]
 generalize a0:sub k=l at *
 have K:∀i,((l.take i).filter (allowed c.plain k)).length<=512:=λi=>agr (agv _ _) (by rw[agF];omega)
 refine Spec.body func88 rfl results88 ntmps88 rfl<|.sr ?_
 refine .cb rfl (λb5=>?_)
 refine .cb rfl (λb8=>?_)
 refine .ag rfl<|.z<|.ag rfl<|.z<|.mo rfl<|.q (.aM rfl)<|.mo rfl<|.mo rfl<|.cX ((F.TE (by omega) k rev).weaken cM) (λu Y d=>?_)
 rw[<-O]at d
 have iu:=d.aE
 refine .ag rfl<|.zs<|.sr<|.az rfl<|.block<|.cy [(4,_),(5,_),(8,_),(12,_)] (X:=Nat×Value×aw) (λy=>y.1<=l.length/\OS 117 4 Sub.enc y.2.1 ((l.take y.1).filter (allowed c.plain k)) y.2.2) (λy E=>(13,iN y.1)::(11,y.2.1)::E) (λy G=>y.2.2::G) (λy=>l.length-y.1) (0,sZ,[]) ⟨agt _,OS.nil⟩ kE.c.c.c.c.c.c bk.eC ?_
 rintro⟨i,W,x⟩ ⟨M,a⟩
 simp only at M a⊢
 have io:=a.aE
 refine .seq<|.sr<|.mo rfl<|.mo rfl<|.q (.dG d)<|.q .lss<|.zn<|.cond rfl (λm=>?_) λm=>?_
 have o:i<l.length:=cg m
 obtain⟨s,r⟩:=bQ o
 have a1:=K i
 have B:=dS r
 obtain⟨j,g,e,f⟩:=s
 refine .kn<|.seq<|.block<|.seq<|.dm 8 mixed (by kernel_rfl) ?_
 conv=>arg 6;dsimp only[List.take]
 refine .q (.aM rfl)<|.q (.aM rfl)<|.mo rfl<|.mo rfl<|.mo rfl ?_
 refine .aK i d r (λa3=>?_)
 refine .q (.aM rfl)<|.q .cL<|.nil<|.aX ((H ⟨k.os,k.oi,k.rel,j,g,e,f⟩).weaken cM) (λw Q=>?_)
 subst Q
 refine .zn<|.cond rfl (λn=>?_) λn=>?_
 have v:allowed c.plain k ⟨j,g,e,f⟩=true:=n
 have p:(l.take (i+1)).filter (allowed c.plain k)=(l.take i).filter (allowed c.plain k)++[(⟨j,g,e,f⟩:Sub)]:=by rw[B,agK];simp[v]
 refine .region<|.mo rfl<|.mo rfl<|.mo rfl ?_
 refine .aK i d r (λa4=>?_)
 refine .q (.aM rfl) ?_
 refine .dN (λZ=>?_)
 refine .append a (RS.lits (xs:=[(⟨j,g,e,f⟩:Sub)]) rfl (by simp[Sub.enc]) (by simp[Sub.enc,aE])) (by simp only[agx];omega) (λU D C=>?_)
 rw[<-p]at C
 refine .ag rfl<|.nil<|aS<|au<|.region<|.mo rfl<|.ia (i+1) .add<|.ag rfl<|.nil ?_
 ·exact bd (i+1,U,D) ⟨o,C⟩ (by simp only;omega) kE.c.c.c.c.c.c (bk.drop [0] _)
 have v:allowed c.plain k ⟨j,g,e,f⟩=false:=n
 have p:(l.take (i+1)).filter (allowed c.plain k)=(l.take i).filter (allowed c.plain k):=by rw[B,agK];simp[v]
 refine .skip<|aS<|au<|.region<|.mo rfl<|.ia (i+1) .add<|.ag rfl<|.nil ?_
 ·exact bd (i+1,W,x) ⟨o,by simp only;rw[p];exact a⟩ (by simp only;omega) kE.c.c.c.c.c.c rH
 refine .exit<|bo<|bq<|bp<|au<|.sr<|.mo rfl<|.az rfl<|.ret (aY _ (.one (.tmp rfl)) (.one [0] _) ?_)
 ·rw[dB (il m)]at a
  exact⟨x,by simp[take],a⟩
theorem Ref.eqv(a b c d:ByteArray):eE [Value.string a,.string b] [Value.string c,.string d]=decide (a=c/\b=d):=by
 have:=Ty.eq ⟨a,b⟩ ⟨c,d⟩
 simp only[Ty.enc,Ty.mk.injEq]at this
 exact this
theorem Rh(v:Value)(ps:List aH)(R:ay)(h:RS R 8 aH.enc v ps)(k:bf):
  Spec prog 90 [v,.agg [.string k.os,.string k.oi].toArray,.string k.rel] R [] λu H'=>u=.int .i64 (fI (fi (ps.map aH.plain) k))/\H'=[]:=by
 have K:=h.le
 obtain⟨os,oi,rel⟩:=k
 refine Spec.body func90 rfl results90 ntmps90 rfl<|.sr ?_
 refine .cb rfl (λA=>?_)
 refine .ag rfl<|.zs<|.sr<|.az rfl<|.block<|.cy [(0,_),(2,_),(4,_)] (X:=Nat) (λi=>i<=ps.length/\∀j p,j<i->ps[j]? =some p->p.k≠⟨os,oi,rel⟩) (λi E=>(7,iN i)::E) (λ_ G=>G) (λi=>ps.length-i) 0 ⟨agt _,λj x f=>absurd f (by omega)⟩ kE.c.c.c.c rH ?_
 rintro i ⟨J,w⟩
 refine .seq<|.sr<|.mo rfl<|.mo rfl<|.q (.bI h)<|.q .lss<|.zn<|.cond rfl (λn=>?_) λn=>?_
 have s:i<ps.length:=cg n
 obtain⟨p,g⟩:=bQ s
 have L:cB p.enc:=⟨h.one p (ba g)⟩
 obtain⟨⟨d,b,m⟩,I,V,N,W,T,U,M,O⟩:=p
 refine .kn<|.seq<|.block<|.seq ?_
 refine bz.cO [(0,_),(2,_),(4,_),(7,_)] kE.c.c.c.c (X:=Unit) (λ_=>True) (λ_ E=>(29,.bool (decide (d=os/\b=oi)&&decide (m=rel)))::E) (λ_=>[bl A [.string os,.string oi] 44]) ?_ ?_
 refine .fS mixed (by kernel_rfl)<|.mo rfl<|.mo rfl ?_
 refine .bC i h g (λQ=>?_)
 refine .fa rfl<|.q (.loadT rfl)<|.q (.aM rfl)<|.q (.cast (.mJ (xs:=[.string d,.string b]) (ys:=[.string os,.string oi]) rfl rfl (Ty.kinds ⟨d,b⟩) (Ty.kinds ⟨os,oi⟩)) (agA Value.bool (Ref.eqv d b os oi)))<|.mo rfl<|.split (t:=21) rfl (λa=>?_) (λa=>?_)
 refine .gT a<|.mo rfl<|.gT a<|.mo rfl<|.gT a ?_
 refine .bC i h g (λS=>?_)
 refine .gT a<|.fa rfl<|.gT a<|.lo rfl<|.gT a<|.mo rfl<|.gT a<|.q .dF<|.q (.aT a)<|.nil ?_
 ·exact aF () agu (kE.c.c.c.c.bV rfl (by grind)) rH
 refine .gF a<|.gF a<|.gF a<|.gF a<|.gF a<|.gF a<|.gF a<|.q (.aQ a)<|.nil ?_
 ·exact aF () agu (kE.c.c.c.c.bV rfl (by grind)) rH
 intro y z
 refine au<|.cond rfl (λo=>?_) λo=>?_
 refine .sr<|.mo rfl<|.az rfl<|.ret (bw (aJ (cG (bw (aJ (aP rfl ?_))))))
 ·refine⟨?_,rfl⟩
  have r:(d=os/\b=oi)/\m=rel:=by simpa using o
  have:fi (ps.map aH.plain) ⟨os,oi,rel⟩=some i:=by
   unfold fi
   rw[List.findIdx?_eq_some_iff_getElem]
   refine⟨by rw[agp];exact s,?_,λj f=>?_⟩
   ·have e:=(agC.1 g).2
    rw[List.getElem_map,e]
    exact decide_eq_true (by show(⟨d,b,m⟩:bf)=_;rw[r.1.1,r.1.2,r.2])
   ·rw[List.getElem_map]
    have:=w j _ f (aZ (by omega))
    exact λB=>this (bT B)
  rw[this]
  rfl
 refine .skip<|aS<|au<|.region<|.mo rfl<|.ia (i+1) .add<|.ag rfl<|.nil ?_
 ·exact bd (i+1) ⟨s,λj x f l=>by
   rcases agT j i with hh|hh
   ·exact w j x hh l
   ·obtain rfl:j=i:=by omega
    rw[g]at l
    cases l
    intro C
    injection C with k1 k2 k3
    have D:d=os:=k1
    have F:b=oi:=k2
    have H:m=rel:=k3
    subst D;subst F;subst H
    simp at o⟩ (by omega) kE.c.c.c.c rH
 refine .exit<|bo<|bq<|bp<|au<|.sr<|.az rfl<|.ret (aP rfl ?_)
 ·refine⟨?_,rfl⟩
  have:fi (ps.map aH.plain) ⟨os,oi,rel⟩=none:=by
   unfold fi
   rw[List.findIdx?_eq_none_iff]
   intro x l
   obtain⟨y,z,rfl⟩:=agy.1 l
   obtain⟨j,f,e⟩:=agX.1 z
   have:=w j y (by have:=bA n;omega) (by rw[aZ f,e])
   exact decide_eq_false this
  rw[this]
  rfl
def sG(c:Cf)(sub:bf->List Sub)(k:bf)(n:Nd):List Sub:=(ee c sub k n).map λx=>⟨⟨#[]⟩,x.os,x.oi,x.rel⟩
theorem Q3(c:bL)(R:ay)(h:c.is R)(hf:c.ik){b:Nat}{S:cT}{vL:Value}{L:List bB}(hD:DV R b S vL L)(hl:L.length<=512)(rev:Int)(sub:bf->List Sub)(a6:sub=λk=>if scan S rev then(L.filter λy=>y.there rev&&decide (y.t.cQ=k)).map (·.t.sub)else [])(k:bf)(N:List Value)(n:Nd) [ie:cB N](a9:N.length=5):
  Spec prog 89 [.agg c.enc.toArray,pT b,.int .u64 rev,.agg (.string k.os:: .string k.oi:: .string k.rel::N).toArray,.agg n.enc.toArray] R [] λu H'=>∃T,H'=[T]/\OS 117 4 Sub.enc u (sG c.plain sub k n) T:=by
 obtain⟨Z,x4,x5,x6,x7,rfl⟩:∃a b c d f,N=[a,b,c,d,f]:=by
  match N,a9 with
  |[a,b,c,d,f],_=>exact⟨a,b,c,d,f,rfl⟩
 have c1:cB (Value.string k.os:: .string k.oi:: .string k.rel::[Z,x4,x5,x6,x7]):=⟨λu hu=>by
  simp only[agP,agY,or_false]at hu
  rcases hu with rfl|rfl|rfl|hu
  ·rfl
  ·rfl
  ·rfl
  ·exact ie.h u (by simpa using hu)⟩
 have V:=λk=>BN c R h hf hD hl rev k sub a6
 have Y:∀k,(fitting c.plain sub k).length<=512:=λk=>by
  unfold fitting
  refine agr (agv _ _) ?_
  rw[a6]
  simp only
  split
  ·rw[agp]
   exact agr (agv _ _) hl
  ·simp
 have W:∀k,fU c.plain sub k=(fitting c.plain sub k).filter λs=>decide (s.us=⟨#[]⟩):=λ_=>rfl
 have r:sG c.plain sub k n=(if n.kind=1 then(fU c.plain sub k).map λs=>(⟨s.ss,s.si,s.sr⟩:bf)
  else if n.kind=3 then(fU c.plain sub ⟨k.os,k.oi,n.rel⟩).map λs=>⟨s.ss,s.si,n.dI⟩
  else if n.kind=2 then [⟨k.os,k.oi,n.rel⟩]
  else []).map λx=>(⟨⟨#[]⟩,x.os,x.oi,x.rel⟩:Sub):=rfl
 generalize c0:sG c.plain sub k n=out at *
 refine Spec.gQ (H':=[[]]) (by simp) ?_
 refine Spec.body func89 rfl results89 ntmps89 rfl ?_
 refine .sr ?_
 refine .cb rfl (λb5=>?_)
 refine .cb rfl (λb8=>?_)
 refine .cb rfl (λb9=>?_)
 refine .ag rfl<|.zs<|.seq ?_
 refine bz.cO [(1,_),(2,_),(5,_),(8,_),(9,_)] kE.c.c.c.c.c (X:=Unit) (λ_=>True) (λ_ E=>(22,.bool (decide (n.kind=1)||decide (n.kind=3)))::E) (λ_=>[bl b9 n.enc 199,bl b8 (Value.string k.os:: .string k.oi:: .string k.rel::[Z,x4,x5,x6,x7]) 93,bl b5 c.enc 25,[]]) ?_ ?_
 refine .region<|.fa rfl<|.lo rfl<|.q .bU<|.mo rfl ?_
 refine .split (t:=18) rfl (λp=>?_) (λp=>?_)
 refine .gF p<|.gF p<|.gF p<|.q (.aT p) ?_
 refine .nil ?_
 ·exact aF () agu (kE.c.c.c.c.c.bV rfl (by grind)) rH
 refine .gT p<|.fa rfl<|.gT p<|.lo rfl<|.gT p<|.q .bU<|.q (.aQ p) ?_
 refine .nil ?_
 ·exact aF () agu (kE.c.c.c.c.c.bV rfl (by grind)) rH
 intro y hy
 refine au ?_
 refine .cond rfl (λh1=>?_) λh1=>?_
 have a3:n.kind=1\/n.kind=3:=by simpa using h1
 refine .sr<|.fa rfl<|.lo rfl<|.ag rfl<|.zs<|.sr<|.fa rfl<|.lo rfl<|.q .bU<|.zn ?_
 refine .cond rfl (λh2=>?_) λh2=>?_
 have H:n.kind=3:=bT h2
 have a1:=V ⟨k.os,k.oi,n.rel⟩
 have b2:=Y ⟨k.os,k.oi,n.rel⟩
 have a4:∃g:Sub->Sub,g=(λs=>⟨⟨#[]⟩,s.ss,s.si,n.dI⟩)/\out=((fitting c.plain sub ⟨k.os,k.oi,n.rel⟩).filter λs=>decide (s.us=⟨#[]⟩)).map g:=⟨_,rfl,by rw[r,agn (by omega),ago H,agU,W];rfl⟩
 clear V Y W r
 generalize b1:fitting c.plain sub ⟨k.os,k.oi,n.rel⟩=l at *
 obtain⟨g,hg,a5⟩:=a4
 refine .region<|.fa rfl<|.lo rfl<|.ag rfl<|.z<|.ag rfl<|.z<|.q (.aM rfl)<|.mo rfl<|.mo rfl<|.fa rfl<|.q (.loadT rfl) ?_
 refine .mo rfl ?_
 refine .cX (a1.weaken cM) (λu a0 hu=>?_)
 have a2:∀i,(((l.take i).filter λs=>decide (s.us=⟨#[]⟩)).map g).length<=512:=λi=>by
  rw[agp]
  exact agr (agv _ _) (by rw[agF];omega)
 refine .ag rfl<|.zs<|.sr<|.az rfl<|.block ?_
 refine .cy [(9,_),(13,_)] (X:=Nat×Value×aw) (λy=>y.1<=l.length/\OS 117 4 Sub.enc y.2.1 (((l.take y.1).filter λs=>decide (s.us=⟨#[]⟩)).map g) y.2.2) (λy E=>(14,iN y.1)::(12,y.2.1)::E) (G:=[a0,bl b9 n.enc 199,bl b8 (Value.string k.os:: .string k.oi:: .string k.rel::[Z,x4,x5,x6,x7]) 93,bl b5 c.enc 25]) (λy G=>y.2.2::G) (λy=>l.length-y.1) (0,sZ,[]) ⟨agt _,OS.nil⟩ kE.c.c.c.c (aN [4,0,0,0,0]) ?_
 rintro⟨i,vo,M⟩ ⟨hi,m⟩
 simp only at hi m⊢
 refine .seq<|.sr<|.mo rfl<|.mo rfl<|.q (.dG hu) ?_
 refine .q .lss<|.zn ?_
 refine .cond rfl (λC=>?_) λC=>?_
 have v:i<l.length:=cg C
 obtain⟨s,A⟩:=bQ v
 have b0:=a2 i
 have Q:=dS A
 obtain⟨U,j,e,o⟩:=s
 refine .kn<|.seq<|.block<|.seq<|.sr<|.mo rfl<|.mo rfl ?_
 refine .aK i hu A (λb3=>?_)
 refine .fa rfl<|.lo rfl<|.q .fP<|.zn ?_
 refine .cond rfl (λD=>?_) λD=>?_
 have I:U≠⟨#[]⟩:=by simpa using D
 have w:((l.take (i+1)).filter λs=>decide (s.us=⟨#[]⟩)).map g=((l.take i).filter λs=>decide (s.us=⟨#[]⟩)).map g:=by rw[Q,agK];simp[I]
 refine .exit<|bo<|bp<|au<|.region<|.mo rfl ?_
 refine .ia (i+1) .add ?_
 refine .ag rfl<|.nil ?_
 ·exact bd (i+1,vo,M) ⟨v,by simp only;rw[w];exact m⟩ (by simp only;omega) kE.c.c.c.c rH
 have I:U=⟨#[]⟩:=by simpa using D
 subst I
 have w:((l.take (i+1)).filter λs=>decide (s.us=⟨#[]⟩)).map g=((l.take i).filter λs=>decide (s.us=⟨#[]⟩)).map g++[g ⟨⟨#[]⟩,j,e,o⟩]:=by rw[Q,agK,agJ];simp
 refine .kn<|.sr<|.fa rfl<|.lo rfl<|.q .bU<|.zn ?_
 refine .cond rfl (λO=>?_) λO=>?_
 (have F:g ⟨⟨#[]⟩,j,e,o⟩=⟨⟨#[]⟩,j,e,n.dI⟩:=by rw[hg])
 refine .cY [10] mixed ?_
 refine .tO 0 rfl .move<|.tO 1 rfl .move<|.tO 2 rfl .move ?_
 refine RA.aK 3 rfl i hu A rfl rfl rfl (by kernel_rfl) (λb4=>?_)
 refine .tO 4 rfl (.fieldAddr rfl) ?_
 refine .tO 5 rfl (.loadT rfl) ?_
 refine .tO 6 rfl (.fieldAddr rfl)<|.tO 7 rfl (.ca rfl) ?_
 refine .tO 8 rfl .cL ?_
 refine .sT 9 rfl ?_
 refine .dN (λa7=>?_)
 refine .nil (Next.sub ?_)
 refine .sT 10 rfl ?_
 refine .append m (RS.lits (xs:=[(⟨⟨#[]⟩,j,e,n.dI⟩:Sub)]) rfl (by simp[Sub.enc]) (by simp[Sub.enc,aE])) (by simp only[agx];omega) (λK B J=>?_)
 refine .nil (Next.mod rfl ?_)
 refine .tK 11 rfl .assign ?_
 refine RA.nil (by kernel_rfl) ?_
 refine aS<|au<|.region<|.mo rfl ?_
 refine .ia (i+1) .add ?_
 refine .ag rfl<|.nil ?_
 ·exact bd (i+1,K,B) ⟨v,by simp only;rw[w,F];exact J⟩ (by simp only;omega) kE.c.c.c.c (bk.drop [0] _)
 (have F:g ⟨⟨#[]⟩,j,e,o⟩=⟨⟨#[]⟩,j,e,o⟩:=by exfalso;have:=bA O;omega)
 refine .region<|.mo rfl<|.mo rfl<|.mo rfl ?_
 refine .aK i hu A (λb6=>?_)
 refine .q (.aM rfl) ?_
 refine .dN (λa8=>?_)
 refine .append m (RS.lits (xs:=[(⟨⟨#[]⟩,j,e,o⟩:Sub)]) rfl (by simp[Sub.enc]) (by simp[Sub.enc,aE])) (by simp only[agx];omega) (λK B J=>?_)
 refine .ag rfl<|.nil<|aS<|au<|.region<|.mo rfl ?_
 refine .ia (i+1) .add ?_
 refine .ag rfl<|.nil ?_
 ·exact bd (i+1,K,B) ⟨v,by simp only;rw[w,F];exact J⟩ (by simp only;omega) kE.c.c.c.c (bk.drop [0] _)
 refine .exit<|bo<|bq<|bp<|au<|.sr<|.mo rfl<|.az rfl ?_
 refine .ret (aJ (aY _ (.one (.tmp rfl)) (.one [0] _) ?_))
 ·rw[dB (il C)]at m
  exact⟨M,by simp[take],by rw[a5];exact m⟩
 have H:n.kind=1:=by have:=bA h2;omega
 have a1:=V ⟨k.os,k.oi,k.rel⟩
 have b2:=Y ⟨k.os,k.oi,k.rel⟩
 have a4:∃g:Sub->Sub,g=(λs=>⟨⟨#[]⟩,s.ss,s.si,s.sr⟩)/\out=((fitting c.plain sub ⟨k.os,k.oi,k.rel⟩).filter λs=>decide (s.us=⟨#[]⟩)).map g:=⟨_,rfl,by rw[r,ago H,agU,W];rfl⟩
 clear V Y W r
 generalize b1:fitting c.plain sub ⟨k.os,k.oi,k.rel⟩=l at *
 obtain⟨g,hg,a5⟩:=a4
 refine .kn<|.sr<|.ag rfl<|.z<|.q (.aM rfl)<|.mo rfl<|.mo rfl<|.fa rfl<|.q (.loadT rfl) ?_
 refine .mo rfl ?_
 refine .cX (a1.weaken cM) (λu a0 hu=>?_)
 have a2:∀i,(((l.take i).filter λs=>decide (s.us=⟨#[]⟩)).map g).length<=512:=λi=>by
  rw[agp]
  exact agr (agv _ _) (by rw[agF];omega)
 refine .ag rfl<|.zs<|.sr<|.az rfl<|.block ?_
 refine .cy [(9,_),(13,_)] (X:=Nat×Value×aw) (λy=>y.1<=l.length/\OS 117 4 Sub.enc y.2.1 (((l.take y.1).filter λs=>decide (s.us=⟨#[]⟩)).map g) y.2.2) (λy E=>(14,iN y.1)::(12,y.2.1)::E) (G:=[a0,bl b9 n.enc 199,bl b8 (Value.string k.os:: .string k.oi:: .string k.rel::[Z,x4,x5,x6,x7]) 93,bl b5 c.enc 25]) (λy G=>y.2.2::G) (λy=>l.length-y.1) (0,sZ,[]) ⟨agt _,OS.nil⟩ kE.c.c.c.c (aN [4,0,0,0,0]) ?_
 rintro⟨i,vo,M⟩ ⟨hi,m⟩
 simp only at hi m⊢
 refine .seq<|.sr<|.mo rfl<|.mo rfl<|.q (.dG hu) ?_
 refine .q .lss<|.zn ?_
 refine .cond rfl (λC=>?_) λC=>?_
 have v:i<l.length:=cg C
 obtain⟨s,A⟩:=bQ v
 have b0:=a2 i
 have Q:=dS A
 obtain⟨U,j,e,o⟩:=s
 refine .kn<|.seq<|.block<|.seq<|.sr<|.mo rfl<|.mo rfl ?_
 refine .aK i hu A (λb3=>?_)
 refine .fa rfl<|.lo rfl<|.q .fP<|.zn ?_
 refine .cond rfl (λD=>?_) λD=>?_
 have I:U≠⟨#[]⟩:=by simpa using D
 have w:((l.take (i+1)).filter λs=>decide (s.us=⟨#[]⟩)).map g=((l.take i).filter λs=>decide (s.us=⟨#[]⟩)).map g:=by rw[Q,agK];simp[I]
 refine .exit<|bo<|bp<|au<|.region<|.mo rfl ?_
 refine .ia (i+1) .add ?_
 refine .ag rfl<|.nil ?_
 ·exact bd (i+1,vo,M) ⟨v,by simp only;rw[w];exact m⟩ (by simp only;omega) kE.c.c.c.c rH
 have I:U=⟨#[]⟩:=by simpa using D
 subst I
 have w:((l.take (i+1)).filter λs=>decide (s.us=⟨#[]⟩)).map g=((l.take i).filter λs=>decide (s.us=⟨#[]⟩)).map g++[g ⟨⟨#[]⟩,j,e,o⟩]:=by rw[Q,agK,agJ];simp
 refine .kn<|.sr<|.fa rfl<|.lo rfl<|.q .bU<|.zn ?_
 refine .cond rfl (λO=>?_) λO=>?_
 (have F:g ⟨⟨#[]⟩,j,e,o⟩=⟨⟨#[]⟩,j,e,n.dI⟩:=by exfalso;have:=bT O;omega)
 refine .cY [10] mixed ?_
 refine .tO 0 rfl .move<|.tO 1 rfl .move<|.tO 2 rfl .move ?_
 refine RA.aK 3 rfl i hu A rfl rfl rfl (by kernel_rfl) (λb4=>?_)
 refine .tO 4 rfl (.fieldAddr rfl) ?_
 refine .tO 5 rfl (.loadT rfl) ?_
 refine .tO 6 rfl (.fieldAddr rfl)<|.tO 7 rfl (.ca rfl) ?_
 refine .tO 8 rfl .cL ?_
 refine .sT 9 rfl ?_
 refine .dN (λa7=>?_)
 refine .nil (Next.sub ?_)
 refine .sT 10 rfl ?_
 refine .append m (RS.lits (xs:=[(⟨⟨#[]⟩,j,e,n.dI⟩:Sub)]) rfl (by simp[Sub.enc]) (by simp[Sub.enc,aE])) (by simp only[agx];omega) (λK B J=>?_)
 refine .nil (Next.mod rfl ?_)
 refine .tK 11 rfl .assign ?_
 refine RA.nil (by kernel_rfl) ?_
 refine aS<|au<|.region<|.mo rfl ?_
 refine .ia (i+1) .add ?_
 refine .ag rfl<|.nil ?_
 ·exact bd (i+1,K,B) ⟨v,by simp only;rw[w,F];exact J⟩ (by simp only;omega) kE.c.c.c.c (bk.drop [0] _)
 (have F:g ⟨⟨#[]⟩,j,e,o⟩=⟨⟨#[]⟩,j,e,o⟩:=by rw[hg])
 refine .region<|.mo rfl<|.mo rfl<|.mo rfl ?_
 refine .aK i hu A (λb6=>?_)
 refine .q (.aM rfl) ?_
 refine .dN (λa8=>?_)
 refine .append m (RS.lits (xs:=[(⟨⟨#[]⟩,j,e,o⟩:Sub)]) rfl (by simp[Sub.enc]) (by simp[Sub.enc,aE])) (by simp only[agx];omega) (λK B J=>?_)
 refine .ag rfl<|.nil<|aS<|au<|.region<|.mo rfl ?_
 refine .ia (i+1) .add ?_
 refine .ag rfl<|.nil ?_
 ·exact bd (i+1,K,B) ⟨v,by simp only;rw[w,F];exact J⟩ (by simp only;omega) kE.c.c.c.c (bk.drop [0] _)
 refine .exit<|bo<|bq<|bp<|au<|.sr<|.mo rfl<|.az rfl ?_
 refine .ret (aJ (aY _ (.one (.tmp rfl)) (.one [0] _) ?_))
 ·rw[dB (il C)]at m
  exact⟨M,by simp[take],by rw[a5];exact m⟩
 have a3:n.kind≠1/\n.kind≠3:=by simpa using h1
 rw[agn a3.1,agn a3.2]at r
 refine .kn<|.seq<|.sr<|.fa rfl<|.lo rfl<|.q .bU<|.zn ?_
 refine .cond rfl (λh6=>?_) λh6=>?_
 refine .sr<|.fa rfl<|.q (.loadT rfl) ?_
 refine .fa rfl<|.lo rfl ?_
 refine .q .cL ?_
 refine .dN (λb7=>?_)
 refine .az rfl ?_
 refine .ret (aJ (aY _ (.one (.tmp rfl)) (.one [0] _) ?_))
 ·have H:n.kind=2:=by simpa using h6
  rw[ago H]at r
  exact⟨_,rfl,by rw[r];exact OS.lits rfl (by simp[Sub.enc]) (by simp[Sub.enc,aE])⟩
 refine .kn<|.sr<|.az rfl ?_
 refine .ret (aY _ (.one (.tmp rfl)) (.one [3] _) ?_)
 ·have H:n.kind≠2:=by simpa using h6
  rw[agn H]at r
  exact⟨_,rfl,by rw[r];exact OS.nil⟩
def aH.zero(k:bf):aH:=⟨k,false,sZ,[],sZ,[],sZ,[],0⟩
def PU(R:ay)(A:List (ByteArray×Rl))(num:List Nat)(k:bf)(m:Nat)(p:aH):Prop:=
 (p=aH.zero k/\∀j x,j<m->A[j]? =some x->dZ x≠⟨k.os,k.rel⟩)\/
 ∃j x vn,j<m/\A[j]? =some x/\dZ x=⟨k.os,k.rel⟩/\p=⟨k,true,vn,x.2.nodes,sZ,[],sZ,[],num.getD j 0⟩/\RS R 5 Nd.enc vn x.2.nodes
theorem PU.cV{R:ay}{A:List (ByteArray×Rl)}{num:List Nat}{k:bf}{m:Nat}{p:aH}(h:PU R A num k m p):cB p.enc:=by
 rcases h with⟨rfl,_⟩|⟨j,x,c,_,_,_,rfl,b⟩
 ·exact⟨by simp[aH.enc,aH.zero,aE]⟩
 ·have:=b.aE
  refine⟨λu a=>?_⟩
  simp only[aH.enc,agP,agY,or_false]at a
  rcases a with rfl|rfl|rfl|rfl|rfl|rfl|rfl|rfl
  ·rfl
  ·rfl
  ·rfl
  ·rfl
  ·exact this.h
  ·rfl
  ·rfl
  ·rfl
theorem PU.skip{R:ay}{A:List (ByteArray×Rl)}{num:List Nat}{k:bf}{m:Nat}{p:aH}{x:ByteArray×Rl}(h:PU R A num k m p)(f:A[m]? =some x)(d:dZ x≠⟨k.os,k.rel⟩):PU R A num k (m+1) p:=by
 rcases h with⟨e,b⟩|⟨j,y,g,b,c⟩
 ·refine .inl ⟨e,λj y i a=>?_⟩
  rcases agT j m with h3|h3
  ·exact b j y h3 a
  ·obtain rfl:j=m:=by omega
   rw[f]at a;cases a;exact d
 ·exact .inr ⟨j,y,g,by omega,c⟩
theorem A4{A:List (ByteArray×Rl)}(a:(A.map dZ).Nodup){i j:Nat}{x y:ByteArray×Rl}{t:Ty}(f:A[i]? =some x)(g:A[j]? =some y)(d:dZ x=t)(e:dZ y=t):i=j:=by
 have b:(A.map dZ)[i]? =some t:=by rw[agq,f, <-d];rfl
 have c:(A.map dZ)[j]? =some t:=by rw[agq,g, <-e];rfl
 rcases Nat.lt_trichotomy i j with h|h|h
 ·exact absurd a (mS h c b rfl)
 ·exact h
 ·exact absurd a (mS h b c rfl)
theorem PU.same{R:ay}{A:List (ByteArray×Rl)}{num:List Nat}{k:bf}{m:Nat}{p:aH}(h:PU R A num k m p)(r:A.length<=m)(n:(A.map dZ).Nodup){c:Cf}(g:c.all=A):p.plain=one c num k/\p.is R:=by
 unfold one
 rw[g]
 rcases h with⟨rfl,d⟩|⟨j,x,s,d,a,e,rfl,f⟩
 ·rw[zN λj y q b=>d j y (by omega) b]
  exact⟨rfl,RS.gO,RS.gO,NN.nil⟩
 ·rw[zO a e λi y o b l=>by have:=A4 n a b e l;omega]
  refine⟨?_,f,RS.gO,NN.nil⟩
  simp only[aH.plain,agw,agq,a]
  rfl
theorem RJ(c:bL)(R:ay)(h:c.is R)(num:List Nat)(M:kz isWord dh c.plain num)(c5:(c.plain.numbers isWord dh).2=rows c.plain.bj num)(k:bf):
  Spec prog 87 [.agg c.enc.toArray,.agg [.string k.os,.string k.oi].toArray,.string k.rel] R [] λu H'=>(∃p:aH,u=.agg p.enc.toArray/\p.plain=one c.plain num k/\p.is R)/\H'=[]:=by
 have a9:=BS c R h
 have l:=h.ss
 have i1:=l.aE
 have i2:One c.vc:=RS.aE h.sc
 have d6:=l.le
 have b9:=h.all
 have d3:=pE c.plain
 have d7:=M.len
 have b1:(c.plain.all.map dZ).Nodup:=M.dW.2.1
 have d2:c.plain.bj.length=c.bj.length:=by unfold bL.plain;simp
 have a7:∀(i:Nat) (s:cm),c.bj[i]? =some s->c.plain.bj[i]? =some s.plain:=λi s b=>oT b
 have d4:=λ(p:gu) (s:cm) (r:cj)=>oP (c:=c) (p:=p) (s:=s) (r:=r)
 have c1:∀i k,c.ix (i,k)=cK c.plain.bj i+k:=λ_ _=>rfl
 have d1:=λ(p:aH) (m:Nat) (h:PU R c.plain.all num k m p) (M:c.plain.all.length<=m)=>h.same M b1 (c:=c.plain) rfl
 rw[c5]at a9
 have d0:∀i s,c.bj[i]? =some s->(rows c.plain.bj num)[i]? =some ((num.drop (cK c.plain.bj i)).take s.bR.length):=λi s b=>by
  have F:=oV (n:=num) (a7 i s b)
  rwa [show s.plain.bR.length=s.bR.length by simp[cm.plain]]at F
 generalize hA:c.plain.all=A at *
 generalize a0:cK c.plain.bj=of at *
 have c6:of 0=0:=by rw[<-a0];cases c.plain.bj<;>rfl
 refine Spec.body func87 rfl results87 ntmps87 rfl<|.sr ?_
 refine .cb rfl (λU=>?_)
 refine .cb rfl (λV=>?_)
 refine .bX (λW=>?_)
 refine .z<|.q (.aM rfl)<|.mo rfl<|.q .cL ?_
 refine .bX (λY=>?_)
 refine .bN rfl rfl<|.z<|.q (.aM rfl)<|.cX (a9.weaken cM) (λu D hu=>?_)
 obtain⟨w,ll,rfl,K,c2⟩:=hu
 have iw:One w:=K.rs.aE
 refine .mo rfl<|.q .extract<|.q .extract<|.ag rfl<|.ag rfl<|.zs<|.sr<|.az rfl<|.block<|.cy [(2,_),(3,_),(4,_),(6,_),(7,_),(8,_)] (X:=Nat×aH) (λy=>y.1<=c.bj.length/\PU R A num k (of y.1) y.2) (λy E=>(10,iN y.1)::E) (G:=[D,bl W (aH.enc ⟨⟨⟨#[]⟩,⟨#[]⟩,⟨#[]⟩⟩,false,sZ,[],sZ,[],sZ,[],0⟩) 93,bl V [.string k.os,.string k.oi] 44,bl U c.enc 25]) (λy G=>bl Y y.2.enc 93::G) (λy=>c.bj.length-y.1) (0,aH.zero k) ⟨agt _,.inl ⟨rfl,λj x hj=>by rw[c6]at hj;omega⟩⟩ kE.c.c.c.c.c.c.c (aN [1,0,0,0,0]) ?_
 rintro⟨i,p⟩ ⟨hi,N⟩
 simp only at hi N⊢
 have e0:=N.cV
 refine .seq<|.sr<|.mo rfl<|.fa rfl<|.lo rfl<|.q (.bI l)<|.q .lss<|.zn<|.cond rfl (λF=>?_) λF=>?_
 have a5:i<c.bj.length:=cg F
 obtain⟨⟨f,J,g⟩,b⟩:=bQ a5
 have a3:=b9 _ (ba b)
 have B:RS R 3 cj.enc J g:=a3.rs
 have e5:=B.aE
 have d8:=B.le
 have e7:cB (cm.enc ⟨f,J,g⟩):=⟨a3.cV⟩
 have c7:=a7 i _ b
 have a6:=oR c7
 rw[a0,show(cm.plain ⟨f,J,g⟩).bR.length=g.length by simp[cm.plain]]at a6
 have a2:=d0 i _ b
 simp only at a2
 rw[<-c2,agq]at a2
 obtain⟨⟨v,b2⟩,a1,b0⟩:=Option.map_eq_some_iff.1 a2
 simp only at b0
 have S:=K.all _ (ba a1)
 simp only at S
 have iv:=S.aE
 have f4:PS D (ez w (i*1)) (eg (v,b2)):=⟨K.rs.pc a1⟩
 refine .kn<|.seq<|.block<|.sr<|.az rfl<|.block<|.cy [(2,_),(3,_),(4,_),(6,_),(7,_),(8,_),(10,_)] (X:=Nat×aH) (λy=>y.1<=g.length/\PU R A num k (of i+y.1) y.2) (λy E=>(11,iN y.1)::E) (G:=[D,bl W (aH.enc ⟨⟨⟨#[]⟩,⟨#[]⟩,⟨#[]⟩⟩,false,sZ,[],sZ,[],sZ,[],0⟩) 93,bl V [.string k.os,.string k.oi] 44,bl U c.enc 25]) (λy G=>bl Y y.2.enc 93::G) (λy=>g.length-y.1) (0,p) ⟨agt _,N⟩ kE.c.c.c.c.c.c.c.c rH ?_
 rintro⟨q,T⟩ ⟨hq,o⟩
 simp only at hq o⊢
 have e3:=o.cV
 refine .seq<|.sr<|.mo rfl<|.fa rfl<|.lo rfl<|.mo rfl ?_
 refine .bC i l b (λe8=>?_)
 refine .fa rfl<|.lo rfl<|.q (.bI B)<|.q .lss<|.zn<|.cond rfl (λh2=>?_) λh2=>?_
 have O:q<g.length:=cg h2
 obtain⟨⟨vt,C,r⟩,I⟩:=bQ O
 have Q:=a3.all _ (ba I)
 have c4:RS R 5 Nd.enc C r.nodes:=Q.d
 have e6:One vt:=RS.aE Q.t
 have e4:One C:=RS.aE Q.d
 have d9:cB (cj.enc ⟨vt,C,r⟩):=⟨Q.cV⟩
 have H:=d4 (i,q) _ _ b I
 rw[c1]at H
 have d5:of i+q<A.length:=(agC.1 H).1
 obtain⟨n,hn⟩:∃n,num[of i+q]? =some n:=⟨_,aZ (by omega)⟩
 have a8:b2[q]? =some n:=by rw[b0,List.getElem?_take_of_lt O,List.getElem?_drop];exact hn
 have f5:PS D (ez v (q*1)) (da n):=⟨S.pc a8⟩
 have c3:num.getD (of i+q) 0=n:=by rw[agw,hn];rfl
 refine .kn<|.seq<|.block<|.seq ?_
 refine bz.cO [(2,_),(3,_),(4,_),(6,_),(7,_),(8,_),(10,_),(11,_)] kE.c.c.c.c.c.c.c.c (X:=Unit) (λ_=>True) (λ_ E=>(60,.bool (decide (f=k.os)&&decide (r.name=k.rel)))::E) (λ_=>[bl Y T.enc 93,D,bl W (aH.enc ⟨⟨⟨#[]⟩,⟨#[]⟩,⟨#[]⟩⟩,false,sZ,[],sZ,[],sZ,[],0⟩) 93,bl V [.string k.os,.string k.oi] 44,bl U c.enc 25]) ?_ ?_
 refine .fS mixed (by kernel_rfl)<|.fa rfl<|.lo rfl<|.mo rfl ?_
 refine .bC i l b (λe9=>?_)
 refine .fa rfl<|.lo rfl<|.fa rfl<|.lo rfl<|.q .dF<|.mo rfl<|.split (t:=47) rfl (λa=>?_) (λa=>?_)
 refine .gT a<|.fa rfl<|.gT a<|.lo rfl<|.gT a<|.mo rfl<|.gT a ?_
 refine .bC i l b (λf0=>?_)
 refine .gT a<|.fa rfl<|.gT a<|.lo rfl<|.gT a<|.mo rfl<|.gT a ?_
 refine .bC q B I (λf1=>?_)
 refine .gT a<|.fa rfl<|.gT a<|.lo rfl<|.gT a<|.mo rfl<|.gT a<|.q .dF<|.q (.aT a)<|.nil ?_
 ·exact aF () agu (kE.c.c.c.c.c.c.c.c.bV rfl (by grind)) rH
 refine .gF a<|.gF a<|.gF a<|.gF a<|.gF a<|.gF a<|.gF a<|.gF a<|.gF a<|.gF a<|.gF a<|.gF a<|.q (.aQ a)<|.nil ?_
 ·exact aF () agu (kE.c.c.c.c.c.c.c.c.bV rfl (by grind)) rH
 intro y hy
 refine au<|.cond rfl (λh3=>?_) λh3=>?_
 have a4:f=k.os/\r.name=k.rel:=by simpa using h3
 have L:dZ (f,r)=⟨k.os,k.rel⟩:=by show(⟨f,r.name⟩:Ty)=_;rw[a4.1,a4.2]
 have c8:T=aH.zero k:=by
  rcases o with⟨e,_⟩|⟨j,x,v9,g1,g2,g3,_⟩
  ·exact e
  ·have:=A4 b1 H g2 L g3;omega
 subst c8
 have f2:PC R (ez c.vs (i*2)) (cm.enc ⟨f,J,g⟩):=l.pc b
 have f3:PC R (ez J (q*3)) (cj.enc ⟨vt,C,r⟩):=B.pc I
 refine .rU [0] [18,20,22] mixed ?_
 conv=>arg 3;simp only[take,rest,bJ,agH,agI]
 conv=>arg 5;simp only[take,rest,bJ,agH,agI]
 conv=>arg 9;simp only[take,rest,bJ,agH,agI]
 refine .tK 0 rfl (.fe rfl)<|.tK 1 rfl (.ca rfl)<|.tK 2 rfl .move<|.tK 3 rfl (.bC i l b rfl rfl rfl)<|.tK 4 rfl (.fieldAddr rfl)<|.tK 5 rfl (.ca rfl)<|.tK 6 rfl .move<|.tK 7 rfl (.bC q B I rfl rfl rfl)<|.tK 8 rfl (.fieldAddr rfl)<|.tK 9 rfl (.ca rfl)<|.tK 10 rfl .move<|.tK 11 rfl .move<|.tK 12 rfl (.bC i K.rs a1 rfl rfl rfl)<|.tK 13 rfl (.ca rfl)<|.tK 14 rfl .move<|.tK 15 rfl (.bC q S a8 rfl rfl rfl)<|.tK 16 rfl (.ca rfl)<|.tO 17 rfl (.fieldAddr rfl)<|.sT 18 rfl<|.dt rfl rfl<|.nil<|Next.mod rfl<|.tK 19 rfl (.fe rfl)<|.sT 20 rfl<|.dt rfl rfl<|.nil<|Next.mod rfl<|.tK 21 rfl (.fe rfl)<|.sT 22 rfl<|.dt rfl rfl<|.nil<|Next.mod rfl<|RA.nil (by kernel_rfl)<|aS<|au<|.region<|.mo rfl<|.ia (q+1) .add<|.ag rfl<|.nil ?_
 ·exact bd (q+1,⟨k,true,C,r.nodes,sZ,[],sZ,[],n⟩) ⟨O,.inr ⟨of i+q,(f,r),C,by simp only;omega,H,L,by rw[c3],c4⟩⟩ (by simp only;omega) kE.c.c.c.c.c.c.c.c rH
 have L:dZ (f,r)≠⟨k.os,k.rel⟩:=λhe=>by
  injection he with e1 Z
  have b5:f=k.os:=e1
  have b8:r.name=k.rel:=Z
  simp[b5,b8]at h3
 refine .skip<|aS<|au<|.region<|.mo rfl<|.ia (q+1) .add<|.ag rfl<|.nil ?_
 ·exact bd (q+1,T) ⟨O,o.skip H L⟩ (by simp only;omega) kE.c.c.c.c.c.c.c.c rH
 have c9:q=g.length:=by have:=bA h2;omega
 rw[c9, <-a6]at o
 refine .exit<|bo<|bq<|bp<|aS<|au<|.region<|.mo rfl<|.ia (i+1) .add<|.ag rfl<|.nil ?_
 ·exact bd (i+1,T) ⟨a5,o⟩ (by simp only;omega) kE.c.c.c.c.c.c.c rH
 refine .exit<|bo<|bq<|bp<|au<|.sr<|.q (.aM rfl)<|.bN rfl rfl<|.zn ?_
 refine .ret (aY _ (.one (.eQ rfl rfl)) (bk.none _) ?_)
 ·have c0:A.length<=of i:=by
   have:i=c.bj.length:=by have:=bA F;omega
   rw[this, <-d2, <-a0, <-d3]
   exact Nat.le_refl _
  obtain⟨e1,Z⟩:=d1 p _ N c0
  exact⟨⟨p,rfl,e1,Z⟩,rfl⟩
structure De(c:Cf)(num:List Nat)(sub:bf->List Sub)(R:ay)(ps:List aH)(k:bf)(ns:List Nd)(ps1:List aH)(vp:Value)(To:aw)(vL:Value)(L:List fD)(TL Tr:aw)(vS:Value)(sn:List Nat)(TS:aw):Prop where
 eq:ps1.map aH.plain=(dj c num sub k (ps.map aH.plain) ns).1
 o:OS 93 8 aH.enc vp ps1 To
 gr:∃l,ps1=ps++l/\∀p∈l,p.is R
 le:OS 182 1 eg vL L TL
 rows:∀q∈L,RS (sg Tr) 1 da q.1 q.2
 ll:L.map (·.2)=(dj c num sub k (ps.map aH.plain) ns).2
 so:OS 3 1 da vS sn TS
 sq:sn=jJ [] (dj c num sub k (ps.map aH.plain) ns).2.flatten
structure Df(c:Cf)(num:List Nat)(R:ay)(ps1:List aH)(ks:List bf)(sn0:List Nat)(ps2:List aH)(vp:Value)(To:aw)(vR:Value)(TR:aw)(vS:Value)(sn:List Nat)(TS:aw):Prop where
 eq:ps2.map aH.plain=(dq c num (ps1.map aH.plain) ks).1
 o:OS 93 8 aH.enc vp ps2 To
 gr:∃l,ps2=ps1++l/\∀p∈l,p.is R
 r:OS 3 1 da vR (dq c num (ps1.map aH.plain) ks).2 TR
 so:OS 3 1 da vS sn TS
 sq:sn=jJ sn0 (dq c num (ps1.map aH.plain) ks).2
theorem Dv{l:List Nat}{i x:Nat}(a:l[i]? =some x)(t:Nat):(l.take (i+1)).any (λz=>decide (z=t))=((l.take i).any (λz=>decide (z=t))||decide (x=t)):=by
 rw[dS a,List.any_append]
 simp
theorem Q9(c:bL)(R:ay)(h:c.is R)(num:List Nat)(hm:kz isWord dh c.plain num)(k8:(c.plain.numbers isWord dh).2=rows c.plain.bj num){g:Nat}{S:cT}{vl:Value}{L:List bB}(hD:DV R g S vl L)(hl:L.length<=512)(rev:Int)
  (k:bf)(b:Int)(sub:bf->List Sub)(c3:sub=λk=>if scan S rev then(L.filter λy=>y.there rev&&decide (y.t.cQ=k)).map (·.t.sub)else [])
  (g0:∀i,(∀j,j<i->j<(opened c.plain num sub k j).1.length)->(opened c.plain num sub k i).1.length+(opened c.plain num sub k i).2<=1048576)(N:Nat)(hN:eN c.plain num sub k N):
  Spec prog 35 [.agg c.enc.toArray,pT g,.int .u64 rev,.agg [.string k.os,.string k.oi].toArray,.string k.rel,.int .i64 b] R [] (lD R (et c.plain num sub k b (scan S rev) N)):=by
 have g4:=RJ c R h num hm k8
 have e7:=(sW hm.right).1
 have j6:=λk=>BN c R h e7 hD hl rev k sub c3
 have j3:=λk ex n (ie:cB ex) j5=>Q3 c R h e7 hD hl rev sub c3 k ex n j5
 have g9:∀k,(fU c.plain sub k).length<=512:=λk=>by
  unfold fU fitting
  refine agr (agv _ _) (agr (agv _ _) ?_)
  rw[c3]
  simp only
  split
  ·rw[agp]
   exact agr (agv _ _) hl
  ·simp
 have j4:∀k n,(ee c.plain sub k n).length<=512:=λk n=>by
  unfold ee
  split
  ·rw[agp];exact g9 _
  ·split
   ·rw[agp];exact g9 _
   ·split<;>simp
 have j7:∀k,(fitting c.plain sub k).length<=512:=λk=>by
  unfold fitting
  refine agr (agv _ _) ?_
  rw[c3]
  simp only
  split
  ·rw[agp]
   exact agr (agv _ _) hl
  ·simp
 have m7:∀k,iA c.plain sub k=((fitting c.plain sub k).filter λs=> !decide (s.us=⟨#[]⟩)).map (·.us):=λ_=>rfl
 have c0:∀out u H',lD R out u H'↔∃vp I T,H'=[T]/\u=.tuple [.agg [vp,iN out.2.1].toArray,.int .i64 out.2.2].toArray/\RS (λb o=>R b o\/(b,o)∈T) 8 aH.enc vp I/\(∀p∈I,aH.is (λb o=>R b o\/(b,o)∈T) p)/\I.map aH.plain=out.1:=λ_ _ _=>Iff.rfl
 have Z:et c.plain num sub k b (scan S rev) N=if b<1 then([],0,2)else if scan S rev=false then([],0,12)
  else if(((opened c.plain num sub k N).1.length+(opened c.plain num sub k N).2:Nat):Int)<=b then((opened c.plain num sub k N).1,(opened c.plain num sub k N).2,0)else([],0,16):=rfl
 have l0:∀x:bf,(one c.plain num x).nodes.length<=64:=λx=>wD (num:=num) (k:=x) hm.right
 generalize o1:c.plain=cp at *
 refine Spec.body func35 rfl results35 ntmps35 rfl ?_
 refine .sr ?_
 refine .cb rfl (λb6=>?_)
 refine .cb rfl (λb9=>?_)
 refine .bX (λa6=>?_)
 refine .ag rfl<|.zs<|.sr<|.mo rfl<|.q .lss<|.zn ?_
 refine .cond rfl (λh1=>?_) λh1=>?_
 have a8:b<1:=bT h1
 refine .sr ?_
 refine .q .cL ?_
 refine .bN rfl rfl<|.az rfl ?_
 refine .ret (aJ (aY _ (.two (.eQ rfl rfl) (.tmp rfl)) (bk.one [] _) ?_))
 ·exact(c0 _ _ _).2 ⟨_,[],_,rfl,by rw[Z,ago a8];rfl,RS.gO,λp F=>(by cases F),by rw[Z,ago a8];rfl⟩
 have a8:¬b<1:=bA h1
 refine .kn<|.seq<|.sr<|.mo rfl<|.mo rfl ?_
 refine .aX ((hD.can rev).weaken cM) (λu O=>?_)
 subst O
 refine .q .not<|.zn ?_
 refine .cond rfl (λh2=>?_) λh2=>?_
 have c1:scan S rev=false:=by simpa using h2
 refine .sr ?_
 refine .q .cL ?_
 refine .bN rfl rfl<|.az rfl ?_
 refine .ret (aJ (aY _ (.two (.eQ rfl rfl) (.tmp rfl)) (bk.one [] _) ?_))
 ·exact(c0 _ _ _).2 ⟨_,[],_,rfl,by rw[Z,agn a8,ago c1];rfl,RS.gO,λp F=>(by cases F),by rw[Z,agn a8,ago c1];rfl⟩
 have c1:scan S rev=true:=by simpa using h2
 rw[agn a8,agn (by rw[c1];simp)]at Z
 refine .kn<|.sr<|.q (.aM rfl)<|.q (.aM rfl)<|.mo rfl ?_
 refine .aX ((g4 k).weaken cM) (λu O=>?_)
 obtain⟨p0,rfl,l4,d7⟩:=O
 have n0:cB p0.enc:=⟨d7.cV⟩
 refine .dN (λe3=>?_)
 refine .q .cL ?_
 refine .bX (λa7=>?_)
 refine .bN rfl rfl<|.zs<|.sr<|.az rfl<|.block ?_
 refine .cy [(1,_),(2,_),(5,_),(6,_),(12,_),(14,_)] (X:=Nat×List aH×Value×aw×aw) (λy=>(∀j,j<y.1->j<(opened cp num sub k j).1.length)/\y.2.1.map aH.plain=(opened cp num sub k y.1).1/\OS 93 8 aH.enc y.2.2.1 y.2.1 y.2.2.2.1/\∀q∈y.2.1,(q.is λb o=>R b o\/(b,o)∈y.2.2.2.2)/\RS R 5 Nd.enc q.vn q.nodes) (λy E=>(15,iN y.1)::E) (G:=[bl a6 [sZ,.int .i64 0] 86,bl b9 [.string k.os,.string k.oi] 44,bl b6 c.enc 25]) (λy G=>bl a7 [y.2.2.1,.int .i64 ((opened cp num sub k y.1).2:Nat)] 86::y.2.2.2.1::y.2.2.2.2::G) (λy=>N+1-y.1) (0,[p0],.slice (some ⟨e3,0,none⟩) 1 1,bl e3 p0.enc 93,[]) ⟨λj hj=>(by omega),by simp only[List.map_cons,List.map_nil,l4];rfl,OS.lits (by simp) (by simp[aH.enc]) (by simpa using n0.h),λq hq=>by
  rw[agS]at hq
  subst hq
  exact⟨d7.mono λb o A=>.inl A,d7.n⟩⟩ kE.c.c.c.c.c.c.c (bk.eC.trans (aN [1,1,0,0,0,0])) ?_
 rintro⟨i,I,vp,To,Tp⟩ ⟨b5,b4,hO,hP⟩
 simp only at b5 b4 hO hP⊢
 have p8:=hO.aE
 have o4:=wG hN b5
 have o9:=g0 i b5
 have p2:I.length=(opened cp num sub k i).1.length:=by rw[<-b4,agp]
 refine .seq<|.sr<|.mo rfl<|.fa rfl<|.lo rfl<|.q (.dG hO) ?_
 refine .q .lss<|.zn ?_
 refine .cond rfl (λh3=>?_) λh3=>?_
 have f0:i<I.length:=cg h3
 obtain⟨p,F⟩:=bQ f0
 have g7:=ba F
 have l8:=(hP p g7).1
 have m0:=(hP p g7).2
 have n2:cB p.enc:=⟨l8.cV⟩
 have j8:p.plain=one cp num p.k:=wF (c:=cp) (num:=num) (sub:=sub) (k:=k) i i p.plain (Nat.le_refl _) (by rw[<-b4,agq,F];rfl)
 have k7:p.nodes.length<=64:=by
  have M:=l0 p.k
  rw[<-j8]at M
  exact M
 have f1:∀j,j<i+1->j<(opened cp num sub k j).1.length:=λj M=>by
  rcases agT j i with h8|h8
  ·exact b5 j h8
  ·obtain rfl:j=i:=by omega
   omega
 have p1:=g0 (i+1) f1
 have b0:=Bl (c:=cp) (num:=num) (sub:=sub) (k:=k) i
 have l9:(I.map aH.plain)[i]? =some p.plain:=by rw[agq,F];rfl
 have l3:=Bh (c:=cp) (num:=num) (sub:=sub) l9
 rw[<-b4,l3]at b0
 obtain⟨a,B,U,f,a1,us,a0,ll,Q⟩:=p
 have hn:RS R 5 Nd.enc U f:=m0
 have l6:aH.plain ⟨a,B,U,f,a1,us,a0,ll,Q⟩=⟨a,B,f,Q,us,ll.map (·.2)⟩:=rfl
 rw[l6]at b0
 simp only at b0 k7
 have f6:=λj=>xY (c:=cp) (num:=num) (sub:=sub) a f j (I.map aH.plain)
 have m4:=λ(j:Nat) (n:Nd) (hj:f[j]? =some n)=>x1 (c:=cp) (num:=num) (sub:=sub) hj a (I.map aH.plain)
 have g2:=λj=>uJ (c:=cp) (num:=num) (sub:=sub) a (f.take j) (I.map aH.plain)
 have o6:(dj cp num sub a (I.map aH.plain) f).1.length<=1048576:=by
  have M:=agA (λz:List bO×Nat=>z.1.length) b0
  simp only[agV]at M
  omega
 refine .kn<|.seq<|.block<|.sr<|.fa rfl<|.lo rfl<|.mo rfl ?_
 refine .aK i hO F (λq8=>?_)
 refine .q (.aM rfl) ?_
 refine .bX (λb2=>?_)
 refine .bN rfl rfl<|.z<|.ag rfl<|.z<|.ag rfl<|.zs ?_
 refine bz.cO [(1,_),(2,_),(5,_),(6,_),(12,_),(14,_),(15,_),(16,_),(17,_)] kE.c.c.c.c.c.c.c.c.c (X:=Value×aw) (λy=>OS 9 1 cr y.1 (if B then iA cp sub a else []) y.2) (λy E=>(18,y.1)::E) (λy=>[y.2,bl b2 (aH.enc ⟨a,B,U,f,a1,us,a0,ll,Q⟩) 93,bl a7 [vp,.int .i64 ((opened cp num sub k i).2:Nat)] 86,To,Tp,bl a6 [sZ,.int .i64 0] 86,bl b9 [.string k.os,.string k.oi] 44,bl b6 c.enc 25]) ?_ ?_
 refine .sr<|.fa rfl<|.lo rfl<|.zn ?_
 refine .cond rfl (λh4=>?_) λh4=>?_
 have hf:B=true:=h4
 refine .sr<|.q (.aM rfl)<|.mo rfl<|.mo rfl<|.fa rfl<|.q (.loadT rfl) ?_
 refine .fa rfl<|.lo rfl ?_
 refine .cX ((j6 a).weaken cM) (λu n3 O=>?_)
 have o2:=j7 a
 have m8:=m7 a
 generalize o3:fitting cp sub a=fl at *
 have m6:∀q,(((fl.take q).filter λs=> !decide (s.us=⟨#[]⟩)).map (·.us)).length<=512:=λq=>by
  rw[agp]
  exact agr (agv _ _) (by rw[agF];omega)
 refine .ag rfl<|.z<|.az rfl<|.block ?_
 refine .cy [(1,_),(2,_),(5,_),(6,_),(12,_),(14,_),(15,_),(16,_),(17,_),(19,_)] (X:=Nat×Value×aw) (λy=>y.1<=fl.length/\OS 9 1 cr y.2.1 (((fl.take y.1).filter λs=> !decide (s.us=⟨#[]⟩)).map (·.us)) y.2.2) (λy E=>(20,iN y.1)::(18,y.2.1)::E) (λy G=>y.2.2::G) (λy=>fl.length-y.1) (0,sZ,[]) ⟨agt _,OS.nil⟩ kE.c.c.c.c.c.c.c.c.c.c.c.c bk.eC ?_
 rintro⟨q,vo,Tq⟩ ⟨hq,b3⟩
 simp only at hq b3⊢
 refine .seq<|.sr<|.mo rfl<|.mo rfl<|.q (.dG O) ?_
 refine .q .lss<|.zn ?_
 refine .cond rfl (λh5=>?_) λh5=>?_
 have b1:q<fl.length:=cg h5
 obtain⟨s,hs⟩:=bQ b1
 have p5:=m6 q
 have h0:=dS hs
 obtain⟨c7,r4,r2,r3⟩:=s
 refine .kn<|.seq<|.block<|.sr<|.mo rfl<|.mo rfl ?_
 refine .aK q O hs (λr0=>?_)
 refine .fa rfl<|.lo rfl<|.q .fP<|.zn ?_
 refine .cond rfl (λh6=>?_) λh6=>?_
 have d8:c7≠⟨#[]⟩:=by simpa using h6
 have d6:((fl.take (q+1)).filter λs=> !decide (s.us=⟨#[]⟩)).map (·.us)=((fl.take q).filter λs=> !decide (s.us=⟨#[]⟩)).map (·.us)++[c7]:=by rw[h0,agK,agJ];simp[d8]
 refine .region<|.mo rfl<|.mo rfl<|.mo rfl ?_
 refine .aK q O hs (λr1=>?_)
 refine .fa rfl<|.lo rfl ?_
 refine .gL (λn7=>?_)
 refine .append b3 (RS.lits (xs:=[c7]) rfl (by simp[cr]) (by simp[cr,aE])) (by simp only[agx];omega) (λv5 T5 a5=>?_)
 rw[<-d6]at a5
 refine .ag rfl<|.nil<|aS<|au<|.region<|.mo rfl ?_
 refine .ia (q+1) .add ?_
 refine .ag rfl<|.nil ?_
 ·exact bd (q+1,v5,T5) ⟨b1,a5⟩ (by simp only;omega) kE.c.c.c.c.c.c.c.c.c.c.c.c (bk.drop [0] _)
 have d8:c7=⟨#[]⟩:=by simpa using h6
 have d6:((fl.take (q+1)).filter λs=> !decide (s.us=⟨#[]⟩)).map (·.us)=((fl.take q).filter λs=> !decide (s.us=⟨#[]⟩)).map (·.us):=by rw[h0,agK];simp[d8]
 refine .skip<|aS<|au<|.region<|.mo rfl ?_
 refine .ia (q+1) .add ?_
 refine .ag rfl<|.nil ?_
 ·exact bd (q+1,vo,Tq) ⟨b1,by simp only;rw[d6];exact b3⟩ (by simp only;omega) kE.c.c.c.c.c.c.c.c.c.c.c.c rH
 refine .exit<|bo<|bq<|bp ?_
 ·exact aF (vo,Tq) (by
   rw[dB (il h5), <-m8]at b3
   simp only[hf,if_true]
   exact b3) kE.c.c.c.c.c.c.c.c.c.c (aN [0,1,1,1,1,1,1,1])
 have hf:B=false:=h4
 refine .skip ?_
 ·exact aF (sZ,[]) (by simp only[hf];exact OS.nil) kE.c.c.c.c.c.c.c.c.c.c bk.eC
 intro y hy
 obtain⟨vu,Tu⟩:=y
 have O:=hy
 simp only at O⊢
 have i4:=O.aE
 clear hy
 refine au<|.sr<|.ag rfl<|.zs<|.sr<|.az rfl<|.block ?_
 refine .cy [(1,_),(2,_),(5,_),(6,_),(12,_),(14,_),(15,_),(16,_),(18,_)] (X:=Nat×List aH×Value×aw×Value×List fD×aw×aw×Value×List Nat×aw) (λy=>y.1<=f.length/\De cp num sub R I a (f.take y.1) y.2.1 y.2.2.1 y.2.2.2.1 y.2.2.2.2.1 y.2.2.2.2.2.1 y.2.2.2.2.2.2.1 y.2.2.2.2.2.2.2.1 y.2.2.2.2.2.2.2.2.1 y.2.2.2.2.2.2.2.2.2.1 y.2.2.2.2.2.2.2.2.2.2) (λy E=>(22,iN y.1)::(21,y.2.2.2.2.1)::(17,y.2.2.2.2.2.2.2.2.1)::E) (G:=[Tu,bl b2 (aH.enc ⟨a,B,U,f,a1,us,a0,ll,Q⟩) 93,Tp,bl a6 [sZ,.int .i64 0] 86,bl b9 [.string k.os,.string k.oi] 44,bl b6 c.enc 25]) (λy G=>bl a7 [y.2.2.1,.int .i64 ((opened cp num sub k i).2:Nat)] 86::y.2.2.2.1::y.2.2.2.2.2.2.1::y.2.2.2.2.2.2.2.1::y.2.2.2.2.2.2.2.2.2.2::G) (λy=>f.length-y.1) (0,I,vp,To,sZ,[],[],[],sZ,[],[]) ⟨agt _,⟨rfl,hO,⟨[],by simp,λq hq=>(by cases hq)⟩,OS.nil,λq hq=>(by cases hq),rfl,OS.nil,rfl⟩⟩ kE.c.c.c.c.c.c.c.c.c.c.c.c (bk.A2.trans (aN [5,5,0,0,0,0,0,0,0,0,0])) ?_
 rintro⟨j,C,i6,i7,vL,L,TL,Tr,vS,sn,TS⟩ ⟨hj,d⟩
 simp only at hj d⊢
 have i3:=d.le.aE
 have n9:L.length<=j:=by
  have M:=agA List.length d.ll
  have h8:=(sF (c:=cp) (num:=num) (sub:=sub) a (f.take j) (I.map aH.plain)).1
  rw[agp]at M
  rw[agF]at h8
  omega
 have i9:C.length=(dj cp num sub a (I.map aH.plain) (f.take j)).1.length:=by rw[<-d.eq,agp]
 have o7:=f6 j
 have p4:sn.length<=C.length:=by
  rw[d.sq,i9]
  refine B8 λy hy=>?_
  obtain⟨l,a4,hy⟩:=agZ.1 hy
  exact g2 j l a4 y hy
 refine .seq<|.sr<|.mo rfl<|.fa rfl<|.lo rfl<|.q (.bI hn) ?_
 refine .q .lss<|.zn ?_
 refine .cond rfl (λh7=>?_) λh7=>?_
 have f2:j<f.length:=cg h7
 obtain⟨n,g3⟩:=bQ f2
 have c4:=m4 j n g3
 have f7:=f6 (j+1)
 rw[c4, <-d.eq]at f7
 simp only at f7
 have j0:sG cp sub a n=(ee cp sub a n).map λx=>⟨⟨#[]⟩,x.os,x.oi,x.rel⟩:=rfl
 have o0:=j4 a n
 generalize o5:ee cp sub a n=ks at *
 have f8:=λm=>xT (c:=cp) (num:=num) ks m (C.map aH.plain)
 have k4:=λm=>sE (c:=cp) (num:=num) (ks.take m) (C.map aH.plain)
 refine .kn<|.seq<|.block<|.sr<|.ag rfl<|.zs ?_
 refine .dm 9 mixed (by kernel_rfl) ?_
 conv=>arg 6;dsimp only[List.take]
 refine .q (.aM rfl)<|.mo rfl<|.mo rfl<|.q (.aM rfl)<|.fa rfl<|.lo rfl<|.mo rfl ?_
 refine .bC j hn g3 (λq0=>?_)
 refine .q (.aM rfl)<|.nil ?_
 refine .cX ((j3 a [.bool B,U,a1,a0,iN Q] n ⟨λu O=>n2.h u (by simp only[aH.enc];simp only[agP,agY,or_false]at O⊢;simp[O])⟩ rfl).weaken cM) (λu c8 hS=>?_)
 rw[j0]at hS
 refine .ag rfl<|.zs<|.sr<|.az rfl<|.block ?_
 refine .cy [(1,_),(2,_),(5,_),(6,_),(12,_),(14,_),(15,_),(16,_),(18,_),(21,_),(22,_),(24,_)] (X:=Nat×List aH×Value×aw×Value×aw×Value×List Nat×aw) (λy=>y.1<=ks.length/\Df cp num R C (ks.take y.1) sn y.2.1 y.2.2.1 y.2.2.2.1 y.2.2.2.2.1 y.2.2.2.2.2.1 y.2.2.2.2.2.2.1 y.2.2.2.2.2.2.2.1 y.2.2.2.2.2.2.2.2) (λy E=>(25,iN y.1)::(23,y.2.2.2.2.1)::(17,y.2.2.2.2.2.2.1)::E) (G:=[c8,TL,Tr,Tu,bl b2 (aH.enc ⟨a,B,U,f,a1,us,a0,ll,Q⟩) 93,Tp,bl a6 [sZ,.int .i64 0] 86,bl b9 [.string k.os,.string k.oi] 44,bl b6 c.enc 25]) (λy G=>bl a7 [y.2.2.1,.int .i64 ((opened cp num sub k i).2:Nat)] 86::y.2.2.2.1::y.2.2.2.2.2.1::y.2.2.2.2.2.2.2.2::G) (λy=>ks.length-y.1) (0,C,i6,i7,sZ,[],vS,sn,TS) ⟨agt _,⟨rfl,d.o,⟨[],by simp,λq hq=>(by cases hq)⟩,OS.nil,d.so,rfl⟩⟩ kE.c.c.c.c.c.c.c.c.c.c.c.c.c.c.c (bk.eC.trans (aN [2,2,0,3,0,0,0,0,0,0,0,0,0])) ?_
 rintro⟨m,D,e0,e2,vR,TR,i5,H,b8⟩ ⟨k5,v⟩
 simp only at k5 v⊢
 have p7:=v.r.aE
 have o8:=f8 m
 have g1:=k4 m
 rw[agF]at g1
 have n8:D.length=(dq cp num (C.map aH.plain) (ks.take m)).1.length:=by rw[<-v.eq,agp]
 have p3:H.length<=1048576:=by
  rw[v.sq,d.sq, <-rZ]
  refine agr (B8 (n:=D.length) λy hy=>?_) (by omega)
  rcases agG.1 hy with hy|hy
  ·obtain⟨l,a4,hy⟩:=agZ.1 hy
   have h8:=g2 j l a4 y hy
   obtain⟨l7,k3,_⟩:=v.gr
   rw[k3,ag1]
   omega
  ·have h8:=uI (c:=cp) (num:=num) (ks.take m) (C.map aH.plain) y hy
   omega
 refine .seq<|.sr<|.mo rfl<|.mo rfl<|.q (.dG hS) ?_
 refine .q .lss<|.zn ?_
 refine .cond rfl (λh8=>?_) λh8=>?_
 have d5:m<ks.length:=by have:=bT h8;rw[agp]at this;omega
 obtain⟨⟨W,V,Y⟩,hx⟩:=bQ d5
 have hs:(ks.map λx=>(⟨⟨#[]⟩,x.os,x.oi,x.rel⟩:Sub))[m]? =some ⟨⟨#[]⟩,W,V,Y⟩:=by rw[agq,hx];rfl
 have c5:=xV (c:=cp) (num:=num) hx (C.map aH.plain)
 rw[<-v.eq]at c5
 have f9:=f8 (m+1)
 rw[c5]at f9
 simp only at f9
 have k1:∀q,fi (D.map aH.plain) ⟨W,V,Y⟩=some q->eB cp num (D.map aH.plain) ⟨W,V,Y⟩=(D.map aH.plain,q):=λq hq=>by unfold eB;rw[hq]
 have k2:fi (D.map aH.plain) ⟨W,V,Y⟩=none->eB cp num (D.map aH.plain) ⟨W,V,Y⟩=(D.map aH.plain++[one cp num ⟨W,V,Y⟩],D.length):=λhq=>by unfold eB;rw[hq];simp
 refine .kn<|.seq<|.block<|.seq ?_
 refine .dm 12 mixed (by kernel_rfl) ?_
 conv=>arg 6;dsimp only[List.take]
 refine .fa rfl<|.lo rfl<|.mo rfl<|.mo rfl ?_
 refine .aK m hS hs (λq1=>?_)
 refine .fa rfl<|.q (.loadT rfl) ?_
 refine .mo rfl<|.mo rfl ?_
 refine .aK m hS hs (λq2=>?_)
 refine .fa rfl<|.lo rfl<|.nil ?_
 refine .aX (Rh e0 D _ v.o.rx ⟨W,V,Y⟩) (λw hw=>?_)
 subst hw
 refine .ag rfl<|.zs ?_
 refine bz.cO [(1,_),(2,_),(5,_),(6,_),(12,_),(14,_),(15,_),(16,_),(17,_),(18,_),(21,_),(22,_),(23,_),(24,_),(25,_)] kE.c.c.c.c.c.c.c.c.c.c.c.c.c.c.c (X:=Nat×List aH×Value×aw) (λy=>y.1=(eB cp num (D.map aH.plain) ⟨W,V,Y⟩).2/\y.2.1.map aH.plain=(eB cp num (D.map aH.plain) ⟨W,V,Y⟩).1/\OS 93 8 aH.enc y.2.2.1 y.2.1 y.2.2.2/\∃l,y.2.1=D++l/\∀p∈l,aH.is R p) (λy E=>(26,iN y.1)::E) (λy=>[bl a7 [y.2.2.1,.int .i64 ((opened cp num sub k i).2:Nat)] 86,y.2.2.2,TR,b8,c8,TL,Tr,Tu,bl b2 (aH.enc ⟨a,B,U,f,a1,us,a0,ll,Q⟩) 93,Tp,bl a6 [sZ,.int .i64 0] 86,bl b9 [.string k.os,.string k.oi] 44,bl b6 c.enc 25]) ?_ ?_
 refine .sr<|.mo rfl<|.q .lss<|.zn ?_
 refine .cond rfl (λM=>?_) λM=>?_
 have k9:fi (D.map aH.plain) ⟨W,V,Y⟩=none:=by
  cases hh:fi (D.map aH.plain) ⟨W,V,Y⟩with
  |none=>rfl
  |some q=>rw[hh]at M;simp only[fI]at M;have:=bT M;omega
 have f4:=k2 k9
 refine .sr<|.fa rfl<|.lo rfl<|.q (.dG v.o) ?_
 refine .ag rfl<|.z<|.fa rfl<|.lo rfl<|.az rfl<|.cY [14,16] mixed ?_
 refine .tO 0 rfl .move<|.tO 1 rfl (.aM rfl)<|.tO 2 rfl .move<|.tO 3 rfl .move ?_
 refine RA.aK 4 rfl m hS hs rfl rfl rfl (by kernel_rfl) (λq3=>?_)
 refine .tO 5 rfl (.fieldAddr rfl) ?_
 refine .tO 6 rfl (.loadT rfl) ?_
 refine .tO 7 rfl .move<|.tO 8 rfl .move ?_
 refine RA.aK 9 rfl m hS hs rfl rfl rfl (by kernel_rfl) (λq4=>?_)
 refine .tO 10 rfl (.fieldAddr rfl)<|.tO 11 rfl (.ca rfl) ?_
 refine .sT 12 rfl ?_
 refine .aX ((g4 ⟨W,V,Y⟩).weaken cM) (λu m5=>?_)
 obtain⟨p9,rfl,l5,g6⟩:=m5
 have n1:cB p9.enc:=⟨g6.cV⟩
 refine .nil (Next.sub ?_)
 refine .sT 13 rfl ?_
 refine .dN (λn4=>?_)
 refine .nil (Next.sub ?_)
 refine .sT 14 rfl ?_
 refine .append v.o (RS.lits (xs:=[p9]) (by simp) (by simp[aH.enc]) (by simpa using n1.h)) (by simp only[agx];omega) (λv5 T5 a5=>?_)
 have p6:=a5.aE
 refine .nil (Next.mod rfl ?_)
 refine .tK 15 rfl (.fe rfl) ?_
 refine .sT 16 rfl ?_
 refine .dt rfl rfl ?_
 refine .nil (Next.mod rfl ?_)
 refine RA.nil (by kernel_rfl) ?_
 ·exact aF (D.length,D++[p9],v5,T5) ⟨by rw[f4],by rw[f4,agJ,List.map_cons,List.map_nil,l5],a5,_,rfl,λp F=>by rw[agS]at F;subst F;exact g6⟩ kE.c.c.c.c.c.c.c.c.c.c.c.c.c.c.c.c (bk.drop [0] _)
 obtain⟨q9,g8⟩:∃q,fi (D.map aH.plain) ⟨W,V,Y⟩=some q:=by
  cases hh:fi (D.map aH.plain) ⟨W,V,Y⟩with
  |none=>rw[hh]at M;simp[fI]at M
  |some q=>exact⟨q,rfl⟩
 have f3:=k1 q9 g8
 rw[g8]
 refine .skip ?_
 ·exact aF (q9,D,e0,e2) ⟨by rw[f3],by rw[f3],v.o,[],by simp,λp F=>(by cases F)⟩ kE.c.c.c.c.c.c.c.c.c.c.c.c.c.c.c.c rH
 intro y hy
 obtain⟨K,c6,e1,c9⟩:=y
 obtain⟨i2,e6,d3,e8⟩:=hy
 simp only at i2 e6 d3 e8⊢
 have i1:(dq cp num (C.map aH.plain) (ks.take (m+1))).2=(dq cp num (C.map aH.plain) (ks.take m)).2++[K]:=by rw[c5,i2]
 have i0:(dq cp num (C.map aH.plain) (ks.take (m+1))).1=c6.map aH.plain:=by rw[c5,e6]
 have c2:jJ sn (dq cp num (C.map aH.plain) (ks.take (m+1))).2=if K∈H then H else H++[K]:=by rw[i1,rZ, <-v.sq,B9]
 have e9:∃l,c6=C++l/\∀p∈l,aH.is R p:=by
  obtain⟨l1,a2,a3⟩:=v.gr
  obtain⟨l2,d1,d2⟩:=e8
  refine⟨l1++l2,by rw[d1,a2,agR],λq hq=>?_⟩
  rcases agG.1 hq with hq|hq
  ·exact a3 q hq
  ·exact d2 q hq
 refine au<|.sr<|.mo rfl<|.mo rfl ?_
 refine .gL (λi8=>?_)
 refine .append v.r (RS.lits (xs:=[K]) rfl (by simp[da]) (by simp[da,aE])) (by simp only[agx];omega) (λv6 T6 d9=>?_)
 rw[<-i1]at d9
 refine .ag rfl<|.z<|.ag rfl<|.zs<|.sr<|.az rfl<|.block ?_
 refine .cy [(1,_),(2,_),(5,_),(6,_),(12,_),(14,_),(15,_),(16,_),(17,_),(18,_),(21,_),(22,_),(23,_),(24,_),(25,_),(26,_)] (X:=Nat) (λq=>q<=H.length) (λq E=>(29,iN q)::(28,.bool ((H.take q).any λz=>decide (z=K)))::E) (λ_ G=>G) (λq=>H.length-q) 0 (agt _) kE.c.c.c.c.c.c.c.c.c.c.c.c.c.c.c.c.c.c rH ?_
 rintro q hq
 refine .seq<|.sr<|.mo rfl<|.mo rfl<|.q (.dG v.so) ?_
 refine .q .lss<|.zn ?_
 refine .cond rfl (λd0=>?_) λd0=>?_
 have b1:q<H.length:=cg d0
 obtain⟨z,hz⟩:=bQ b1
 have e5:=Dv hz K
 refine .kn<|.seq<|.block ?_
 refine bz.cO [(1,_),(2,_),(5,_),(6,_),(12,_),(14,_),(15,_),(16,_),(17,_),(18,_),(21,_),(22,_),(23,_),(24,_),(25,_),(26,_),(29,_)] kE.c.c.c.c.c.c.c.c.c.c.c.c.c.c.c.c.c (X:=Unit) (λ_=>True) (λ_ E=>(28,.bool ((H.take (q+1)).any λz=>decide (z=K)))::E) (λ_=>[bl i8 [iN K] 3,bl a7 [e1,.int .i64 ((opened cp num sub k i).2:Nat)] 86,c9,T6,b8,c8,TL,Tr,Tu,bl b2 (aH.enc ⟨a,B,U,f,a1,us,a0,ll,Q⟩) 93,Tp,bl a6 [sZ,.int .i64 0] 86,bl b9 [.string k.os,.string k.oi] 44,bl b6 c.enc 25]) ?_ ?_
 refine .region<|.mo rfl<|.mo rfl ?_
 refine .split (t:=156) rfl (λJ=>?_) (λJ=>?_)
 refine .gF J<|.gF J<|.gF J<|.gF J<|.gF J<|.gF J<|.q (.aT J) ?_
 refine .ag rfl<|.nil ?_
 ·exact aF () agu (kE.c.c.c.c.c.c.c.c.c.c.c.c.c.c.c.c.c.bV rfl (by rw[e5];grind)) rH
 refine .gT J<|.mo rfl<|.gT J<|.mo rfl<|.gT J ?_
 refine .aK q v.so hz (λq5=>?_)
 refine .gT J<|.lo rfl<|.gT J<|.mo rfl<|.gT J<|.q .bU<|.q (.aQ J) ?_
 refine .ag rfl<|.nil ?_
 ·exact aF () agu (kE.c.c.c.c.c.c.c.c.c.c.c.c.c.c.c.c.c.bV rfl (by rw[e5];grind)) rH
 intro y hy
 refine aS<|au<|.region<|.mo rfl ?_
 refine .ia (q+1) .add ?_
 refine .ag rfl<|.nil ?_
 ·exact bd (q+1) b1 (by omega) kE.c.c.c.c.c.c.c.c.c.c.c.c.c.c.c.c.c.c rH
 have m2:q=H.length:=by have:=bA d0;omega
 subst m2
 refine .exit<|bo<|bq<|bp<|au<|.sr<|.mo rfl<|.q .not<|.zn ?_
 refine .cond rfl (λa2=>?_) λa2=>?_
 have d4:K∉H:=by
  have:((H.take H.length).any λz=>decide (z=K))=false:=by simpa using a2
  rw[agQ]at this
  intro hh
  have h8:=List.any_eq_false.1 this K hh
  simp at h8
 rw[agn d4]at c2
 refine .region<|.mo rfl<|.mo rfl ?_
 refine .gL (λn5=>?_)
 refine .append v.so (RS.lits (xs:=[K]) rfl (by simp[da]) (by simp[da,aE])) (by simp only[agx];omega) (λv7 T7 m9=>?_)
 refine .ag rfl<|.nil<|aS<|au<|.region<|.mo rfl ?_
 refine .ia (m+1) .add ?_
 refine .ag rfl<|.nil ?_
 ·exact bd (m+1,c6,e1,c9,v6,T6,v7,H++[K],T7) ⟨d5,⟨i0.symm,d3,e9,d9,m9,c2.symm⟩⟩ (by simp only;omega) kE.c.c.c.c.c.c.c.c.c.c.c.c.c.c.c (bk.drop [0,0] _)
 have d4:K∈H:=by
  have:((H.take H.length).any λz=>decide (z=K))=true:=by simpa using a2
  rw[agQ,ag8]at this
  obtain⟨z,hz,e⟩:=this
  exact(bT e)▸hz
 rw[ago d4]at c2
 refine .skip<|aS<|au<|.region<|.mo rfl ?_
 refine .ia (m+1) .add ?_
 refine .ag rfl<|.nil ?_
 ·exact bd (m+1,c6,e1,c9,v6,T6,i5,H,b8) ⟨d5,⟨i0.symm,d3,e9,d9,v.so,c2.symm⟩⟩ (by simp only;omega) kE.c.c.c.c.c.c.c.c.c.c.c.c.c.c.c (bk.drop [0] _)
 have k6:m=ks.length:=by have:=bA h8;rw[agp]at this;omega
 rw[k6,agQ]at v g1
 obtain⟨pu,cu,rfl,_⟩:=v.r.shape
 refine .exit<|bo<|bq<|bp<|au<|.region<|.mo rfl<|.mo rfl ?_
 refine .gL (λn6=>?_)
 refine .append d.le (RS.lits (xs:=[((.slice pu (dq cp num (C.map aH.plain) ks).2.length cu,(dq cp num (C.map aH.plain) ks).2):fD)]) rfl (by simp[eg]) (by simp[eg,aE])) (by simp only[agx];omega) (λv5 T5 a5=>?_)
 refine .ag rfl<|.nil<|aS<|au<|.region<|.mo rfl ?_
 refine .ia (j+1) .add ?_
 refine .ag rfl<|.nil ?_
 ·exact bd (j+1,D,e0,e2,v5,L++[(.slice pu (dq cp num (C.map aH.plain) ks).2.length cu,(dq cp num (C.map aH.plain) ks).2)],T5,TR++Tr,i5,H,b8) ⟨f2,⟨by rw[c4,v.eq,d.eq],v.o,by
   obtain⟨l1,a2,a3⟩:=d.gr
   obtain⟨l2,d1,d2⟩:=v.gr
   refine⟨l1++l2,by rw[d1,a2,agR],λq hq=>?_⟩
   rcases agG.1 hq with hq|hq
   ·exact a3 q hq
   ·exact d2 q hq,a5,λq hq=>by
   rcases agG.1 hq with hq|hq
   ·exact(d.rows q hq).mono λb o A=>gR A
   ·rw[agS]at hq
    subst hq
    exact v.r.sg.mono λb o A=>iP A,by rw[c4,agJ,d.ll,d.eq];rfl,v.so,by rw[c4,ag2,rZ,v.sq,d.sq,d.eq];simp⟩⟩ (by simp only;omega) kE.c.c.c.c.c.c.c.c.c.c.c.c ((aN [1,1,4,1,3,1,2,2,2,2,2,2]).trans (bk.eK (by simp[take,bJ])))
 have k0:j=f.length:=by have:=bA h7;omega
 rw[k0,agQ]at d
 have b7:C[i]? =some ⟨a,B,U,f,a1,us,a0,ll,Q⟩:=by
  obtain⟨l,a4,_⟩:=d.gr
  rw[a4,ag3 f0,F]
 obtain⟨a9,j2⟩:=d.o.ym b7
 have m3:sn.length=kJ (dj cp num sub a (I.map aH.plain) f).2.flatten:=by rw[d.sq];rfl
 refine .exit<|bo<|bq<|bp<|au<|.seq<|.rU [1] [10,13] mixed ?_
 conv=>arg 3;simp only[take,rest,bJ,agH,agI]
 conv=>arg 5;simp only[take,rest,bJ,agH,agI]
 conv=>arg 9;simp only[take,rest,bJ,agH,agI]
 refine .tO 0 rfl (.fieldAddr rfl)<|.tO 1 rfl (.ca rfl)<|.tO 2 rfl .move ?_
 refine .tK 3 rfl (.fe rfl) ?_
 refine .tK 4 rfl (.ca rfl)<|.tK 5 rfl .move<|.tO 6 rfl .move<|.tK 7 rfl .move ?_
 refine RA.aK 8 rfl i d.o b7 rfl rfl rfl (by kernel_rfl) (λq6=>?_)
 refine .tO 9 rfl (.fieldAddr rfl) ?_
 refine .sT 10 rfl ?_
 refine .ph (k:=5) (cs:=[vu]) (z':=(⟨a,B,U,f,vu,if B then iA cp sub a else [],a0,ll,Q⟩:aH)) i d.o b7 rfl rfl rfl (nF i4.h) rfl (by simpa using i4.h) rfl (by simp) (λTd j1=>?_)
 have m1:(C.set i (⟨a,B,U,f,vu,if B then iA cp sub a else [],a0,ll,Q⟩:aH))[i]? =some ⟨a,B,U,f,vu,if B then iA cp sub a else [],a0,ll,Q⟩:=by rw[List.getElem?_set_self (agC.1 b7).1]
 refine .nil (Next.mod rfl ?_)
 refine RA.aK 11 rfl i d.o b7 rfl rfl rfl (by kernel_rfl) (λq7=>?_)
 refine .tK 12 rfl (.fe rfl j2) ?_
 refine .sT 13 rfl ?_
 refine .ph (k:=6) (cs:=[vL]) (z':=(⟨a,B,U,f,vu,if B then iA cp sub a else [],vL,L,Q⟩:aH)) i j1 m1 rfl rfl rfl (nF i3.h) rfl (by simpa using i3.h) rfl (by simp) (λTe e4=>?_)
 rw[List.set_set]at e4
 refine .nil (Next.mod rfl ?_)
 refine RA.nil (by kernel_rfl) ?_
 refine au<|.region ?_
 conv=>arg 8;simp only[rest,bJ,agE,agz]
 refine .fa rfl<|.lo rfl<|.mo rfl<|.q (.dG d.so) ?_
 refine .ia ((opened cp num sub k i).2+sn.length) .add ?_
 refine .fa rfl<|.dt rfl rfl<|.nil<|aS<|au<|.region<|.mo rfl ?_
 refine .ia (i+1) .add ?_
 refine .ag rfl<|.nil ?_
 ·exact bd (i+1,C.set i ⟨a,B,U,f,vu,if B then iA cp sub a else [],vL,L,Q⟩,i6,Te,TL++(Tr++(Tu++Tp))) ⟨f1,by
   simp only
   rw[b0,ag0,d.eq, <-d.ll]
   rfl,e4,λz hz=>by
   rcases List.mem_or_eq_of_mem_set hz with hz|rfl
   ·obtain⟨l,a4,f5⟩:=d.gr
    rw[a4]at hz
    rcases agG.1 hz with hz|hz
    ·exact⟨(hP z hz).1.mono λb o A=>A.imp id λA=>ags _ (ags _ (ags _ A)),(hP z hz).2⟩
    ·exact⟨(f5 z hz).mono λb o A=>.inl A,(f5 z hz).n⟩
   ·exact⟨⟨hn.mono λb o A=>.inl A,O.sg.mono λb o A=>.inr (ags _ (ags _ (agB _ A))),d.le.sg.mono λb o A=>.inr (agB _ A),λy hy=>(d.rows y hy).mono λb o A=>.inr (ags _ (agB _ A))⟩,hn⟩⟩ (by simp only;omega) kE.c.c.c.c.c.c.c ((aN [1,0,0,0,1,2,2,2,2]).trans (bk.eK (by simp[take,bJ,dp,b0,m3])))
 have j9:i=N:=eN.dW (c:=cp) (num:=num) (sub:=sub) (k:=k) ⟨by have:=bA h3;omega,b5⟩ hN
 subst j9
 refine .exit<|bo<|bq<|bp<|au<|.seq<|.sr<|.fa rfl<|.lo rfl<|.q (.dG hO) ?_
 refine .fa rfl<|.lo rfl ?_
 refine .ia (I.length+(opened cp num sub k i).2) .add ?_
 refine .mo rfl<|.q .gtr<|.zn ?_
 refine .cond rfl (λa3=>?_) λa3=>?_
 have g5:b<(((opened cp num sub k i).1.length+(opened cp num sub k i).2:Nat):Int):=by have:=bT a3;omega
 rw[agn (by omega)]at Z
 refine .sr ?_
 refine .q .cL ?_
 refine .bN rfl rfl<|.az rfl ?_
 refine .ret (aJ (aY _ (.two (.eQ rfl rfl) (.tmp rfl)) (bk.one [] _) ?_))
 ·exact(c0 _ _ _).2 ⟨_,[],_,rfl,by rw[Z];rfl,RS.gO,λp F=>(by cases F),by rw[Z];rfl⟩
 have g5:(((opened cp num sub k i).1.length+(opened cp num sub k i).2:Nat):Int)<=b:=by have:=bA a3;omega
 rw[ago g5]at Z
 refine .kn<|.sr<|.q (.aM rfl)<|.bN rfl rfl<|.az rfl ?_
 refine .ret (aY _ (.two (.eQ rfl rfl) (.tmp rfl)) (bk.one [1,1] _) ?_)
 ·exact(c0 _ _ _).2 ⟨vp,I,_,rfl,by rw[Z];rfl,hO.rs λp F=>.inr (by simp[take,bJ,F]),λp F=>(hP p F).1.mono λb o A=>A.imp id λA=>by simp[take,bJ,A],by rw[Z];exact b4⟩
def cH(S:cT)(L:List bB)(rev:Int)(k:bf):List Sub:=if scan S rev then(L.filter λy=>y.there rev&&decide (y.t.cQ=k)).map (·.t.sub)else []
structure WS(R:ay)(cp:Cf)(c:bL)(hb g x:Nat)(S:cT)(num:List Nat)(L:List bB):Prop where
 ci:c.is R
 pl:c.plain=cp
 h:∃vl e,HV R hb vl [e] 0/\e.rev=0/\e.c.plain=cp/\e.ll.map (·.2)=rows cp.bj num
 s:∃ps vf vr Mf Mr,SV R g S ps vf vr Mf Mr
 d:∃vL,DV R x S vL L
 rl:RL S L
 Cq:gj S
 len:S.rows.length<=512
 m:kz isWord dh cp num
 nm:(cp.numbers isWord dh).2=rows cp.bj num
 oY:cp.bj.length<=5/\∀y∈cp.bj,y.bR.length<=6
theorem WS.mono{R R':ay}{cp:Cf}{c:bL}{f g x:Nat}{S:cT}{num:List Nat}{L:List bB}(h:WS R cp c f g x S num L)(a:∀b o,R b o->R' b o):WS R' cp c f g x S num L:=by
 obtain⟨w,e,k,l,n,p⟩:=h.h
 obtain⟨t,v,y,i,j,q⟩:=h.s
 obtain⟨u,r⟩:=h.d
 exact⟨h.ci.mono a,h.pl,⟨w,e,k.mono a,l,n,p⟩,⟨t,v,y,i,j,q.mono a⟩,⟨u,r.mono a⟩,h.rl,h.Cq,h.len,h.m,h.nm,h.oY⟩
theorem D0(c:Cf):(eR c).bj.length<=5/\∀y∈(eR c).bj,y.bR.length<=6:=by
 unfold eR
 refine⟨by simp only[agp,agF];omega,λy a=>?_⟩
 simp only at a
 obtain⟨s,_,rfl⟩:=agy.1 a
 unfold sV
 simp only[agp,agF]
 omega
section
variable{R:ay}{cp:Cf}{c:bL}{hb g x:Nat}{S:cT}{num:List Nat}{L:List bB}
theorem WS.ll(h:WS R cp c hb g x S num L):L.length<=512:=by rw[h.rl.pm.length_eq];exact h.len
theorem TC(S:cT)(L:List bB)(rev:Int):∃M:List (bf×Sub),M.length<=L.length/\(∀y∈M,∃r∈L,y=(r.t.cQ,r.t.sub))/\fW M=cH S L rev:=by
 refine⟨if scan S rev then(L.filter λy=>y.there rev).map λy=>(y.t.cQ,y.t.sub)else [],?_,?_,?_⟩
 ·split
  ·rw[agp];exact agv _ _
  ·simp
 ·intro y b
  split at b
  ·obtain⟨r,c,rfl⟩:=agy.1 b
   exact⟨r,(List.mem_filter.1 c).1,rfl⟩
  ·cases b
 ·funext k
  unfold fW cH
  split
  ·rw[List.filter_map,agU,List.filter_filter]
   have:(λa:bB=>((λx:bf×Sub=>decide (x.1=k))∘λy:bB=>(y.t.cQ,y.t.sub)) a&&a.there rev)=λy:bB=>y.there rev&&decide (y.t.cQ=k):=by
    funext y
    simp[Bool.and_comm]
   rw[this]
   rfl
  ·rfl
theorem TB{rev:Int}{k:bf}{s:Sub}(h:s∈cH S L rev k):∃r∈L,s=r.t.sub:=by
 unfold cH at h
 split at h
 ·obtain⟨r,a,rfl⟩:=agy.1 h
  exact⟨r,(List.mem_filter.1 a).1,rfl⟩
 ·cases h
theorem WS.lh(h:WS R cp c hb g x S num L)(rev:Int)(k:bf)(i:Nat)(a:∀j,j<i->j<(opened cp num (cH S L rev) k j).1.length):(opened cp num (cH S L rev) k i).1.length+(opened cp num (cH S L rev) k i).2<=1048576:=by
 obtain⟨M,b,_,d⟩:=TC S L rev
 rw[<-d]at a⊢
 obtain⟨E,e,_⟩:=h.m.ex
 exact Ue e h.m.right h.m.dW h.oY.2 (agr b (agr h.ll (by decide))) k i a
theorem WS.fin(h:WS R cp c hb g x S num L)(rev:Int)(k:bf):∃N,eN cp num (cH S L rev) k N:=by
 have d:∀k,∀s∈cH S L rev k,s∈L.map (·.t.sub):=λk s b=>by
  obtain⟨r,a,rfl⟩:=TB b
  exact agy.2 ⟨r,a,rfl⟩
 exact eN.ex λi=>QB (Ra d) Sq i
theorem WS.ul(h:WS R cp c hb g x S num L)(rev:Int)(k:bf):(fitting cp (cH S L rev) k).length<=512:=by
 unfold fitting
 refine agr (agv _ _) ?_
 unfold cH
 split
 ·rw[agp]
  exact agr (agv _ _) h.ll
 ·simp
theorem WS.uK(h:WS R cp c hb g x S num L)(rev:Int)(k:bf)(n:Nd):(ee cp (cH S L rev) k n).length<=512:=by
 have a:∀k,(fU cp (cH S L rev) k).length<=512:=λk=>agr (agv _ _) (h.ul rev k)
 unfold ee
 split
 ·rw[agp];exact a _
 ·split
  ·rw[agp];exact a _
  ·split<;>simp
theorem WS.et(h:WS R cp c hb g x S num L)(rev:Int)(D:0<=rev)(k:bf)(b:Int)(w:b<=9223372036854775807){N:Nat}(r:eN cp num (cH S L rev) k N):
  Spec prog 34 [pT hb,pT g,.int .u64 rev,.agg [.string k.os,.string k.oi].toArray,.string k.rel,.int .i64 b] R [] (lD R (et cp num (cH S L rev) k b (scan S rev) N)):=by
 obtain⟨J,e,u,y,z,f⟩:=h.h
 obtain⟨H,I,K,E,F,t⟩:=h.s
 have v:kA [e] rev=some e:=by
  unfold kA
  have:hl [e] rev 1=some 0:=by
   simp only[hl,List.getElem?_cons_zero,y]
   simp[D]
  rw[show([e]:List ep).length=1 from rfl,this]
  rfl
 have A:=h.lh rev k
 subst z
 exact yN u t h.rl (agr h.len (by decide)) rev e v num h.m f (by simp) (λa j=>by
  rw[agS]at j
  subst j
  have G:a.ll.length=a.c.plain.bj.length:=by rw[<-ni a.c.plain.bj num, <-f,agp]
  refine⟨by have:=h.oY.1;omega,λq B=>?_⟩
  have C:q.2∈rows a.c.plain.bj num:=by rw[<-f];exact agy.2 ⟨q,B,rfl⟩
  obtain⟨i,d,o⟩:=agX.1 C
  rw[ni]at d
  have l:=oV (n:=num) (aZ d)
  rw[aZ (by rw[ni];exact d),o]at l
  have p:=Option.some.inj l
  rw[p,agF]
  have:=h.oY.2 _ (List.getElem_mem d)
  omega) k b w (cH S L rev) rfl A N r
theorem WS.Q8(h:WS R cp c hb g x S num L)(rev:Int)(k:bf)(b:Int){N:Nat}(e:eN cp num (cH S L rev) k N):
  Spec prog 35 [.agg c.enc.toArray,pT x,.int .u64 rev,.agg [.string k.os,.string k.oi].toArray,.string k.rel,.int .i64 b] R [] (lD R (Go.Proofs.YtdljmchhecoakaaGreat.et cp num (cH S L rev) k b (scan S rev) N)):=by
 obtain⟨n,a⟩:=h.d
 have i:=h.lh rev k
 have j:=h.m
 have l:=h.nm
 have f:=h.pl
 subst f
 exact Q9 c R h.ci num j l a h.ll rev k b (cH S L rev) rfl i N e
end
theorem PM(w:mg)(R:ay)(h:w.is R):Spec prog 14 [.agg w.enc.toArray] R [] λu H'=>∃T,H'=[T]/\∃(c:bL) (p1 p2 p3:Value) (ok:Bool),u=.tuple [p1,p2,.agg c.enc.toArray,p3,.bool ok].toArray/\One p1/\One p2/\One p3/\c.is (λb o=>R b o\/(b,o)∈T)/\c.plain=eR w.c.plain/\ok=decide (((eR w.c.plain).numbers isWord dh).1=0)/\
  (ok=true->∃hb g x S num L,p1=pT hb/\p2=pT g/\p3=pT x/\WS (λb o=>R b o\/(b,o)∈T) (eR w.c.plain) c hb g x S num L):=by
 refine Spec.flat ((PN w R h).mono λu H' hu=>?_)
 rcases hu with hu|⟨T,c,x,rfl,rfl,k,a,l⟩
 ·obtain⟨d,f,i,j,hb,g,x,e,S,c,rfl,rfl,k,a,l,E,n,y,A,B,t,F⟩:=hu
  obtain⟨num,q,G⟩:=Bb l
  refine⟨_,d++(f++(i++j)),rfl,by simp,_,rfl,c,_,_,_,true,rfl,⟨rfl⟩,⟨rfl⟩,⟨rfl⟩,k.mono λb o hb=>hb.imp id λhb=>agB _ hb,a,by rw[l];rfl,λ_=>?_⟩
  obtain⟨K,m⟩:=y.view (R:=λb o=>R b o\/(b,o)∈d++(f++(i++j))) λp a=>.inr (ags _ (agB _ a))
  obtain⟨H,J,M,r,s,C⟩:=A.view (R:=λb o=>R b o\/(b,o)∈d++(f++(i++j))) λp a=>.inr (ags _ (ags _ (agB _ a)))
  obtain⟨I,L,v,z⟩:=t.view (R:=λb o=>R b o\/(b,o)∈d++(f++(i++j))) λp a=>.inr (ags _ (ags _ (ags _ a)))
  have D:=m.all e (by simp)
  exact⟨hb,g,x,S,num,L,rfl,rfl,rfl,k.mono λb o hb=>hb.imp id λhb=>agB _ hb,a,⟨K,e,m,E,n,by rw[D.eq,n,q]⟩,⟨H,J,M,r,s,C⟩,⟨I,v⟩,z,B,F,G,q,D0 _⟩
 ·exact⟨_,T,rfl,by simp,_,rfl,c,_,_,_,false,rfl,⟨rfl⟩,⟨rfl⟩,⟨rfl⟩,k,a,(decide_eq_false l).symm,λh=>(by cases h)⟩
theorem Eo{W:ByteArray->Bool}{l:List Nd}(h:fY W l≠0):∀i,i<l.length->(tree W l (i+1)).isSome=true:=λi d=>by
 unfold fY at h
 cases ht:tree W l l.length with
 |none=>rw[ht]at h;exact absurd rfl h
 |some p=>
  obtain⟨b,x⟩:=p
  rw[ht]at h
  simp only at h
  have c:b=0:=by
   by_cases a:b=0
   ·exact a
   ·rw[agn a]at h;exact absurd rfl h
  subst c
  exact(jc _ _ ht).2.2.2 i (agt _) d
theorem Qw{W:ByteArray->Bool}{F:ByteArray->ByteArray->Bool}{c:Cf}{num:List Nat}{k:bf}(d:c.right W F=true):∀i,i<(one c num k).nodes.length->(tree W (one c num k).nodes (i+1)).isSome=true:=by
 unfold one
 split
 ·intro i a;exact absurd a (by simp)
 ·rename_i i a
  simp only[agw,agq]
  cases hy:c.all[i]? with
  |none=>intro i a;exact absurd a (by simp)
  |some y=>
   have b:=(nT d y (ba hy)).1
   unfold na at b
   simp only[Bool.and_eq_true,bne_iff_ne,ne_eq]at b
   simp only[agW,ag4]
   exact Eo b.1.2
section
variable{R R':ay}{cp:Cf}{c:bL}{hb g x:Nat}{S:cT}{num:List Nat}{L:List bB}
theorem WS.xm(h:WS R cp c hb g x S num L){rev:Int}{k:bf}{N:Nat}(b:eN cp num (cH S L rev) k N){ps:List aH}(e:ps.map aH.plain=(opened cp num (cH S L rev) k N).1)(us:ByteArray):lG ps us:=by
 have f:=b.gr
 have C:∀p∈ps,p.plain∈(opened cp num (cH S L rev) k N).1:=λp a=>by rw[<-e];exact agy.2 ⟨p,a,rfl⟩
 have o:∀p∈ps,p.nodes=(one cp num p.k).nodes:=λp a=>(f.one p.plain (C p a)).2.1
 have I:=h.lh rev k N b.2
 have z:=b.yV
 have H:(opened cp num (cH S L rev) k N).1.length=ps.length:=by rw[<-e,agp]
 refine⟨by rw[e];exact h.m.ps b us,λp a=>by rw[o p a];exact Qw h.m.right,λp a=>by rw[o p a];exact agr (wD h.m.right) (by decide),λp a q F=>?_,by omega,by rw[e,z];omega⟩
 obtain⟨i,A,s⟩:=agX.1 a
 have E:(opened cp num (cH S L rev) k N).1[i]? =some p.plain:=by rw[<-e,agq,aZ A,s];rfl
 obtain⟨⟨t,v⟩,G⟩:=f.op i p.plain (by omega) E
 have u:p.ll.length=p.nodes.length:=by have:(p.ll.map (·.2)).length=p.nodes.length:=t;rwa [agp]at this
 obtain⟨j,l,r⟩:=agX.1 F
 have B:j<p.nodes.length:=by rw[<-u];exact l
 obtain⟨n,D⟩:∃n,p.nodes[j]? =some n:=⟨_,aZ B⟩
 have d:=v j n D
 have w:(p.plain.leads.getD j [])=q.2:=by
  show((p.ll.map (·.2)).getD j [])=q.2
  rw[agw,agq,aZ l,r];rfl
 rw[w]at d
 have y:=agA List.length d
 rw[agp,agp]at y
 have:=h.uK rev p.plain.k n
 omega
end
theorem qT{P:Program}{f:FuncId}{c:List Value}{R a:ay}{H:aV}{out:List bO×Nat×Int}(h:Spec P f c a H (lD R out)):Spec P f c a H λu H'=>∃T,H'=[T]/\∃vp ps,u=.tuple [.agg [vp,iN out.2.1].toArray,.int .i64 out.2.2].toArray/\RS (λb o=>R b o\/(b,o)∈T) 8 aH.enc vp ps/\(∀p∈ps,aH.is (λb o=>R b o\/(b,o)∈T) p)/\ps.map aH.plain=out.1:=h.mono λu H' g=>by
 obtain⟨vp,ps,T,d,e⟩:=g
 exact⟨T,d,vp,ps,e⟩
def jR(us:ByteArray)(D:List bO×Nat×Int)(b:Int)(K:Nat)(v:List Bool):Bool×Int:=
 if dY us=false then(false,9)else if D.2.2≠0 then(false,D.2.2)
 else if(eG b K v).2.2≠0 then(false,(eG b K v).2.2)else((eG b K v).1.getD 0 false,0)
theorem Er{c:Cf}{num:List Nat}{sub:bf->List Sub}{k:bf}{b:Int}{can:Bool}{N:Nat}(h:(et c num sub k b can N).2.2=0):(et c num sub k b can N).1=(opened c num sub k N).1/\(et c num sub k b can N).2.1=(opened c num sub k N).2/\1<=b:=by
 unfold et at h⊢
 split
 ·rename_i a;rw[ago a]at h;cases h
 ·rename_i a
  rw[agn a]at h
  split
  ·rename_i d;rw[ago d]at h;cases h
  ·rename_i d
   rw[agn d]at h
   split
   ·exact⟨rfl,rfl,by omega⟩
   ·rename_i e;rw[agn e]at h;cases h
theorem Bk(c:Cf)(num:List Nat)(sub:bf->List Sub)(k:bf)(N:Nat):0<(opened c num sub k N).1.length:=by
 have:=(tH (c:=c) (num:=num) (sub:=sub) (k:=k) (agt N)).1
 have a:(opened c num sub k 0).1.length=1:=by simp[opened]
 omega
theorem Cr{ps:List bO}{us:ByteArray}{K:Nat}{s:QS}(ok:ka ps us)(e:dR ps us K s){b:Int}(a:(eG b K s.1).2.2=0):(eG b K s.1).1=s.1/\(eG b K s.1).1.length=ps.length:=by
 have f:=(e.inv ok).l1
 unfold eG at a⊢
 split
 ·rename_i c;rw[ago c]at a;cases a
 ·rename_i c
  rw[agn c]at a
  split
  ·rename_i d;rw[ago d]at a;cases a
  ·exact⟨rfl,f⟩
theorem SQ{R R':ay}{cp:Cf}{c:bL}{d g x:Nat}{S:cT}{num:List Nat}{L:List bB}(h:WS R cp c d g x S num L)(rev:Int)(V:0<=rev)(k:bf)(us:ByteArray)(Y:us.size<=9223372036854775807)(b:Int)(z:b<=9223372036854775807){N:Nat}(w:eN cp num (cH S L rev) k N){K:Nat}{s:QS}(n:dR (opened cp num (cH S L rev) k N).1 us K s)(W:iM s.2):
  Spec prog 26 [pT d,pT g,.int .u64 rev,.agg [.string k.os,.string k.oi].toArray,.string k.rel,.string us,.int .i64 b] R [] λu H'=>u=.tuple [.bool (jR us (et cp num (cH S L rev) k b (scan S rev) N) b K s.1).1,.int .i64 (jR us (et cp num (cH S L rev) k b (scan S rev) N) b K s.1).2].toArray/\H'=[]:=by
 have A:=h.et rev V k b z w
 have X:=λ(ps:List aH) e=>h.xm w (ps:=ps) e us
 have G:=Er (c:=cp) (num:=num) (sub:=cH S L rev) (k:=k) (b:=b) (can:=scan S rev) (N:=N)
 have B:=Bk cp num (cH S L rev) k N
 obtain⟨D,M⟩:∃D,D=et cp num (cH S L rev) k b (scan S rev) N:=⟨_,rfl⟩
 rw[<-M]at A G⊢
 have a:jR us D b K s.1=if dY us=false then(false,9)else if D.2.2≠0 then(false,D.2.2)
  else if(eG b K s.1).2.2≠0 then(false,(eG b K s.1).2.2)else((eG b K s.1).1.getD 0 false,0):=rfl
 generalize jR us D b K s.1=out at *
 generalize (opened cp num (cH S L rev) k N).1=OP at *
 refine Spec.body func26 rfl results26 ntmps26 rfl<|.sr ?_
 refine .cb rfl (λa2=>?_)
 refine .ag rfl<|.ag rfl<|.zs<|.sr<|.mo rfl<|.aX ((rq us Y R).weaken cM) (λu f=>?_)
 subst f
 refine .q .not<|.zn<|.cond rfl (λj=>?_) λj=>?_
 have t:dY us=false:=by simpa using j
 rw[ago t]at a
 subst a
 refine .sr<|.ag rfl<|.az rfl<|.ret (aJ (aY _ (.two (.tmp rfl) (.tmp rfl)) (.none _) ?_))
 ·exact⟨rfl,rfl⟩
 have t:¬dY us=false:=by simpa using j
 rw[agn t]at a
 refine .kn<|.sr<|.mo rfl<|.mo rfl<|.mo rfl<|.q (.aM rfl)<|.mo rfl<|.mo rfl<|.cX ((qT A).weaken cM) (λu a0 f=>?_)
 obtain⟨vp,ps,rfl,C,Q,r⟩:=f
 have a7:=C.aE
 refine .mo rfl<|.q .extract<|.q .extract ?_
 refine .bX (λa3=>?_)
 refine .bN rfl rfl<|.ag rfl<|.zs<|.sr<|.mo rfl<|.q .eh<|.zn<|.cond rfl (λl=>?_) λl=>?_
 have v:D.2.2≠0:=by simpa using l
 rw[ago v]at a
 subst a
 refine .sr<|.mo rfl<|.ag rfl<|.az rfl<|.ret (aJ (aY _ (.two (.tmp rfl) (.tmp rfl)) (.none _) ?_))
 ·exact⟨rfl,rfl⟩
 have H:D.2.2=0:=by simpa using l
 rw[agn (by rw[H];simp)]at a
 obtain⟨Z,a5,a6⟩:=G H
 rw[Z]at r
 have F:=X ps r
 rw[<-r]at n B
 have E:=λJ=>Cr F.ok n (b:=b) J
 rw[agp]at B E
 refine .kn<|.sr<|.q (.aM rfl)<|.mo rfl<|.mo rfl<|.cX (CX vp _ us ps _ (C.mono λb o d=>d.elim .inl λd=>.inr (by simp[d])) (λp U=>(Q p U).mono λb o d=>d.elim .inl λd=>.inr (by simp[d])) F b z K s n W) (λu a1 f=>?_)
 obtain⟨vo,rfl,O⟩:=f
 refine .mo rfl<|.q .extract<|.q .extract<|.q .extract<|.ag rfl<|.ag rfl<|.ag rfl<|.zs<|.sr<|.mo rfl<|.q .eh<|.zn<|.cond rfl (λm=>?_) λm=>?_
 have v:(eG b K s.1).2.2≠0:=by simpa using m
 rw[ago v]at a
 subst a
 refine .sr<|.mo rfl<|.ag rfl<|.az rfl<|.ret (aJ (aY _ (.two (.tmp rfl) (.tmp rfl)) (.none _) ?_))
 ·exact⟨rfl,rfl⟩
 have I:(eG b K s.1).2.2=0:=by simpa using m
 rw[agn (by rw[I];simp)]at a
 obtain⟨_,a4⟩:=E I
 obtain⟨i,y⟩:∃i,(eG b K s.1).1[0]? =some i:=⟨_,aZ (by omega)⟩
 have T:(eG b K s.1).1.getD 0 false=i:=by rw[agw,y];rfl
 rw[T]at a
 subst a
 refine .kn<|.sr<|.mo rfl ?_
 refine .aK 0 O y (λa8=>?_)
 refine .lo rfl<|.ag rfl<|.az rfl<|.ret (aY _ (.two (.tmp rfl) (.tmp rfl)) (.none _) ?_)
 ·exact⟨rfl,rfl⟩
theorem Ui{H:Type}{enc:TypeId×Value->H}{W:World}{f:Nat}{cs:List Value}{x:DataW H×List MemPlace}(h:DataW.trod enc prog W 0 (λ_=>true) true f 249 cs=some x):∃t:Ty,cs=t.enc/\t.fits:=by
 obtain⟨c,d⟩:=kM underlying249 h
 have j:prog.cellsOf 249=2:=by kernel_rfl
 rw[j]at c
 have e:prog.cellsOf 9=1:=by kernel_rfl
 match cs,c with
 |[a0,a1],_=>
  obtain⟨p,r,a⟩:∃n y,DataW.trod enc prog W 0 (λ_=>true) true n 9 (([a0,a1].drop 0).take (prog.cellsOf 9))=some y:=d 0 _ rfl
  obtain⟨q,s,b⟩:∃n y,DataW.trod enc prog W 0 (λ_=>true) true n 9 (([a0,a1].drop 1).take (prog.cellsOf 9))=some y:=d 1 _ rfl
  simp only[e,agL,agM,agN,agO]at a b
  obtain⟨m,g,k⟩:=kR a
  obtain⟨o,i,l⟩:=kR b
  cases g;cases i
  exact⟨⟨m,o⟩,rfl,k,l⟩
theorem P4{H:Type}{enc:TypeId×Value->H}{W:World}{f:Nat}{cs:List Value}{x:DataW H×List MemPlace}(h:DataW.trod enc prog W 0 (λ_=>true) true f 199 cs=some x):∃t:Nd,cs=t.enc/\t.fits:=by
 obtain⟨i,a⟩:=kM underlying199 h
 have s:prog.cellsOf 199=5:=by kernel_rfl
 rw[s]at i
 have j:prog.cellsOf 3=1:=by kernel_rfl
 have l:prog.cellsOf 9=1:=by kernel_rfl
 match cs,i with
 |[a0,a1,a2,a3,a4],_=>
  obtain⟨D,J,b⟩:∃n y,DataW.trod enc prog W 0 (λ_=>true) true n 3 (([a0,a1,a2,a3,a4].drop 0).take (prog.cellsOf 3))=some y:=a 0 _ rfl
  obtain⟨E,K,c⟩:∃n y,DataW.trod enc prog W 0 (λ_=>true) true n 9 (([a0,a1,a2,a3,a4].drop 1).take (prog.cellsOf 9))=some y:=a 1 _ rfl
  obtain⟨F,L,d⟩:∃n y,DataW.trod enc prog W 0 (λ_=>true) true n 9 (([a0,a1,a2,a3,a4].drop 2).take (prog.cellsOf 9))=some y:=a 2 _ rfl
  obtain⟨G,M,e⟩:∃n y,DataW.trod enc prog W 0 (λ_=>true) true n 3 (([a0,a1,a2,a3,a4].drop 3).take (prog.cellsOf 3))=some y:=a 3 _ rfl
  obtain⟨I,N,g⟩:∃n y,DataW.trod enc prog W 0 (λ_=>true) true n 3 (([a0,a1,a2,a3,a4].drop 4).take (prog.cellsOf 3))=some y:=a 4 _ rfl
  simp only[j,l,agL,agM,agN,agO]at b c d e g
  obtain⟨A,m⟩:=s8 (k:=.i64) b
  obtain⟨w,o,u⟩:=kR c
  obtain⟨z,p,v⟩:=kR d
  obtain⟨B,q⟩:=s8 (k:=.i64) e
  obtain⟨C,r⟩:=s8 (k:=.i64) g
  cases m;cases o;cases p;cases q;cases r
  exact⟨⟨A,w,z,B,C⟩,rfl,u,v⟩
theorem Sh{H:Type}{enc:TypeId×Value->H}{W:World}{f:Nat}{cs:List Value}{x:DataW H×List MemPlace}(h:DataW.trod enc prog W 0 (λ_=>true) true f 169 cs=some x):∃t:Sc,cs=t.enc/\t.fits:=by
 obtain⟨e,a⟩:=kM underlying169 h
 have m:prog.cellsOf 169=4:=by kernel_rfl
 rw[m]at e
 have i:prog.cellsOf 9=1:=by kernel_rfl
 have g:prog.cellsOf 44=2:=by kernel_rfl
 match cs,e with
 |[a0,a1,a2,a3],_=>
  obtain⟨z,C,b⟩:∃n y,DataW.trod enc prog W 0 (λ_=>true) true n 9 (([a0,a1,a2,a3].drop 0).take (prog.cellsOf 9))=some y:=a 0 _ rfl
  obtain⟨A,D,c⟩:∃n y,DataW.trod enc prog W 0 (λ_=>true) true n 44 (([a0,a1,a2,a3].drop 1).take (prog.cellsOf 44))=some y:=a 1 _ rfl
  obtain⟨B,E,d⟩:∃n y,DataW.trod enc prog W 0 (λ_=>true) true n 9 (([a0,a1,a2,a3].drop 3).take (prog.cellsOf 9))=some y:=a 2 _ rfl
  simp only[i,g,agL,agM,agN,agO]at b c d
  obtain⟨s,j,o⟩:=kR b
  obtain⟨u,v,k,p,q⟩:=tS c
  obtain⟨w,l,r⟩:=kR d
  cases j;cases k;cases l
  exact⟨⟨s,u,v,w⟩,rfl,o,p,q,r⟩
theorem Uk{H:Type}{enc:TypeId×Value->H}{W:World}{f:Nat}{cs:List Value}{x:DataW H×List MemPlace}(h:DataW.trod enc prog W 0 (λ_=>true) true f 165 cs=some x):∃v l,cs=[v]/\RS (Rw W) 2 Ty.enc v l/\∀t∈l,t.fits:=
 RS.nM (D:=λt:Ty=>t.fits) (sz:=2) (en:=Ty.enc) underlying165 (by kernel_rfl) (by omega) h λn cs x b=>by
  obtain⟨t,rfl,a⟩:=Ui b
  exact⟨rfl,(Ty.one t).h,t,rfl,a⟩
theorem P7{H:Type}{enc:TypeId×Value->H}{W:World}{f:Nat}{cs:List Value}{x:DataW H×List MemPlace}(h:DataW.trod enc prog W 0 (λ_=>true) true f 90 cs=some x):∃v l,cs=[v]/\RS (Rw W) 5 Nd.enc v l/\∀t∈l,t.fits:=
 RS.nM (D:=λt:Nd=>t.fits) (sz:=5) (en:=Nd.enc) underlying90 (by kernel_rfl) (by omega) h λn cs x b=>by
  obtain⟨t,rfl,a⟩:=P4 b
  exact⟨rfl,(Nd.one t).h,t,rfl,a⟩
theorem Sn{H:Type}{enc:TypeId×Value->H}{W:World}{f:Nat}{cs:List Value}{x:DataW H×List MemPlace}(h:DataW.trod enc prog W 0 (λ_=>true) true f 23 cs=some x):∃v l,cs=[v]/\RS (Rw W) 4 Sc.enc v l/\∀t∈l,t.fits:=
 RS.nM (D:=λt:Sc=>t.fits) (sz:=4) (en:=Sc.enc) underlying23 (by kernel_rfl) (by omega) h λn cs x b=>by
  obtain⟨t,rfl,a⟩:=Sh b
  exact⟨rfl,(Sc.one t).h,t,rfl,a⟩
theorem Rv{H:Type}{enc:TypeId×Value->H}{W:World}{f:Nat}{cs:List Value}{x:DataW H×List MemPlace}(h:DataW.trod enc prog W 0 (λ_=>true) true f 167 cs=some x):∃t:cj,cs=t.enc/\t.is (Rw W):=by
 obtain⟨e,a⟩:=kM underlying167 h
 have q:prog.cellsOf 167=3:=by kernel_rfl
 rw[q]at e
 have i:prog.cellsOf 9=1:=by kernel_rfl
 have j:prog.cellsOf 90=1:=by kernel_rfl
 have g:prog.cellsOf 165=1:=by kernel_rfl
 match cs,e with
 |[a0,a1,a2],_=>
  obtain⟨A,F,b⟩:∃n y,DataW.trod enc prog W 0 (λ_=>true) true n 9 (([a0,a1,a2].drop 0).take (prog.cellsOf 9))=some y:=a 0 _ rfl
  obtain⟨B,G,c⟩:∃n y,DataW.trod enc prog W 0 (λ_=>true) true n 165 (([a0,a1,a2].drop 1).take (prog.cellsOf 165))=some y:=a 1 _ rfl
  obtain⟨C,I,d⟩:∃n y,DataW.trod enc prog W 0 (λ_=>true) true n 90 (([a0,a1,a2].drop 2).take (prog.cellsOf 90))=some y:=a 2 _ rfl
  simp only[i,j,g,agL,agM,agN,agO]at b c d
  obtain⟨z,k,r⟩:=kR b
  obtain⟨D,s,l,v,o⟩:=Uk c
  obtain⟨E,u,m,w,p⟩:=P7 d
  cases k;cases l;cases m
  exact⟨⟨_,_,⟨z,s,u⟩⟩,rfl,r,v,w,o,p⟩
theorem Rz{H:Type}{enc:TypeId×Value->H}{W:World}{f:Nat}{cs:List Value}{x:DataW H×List MemPlace}(h:DataW.trod enc prog W 0 (λ_=>true) true f 162 cs=some x):∃v l,cs=[v]/\RS (Rw W) 3 cj.enc v l/\∀t∈l,t.is (Rw W):=
 RS.nM (D:=λt:cj=>t.is (Rw W)) (sz:=3) (en:=cj.enc) underlying162 (by kernel_rfl) (by omega) h λn cs x b=>by
  obtain⟨t,rfl,a⟩:=Rv b
  exact⟨rfl,a.cV,t,rfl,a⟩
theorem S6{H:Type}{enc:TypeId×Value->H}{W:World}{f:Nat}{cs:List Value}{x:DataW H×List MemPlace}(h:DataW.trod enc prog W 0 (λ_=>true) true f 164 cs=some x):∃t:cm,cs=t.enc/\t.is (Rw W):=by
 obtain⟨c,d⟩:=kM underlying164 h
 have l:prog.cellsOf 164=2:=by kernel_rfl
 rw[l]at c
 have g:prog.cellsOf 9=1:=by kernel_rfl
 have e:prog.cellsOf 162=1:=by kernel_rfl
 match cs,c with
 |[a0,a1],_=>
  obtain⟨r,v,a⟩:∃n y,DataW.trod enc prog W 0 (λ_=>true) true n 9 (([a0,a1].drop 0).take (prog.cellsOf 9))=some y:=d 0 _ rfl
  obtain⟨s,w,b⟩:∃n y,DataW.trod enc prog W 0 (λ_=>true) true n 162 (([a0,a1].drop 1).take (prog.cellsOf 162))=some y:=d 1 _ rfl
  simp only[g,e,agL,agM,agN,agO]at a b
  obtain⟨q,i,m⟩:=kR a
  obtain⟨u,o,j,p,k⟩:=Rz b
  cases i;cases j
  exact⟨⟨q,_,o⟩,rfl,m,p,k⟩
theorem S8{H:Type}{enc:TypeId×Value->H}{W:World}{f:Nat}{cs:List Value}{x:DataW H×List MemPlace}(h:DataW.trod enc prog W 0 (λ_=>true) true f 22 cs=some x):∃v l,cs=[v]/\RS (Rw W) 2 cm.enc v l/\∀t∈l,t.is (Rw W):=
 RS.nM (D:=λt:cm=>t.is (Rw W)) (sz:=2) (en:=cm.enc) underlying22 (by kernel_rfl) (by omega) h λn cs x b=>by
  obtain⟨t,rfl,a⟩:=S6 b
  exact⟨rfl,a.cV,t,rfl,a⟩
theorem D1{H:Type}{enc:TypeId×Value->H}{W:World}{f:Nat}{cs:List Value}{x:DataW H×List MemPlace}(h:DataW.trod enc prog W 0 (λ_=>true) true f 25 cs=some x):∃c:bL,cs=c.enc/\c.is (Rw W):=by
 obtain⟨d,e⟩:=kM underlying25 h
 have o:prog.cellsOf 25=2:=by kernel_rfl
 rw[o]at d
 have g:prog.cellsOf 22=1:=by kernel_rfl
 have i:prog.cellsOf 23=1:=by kernel_rfl
 match cs,d with
 |[a0,a1],_=>
  obtain⟨t,z,a⟩:∃n y,DataW.trod enc prog W 0 (λ_=>true) true n 22 (([a0,a1].drop 0).take (prog.cellsOf 22))=some y:=e 0 _ rfl
  obtain⟨u,A,b⟩:∃n y,DataW.trod enc prog W 0 (λ_=>true) true n 23 (([a0,a1].drop 1).take (prog.cellsOf 23))=some y:=e 1 _ rfl
  simp only[g,i,agL,agM,agN,agO]at a b
  obtain⟨v,p,j,r,l⟩:=S8 a
  obtain⟨w,q,k,s,m⟩:=Sn b
  cases j;cases k
  exact⟨⟨_,_,p,q⟩,rfl,r,s,l,m⟩
theorem Ut{H:Type}{enc:TypeId×Value->H}{W:World}{f:Nat}{cs:List Value}{x:DataW H×List MemPlace}(h:DataW.trod enc prog W 0 (λ_=>true) true f 28 cs=some x):∃w:mg,cs=w.enc/\w.is (Rw W):=by
 obtain⟨e,g⟩:=kM underlying28 h
 have a:prog.cellsOf 28=3:=by kernel_rfl
 rw[a]at e
 have i:prog.cellsOf 25=2:=by kernel_rfl
 have j:prog.cellsOf 26=1:=by kernel_rfl
 match cs,e with
 |[a0,a1,a2],_=>
  obtain⟨q,t,b⟩:∃n y,DataW.trod enc prog W 0 (λ_=>true) true n 25 (([a0,a1,a2].drop 0).take (prog.cellsOf 25))=some y:=g 0 _ rfl
  obtain⟨r,u,d⟩:∃n y,DataW.trod enc prog W 0 (λ_=>true) true n 26 (([a0,a1,a2].drop 2).take (prog.cellsOf 26))=some y:=g 1 _ rfl
  simp only[i,j,agL,agM,agN,agO]at b d
  obtain⟨c,k,a⟩:=D1 b
  obtain⟨s,o,l,p,m⟩:=Sj d
  cases k;cases l
  exact⟨⟨c,_,o⟩,rfl,a,p,m⟩
theorem BW(n:Value)(a:List Nat)(o:Value)(v:List Bool)(R:ay)(h:RS R 1 da n a)(w:RS R 1 dE o v)(s:∀j∈a,j<v.length):
  Spec prog 96 [n,o] R [] λu H'=>u=.bool (a.any λj=>v.getD j false)/\H'=[]:=by
 have y:=h.le
 refine Spec.body func96 rfl results96 ntmps96 rfl<|.sr<|.ag rfl<|.zs<|.sr<|.az rfl<|.block<|.cy [(0,_),(1,_)] (X:=Nat) (λi=>i<=a.length/\(a.take i).any (λj=>v.getD j false)=false) (λi E=>(5,iN i)::E) (λ_ G=>G) (λi=>a.length-i) 0 ⟨agt _,by simp⟩ kE.c.c.c rH ?_
 rintro i ⟨x,g⟩
 refine .seq<|.sr<|.mo rfl<|.mo rfl<|.q (.bI h)<|.q .lss<|.zn<|.cond rfl (λe=>?_) λe=>?_
 have l:i<a.length:=cg e
 obtain⟨j,d⟩:=bQ l
 have t:=s j (ba d)
 obtain⟨b,k⟩:=bQ t
 have m:v.getD j false=b:=by rw[agw,k];rfl
 refine .kn<|.seq<|.block<|.sr<|.mo rfl<|.mo rfl<|.mo rfl ?_
 refine .bC i h d (λz=>?_)
 refine .lo rfl ?_
 refine .bC j w k (λA=>?_)
 refine .lo rfl<|.zn<|.cond rfl (λf=>?_) λf=>?_
 have r:b=true:=f
 refine .sr<|.az rfl<|.ret (bw (aJ (cG (bw (aJ (aP rfl ?_))))))
 ·exact⟨by rw[ot d (by rw[m];exact r)],rfl⟩
 have p:b=false:=f
 refine .skip<|aS<|au<|.region<|.mo rfl<|.ia (i+1) .add<|.ag rfl<|.nil ?_
 ·exact bd (i+1) ⟨l,qP d g (by rw[m];exact p)⟩ (by omega) kE.c.c.c rH
 refine .exit<|bo<|bq<|bp<|au<|.sr<|.az rfl<|.ret (aP rfl ?_)
 ·rw[dB (il e)]at g
  exact⟨by rw[g],rfl⟩
theorem A5{p:bO}{us:ByteArray}{vf:Nat->Bool}{e:Nat}{n:Nd}(g:p.nodes[e]? =some n)(j:n.kind=1\/n.kind=2\/n.kind=3\/((n.kind=4\/n.kind=5\/n.kind=6)/\0<=n.a/\n.a.toNat<e/\0<=n.b/\n.b.toNat<e)):
  di p us vf (e+1)=(if n.kind=1 then decide (us∈p.fG)||(p.leads.getD e []).any vf
   else if n.kind=4 then di p us vf (n.a.toNat+1)||di p us vf (n.b.toNat+1)
   else if n.kind=5 then di p us vf (n.a.toNat+1)&&di p us vf (n.b.toNat+1)
   else if n.kind=6 then di p us vf (n.a.toNat+1)&& !di p us vf (n.b.toNat+1)
   else(p.leads.getD e []).any vf):=by
 rw[di]
 simp only[g]
 by_cases c:n.op=true
 ·have d:n.kind=4\/n.kind=5\/n.kind=6:=by
   unfold Nd.op at c
   simp only[Bool.or_eq_true,beq_iff_eq]at c
   omega
  have f:n.a.toNat+1<=e/\n.b.toNat+1<=e:=by omega
  simp only[c,if_true]
  rw[dif_pos f]
  rcases d with h|h|h<;>simp[h]
 ·have d:n.kind=1\/n.kind=2\/n.kind=3:=by
   unfold Nd.op at c
   simp only[Bool.or_eq_true,beq_iff_eq]at c
   omega
  have i:n.op=false:=by simpa using c
  simp only[i,ahb,if_false]
  rw[yl]
  rcases d with h|h|h<;>simp[h]
theorem RH(us:ByteArray)(p:aH)(Q:Value)(v:List Bool)(b6:p.ll.length=p.nodes.length)(a8:∀q∈p.ll,∀j∈q.2,j<v.length)(ht:∀i,i<p.nodes.length->(tree isWord p.nodes (i+1)).isSome=true):
  ∀(e:Nat),e<p.nodes.length->∀(R:ay),p.is R->RS R 1 dE Q v->Spec prog 45 [.agg p.enc.toArray,iN e,.string us,Q] R [] λu H'=>u=.bool (di p.plain us (λj=>v.getD j false) (e+1))/\H'=[]:=by
 intro e
 induction e using Nat.strongRecOn with
 |ind e ih=>
 intro he R L V
 have c0:cB p.enc:=⟨L.cV⟩
 have i1:=V.aE
 obtain⟨n,Z⟩:=bQ he
 have a7:=AZ Z (ht e he)
 have k:=A5 (p:=p.plain) (us:=us) (vf:=λj=>v.getD j false) (e:=e) (n:=n) Z a7
 obtain⟨⟨vr,W⟩,U⟩:∃q,p.ll[e]? =some q:=⟨_,aZ (by omega)⟩
 have a6:=ba U
 have hr:RS R 1 da vr W:=L.l.all _ a6
 have a0:=a8 _ a6
 simp only at a0
 have a9:p.plain.leads.getD e []=W:=by
  show((p.ll.map (·.2)).getD e [])=W
  rw[agw,agq,U];rfl
 rw[a9]at k
 have M:∀(C:ay),(∀b o,R b o->C b o)->n.a.toNat<e->0<=n.a->Spec prog 45 [.agg p.enc.toArray,.int .i64 n.a,.string us,Q] C [] λu H'=>u=.bool (di p.plain us (λj=>v.getD j false) (n.a.toNat+1))/\H'=[]:=λC S D F=>by
  have h9:=ih _ D (by omega) C (L.mono S) (V.mono S)
  have h8:=agA (Value.int .i64) (Int.toNat_of_nonneg F)
  rw[<-h8]
  exact h9
 have N:∀(C:ay),(∀b o,R b o->C b o)->n.b.toNat<e->0<=n.b->Spec prog 45 [.agg p.enc.toArray,.int .i64 n.b,.string us,Q] C [] λu H'=>u=.bool (di p.plain us (λj=>v.getD j false) (n.b.toNat+1))/\H'=[]:=λC S D F=>by
  have h9:=ih _ D (by omega) C (L.mono S) (V.mono S)
  have h8:=agA (Value.int .i64) (Int.toNat_of_nonneg F)
  rw[<-h8]
  exact h9
 clear ih
 have b0:p.plain.fG=p.fG:=rfl
 rw[b0]at k
 generalize di p.plain us (λj=>v.getD j false) (e+1)=val at *
 generalize di p.plain us (λj=>v.getD j false) (n.a.toNat+1)=va at *
 generalize di p.plain us (λj=>v.getD j false) (n.b.toNat+1)=vb at *
 obtain⟨k0,fo,vn,b3,vu,Y,vl,ll,nm⟩:=p
 have n0:RS R 5 Nd.enc vn b3:=L.n
 have u0:RS R 1 cr vu Y:=L.u
 have l0:RS R 1 eg vl ll:=L.l.rs
 simp only at Z U k he
 have b8:=n0.aE
 have c2:=u0.aE
 have b7:=l0.aE
 have c1:=hr.aE
 have c3:=u0.le
 refine Spec.body func45 rfl results45 ntmps45 rfl<|.sr ?_
 refine .cb rfl (λb4=>?_)
 refine .ag rfl<|.z<|.fa rfl<|.lo rfl<|.mo rfl ?_
 refine .bC e n0 Z (λc4=>?_)
 refine .q (.aM rfl) ?_
 refine .bX (λb9=>?_)
 refine .bN rfl rfl<|.zs<|.sr<|.fa rfl<|.lo rfl<|.q .bU<|.zn<|.cond rfl (λD=>?_) λD=>?_
 have hk:n.kind=1:=by simpa using D
 rw[ago hk]at k
 refine .sr<|.az rfl<|.block<|.cy [(1,_),(2,_),(3,_),(4,_),(9,_)] (X:=Nat) (λi=>i<=Y.length/\us∉Y.take i) (λi E=>(10,iN i)::E) (λ_ G=>G) (λi=>Y.length-i) 0 ⟨agt _,by simp⟩ kE.c.c.c.c.c.c rH ?_
 rintro i ⟨hi,a3⟩
 refine .seq<|.sr<|.mo rfl<|.fa rfl<|.lo rfl<|.q (.bI u0)<|.q .lss<|.zn<|.cond rfl (λF=>?_) λF=>?_
 have a5:i<Y.length:=cg F
 obtain⟨s,hs⟩:=bQ a5
 refine .kn<|.seq<|.block<|.sr<|.fa rfl<|.lo rfl<|.mo rfl ?_
 refine .bC i u0 hs (λc5=>?_)
 refine .lo rfl<|.mo rfl<|.q .dF<|.zn<|.cond rfl (λh3=>?_) λh3=>?_
 have a4:s=us:=bT h3
 rw[decide_eq_true (a4▸ba hs),Bool.true_or]at k
 subst k
 refine .sr<|.az rfl<|.ret (bw (aJ (cG (bw (aJ (aY _ (.one (.tmp rfl)) (bk.none _) ?_))))))
 ·exact⟨rfl,rfl⟩
 have a4:¬s=us:=bA h3
 refine .skip<|aS<|au<|.region<|.mo rfl<|.ia (i+1) .add<|.ag rfl<|.nil ?_
 ·exact bd (i+1) ⟨a5,by
   rw[dS hs,agG,agS]
   rintro(h|h)
   ·exact a3 h
   ·exact a4 h.symm⟩ (by omega) kE.c.c.c.c.c.c rH
 rw[dB (il F)]at a3
 rw[decide_eq_false a3,Bool.false_or]at k
 refine .exit<|bo<|bq<|bp<|au<|.seq<|.sr<|.fa rfl<|.lo rfl<|.q .bU<|.zn<|.cond rfl (λH=>?_) λH=>?_
 have K:n.kind=4:=by simpa using H
 have B:0<=n.a/\n.a.toNat<e/\0<=n.b/\n.b.toNat<e:=by omega
 obtain⟨w,x,y,A⟩:=B
 have k:val=(va||vb):=by
  (exfalso;omega)
 subst k
 refine .sr<|.q (.aM rfl)<|.fa rfl<|.lo rfl<|.mo rfl<|.mo rfl<|.aX (M _ (λb o r=>.inl r) x w) (λu m=>?_)
 subst m
 refine .mo rfl<|.split (t:=42) rfl (λg=>?_) (λg=>?_)
 refine .gF g<|.gF g<|.gF g<|.gF g<|.gF g<|.gF g<|.q (.aT g)<|.az rfl<|.ret (aJ (aY _ (.one (.tmp rfl)) (bk.none _) ?_))
 ·exact⟨by simp_all,rfl⟩
 refine .gT g<|.q (.aM rfl)<|.gT g<|.fa rfl<|.gT g<|.lo rfl<|.gT g<|.mo rfl<|.gT g<|.mo rfl<|.gT g<|.aX (N _ (λb o r=>.inl r) A y) (λu m=>?_)
 subst m
 refine .q (.aQ g)<|.az rfl<|.ret (aJ (aY _ (.one (.tmp rfl)) (bk.none _) ?_))
 ·exact⟨by simp_all,rfl⟩
 have K:n.kind≠4:=by simpa using H
 refine .kn<|.seq<|.sr<|.fa rfl<|.lo rfl<|.q .bU<|.zn<|.cond rfl (λI=>?_) λI=>?_
 have O:n.kind=5:=by simpa using I
 have B:0<=n.a/\n.a.toNat<e/\0<=n.b/\n.b.toNat<e:=by omega
 obtain⟨w,x,y,A⟩:=B
 have k:val=(va&&vb):=by
  (exfalso;omega)
 subst k
 refine .sr<|.q (.aM rfl)<|.fa rfl<|.lo rfl<|.mo rfl<|.mo rfl<|.aX (M _ (λb o r=>.inl r) x w) (λu m=>?_)
 subst m
 refine .mo rfl<|.split (t:=59) rfl (λf=>?_) (λf=>?_)
 refine .gT f<|.q (.aM rfl)<|.gT f<|.fa rfl<|.gT f<|.lo rfl<|.gT f<|.mo rfl<|.gT f<|.mo rfl<|.gT f<|.aX (N _ (λb o r=>.inl r) A y) (λu m=>?_)
 subst m
 refine .q (.aT f)<|.az rfl<|.ret (aJ (aY _ (.one (.tmp rfl)) (bk.none _) ?_))
 ·exact⟨by simp_all,rfl⟩
 refine .gF f<|.gF f<|.gF f<|.gF f<|.gF f<|.gF f<|.q (.aQ f)<|.az rfl<|.ret (aJ (aY _ (.one (.tmp rfl)) (bk.none _) ?_))
 ·exact⟨by simp_all,rfl⟩
 have O:n.kind≠5:=by simpa using I
 refine .kn<|.seq<|.sr<|.fa rfl<|.lo rfl<|.q .bU<|.zn<|.cond rfl (λJ=>?_) λJ=>?_
 have T:n.kind=6:=by simpa using J
 have B:0<=n.a/\n.a.toNat<e/\0<=n.b/\n.b.toNat<e:=by omega
 obtain⟨w,x,y,A⟩:=B
 have k:val=(va&& !vb):=by
  (exfalso;omega)
 subst k
 refine .sr<|.q (.aM rfl)<|.fa rfl<|.lo rfl<|.mo rfl<|.mo rfl<|.aX (M _ (λb o r=>.inl r) x w) (λu m=>?_)
 subst m
 refine .mo rfl<|.split (t:=76) rfl (λd=>?_) (λd=>?_)
 refine .gT d<|.q (.aM rfl)<|.gT d<|.fa rfl<|.gT d<|.lo rfl<|.gT d<|.mo rfl<|.gT d<|.mo rfl<|.gT d<|.aX (N _ (λb o r=>.inl r) A y) (λu m=>?_)
 subst m
 refine .gT d<|.q .not<|.q (.aT d)<|.az rfl<|.ret (aJ (aY _ (.one (.tmp rfl)) (bk.none _) ?_))
 ·exact⟨by simp_all,rfl⟩
 refine .gF d<|.gF d<|.gF d<|.gF d<|.gF d<|.gF d<|.gF d<|.q (.aQ d)<|.az rfl<|.ret (aJ (aY _ (.one (.tmp rfl)) (bk.none _) ?_))
 ·exact⟨by simp_all,rfl⟩
 have T:n.kind≠6:=by simpa using J
 refine .kn<|.sr<|.fa rfl<|.lo rfl<|.mo rfl ?_
 refine .bC e l0 U (λb5=>?_)
 refine .lo rfl<|.mo rfl<|.aX (BW vr W Q v _ hr.rx V.rx a0) (λu m=>?_)
 subst m
 skip
 subst k
 refine .az rfl<|.ret (aY _ (.one (.tmp rfl)) (bk.none _) ?_)
 ·exact⟨rfl,rfl⟩
 have hk:n.kind≠1:=by simpa using D
 rw[agn hk]at k
 refine .kn<|.seq<|.sr<|.fa rfl<|.lo rfl<|.q .bU<|.zn<|.cond rfl (λH=>?_) λH=>?_
 have K:n.kind=4:=by simpa using H
 have B:0<=n.a/\n.a.toNat<e/\0<=n.b/\n.b.toNat<e:=by omega
 obtain⟨w,x,y,A⟩:=B
 have k:val=(va||vb):=by
  (rw[ago K]at k;exact k)
 subst k
 refine .sr<|.q (.aM rfl)<|.fa rfl<|.lo rfl<|.mo rfl<|.mo rfl<|.aX (M _ (λb o r=>.inl r) x w) (λu m=>?_)
 subst m
 refine .mo rfl<|.split (t:=42) rfl (λg=>?_) (λg=>?_)
 refine .gF g<|.gF g<|.gF g<|.gF g<|.gF g<|.gF g<|.q (.aT g)<|.az rfl<|.ret (aJ (aY _ (.one (.tmp rfl)) (bk.none _) ?_))
 ·exact⟨by simp_all,rfl⟩
 refine .gT g<|.q (.aM rfl)<|.gT g<|.fa rfl<|.gT g<|.lo rfl<|.gT g<|.mo rfl<|.gT g<|.mo rfl<|.gT g<|.aX (N _ (λb o r=>.inl r) A y) (λu m=>?_)
 subst m
 refine .q (.aQ g)<|.az rfl<|.ret (aJ (aY _ (.one (.tmp rfl)) (bk.none _) ?_))
 ·exact⟨by simp_all,rfl⟩
 have K:n.kind≠4:=by simpa using H
 refine .kn<|.seq<|.sr<|.fa rfl<|.lo rfl<|.q .bU<|.zn<|.cond rfl (λI=>?_) λI=>?_
 have O:n.kind=5:=by simpa using I
 have B:0<=n.a/\n.a.toNat<e/\0<=n.b/\n.b.toNat<e:=by omega
 obtain⟨w,x,y,A⟩:=B
 have k:val=(va&&vb):=by
  (rw[agn K,ago O]at k;exact k)
 subst k
 refine .sr<|.q (.aM rfl)<|.fa rfl<|.lo rfl<|.mo rfl<|.mo rfl<|.aX (M _ (λb o r=>.inl r) x w) (λu m=>?_)
 subst m
 refine .mo rfl<|.split (t:=59) rfl (λf=>?_) (λf=>?_)
 refine .gT f<|.q (.aM rfl)<|.gT f<|.fa rfl<|.gT f<|.lo rfl<|.gT f<|.mo rfl<|.gT f<|.mo rfl<|.gT f<|.aX (N _ (λb o r=>.inl r) A y) (λu m=>?_)
 subst m
 refine .q (.aT f)<|.az rfl<|.ret (aJ (aY _ (.one (.tmp rfl)) (bk.none _) ?_))
 ·exact⟨by simp_all,rfl⟩
 refine .gF f<|.gF f<|.gF f<|.gF f<|.gF f<|.gF f<|.q (.aQ f)<|.az rfl<|.ret (aJ (aY _ (.one (.tmp rfl)) (bk.none _) ?_))
 ·exact⟨by simp_all,rfl⟩
 have O:n.kind≠5:=by simpa using I
 refine .kn<|.seq<|.sr<|.fa rfl<|.lo rfl<|.q .bU<|.zn<|.cond rfl (λJ=>?_) λJ=>?_
 have T:n.kind=6:=by simpa using J
 have B:0<=n.a/\n.a.toNat<e/\0<=n.b/\n.b.toNat<e:=by omega
 obtain⟨w,x,y,A⟩:=B
 have k:val=(va&& !vb):=by
  (rw[agn K,agn O,ago T]at k;exact k)
 subst k
 refine .sr<|.q (.aM rfl)<|.fa rfl<|.lo rfl<|.mo rfl<|.mo rfl<|.aX (M _ (λb o r=>.inl r) x w) (λu m=>?_)
 subst m
 refine .mo rfl<|.split (t:=76) rfl (λd=>?_) (λd=>?_)
 refine .gT d<|.q (.aM rfl)<|.gT d<|.fa rfl<|.gT d<|.lo rfl<|.gT d<|.mo rfl<|.gT d<|.mo rfl<|.gT d<|.aX (N _ (λb o r=>.inl r) A y) (λu m=>?_)
 subst m
 refine .gT d<|.q .not<|.q (.aT d)<|.az rfl<|.ret (aJ (aY _ (.one (.tmp rfl)) (bk.none _) ?_))
 ·exact⟨by simp_all,rfl⟩
 refine .gF d<|.gF d<|.gF d<|.gF d<|.gF d<|.gF d<|.gF d<|.q (.aQ d)<|.az rfl<|.ret (aJ (aY _ (.one (.tmp rfl)) (bk.none _) ?_))
 ·exact⟨by simp_all,rfl⟩
 have T:n.kind≠6:=by simpa using J
 refine .kn<|.sr<|.fa rfl<|.lo rfl<|.mo rfl ?_
 refine .bC e l0 U (λb5=>?_)
 refine .lo rfl<|.mo rfl<|.aX (BW vr W Q v _ hr.rx V.rx a0) (λu m=>?_)
 subst m
 rw[agn K,agn O,agn T]at k
 subst k
 refine .az rfl<|.ret (aY _ (.one (.tmp rfl)) (bk.none _) ?_)
 ·exact⟨rfl,rfl⟩
end Go.Proofs.YtdljmchhecoakaaGreat

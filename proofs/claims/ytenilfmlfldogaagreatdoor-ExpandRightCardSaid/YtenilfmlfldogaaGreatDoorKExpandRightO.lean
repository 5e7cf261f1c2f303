/- What the law 'ExpandRight' uses. No condition. -/
import Derived.Test.YtenilfmlfldogaaGreatDoorKExpandRightB
import Derived.Test.YtenilfmlfldogaaGreatDoorKExpandRightE
import Derived.Test.YtenilfmlfldogaaGreatDoorKExpandRightF
import Derived.Test.YtenilfmlfldogaaGreatDoorKExpandRightH
import Derived.Test.YtenilfmlfldogaaGreatDoorKExpandRightI
import Derived.Test.YtenilfmlfldogaaGreatDoorKExpandRightK
import Derived.Test.YtenilfmlfldogaaGreatDoorKExpandRightN
namespace Go.Proofs.YtenilfmlfldogaaGreatDoor
set_option linter.defProp false
def afm:=@if_neg
def afn:=@if_pos
def afo:=@List.length_map
def afp:=@Nat.zero_le
def afq:=@congrArg
def afr:=@List.nil_append
def afs:=@List.map_append
def aft:=@List.cons_append
def afu:=@Nat.le_trans
def afv:=@List.length_take
def afw:=@List.length_singleton
def afx:=@List.mem_cons
def afy:=@List.mem_append_right
def afz:=@List.getElem?_map
def afA:=@List.not_mem_nil
def afB:=@or_false
def afC:=@List.take_length
def afD:=@List.mem_singleton
def afE:=@trivial
def afF:=@List.mem_append
def afG:=@List.length_filter_le
def afH:=@List.mem_map
def afI:=@List.append_nil
def afJ:=@List.getElem?_eq_some_iff
def afK:=@List.any_eq_true
def afL:=@List.mem_append_left
def afM:=@List.map_cons
def afN:=@List.map_nil
def afO:=@List.getD_cons_zero
def afP:=@List.getD_cons_succ
def afQ:=@List.take_add_one
def afR:=@decide_eq_false
def afS:=@Bool.and_eq_true
def afT:=@List.mem_iff_getElem
def afU:=@List.getD_eq_getElem?_getD
def afV:=@List.any_append
def afW:=@Option.map_some
def afX:=@List.filter_append
def afY:=@List.map_map
def afZ:=@List.mem_of_mem_take
def af0:=@decide_eq_false_iff_not
def af1:=@List.flatten_cons
def af2:=@List.flatten_nil
def af3:=@List.getElem_map
def af4:=@List.findIdx?_cons
def af5:=@ByteArray.size_append
def af6:=@List.map_singleton
def af7:=@List.eq_nil_of_length_eq_zero
open Tryz
set_option linter.unusedVariables false
set_option linter.unusedSimpArgs false
set_option maxRecDepth 4000
theorem Pm{c:bP}{k:Nat}{E:List Ed}(h:c.plain.all.length=k):settle E (k+1) (List.replicate k 0)=settle E (c.plain.all.length+1) (List.replicate c.plain.all.length 0):=by rw[h]
def SA(c:bP)(ok:Bool)(w:Value)(T:aH)(o:Option (List Nat)):Prop:=match o with
 |none=>ok=false
 |some A=>ok=true/\∃ll,NN (sg T) w ll/\ll.map (·.2)=rows c.plain.bd A
theorem Ng(c:bP)(R:aw)(h:c.is R):Spec prog 39 [.agg c.enc.toArray] R [] λu H'=>∃T,H'=[T]/\∃w ll,u=.tuple [w,.int .i64 (c.plain.numbers isWord de).1].toArray/\NN (sg T) w ll/\ll.map (·.2)=(c.plain.numbers isWord de).2:=by
 rw[<-Nc]
 have hR:=Od c R h
 have Z:=MQ c R h
 have a2:=ti (c:=c)
 have a:c.plain.rJ isWord de=if c.plain.right isWord de=false then((4:Int),([]:List (List Nat)))else if ¬c.plain.dZ then(10,[])else match c.plain.lK with|none=>(14,[])|some E=>match settle E (c.plain.all.length+1) (List.replicate c.plain.all.length 0)with|none=>(15,[])|some n=>(0,rows c.plain.bd n):=rfl
 have a1:=λ(R:aw) xb vm (H:IX R xb vm c) U F=>OZ (R:=R) (xb:=xb) (vm:=vm) H U F
 have a5:=λ(R:aw) xb vm (H:IX R xb vm c) F ve f a8 hl hv=>Po (R:=R) (xb:=xb) (vm:=vm) H F ve f a8 hl hv
 have a6:=oX c.plain
 have i1:One c.vs:=RS.aq h.ss
 have i2:One c.vc:=RS.aq h.sc
 generalize a9:c.plain.rJ isWord de=nn at *
 refine Spec.body func39 rfl results39 ntmps39 rfl ?_
 refine .sr ?_
 refine .cj rfl (λb1=>?_)
 refine .ag rfl<|.ag rfl<|.zs<|.sr<|.q (.aP rfl) ?_
 refine .aR (hR.weaken cZ) (λu x=>?_)
 subst x
 refine .q .not<|.zn ?_
 refine .cond rfl (λk=>?_) λk=>?_
 refine .sr<|.ag rfl<|.az rfl ?_
 refine .ret (aI (bu _ (.two (.tmp rfl) (.tmp rfl)) bp.iT ?_))
 ·refine⟨[],rfl,sZ,[],?_,.nil,?_⟩
  ·rw[a,afn (by simpa using k)]
  ·rw[a,afn (by simpa using k)];rfl
 have Q:c.plain.right isWord de=true:=by simpa using k
 obtain⟨N,a0⟩:=a2 Q
 rw[afm (by rw[Q];simp)]at a
 refine .kn<|.sr<|.q (.aP rfl) ?_
 refine .dq (Z.weaken cZ) (λu J x=>?_)
 obtain⟨o,m,rfl,y,x⟩:∃(o:Option Addr) (m:Bool),u=.tuple [.pointer o,.bool m].toArray/\m=decide c.plain.dZ/\(m=true->∃xb,o=some ⟨xb,0,none⟩/\o3 xb c J):=by
  rcases x with⟨i,xb,rfl,X⟩|⟨i,rfl⟩
  ·exact⟨_,true,rfl,(decide_eq_true i).symm,λ_=>⟨xb,rfl,X⟩⟩
  ·exact⟨_,false,rfl,(afR i).symm,λG=>(by cases G)⟩
 refine .mo rfl<|.q .extract<|.q .extract<|.ag rfl<|.ag rfl<|.zs<|.sr<|.mo rfl<|.q .not<|.zn ?_
 refine .cond rfl (λt=>?_) λt=>?_
 refine .sr<|.ag rfl<|.az rfl ?_
 refine .ret (aI (bu _ (.two (.tmp rfl) (.tmp rfl)) bp.iT ?_))
 ·have d:m=false:=by simpa using t
  rw[d]at y
  have i:¬c.plain.dZ:=bC y.symm
  refine⟨[],rfl,sZ,[],?_,.nil,?_⟩
  ·rw[a,afn i]
  ·rw[a,afn i];rfl
 have O:m=true:=by simpa using t
 obtain⟨xb,rfl,Y⟩:=x O
 rw[O]at y
 have i:c.plain.dZ:=cq y.symm
 rw[afm (λG=>G i)]at a
 obtain⟨vm,K⟩:=Y.view h
 refine .kn<|.sr<|.mo rfl ?_
 refine .dq ((a1 _ xb vm K (xf a0) N).weaken λb o hb=>hb.elim .inl λhb=>.inr (by simp[hb])) (λu S a7=>?_)
 obtain⟨w6,f,I,rfl,M,a3,j⟩:=a7
 have i6:=M.aq
 refine .mo rfl<|.q .extract<|.q .extract<|.ag rfl<|.ag rfl<|.zs<|.sr<|.mo rfl<|.q .not<|.zn ?_
 refine .cond rfl (λv=>?_) λv=>?_
 have d:I=false:=by simpa using v
 have D:c.plain.lK=none:=by
  cases he:c.plain.lK with
  |none=>rfl
  |some E=>rw[he]at j;rw[j.1]at d;cases d
 rw[D]at a
 simp only at a
 refine .sr<|.ag rfl<|.az rfl ?_
 refine .ret (aI (bu _ (.two (.tmp rfl) (.tmp rfl)) bp.iT ?_))
 ·refine⟨[],rfl,sZ,[],?_,.nil,?_⟩
  ·rw[a]
  ·rw[a];rfl
 have d:I=true:=by simpa using v
 obtain⟨E,D,V,W⟩:∃E,c.plain.lK=some E/\f.map c.ed=E/\∀e∈f,c.valid e.1/\c.valid e.2.1:=by
  cases he:c.plain.lK with
  |none=>rw[he]at j;rw[show I=false from j]at d;cases d
  |some E=>rw[he]at j;exact⟨E,rfl,j.2.1,j.2.2⟩
 subst V
 rw[D]at a
 simp only at a
 rw[<-Pm a6.symm]at a
 refine .kn<|.sr<|.mo rfl<|.mo rfl ?_
 refine .dq ((a5 _ xb vm (K.mono (R':=λb o=>R b o\/(b,o)∈J\/(b,o)∈S) λb o hb=>hb.elim .inl λhb=>.inr (.inl hb)) N w6 f (M.rs λp hp=>.inr (.inr hp)) a3 W).weaken λb o hb=>hb.elim .inl λhb=>.inr (by rcases hb with hb|hb<;>simp[hb])) (λu B z=>?_)
 obtain⟨s,r,rfl,l⟩:∃(s:Value) (r:Bool),u=.tuple [s,.bool r].toArray/\SA c r s B (settle (f.map c.ed) (total c.plain.bd+1) (List.replicate (total c.plain.bd) 0)):=by
  cases g:settle (f.map c.ed) (total c.plain.bd+1) (List.replicate (total c.plain.bd) 0)with
  |none=>rw[g]at z;exact⟨_,_,z,rfl⟩
  |some A=>rw[g]at z;obtain⟨w,ll,k,t,v⟩:=z;exact⟨w,true,k,rfl,ll,t,v⟩
 refine .mo rfl<|.q .extract<|.q .extract<|.ag rfl<|.ag rfl<|.zs<|.sr<|.mo rfl<|.q .not<|.zn ?_
 refine .cond rfl (λC=>?_) λC=>?_
 have d:r=false:=by simpa using C
 have g:settle (f.map c.ed) (total c.plain.bd+1) (List.replicate (total c.plain.bd) 0)=none:=by
  cases g:settle (f.map c.ed) (total c.plain.bd+1) (List.replicate (total c.plain.bd) 0)with
  |none=>rfl
  |some A=>rw[g]at l;rw[l.1]at d;cases d
 rw[g]at a
 simp only at a
 refine .sr<|.ag rfl<|.az rfl ?_
 refine .ret (aI (bu _ (.two (.tmp rfl) (.tmp rfl)) bp.iT ?_))
 ·refine⟨[],rfl,sZ,[],?_,.nil,?_⟩
  ·rw[a]
  ·rw[a];rfl
 have d:r=true:=by simpa using C
 obtain⟨A,g,ll,L,a4⟩:∃A,settle (f.map c.ed) (total c.plain.bd+1) (List.replicate (total c.plain.bd) 0)=some A/\∃ll,NN (sg B) s ll/\ll.map (·.2)=rows c.plain.bd A:=by
  cases g:settle (f.map c.ed) (total c.plain.bd+1) (List.replicate (total c.plain.bd) 0)with
  |none=>rw[g]at l;rw[show r=false from l]at d;cases d
  |some A=>rw[g]at l;exact⟨A,rfl,l.2⟩
 rw[g]at a
 simp only at a
 have i9:One s:=L.rs.aq
 refine .kn<|.sr<|.mo rfl<|.ag rfl<|.az rfl ?_
 refine .ret (bu _ (.two (.tmp rfl) (.tmp rfl)) (.one [0] _) ?_)
 ·refine⟨B,by simp[take],s,ll,?_,L,?_⟩
  ·rw[a]
  ·rw[a];exact a4
def pA(r:Rl):Rl:=⟨r.name,r.types.take 9,r.nodes.take 66⟩
def qU(s:Sp):Sp:=⟨short s.name 40,(s.bU.take 6).map pA⟩
def iC(c:Cf):Cf:=⟨(c.bd.take 5).map qU,c.scopes.take 5⟩
theorem cv.is.taken{R:aw}{g vn d c:Value}{r:Rl}(h:cv.is R ⟨g,vn,r⟩){R':aw}(i:∀b o,R b o->R' b o){n m:Nat}(f:RS R' 2 Ty.enc d (r.types.take n))(e:RS R' 5 Nd.enc c (r.nodes.take m)):cv.is R' ⟨d,c,⟨r.name,r.types.take n,r.nodes.take m⟩⟩:=
 ⟨h.n,f,e,λx a=>h.ft x (afZ a),λx a=>h.fd x (afZ a)⟩
theorem KX(c:bP)(R:aw)(h:c.is R):Spec prog 13 [.agg c.enc.toArray] R [] λu H'=>∃T,H'=[T]/\∃c':bP,u=.agg c'.enc.toArray/\c'.is (λb o=>R b o\/(b,o)∈T)/\c'.plain=iC c.plain:=by
 obtain⟨vs,vc,M,A⟩:=c
 have J:=h.ss
 have a2:=h.sc
 have i1:=J.aq
 have i2:=a2.aq
 simp only at J a2 i1 i2
 have e0:=J.le
 have d9:=a2.le
 refine Spec.body func13 rfl results13 ntmps13 rfl ?_
 refine .sr ?_
 refine .cj rfl (λQ=>?_)
 refine .bV (λS=>?_)
 refine .z ?_
 refine .q .da ?_
 refine .bV (λD=>?_)
 refine .bN rfl rfl<|.zs<|.sr<|.az rfl<|.block ?_
 refine .cL [(1,_),(2,_),(3,_)] (X:=Nat×Value×List cC×aH×aH) (λy=>(y.1<=5/\y.1<=M.length)/\OS 101 2 cC.enc y.2.1 y.2.2.1 y.2.2.2.1/\(∀s∈y.2.2.1,s.is (λb o=>R b o\/(b,o)∈y.2.2.2.2))/\y.2.2.1.map (·.plain)=((M.take y.1).map (·.plain)).map qU) (λy E=>(4,iN y.1)::E) (λy G=>y.2.2.2.1::y.2.2.2.2::bl D [y.2.1,sZ] 25::G) (λy=>5-y.1) (0,sZ,[],[],[]) ⟨⟨by simp,by simp⟩,OS.nil,λs a=>(by cases a),by simp⟩ kE.c.c.c.c bp.iG ?_
 rintro⟨i,w,L,N,C⟩ ⟨⟨c0,hi⟩,hO,f,W⟩
 simp only at c0 hi hO f W⊢
 have io:=hO.aq
 have d8:L.length=i:=by have:=afq List.length W;rw[afo,afo,afo,afv]at this;omega
 refine .seq<|.seq ?_
 refine bF.dt [(1,_),(2,_),(3,_),(4,_)] kE.c.c.c.c (X:=Unit) (λ_=>True) (λ_ E=>(21,.bool (decide (i<M.length/\i<5)))::E) (λ_=>[N,C,bl D [w,sZ] 25,bl S [sZ,sZ] 25,bl Q [vs,vc] 25]) ?_ ?_
 refine .region<|.mo rfl<|.fa rfl<|.lo rfl<|.q (.bL J) ?_
 refine .q .lss<|.mo rfl ?_
 refine .split (t:=18) rfl (λH=>?_) (λH=>?_)
 refine .gT H<|.mo rfl<|.gT H<|.q .lss<|.q (.aZ H) ?_
 refine .nil ?_
 ·exact aG () afE (kE.c.c.c.c.cy rfl (by clear f;grind)) rH
 refine .gF H<|.gF H<|.q (.aX H) ?_
 refine .nil ?_
 ·exact aG () afE (kE.c.c.c.c.cy rfl (by clear f;grind)) rH
 intro y l
 refine ay ?_
 refine .cond rfl (λh1=>?_) λh1=>?_
 obtain⟨b0,c8⟩:=cq h1
 obtain⟨⟨B,sv,m⟩,a⟩:=cm b0
 have b6:=h.all _ (aV a)
 have a7:RS R 3 cv.enc sv m:=b6.rs
 have e5:=a7.aq
 have e1:=a7.le
 refine .kn<|.seq<|.block<|.sr<|.fa rfl<|.lo rfl<|.mo rfl ?_
 refine .bI i J a (λf0=>?_)
 refine .fa rfl<|.lo rfl ?_
 refine .aR (Pv B 40 _) (λu hu=>?_)
 subst hu
 refine .q .da ?_
 refine .bV (λb5=>?_)
 refine .bN rfl rfl<|.zs<|.sr<|.az rfl<|.block ?_
 refine .cL [(1,_),(2,_),(3,_),(4,_),(5,_)] (X:=Nat×Value×List cv×aH) (λy=>(y.1<=6/\y.1<=m.length)/\OS 104 3 cv.enc y.2.1 y.2.2.1 y.2.2.2/\(∀r∈y.2.2.1,r.is R)/\y.2.2.1.map (·.r)=((m.take y.1).map (·.r)).map pA) (λy E=>(6,iN y.1)::E) (λy G=>y.2.2.2::bl b5 [.string (short B 40),y.2.1] 101::G) (λy=>6-y.1) (0,sZ,[],[]) ⟨⟨by simp,by simp⟩,OS.nil,λs a=>(by cases a),by simp⟩ kE.c.c.c.c.c.c bp.jT ?_
 rintro⟨k,w2,L2,T2⟩ ⟨⟨c5,hk⟩,a4,V,a3⟩
 simp only at c5 hk a4 V a3⊢
 have c9:=a4.aq
 have d7:L2.length=k:=by have:=afq List.length a3;rw[afo,afo,afo,afv]at this;omega
 refine .seq<|.seq ?_
 refine bF.dt [(1,_),(2,_),(3,_),(4,_),(5,_),(6,_)] kE.c.c.c.c.c.c (X:=Unit) (λ_=>True) (λ_ E=>(44,.bool (decide (k<m.length/\k<6)))::E) (λ_=>[T2,bl b5 [.string (short B 40),w2] 101,N,C,bl D [w,sZ] 25,bl S [sZ,sZ] 25,bl Q [vs,vc] 25]) ?_ ?_
 refine .region<|.mo rfl<|.fa rfl<|.lo rfl<|.mo rfl ?_
 refine .bI i J a (λf1=>?_)
 refine .fa rfl<|.lo rfl<|.q (.bL a7) ?_
 refine .q .lss<|.mo rfl ?_
 refine .split (t:=41) rfl (λI=>?_) (λI=>?_)
 refine .gT I<|.mo rfl<|.gT I<|.q .lss<|.q (.aZ I) ?_
 refine .nil ?_
 ·exact aG () afE (kE.c.c.c.c.c.c.cy rfl (by clear f V;grind)) rH
 refine .gF I<|.gF I<|.q (.aX I) ?_
 refine .nil ?_
 ·exact aG () afE (kE.c.c.c.c.c.c.cy rfl (by clear f V;grind)) rH
 intro y l
 refine ay ?_
 refine .cond rfl (λh2=>?_) λh2=>?_
 obtain⟨a9,c7⟩:=cq h2
 obtain⟨⟨vt,vn,r⟩,Z⟩:=cm a9
 have a6:=b6.all _ (aV Z)
 have a1:RS R 2 Ty.enc vt r.types:=a6.t
 have a0:RS R 5 Nd.enc vn r.nodes:=a6.d
 have e6:=a1.aq
 have e4:=a0.aq
 have e2:bZ (cv.enc ⟨vt,vn,r⟩):=⟨a6.cN⟩
 refine .kn<|.seq<|.block<|.sr<|.fa rfl<|.lo rfl<|.mo rfl ?_
 refine .bI i J a (λf2=>?_)
 refine .fa rfl<|.lo rfl<|.mo rfl ?_
 refine .bI k a7 Z (λf3=>?_)
 refine .q (.aP rfl) ?_
 refine .bV (λb7=>?_)
 refine .bN rfl rfl<|.zs<|.sr<|.fa rfl<|.lo rfl<|.q (.bL a1) ?_
 refine .q .gtr<|.zn ?_
 refine bF.dt [(1,_),(2,_),(3,_),(4,_),(5,_),(6,_),(7,_)] kE.c.c.c.c.c.c.c (X:=Value) (λv=>RS R 2 Ty.enc v (r.types.take 9)) (λ_ E=>E) (λv=>[bl b7 [.string r.name,v,vn] 104,T2,bl b5 [.string (short B 40),w2] 101,N,C,bl D [w,sZ] 25,bl S [sZ,sZ] 25,bl Q [vs,vc] 25]) ?_ ?_
 refine .cond rfl (λh3=>?_) λh3=>?_
 refine .region<|.fa rfl<|.lo rfl ?_
 refine .nZ 0 9 a1 rfl ⟨_,rfl⟩ (by omega) (by have:=cq h3;omega) (λv2 K=>?_)
 have d0:=K.aq
 refine .fa rfl<|.dH rfl rfl<|.nil ?_
 ·first
   |exact aG v2 (by simpa using K) kE.c.c.c.c.c.c.c rH
   |exact aG vt (by rw[dN (jh h3)];exact a1) kE.c.c.c.c.c.c.c rH
 refine .skip ?_
 ·first
   |exact aG v2 (by simpa using K) kE.c.c.c.c.c.c.c rH
   |exact aG vt (by rw[dN (jh h3)];exact a1) kE.c.c.c.c.c.c.c rH
 intro x hx
 have b9:RS R 2 Ty.enc x (r.types.take 9):=hx
 clear hx
 obtain⟨xt,rfl⟩:∃z,z=x:=⟨_,rfl⟩
 have e8:=b9.aq
 refine ay<|.seq<|.sr<|.fa rfl<|.lo rfl<|.q (.bL a0) ?_
 refine .q .gtr<|.zn ?_
 refine bF.dt [(1,_),(2,_),(3,_),(4,_),(5,_),(6,_),(7,_)] kE.c.c.c.c.c.c.c (X:=Value) (λv=>RS R 5 Nd.enc v (r.nodes.take 66)) (λ_ E=>E) (λv=>[bl b7 [.string r.name,xt,v] 104,T2,bl b5 [.string (short B 40),w2] 101,N,C,bl D [w,sZ] 25,bl S [sZ,sZ] 25,bl Q [vs,vc] 25]) ?_ ?_
 refine .cond rfl (λh4=>?_) λh4=>?_
 refine .region<|.fa rfl<|.lo rfl ?_
 refine .nZ 0 66 a0 rfl ⟨_,rfl⟩ (by omega) (by have:=cq h4;omega) (λv2 K=>?_)
 have d0:=K.aq
 refine .fa rfl<|.dH rfl rfl<|.nil ?_
 ·first
   |exact aG v2 (by simpa using K) kE.c.c.c.c.c.c.c rH
   |exact aG vn (by rw[dN (jh h4)];exact a0) kE.c.c.c.c.c.c.c rH
 refine .skip ?_
 ·first
   |exact aG v2 (by simpa using K) kE.c.c.c.c.c.c.c rH
   |exact aG vn (by rw[dN (jh h4)];exact a0) kE.c.c.c.c.c.c.c rH
 intro x hx
 have b8:RS R 5 Nd.enc x (r.nodes.take 66):=hx
 have e7:=b8.aq
 have b4:cv.is R ⟨xt,x,pA r⟩:=a6.taken (λb o e=>e) b9 b8
 refine ay<|.sr<|.fa rfl<|.lo rfl<|.az rfl<|.region<|.mo rfl<|.q (.aP rfl) ?_
 refine .ez (λd2=>?_)
 refine .append a4 (RS.lits (xs:=[(⟨xt,x,pA r⟩:cv)]) rfl (by simp[cv.enc]) (by intro y l;rw[afD]at l;subst l;exact b4.cN)) (by simp only[afw];omega) (λv5 O g=>?_)
 have i5:=g.aq
 refine .fa rfl<|.dH rfl rfl<|.nil<|bi<|ay<|.region<|.mo rfl ?_
 refine .ia (k+1) .add ?_
 refine .ag rfl<|.nil ?_
 ·exact aW (k+1,v5,L2++[⟨xt,x,pA r⟩],O) ⟨⟨c7,a9⟩,g,λq hq=>by
   rcases afF.1 hq with hq|hq
   ·exact V q hq
   ·rw[afD]at hq;subst hq;exact b4,by simp only;rw[er Z,afs,afs,afs,a3];rfl⟩ (by simp only;omega) kE.c.c.c.c.c.c (aQ [2,2,2,2,2,2,2])
 refine .exit<|bz<|bG<|bB<|ay<|.sr<|.fa rfl<|.lo rfl<|.az rfl<|.region<|.mo rfl<|.q (.aP rfl) ?_
 refine .ez (λd3=>?_)
 refine .append hO (RS.lits (xs:=[(⟨short B 40,w2,L2⟩:cC)]) rfl (by simp[cC.enc]) (by intro y l u hu;rw[afD]at l;subst l;simp only[cC.enc,afx,afA,afB]at hu;rcases hu with rfl|rfl;rfl;exact c9.h)) (by simp only[afw];omega) (λv5 O g=>?_)
 have i5:=g.aq
 refine .fa rfl<|.dH rfl rfl<|.nil<|bi<|ay<|.region<|.mo rfl ?_
 refine .ia (i+1) .add ?_
 refine .ag rfl<|.nil ?_
 ·exact aW (i+1,v5,L++[⟨short B 40,w2,L2⟩],O,T2++C) ⟨⟨c8,b0⟩,g,λq hq=>by
   rcases afF.1 hq with hq|hq
   ·exact(f q hq).mono λb o e=>e.elim .inl λe=>.inr (afy _ e)
   ·rw[afD]at hq
    subst hq
    refine⟨?_,a4.rs λp Y=>.inr (afL _ Y),λr Z=>(V r Z).mono λb o e=>.inl e⟩
    have:=Pu (s:=B) (n:=40)
    simp only
    omega,by
   simp only
   rw[er a,afs,afs,afs,W]
   have c6:m.take k=m.take 6:=by
    have d5:=bC h2
    by_cases h6:k=6
    ·rw[h6]
    ·rw[dN (show m.length<=k by omega),dN (show m.length<=6 by omega)]
   simp only[afM,afN]
   congr 1
   unfold cC.plain qU
   simp only
   rw[a3,c6]
   simp[List.map_take]⟩ (by simp only;omega) kE.c.c.c.c ((aQ [3,1,2,2,2,2]).trans (bp.eu (by simp[take,bK,dh,bP.enc])))
 have c1:M.take i=M.take 5:=by
  have d4:=bC h1
  by_cases U:i=5
  ·rw[U]
  ·rw[dN (show M.length<=i by omega),dN (show M.length<=5 by omega)]
 rw[c1]at W
 refine .exit<|bz<|bG<|bB<|ay<|.seq<|.sr<|.az rfl<|.block ?_
 refine .cL [(1,_),(2,_),(3,_)] (X:=Nat×Value×aH) (λy=>(y.1<=5/\y.1<=A.length)/\OS 106 4 Sc.enc y.2.1 (A.take y.1) y.2.2) (λy E=>(10,iN y.1)::E) (λy G=>y.2.2::N::C::bl D [w,y.2.1] 25::G) (λy=>5-y.1) (0,sZ,[]) ⟨⟨by simp,by simp⟩,OS.nil⟩ kE.c.c.c.c bp.jT ?_
 rintro⟨j,w3,T3⟩ ⟨⟨c2,hj⟩,a5⟩
 simp only at c2 hj a5⊢
 have e3:=a5.aq
 refine .seq<|.seq ?_
 refine bF.dt [(1,_),(2,_),(3,_),(10,_)] kE.c.c.c.c (X:=Unit) (λ_=>True) (λ_ E=>(94,.bool (decide (j<A.length/\j<5)))::E) (λ_=>[T3,N,C,bl D [w,w3] 25,bl S [sZ,sZ] 25,bl Q [vs,vc] 25]) ?_ ?_
 refine .region<|.mo rfl<|.fa rfl<|.lo rfl<|.q (.bL a2) ?_
 refine .q .lss<|.mo rfl ?_
 refine .split (t:=91) rfl (λF=>?_) (λF=>?_)
 refine .gT F<|.mo rfl<|.gT F<|.q .lss<|.q (.aZ F) ?_
 refine .nil ?_
 ·exact aG () afE (kE.c.c.c.c.cy rfl (by clear f;grind)) rH
 refine .gF F<|.gF F<|.q (.aX F) ?_
 refine .nil ?_
 ·exact aG () afE (kE.c.c.c.c.cy rfl (by clear f;grind)) rH
 intro y l
 refine ay ?_
 refine .cond rfl (λU=>?_) λU=>?_
 obtain⟨a8,c4⟩:=cq U
 obtain⟨s,a⟩:=cm a8
 refine .kn<|.seq<|.block<|.sr<|.fa rfl<|.lo rfl<|.az rfl<|.region<|.mo rfl<|.fa rfl<|.lo rfl<|.mo rfl ?_
 refine .bI j a2 a (λe9=>?_)
 refine .q (.aP rfl) ?_
 refine .ez (λd1=>?_)
 refine .append a5 (RS.lits (xs:=[s]) rfl (by simp[Sc.enc]) (by simp[Sc.enc,aq])) (by simp only[afv,afw];omega) (λv5 O g=>?_)
 have i5:=g.aq
 refine .fa rfl<|.dH rfl rfl<|.nil<|bi<|ay<|.region<|.mo rfl ?_
 refine .ia (j+1) .add ?_
 refine .ag rfl<|.nil ?_
 ·exact aW (j+1,v5,O) ⟨⟨c4,a8⟩,by simp only;rw[er a];exact g⟩ (by simp only;omega) kE.c.c.c.c (aQ [1,1,1,1,1,1])
 refine .exit<|bz<|bG<|bB<|ay<|.sr<|.q (.aP rfl)<|.bN rfl rfl<|.zn ?_
 refine .ret (bu _ (.one (.ei rfl rfl)) (.one [1,1,0] _) ?_)
 ·refine⟨_,rfl,⟨w,w3,L,A.take j⟩,rfl,⟨hO.rs λp Y=>.inr (by simp[take,bK,Y]),a5.rs λp Y=>.inr (by simp[take,bK,Y]),λs a=>(f s a).mono λb o e=>e.elim .inl λe=>.inr (by simp[take,bK,e]),λs a=>h.fc s (afZ a)⟩,?_⟩
  have c3:A.take j=A.take 5:=by
   have d6:=bC U
   by_cases h6:j=5
   ·rw[h6]
   ·rw[dN (show A.length<=j by omega),dN (show A.length<=5 by omega)]
  unfold bP.plain iC
  simp only
  rw[W,c3,List.map_take]
namespace LIN
theorem nA(v:Value)(xs:List Nat)(R:aw)(h:RS R 1 dC v xs)(i:xs.length<=1000000):
  Spec prog 107 [v] R [] λv' H'=>∃T,H'=[T]/\OS 3 1 dC v' xs T:=by
 obtain⟨b,d,rfl⟩:=h.val
 have f:∀H,RS (Rx R H) 1 dC (.slice b xs.length d) xs:=λH=>h.rx
 refine Spec.fP (H':=[[]]) (by simp) ?_
 refine Spec.body func107 rfl results107 ntmps107 rfl ?_
 refine .sr<|.ag rfl<|.zs<|.sr<|.mo rfl<|.q (.qT rfl rfl) ?_
 refine .zn ?_
 refine .cond rfl (λa=>?_) λa=>?_
 refine .sr<|.az rfl ?_
 refine .ret (aI (bu _ (.one (.tmp rfl)) (.one [0] _) ?_))
 ·obtain rfl:b=none:=by simpa using a
  have:=h.rI
  subst this
  exact⟨[],rfl,OS.nil⟩
 refine .kn<|.sr ?_
 refine .qK (λg=>?_)
 refine .mo rfl ?_
 refine .append (OS.empty (enc:=dC) (sz:=1)) (f _) (by simp;omega) (λv' c e=>?_)
 refine .az rfl ?_
 refine .ret (bu _ (.one (.tmp rfl)) (.one [0] _) ?_)
 ·exact⟨c,by simp[take],by simpa using e⟩
end LIN
def bP.th(c:bP):Prop:=c.jF/\c.pz/\c.scopes.length<=16
theorem xg{c:bP}(h:c.plain.right isWord de=true):c.th:=by
 obtain⟨b,d⟩:=ti h
 refine⟨b,xf d,?_⟩
 have a:c.plain.lp isWord=false:=by
  unfold Cf.right at h
  simp only[afS,Bool.not_eq_true']at h
  exact h.2
 rw[pU]at a
 simp only[Bool.or_eq_false_iff,af0,Nat.not_lt]at a
 exact a.1.2
theorem wz(c:bP)(R:aw)(h:c.is R)(hf:c.th):Spec prog 40 [.agg c.enc.toArray] R [] λu H'=>∃T,H'=[T]/\∃c':bP,u=.agg c'.enc.toArray/\c'.is (sg T)/\c'.plain=c.plain:=by
 obtain⟨⟨b4,a4⟩,h8,b0⟩:=hf
 obtain⟨vs,vc,S,a7⟩:=c
 have H:=h.ss
 have a0:=h.sc
 have i1:=H.aq
 have i2:=a0.aq
 simp only at H a0 i1 i2 b4 a4 b0
 have c4:=H.le
 refine Spec.body func40 rfl results40 ntmps40 rfl ?_
 refine .sr ?_
 refine .cj rfl (λb1=>?_)
 refine .bV (λb2=>?_)
 refine .z ?_
 refine .bV (λb3=>?_)
 refine .zs<|.sr<|.fa rfl<|.lo rfl<|.q (.bL H) ?_
 refine .mo rfl<|.zn<|.block ?_
 refine .cL [(1,_),(2,_),(3,_),(10,_),(11,_)] (X:=Nat×Value×List cC×aH×aH) (λy=>y.1<=S.length/\OS 101 2 cC.enc y.2.1 y.2.2.1 y.2.2.2.1/\(∀s∈y.2.2.1,s.is (sg y.2.2.2.2))/\y.2.2.1.map (·.plain)=(S.take y.1).map (·.plain)) (λy E=>(12,iN y.1)::E) (λy G=>y.2.2.2.1::y.2.2.2.2::bl b3 [y.2.1,sZ] 25::G) (λy=>S.length-y.1) (0,sZ,[],[],[]) ⟨by simp,OS.nil,λs e=>(by cases e),by simp⟩ kE.c.c.c.c.c.c bp.iG ?_
 rintro⟨i,w,L,To,Ti⟩ ⟨hi,M,Y,D⟩
 simp only at hi M Y D⊢
 have io:=M.aq
 have c3:L.length=i:=by have:=afq List.length D;rw[afo,afo,afv]at this;omega
 refine .sr<|.q .lss<|.zs ?_
 refine .cond rfl (λV=>?_) λV=>?_
 have a2:i<S.length:=cF V
 obtain⟨⟨A,sv,m⟩,e⟩:=cm a2
 have Q:=h.all _ (aV e)
 have O:RS R 3 cv.enc sv m:=Q.rs
 have c8:=O.aq
 have c5:=O.le
 have d0:bZ (cC.enc ⟨A,sv,m⟩):=⟨Q.cN⟩
 have a9:=a4 _ (aV e)
 simp only at a9
 refine .kn<|.seq<|.block<|.sr ?_
 refine .bI i H e (λd4=>?_)
 refine .q (.aP rfl) ?_
 refine .bV (λb5=>?_)
 refine .bN rfl rfl<|.z<|.fa rfl<|.lo rfl ?_
 refine .q .da ?_
 refine .bV (λb6=>?_)
 refine .bN rfl rfl<|.zs<|.sr<|.fa rfl<|.lo rfl<|.q (.bL O) ?_
 refine .mo rfl<|.zn<|.block ?_
 refine .cL [(1,_),(2,_),(3,_),(6,_),(10,_),(11,_),(12,_),(20,_),(21,_)] (X:=Nat×Value×List cv×aH×aH) (λy=>y.1<=m.length/\OS 104 3 cv.enc y.2.1 y.2.2.1 y.2.2.2.1/\(∀r∈y.2.2.1,r.is (sg y.2.2.2.2))/\y.2.2.1.map (·.r)=(m.take y.1).map (·.r)) (λy E=>(22,iN y.1)::E) (λy G=>y.2.2.2.1::y.2.2.2.2::bl b6 [.string A,y.2.1] 101::G) (λy=>m.length-y.1) (0,sZ,[],[],[]) ⟨by simp,OS.nil,λs e=>(by cases e),by simp⟩ kE.c.c.c.c.c.c.c.c.c.c bp.iG ?_
 rintro⟨k,w2,C,T2,U⟩ ⟨hk,N,Z,F⟩
 simp only at hk N Z F⊢
 have b9:=N.aq
 have c2:C.length=k:=by have:=afq List.length F;rw[afo,afo,afv]at this;omega
 refine .sr<|.q .lss<|.zs ?_
 refine .cond rfl (λW=>?_) λW=>?_
 have a1:k<m.length:=cF W
 obtain⟨⟨vt,vn,r⟩,v⟩:=cm a1
 have x:=Q.all _ (aV v)
 have a5:RS R 2 Ty.enc vt r.types:=x.t
 have a3:RS R 5 Nd.enc vn r.nodes:=x.d
 have c9:=a5.aq
 have c7:=a3.aq
 have c6:bZ (cv.enc ⟨vt,vn,r⟩):=⟨x.cN⟩
 obtain⟨b7,a8,_⟩:=h8 _ (aV e) _ (aV v)
 simp only at b7 a8
 refine .kn<|.seq<|.block<|.sr ?_
 refine .bI k O v (λd5=>?_)
 refine .q (.aP rfl) ?_
 refine .bV (λb8=>?_)
 refine .bN rfl rfl<|.zn ?_
 refine bF.dt [(1,_),(2,_),(3,_),(6,_),(10,_),(11,_),(12,_),(20,_),(21,_),(22,_)] kE.c.c.c.c.c.c.c.c.c.c (X:=(Value×aH)×(Value×aH)×(Value×aH)) (λy=>OS 104 3 cv.enc y.1.1 (C++[(⟨y.2.1.1,y.2.2.1,r⟩:cv)]) y.1.2/\OS 186 2 Ty.enc y.2.1.1 r.types y.2.1.2/\OS 204 5 Nd.enc y.2.2.1 r.nodes y.2.2.2) (λ_ E=>E) (λy=>[y.1.2,y.2.1.2,y.2.2.2,U,bl b6 [.string A,y.1.1] 101,bl b5 (cC.enc ⟨A,sv,m⟩) 101,To,Ti,bl b3 [w,sZ] 25,bl b2 [sZ,sZ] 25,bl b1 [vs,vc] 25]) ?_ ?_
 refine .dg [12,14] mixed ?_
 refine .tO 0 rfl (.fieldAddr rfl)<|.tO 1 rfl (.cO rfl)<|.tO 2 rfl (.fieldAddr rfl)<|.tO 3 rfl (.cO rfl)<|.tO 4 rfl (.fieldAddr rfl)<|.tO 5 rfl (.cO rfl)<|.tO 7 rfl (.fieldAddr rfl)<|.tO 8 rfl (.cO rfl) ?_
 refine .sT 6 rfl ?_
 refine .dq (LTY.nA vt r.types _ a5.rx (by omega)) (λut K j=>?_)
 obtain⟨pt,ct,rfl,_⟩:=j.shape
 have d3:=j.aq
 refine .nil (Next.sub ?_)
 refine .sT 9 rfl ?_
 refine .dq (LND.nA vn r.nodes _ a3.rx (by omega)) (λun J g=>?_)
 obtain⟨pn,cn,rfl,_⟩:=g.shape
 have d2:=g.aq
 refine .nil (Next.sub ?_)
 refine .tO 10 rfl .da ?_
 refine .sT 11 rfl ?_
 refine .ez (λc0=>?_)
 refine .nil (Next.sub ?_)
 refine .sT 12 rfl ?_
 refine .append N (RS.lits (xs:=[(⟨.slice pt r.types.length ct,.slice pn r.nodes.length cn,r⟩:cv)]) rfl (by simp[cv.enc]) (by intro y l u I;rw[afD]at l;subst l;simp only[cv.enc,afx,afA,afB]at I;rcases I with rfl|rfl|rfl<;>rfl)) (by simp only[afw];omega) (λB p f=>?_)
 have i5:=f.aq
 refine .nil (Next.mod rfl ?_)
 refine .tK 13 rfl (.gA rfl) ?_
 refine .sT 14 rfl ?_
 refine .dH rfl rfl ?_
 refine .nil (Next.mod rfl ?_)
 refine RA.nil (by kernel_rfl) ?_
 ·first
   |exact aG ((B,p),(_,K),(_,J)) ⟨f,j,g⟩ ((((((((((kE.d rfl).d rfl).d rfl).d rfl).d rfl).d rfl).d rfl).d rfl).d rfl).d rfl) (aQ [4,2,1,2,2,2,2,2,2,2,2])
   |exact aG ((B,p),(_,K),(_,J)) ⟨f,j,g⟩ ((((((((((kE.d rfl).d rfl).d rfl).d rfl).d rfl).d rfl).d rfl).d rfl).d rfl).d rfl) (aQ [4,1,1,2,2,2,2,2,2,2,2])
 intro y l
 obtain⟨⟨B,p⟩,⟨ut,K⟩,⟨un,J⟩⟩:=y
 obtain⟨f,j,g⟩:=l
 simp only at f j g⊢
 have i5:=f.aq
 refine bi<|ay<|.region ?_
 refine .ia (k+1) .add ?_
 refine .mo rfl<|.nil ?_
 ·exact aW (k+1,B,C++[⟨ut,un,r⟩],p,K++(J++U)) ⟨a1,f,λq hq=>by
   rcases afF.1 hq with hq|hq
   ·exact(Z q hq).mono λb o a=>gh (gh a)
   ·rw[afD]at hq
    subst hq
    exact⟨x.n,j.sg.mono λb o a=>hU a,g.sg.mono λb o a=>gh (hU a),x.ft,x.fd⟩,by simp only;rw[er v,afs,afs,F];rfl⟩ (by simp only;omega) kE.c.c.c.c.c.c.c.c.c.c (bp.eu (by simp[dh,bP.enc,cC.enc]))
 rw[dN (jh W)]at F
 refine .exit<|bz<|bG<|bB<|ay<|.region<|.fa rfl<|.lo rfl<|.q (.aP rfl) ?_
 refine .ez (λc1=>?_)
 refine .append M (RS.lits (xs:=[(⟨A,w2,C⟩:cC)]) rfl (by simp[cC.enc]) (by intro y l u I;rw[afD]at l;subst l;simp only[cC.enc,afx,afA,afB]at I;rcases I with rfl|rfl;rfl;exact b9.h)) (by simp only[afw];omega) (λB p f=>?_)
 have i5:=f.aq
 refine .fa rfl<|.dH rfl rfl<|.nil<|bi<|ay<|.region ?_
 refine .ia (i+1) .add ?_
 refine .mo rfl<|.nil ?_
 ·exact aW (i+1,B,L++[⟨A,w2,C⟩],p,T2++(U++Ti)) ⟨a2,f,λq hq=>by
   rcases afF.1 hq with hq|hq
   ·exact(Y q hq).mono λb o a=>gh (gh a)
   ·rw[afD]at hq
    subst hq
    exact⟨Q.n,N.sg.mono λb o a=>hU a,λr v=>(Z r v).mono λb o a=>gh (hU a)⟩,by
   simp only
   rw[er e,afs,afs,D]
   simp only[afM,afN]
   congr 1
   unfold cC.plain
   simp only
   rw[F]⟩ (by simp only;omega) kE.c.c.c.c.c.c ((aQ [5,1,1,3,3,3,3]).trans (bp.eu (by simp[take,bK,dh,bP.enc])))
 rw[dN (jh V)]at D
 refine .exit<|bz<|bG<|bB<|ay<|.sr<|.fa rfl<|.lo rfl ?_
 refine .dq (LSC.nA vc a7 _ a0.rx (by omega)) (λuc Tc a6=>?_)
 have d1:=a6.aq
 refine .fa rfl<|.dH rfl rfl<|.z<|.q (.aP rfl)<|.bN rfl rfl<|.zn ?_
 refine .ret (bu _ (.one (.ei rfl rfl)) (.one [1,1,0] _) ?_)
 ·refine⟨_,rfl,⟨w,uc,L,a7⟩,rfl,⟨M.sg.mono λb o a=>?_,a6.sg.mono λb o a=>?_,λs e=>(Y s e).mono λb o a=>?_,h.fc⟩,?_⟩
  ·simp only[take,bK,afO,afP,af1,af2,afI];exact hU a
  ·simp only[take,bK,afO,afP,af1,af2,afI];exact gh (gh a)
  ·simp only[take,bK,afO,afP,af1,af2,afI];exact gh (hU a)
  ·unfold bP.plain;simp only;rw[D]
def cv.zero:cv:=⟨sZ,sZ,⟨⟨#[]⟩,[],[]⟩⟩
def mM(c:bP)(t:Ty)(r:cv)(ok:Bool):Prop:=match bX c.plain.all t with
 |none=>ok=false/\r=cv.zero
 |some j=>ok=true/\∃p s,c.bd[p.1]? =some s/\s.bU[p.2]? =some r/\c.ix p=j
theorem xr{l:List (ByteArray×Rl)}{t:Ty}(h:∀j x,j<l.length->l[j]? =some x->eg x≠t):bX l t=none:=by
 unfold bX
 rw[List.findIdx?_eq_none_iff]
 intro x b
 obtain⟨j,a,e⟩:=afT.1 b
 have:=h j x a (by rw[bE a,e])
 simpa using this
theorem xu{l:List (ByteArray×Rl)}{t:Ty}{i:Nat}{x:ByteArray×Rl}(d:l[i]? =some x)(b:eg x=t)(h:∀j y,j<i->l[j]? =some y->eg y≠t):bX l t=some i:=by
 obtain⟨c,e⟩:=afJ.1 d
 unfold bX
 rw[List.findIdx?_eq_some_iff_getElem]
 refine⟨c,by rw[e];exact decide_eq_true b,λj a=>?_⟩
 have:=h j _ a (bE (by omega))
 simpa using this
theorem zS(c:bP)(R:aw)(h:c.is R)(f b:ByteArray):Spec prog 108 [.agg c.enc.toArray,.string f,.string b] R [] λu H'=>H'=[]/\∃r ok,u=.tuple [.agg r.enc.toArray,.bool ok].toArray/\mM c ⟨f,b⟩ r ok:=by
 have B:=h.ss
 have i1:=B.aq
 have i2:One c.vc:=RS.aq h.sc
 have b2:=B.le
 have a2:=h.all
 have a8:=oX c.plain
 have a7:c.plain.bd.length=c.bd.length:=by unfold bP.plain;simp
 have a6:∀(i:Nat) (s:cC),c.bd[i]? =some s->c.plain.bd[i]? =some s.plain:=λi s g=>oH g
 have a9:=λ(p:fW) (s:cC) (r:cv)=>oE (c:=c) (p:=p) (s:=s) (r:=r)
 have S:∀i k,c.ix (i,k)=cM c.plain.bd i+k:=λ_ _=>rfl
 have Q:∀r ok,mM c ⟨f,b⟩ r ok=(match bX c.plain.all ⟨f,b⟩with
  |none=>ok=false/\r=cv.zero
  |some j=>ok=true/\∃p s,c.bd[p.1]? =some s/\s.bU[p.2]? =some r/\c.ix p=j):=λ_ _=>rfl
 generalize hA:c.plain.all=A at *
 generalize J:cM c.plain.bd=of at *
 have a3:of 0=0:=by rw[<-J];cases c.plain.bd<;>rfl
 refine Spec.body func108 rfl results108 ntmps108 rfl ?_
 refine .sr ?_
 refine .cj rfl (λY=>?_)
 refine .bV (λZ=>?_)
 refine .ag rfl<|.zs<|.sr<|.fa rfl<|.lo rfl<|.q (.bL B) ?_
 refine .mo rfl<|.zn<|.block ?_
 refine .cL [(1,_),(2,_),(6,_),(13,_),(14,_)] (X:=Nat) (λi=>i<=c.bd.length/\∀j x,j<of i->A[j]? =some x->eg x≠⟨f,b⟩) (λi E=>(15,iN i)::E) (λ_ G=>G) (λi=>c.bd.length-i) 0 ⟨afp _,λj x o=>by rw[a3]at o;omega⟩ kE.c.c.c.c.c.c rH ?_
 rintro i ⟨hi,V⟩
 refine .sr<|.q .lss<|.zs ?_
 refine .cond rfl (λH=>?_) λH=>?_
 have U:i<c.bd.length:=cF H
 obtain⟨⟨m,C,e⟩,g⟩:=cm U
 have N:=a2 _ (aV g)
 have w:RS R 3 cv.enc C e:=N.rs
 have b8:=w.aq
 have b4:=w.le
 have c1:bZ (cC.enc ⟨m,C,e⟩):=⟨N.cN⟩
 have a5:=a6 i _ g
 have a4:=oF a5
 rw[J,show(cC.plain ⟨m,C,e⟩).bU.length=e.length by simp[cC.plain]]at a4
 refine .kn<|.seq<|.block<|.sr ?_
 refine .bI i B g (λc2=>?_)
 refine .q (.aP rfl) ?_
 refine .bV (λb9=>?_)
 refine .bN rfl rfl<|.z<|.fa rfl<|.lo rfl<|.q (.bL w) ?_
 refine .mo rfl<|.zn<|.block ?_
 refine .cL [(1,_),(2,_),(6,_),(9,_),(13,_),(14,_),(15,_),(20,_),(21,_)] (X:=Nat) (λk=>k<=e.length/\∀j x,j<of i+k->A[j]? =some x->eg x≠⟨f,b⟩) (λk E=>(22,iN k)::E) (λ_ G=>G) (λk=>e.length-k) 0 ⟨afp _,λj x o=>V j x (by omega)⟩ kE.c.c.c.c.c.c.c.c.c.c rH ?_
 rintro k ⟨hk,L⟩
 refine .sr<|.q .lss<|.zs ?_
 refine .cond rfl (λn=>?_) λn=>?_
 have T:k<e.length:=cF n
 obtain⟨⟨F,D,r⟩,v⟩:=cm T
 have M:=N.all _ (aV v)
 have c0:One F:=RS.aq M.t
 have b7:One D:=RS.aq M.d
 have b5:bZ (cv.enc ⟨F,D,r⟩):=⟨M.cN⟩
 have K:=a9 (i,k) _ _ g v
 rw[S]at K
 refine .kn<|.seq<|.block<|.sr ?_
 refine .bI k w v (λc3=>?_)
 refine .q (.aP rfl) ?_
 refine .bV (λW=>?_)
 refine .bN rfl rfl<|.zs ?_
 refine bF.dt [(1,_),(2,_),(6,_),(9,_),(11,_),(13,_),(14,_),(15,_),(20,_),(21,_),(22,_)] kE.c.c.c.c.c.c.c.c.c.c.c (X:=Unit) (λ_=>True) (λ_ E=>(35,.bool (decide (m=f)&&decide (r.name=b)))::E) (λ_=>[bl W (cv.enc ⟨F,D,r⟩) 104,bl b9 (cC.enc ⟨m,C,e⟩) 101,bl Z [.string ⟨#[]⟩,sZ,sZ] 104,bl Y c.enc 25]) ?_ ?_
 refine .region<|.fa rfl<|.lo rfl<|.mo rfl<|.q .ec<|.mo rfl ?_
 refine .split (t:=30) rfl (λa=>?_) (λa=>?_)
 refine .gT a<|.fa rfl<|.gT a<|.lo rfl<|.gT a<|.mo rfl<|.gT a<|.q .ec<|.q (.aZ a) ?_
 refine .nil ?_
 ·exact aG () afE (kE.c.c.c.c.c.c.c.c.c.c.c.cy rfl (by simp[n,a])) rH
 refine .gF a<|.gF a<|.gF a<|.gF a<|.q (.aX a) ?_
 refine .nil ?_
 ·exact aG () afE (kE.c.c.c.c.c.c.c.c.c.c.c.cy rfl (by simp[n,a])) rH
 intro y hy
 refine ay ?_
 refine .cond rfl (λI=>?_) λI=>?_
 refine .sr<|.q (.aP rfl)<|.bN rfl rfl<|.az rfl ?_
 refine .ret (bf (aI (cK (bf (bf (aI (cK (bf (aI (bu _ (.two (.ei rfl rfl) (.tmp rfl)) (.none _) ?_))))))))))
 ·refine⟨rfl,⟨F,D,r⟩,true,rfl,?_⟩
  have O:m=f/\r.name=b:=by simpa using I
  rw[Q,xu K (show(⟨m,r.name⟩:Ty)=_ by rw[O.1,O.2]) L]
  exact⟨rfl,(i,k),_,g,v,S i k⟩
 refine .skip<|bi<|ay<|.region ?_
 refine .ia (k+1) .add ?_
 refine .mo rfl<|.nil ?_
 ·exact aW (k+1) ⟨T,λj x o l=>by
   rcases Nat.lt_or_ge j (of i+k)with hh|hh
   ·exact L j x hh l
   ·obtain rfl:j=of i+k:=by omega
    rw[K]at l
    cases l
    intro he
    injection he with e1 e2
    have a0:m=f:=e1
    have a1:r.name=b:=e2
    simp[a0,a1]at I⟩ (by omega) kE.c.c.c.c.c.c.c.c.c.c (aQ [1,1,1])
 have b1:k=e.length:=by have:=bC n;omega
 refine .exit<|bz<|bG<|bB<|bi<|ay<|.region ?_
 refine .ia (i+1) .add ?_
 refine .mo rfl<|.nil ?_
 ·exact aW (i+1) ⟨U,λj x o l=>L j x (by omega) l⟩ (by omega) kE.c.c.c.c.c.c (aQ [1,1])
 refine .exit<|bz<|bG<|bB<|ay<|.sr ?_
 refine .q .da ?_
 refine .bN rfl rfl<|.az rfl ?_
 refine .ret (bu _ (.two (.ei rfl rfl) (.tmp rfl)) (.none _) ?_)
 ·refine⟨rfl,cv.zero,false,rfl,?_⟩
  have b0:of i=A.length:=by
   have:i=c.bd.length:=by have:=bC H;omega
   rw[this, <-a7, <-J, <-a8]
   rfl
  rw[Q,xr λj x o l=>V j x (by omega) l]
  exact⟨rfl,rfl⟩
theorem Pt(t:Ty)(s:Sub)(R:aw):Spec prog 186 [.agg t.enc.toArray,.agg s.enc.toArray] R [] λu H'=>u=.bool (lh s t)/\H'=[]:=by
 obtain⟨e,d⟩:=t
 obtain⟨k,j,h,i⟩:=s
 refine Spec.body func186 rfl results186 ntmps186 rfl ?_
 refine .sr ?_
 refine .cj rfl (λf=>?_)
 refine .cj rfl (λg=>?_)
 refine .ag rfl<|.zs<|.sr<|.fa rfl<|.lo rfl<|.q .gd<|.zn ?_
 refine .cond rfl (λc=>?_) λc=>?_
 refine .sr<|.q (.aP rfl) ?_
 refine .q .da ?_
 refine .q (.cast (.nE (xs:=Ty.enc ⟨e,d⟩) (ys:=Ty.enc ⟨⟨#[]⟩,⟨#[]⟩⟩) rfl rfl (Ty.kinds _) (Ty.kinds _)) (afq Value.bool (Ty.eq _ _))) ?_
 refine .az rfl ?_
 refine .ret (aI (aM rfl ?_))
 ·refine⟨afq _ ?_,rfl⟩
  simp only[lh]
  grind
 refine .kn<|.sr<|.fa rfl<|.lo rfl<|.q .gd<|.mo rfl ?_
 refine .split (t:=14) rfl (λa=>?_) (λa=>?_)
 refine .gT a<|.fa rfl<|.gT a<|.lo rfl<|.gT a<|.fa rfl<|.gT a<|.fa rfl<|.gT a<|.lo rfl<|.gT a<|.q .ec<|.q (.aZ a) ?_
 refine .mo rfl ?_
 refine .split (t:=22) rfl (λb=>?_) (λb=>?_)
 refine .gT b<|.fa rfl<|.gT b<|.lo rfl<|.gT b<|.fa rfl<|.gT b<|.lo rfl<|.gT b<|.q .ec<|.q (.aZ b) ?_
 refine .az rfl ?_
 refine .ret (aM rfl ?_)
 ·refine⟨afq _ ?_,rfl⟩
  simp only[lh]
  grind
 refine .gF b<|.gF b<|.gF b<|.gF b<|.gF b<|.q (.aX b) ?_
 refine .az rfl ?_
 refine .ret (aM rfl ?_)
 ·refine⟨afq _ ?_,rfl⟩
  simp only[lh]
  grind
 refine .gF a<|.gF a<|.gF a<|.gF a<|.gF a<|.gF a<|.q (.aX a) ?_
 refine .mo rfl<|.gX<|.gX<|.gX<|.gX<|.gX<|.q .cb<|.az rfl ?_
 refine .ret (aM rfl ?_)
 ·refine⟨afq _ ?_,rfl⟩
  simp only[lh]
  grind
theorem AZ(t:Ty)(s:Sub)(b c d:Value)(q:Nat)(R:aw) [pc:PC R (pT q) (b::c::d::s.enc)]:Spec prog 185 [.agg t.enc.toArray,pT q] R [] λu H'=>u=.bool (lh s t)/\H'=[]:=by
 refine Spec.body func185 rfl results185 ntmps185 rfl ?_
 refine .sr ?_
 refine .cj rfl (λe=>?_)
 refine .ag rfl<|.z<|.q (.aP rfl)<|.fa rfl<|.q (.loadT rfl) ?_
 refine .aR (Pt t s _) (λu a=>?_)
 subst a
 refine .az rfl ?_
 refine .ret (aM rfl ?_)
 ·exact⟨rfl,rfl⟩
theorem A0(c:bP)(R:aw)(h:c.is R)(t:aA):Spec prog 145 [.agg c.enc.toArray,.agg t.enc.toArray] R [] λu H'=>u=.int .i64 (if allowed c.plain t.dc t.sub then 0 else 14)/\H'=[]:=by
 have B:=zS c R h t.os t.rel
 have n:=h.all
 have I:One c.vs:=RS.aq h.ss
 have J:One c.vc:=RS.aq h.sc
 have A:allowed c.plain t.dc t.sub=match bX c.plain.all ⟨t.os,t.rel⟩with
  |none=>false
  |some i=>((c.plain.all.map (·.2.types)).getD i []).any (lh t.sub):=rfl
 refine Spec.body func145 rfl results145 ntmps145 rfl ?_
 refine .sr ?_
 refine .cj rfl (λF=>?_)
 refine .cj rfl (λk=>?_)
 refine .ag rfl<|.z<|.q (.aP rfl)<|.fa rfl<|.fa rfl<|.lo rfl<|.fa rfl<|.lo rfl ?_
 refine .aR ((B.mono λu H' d=>⟨d.2,d.1⟩).weaken cZ) (λu d=>?_)
 obtain⟨r,C,rfl,b⟩:=d
 obtain⟨g,v,l⟩:∃g,RS R 2 Ty.enc r.vt g/\allowed c.plain t.dc t.sub=(C&&g.any (lh t.sub)):=by
  rw[A]
  unfold mM at b
  cases hf:bX c.plain.all ⟨t.os,t.rel⟩with
  |none=>rw[hf]at b;obtain⟨rfl,rfl⟩:=b;exact⟨[],RS.fH,rfl⟩
  |some j=>
   rw[hf]at b
   obtain⟨rfl,p,s,f,e,o⟩:=b
   refine⟨r.r.types,((n _ (aV f)).all _ (aV e)).t,?_⟩
   have:=oE f e
   rw[o]at this
   simp only[Bool.true_and]
   rw[afU,afz,this]
   rfl
 have H:bZ r.enc:=by
  unfold mM at b
  cases hf:bX c.plain.all ⟨t.os,t.rel⟩with
  |none=>rw[hf]at b;obtain⟨_,rfl⟩:=b;exact⟨by simp[cv.enc,cv.zero,aq]⟩
  |some j=>rw[hf]at b;obtain⟨_,p,s,f,e,o⟩:=b;exact⟨((n _ (aV f)).all _ (aV e)).cN⟩
 obtain⟨D,L,r⟩:=r
 simp only at v
 refine .mo rfl<|.q .extract<|.q .extract ?_
 refine .bV (λG=>?_)
 refine .bN rfl rfl<|.ag rfl<|.zs<|.sr<|.mo rfl<|.q .not<|.mo rfl ?_
 refine .split (t:=19) rfl (λa=>?_) (λa=>?_)
 refine .gF a<|.gF a<|.gF a<|.gF a<|.gF a<|.q (.aZ a) ?_
 refine .zn<|.eQ<|.sr<|.az rfl ?_
 refine .ret (aI (aM rfl ?_))
 ·refine⟨?_,rfl⟩
  rw[l,afm (by simp_all)]
 refine .gT a<|.fa rfl<|.gT a<|.lo rfl<|.gT a<|.q .makeFunc<|.gT a ?_
 refine .aR (LTY.jd 185 [pT k] (lh t.sub) D g _ v.rx (λy _ m x=>by
  have K:PC m (pT k) (.string t.os:: .string t.oi:: .string t.rel::t.sub.enc):=PC.of (E:=132) (fr:=(0,0)) (x _ _ (.inr (by simp[aA.enc,Sub.enc,aA.sub])))
  exact AZ y t.sub _ _ _ k m)) (λu d=>?_)
 subst d
 refine .gT a<|.q .not<|.q (.aX a) ?_
 refine .zn ?_
 refine .cond rfl (λw=>?_) λw=>?_
 refine .sr<|.az rfl ?_
 refine .ret (aI (aM rfl ?_))
 ·refine⟨?_,rfl⟩
  rw[l,afm (by simp_all)]
 refine .kn<|.sr<|.az rfl ?_
 refine .ret (aM rfl ?_)
 ·refine⟨?_,rfl⟩
  rw[l,afn (by simp_all)]
structure ek where
 rev:Int
 c:bP
 vn:Value
 ll:List iA
def ek.enc(e:ek):List Value:=[.int .u64 e.rev,e.c.vs,e.c.vc,e.vn]
structure ek.is(R:aw)(e:ek):Prop where
 c:e.c.is R
 n:NN R e.vn e.ll
 ok:(e.c.plain.numbers isWord de).1=0
 eq:e.ll.map (·.2)=(e.c.plain.numbers isWord de).2
theorem ek.is.mono{R R':aw}{e:ek}(h:e.is R)(a:∀b o,R b o->R' b o):e.is R':=⟨h.c.mono a,h.n.mono a,h.ok,h.eq⟩
theorem ek.is.cN{R:aw}{e:ek}(h:e.is R):∀u∈e.enc,aq u=true:=by
 have b:=h.c.ss.aq
 have d:=h.c.sc.aq
 have f:=h.n.rs.aq
 intro u a
 simp only[ek.enc,afx,afA,afB]at a
 rcases a with rfl|rfl|rfl|rfl
 ·rfl
 ·exact b.h
 ·exact d.h
 ·exact f.h
theorem zy{c:Cf}(h:(c.numbers isWord de).1=0):c.right isWord de=true:=by
 cases hr:c.right isWord de with
 |true=>rfl
 |false=>unfold Cf.numbers at h;rw[afn hr]at h;cases h
def HI(hb:Nat)(es:List ek)(gone:Nat)(T:aH):Prop:=∃vl Te Tp,T=(hb,.cells [.bool true,vl,iN gone].toArray 117 (0,0))::(Te++Tp)/\OS 125 4 ek.enc vl es Te/\∀e∈es,e.is (sg Tp)
structure HV(R:aw)(hb:Nat)(vl:Value)(es:List ek)(gone:Nat):Prop where
 pc:PC R (pT hb) [.bool true,vl,iN gone]
 rs:RS R 4 ek.enc vl es
 all:∀e∈es,e.is R
theorem HV.mono{R R':aw}{f:Nat}{g:Value}{c:List ek}{d:Nat}(h:HV R f g c d)(a:∀b o,R b o->R' b o):HV R' f g c d:=⟨h.pc.mono a,h.rs.mono a,λe i=>(h.all e i).mono a⟩
theorem HI.view{a:Nat}{d:List ek}{f:Nat}{T:aH}{R:aw}(h:HI a d f T)(c:∀p∈T,R p.1 p.2):∃vl,HV R a vl d f:=by
 obtain⟨vl,m,g,rfl,j,i⟩:=h
 refine⟨vl,PC.of (E:=117) (fr:=(0,0)) (c (a,_) (by simp)),j.rs λp l=>c p (by simp[l]),λe k=>(i e k).mono λb o a=>c (b,o) ?_⟩
 have:(b,o)∈g:=a
 simp[this]
theorem Lo(R:aw):Spec prog 15 [] R [] λu H'=>∃T,H'=[T]/\∃hb,u=pT hb/\HI hb [] 0 T:=by
 refine Spec.body func15 rfl results15 ntmps15 rfl ?_
 refine .sr<|.ag rfl<|.z ?_
 refine .q .da ?_
 refine .cj rfl (λa=>?_)
 refine .az rfl ?_
 refine .ret (bu _ (.one (.tmp rfl)) (.one [0] _) ?_)
 ·exact⟨_,rfl,a,rfl,sZ,[],[],rfl,OS.nil,λe b=>(by cases b)⟩
section
variable{R:aw}{hb:Nat}{vl:Value}{es:List ek}{gone:Nat}
theorem HV.made(h:HV R hb vl es gone):Spec prog 38 [pT hb] R [] λu H'=>u=.bool true/\H'=[]:=by
 have b:=h.pc
 have a:=h.rs.aq
 refine Spec.body func38 rfl results38 ntmps38 rfl ?_
 refine .sr<|.ag rfl<|.z<|.mo rfl<|.q (.yE rfl rfl) ?_
 refine .mo rfl<|.gt rfl ?_
 refine .mo rfl<|.gt rfl ?_
 refine .nc rfl<|.gt rfl ?_
 refine .fa rfl<|.gt rfl ?_
 refine .lo rfl<|.q .ca<|.az rfl ?_
 refine .ret (aM rfl ?_)
 ·exact⟨rfl,rfl⟩
def hl(es:List ek)(r:Int):Nat->Option Nat
 |0=>none
 |n+1=>match es[n]? with
  |some e=>if e.rev<=r then some n else hl es r n
  |none=>hl es r n
theorem q0{b:List ek}{r:Int}:∀{n i:Nat},hl b r n=some i->i<n/\∃e,b[i]? =some e
 |0,i,h=>by cases h
 |n+1,i,h=>by
  unfold hl at h
  split at h
  ·rename_i e d
   split at h
   ·cases h;exact⟨by omega,e,d⟩
   ·obtain⟨c,a⟩:=q0 h;exact⟨by omega,a⟩
  ·obtain⟨c,a⟩:=q0 h;exact⟨by omega,a⟩
theorem HV.last(h:HV R hb vl es gone)(r:Int):Spec prog 106 [pT hb,.int .u64 r] R [] λu H'=>u=.int .i64 (fI (hl es r es.length))/\H'=[]:=by
 have w:=h.pc
 have b:=h.rs
 have t:=b.aq
 have o:=b.le
 have k:=h.all
 refine Spec.body func106 rfl results106 ntmps106 rfl ?_
 refine .sr<|.ag rfl<|.zs<|.sr<|.mo rfl ?_
 refine .aR (h.made.weaken cZ) (λu l=>?_)
 subst l
 refine .q .not<|.zn<|.bQ<|.kn<|.sr<|.ag rfl<|.zs<|.sr<|.mo rfl<|.nc rfl<|.fa rfl<|.lo rfl<|.q (.bL b) ?_
 refine .mo rfl<|.zn<|.block ?_
 refine .cL [(1,_),(14,_),(15,_)] (X:=Nat) (λi=>i<=es.length) (λi E=>(16,iN i)::(5,.int .i64 (fI (hl es r i)))::E) (λ_ G=>G) (λi=>es.length-i) 0 (afp _) kE.c.c.c.c.c rH ?_
 rintro i n
 refine .sr<|.q .lss<|.zs ?_
 refine .cond rfl (λd=>?_) λd=>?_
 have g:i<es.length:=cF d
 obtain⟨e,f⟩:=cm g
 have p:bZ e.enc:=⟨(k e (aV f)).cN⟩
 have j:hl es r (i+1)=if e.rev<=r then some i else hl es r i:=by rw[hl,f]
 refine .kn<|.seq<|.block<|.sr<|.mo rfl ?_
 refine .bI i b f (λv=>?_)
 refine .q (.aP rfl) ?_
 refine .bV (λm=>?_)
 refine .ag rfl<|.bN rfl rfl<|.z<|.fa rfl<|.fa rfl<|.lo rfl<|.mo rfl<|.q .leq<|.zn ?_
 refine bF.dt [(1,_),(14,_),(15,_),(16,_)] kE.c.c.c.c (X:=Unit) (λ_=>True) (λ_ E=>(5,.int .i64 (fI (hl es r (i+1))))::E) (λ_=>[]) ?_ ?_
 refine .cond rfl (λa=>?_) λa=>?_
 refine .region<|.mo rfl<|.ag rfl<|.nil ?_
 ·exact aG () afE (kE.c.c.c.c.mW rfl (by rw[j];first|rw[afn (cq a)];rfl|rw[afm (bC a)])) (bp.none _)
 refine .skip ?_
 ·exact aG () afE (kE.c.c.c.c.mW rfl (by rw[j];first|rw[afn (cq a)];rfl|rw[afm (bC a)])) (bp.none _)
 intro x s
 refine bi<|ay<|.region ?_
 refine .ia (i+1) .add ?_
 refine .mo rfl<|.nil ?_
 ·exact aW (i+1) g (by omega) kE.c.c.c.c.c rH
 refine .exit<|bz<|bG<|bB<|ay<|.sr<|.mo rfl<|.az rfl ?_
 refine .ret (aM rfl ?_)
 ·refine⟨?_,rfl⟩
  rw[show i=es.length by have:=bC d;omega]
def sU(es:List ek)(gone:Nat)(r:Int):Int:=match hl es r es.length with
 |none=>0
 |some i=>(gone+i+1:Nat)
def la(es:List ek)(r:Int):Option ek:=(hl es r es.length).bind λi=>es[i]?
theorem HV.at_(h:HV R hb vl es gone)(r:Int)(x:gone<=1000000/\es.length<=1000000):Spec prog 55 [pT hb,.int .u64 r] R [] λu H'=>∃T,H'=[T]/\∃c':bP,u=.tuple [.agg c'.enc.toArray,.int .i64 (sU es gone r)].toArray/\c'.is (sg T)/\c'.plain=((la es r).map (·.c.plain)).getD ⟨[],[]⟩:=by
 have L:=h.pc
 have j:=h.rs
 have K:=j.aq
 have G:=j.le
 have t:=h.all
 obtain⟨C,D⟩:=x
 refine Spec.body func55 rfl results55 ntmps55 rfl ?_
 refine .sr ?_
 refine .bV (λp=>?_)
 refine .ag rfl<|.z<|.mo rfl<|.mo rfl ?_
 refine .aR ((h.last r).weaken cZ) (λu n=>?_)
 subst n
 refine .ag rfl<|.zs<|.sr<|.mo rfl<|.q .lss<|.zn ?_
 refine .cond rfl (λb=>?_) λb=>?_
 have o:hl es r es.length=none:=by
  cases hh:hl es r es.length with
  |none=>rfl
  |some i=>rw[hh]at b;simp only[fI]at b;have:=cq b;omega
 refine .sr ?_
 refine .q .da ?_
 refine .bN rfl rfl<|.az rfl ?_
 refine .ret (aI (bu _ (.two (.ei rfl rfl) (.tmp rfl)) bp.iT ?_))
 ·refine⟨[],rfl,⟨sZ,sZ,[],[]⟩,?_,⟨RS.fH,RS.fH,λs m=>(by cases m),λs m=>(by cases m)⟩,?_⟩
  ·unfold sU;rw[o];rfl
  ·unfold la;rw[o];rfl
 obtain⟨i,g⟩:∃i,hl es r es.length=some i:=by
  cases hh:hl es r es.length with
  |none=>rw[hh]at b;simp[fI]at b
  |some i=>exact⟨i,rfl⟩
 obtain⟨F,e,f⟩:=q0 g
 have l:=t e (aV f)
 have H:bZ e.enc:=⟨l.cN⟩
 have v:=wz e.c R l.c (xg (zy l.ok))
 have w:fI (hl es r es.length)=(i:Int):=by rw[g];rfl
 have M:=j.pc f
 rw[w]
 refine .kn<|.seq ?_
 refine bF.dt [(4,_)] kE.c (X:=bP×aH) (λy=>y.1.is (sg y.2)/\y.1.plain=e.c.plain) (λ_ E=>(5,.int .i64 ((gone+i+1:Nat):Int))::E) (λy=>[y.2,bl p y.1.enc 25]) ?_ ?_
 refine .dg [17] mixed ?_
 refine .tO 0 rfl .move<|.tO 1 rfl (.nilCheck rfl)<|.tO 2 rfl (.fieldAddr rfl)<|.tO 3 rfl (.cO rfl)<|.tO 4 rfl .move ?_
 refine .tO 5 rfl (.bI i j f rfl rfl rfl) ?_
 refine .tO 6 rfl (.fieldAddr rfl)<|.tO 7 rfl (.fieldAddr rfl) ?_
 refine .tO 8 rfl (.loadT rfl) ?_
 refine .tK 10 rfl .move ?_
 refine .tK 11 rfl (.oC rfl) ?_
 refine .tK 12 rfl (.gA rfl) ?_
 refine .tK 13 rfl (.cO rfl)<|.tK 14 rfl .move ?_
 refine .take 15 rfl (.i64 ((gone+i:Nat):Int) .add ⟨by omega,by omega,by omega⟩) (by kernel_rfl) ?_
 refine .take 16 rfl (.i64 ((gone+i+1:Nat):Int) .add ⟨by omega,by omega,by omega⟩) (by kernel_rfl) ?_
 refine .sT 9 rfl ?_
 refine .dq (v.weaken cZ) (λu k n=>?_)
 obtain⟨c',rfl,a,d⟩:=n
 have B:bZ c'.enc:=⟨a.cN⟩
 have I:One c'.vs:=RS.aq a.ss
 have J:One c'.vc:=RS.aq a.sc
 refine .nil (Next.sub ?_)
 refine .sT 17 rfl ?_
 refine .bN rfl rfl ?_
 refine .nil (Next.mod rfl ?_)
 refine .tK 18 rfl .assign ?_
 refine RA.nil (by kernel_rfl) ?_
 ·exact aG (c',k) ⟨a,d⟩ kE.c.c (by first|exact bp.refl _|exact bp.pick [0,0] _|exact aQ [1,0])
 intro y A
 obtain⟨c',k⟩:=y
 obtain⟨a,d⟩:=A
 simp only at a d⊢
 refine ay ?_
 refine .ret (bu _ (.two (.ei rfl rfl) (.tmp rfl)) (.one [0] _) ?_)
 ·refine⟨k,by simp[take],c',?_,a,?_⟩
  ·unfold sU;rw[g]
  ·unfold la;rw[g,Option.bind_some,f];exact d
end
theorem HV.numbers{R:aw}{d:Nat}{vl:Value}{a:List ek}{O:Nat}(h:HV R d vl a O)(r:Int)(W:∀e∈a,e.ll.length<=1000000/\∀q∈e.ll,q.2.length<=1000000):Spec prog 57 [pT d,.int .u64 r] R [] λu H'=>∃T,H'=[T]/\∃ll,NN (sg T) u ll/\ll.map (·.2)=((la a r).map λe=>e.ll.map (·.2)).getD []:=by
 have pc:=h.pc
 have B:=h.rs
 have il:=B.aq
 have a4:=B.le
 have Q:=h.all
 refine Spec.body func57 rfl results57 ntmps57 rfl ?_
 refine .sr<|.ag rfl<|.z<|.mo rfl<|.mo rfl ?_
 refine .aR ((h.last r).weaken cZ) (λu l=>?_)
 subst l
 refine .ag rfl<|.zs<|.sr<|.mo rfl<|.q .lss<|.zn ?_
 refine .cond rfl (λg=>?_) λg=>?_
 have s:hl a r a.length=none:=by
  cases hh:hl a r a.length with
  |none=>rfl
  |some i=>rw[hh]at g;simp only[fI]at g;have:=cq g;omega
 refine .sr<|.az rfl ?_
 refine .ret (aI (bu _ (.one (.tmp rfl)) bp.iT ?_))
 ·refine⟨[],rfl,[],.nil,?_⟩
  unfold la;rw[s];rfl
 obtain⟨i,x⟩:∃i,hl a r a.length=some i:=by
  cases hh:hl a r a.length with
  |none=>rw[hh]at g;simp[fI]at g
  |some i=>exact⟨i,rfl⟩
 obtain⟨a2,e,p⟩:=q0 x
 have w:=Q e (aV p)
 have s:=w.n
 have A:=s.rs
 have inr:=A.aq
 obtain⟨a3,V⟩:=W e (aV p)
 have a5:One e.c.vs:=RS.aq w.c.ss
 have a6:One e.c.vc:=RS.aq w.c.sc
 have S:fI (hl a r a.length)=(i:Int):=by rw[x];rfl
 rw[S]
 refine .kn<|.sr<|.ag rfl<|.zs<|.sr<|.mo rfl<|.nc rfl<|.fa rfl<|.lo rfl<|.mo rfl ?_
 refine .bI i B p (λa7=>?_)
 refine .fa rfl<|.lo rfl<|.q (.bL A) ?_
 refine .mo rfl<|.zn<|.block ?_
 refine .cL [(21,_),(22,_)] (X:=Nat×Value×List iA×aH×aH) (λy=>y.1<=e.ll.length/\OS 113 1 gL y.2.1 y.2.2.1 y.2.2.2.1/\(∀q∈y.2.2.1,RS (sg y.2.2.2.2) 1 dC q.1 q.2)/\y.2.2.1.map (·.2)=(e.ll.take y.1).map (·.2)) (λy E=>(23,iN y.1)::(6,y.2.1)::E) (λy G=>y.2.2.2.1::y.2.2.2.2::G) (λy=>e.ll.length-y.1) (0,sZ,[],[],[]) ⟨afp _,OS.nil,λq f=>(by cases f),rfl⟩ kE.c.c.c.c bp.iG ?_
 rintro⟨k,vo,L,N,C⟩ ⟨U,m,v,j⟩
 simp only at U m v j⊢
 have io:=m.aq
 have a1:L.length=k:=by have:=afq List.length j;rw[afo,afo,afv]at this;omega
 refine .sr<|.q .lss<|.zs ?_
 refine .cond rfl (λt=>?_) λt=>?_
 have F:k<e.ll.length:=cF t
 obtain⟨q,f⟩:=cm F
 have H:=s.all q (aV f)
 have iq:=H.aq
 refine .kn<|.seq<|.block<|.sr ?_
 refine .bI k A f (λa8=>?_)
 refine .lo rfl<|.az rfl<|.region<|.mo rfl<|.mo rfl ?_
 refine .dq (LIN.nA q.1 q.2 _ H.rx (V q (aV f))) (λu K l=>?_)
 have iu:=l.aq
 obtain⟨J,D,rfl,_⟩:=l.shape
 refine .jB (λa0=>?_)
 refine .append m (RS.lits (xs:=[((.slice J q.2.length D,q.2):iA)]) rfl (by simp[gL]) (by simp[gL,aq])) (by simp only[afw];omega) (λZ M I=>?_)
 have i5:=I.aq
 refine .ag rfl<|.nil<|bi<|ay<|.region ?_
 refine .ia (k+1) .add ?_
 refine .mo rfl<|.nil ?_
 ·exact aW (k+1,Z,L++[(.slice J q.2.length D,q.2)],M,K++C) ⟨F,I,λY hq'=>by
   rcases afF.1 hq' with hq'|hq'
   ·exact(v Y hq').mono λb o d=>gh d
   ·rw[afD]at hq'
    subst hq'
    exact l.sg.mono λb o d=>hU d,by simp only;rw[er f,afs,afs,j];rfl⟩ (by simp only;omega) kE.c.c.c.c ((aQ [2,1,1]).trans (bp.eu (by simp[take,bK])))
 refine .exit<|bz<|bG<|bB<|ay<|.sr<|.mo rfl<|.az rfl ?_
 refine .ret (bu _ (.one (.tmp rfl)) (.one [0,0] _) ?_)
 ·refine⟨N++C,by simp[take,bK],L,⟨m.sg.mono λb o d=>hU d,λq f=>(v q f).mono λb o d=>gh d⟩,?_⟩
  rw[dN (jh t)]at j
  unfold la;rw[x,Option.bind_some,p,j];rfl
def nG(es:List ek)(rev:Int)(c:Cf):Int:=
 if(es.getLast?.map λe=>decide (rev<=e.rev)).getD false then 12 else if(c.numbers isWord de).1≠0 then(c.numbers isWord de).1 else if 16<=es.length then 8 else 0
theorem Lj(f:Nat)(d:List ek)(j:Nat)(T:aH)(h:HI f d j T)(c0:d.length<=1000)(rev:Int)(c:bP)(R:aw)(C:c.is R):
  Spec prog 17 [pT f,.int .u64 rev,.agg c.enc.toArray] R [T] λu H'=>∃T',H'=[T']/\u=.int .i64 (nG d rev c.plain)/\(nG d rev c.plain=0->∃e:ek,e.rev=rev/\e.c.plain=c.plain/\HI f (d++[e]) j T')/\(nG d rev c.plain≠0->HI f d j T'):=by
 have b6:=Ng c R C
 have b0:=wz c R C
 have i1:One c.vs:=RS.aq C.ss
 have i2:One c.vc:=RS.aq C.sc
 obtain⟨l,m,g,rfl,k,x⟩:=h
 have il:=k.aq
 have b7:(c.plain.numbers isWord de).1=0->c.th:=λv=>xg (zy v)
 have D:nG d rev c.plain=if(d.getLast?.map λe=>decide (rev<=e.rev)).getD false then 12 else if(c.plain.numbers isWord de).1≠0 then(c.plain.numbers isWord de).1 else if 16<=d.length then 8 else 0:=rfl
 generalize hk:nG d rev c.plain=kc at *
 generalize a6:c.plain.numbers isWord de=nn at *
 have a9:∀F:aw,(∀p∈((f,.cells [.bool true,l,iN j].toArray 117 (0,0))::(m++g):aH),F p.1 p.2)->HV F f l d j:=λF N=>by
  refine⟨PC.of (E:=117) (fr:=(0,0)) (N (f,_) (by simp)),k.rs λp hp=>N p (by simp[hp]),λe he=>(x e he).mono λb o f=>N (b,o) ?_⟩
  have:(b,o)∈g:=f
  simp[this]
 have O:∀w,HI f d j w↔∃l m g,w=(f,.cells [.bool true,l,iN j].toArray 117 (0,0))::(m++g)/\OS 125 4 ek.enc l d m/\∀e∈d,e.is (sg g):=λ_=>Iff.rfl
 refine Spec.fP (H':=[bl f [.bool true,l,iN j] 117,m,g]) (by simp) ?_
 refine Spec.body func17 rfl results17 ntmps17 rfl ?_
 refine .sr ?_
 refine .cj rfl (λb5=>?_)
 refine .ag rfl<|.zs<|.block<|.sr<|.mo rfl ?_
 refine .aR (HV.made (a9 _ λp hp=>.inr (by
  rcases afx.1 hp with rfl|hp
  ·simp
  ·rcases afF.1 hp with hp|hp<;>simp[hp]))) (λu V=>?_)
 subst V
 refine .q .not<|.az rfl<|.bQ<|.seq ?_
 refine bF.dt [(0,_),(1,_),(5,_)] kE.c.c.c (X:=Unit) (λ_=>True) (λ_ E=>(13,.bool ((d.getLast?.map λe=>decide (rev<=e.rev)).getD false))::E) (λ_=>[bl b5 c.enc 25,bl f [.bool true,l,iN j] 117,m,g]) ?_ ?_
 refine .eo mixed (by kernel_rfl) ?_
 refine .mo rfl<|.nc rfl<|.fa rfl<|.lo rfl<|.q (.fD k) ?_
 refine .q .gtr<|.mo rfl ?_
 refine .split (t:=20) rfl (λa=>?_) (λa=>?_)
 obtain⟨n,hn⟩:∃n,d.length=n+1:=⟨d.length-1,by have:=cq a;omega⟩
 obtain⟨J,S⟩:∃e,d[n]? =some e:=⟨_,bE (by omega)⟩
 have a4:d.getLast? =some J:=by rw[List.getLast?_eq_getElem?,hn];exact S
 have b1:=x J (aV S)
 have c3:bZ J.enc:=⟨b1.cN⟩
 refine .gT a<|.mo rfl<|.gT a<|.mo rfl<|.gT a<|.nc rfl<|.gT a<|.fa rfl<|.gT a<|.lo rfl<|.gT a<|.mo rfl<|.gT a ?_
 refine .nc rfl<|.gT a<|.fa rfl<|.gT a<|.lo rfl<|.gT a<|.q (.fD k) ?_
 refine .gT a ?_
 refine .q (.i64 (n:Int) .sub ⟨by omega,by omega,by omega⟩) ?_
 refine .gT a ?_
 refine .bH n k S (λc4=>?_)
 refine .gT a<|.fa rfl<|.gT a<|.fa rfl<|.gT a<|.lo rfl<|.gT a<|.q .leq<|.q (.aZ a) ?_
 refine .ag rfl<|.nil ?_
 ·exact aG () afE (kE.c.c.c.cy rfl (by first|rfl|(rw[a4];rfl))) rH
 have b4:d=[]:=af7 (by have:=bC a;omega)
 subst b4
 refine .gF a<|.gF a<|.gF a<|.gF a<|.gF a<|.gF a<|.gF a<|.gF a<|.gF a<|.gF a<|.gF a<|.gF a<|.gF a<|.gF a<|.gF a<|.gF a<|.q (.aX a) ?_
 refine .ag rfl<|.nil ?_
 ·exact aG () afE (kE.c.c.c.cy rfl (by first|rfl|(rw[a4];rfl))) rH
 intro y hy
 refine ay ?_
 refine .cond rfl (λz=>?_) λz=>?_
 refine .sr<|.az rfl ?_
 refine .ret (bf (aI (bu _ (.one (.tmp rfl)) (.one [1,1,1] _) ?_)))
 ·have r:((d.getLast?.map λe=>decide (rev<=e.rev)).getD false)=true:=z
  have i:kc=12:=by rw[D,afn r]
  have U:kc≠0:=by rw[i];decide
  exact⟨_,rfl,by rw[i],λs=>absurd s U,λ_=>(O _).2 ⟨l,m,g,by simp[take,bK],k,x⟩⟩
 refine .skip<|bi<|ay<|.sr<|.q (.aP rfl) ?_
 refine .dq (b6.weaken cZ) (λu T7 b8=>?_)
 obtain⟨w7,ll,rfl,M,b2⟩:=b8
 have i7:=M.rs.aq
 refine .mo rfl<|.q .extract<|.q .extract<|.ag rfl<|.ag rfl<|.zs<|.block<|.sr<|.mo rfl<|.q .eT<|.az rfl ?_
 refine .cond rfl (λK=>?_) λK=>?_
 have a5:nn.1≠0:=by simpa using K
 refine .sr<|.mo rfl<|.az rfl ?_
 refine .ret (bf (aI (bu _ (.one (.tmp rfl)) (.one [2,2,2] _) ?_)))
 ·have r:((d.getLast?.map λe=>decide (rev<=e.rev)).getD false)=false:=z
  have i:kc=nn.1:=by rw[D,afm (by rw[r];simp),afn a5]
  exact⟨_,rfl,by rw[i],λs=>absurd (i.symm.trans s) a5,λ_=>(O _).2 ⟨l,m,g,by simp[take,bK],k,x⟩⟩
 have v:nn.1=0:=by simpa using K
 refine .sr<|.mo rfl<|.nc rfl<|.fa rfl<|.lo rfl<|.q (.fD k) ?_
 refine .q .geq<|.az rfl ?_
 refine .cond rfl (λL=>?_) λL=>?_
 refine .sr<|.az rfl ?_
 refine .ret (bf (aI (bu _ (.one (.tmp rfl)) (.one [2,2,2] _) ?_)))
 ·have r:((d.getLast?.map λe=>decide (rev<=e.rev)).getD false)=false:=z
  have i:kc=8:=by rw[D,afm (by rw[r];simp),afm (by rw[v];simp),afn (by have:=cq L;omega)]
  have U:kc≠0:=by rw[i];decide
  exact⟨_,rfl,by rw[i],λs=>absurd s U,λ_=>(O _).2 ⟨l,m,g,by simp[take,bK],k,x⟩⟩
 have b3:¬16<=d.length:=by have:=bC L;omega
 have r:((d.getLast?.map λe=>decide (rev<=e.rev)).getD false)=false:=z
 have i:kc=0:=by rw[D,afm (by rw[r];simp),afm (by rw[v];simp),afm b3]
 refine .skip<|bi<|ay<|.seq ?_
 refine bF.dt [] (dK.nil _) (X:=Value×aH×ek×aH) (λy=>OS 125 4 ek.enc y.1 (d++[y.2.2.1]) y.2.1/\y.2.2.1.is (sg y.2.2.2)/\y.2.2.1.rev=rev/\y.2.2.1.c.plain=c.plain) (λ_ E=>E) (λy=>[bl f [.bool true,y.1,iN j] 117,y.2.1,y.2.2.2,g]) ?_ ?_
 refine .dg [12,15] mixed ?_
 refine .tK 0 rfl .move<|.tO 1 rfl .move<|.tO 2 rfl (.nilCheck rfl)<|.tO 3 rfl (.fieldAddr rfl)<|.tO 4 rfl (.cO rfl)<|.tO 5 rfl .move<|.tO 6 rfl (.aP rfl)<|.tO 9 rfl .move ?_
 refine .sT 7 rfl ?_
 refine .dq ((b0 (b7 v)).weaken cZ) (λu H V=>?_)
 obtain⟨I,rfl,A,Q⟩:=V
 have c1:One I.vs:=RS.aq A.ss
 have c2:One I.vc:=RS.aq A.sc
 obtain⟨ps,cs,Y⟩:=A.ss.val
 obtain⟨pc,cc,Z⟩:=A.sc.val
 obtain⟨pw,cw,a0⟩:=M.rs.val
 obtain⟨c6,c5,a8,a7⟩:=I
 simp only at Y Z a0
 subst Y Z a0
 refine .nil (Next.sub ?_)
 refine .tO 8 rfl .da ?_
 refine .tO 10 rfl .da ?_
 refine .sT 11 rfl ?_
 refine .ez (λb9=>?_)
 refine .nil (Next.sub ?_)
 refine .sT 12 rfl ?_
 refine .append k (RS.lits (xs:=[(⟨rev,⟨.slice ps a8.length cs,.slice pc a7.length cc,a8,a7⟩,.slice pw ll.length cw,ll⟩:ek)]) rfl (by simp[ek.enc]) (by simp[ek.enc,aq])) (by simp only[afw];omega) (λW G B=>?_)
 have i5:=B.aq
 refine .nil (Next.mod rfl ?_)
 refine .tK 13 rfl (.oC rfl) ?_
 refine .tK 14 rfl (.gA rfl) ?_
 refine .sT 15 rfl ?_
 refine .dH rfl rfl ?_
 refine .nil (Next.mod rfl ?_)
 refine RA.nil (by kernel_rfl) ?_
 ·exact aG (W,G,_,H++T7) ⟨B,⟨A.mono λb o f=>hU f,M.mono λb o f=>gh f,by simp only;rw[Q,a6];exact v,by simp only;rw[Q,a6];exact b2⟩,rfl,Q⟩ (dK.nil _) (by first|exact(aQ [4,4,1,1,2]).trans (bp.eu (by simp[take,bK,dh]))|exact(aQ [3,3,0,1,2]).trans (bp.eu (by simp[take,bK,dh])))
 intro y hy
 obtain⟨W,G,e5,H⟩:=y
 obtain⟨B,a1,a3,a2⟩:=hy
 simp only at B a1 a3 a2⊢
 refine ay<|.sr<|.az rfl ?_
 refine .ret (bu _ (.one (.tmp rfl)) (.one [0,0,0,0] _) ?_)
 ·refine⟨_,rfl,by rw[i],λ_=>⟨e5,a3,a2,W,G,H++g,by simp[take,bK],B,λe he=>?_⟩,λs=>absurd i s⟩
  rcases afF.1 he with he|he
  ·exact(x e he).mono λb o f=>gh f
  ·rw[afD]at he
   subst he
   exact a1.mono λb o f=>hU f
theorem NX(a b:bA)(R:aw):Spec prog 98 [.agg a.enc.toArray,.agg b.enc.toArray] R [] λv H'=>v=.bool (eA a b)/\H'=[]:=by
 refine Spec.body func98 rfl results98 ntmps98 rfl ?_
 refine .sr ?_
 refine .cj rfl (λf=>?_)
 refine .cj rfl (λg=>?_)
 refine .ag rfl<|.z<|.fa rfl<|.q (.loadT rfl) ?_
 refine .fa rfl<|.q (.loadT rfl) ?_
 refine .aR (On a.t b.t _) (λv e=>?_)
 subst e
 refine .mo rfl ?_
 refine .split (t:=10) rfl (λc=>?_) (λc=>?_)
 refine .gF c<|.gF c<|.gF c<|.gF c<|.gF c<|.gF c<|.du rfl ?_
 refine .du rfl ?_
 refine .du rfl ?_
 refine .du rfl ?_
 refine .du rfl ?_
 refine .gF c<|.q (.aZ c) ?_
 refine .az rfl ?_
 refine .ret (aM rfl ?_)
 ·refine⟨afq _ ?_,rfl⟩
  unfold eA
  simp_all
 refine .gT c<|.fa rfl<|.gT c<|.q (.loadT rfl) ?_
 refine .gT c<|.fa rfl<|.gT c<|.q (.loadT rfl) ?_
 refine .gT c<|.q (.nE rfl rfl (aA.kinds a.t) (aA.kinds b.t)) ?_
 rw[show eP (List.take 7 (List.drop 0 a.enc)) (List.take 7 (List.drop 0 b.enc))=decide (a.t=b.t)from aA.eq a.t b.t]
 refine .gT c<|.mo rfl ?_
 refine .split (t:=16) rfl (λd=>?_) (λd=>?_)
 refine .gT d<|.fa rfl<|.gT d<|.lo rfl<|.gT d<|.fa rfl<|.gT d<|.lo rfl<|.gT d<|.q .lss<|.gT c<|.q (.aZ d) ?_
 refine .q (.aX c) ?_
 refine .az rfl ?_
 refine .ret (aM rfl ?_)
 ·refine⟨afq _ ?_,rfl⟩
  unfold eA
  simp_all
 refine .gF d<|.gF d<|.gF d<|.gF d<|.gF d<|.gT c<|.q (.aX d) ?_
 refine .q (.aX c) ?_
 refine .az rfl ?_
 refine .ret (aM rfl ?_)
 ·refine⟨afq _ ?_,rfl⟩
  unfold eA
  simp_all
theorem Oe(v:Value)(l:List bA)(t:bA)(R:aw)(h:RS R 9 bA.enc v l)(hl:l.length<=100000):
    Spec prog 48 [v,.agg t.enc.toArray] R [] λu H'=>∃T,H'=[T]/\OS 142 9 bA.enc u (gN eA t l) T:=by
  obtain⟨J,I,rfl⟩:=h.val
  refine Spec.fP (H':=[[]]) (by simp) ?_
  refine Spec.body func48 rfl results48 ntmps48 rfl ?_
  refine .sr ?_
  refine .cj rfl (λm=>?_)
  refine .ag rfl<|.z<|.ag rfl<|.z<|.ag rfl<|.zs<|.sr<|.az rfl<|.block ?_
  refine .loop (X:=Nat×Value×aH) (λy=>y.1<=l.length/\OS 142 9 bA.enc y.2.1 (kh eA t (l.take y.1)) y.2.2) (λy=>[(0,.slice J l.length I),(3,pT m),(5,y.2.1),(6,.bool ((l.take y.1).any (eA t))),(7,iN y.1)]) (λy=>[bl m t.enc 142,y.2.2]) (λy=>l.length-y.1) (0,sZ,[]) ⟨afp _,OS.nil⟩ kE.c.c.c.c.c rH ?_
  rintro⟨i,D,s⟩ ⟨N,e⟩
  simp only at N e⊢
  have io:=e.aq
  have M:(kh eA t (l.take i)).length<=100001:=afu xE (by rw[afv];omega)
  refine .seq<|.sr<|.mo rfl<|.mo rfl<|.q (.bL h) ?_
  refine .q .lss<|.zn ?_
  refine .cond rfl (λA=>?_) λA=>?_
  have H:i<l.length:=cF A
  obtain⟨x,f⟩:=cm H
  have E:=Le (lt:=eA) (p:=t) f
  refine .kn<|.seq<|.block<|.seq ?_
  refine bF.cut (X:=Value×aH) (λz=>OS 142 9 bA.enc z.1 (mY eA t (l.take i) x) z.2) (λz=>[(0,.slice J l.length I),(3,pT m),(5,z.1),(6,.bool ((l.take (i+1)).any (eA t))),(7,iN i)]) (λz=>[bl m t.enc 142,z.2]) ?_ ?_
  refine .seq ?_
  refine .dY 8 mixed (by kernel_rfl) ?_
  conv=>arg 6;dsimp only[List.take]
  refine .mo rfl<|.q .not<|.mo rfl ?_
  refine .split (t:=16) rfl (λa=>?_) (λa=>?_)
  refine .gT a<|.q (.aP rfl)<|.gT a<|.mo rfl<|.gT a<|.mo rfl<|.gT a ?_
  refine .bI i h f (λa0=>?_)
  refine .gT a<|.q (.aP rfl)<|.nil<|.gT a ?_
  refine .aR (NX t x _) (λv Q=>?_)
  subst Q
  refine .q (.aZ a) ?_
  refine .zn ?_
  refine .cond rfl (λn=>?_) λn=>?_
  first|have C:=Lf f a n|skip
  refine .sr<|.mo rfl<|.q (.aP rfl) ?_
  refine .ez (λW=>?_)
  refine .append e (RS.lits (xs:=[t]) rfl (by simp[bA.enc,aA.enc]) (by simp[bA.enc,aA.enc,aq])) (by simp only[afw];omega) (λr k g=>?_)
  refine .az rfl<|.region<|.ag rfl<|.nil ?_
  ·first
      |(obtain⟨d,b⟩:=C
        exact aG (r,k) (by simp only;rw[d];exact g) (by simp only;rw[b];exact kE.c.c.c.c.c) (aQ [1,1]))
      |(obtain⟨d,b⟩:=j
        exact aG (D,s) (by simp only;rw[d];simpa using e) (by simp only;rw[b];exact kE.c.c.c.c.c) rH)
  first|have j:=tu (p:=t) f (.inr n)|skip
  refine .skip ?_
  ·first
      |(obtain⟨d,b⟩:=C
        exact aG (r,k) (by simp only;rw[d];exact g) (by simp only;rw[b];exact kE.c.c.c.c.c) (aQ [1,1]))
      |(obtain⟨d,b⟩:=j
        exact aG (D,s) (by simp only;rw[d];simpa using e) (by simp only;rw[b];exact kE.c.c.c.c.c) rH)
  have j:=tu (p:=t) f (.inl a)
  refine .gF a<|.gF a<|.gF a<|.gF a<|.gF a<|.nil<|.gF a<|.q (.aX a) ?_
  refine .zn<|.bQ ?_
  first|have j:=tu (p:=t) f (.inr n)|skip
  refine .skip ?_
  ·first
      |(obtain⟨d,b⟩:=C
        exact aG (r,k) (by simp only;rw[d];exact g) (by simp only;rw[b];exact kE.c.c.c.c.c) (aQ [1,1]))
      |(obtain⟨d,b⟩:=j
        exact aG (D,s) (by simp only;rw[d];simpa using e) (by simp only;rw[b];exact kE.c.c.c.c.c) rH)
  intro y S
  obtain⟨V,L⟩:=y
  have F:OS 142 9 bA.enc V (mY eA t (l.take i) x) L:=S
  have i6:=F.aq
  simp only
  refine ay<|.region<|.mo rfl<|.mo rfl<|.mo rfl ?_
  refine .bI i h f (λa1=>?_)
  refine .q (.aP rfl) ?_
  refine .ez (λY=>?_)
  refine .append F (RS.lits (xs:=[x]) rfl (by simp[bA.enc,aA.enc]) (by simp[bA.enc,aA.enc,aq])) (by have:=xE (lt:=eA) (p:=t) (X:=l.take (i+1));rw[<-E,afv]at this;simp at this⊢;omega) (λU K G=>?_)
  rw[E]at G
  refine .ag rfl<|.nil<|bi<|ay<|.region<|.mo rfl ?_
  refine .ia (i+1) .add ?_
  refine .ag rfl<|.nil ?_
  ·exact aW (i+1,U,K) ⟨H,G⟩ (by simp only;omega) kE.c.c.c.c.c (aQ [1,1])
  have O:i=l.length:=by have:=bC A;omega
  subst O
  rw[afC]at e M⊢
  refine .exit<|bz<|bG<|bB<|ay<|.seq<|.sr<|.mo rfl<|.q .not<|.zn ?_
  refine .cond rfl (λB=>?_) λB=>?_
  refine .region<|.mo rfl<|.q (.aP rfl) ?_
  refine .ez (λZ=>?_)
  refine .append e (RS.lits (xs:=[t]) rfl (by simp[bA.enc,aA.enc]) (by simp[bA.enc,aA.enc,aq])) (by simp;omega) (λr k g=>?_)
  refine .ag rfl<|.z<|.mo rfl<|.az rfl ?_
  refine .ret (bu _ (.one (.tmp rfl)) ((aQ [2])) ?_)
  ·have o:l.any (eA t)=false:=by simpa using B
   refine⟨_,by simp[take,bK];rfl,?_⟩
   have w:kh eA t l=l:=by unfold kh;rw[o];rfl
   rw[w]at g
   rw[Lc o];exact g
  refine .kn<|.sr<|.mo rfl<|.az rfl ?_
  refine .ret (bu _ (.one (.tmp rfl)) ((aQ [1])) ?_)
  ·have o:l.any (eA t)=true:=by simpa using B
   refine⟨_,by simp[take,bK];rfl,?_⟩
   have w:kh eA t l=gN eA t l:=by unfold kh;rw[o];rfl
   rw[w]at e;exact e
def oZ(L:List bA)(t:aA)(z:Int):Prop:=(∃(j:Nat) (x:bA),z=j/\L[j]? =some x/\x.eF t=true/\∀k y,k<j->L[k]? =some y->y.eF t=false)\/(z= -1/\dw L t=false)
theorem oZ.lt{L:List bA}{t:aA}{z:Int}(h:oZ L t z):decide (z<0)= !dw L t:=by
 rcases h with⟨j,x,rfl,b,a,_⟩|⟨rfl,h⟩
 ·rw[afR (by omega),dw,afK.2 ⟨x,aV b,a⟩];rfl
 ·rw[h];rfl
theorem oZ.ge{L:List bA}{t:aA}{z:Int}(h:oZ L t z):decide (0<=z)=dw L t:=by
 have a:=h.lt
 have b:decide (0<=z)= !decide (z<0):=by rw[Bool.eq_iff_iff];simp
 rw[b,a,Bool.not_not]
section
variable{R:aw}{b:Nat}{S:dd}{vL:Value}{L:List bA}
theorem DV.find(h:DV R b S vL L)(t:aA):Spec prog 49 [pT b,.agg t.enc.toArray] R [] λu H'=>(∃z,u=.int .i64 z/\oZ L t z)/\H'=[]:=by
 have F:=h.pc
 have B:=h.rs.aq
 have A:=h.rs.le
 obtain⟨G,C,rfl⟩:=h.rs.val
 have n:=h.rs
 refine Spec.body func49 rfl results49 ntmps49 rfl ?_
 refine .sr ?_
 refine .cj rfl (λo=>?_)
 refine .ag rfl<|.zs<|.sr<|.az rfl<|.block ?_
 refine .loop (X:=Nat) (λi=>i<=L.length/\∀k y,k<i->L[k]? =some y->y.eF t=false) (λi=>[(0,pT b),(3,pT o),(5,iN i)]) (λ_=>[bl o t.enc 132]) (λi=>L.length-i) 0 ⟨afp _,λk y e=>absurd e (Nat.not_lt_zero _)⟩ kE.c.c.c rH ?_
 rintro i ⟨v,g⟩
 refine .seq<|.sr<|.mo rfl<|.mo rfl<|.nc rfl<|.fa rfl<|.lo rfl<|.q (.bL n) ?_
 refine .q .lss<|.zn ?_
 refine .cond rfl (λl=>?_) λl=>?_
 have m:i<L.length:=cF l
 obtain⟨x,f⟩:=cm m
 refine .kn<|.seq<|.block<|.seq ?_
 refine .eo mixed (by kernel_rfl) ?_
 refine .mo rfl<|.nc rfl<|.fa rfl<|.lo rfl<|.mo rfl ?_
 refine .bI i n f (λD=>?_)
 refine .fa rfl<|.q (.loadT rfl) ?_
 refine .q (.aP rfl)<|.q (.nE rfl rfl (aA.kinds x.t) (aA.kinds t)) ?_
 rw[show eP (List.take 7 (List.drop 0 x.enc)) t.enc=decide (x.t=t)from aA.eq x.t t]
 refine .mo rfl ?_
 refine .split (t:=25) rfl (λa=>?_) (λa=>?_)
 refine .gT a<|.mo rfl<|.gT a<|.nc rfl<|.gT a<|.fa rfl<|.gT a<|.lo rfl<|.gT a<|.mo rfl<|.gT a ?_
 refine .bI i n f (λE=>?_)
 refine .gT a<|.fa rfl<|.gT a<|.lo rfl<|.gT a<|.q .bw<|.q (.aZ a) ?_
 refine .zn ?_
 refine .cond rfl (λr=>?_) λr=>?_
 refine .sr<|.mo rfl<|.az rfl ?_
 refine .ret (bf (aI (cK (bf (aI (aM rfl ?_))))))
 ·exact⟨⟨_,rfl,.inl ⟨i,x,rfl,f,by unfold bA.eF;simp_all,g⟩⟩,rfl⟩
 refine .skip<|bi<|ay<|.region<|.mo rfl ?_
 refine .ia (i+1) .add ?_
 refine .ag rfl<|.nil ?_
 ·exact aW (i+1) ⟨m,λk y e d=>by
   rcases Nat.lt_or_eq_of_le (Nat.le_of_lt_succ e)with h3|h3
   ·exact g k y h3 d
   ·subst h3
    rw[f]at d
    cases d
    unfold bA.eF
    simp_all⟩ (by omega) kE.c.c.c rH
 refine .gF a<|.gF a<|.gF a<|.gF a<|.gF a<|.gF a<|.gF a<|.gF a<|.gF a<|.q (.aX a) ?_
 refine .zn<|.bQ<|.skip<|bi<|ay<|.region<|.mo rfl ?_
 refine .ia (i+1) .add ?_
 refine .ag rfl<|.nil ?_
 ·exact aW (i+1) ⟨m,λk y e d=>by
   rcases Nat.lt_or_eq_of_le (Nat.le_of_lt_succ e)with h3|h3
   ·exact g k y h3 d
   ·subst h3
    rw[f]at d
    cases d
    unfold bA.eF
    simp_all⟩ (by omega) kE.c.c.c rH
 refine .exit<|bz<|bG<|bB<|ay<|.sr<|.az rfl ?_
 refine .ret (aM rfl ?_)
 ·have w:i=L.length:=by have:=bC l;omega
  refine⟨⟨_,rfl,.inr ⟨rfl,?_⟩⟩,rfl⟩
  unfold dw
  rw[List.any_eq_false]
  intro y d p
  obtain⟨j,s,rfl⟩:=afT.1 d
  have:=g j _ (by omega) (bE s)
  rw[this]at p
  cases p
theorem NY(vm vn vc:Value)(bx no:List aA)(cs:List cD)(R:aw)(z:RS R 7 aA.enc vm bx)(A:RS R 7 aA.enc vn no)(s:RS R 8 cD.enc vc cs)(fm:∀t∈bx,t.fits)(fn:∀t∈no,t.fits)(fc:∀c∈cs,c.t.fits):
  Spec prog 46 [vm,vn,vc] R [] λu H'=>u=.int .i64 (fJ bx no cs)/\H'=[]:=by
 have lm:=z.le
 have ln:=A.le
 have lc:=s.le
 obtain⟨F,D,rfl⟩:=z.val
 obtain⟨G,E,rfl⟩:=A.val
 obtain⟨H,C,rfl⟩:=s.val
 refine Spec.body func46 rfl results46 ntmps46 rfl ?_
 refine .sr<|.ag rfl<|.zs<|.sr<|.mo rfl<|.q (.bL s) ?_
 refine .q .gtr<|.mo rfl ?_
 refine .split (t:=15) rfl (λp=>?_) (λp=>?_)
 refine .gF p<|.gF p<|.gF p<|.q (.aZ p) ?_
 refine .mo rfl<|.gX<|.gX<|.gX<|.q .ca<|.mo rfl<|.gX<|.gX<|.gX<|.q .ca<|.zn<|.eQ ?_
 have d:32<cs.length\/cs.length=0\/32<bx.length\/32<no.length:=by simp_all;try omega
 refine .sr<|.az rfl ?_
 refine .ret (aI (aM rfl ?_))
 ·first
   |(refine⟨?_,rfl⟩;rw[h];done)
   |(refine⟨?_,rfl⟩;rw[kv d];done)
   |(refine⟨?_,rfl⟩;rw[kO d g j n false (by simp[l])];rfl)
 refine .gT p<|.mo rfl<|.gT p<|.q (.bL s) ?_
 refine .gT p<|.q .bw<|.q (.aX p) ?_
 refine .mo rfl ?_
 refine .split (t:=20) rfl (λr=>?_) (λr=>?_)
 refine .gF r<|.gF r<|.gF r<|.q (.aZ r) ?_
 refine .mo rfl<|.gX<|.gX<|.gX<|.q .ca<|.zn<|.eQ ?_
 have d:32<cs.length\/cs.length=0\/32<bx.length\/32<no.length:=by simp_all;try omega
 refine .sr<|.az rfl ?_
 refine .ret (aI (aM rfl ?_))
 ·first
   |(refine⟨?_,rfl⟩;rw[h];done)
   |(refine⟨?_,rfl⟩;rw[kv d];done)
   |(refine⟨?_,rfl⟩;rw[kO d g j n false (by simp[l])];rfl)
 refine .gT r<|.mo rfl<|.gT r<|.q (.bL z) ?_
 refine .gT r<|.q .gtr<|.q (.aX r) ?_
 refine .mo rfl ?_
 refine .split (t:=25) rfl (λo=>?_) (λo=>?_)
 refine .gF o<|.gF o<|.gF o<|.q (.aZ o) ?_
 refine .zn<|.eQ ?_
 have d:32<cs.length\/cs.length=0\/32<bx.length\/32<no.length:=by simp_all;try omega
 refine .sr<|.az rfl ?_
 refine .ret (aI (aM rfl ?_))
 ·first
   |(refine⟨?_,rfl⟩;rw[h];done)
   |(refine⟨?_,rfl⟩;rw[kv d];done)
   |(refine⟨?_,rfl⟩;rw[kO d g j n false (by simp[l])];rfl)
 refine .gT o<|.mo rfl<|.gT o<|.q (.bL A) ?_
 refine .gT o<|.q .gtr<|.q (.aX o) ?_
 refine .zn ?_
 refine .cond rfl (λh1=>?_) λh1=>?_
 have d:32<cs.length\/cs.length=0\/32<bx.length\/32<no.length:=by simp_all;try omega
 refine .sr<|.az rfl ?_
 refine .ret (aI (aM rfl ?_))
 ·first
   |(refine⟨?_,rfl⟩;rw[h];done)
   |(refine⟨?_,rfl⟩;rw[kv d];done)
   |(refine⟨?_,rfl⟩;rw[kO d g j n false (by simp[l])];rfl)
 have d:¬(32<cs.length\/cs.length=0\/32<bx.length\/32<no.length):=by simp_all;try omega
 refine .kn<|.seq<|.sr<|.az rfl<|.block ?_
 refine .loop (X:=Nat) (λi=>i<=bx.length/\(bx.take i).any (λt=> !et t)=false) (λi=>[(0,.slice F bx.length D),(1,.slice G no.length E),(2,.slice H cs.length C),(7,iN i)]) (λ_=>[]) (λi=>bx.length-i) 0 ⟨afp _,by simp⟩ kE.c.c.c.c rH ?_
 rintro i ⟨U,g⟩
 refine .seq<|.sr<|.mo rfl<|.mo rfl<|.q (.bL z) ?_
 refine .q .lss<|.zn ?_
 refine .cond rfl (λJ=>?_) λJ=>?_
 have m:i<bx.length:=cF J
 obtain⟨x,f⟩:=cm m
 refine .kn<|.seq<|.block<|.sr<|.mo rfl<|.mo rfl ?_
 refine .bI i z f (λa2=>?_)
 refine .q (.aP rfl) ?_
 refine .aR (uB x (fm x (aV f)) _) (λv B=>?_)
 subst B
 refine .q .not<|.zn ?_
 refine .cond rfl (λK=>?_) λK=>?_
 have h:fJ bx no cs=9:=oR d (by rw[afK.2 ⟨x,aV f,K⟩];simp)
 refine .sr<|.az rfl ?_
 refine .ret (bf (aI (cK (bf (aI (aM rfl ?_))))))
 ·first
   |(refine⟨?_,rfl⟩;rw[h];done)
   |(refine⟨?_,rfl⟩;rw[kv d];done)
   |(refine⟨?_,rfl⟩;rw[kO d g j n false (by simp[l])];rfl)
 refine .skip<|bi<|ay<|.region<|.mo rfl ?_
 refine .ia (i+1) .add ?_
 refine .ag rfl<|.nil ?_
 ·exact aW (i+1) ⟨m,by rw[afQ,f,afV,g];simp;simpa using K⟩ (by omega) kE.c.c.c.c rH
 have w:i=bx.length:=by have:=bC J;omega
 subst w
 rw[afC]at g
 refine .exit<|bz<|bG<|bB<|ay<|.seq<|.sr<|.az rfl<|.block ?_
 refine .loop (X:=Nat) (λi=>i<=no.length/\(no.take i).any (λt=> !et t)=false) (λi=>[(0,.slice F bx.length D),(1,.slice G no.length E),(2,.slice H cs.length C),(8,iN i)]) (λ_=>[]) (λi=>no.length-i) 0 ⟨afp _,by simp⟩ kE.c.c.c.c rH ?_
 rintro i ⟨U,j⟩
 refine .seq<|.sr<|.mo rfl<|.mo rfl<|.q (.bL A) ?_
 refine .q .lss<|.zn ?_
 refine .cond rfl (λL=>?_) λL=>?_
 have m:i<no.length:=cF L
 obtain⟨x,f⟩:=cm m
 refine .kn<|.seq<|.block<|.sr<|.mo rfl<|.mo rfl ?_
 refine .bI i A f (λa3=>?_)
 refine .q (.aP rfl) ?_
 refine .aR (uB x (fn x (aV f)) _) (λv B=>?_)
 subst B
 refine .q .not<|.zn ?_
 refine .cond rfl (λM=>?_) λM=>?_
 have h:fJ bx no cs=9:=oR d (by rw[g,afK.2 ⟨x,aV f,M⟩];simp)
 refine .sr<|.az rfl ?_
 refine .ret (bf (aI (cK (bf (aI (aM rfl ?_))))))
 ·first
   |(refine⟨?_,rfl⟩;rw[h];done)
   |(refine⟨?_,rfl⟩;rw[kv d];done)
   |(refine⟨?_,rfl⟩;rw[kO d g j n false (by simp[l])];rfl)
 refine .skip<|bi<|ay<|.region<|.mo rfl ?_
 refine .ia (i+1) .add ?_
 refine .ag rfl<|.nil ?_
 ·exact aW (i+1) ⟨m,by rw[afQ,f,afV,j];simp;simpa using M⟩ (by omega) kE.c.c.c.c rH
 have w:i=no.length:=by have:=bC L;omega
 subst w
 rw[afC]at j
 refine .exit<|bz<|bG<|bB<|ay<|.seq<|.sr<|.az rfl<|.block ?_
 refine .loop (X:=Nat) (λi=>i<=cs.length/\(cs.take i).any (λc=> !et c.t)=false) (λi=>[(0,.slice F bx.length D),(1,.slice G no.length E),(2,.slice H cs.length C),(9,iN i)]) (λ_=>[]) (λi=>cs.length-i) 0 ⟨afp _,by simp⟩ kE.c.c.c.c rH ?_
 rintro i ⟨U,T⟩
 refine .seq<|.sr<|.mo rfl<|.mo rfl<|.q (.bL s) ?_
 refine .q .lss<|.zn ?_
 refine .cond rfl (λN=>?_) λN=>?_
 have m:i<cs.length:=cF N
 obtain⟨x,f⟩:=cm m
 refine .kn<|.seq<|.block<|.sr<|.mo rfl<|.mo rfl ?_
 refine .bI i s f (λa4=>?_)
 refine .fa rfl<|.q (.loadT rfl) ?_
 refine .aR (uB x.t (fc x (aV f)) _) (λv B=>?_)
 subst B
 refine .q .not<|.zn ?_
 refine .cond rfl (λO=>?_) λO=>?_
 have h:fJ bx no cs=9:=oR d (by rw[g,j,afK.2 ⟨x,aV f,O⟩];simp)
 refine .sr<|.az rfl ?_
 refine .ret (bf (aI (cK (bf (aI (aM rfl ?_))))))
 ·first
   |(refine⟨?_,rfl⟩;rw[h];done)
   |(refine⟨?_,rfl⟩;rw[kv d];done)
   |(refine⟨?_,rfl⟩;rw[kO d g j n false (by simp[l])];rfl)
 refine .skip<|bi<|ay<|.region<|.mo rfl ?_
 refine .ia (i+1) .add ?_
 refine .ag rfl<|.nil ?_
 ·exact aW (i+1) ⟨m,by rw[afQ,f,afV,T];simp;simpa using O⟩ (by omega) kE.c.c.c.c rH
 have w:i=cs.length:=by have:=bC N;omega
 subst w
 rw[afC]at T
 have n:∀c∈cs,et c.t=true:=λc h=>by
  have:=List.any_eq_false.1 T c h
  simpa using this
 refine .exit<|bz<|bG<|bB<|ay<|.seq<|.sr<|.az rfl<|.block ?_
 refine .loop (X:=Nat) (λi=>i<=cs.length/\((cs.take i).map (·.t)).Nodup) (λi=>[(0,.slice F bx.length D),(1,.slice G no.length E),(2,.slice H cs.length C),(10,iN i)]) (λ_=>[]) (λi=>cs.length-i) 0 ⟨afp _,by simp⟩ kE.c.c.c.c rH ?_
 rintro i ⟨U,l⟩
 refine .seq<|.sr<|.mo rfl<|.mo rfl<|.q (.bL s) ?_
 refine .q .lss<|.zn ?_
 refine .cond rfl (λQ=>?_) λQ=>?_
 have m:i<cs.length:=cF Q
 obtain⟨x,f⟩:=cm m
 have a1:(cs.take (i+1)).map (·.t)=(cs.take i).map (·.t)++[x.t]:=by rw[afQ,f,Option.toList_some,afs];rfl
 refine .kn<|.seq<|.block<|.sr<|.az rfl<|.block ?_
 refine .loop (X:=Nat) (λk=>k<=i/\x.t∉(cs.take k).map (·.t)) (λk=>[(0,.slice F bx.length D),(1,.slice G no.length E),(2,.slice H cs.length C),(10,iN i),(11,iN k)]) (λ_=>[]) (λk=>i-k) 0 ⟨afp _,by simp⟩ kE.c.c.c.c.c rH ?_
 rintro k ⟨hk,W⟩
 refine .seq<|.sr<|.mo rfl<|.mo rfl<|.q .lss<|.zn ?_
 refine .cond rfl (λS=>?_) λS=>?_
 have Z:k<i:=cF S
 obtain⟨y,V⟩:∃x,cs[k]? =some x:=⟨_,bE (by omega)⟩
 refine .kn<|.seq<|.block<|.seq ?_
 refine .eo mixed (by kernel_rfl) ?_
 refine .mo rfl<|.mo rfl ?_
 refine .bI i s f (λa5=>?_)
 refine .fa rfl<|.q (.loadT rfl) ?_
 refine .mo rfl<|.mo rfl ?_
 refine .bI k s V (λa6=>?_)
 refine .fa rfl<|.q (.loadT rfl) ?_
 refine .q (.nE rfl rfl (aA.kinds x.t) (aA.kinds y.t)) ?_
 rw[show eP (List.take 7 (List.drop 1 x.enc)) (List.take 7 (List.drop 1 y.enc))=decide (x.t=y.t)from aA.eq x.t y.t]
 refine .zn ?_
 refine .cond rfl (λI=>?_) λI=>?_
 have h:fJ bx no cs=2:=by
  rw[kO d g j n true ?_];rfl
  rw[eq_comm,Bool.not_eq_true',af0]
  intro hn
  have:=List.pairwise_iff_getElem.1 hn k i (by simp;omega) (by simp;omega) Z
  rw[af3,af3,(afJ.1 f).2,(afJ.1 V).2]at this
  exact this (cq I).symm
 refine .sr<|.az rfl ?_
 refine .ret (bf (aI (cK (bf (bf (aI (cK (bf (aI (aM rfl ?_))))))))))
 ·first
   |(refine⟨?_,rfl⟩;rw[h];done)
   |(refine⟨?_,rfl⟩;rw[kv d];done)
   |(refine⟨?_,rfl⟩;rw[kO d g j n false (by simp[l])];rfl)
 refine .skip<|bi<|ay<|.region<|.mo rfl ?_
 refine .ia (k+1) .add ?_
 refine .ag rfl<|.nil ?_
 ·exact aW (k+1) ⟨Z,by
   rw[afQ,V,Option.toList_some,afs,afF,not_or]
   exact⟨W,by simpa using I⟩⟩ (by omega) kE.c.c.c.c.c rH
 have a0:k=i:=by have:=bC S;omega
 subst a0
 refine .exit<|bz<|bG<|bB<|bi<|ay<|.region<|.mo rfl ?_
 refine .ia (k+1) .add ?_
 refine .ag rfl<|.nil ?_
 ·exact aW (k+1) ⟨m,by
   rw[a1,List.nodup_append]
   exact⟨l,by simp,λa ha b Y=>by simp only[afD]at Y;subst Y;exact λe=>W (e▸ha)⟩⟩ (by omega) kE.c.c.c.c rH
 have w:i=cs.length:=by have:=bC Q;omega
 subst w
 rw[afC]at l
 refine .exit<|bz<|bG<|bB<|ay<|.sr<|.az rfl ?_
 refine .ret (aM rfl ?_)
 ·first
   |(refine⟨?_,rfl⟩;rw[h];done)
   |(refine⟨?_,rfl⟩;rw[kv d];done)
   |(refine⟨?_,rfl⟩;rw[kO d g j n false (by simp[l])];rfl)
end
theorem jN{α:Type}{p:α->Bool}{l:List α}{i:Nat}{x:α}(h:(l.take i).any p=false)(b:l[i]? =some x)(a:p x=false):(l.take (i+1)).any p=false:=by
 rw[afQ,b,afV,h]
 simp[a]
theorem zT{L:List bA}{head:Int}{bx no:List aA}{cs:List cD}(h:(bx.any (λt=> !dw L t)||no.any (λt=>dw L t))=true):eZ L head bx no cs=13:=by unfold eZ;rw[afn h]
theorem Pr{L:List bA}{head:Int}{bx no:List aA}{cs:List cD}(a:bx.any (λt=> !dw L t)=false)(b:no.any (λt=>dw L t)=false)(h:cs.any (λc=>c.put&&dw L c.t)=true):eZ L head bx no cs=10:=by unfold eZ;rw[a,b,afm (by simp),afn h]
theorem Pp{L:List bA}{head:Int}{bx no:List aA}{cs:List cD}(a:bx.any (λt=> !dw L t)=false)(b:no.any (λt=>dw L t)=false)(d:cs.any (λc=>c.put&&dw L c.t)=false)(h:cs.any (λc=> !c.put&& !dw L c.t)=true):eZ L head bx no cs=11:=by unfold eZ;rw[a,b,afm (by simp),afm (by rw[d];simp),afn h]
theorem Ps{L:List bA}{head:Int}{bx no:List aA}{cs:List cD}(a:bx.any (λt=> !dw L t)=false)(b:no.any (λt=>dw L t)=false)(d:cs.any (λc=>c.put&&dw L c.t)=false)(e:cs.any (λc=> !c.put&& !dw L c.t)=false):eZ L head bx no cs=if 4611686018427387903<=head\/4096<L.length+fj cs/\0<fj cs then 8 else 0:=by unfold eZ;rw[a,b,afm (by simp),afm (by rw[d];simp),afm (by rw[e];simp)]
theorem Oa{R:aw}{b:Nat}{S:dd}{vL:Value}{L:List bA}(h:DV R b S vL L)(a4:L.length<=5000)(vm vn vc:Value)(bx no:List aA)(cs:List cD)(H:RS R 7 aA.enc vm bx)(I:RS R 7 aA.enc vn no)(p:RS R 8 cD.enc vc cs)(a3:cs.length<=1000):
  Spec prog 47 [pT b,vm,vn,vc] R [] λu H'=>u=.int .i64 (eZ L S.head bx no cs)/\H'=[]:=by
 have pc:=h.pc
 have a6:=h.rs.aq
 obtain⟨pw,a7,rfl⟩:=h.rs.val
 have a0:=h.rs
 have lm:=H.le
 have ln:=I.le
 have lc:=p.le
 obtain⟨O,M,rfl⟩:=H.val
 obtain⟨Q,N,rfl⟩:=I.val
 obtain⟨T,K,rfl⟩:=p.val
 refine Spec.body func47 rfl results47 ntmps47 rfl ?_
 refine .sr<|.ag rfl<|.zs<|.sr<|.az rfl<|.block ?_
 refine .loop (X:=Nat) (λi=>i<=bx.length/\(bx.take i).any (λt=> !dw L t)=false) (λi=>[(0,pT b),(1,.slice O bx.length M),(2,.slice Q no.length N),(3,.slice T cs.length K),(9,iN i)]) (λ_=>[]) (λi=>bx.length-i) 0 ⟨afp _,by simp⟩ kE.c.c.c.c.c rH ?_
 rintro i ⟨hi,E⟩
 refine .seq<|.sr<|.mo rfl<|.mo rfl<|.q (.bL H) ?_
 refine .q .lss<|.zn ?_
 refine .cond rfl (λU=>?_) λU=>?_
 have f:i<bx.length:=cF U
 obtain⟨x,d⟩:=cm f
 refine .kn<|.seq<|.block<|.sr<|.mo rfl<|.mo rfl<|.mo rfl ?_
 refine .bI i H d (λa8=>?_)
 refine .q (.aP rfl) ?_
 refine .aR ((h.mono λb o y=>.inl y).find x) (λv B=>?_)
 obtain⟨z,rfl,C⟩:=B
 have k:=C.lt
 refine .q .lss<|.zn ?_
 refine .cond rfl (λV=>?_) λV=>?_
 have n:eZ L S.head bx no cs=13:=zT (by rw[afK.2 ⟨x,aV d,by rw[<-k];exact V⟩];simp)
 refine .sr<|.az rfl ?_
 refine .ret (bf (aI (cK (bf (aI (aM rfl ?_))))))
 ·first
   |(refine⟨?_,rfl⟩;rw[n];done)
   |(refine⟨?_,rfl⟩;rw[s];congr 1;split<;>first|rfl|(exfalso;simp_all;done)|(exfalso;simp_all;omega))
 refine .skip<|bi<|ay<|.region<|.mo rfl ?_
 refine .ia (i+1) .add ?_
 refine .ag rfl<|.nil ?_
 ·exact aW (i+1) ⟨f,jN E d (by rw[<-k];exact V)⟩ (by omega) kE.c.c.c.c.c (aQ [])
 have A:i=bx.length:=by have:=bC U;omega
 subst A
 rw[afC]at E
 refine .exit<|bz<|bG<|bB<|ay<|.seq<|.sr<|.az rfl<|.block ?_
 refine .loop (X:=Nat) (λi=>i<=no.length/\(no.take i).any (λt=>dw L t)=false) (λi=>[(0,pT b),(1,.slice O bx.length M),(2,.slice Q no.length N),(3,.slice T cs.length K),(10,iN i)]) (λ_=>[]) (λi=>no.length-i) 0 ⟨afp _,by simp⟩ kE.c.c.c.c.c rH ?_
 rintro i ⟨hi,F⟩
 refine .seq<|.sr<|.mo rfl<|.mo rfl<|.q (.bL I) ?_
 refine .q .lss<|.zn ?_
 refine .cond rfl (λW=>?_) λW=>?_
 have f:i<no.length:=cF W
 obtain⟨x,d⟩:=cm f
 refine .kn<|.seq<|.block<|.sr<|.mo rfl<|.mo rfl<|.mo rfl ?_
 refine .bI i I d (λa9=>?_)
 refine .q (.aP rfl) ?_
 refine .aR ((h.mono λb o y=>.inl y).find x) (λv B=>?_)
 obtain⟨z,rfl,C⟩:=B
 have k:=C.ge
 refine .q .geq<|.zn ?_
 refine .cond rfl (λY=>?_) λY=>?_
 have n:eZ L S.head bx no cs=13:=zT (by rw[E,afK.2 ⟨x,aV d,by rw[<-k];exact Y⟩];rfl)
 refine .sr<|.az rfl ?_
 refine .ret (bf (aI (cK (bf (aI (aM rfl ?_))))))
 ·first
   |(refine⟨?_,rfl⟩;rw[n];done)
   |(refine⟨?_,rfl⟩;rw[s];congr 1;split<;>first|rfl|(exfalso;simp_all;done)|(exfalso;simp_all;omega))
 refine .skip<|bi<|ay<|.region<|.mo rfl ?_
 refine .ia (i+1) .add ?_
 refine .ag rfl<|.nil ?_
 ·exact aW (i+1) ⟨f,jN F d (by rw[<-k];exact Y)⟩ (by omega) kE.c.c.c.c.c (aQ [])
 have A:i=no.length:=by have:=bC W;omega
 subst A
 rw[afC]at F
 refine .exit<|bz<|bG<|bB<|ay<|.seq<|.sr<|.az rfl<|.block ?_
 refine .loop (X:=Nat) (λi=>i<=cs.length/\(cs.take i).any (λc=>c.put&&dw L c.t)=false) (λi=>[(0,pT b),(1,.slice O bx.length M),(2,.slice Q no.length N),(3,.slice T cs.length K),(11,iN i)]) (λ_=>[]) (λi=>cs.length-i) 0 ⟨afp _,by simp⟩ kE.c.c.c.c.c rH ?_
 rintro i ⟨hi,w⟩
 refine .seq<|.sr<|.mo rfl<|.mo rfl<|.q (.bL p) ?_
 refine .q .lss<|.zn ?_
 refine .cond rfl (λZ=>?_) λZ=>?_
 have f:i<cs.length:=cF Z
 obtain⟨x,d⟩:=cm f
 refine .kn<|.seq<|.block<|.sr<|.mo rfl<|.mo rfl ?_
 refine .bI i p d (λb0=>?_)
 refine .fa rfl<|.lo rfl<|.mo rfl ?_
 refine .split (t:=51) rfl (λe=>?_) (λe=>?_)
 refine .gT e<|.mo rfl<|.gT e<|.mo rfl<|.gT e<|.mo rfl<|.gT e ?_
 refine .bI i p d (λb1=>?_)
 refine .gT e<|.fa rfl<|.gT e<|.q (.loadT rfl) ?_
 refine .gT e ?_
 refine .aR ((h.mono λb o y=>.inl y).find x.t) (λv B=>?_)
 obtain⟨z,rfl,C⟩:=B
 have k:=C.ge
 refine .gT e<|.q .geq<|.q (.aZ e) ?_
 refine .zn ?_
 refine .cond rfl (λG=>?_) λG=>?_
 have n:eZ L S.head bx no cs=10:=Pr E F (afK.2 ⟨x,aV d,by rw[<-k,e];exact G⟩)
 refine .sr<|.az rfl ?_
 refine .ret (bf (aI (cK (bf (aI (aM rfl ?_))))))
 ·first
   |(refine⟨?_,rfl⟩;rw[n];done)
   |(refine⟨?_,rfl⟩;rw[s];congr 1;split<;>first|rfl|(exfalso;simp_all;done)|(exfalso;simp_all;omega))
 refine .skip<|bi<|ay<|.region<|.mo rfl ?_
 refine .ia (i+1) .add ?_
 refine .ag rfl<|.nil ?_
 ·first
   |exact aW (i+1) ⟨f,jN w d (by rw[<-k,e];exact G)⟩ (by omega) kE.c.c.c.c.c (aQ [])
   |exact aW (i+1) ⟨f,jN w d (by rw[e];rfl)⟩ (by omega) kE.c.c.c.c.c (aQ [])
 refine .gF e<|.gF e<|.gF e<|.gF e<|.gF e<|.gF e<|.gF e<|.gF e<|.q (.aX e) ?_
 refine .zn<|.bQ<|.skip<|bi<|ay<|.region<|.mo rfl ?_
 refine .ia (i+1) .add ?_
 refine .ag rfl<|.nil ?_
 ·first
   |exact aW (i+1) ⟨f,jN w d (by rw[<-k,e];exact G)⟩ (by omega) kE.c.c.c.c.c (aQ [])
   |exact aW (i+1) ⟨f,jN w d (by rw[e];rfl)⟩ (by omega) kE.c.c.c.c.c (aQ [])
 have A:i=cs.length:=by have:=bC Z;omega
 subst A
 rw[afC]at w
 refine .exit<|bz<|bG<|bB<|ay<|.sr<|.mo rfl<|.nc rfl<|.fa rfl<|.lo rfl<|.q (.bL a0) ?_
 refine .ag rfl<|.zs<|.sr<|.az rfl<|.block ?_
 refine .loop (X:=Nat) (λi=>i<=cs.length/\(cs.take i).any (λc=> !c.put&& !dw L c.t)=false) (λi=>[(0,pT b),(1,.slice O bx.length M),(2,.slice Q no.length N),(3,.slice T cs.length K),(12,.int .i64 ((L.length+fj (cs.take i):Nat):Int)),(13,iN i)]) (λ_=>[]) (λi=>cs.length-i) 0 ⟨afp _,by simp⟩ kE.c.c.c.c.c.c rH ?_
 rintro i ⟨hi,r⟩
 have a5:fj (cs.take i)<=1000:=by unfold fj;exact afu (afG _ _) (by rw[afv];omega)
 refine .seq<|.sr<|.mo rfl<|.mo rfl<|.q (.bL p) ?_
 refine .q .lss<|.zn ?_
 refine .cond rfl (λh7=>?_) λh7=>?_
 have f:i<cs.length:=cF h7
 obtain⟨x,d⟩:=cm f
 have J:=z6 d
 refine .kn<|.seq<|.block<|.seq<|.sr<|.mo rfl<|.mo rfl ?_
 refine .bI i p d (λb2=>?_)
 refine .fa rfl<|.lo rfl<|.q .not<|.mo rfl ?_
 refine .split (t:=78) rfl (λa=>?_) (λa=>?_)
 refine .gT a<|.mo rfl<|.gT a<|.mo rfl<|.gT a<|.mo rfl<|.gT a ?_
 refine .bI i p d (λb3=>?_)
 refine .gT a<|.fa rfl<|.gT a<|.q (.loadT rfl) ?_
 refine .gT a ?_
 refine .aR ((h.mono λb o y=>.inl y).find x.t) (λv B=>?_)
 obtain⟨z,rfl,C⟩:=B
 have k:=C.lt
 refine .gT a<|.q .lss<|.q (.aZ a) ?_
 refine .zn ?_
 refine .cond rfl (λD=>?_) λD=>?_
 have n:eZ L S.head bx no cs=11:=Pp E F w (afK.2 ⟨x,aV d,by rw[<-k,a];exact D⟩)
 refine .sr<|.az rfl ?_
 refine .ret (aI (bf (aI (cK (bf (aI (aM rfl ?_)))))))
 ·first
   |(refine⟨?_,rfl⟩;rw[n];done)
   |(refine⟨?_,rfl⟩;rw[s];congr 1;split<;>first|rfl|(exfalso;simp_all;done)|(exfalso;simp_all;omega))
 refine .kn<|.sr<|.mo rfl<|.mo rfl ?_
 refine .bI i p d (λa2=>?_)
 refine .fa rfl<|.lo rfl<|.zn ?_
 refine .cond rfl (λj=>?_) λj=>?_
 have m:L.length+fj (cs.take (i+1))=L.length+fj (cs.take i)+1:=by rw[J,afn j];rfl
 refine .region<|.mo rfl ?_
 refine .ia (L.length+fj (cs.take i)+1) .add ?_
 refine .ag rfl<|.nil<|bi<|ay<|.region<|.mo rfl ?_
 refine .ia (i+1) .add ?_
 refine .ag rfl<|.nil ?_
 ·first
   |(exfalso;rw[j]at a;cases a;done)
   |(refine aW (i+1) ⟨f,jN r d ?_⟩ (by omega) (by simp only[m];exact kE.c.c.c.c.c.c) (aQ []);rw[j];rfl)
   |(refine aW (i+1) ⟨f,jN r d ?_⟩ (by omega) (by simp only[m];exact kE.c.c.c.c.c.c) (aQ []);rw[<-k,a];exact D)
 have m:L.length+fj (cs.take (i+1))=L.length+fj (cs.take i):=by rw[J,afm (by rw[j];simp)];rfl
 refine .skip<|bi<|ay<|.region<|.mo rfl ?_
 refine .ia (i+1) .add ?_
 refine .ag rfl<|.nil ?_
 ·first
   |(exfalso;rw[j]at a;cases a;done)
   |(refine aW (i+1) ⟨f,jN r d ?_⟩ (by omega) (by simp only[m];exact kE.c.c.c.c.c.c) (aQ []);rw[j];rfl)
   |(refine aW (i+1) ⟨f,jN r d ?_⟩ (by omega) (by simp only[m];exact kE.c.c.c.c.c.c) (aQ []);rw[<-k,a];exact D)
 refine .gF a<|.gF a<|.gF a<|.gF a<|.gF a<|.gF a<|.gF a<|.gF a<|.q (.aX a) ?_
 refine .zn<|.bQ<|.kn<|.sr<|.mo rfl<|.mo rfl ?_
 refine .bI i p d (λa2=>?_)
 refine .fa rfl<|.lo rfl<|.zn ?_
 refine .cond rfl (λj=>?_) λj=>?_
 have m:L.length+fj (cs.take (i+1))=L.length+fj (cs.take i)+1:=by rw[J,afn j];rfl
 refine .region<|.mo rfl ?_
 refine .ia (L.length+fj (cs.take i)+1) .add ?_
 refine .ag rfl<|.nil<|bi<|ay<|.region<|.mo rfl ?_
 refine .ia (i+1) .add ?_
 refine .ag rfl<|.nil ?_
 ·first
   |(exfalso;rw[j]at a;cases a;done)
   |(refine aW (i+1) ⟨f,jN r d ?_⟩ (by omega) (by simp only[m];exact kE.c.c.c.c.c.c) (aQ []);rw[j];rfl)
   |(refine aW (i+1) ⟨f,jN r d ?_⟩ (by omega) (by simp only[m];exact kE.c.c.c.c.c.c) (aQ []);rw[<-k,a];exact D)
 have m:L.length+fj (cs.take (i+1))=L.length+fj (cs.take i):=by rw[J,afm (by rw[j];simp)];rfl
 refine .skip<|bi<|ay<|.region<|.mo rfl ?_
 refine .ia (i+1) .add ?_
 refine .ag rfl<|.nil ?_
 ·first
   |(exfalso;rw[j]at a;cases a;done)
   |(refine aW (i+1) ⟨f,jN r d ?_⟩ (by omega) (by simp only[m];exact kE.c.c.c.c.c.c) (aQ []);rw[j];rfl)
   |(refine aW (i+1) ⟨f,jN r d ?_⟩ (by omega) (by simp only[m];exact kE.c.c.c.c.c.c) (aQ []);rw[<-k,a];exact D)
 have A:i=cs.length:=by have:=bC h7;omega
 subst A
 rw[afC]at r
 rw[afC]
 have s:=Ps (head:=S.head) E F w r
 refine .exit<|bz<|bG<|bB<|ay<|.seq<|.sr<|.mo rfl<|.nc rfl<|.fa rfl<|.lo rfl<|.q .geq<|.mo rfl ?_
 refine .split (t:=100) rfl (λl=>?_) (λl=>?_)
 refine .gF l<|.gF l<|.gF l<|.du rfl ?_
 refine .du rfl ?_
 refine .du rfl ?_
 refine .du rfl ?_
 refine .du rfl ?_
 refine .du rfl ?_
 refine .du rfl ?_
 refine .gF l<|.q (.aZ l) ?_
 refine .zn<|.eQ<|.sr<|.az rfl ?_
 refine .ret (aI (aM rfl ?_))
 ·first
   |(refine⟨?_,rfl⟩;rw[n];done)
   |(refine⟨?_,rfl⟩;rw[s];congr 1;split<;>first|rfl|(exfalso;simp_all;done)|(exfalso;simp_all;omega))
 refine .gT l<|.mo rfl<|.gT l<|.q .gtr<|.gT l<|.mo rfl ?_
 refine .split (t:=103) rfl (λg=>?_) (λg=>?_)
 refine .gT g<|.mo rfl<|.gT g<|.mo rfl<|.gT g<|.nc rfl<|.gT g<|.fa rfl<|.gT g<|.lo rfl<|.gT g<|.q (.bL a0) ?_
 refine .gT g<|.q .gtr<|.gT l<|.q (.aZ g) ?_
 refine .q (.aX l) ?_
 refine .zn ?_
 refine .cond rfl (λa1=>?_) λa1=>?_
 refine .sr<|.az rfl ?_
 refine .ret (aI (aM rfl ?_))
 ·first
   |(refine⟨?_,rfl⟩;rw[n];done)
   |(refine⟨?_,rfl⟩;rw[s];congr 1;split<;>first|rfl|(exfalso;simp_all;done)|(exfalso;simp_all;omega))
 refine .kn<|.sr<|.az rfl ?_
 refine .ret (aM rfl ?_)
 ·first
   |(refine⟨?_,rfl⟩;rw[n];done)
   |(refine⟨?_,rfl⟩;rw[s];congr 1;split<;>first|rfl|(exfalso;simp_all;done)|(exfalso;simp_all;omega))
 refine .gF g<|.gF g<|.gF g<|.gF g<|.gF g<|.gF g<|.gF g<|.gT l<|.q (.aX g) ?_
 refine .q (.aX l) ?_
 refine .zn<|.bQ<|.kn<|.sr<|.az rfl ?_
 refine .ret (aM rfl ?_)
 ·first
   |(refine⟨?_,rfl⟩;rw[n];done)
   |(refine⟨?_,rfl⟩;rw[s];congr 1;split<;>first|rfl|(exfalso;simp_all;done)|(exfalso;simp_all;omega))
def DO(b:Nat)(S:dd)(T:aH):Prop:=∃vL L TL,T=(b,.cells [vL,.int .u64 S.head,.int .u64 S.dM].toArray 49 (0,0))::TL/\OS 142 9 bA.enc vL L TL/\fM S L
theorem DO.view{b:Nat}{S:dd}{T:aH}{R:aw}(h:DO b S T)(a:∀p∈T,R p.1 p.2):∃vL L,DV R b S vL L/\fM S L:=by
 obtain⟨vL,L,f,rfl,c,d⟩:=h
 exact⟨vL,L,⟨PC.of (E:=49) (fr:=(0,0)) (a (b,_) (by simp)),c.rs λp e=>a p (by simp[e])⟩,d⟩
theorem fM.len{S:dd}(a:gn S){L:List bA}(h:fM S L):L.length<=4096:=by rw[h.pm.length_eq];exact a.len
theorem OU(b:Nat)(S:dd)(T:aH)(h:DO b S T)(l:gn S)(vm vn vc:Value)(bx no:List aA)(cs:List cD)(R:aw)(G:RS R 7 aA.enc vm bx)(H:RS R 7 aA.enc vn no)(e:RS R 8 cD.enc vc cs)(fm:∀t∈bx,t.fits)(fn:∀t∈no,t.fits)(fc:∀c∈cs,c.t.fits)(a9:cs.length<=1000):
  Spec prog 20 [pT b,vm,vn,vc] R [T] λu H'=>∃T',H'=[T']/\u=.tuple [.int .u64 (if fU S bx no cs=0 then S.head+1 else 0),.int .i64 (fU S bx no cs)].toArray/\DO b (hY S bx no cs) T':=by
 have a0:=l.h0
 have a1:=l.h1
 have a2:=l.h2
 have h0:=h
 obtain⟨pm,km,rfl⟩:=G.val
 obtain⟨pn,kn,rfl⟩:=H.val
 obtain⟨pv,kc,rfl⟩:=e.val
 obtain⟨c4,L0,a8,a4⟩:=h.view (R:=Rx R [T]) λp hp=>.inr (by simp[hp])
 have b5:=a4.len l
 refine Spec.body func20 rfl results20 ntmps20 rfl ?_
 refine .sr<|.ag rfl<|.ag rfl<|.z<|.mo rfl<|.mo rfl<|.mo rfl ?_
 refine .aR (NY _ _ _ bx no cs _ G.rx H.rx e.rx fm fn fc) (λv o=>?_)
 subst o
 refine .ag rfl<|.zs<|.sr<|.mo rfl<|.q .bw<|.zn ?_
 refine bF.cut (X:=Unit) (λ_=>True) (λ_=>[(0,pT b),(1,.slice pm bx.length km),(2,.slice pn no.length kn),(3,.slice pv cs.length kc),(10,.int .i64 (fU S bx no cs))]) (λ_=>[T]) ?_ ?_
 refine .cond rfl (λC=>?_) λC=>?_
 have I:fJ bx no cs=0:=by simpa using C
 have B:eZ L0 S.head bx no cs=fU S bx no cs:=by rw[se I,Pq a4.pm]
 refine .region<|.mo rfl<|.mo rfl<|.mo rfl<|.mo rfl ?_
 refine .aR (Oa a8 (by omega) _ _ _ bx no cs G.rx H.rx e.rx a9) (λv o=>?_)
 subst o
 refine .ag rfl<|.nil ?_
 ·exact aG () afE (by rw[<-B];exact kE.c.c.c.c.c) rH
 have I:fJ bx no cs≠0:=by simpa using C
 have B:fJ bx no cs=fU S bx no cs:=by rw[uJ I]
 refine .skip ?_
 ·exact aG () afE (by rw[<-B];exact kE.c.c.c.c.c) rH
 intro x hx
 skip
 refine ay<|.seq<|.sr<|.mo rfl<|.q .eT<|.zn ?_
 refine .cond rfl (λD=>?_) λD=>?_
 have g:fU S bx no cs≠0:=by simpa using D
 refine .sr<|.mo rfl<|.ag rfl<|.az rfl ?_
 refine .ret (aI (bu _ (.two (.tmp rfl) (.tmp rfl)) (.one [0] _) ?_))
 ·exact⟨T,by simp[take],by rw[afm g],by rw[qj g];exact h0⟩
 have g:fU S bx no cs=0:=by simpa using D
 have N:=sf g
 have b7:=N.head
 obtain⟨vL,L,Q,rfl,Z,Y⟩:=h
 have b9:=Z.aq
 refine .kn<|.sr ?_
 refine .sub (H':=[bl b [vL,.int .u64 S.head,.int .u64 S.dM] 49,Q]) (bp.eu (by simp)) ?_
 refine .mo rfl<|.mo rfl<|.nc rfl<|.fa rfl<|.lo rfl ?_
 refine .q (.u64 (S.head+1) .add ⟨rfl,by omega,by omega⟩) ?_
 refine .nc rfl<|.fa rfl<|.dH rfl rfl<|.zs<|.sr<|.az rfl<|.block ?_
 refine .loop (X:=Nat×Value×List bA×aH) (λy=>y.1<=cs.length/\OS 142 9 bA.enc y.2.1 y.2.2.1 y.2.2.2/\fM ⟨(cs.take y.1).foldl (eY (S.head+1)) S.rows,S.head+1,S.dM⟩ y.2.2.1) (λy=>[(0,pT b),(3,.slice pv cs.length kc),(11,iN y.1)]) (λy=>[bl b [y.2.1,.int .u64 (S.head+1),.int .u64 S.dM] 49,y.2.2.2]) (λy=>cs.length-y.1) (0,vL,L,Q) ⟨afp _,Z,⟨Y.pm,Y.st⟩⟩ kE.c.c.c rH ?_
 rintro⟨i,A,O,V⟩ ⟨hi,f,s⟩
 simp only at hi f s⊢
 have b8:=f.aq
 have b6:=s.len (l.fold (N.take i))
 have lc:=e.le
 refine .seq<|.sr<|.mo rfl<|.mo rfl<|.q (.bL e) ?_
 refine .q .lss<|.zn ?_
 refine .cond rfl (λF=>?_) λF=>?_
 have n:i<cs.length:=cF F
 obtain⟨c,m⟩:=cm n
 have c3:=e.pc m
 obtain⟨a,b0⟩:=fM.next l N m s
 refine .kn<|.seq<|.block<|.sr<|.mo rfl<|.mo rfl ?_
 refine .bI i e m (λc0=>?_)
 refine .fa rfl<|.lo rfl<|.zn ?_
 refine .cond rfl (λr=>?_) λr=>?_
 refine .dg [18] mixed ?_
 refine .tO 0 rfl .move<|.tO 1 rfl .move<|.tO 2 rfl (.nilCheck rfl)<|.tO 3 rfl (.fieldAddr rfl)<|.tO 4 rfl (.cO rfl)<|.tO 5 rfl .move<|.tO 6 rfl .move ?_
 refine .tO 7 rfl (.bI i e m rfl rfl rfl) ?_
 refine .tO 8 rfl (.fieldAddr rfl) ?_
 refine .tO 9 rfl (.loadT rfl) ?_
 refine .tO 10 rfl .move<|.tO 11 rfl (.nilCheck rfl)<|.tO 12 rfl (.fieldAddr rfl)<|.tO 13 rfl (.cO rfl) ?_
 refine .tO 14 rfl .da ?_
 refine .sT 15 rfl ?_
 refine .dq (Oe _ O ⟨c.t,S.head+1,0⟩ _ f.rx (by omega)) (λu W M=>?_)
 have iu:=M.aq
 refine .nil (Next.sub ?_)
 refine .tO 16 rfl (.nilCheck rfl)<|.tO 17 rfl (.fieldAddr rfl) ?_
 refine .sT 18 rfl ?_
 refine .dH rfl rfl ?_
 refine .nil (Next.mod rfl ?_)
 refine RA.nil (by kernel_rfl) ?_
 refine bi<|ay<|.region<|.mo rfl ?_
 refine .ia (i+1) .add ?_
 refine .ag rfl<|.nil ?_
 ·first
   |exact aW (i+1,u,_,W) ⟨n,by simp only;exact M,by simp only;unfold nT at a;rw[afn r]at a;exact a⟩ (by simp only;omega) (((kE.d rfl).d rfl).d rfl) (aQ [1,0])
   |exact aW (i+1,A,_,U) ⟨n,by simp only;exact a3,by simp only;rw[a6]at a;exact a⟩ (by simp only;omega) (((kE.d rfl).d rfl).d rfl) (aQ [0,0])
 obtain⟨j,x,w,K,b4,a6⟩:=b0 r
 refine .sr<|.mo rfl<|.mo rfl<|.mo rfl ?_
 refine .bI i e m (λc1=>?_)
 refine .fa rfl<|.q (.loadT rfl) ?_
 refine .aR (DV.find (S:=⟨[],S.head+1,S.dM⟩) ⟨PC.of (E:=49) (fr:=(0,0)) (.inr (by simp)),f.rx⟩ c.t) (λv o=>?_)
 obtain⟨z,rfl,hz⟩:=o
 obtain rfl:z=(j:Int):=by
  rcases hz with⟨k,y,rfl,hy,a5,b3⟩|⟨_,J⟩
  ·rcases Nat.lt_trichotomy k j with h9|h9|h9
   ·rw[b4 k y h9 hy]at a5;cases a5
   ·rw[h9]
   ·rw[b3 j x h9 w]at K;cases K
  ·unfold dw at J
   rw[afK.2 ⟨x,aV w,K⟩]at J
   cases J
 refine .az rfl ?_
 refine .dY 11 mixed (by kernel_rfl) ?_
 conv=>arg 6;dsimp only[List.take]
 refine .mo rfl<|.nc rfl<|.fa rfl<|.lo rfl<|.mo rfl<|.mo rfl ?_
 refine .nc rfl<|.fa rfl<|.lo rfl ?_
 refine .bH j f w (λc2=>?_)
 refine .fa rfl<|.nil ?_
 refine .qh (k:=8) (cs:=[.int .u64 (S.head+1)]) (z':=⟨x.t,x.fr,S.head+1⟩) j f w rfl rfl rfl rfl rfl (by simp[aq]) rfl (by simp) (λU a3=>?_)
 refine .nil<|bi<|ay<|.region<|.mo rfl ?_
 refine .ia (i+1) .add ?_
 refine .ag rfl<|.nil ?_
 ·first
   |exact aW (i+1,u,_,W) ⟨n,by simp only;exact M,by simp only;unfold nT at a;rw[afn r]at a;exact a⟩ (by simp only;omega) (((kE.d rfl).d rfl).d rfl) (aQ [1,0])
   |exact aW (i+1,A,_,U) ⟨n,by simp only;exact a3,by simp only;rw[a6]at a;exact a⟩ (by simp only;omega) (((kE.d rfl).d rfl).d rfl) (aQ [0,0])
 refine .exit<|bz<|bG<|bB<|ay<|.sr<|.mo rfl<|.nc rfl<|.fa rfl<|.lo rfl<|.ag rfl<|.az rfl ?_
 refine .ret (bu _ (.two (.tmp rfl) (.tmp rfl)) ((bp.eu (H':=[(b,.cells [A,.int .u64 (S.head+1),.int .u64 S.dM].toArray 49 (0,0))::V]) (by simp))) ?_)
 ·have b2:i=cs.length:=by have:=bC F;omega
  subst b2
  have b1:=s.write g
  have a7:(hY S bx no cs).head=S.head+1/\(hY S bx no cs).dM=S.dM:=by unfold hY;rw[afn g];exact⟨rfl,rfl⟩
  exact⟨_,rfl,by rw[g];rfl,A,O,V,by rw[a7.1,a7.2],f,b1⟩
structure lF where
 c:bP
 vw:Value
 calls:List fz
def lF.enc(w:lF):List Value:=[w.c.vs,w.c.vc,w.vw]
structure lF.is(R:aw)(w:lF):Prop where
 c:w.c.is R
 rs:RS R 12 fz.enc w.vw w.calls
 all:∀d∈w.calls,d.is R
theorem Qu{S:dd}(d:gn S)(bx no:List aA)(cs:List cD):(hY S bx no cs).rows.length<=S.rows.length+32:=by
 by_cases h:fU S bx no cs=0
 ·rw[Ad d h]
  have b:fJ bx no cs=0:=by
   unfold fU at h
   split at h
   ·rename_i a;exact absurd h a
   ·rename_i a;simpa using a
  have e:cs.length<=32:=by
   unfold fJ at b
   split at b
   ·cases b
   ·omega
  simp only[List.length_append,afo,news]
  have:=afG (λc:cD=>c.put) cs
  omega
 ·rw[qj h];omega
theorem gn.new:gn ⟨[],0,0⟩:=⟨λx a=>(by cases a),List.Pairwise.nil,by simp,Int.le_refl _,Int.le_refl _,by decide⟩
theorem Lk(c:Cf):nG [] 0 c=(c.numbers isWord de).1:=by
 unfold nG
 simp only[List.getLast?_nil,Option.map_none,Option.getD_none,Bool.false_eq_true,if_false,List.length_nil]
 by_cases h:(c.numbers isWord de).1=0
 ·rw[afm (by rw[h];simp),h];rfl
 ·rw[afn h]
def AF(R:aw)(w:lF)(u:Value)(H:aN):Prop:=∃Tc Th Ts Tx hb g x e S,∃c:bP,H=[Tc,Th,Ts,Tx]/\u=.tuple [pT hb,pT g,.agg c.enc.toArray,pT x,.bool true].toArray/\
 c.is (λb o=>R b o\/(b,o)∈Tc)/\c.plain=iC w.c.plain/\((iC w.c.plain).numbers isWord de).1=0/\ek.rev e=0/\(ek.c e).plain=iC w.c.plain/\HI hb [e] 0 Th/\SI g S Ts/\gn S/\DO x S Tx/\S.rows.length<=512
theorem Mw(w:lF)(R:aw)(h:w.is R):Spec prog 4 [.agg w.enc.toArray] R [] λu H'=>AF R w u H'\/
  ∃T c,∃x:Nat,H'=[T]/\u=.tuple [.pointer none,.pointer none,.agg (bP.enc c).toArray,pT x,.bool false].toArray/\c.is (λb o=>R b o\/(b,o)∈T)/\c.plain=iC w.c.plain/\((iC w.c.plain).numbers isWord de).1≠0:=by
 obtain⟨c,vw,a6⟩:=w
 have K:=h.c
 have N:=h.rs
 have a3:=h.all
 simp only at K N a3⊢
 have i1:One c.vs:=RS.aq K.ss
 have i2:One c.vc:=RS.aq K.sc
 have i3:=N.aq
 have a9:=Lk (iC c.plain)
 refine Spec.body func4 rfl results4 ntmps4 rfl ?_
 refine .sr ?_
 refine .cj rfl (λb1=>?_)
 refine .ag rfl<|.ag rfl ?_
 refine .bV (λb4=>?_)
 refine .ag rfl<|.ag rfl<|.z<|.fa rfl<|.q (.loadT rfl) ?_
 refine .dq ((KX c R K).weaken cZ) (λu Tc a=>?_)
 obtain⟨r,rfl,v,L⟩:=a
 have ic:bZ r.enc:=⟨v.cN⟩
 have c7:One r.vs:=RS.aq v.ss
 have c8:One r.vc:=RS.aq v.sc
 refine .bV (λb7=>?_)
 refine .bN rfl rfl<|.z<|.q (.aP rfl) ?_
 refine .dq ((Ox r _ v).weaken λb o j=>j.elim .inl λj=>.inr (by simp[j])) (λu Tn a=>?_)
 obtain⟨wn,d3,rfl,a8,c4⟩:=a
 rw[L]
 have c9:One wn:=a8.rs.aq
 refine .mo rfl<|.q .extract<|.q .extract<|.ag rfl<|.ag rfl<|.z ?_
 refine .dq (Lo _) (λu Th a=>?_)
 obtain⟨j,rfl,hH⟩:=a
 refine .dq (PA _) (λu C a=>?_)
 obtain⟨g,rfl,s⟩:=a
 refine .q .da ?_
 refine .cj rfl (λI=>?_)
 refine .ag rfl<|.ag rfl<|.ag rfl<|.zs<|.sr<|.mo rfl<|.q .eT<|.mo rfl ?_
 refine .split (t:=29) rfl (λk=>?_) (λk=>?_)
 have b9:((iC c.plain).numbers isWord de).1≠0:=by simpa using k
 refine .gF k<|.gF k<|.gF k<|.gF k<|.q (.aZ k) ?_
 refine .zn<|.eQ<|.seq<|.dg [4] mixed ?_
 refine .tO 0 rfl (.aP rfl)<|.tK 1 rfl .move<|.tO 2 rfl .assign<|.tO 3 rfl .assign ?_
 refine .sT 4 rfl ?_
 refine .bN rfl rfl ?_
 refine .nil (Next.mod rfl ?_)
 refine .tK 5 rfl .assign<|.tK 6 rfl .assign ?_
 refine RA.nil (by kernel_rfl) ?_
 refine ay ?_
 refine .ret (aI (bu _ (.tn (.tmp rfl) (.tmp rfl) (.ei rfl rfl) (.tmp rfl) (.tmp rfl)) (.one [5] _) ?_))
 ·exact .inr ⟨_,r,_,rfl,rfl,v.mono λb o j=>j.elim .inl λj=>.inr (by simp[take,bK,j]),L,b9⟩
 have O:((iC c.plain).numbers isWord de).1=0:=by simpa using k
 refine .gT k<|.mo rfl<|.gT k<|.q (.aP rfl)<|.gT k ?_
 refine .Bi (Lj j [] 0 Th hH (by simp) 0 r _ (v.mono λb o j=>j.elim .inl λj=>.inr (by simp[j]))) (λu a5 a=>?_)
 rw[L,a9]at a
 obtain⟨rfl,a7,c0⟩:=a
 refine .gT k<|.q .eT<|.q (.aX k) ?_
 refine .zn ?_
 refine .cond rfl (λM=>?_) λM=>?_
 refine .seq<|.dg [4] mixed ?_
 refine .tO 0 rfl (.aP rfl)<|.tK 1 rfl .move<|.tO 2 rfl .assign<|.tO 3 rfl .assign ?_
 refine .sT 4 rfl ?_
 refine .bN rfl rfl ?_
 refine .nil (Next.mod rfl ?_)
 refine .tK 5 rfl .assign<|.tK 6 rfl .assign ?_
 refine RA.nil (by kernel_rfl) ?_
 refine ay ?_
 refine .ret (aI (bu _ (.tn (.tmp rfl) (.tmp rfl) (.ei rfl rfl) (.tmp rfl) (.tmp rfl)) (.one [5] _) ?_))
 ·exfalso
  rw[O]at M
  simp at M
 obtain⟨e,b6,b5,a1⟩:=a7 O
 rw[afr]at a1
 refine .kn<|.sr<|.fa rfl<|.lo rfl ?_
 refine .dq (KW _ a6 16 (by omega) _ R N.rx a3) (λu a4 a=>?_)
 obtain⟨J,l,b3,b2⟩:=a
 have c6:=l.aq
 have c3:J.length<=16:=by rw[b2];exact Nat.min_le_right _ _
 refine .ag rfl<|.zs<|.sr<|.az rfl<|.block ?_
 refine .cL [(4,_),(7,_),(10,_),(11,_),(12,_),(13,_)] (X:=Nat×dd×aH×aH) (λy=>y.1<=J.length/\SI g y.2.1 y.2.2.1/\gn y.2.1/\DO I y.2.1 y.2.2.2/\y.2.1.rows.length<=32*y.1) (λy E=>(14,iN y.1)::E) (λy G=>a4::y.2.2.2::y.2.2.1::G) (λy=>J.length-y.1) (0,⟨[],0,0⟩,C,bl I [sZ,.int .u64 0,.int .u64 0] 49) ⟨afp _,s,gn.new,⟨_,[],[],rfl,OS.nil,fM.new⟩,by simp⟩ kE.c.c.c.c.c.c.c rH ?_
 rintro⟨i,S,C,H⟩ ⟨hi,s,m,D,b8⟩
 simp only at hi s m D b8⊢
 refine .seq<|.sr<|.mo rfl<|.mo rfl<|.q (.fD l) ?_
 refine .q .lss<|.zn ?_
 refine .cond rfl (λZ=>?_) λZ=>?_
 have F:i<J.length:=cF Z
 obtain⟨d,p⟩:=cm F
 obtain⟨f,c1,c2,b0⟩:=b3 d (aV p)
 obtain⟨dk,U,V,Q,df,dr,A,B,n⟩:=d
 have c5:=Qu m A B n
 have d0:One U:=RS.aq f.hm
 have d1:One V:=RS.aq f.hn
 have d2:One Q:=RS.aq f.hc
 refine .kn<|.seq<|.block<|.sr<|.mo rfl<|.mo rfl ?_
 refine .bH i l p (λd4=>?_)
 refine .fa rfl<|.lo rfl<|.q .bw<|.zn ?_
 refine .cond rfl (λh3=>?_) λh3=>?_
 refine .seq ?_
 refine .dY 16 mixed (by kernel_rfl) ?_
 conv=>arg 6;dsimp only[List.take]
 refine .mo rfl<|.mo rfl<|.mo rfl ?_
 refine .bH i l p (λd5=>?_)
 refine .fa rfl<|.lo rfl<|.mo rfl<|.mo rfl ?_
 refine .bH i l p (λd6=>?_)
 refine .fa rfl<|.lo rfl<|.mo rfl<|.mo rfl ?_
 refine .bH i l p (λd7=>?_)
 refine .fa rfl<|.lo rfl<|.nil ?_
 refine .cr (PP g S C s m U V Q A B n _ f.hm f.hn f.hc f.fm f.fn f.fc) (λu W a=>?_)
 obtain⟨rfl,a2⟩:=a
 refine .zn ?_
 refine .dY 16 mixed (by kernel_rfl) ?_
 conv=>arg 6;dsimp only[List.take]
 refine .mo rfl<|.mo rfl<|.mo rfl ?_
 refine .bH i l p (λd8=>?_)
 refine .fa rfl<|.lo rfl<|.mo rfl<|.mo rfl ?_
 refine .bH i l p (λd9=>?_)
 refine .fa rfl<|.lo rfl<|.mo rfl<|.mo rfl ?_
 refine .bH i l p (λe0=>?_)
 refine .fa rfl<|.lo rfl<|.nil ?_
 refine .cr (OU I S H D m U V Q A B n _ f.hm f.hn f.hc f.fm f.fn f.fc (by have h9:n.length<=34:=b0;omega)) (λu Y a=>?_)
 obtain⟨rfl,a0⟩:=a
 refine .nil<|bi<|ay<|.region<|.mo rfl ?_
 refine .ia (i+1) .add ?_
 refine .ag rfl<|.nil ?_
 ·first
   |exact aW (i+1,hY S A B n,W,Y) ⟨F,a2,m.write A B n,a0,by simp only;omega⟩ (by simp only;omega) kE.c.c.c.c.c.c.c rH
   |exact aW (i+1,S,C,H) ⟨F,s,m,D,by simp only;omega⟩ (by simp only;omega) kE.c.c.c.c.c.c.c rH
 refine .skip<|bi<|ay<|.region<|.mo rfl ?_
 refine .ia (i+1) .add ?_
 refine .ag rfl<|.nil ?_
 ·first
   |exact aW (i+1,hY S A B n,W,Y) ⟨F,a2,m.write A B n,a0,by simp only;omega⟩ (by simp only;omega) kE.c.c.c.c.c.c.c rH
   |exact aW (i+1,S,C,H) ⟨F,s,m,D,by simp only;omega⟩ (by simp only;omega) kE.c.c.c.c.c.c.c rH
 refine .exit<|bz<|bG<|bB<|ay<|.seq<|.dg [6] mixed ?_
 refine .tO 0 rfl .move<|.tO 1 rfl .move<|.tO 2 rfl (.aP rfl)<|.tK 3 rfl .move<|.tO 4 rfl .assign<|.tO 5 rfl .assign ?_
 refine .sT 6 rfl ?_
 refine .bN rfl rfl ?_
 refine .nil (Next.mod rfl ?_)
 refine .tK 7 rfl .assign<|.tK 8 rfl .assign ?_
 refine RA.nil (by kernel_rfl) ?_
 refine ay ?_
 refine .ret (bu _ (.tn (.tmp rfl) (.tmp rfl) (.ei rfl rfl) (.tmp rfl) (.tmp rfl)) (aQ [6,3,2,1]) ?_)
 ·exact .inl ⟨Tc,a5,C,H,j,g,I,e,S,r,rfl,rfl,v,L,O,b6,b5,a1,s,m,D,by omega⟩
abbrev kC(n:Nat):Value:=iN n
def lW(c:Cf)(num:List Nat):List (Ty×Nat):=(c.all.map eg).zip num
theorem Nb(c:Cf)(num:List Nat)(a:num.length=c.all.length)(t:Ty):(db t (lW c num)).getD 0=match bX c.all t with|none=>0|some i=>num.getD i 0:=by
 unfold lW bX
 generalize c.all=A at *
 induction A generalizing num with
 |nil=>simp[db]
 |cons x A ih=>
  cases num with
  |nil=>simp at a
  |cons n num=>
   have:=ih num (by simpa using a)
   rw[afM,List.zip_cons_cons,db,af4]
   by_cases e:t=eg x
   ·subst e;simp
   ·rw[afm e,this]
    have b:decide (eg x=t)=false:=afR λh=>e h.symm
    rw[b]
    cases List.findIdx? (λx=>decide (eg x=t)) A with
    |none=>rfl
    |some i=>rfl
theorem uf(c:bP)(R:aw)(h:c.is R)(hu:c.plain.dZ)(w:Value)(N:List iA)(num:List Nat)(U:NN R w N)(a9:N.map (·.2)=rows c.plain.bd num)(W:num.length=c.plain.all.length):
  Spec prog 56 [.agg c.enc.toArray,w] R [] λu H'=>∃T,H'=[T]/\MS lT kC u (lW c.plain num) T:=by
 have o:=h.ss
 have i1:=o.aq
 have i2:One c.vc:=RS.aq h.sc
 have c2:=o.le
 have a5:=h.all
 have a0:=U.rs
 have iw:=a0.aq
 have b0:=U.all
 have b6:=oX c.plain
 have b5:c.plain.bd.length=c.bd.length:=by unfold bP.plain;simp
 have a2:∀(i:Nat) (s:cC),c.bd[i]? =some s->c.plain.bd[i]? =some s.plain:=λi s f=>oH f
 have b8:=λ(p:fW) (s:cC) (r:cv)=>oE (c:=c) (p:=p) (s:=s) (r:=r)
 have a7:∀i k,c.ix (i,k)=cM c.plain.bd i+k:=λ_ _=>rfl
 have c0:(c.plain.all.map eg).Nodup:=hu.2.1
 have I:lW c.plain num=(c.plain.all.map eg).zip num:=rfl
 generalize hA:c.plain.all=A at *
 generalize hQ:lW c.plain num=Q at *
 have a4:Q.length=A.length:=by rw[I];simp[W]
 have a3:Q.map (·.1)=A.map eg:=by rw[I];exact List.map_fst_zip (by simp[W])
 have b4:∀i s,c.bd[i]? =some s->∃v,N[i]? =some (v,(num.drop (cM c.plain.bd i)).take s.bU.length):=λi s f=>by
  have g:=qb (n:=num) (a2 i s f)
  rw[<-a9,afz,show s.plain.bU.length=s.bU.length by simp[cC.plain]]at g
  obtain⟨⟨v,r⟩,j,O⟩:=Option.map_eq_some_iff.1 g
  exact⟨v,by rw[j];simp only at O;rw[O]⟩
 generalize C:cM c.plain.bd=of at *
 have b1:of 0=0:=by rw[<-C];cases c.plain.bd<;>rfl
 refine Spec.body func56 rfl results56 ntmps56 rfl ?_
 refine .sr ?_
 refine .cj rfl (λb2=>?_)
 refine .ag rfl<|.z ?_
 refine .makeMap (λB=>?_)
 refine .ag rfl<|.zs<|.sr<|.fa rfl<|.lo rfl<|.q (.bL o) ?_
 refine .mo rfl<|.zn<|.block ?_
 refine .cL [(1,_),(5,_),(12,_),(13,_)] (X:=Nat×aH) (λy=>y.1<=c.bd.length/\MS lT kC (.map (some B)) (Q.take (of y.1)) y.2) (λy E=>(14,iN y.1)::E) (λy G=>y.2::G) (λy=>c.bd.length-y.1) (0,[(B,.map #[] 0)]) ⟨afp _,by rw[b1];exact MS.nil⟩ kE.c.c.c.c.c rH ?_
 rintro⟨i,T⟩ ⟨hi,b⟩
 simp only at hi b⊢
 refine .sr<|.q .lss<|.zs ?_
 refine .cond rfl (λg=>?_) λg=>?_
 have Y:i<c.bd.length:=cF g
 obtain⟨⟨l,x,a⟩,f⟩:=cm Y
 have M:=a5 _ (aV f)
 have m:RS R 3 cv.enc x a:=M.rs
 have c6:=m.aq
 have c3:=m.le
 have c8:bZ (cC.enc ⟨l,x,a⟩):=⟨M.cN⟩
 have a1:=oF (a2 i _ f)
 rw[C,show(cC.plain ⟨l,x,a⟩).bU.length=a.length by simp[cC.plain]]at a1
 obtain⟨vr,H⟩:=b4 i _ f
 simp only at H
 have L:=b0 _ (aV H)
 simp only at L
 have c9:One vr:=L.aq
 refine .kn<|.seq<|.block<|.sr<|.mo rfl ?_
 refine .bI i o f (λd0=>?_)
 refine .q (.aP rfl) ?_
 refine .bV (λb7=>?_)
 refine .ag rfl<|.bN rfl rfl<|.z<|.fa rfl<|.lo rfl<|.q (.bL m) ?_
 refine .mo rfl<|.zn<|.block ?_
 refine .cL [(1,_),(5,_),(6,_),(7,_),(12,_),(13,_),(14,_),(20,_),(21,_)] (X:=Nat×aH) (λy=>y.1<=a.length/\MS lT kC (.map (some B)) (Q.take (of i+y.1)) y.2) (λy E=>(22,iN y.1)::E) (G:=[bl b2 c.enc 25]) (λy G=>bl b7 (cC.enc ⟨l,x,a⟩) 101::y.2::G) (λy=>a.length-y.1) (0,T) ⟨afp _,b⟩ kE.c.c.c.c.c.c.c.c.c.c rH ?_
 rintro⟨k,T⟩ ⟨hk,b⟩
 simp only at hk b⊢
 refine .sr<|.q .lss<|.zs ?_
 refine .cond rfl (λj=>?_) λj=>?_
 have F:k<a.length:=cF j
 obtain⟨⟨vt,vn,r⟩,J⟩:=cm F
 have K:=M.all _ (aV J)
 have c7:One vt:=RS.aq K.t
 have c5:One vn:=RS.aq K.d
 have c4:bZ (cv.enc ⟨vt,vn,r⟩):=⟨K.cN⟩
 have D:=b8 (i,k) _ _ f J
 rw[a7]at D
 have c1:of i+k<A.length:=(afJ.1 D).1
 obtain⟨n,Z⟩:∃n,num[of i+k]? =some n:=⟨_,bE (by omega)⟩
 have b3:((num.drop (of i)).take a.length)[k]? =some n:=by rw[List.getElem?_take_of_lt F,List.getElem?_drop];exact Z
 have V:Q[of i+k]? =some (⟨l,r.name⟩,n):=by
  rw[I,List.getElem?_zip_eq_some]
  exact⟨by rw[afz,D];rfl,Z⟩
 refine .kn<|.seq<|.block<|.sr<|.mo rfl ?_
 refine .bI k m J (λd1=>?_)
 refine .q (.aP rfl) ?_
 refine .bV (λb9=>?_)
 refine .ag rfl<|.bN rfl rfl<|.zn ?_
 refine .dY 13 mixed (by kernel_rfl) ?_
 conv=>arg 6;dsimp only[List.take]
 refine .mo rfl<|.fa rfl<|.lo rfl<|.fa rfl<|.lo rfl ?_
 refine .q .da ?_
 refine .mo rfl<|.mo rfl ?_
 refine .bI i a0 H (λd2=>?_)
 refine .lo rfl<|.mo rfl ?_
 refine .bI k L b3 (λd3=>?_)
 refine .lo rfl<|.nil ?_
 refine .update (key:=(⟨l,r.name⟩:Ty)) (u:=n) b rfl rfl rfl (λT2 S _=>?_)
 rw[mB (λhm=>by
  obtain⟨q,hq,e⟩:=afT.1 hm
  rw[afo,afv]at hq
  rw[af3,List.getElem_take]at e
  have g:(Q.map (·.1))[of i+k]? =some ⟨l,r.name⟩:=by rw[afz,V];rfl
  have j:(Q.map (·.1))[q]? =some ⟨l,r.name⟩:=by rw[afz,bE (by omega),afW,e]
  exact mD (show q<of i+k by omega) g j rfl (by rw[a3];exact c0)), <-er V]at S
 refine .nil<|bi<|ay<|.region ?_
 refine .ia (k+1) .add ?_
 refine .mo rfl<|.nil ?_
 ·exact aW (k+1,T2) ⟨F,S⟩ (by simp only;omega) kE.c.c.c.c.c.c.c.c.c.c (aQ [1,1,1])
 have a8:k=a.length:=by have:=bC j;omega
 rw[a8, <-a1]at b
 refine .exit<|bz<|bG<|bB<|bi<|ay<|.region ?_
 refine .ia (i+1) .add ?_
 refine .mo rfl<|.nil ?_
 ·exact aW (i+1,T) ⟨Y,b⟩ (by simp only;omega) kE.c.c.c.c.c (aQ [1,1])
 refine .exit<|bz<|bG<|bB<|ay<|.sr<|.mo rfl<|.az rfl ?_
 refine .ret (bu _ (.one (.tmp rfl)) (.one [0] _) ?_)
 ·refine⟨_,rfl,?_⟩
  have a6:i=c.bd.length:=by have:=bC g;omega
  have:of i=Q.length:=by
   rw[a6,a4, <-b5, <-C];exact b6
  rw[this,afC]at b
  simpa[take]using b
structure bh where
 k:bc
 found:Bool
 vn:Value
 nodes:List Nd
 vu:Value
 gk:List ByteArray
 vl:Value
 ll:List iA
 number:Nat
def bh.enc(p:bh):List Value:=[.string p.k.os,.string p.k.oi,.string p.k.rel,.bool p.found,p.vn,p.vu,p.vl,iN p.number]
def bh.plain(p:bh):cB:=⟨p.k,p.found,p.nodes,p.number,p.gk,p.ll.map (·.2)⟩
structure bh.is(R:aw)(p:bh):Prop where
 n:RS R 5 Nd.enc p.vn p.nodes
 u:RS R 1 dV p.vu p.gk
 l:NN R p.vl p.ll
theorem bh.is.mono{R R':aw}{p:bh}(h:p.is R)(a:∀b o,R b o->R' b o):p.is R':=⟨h.n.mono a,h.u.mono a,h.l.mono a⟩
theorem bh.is.cN{R:aw}{p:bh}(h:p.is R):∀u∈p.enc,aq u=true:=by
 have b:=h.n.aq
 have c:=h.u.aq
 have d:=h.l.rs.aq
 intro u a
 simp only[bh.enc,afx,afA,afB]at a
 rcases a with rfl|rfl|rfl|rfl|rfl|rfl|rfl|rfl
 ·rfl
 ·rfl
 ·rfl
 ·rfl
 ·exact b.h
 ·exact c.h
 ·exact d.h
 ·rfl
instance bc.QJ:fq prog 227 (λk:bc=>.agg k.enc.toArray):=fq.agg wX underlying227 rfl bc.kinds bc.eq
abbrev x9(k:bc):Value:=.agg k.enc.toArray
structure XC where
 c:bP
 num:List Nat
 vn:Value
 g:Nat
 S:dd
 L:List bA
 rev:Int
 b:Int
def XC.sub(x:XC)(k:bc):List Sub:=if scan x.S x.rev then(x.L.filter λy=>y.there x.rev&&decide (y.t.dc=k)).map (·.t.sub)else []
structure XC.ok(R:aw)(x:XC):Prop where
 c:x.c.is R
 n:RM R lT kC x.vn (lW x.c.plain x.num)
 nl:x.num.length=x.c.plain.all.length
 s:∃ps vf vr Mf Mr,SV R x.g x.S ps vf vr Mf Mr
 l:fM x.S x.L
 len:x.S.rows.length<=1000
theorem XC.ok.mono{R R':aw}{x:XC}(h:x.ok R)(a:∀b o,R b o->R' b o):x.ok R':=⟨h.c.mono a,h.n.mono a,h.nl,let ⟨ps,vf,vr,Mf,Mr,h1⟩:=h.s;⟨ps,vf,vr,Mf,Mr,h1.mono a⟩,h.l,h.len⟩
def XC.cells(x:XC)(va vp:Value)(e:Nat):List Value:=[x.c.vs,x.c.vc,x.vn,.pointer (some ⟨x.g,0,none⟩),.int .u64 x.rev,va,vp,iN e,.int .i64 x.b]
abbrev XC.iB(x:XC)(xb:Nat)(va vp:Value)(e:Nat):aH:=(bl xb (x.cells va vp e) 160)
def iL(ps:List bh)(va:Value)(T:aH):Prop:=∃M,MS x9 kC va M T/\∀k,db k M=hK (ps.map bh.plain) k
theorem Nw(x:XC)(R:aw)(h:x.ok R)(xb:Nat)(va d:Value)(e:Nat)(ps:List bh) [o:One va] [pc:PC R (pT xb) (x.cells va d e)](a:RS R 8 bh.enc d ps)(g:e<=1000000000000)(f:0<=x.b/\x.b<=9223372036854775807):
  Spec prog 59 [pT xb] R [] λu H'=>u=.bool (decide (x.b<(ps.length+e:Nat)))/\H'=[]:=by
 have j:One x.c.vs:=RS.aq h.c.ss
 have k:One x.c.vc:=RS.aq h.c.sc
 have l:=h.n.one
 have m:=a.aq
 have i:=a.le
 refine Spec.body func59 rfl results59 ntmps59 rfl ?_
 refine .sr<|.ag rfl<|.zs ?_
 refine .eo mixed (by kernel_rfl) ?_
 refine .mo rfl<|.nc rfl<|.fa rfl<|.fa rfl<|.lo rfl<|.q (.bL a) ?_
 refine .mo rfl<|.nc rfl<|.fa rfl<|.lo rfl<|.mo rfl ?_
 refine .nc rfl<|.fa rfl<|.fa rfl<|.lo rfl ?_
 refine .q (.i64 (x.b-e) .sub ⟨by omega,by omega,by omega⟩) ?_
 refine .q .gtr<|.az rfl ?_
 refine .ret (aM rfl ?_)
 ·refine⟨afq _ ?_,rfl⟩
  rw[decide_eq_decide]
  omega
theorem NK{ps:List cB}{p:cB}(h:hK ps p.k=none)(k:bc):hK (ps++[p]) k=if k=p.k then some ps.length else hK ps k:=by
 unfold hK at h⊢
 rw[List.findIdx?_append]
 by_cases e:k=p.k
 ·subst e
  rw[h,afn rfl]
  simp[af4]
 ·rw[afm e]
  have a:decide (p.k=k)=false:=afR λh=>e h.symm
  simp[af4,a]
theorem iL.add{ps:List bh}{p:bh}{va:Value}{T:aH}{M:List (bc×Nat)}(b:MS x9 kC va (dD p.k ps.length M) T)(a:∀k,db k M=hK (ps.map bh.plain) k)(h:hK (ps.map bh.plain) p.k=none):iL (ps++[p]) va T:=
 ⟨_,b,λk=>by
  rw[nR,a,afs,afM,afN,NK h]
  rw[afo]
  rfl⟩
def vi(x:XC)(R:aw)(xb:Nat)(ps:List bh)(e:Nat)(va:Value)(k:bc)(u:Value)(H':aN):Prop:=∃ps' vp Ta To,H'=[x.iB xb va vp e,Ta,To]/\u=.int .i64 ((ff x.c.plain x.num (ps.map bh.plain) k).2:Nat)/\ps'.map bh.plain=(ff x.c.plain x.num (ps.map bh.plain) k).1/\iL ps' va Ta/\OS 77 8 bh.enc vp ps' To/\∃l,ps'=ps++l/\∀p∈l,p.is R
theorem zb(x:XC)(R:aw)(h:x.ok R)(xb:Nat)(ps:List bh)(e:Nat)(va t:Value)(g m:aH)(hA:iL ps va g)(G:OS 77 8 bh.enc t ps m)(hl:ps.length<=3000000)(k:bc):
  Spec prog 58 [pT xb,.agg [.string k.os,.string k.oi].toArray,.string k.rel] R [x.iB xb va t e,g,m] (vi x R xb ps e va k):=by
 have U:∀u D,vi x R xb ps e va k u D↔∃ps' t g m,D=[x.iB xb va t e,g,m]/\u=.int .i64 ((ff x.c.plain x.num (ps.map bh.plain) k).2:Nat)/\ps'.map bh.plain=(ff x.c.plain x.num (ps.map bh.plain) k).1/\iL ps' va g/\OS 77 8 bh.enc t ps' m/\∃l,ps'=ps++l/\∀p∈l,p.is R:=λ_ _=>Iff.rfl
 have a1:=zS x.c R h.c k.os k.rel
 have i1:One x.c.vs:=RS.aq h.c.ss
 have i2:One x.c.vc:=RS.aq h.c.sc
 have i3:=h.n.one
 have hn:=h.n
 have a8:=Nb x.c.plain x.num h.nl
 obtain⟨M,F,L⟩:=hA
 have iv:=F.one
 have ip:=G.aq
 have a5:∀i,hK (ps.map bh.plain) k=some i->ff x.c.plain x.num (ps.map bh.plain) k=(ps.map bh.plain,i):=λi O=>by unfold ff;rw[O]
 have a6:hK (ps.map bh.plain) k=none->ff x.c.plain x.num (ps.map bh.plain) k=(ps.map bh.plain++[one x.c.plain x.num k],ps.length):=λO=>by unfold ff;rw[O];simp
 have a4:=λ(p:bh) (T:aH)=>iL.add (ps:=ps) (p:=p) (va:=va) (T:=T) (M:=M)
 have b1:one x.c.plain x.num k=match bX x.c.plain.all ⟨k.os,k.rel⟩with
  |none=>⟨k,false,[],0,[],[]⟩
  |some i=>⟨k,true,(x.c.plain.all.map (·.2.nodes)).getD i [],x.num.getD i 0,[],[]⟩:=rfl
 have N:=h.c.all
 have b5:=λ(p:fW) (s:cC) (r:cv)=>oE (c:=x.c) (p:=p) (s:=s) (r:=r)
 obtain⟨i0,ok,b3,Z⟩:∃(i:Nat) (ok:Bool),[((db k M).map kC).getD (kC 0),Value.bool (db k M).isSome]=[kC i,.bool ok]/\hK (ps.map bh.plain) k=if ok then some i else none:=by
  rw[L k]
  cases hK (ps.map bh.plain) k with
  |none=>exact⟨0,false,rfl,rfl⟩
  |some i=>exact⟨i,true,rfl,rfl⟩
 refine Spec.body func58 rfl results58 ntmps58 rfl ?_
 refine .sr ?_
 refine .cj rfl (λb4=>?_)
 refine .ag rfl<|.z<|.q (.aP rfl)<|.mo rfl ?_
 refine .q .da ?_
 refine .bV (λb7=>?_)
 refine .bN rfl rfl<|.zs<|.seq ?_
 refine .eo mixed (by kernel_rfl) ?_
 refine .mo rfl<|.nc rfl<|.fa rfl<|.lo rfl<|.q (.aP rfl) ?_
 refine .q (.cast (.oz F.rx rfl rfl) (afq (λl:List Value=>Value.tuple l.toArray) b3)) ?_
 refine .mo rfl<|.q .extract<|.q .extract<|.ag rfl<|.ag rfl<|.z<|.mo rfl<|.zn ?_
 refine .cond rfl (λK=>?_) λK=>?_
 have b2:ok=true:=K
 subst b2
 have V:=a5 i0 Z
 refine .sr<|.mo rfl<|.az rfl ?_
 refine .ret (aI (bu _ (.one (.tmp rfl)) (aQ [2,2,2]) ?_))
 ·refine(U _ _).2 ⟨ps,t,g,m,?_,?_,?_,⟨M,F,L⟩,G,[],by simp,λp I=>(by cases I)⟩
  ·simp[take,bK]
  ·rw[V]
  ·rw[V]
 have b0:ok=false:=K
 subst b0
 have Y:hK (ps.map bh.plain) k=none:=Z
 have W:=a6 Y
 refine .kn<|.seq ?_
 refine bF.dt [(0,_),(2,_),(4,_),(7,_)] kE.c.c.c.c (X:=Nat×cv×Bool) (λy=>mM x.c ⟨k.os,k.rel⟩ y.2.1 y.2.2/\bZ y.2.1.enc) (λy E=>(10,.pointer (some ⟨y.1,0,none⟩))::(11,.bool y.2.2)::E) (λy=>[[(y.1,.cells y.2.1.enc.toArray 104 (0,0))],bl b7 k.enc 227,bl b4 [.string k.os,.string k.oi] 30,x.iB xb va t e,g,m]) ?_ ?_
 refine .dg [12] mixed ?_
 refine .tO 0 rfl .move<|.tO 1 rfl (.nilCheck rfl)<|.tO 2 rfl (.fieldAddr rfl) ?_
 refine .tO 3 rfl (.loadT rfl) ?_
 refine .tO 4 rfl (.fieldAddr rfl)<|.tO 5 rfl (.cO rfl)<|.tO 6 rfl .move ?_
 refine RA.kR 7 11 rfl rfl (by kernel_rfl) rfl ?_ ?_
 refine .aR ((a1.mono λu D f=>⟨f.2,f.1⟩).weaken cZ) (λu f=>?_)
 obtain⟨r,v,rfl,a⟩:=f
 have B:bZ r.enc:=by
  unfold mM at a
  cases hf:bX x.c.plain.all ⟨k.os,k.rel⟩with
  |none=>rw[hf]at a;obtain⟨_,rfl⟩:=a;exact⟨by simp[cv.enc,cv.zero,aq]⟩
  |some j=>rw[hf]at a;obtain⟨_,p,s,A,w,Q⟩:=a;exact⟨((N _ (aV A)).all _ (aV w)).cN⟩
 refine .nil (Next.sub ?_)
 refine .tO 8 rfl .move<|.tO 9 rfl .extract<|.tK 10 rfl .extract ?_
 refine .sT 11 rfl ?_
 refine .bV (λJ=>?_)
 refine .nil (Next.sub ?_)
 refine .sT 12 rfl ?_
 refine .bN rfl rfl ?_
 refine .nil (Next.mod rfl ?_)
 refine .tK 13 rfl .assign ?_
 refine RA.nil (by kernel_rfl) ?_
 ·exact aG (J,r,v) ⟨a,B⟩ kE.c.c.c.c.c.c rH
 refine .bV (λJ=>?_)
 refine .nil (Next.sub ?_)
 refine .sT 7 rfl ?_
 refine .aR ((a1.mono λu D f=>⟨f.2,f.1⟩).weaken cZ) (λu f=>?_)
 obtain⟨r,v,rfl,a⟩:=f
 have B:bZ r.enc:=by
  unfold mM at a
  cases hf:bX x.c.plain.all ⟨k.os,k.rel⟩with
  |none=>rw[hf]at a;obtain⟨_,rfl⟩:=a;exact⟨by simp[cv.enc,cv.zero,aq]⟩
  |some j=>rw[hf]at a;obtain⟨_,p,s,A,w,Q⟩:=a;exact⟨((N _ (aV A)).all _ (aV w)).cN⟩
 refine .nil (Next.sub ?_)
 refine .tO 8 rfl .move<|.tO 9 rfl .extract<|.tK 10 rfl .extract ?_
 refine .sT 12 rfl ?_
 refine .bN rfl rfl ?_
 refine .nil (Next.mod rfl ?_)
 refine .tK 13 rfl .assign ?_
 refine RA.nil (by kernel_rfl) ?_
 ·exact aG (J,r,v) ⟨a,B⟩ kE.c.c.c.c.c.c rH
 intro y hy
 obtain⟨bb,r,v⟩:=y
 obtain⟨a,B⟩:=hy
 simp only at a B⊢
 obtain⟨C,a9,a7⟩:∃C,(db (⟨k.os,k.rel⟩:Ty) (lW x.c.plain x.num)).getD 0=C/\((db (⟨k.os,k.rel⟩:Ty) (lW x.c.plain x.num)).map kC).getD (kC 0)=kC C:=by
  cases db (⟨k.os,k.rel⟩:Ty) (lW x.c.plain x.num)with
  |none=>exact⟨0,rfl,rfl⟩
  |some i=>exact⟨i,rfl,rfl⟩
 obtain⟨a0,H⟩:one x.c.plain x.num k=⟨k,v,r.r.nodes,C,[],[]⟩/\RS R 5 Nd.enc r.vn r.r.nodes:=by
  rw[b1, <-a9,a8]
  unfold mM at a
  cases hf:bX x.c.plain.all ⟨k.os,k.rel⟩with
  |none=>rw[hf]at a;obtain⟨rfl,rfl⟩:=a;exact⟨rfl,RS.fH⟩
  |some j=>
   rw[hf]at a
   obtain⟨rfl,p,s,A,w,Q⟩:=a
   refine⟨?_,((N _ (aV A)).all _ (aV w)).d⟩
   have:=b5 p s r A w
   rw[Q]at this
   simp only[afU,afz,this]
   rfl
 obtain⟨vt,vd,r⟩:=r
 simp only at a0 H
 have b8:One vd:=H.aq
 obtain⟨pd,cd,rfl⟩:=H.val
 refine ay<|.seq ?_
 refine .dY 11 mixed (by kernel_rfl) ?_
 conv=>arg 6;dsimp only[List.take]
 refine .mo rfl<|.nc rfl<|.fa rfl<|.lo rfl<|.q (.aP rfl)<|.mo rfl ?_
 refine .nc rfl<|.fa rfl<|.fa rfl<|.lo rfl<|.q (.fD G) ?_
 refine .nil ?_
 refine .update (key:=k) (u:=ps.length) F rfl rfl rfl (λa3 S _=>?_)
 refine .zs<|.dg [22,26] mixed ?_
 refine .tK 0 rfl .move<|.tO 1 rfl .move<|.tO 2 rfl (.nilCheck rfl)<|.tO 3 rfl (.fieldAddr rfl)<|.tO 4 rfl (.fieldAddr rfl)<|.tO 5 rfl (.cO rfl)<|.tO 6 rfl (.aP rfl)<|.tO 7 rfl .move<|.tO 8 rfl .move<|.tO 9 rfl (.fieldAddr rfl)<|.tO 10 rfl (.cO rfl)<|.tO 11 rfl .move<|.tO 12 rfl (.nilCheck rfl)<|.tO 13 rfl (.fieldAddr rfl)<|.tO 14 rfl (.cO rfl)<|.tO 15 rfl (.fieldAddr rfl)<|.tO 16 rfl (.cO rfl)<|.tO 17 rfl .move ?_
 refine .tO 18 rfl .da ?_
 refine .hZ 19 rfl (.m3 (hn.mono λb o hb=>.inl hb) rfl rfl (key:=(⟨k.os,k.rel⟩:Ty)) a7) (by kernel_rfl) ?_
 refine .tO 20 rfl .da ?_
 refine .sT 21 rfl ?_
 refine .ez (λb6=>?_)
 refine .nil (Next.sub ?_)
 refine .sT 22 rfl ?_
 refine .append G (RS.lits (xs:=[(⟨k,v,.slice pd r.nodes.length cd,r.nodes,sZ,[],sZ,[],C⟩:bh)]) rfl (by simp[bh.enc]) (by simp[bh.enc,aq])) (by simp only[afw];omega) (λv5 T5 a2=>?_)
 have i5:=a2.aq
 refine .nil (Next.mod rfl ?_)
 refine .tK 23 rfl (.oC rfl) ?_
 refine .tK 24 rfl (.gA rfl) ?_
 refine .tK 25 rfl (.gA rfl) ?_
 refine .sT 26 rfl ?_
 refine .dH rfl rfl ?_
 refine .nil (Next.mod rfl ?_)
 refine RA.nil (by kernel_rfl) ?_
 refine ay<|.seq ?_
 refine .eo mixed (by kernel_rfl) ?_
 refine .mo rfl<|.nc rfl<|.fa rfl<|.lo rfl<|.q (.aP rfl)<|.q (.m3 S.rx rfl rfl (key:=k) rfl) ?_
 refine .az rfl ?_
 refine .ret (bu _ (.one (.tmp rfl)) (aQ [4,4,4]) ?_)
 ·refine(U _ _).2 ⟨_,v5,a3,T5,?_,?_,?_,a4 _ _ S L Y,a2,_,rfl,λp I=>?_⟩
  ·simp[take,bK,dh,XC.cells]
  ·rw[W,nR,afn rfl];rfl
  ·rw[W,a0,afs];rfl
  ·rw[afD]at I
   subst I
   exact⟨H,RS.fH,NN.nil⟩
def n7(c:Cf)(k:bc)(l:List Sub):List ByteArray:=((l.filter (allowed c k)).filter λs=> !decide (s.us=⟨#[]⟩)).map (·.us)
def n0(c:Cf)(k:bc)(l:List Sub):List Sub:=(l.filter (allowed c k)).filter λs=>decide (s.us=⟨#[]⟩)
theorem Qi{c:Cf}{k:bc}{l:List Sub}{i:Nat}{s:Sub}(h:l[i]? =some s):n7 c k (l.take (i+1))=n7 c k (l.take i)++if allowed c k s=true/\s.us≠⟨#[]⟩then [s.us]else []:=by
 rw[er h]
 unfold n7
 rw[afX,afX,afs]
 congr 1
 by_cases a:allowed c k s=true<;>by_cases b:s.us=⟨#[]⟩<;>simp[a,b]
theorem PB{c:Cf}{k:bc}{l:List Sub}{i:Nat}{s:Sub}(h:l[i]? =some s):n0 c k (l.take (i+1))=n0 c k (l.take i)++if allowed c k s=true/\s.us=⟨#[]⟩then [s]else []:=by
 rw[er h]
 unfold n0
 rw[afX,afX]
 congr 1
 by_cases a:allowed c k s=true<;>by_cases b:s.us=⟨#[]⟩<;>simp[a,b]
theorem XC.Aa{x:XC}{R:aw}(h:x.ok R)(k:bc):(x.sub k).length<=1000:=by
 unfold XC.sub
 split
 ·rw[afo]
  have a:=afG (λy:bA=>y.there x.rev&&decide (y.t.dc=k)) x.L
  have b:=h.l.pm.length_eq
  have c:=h.len
  omega
 ·simp
theorem Ac(x:XC)(R:aw)(h:x.ok R)(xb:Nat)(va U:Value)(e:Nat) [iv:One va] [ip:One U] [pc:PC R (pT xb) (x.cells va U e)](k:bc):
  Spec prog 109 [pT xb,.agg [.string k.os,.string k.oi].toArray,.string k.rel] R [] λu H'=>∃Tu Ts,H'=[Tu,Ts]/\∃wu ws,u=.tuple [wu,ws].toArray/\OS 9 1 dV wu (ig x.c.plain x.sub k) Tu/\OS 130 4 Sub.enc ws (fK x.c.plain x.sub k) Ts:=by
 have Z:=A0 x.c R h.c
 have i1:One x.c.vs:=RS.aq h.c.ss
 have i2:One x.c.vc:=RS.aq h.c.sc
 have i3:=h.n.one
 obtain⟨ps,vf,vr,Mf,Mr,W⟩:=h.s
 have b3:=XC.Aa h k
 have hl:=h.l
 have b1:=h.len
 have Y:ig x.c.plain x.sub k=n7 x.c.plain k (x.sub k):=rfl
 have V:fK x.c.plain x.sub k=n0 x.c.plain k (x.sub k):=rfl
 have a4:x.sub k=if scan x.S x.rev then(x.L.filter λy=>y.there x.rev&&decide (y.t.dc=k)).map (·.t.sub)else []:=rfl
 have a6:∀i,(n7 x.c.plain k ((x.sub k).take i)).length<=1000:=λi=>by
  unfold n7
  rw[afo]
  refine afu (afG _ _) (afu (afG _ _) ?_)
  rw[afv];omega
 have a2:∀i,(n0 x.c.plain k ((x.sub k).take i)).length<=1000:=λi=>by
  unfold n0
  refine afu (afG _ _) (afu (afG _ _) ?_)
  rw[afv];omega
 have a5:=λ(l:List Sub) (i:Nat) (s:Sub) (h:l[i]? =some s)=>Qi (c:=x.c.plain) (k:=k) h
 have a3:=λ(l:List Sub) (i:Nat) (s:Sub) (h:l[i]? =some s)=>PB (c:=x.c.plain) (k:=k) h
 rw[Y,V]
 generalize hL:x.sub k=l at *
 refine Spec.body func109 rfl results109 ntmps109 rfl ?_
 refine .sr ?_
 refine .cj rfl (λb4=>?_)
 refine .ag rfl<|.ag rfl<|.z<|.ag rfl<|.z<|.ag rfl<|.zs<|.seq<|.dg [] mixed ?_
 refine .tO 0 rfl .move<|.tO 1 rfl (.nilCheck rfl)<|.tO 2 rfl (.fieldAddr rfl)<|.tO 3 rfl (.cO rfl)<|.tO 4 rfl (.aP rfl)<|.tO 5 rfl .move<|.tO 6 rfl .move<|.tO 7 rfl (.nilCheck rfl)<|.tO 8 rfl (.fieldAddr rfl)<|.tO 9 rfl (.cO rfl)<|.tO 12 rfl .move ?_
 refine .sT 10 rfl ?_
 refine .dq ((SV.PV (W.mono λb o N=>.inl N) (by omega) k x.rev hl).weaken λb o N=>N) (λu a7 J=>?_)
 rw[<-a4]at J
 have iu:=J.aq
 refine .nil (Next.sub ?_)
 refine .tO 11 rfl (.fD J) ?_
 refine RA.nil (by kernel_rfl) ?_
 refine ay<|.block ?_
 refine .cL [(0,_),(2,_),(4,_),(22,_),(23,_)] (X:=Nat×Value×Value×aH×aH) (λy=>y.1<=l.length/\OS 9 1 dV y.2.1 (n7 x.c.plain k (l.take y.1)) y.2.2.2.1/\OS 130 4 Sub.enc y.2.2.1 (n0 x.c.plain k (l.take y.1)) y.2.2.2.2) (λy E=>(24,iN y.1)::(8,y.2.1)::(9,y.2.2.1)::E) (λy G=>y.2.2.2.1::y.2.2.2.2::G) (λy=>l.length-y.1) (0,sZ,sZ,[],[]) ⟨afp _,OS.nil,OS.nil⟩ kE.c.c.c.c.c.c.c.c bp.iG ?_
 rintro⟨i,F,D,Tu,Ts⟩ ⟨hi,f,d⟩
 simp only at hi f d⊢
 have b6:=f.aq
 have b7:=d.aq
 refine .sr<|.q .lss<|.zs ?_
 refine .cond rfl (λK=>?_) λK=>?_
 have g:i<l.length:=cF K
 obtain⟨s,Q⟩:=cm g
 have b5:=a6 i
 have b2:=a2 i
 have m:=a5 l i s Q
 have j:=a3 l i s Q
 obtain⟨a,v,p,r⟩:=s
 refine .kn<|.seq<|.block<|.sr ?_
 refine .bH i J Q (λb8=>?_)
 refine .q (.aP rfl) ?_
 refine .bV (λa8=>?_)
 refine .bN rfl rfl<|.zn<|.block<|.seq ?_
 refine .dY 8 mixed (by kernel_rfl) ?_
 conv=>arg 6;dsimp only[List.take]
 refine .mo rfl<|.nc rfl<|.fa rfl<|.q (.loadT rfl) ?_
 refine .q (.aP rfl)<|.mo rfl<|.q (.aP rfl) ?_
 refine .q .da ?_
 refine .nil ?_
 refine .aR ((Z ⟨k.os,k.oi,k.rel,a,v,p,r⟩).weaken cZ) (λw hw=>?_)
 subst hw
 refine .q .eT<|.az rfl ?_
 refine .cond rfl (λH=>?_) λH=>?_
 have a1:allowed x.c.plain k ⟨a,v,p,r⟩=false:=by
  cases hq:allowed x.c.plain k ⟨a,v,p,r⟩with
  |false=>rfl
  |true=>
   have:allowed x.c.plain (⟨k.os,k.oi,k.rel,a,v,p,r⟩:aA).dc (⟨k.os,k.oi,k.rel,a,v,p,r⟩:aA).sub=true:=hq
   rw[this]at H;simp at H
 rw[afm (by rw[a1];simp),afI]at m j
 refine .skip<|bi<|bi<|ay<|.region ?_
 refine .ia (i+1) .add ?_
 refine .mo rfl<|.nil ?_
 ·first
   |exact aW (i+1,C,D,B,Ts) ⟨g,A,by rw[j];exact d⟩ (by simp only;omega) kE.c.c.c.c.c.c.c.c (bp.drop [0,0] _)
   |exact aW (i+1,F,C,Tu,B) ⟨g,by rw[m];exact f,A⟩ (by simp only;omega) kE.c.c.c.c.c.c.c.c (bp.drop [0,0] _)
   |exact aW (i+1,F,D,Tu,Ts) ⟨g,by rw[m];exact f,by rw[j];exact d⟩ (by simp only;omega) kE.c.c.c.c.c.c.c.c (bp.drop [0] _)
 have T:allowed x.c.plain k ⟨a,v,p,r⟩=true:=by
  cases hq:allowed x.c.plain k ⟨a,v,p,r⟩with
  |true=>rfl
  |false=>
   have:allowed x.c.plain (⟨k.os,k.oi,k.rel,a,v,p,r⟩:aA).dc (⟨k.os,k.oi,k.rel,a,v,p,r⟩:aA).sub=false:=hq
   rw[this]at H;simp at H
 refine .sr<|.fa rfl<|.lo rfl<|.q .gd<|.az rfl ?_
 refine .cond rfl (λM=>?_) λM=>?_
 have I:a≠⟨#[]⟩:=by simpa using M
 rw[afn ⟨T,I⟩]at m
 rw[afm (λO=>I O.2),afI]at j
 refine .region<|.mo rfl<|.fa rfl<|.lo rfl ?_
 refine .jB (λb0=>?_)
 refine .append f (RS.lits (xs:=[a]) rfl (by simp[dV]) (by simp[dV,aq])) (by simp only[afw];omega) (λC B A=>?_)
 rw[<-m]at A
 refine .ag rfl<|.nil<|bi<|bi<|ay<|.region ?_
 refine .ia (i+1) .add ?_
 refine .mo rfl<|.nil ?_
 ·first
   |exact aW (i+1,C,D,B,Ts) ⟨g,A,by rw[j];exact d⟩ (by simp only;omega) kE.c.c.c.c.c.c.c.c (bp.drop [0,0] _)
   |exact aW (i+1,F,C,Tu,B) ⟨g,by rw[m];exact f,A⟩ (by simp only;omega) kE.c.c.c.c.c.c.c.c (bp.drop [0,0] _)
   |exact aW (i+1,F,D,Tu,Ts) ⟨g,by rw[m];exact f,by rw[j];exact d⟩ (by simp only;omega) kE.c.c.c.c.c.c.c.c (bp.drop [0] _)
 have I:a=⟨#[]⟩:=by simpa using M
 rw[afm (λO=>O.2 I),afI]at m
 rw[afn ⟨T,I⟩]at j
 refine .region<|.mo rfl<|.q (.aP rfl) ?_
 refine .ez (λa9=>?_)
 refine .append d (RS.lits (xs:=[(⟨a,v,p,r⟩:Sub)]) rfl (by simp[Sub.enc]) (by simp[Sub.enc,aq])) (by simp only[afw];omega) (λC B A=>?_)
 rw[<-j]at A
 refine .ag rfl<|.nil<|bi<|bi<|ay<|.region ?_
 refine .ia (i+1) .add ?_
 refine .mo rfl<|.nil ?_
 ·first
   |exact aW (i+1,C,D,B,Ts) ⟨g,A,by rw[j];exact d⟩ (by simp only;omega) kE.c.c.c.c.c.c.c.c (bp.drop [0,0] _)
   |exact aW (i+1,F,C,Tu,B) ⟨g,by rw[m];exact f,A⟩ (by simp only;omega) kE.c.c.c.c.c.c.c.c (bp.drop [0,0] _)
   |exact aW (i+1,F,D,Tu,Ts) ⟨g,by rw[m];exact f,by rw[j];exact d⟩ (by simp only;omega) kE.c.c.c.c.c.c.c.c (bp.drop [0] _)
 refine .exit<|bz<|bG<|bB<|ay<|.sr<|.mo rfl<|.mo rfl<|.ag rfl<|.az rfl ?_
 refine .ret (bu _ (.two (.tmp rfl) (.tmp rfl)) (aQ [0,0]) ?_)
 ·have a0:i=l.length:=by have:=bC K;omega
  subst a0
  rw[afC]at f d
  exact⟨Tu,Ts,by simp[take,bK],F,D,rfl,f,d⟩
structure lD(x:XC)(R:aw)(ps:List bh)(va:Value)(ks:List bc)(ps':List bh)(vp:Value)(Ta To:aH)(vo:Value)(Tl:aH):Prop where
 l:OS 3 1 dC vo (dJ x.c.plain x.num (ps.map bh.plain) ks).2 Tl
 eq:ps'.map bh.plain=(dJ x.c.plain x.num (ps.map bh.plain) ks).1
 at_:iL ps' va Ta
 o:OS 77 8 bh.enc vp ps' To
 gr:∃l,ps'=ps++l/\∀p∈l,p.is R
theorem lD.len{x:XC}{R:aw}{ps a:List bh}{va g f:Value}{ks:List bc}{b e d:aH}(h:lD x R ps va ks a g b e f d):a.length=(dJ x.c.plain x.num (ps.map bh.plain) ks).1.length:=by rw[<-h.eq,afo]
theorem lD.next{x:XC}{R:aw}{ps d b:List bh}{va D s C r:Value}{ks:List bc}{i:Nat}{k:bc}{t v f m u j:aH}(h:lD x R ps va (ks.take i) d D t v C u)(z:ks[i]? =some k)
  (e:b.map bh.plain=(ff x.c.plain x.num (d.map bh.plain) k).1)(a:iL b va f)(o:OS 77 8 bh.enc s b m)(g:∃l,b=d++l/\∀p∈l,p.is R)
  (q:OS 3 1 dC r ((dJ x.c.plain x.num (ps.map bh.plain) (ks.take i)).2++[(ff x.c.plain x.num (d.map bh.plain) k).2]) j):lD x R ps va (ks.take (i+1)) b s f m r j:=by
 have n:=AR (c:=x.c.plain) (num:=x.num) z (ps.map bh.plain)
 rw[h.eq]at e q
 refine⟨by rw[n];exact q,by rw[n];exact e,a,o,?_⟩
 obtain⟨A,rfl,w⟩:=h.gr
 obtain⟨B,rfl,y⟩:=g
 refine⟨A++B,by rw[List.append_assoc],λp hp=>?_⟩
 rcases afF.1 hp with hp|hp
 ·exact w p hp
 ·exact y p hp
def u7(x:XC)(R:aw)(xb:Nat)(ps:List bh)(e:Nat)(va:Value)(ks:List bc)(u:Value)(H':aN):Prop:=∃ps' vp Ta To Tl,H'=[Tl,x.iB xb va vp e,Ta,To]/\lD x R ps va ks ps' vp Ta To u Tl
theorem Mg(x:XC)(R:aw)(h:x.ok R)(xb:Nat)(ps:List bh)(e:Nat)(va j:Value)(m p:aH)(hA:iL ps va m)(hO:OS 77 8 bh.enc j ps p)(k:bc)(H:List Value)(n:Nd) [ie:bZ H]
  (hl:(dJ x.c.plain x.num (ps.map bh.plain) (eh x.c.plain x.sub k n)).1.length<=3000000)(b1:H.length=5):
  Spec prog 110 [pT xb,.agg (.string k.os:: .string k.oi:: .string k.rel::H).toArray,.agg n.enc.toArray] R [x.iB xb va j e,m,p] (u7 x R xb ps e va (eh x.c.plain x.sub k n)):=by
 obtain⟨x3,x4,x5,x6,x7,rfl⟩:∃a b c d f,H=[a,b,c,d,f]:=by
  match H,b1 with
  |[a,b,c,d,f],_=>exact⟨a,b,c,d,f,rfl⟩
 have c9:bZ (Value.string k.os:: .string k.oi:: .string k.rel::[x3,x4,x5,x6,x7]):=⟨λu hu=>by
  simp only[afx,afA,afB]at hu
  rcases hu with rfl|rfl|rfl|hu
  ·rfl
  ·rfl
  ·rfl
  ·exact ie.h u (by simpa using hu)⟩
 have a9:=Ac x
 have a4:=zb x R h xb
 have i1:One x.c.vs:=RS.aq h.c.ss
 have i2:One x.c.vc:=RS.aq h.c.sc
 have i3:=h.n.one
 obtain⟨M0,b0,_⟩:=id hA
 have d0:=b0.one
 have d1:=hO.aq
 have a0:∀ks u H',u7 x R xb ps e va ks u H'↔∃ps' j m p w,H'=[w,x.iB xb va j e,m,p]/\lD x R ps va ks ps' j m p u w:=λ_ _ _=>Iff.rfl
 have r:eh x.c.plain x.sub k n=if n.kind=1 then(fK x.c.plain x.sub k).map λs=>⟨s.ss,s.si,s.sr⟩
  else if n.kind=3 then(fK x.c.plain x.sub ⟨k.os,k.oi,n.rel⟩).map λs=>⟨s.ss,s.si,n.dx⟩
  else if n.kind=2 then [⟨k.os,k.oi,n.rel⟩]
  else []:=rfl
 generalize c8:eh x.c.plain x.sub k n=ks at *
 have a6:=λi=>AQ (c:=x.c.plain) (num:=x.num) ks i (ps.map bh.plain)
 have b2:=AP (c:=x.c.plain) (num:=x.num) ks (ps.map bh.plain)
 rw[afo]at b2
 have a7:=λi=>sP (c:=x.c.plain) (num:=x.num) (ks.take i) (ps.map bh.plain)
 have a8:∀k',(fK x.c.plain x.sub k').length<=1000:=λk'=>by
  unfold fK fitting
  exact afu (afG _ _) (afu (afG _ _) (XC.Aa h k'))
 have S:lD x R ps va (ks.take 0) ps j m p (sZ) []:=⟨OS.nil,by simp[dJ],hA,hO,[],by simp,by simp⟩
 refine Spec.fP (H':=[[],x.iB xb va j e,m,p]) (by simp) ?_
 refine Spec.body func110 rfl results110 ntmps110 rfl ?_
 refine .sr ?_
 refine .cj rfl (λb4=>?_)
 refine .cj rfl (λb5=>?_)
 refine .ag rfl<|.z<|.ag rfl<|.zs<|.sr<|.fa rfl<|.lo rfl<|.zn<|.block<|.sr<|.q .bw<|.az rfl ?_
 refine .cond rfl (λh1=>?_) λh1=>?_
 have M:n.kind=1:=cq h1
 rw[afn M]at r
 have b9:=a8 k
 refine .sr<|.mo rfl<|.fa rfl<|.q (.loadT rfl) ?_
 refine .fa rfl<|.lo rfl ?_
 refine .call [] (a9 _ (h.mono λb o hb=>.inl hb) xb va j e (pc:=PC.of (E:=160) (fr:=(0,0)) (.inr (by simp[rest]))) k) (λu H' hu=>?_)
 obtain⟨Tu,Ts,rfl,wu,ws,rfl,a1,t⟩:=hu
 have c1:=a1.aq
 have c2:=t.aq
 conv=>arg 8;simp only[rest,bK,aft,afr]
 refine .mo rfl<|.q .extract<|.q .extract<|.ag rfl<|.ag rfl<|.z<|.mo rfl<|.q (.fD t) ?_
 refine .mo rfl<|.zn<|.block ?_
 refine .cL [(0,_),(29,_),(30,_)] (X:=Nat×List bh×Value×aH×aH×Value×aH) (λy=>y.1<=(fK x.c.plain x.sub k).length/\lD x R ps va (ks.take y.1) y.2.1 y.2.2.1 y.2.2.2.1 y.2.2.2.2.1 y.2.2.2.2.2.1 y.2.2.2.2.2.2) (λy E=>(31,iN y.1)::(7,y.2.2.2.2.2.1)::E) (G:=[Ts,bl b5 n.enc 204,bl b4 (Value.string k.os:: .string k.oi:: .string k.rel::[x3,x4,x5,x6,x7]) 77]) (λy G=>y.2.2.2.2.2.2::x.iB xb va y.2.2.1 e::y.2.2.2.1::y.2.2.2.2.1::G) (λy=>(fK x.c.plain x.sub k).length-y.1) (0,ps,j,m,p,sZ,[]) ⟨afp _,S⟩ kE.c.c.c.c.c (aQ [4,4,4,4,1,1,1]) ?_
 rintro⟨i,v,Y,B,D,vo,w⟩ ⟨hi,g⟩
 simp only at hi g⊢
 have io:=g.l.aq
 have c0:=g.o.aq
 have b8:=g.len
 have b7:=a6 i
 have a3:=a7 i
 rw[afv]at a3
 refine .sr<|.q .lss<|.zs ?_
 refine .cond rfl (λh2=>?_) λh2=>?_
 have O:i<(fK x.c.plain x.sub k).length:=by have:=cq h2;omega
 obtain⟨s,Q⟩:=cm O
 have N:ks[i]? =some ⟨s.ss,s.si,s.sr⟩:=by rw[r,afz,Q];rfl
 obtain⟨us,W,V,sr⟩:=s
 refine .kn<|.seq<|.block<|.sr ?_
 refine .bH i t Q (λd2=>?_)
 refine .q (.aP rfl) ?_
 refine .bV (λc3=>?_)
 refine .bN rfl rfl<|.zn<|.region<|.mo rfl<|.mo rfl<|.fa rfl<|.q (.loadT rfl) ?_
 refine .fa rfl<|.lo rfl ?_
 refine .call [2,2,2] ((a4 v e va Y B D g.at_ g.o (by omega) ⟨W,V,sr⟩).weaken cZ) (λu H' hu=>?_)
 obtain⟨U,Z,C,F,rfl,rfl,K,I,J,L⟩:=hu
 conv=>arg 8;simp only[rest,bK,aft,afr]
 refine .jB (λc5=>?_)
 refine .append g.l (RS.lits (xs:=[(ff x.c.plain x.num (v.map bh.plain) ⟨W,V,sr⟩).2]) rfl (by simp[dC]) (by simp[dC,aq])) (by simp only[afw];omega) (λv5 A T=>?_)
 refine .ag rfl<|.nil<|bi<|ay<|.region ?_
 refine .ia (i+1) .add ?_
 refine .mo rfl<|.nil ?_
 ·exact aW (i+1,U,Z,C,F,v5,A) ⟨O,g.next N K I J L T⟩ (by simp only;omega) kE.c.c.c.c.c (aQ [5,1,1,1,2,2,2])
 have a2:i=ks.length:=by rw[r,afo];have:=bC h2;omega
 rw[a2,afC]at g
 refine .exit<|bz<|bG<|bB<|bi<|ay<|.sr<|.mo rfl<|.az rfl ?_
 refine .ret (bu _ (.one (.tmp rfl)) (aQ [0,0,0,0]) ?_)
 ·exact(a0 _ _ _).2 ⟨v,Y,B,D,w,by simp[take,bK],g⟩
 refine .sr<|.q .bw<|.az rfl ?_
 refine .cond rfl (λh3=>?_) λh3=>?_
 have M:n.kind=2:=cq h3
 rw[afm (by omega),afm (by omega),afn M]at r
 have N:ks[0]? =some ⟨k.os,k.oi,n.rel⟩:=by rw[r];rfl
 have b3:ks.take 1=ks:=by rw[r];rfl
 refine .region<|.mo rfl<|.mo rfl<|.fa rfl<|.q (.loadT rfl) ?_
 refine .fa rfl<|.lo rfl ?_
 refine .call [3,3,3] ((a4 ps e va j m p hA hO (by omega) ⟨k.os,k.oi,n.rel⟩).weaken cZ) (λu H' hu=>?_)
 obtain⟨U,Z,C,F,rfl,rfl,K,I,J,L⟩:=hu
 conv=>arg 8;simp only[rest,bK,aft,afr]
 refine .jB (λc6=>?_)
 refine .append S.l (RS.lits (xs:=[(ff x.c.plain x.num (ps.map bh.plain) ⟨k.os,k.oi,n.rel⟩).2]) rfl (by simp[dC]) (by simp[dC,aq])) (by simp[dJ]) (λv5 A T=>?_)
 have a5:=S.next N K I J L T
 rw[show(0:Nat)+1=1 from rfl,b3]at a5
 refine .ag rfl<|.nil<|bi<|ay<|.sr<|.mo rfl<|.az rfl ?_
 refine .ret (bu _ (.one (.tmp rfl)) (aQ [6,1,1,1]) ?_)
 ·exact(a0 _ _ _).2 ⟨U,Z,C,F,A,by simp[take,bK],a5⟩
 refine .sr<|.q .bw<|.az rfl ?_
 refine .cond rfl (λh4=>?_) λh4=>?_
 have M:n.kind=3:=cq h4
 rw[afm (by omega),afn M]at r
 have b9:=a8 ⟨k.os,k.oi,n.rel⟩
 refine .sr<|.mo rfl<|.fa rfl<|.q (.loadT rfl) ?_
 refine .fa rfl<|.lo rfl ?_
 refine .call [] (a9 _ (h.mono λb o hb=>.inl hb) xb va j e (pc:=PC.of (E:=160) (fr:=(0,0)) (.inr (by simp[rest]))) ⟨k.os,k.oi,n.rel⟩) (λu H' hu=>?_)
 obtain⟨Tu,Ts,rfl,wu,ws,rfl,a1,t⟩:=hu
 have c1:=a1.aq
 have c2:=t.aq
 conv=>arg 8;simp only[rest,bK,aft,afr]
 refine .mo rfl<|.q .extract<|.q .extract<|.ag rfl<|.ag rfl<|.z<|.mo rfl<|.q (.fD t) ?_
 refine .mo rfl<|.zn<|.block ?_
 refine .cL [(0,_),(5,_),(67,_),(68,_)] (X:=Nat×List bh×Value×aH×aH×Value×aH) (λy=>y.1<=(fK x.c.plain x.sub ⟨k.os,k.oi,n.rel⟩).length/\lD x R ps va (ks.take y.1) y.2.1 y.2.2.1 y.2.2.2.1 y.2.2.2.2.1 y.2.2.2.2.2.1 y.2.2.2.2.2.2) (λy E=>(69,iN y.1)::(7,y.2.2.2.2.2.1)::E) (G:=[Ts,bl b5 n.enc 204,bl b4 (Value.string k.os:: .string k.oi:: .string k.rel::[x3,x4,x5,x6,x7]) 77]) (λy G=>y.2.2.2.2.2.2::x.iB xb va y.2.2.1 e::y.2.2.2.1::y.2.2.2.2.1::G) (λy=>(fK x.c.plain x.sub ⟨k.os,k.oi,n.rel⟩).length-y.1) (0,ps,j,m,p,sZ,[]) ⟨afp _,S⟩ kE.c.c.c.c.c.c (aQ [4,4,4,4,1,1,1]) ?_
 rintro⟨i,v,Y,B,D,vo,w⟩ ⟨hi,g⟩
 simp only at hi g⊢
 have io:=g.l.aq
 have c0:=g.o.aq
 have b8:=g.len
 have b7:=a6 i
 have a3:=a7 i
 rw[afv]at a3
 refine .sr<|.q .lss<|.zs ?_
 refine .cond rfl (λh5=>?_) λh5=>?_
 have O:i<(fK x.c.plain x.sub ⟨k.os,k.oi,n.rel⟩).length:=by have:=cq h5;omega
 obtain⟨s,Q⟩:=cm O
 have N:ks[i]? =some ⟨s.ss,s.si,n.dx⟩:=by rw[r,afz,Q];rfl
 obtain⟨us,W,V,sr⟩:=s
 refine .kn<|.seq<|.block<|.sr ?_
 refine .bH i t Q (λd3=>?_)
 refine .q (.aP rfl) ?_
 refine .bV (λc4=>?_)
 refine .bN rfl rfl<|.zn<|.region<|.mo rfl<|.mo rfl<|.fa rfl<|.q (.loadT rfl) ?_
 refine .fa rfl<|.lo rfl ?_
 refine .call [2,2,2] ((a4 v e va Y B D g.at_ g.o (by omega) ⟨W,V,n.dx⟩).weaken cZ) (λu H' hu=>?_)
 obtain⟨U,Z,C,F,rfl,rfl,K,I,J,L⟩:=hu
 conv=>arg 8;simp only[rest,bK,aft,afr]
 refine .jB (λc7=>?_)
 refine .append g.l (RS.lits (xs:=[(ff x.c.plain x.num (v.map bh.plain) ⟨W,V,n.dx⟩).2]) rfl (by simp[dC]) (by simp[dC,aq])) (by simp only[afw];omega) (λv5 A T=>?_)
 refine .ag rfl<|.nil<|bi<|ay<|.region ?_
 refine .ia (i+1) .add ?_
 refine .mo rfl<|.nil ?_
 ·exact aW (i+1,U,Z,C,F,v5,A) ⟨O,g.next N K I J L T⟩ (by simp only;omega) kE.c.c.c.c.c.c (aQ [5,1,1,1,2,2,2])
 have a2:i=ks.length:=by rw[r,afo];have:=bC h5;omega
 rw[a2,afC]at g
 refine .exit<|bz<|bG<|bB<|bi<|ay<|.sr<|.mo rfl<|.az rfl ?_
 refine .ret (bu _ (.one (.tmp rfl)) (aQ [0,0,0,0]) ?_)
 ·exact(a0 _ _ _).2 ⟨v,Y,B,D,w,by simp[take,bK],g⟩
 have b6:ks=[]:=by
  rw[r,afm (bC h1),afm (bC h4),afm (bC h3)]
 refine .skip<|bi<|ay<|.sr<|.mo rfl<|.az rfl ?_
 refine .ret (bu _ (.one (.tmp rfl)) (aQ [2,2,2,2]) ?_)
 ·refine(a0 _ _ _).2 ⟨ps,j,m,p,[],by simp[take,bK],?_⟩
  have:=S
  rw[List.take_zero, <-b6]at this
  exact this
instance QI:fq prog 3 (λs:Int=>.int .i64 s):=fq.int tg wS
abbrev kI(n:Int):Value:=.int .i64 n
structure AG(x:XC)(R:aw)(ps:List bh)(va:Value)(k:bc)(ns:List Nd)(mp:Value)(ps1:List bh)(vp:Value)(Ta To:aH)(vL:Value)(L:List iA)(TL Tr:aH)(M:List (Int×Bool))(Tm:aH):Prop where
 eq:ps1.map bh.plain=(dp x.c.plain x.num x.sub k (ps.map bh.plain) ns).1
 at_:iL ps1 va Ta
 o:OS 77 8 bh.enc vp ps1 To
 gr:∃l,ps1=ps++l/\∀p∈l,p.is R
 le:OS 113 1 gL vL L TL
 rows:∀q∈L,RS (sg Tr) 1 dC q.1 q.2
 ll:L.map (·.2)=(dp x.c.plain x.num x.sub k (ps.map bh.plain) ns).2
 ms:MS kI Value.bool mp M Tm
 yz:M.map (·.1)=(kP [] (dp x.c.plain x.num x.sub k (ps.map bh.plain) ns).2.flatten).map λn:Nat=>(n:Int)
theorem MC{β:Type}{M:List (Int×β)}{l:List Nat}(h:M.map (·.1)=l.map λn:Nat=>(n:Int))(y:β)(j:Nat):(dD (j:Int) y M).map (·.1)=(if j∈l then l else l++[j]).map λn:Nat=>(n:Int):=by
 by_cases c:j∈l
 ·rw[afn c, <-h]
  have b:(j:Int)∈M.map (·.1):=by rw[h];exact afH.2 ⟨j,c,rfl⟩
  clear h
  induction M with
  |nil=>simp at b
  |cons a M ih=>
   obtain⟨g,i⟩:=a
   rw[dD]
   split
   ·rename_i e;simp[e]
   ·rename_i e
    simp only[afM,afx]at b⊢
    rw[ih (b.resolve_left e)]
 ·rw[afm c,mB (λb=>by
   rw[h]at b
   obtain⟨n,f,e⟩:=afH.1 b
   have d:n=j:=by omega
   exact c (d▸f)),afs,afs,h]
  rfl
theorem zN{α:Type}{l:List α}{i:Nat}{x:α}(h:l[i]? =some x):l.set i x=l:=by
 obtain⟨a,e⟩:=afJ.1 h
 rw[<-e]
 exact List.set_getElem_self a
theorem OS.A6{α:Type}{E sz:Nat}{enc:α->List Value}{v:Value}{xs:List α}{T:aH}{i:Nat}{z:α}(h:OS E sz enc v xs T)(d:xs[i]? =some z):∃a,fB v (i*sz)=.pointer (some a):=by
 rcases h.h with⟨_,rfl,_⟩|⟨b,f,c,e,rfl,_⟩
 ·simp at d
 ·exact⟨_,rfl⟩
theorem NL{a b:List cB}(h:a.map (·.k)=b.map (·.k))(k:bc):hK a k=hK b k:=by
 have c:∀l:List cB,hK l k=(l.map (·.k)).findIdx? λy=>decide (y=k):=λl=>by
  unfold hK
  rw[List.findIdx?_map]
  rfl
 rw[c,c,h]
theorem Pj{ps:List bh}{i:Nat}{p q:bh}(a:ps[i]? =some p)(b:q.k=p.k):((ps.set i q).map bh.plain).map (·.k)=(ps.map bh.plain).map (·.k):=by
 rw[afY,afY]
 refine List.ext_getElem? λj=>?_
 rw[afz,afz,List.getElem?_set]
 split
 ·rename_i e
  subst e
  rw[afn (afJ.1 a).1,a]
  show some q.k=some p.k
  rw[b]
 ·rfl
theorem iL.set{ps:List bh}{i:Nat}{p q:bh}{va:Value}{T:aH}(h:iL ps va T)(d:ps[i]? =some p)(c:q.k=p.k):iL (ps.set i q) va T:=by
 obtain⟨M,b,a⟩:=h
 exact⟨M,b,λk=>by rw[a];exact NL (Pj d c).symm k⟩
def sJ(x:XC)(Rc:aw)(xb:Nat)(ps:List bh)(e:Nat)(va:Value)(i:Nat)(p:bh)(H':aN):Prop:=∃vp Ta To TL Tr Tu l q,
 H'=[x.iB xb va vp (e+(eX x.c.plain x.num x.sub (ps.map bh.plain) i).2),Ta,To,TL,Tr,Tu]/\(∀p∈l,bh.is Rc p)/\((ps++l).set i q).map bh.plain=(eX x.c.plain x.num x.sub (ps.map bh.plain) i).1/\iL ((ps++l).set i q) va Ta/\OS 77 8 bh.enc vp ((ps++l).set i q) To/\
 (q=p\/q.vn=p.vn/\q.nodes=p.nodes/\RS (sg Tu) 1 dV q.vu q.gk/\RS (sg TL) 1 gL q.vl q.ll/\∀y∈q.ll,RS (sg Tr) 1 dC y.1 y.2)
theorem Nn(x:XC)(A R:aw)(b5:∀b o,A b o->R b o)(h:x.ok A)(xb:Nat)(ps:List bh)(e:Nat)(va w:Value)(B C:aH)(hA:iL ps va B)(W:OS 77 8 bh.enc w ps C)(i:Nat)(p:bh)(v:ps[i]? =some p)(hn:RS R 5 Nd.enc p.vn p.nodes)(a3:p.plain=one x.c.plain x.num p.k)(f1:p.nodes.length<=1000000)
  (hl:(eX x.c.plain x.num x.sub (ps.map bh.plain) i).1.length<=3000000)(he:e<=1000000000000):
  Spec prog 60 [pT xb,iN i] R [x.iB xb va w e,B,C] λ_ H'=>sJ x A xb ps e va i p H':=by
 have f5:=Ac x
 have e8:=Mg x A h xb
 have i1:One x.c.vs:=RS.aq h.c.ss
 have i2:One x.c.vc:=RS.aq h.c.sc
 have i3:=h.n.one
 obtain⟨M0,d8,_⟩:=id hA
 have h4:=d8.one
 have h5:=W.aq
 have f3:=aV v
 have f8:bZ p.enc:=⟨W.one p f3⟩
 have a5:(ps.map bh.plain)[i]? =some p.plain:=by rw[afz,v];rfl
 have e3:=(afJ.1 v).1
 have b6:∀H',sJ x A xb ps e va i p H'↔∃w B C V I J l q,
  H'=[x.iB xb va w (e+(eX x.c.plain x.num x.sub (ps.map bh.plain) i).2),B,C,V,I,J]/\(∀p∈l,bh.is A p)/\((ps++l).set i q).map bh.plain=(eX x.c.plain x.num x.sub (ps.map bh.plain) i).1/\iL ((ps++l).set i q) va B/\OS 77 8 bh.enc w ((ps++l).set i q) C/\
  (q=p\/q.vn=p.vn/\q.nodes=p.nodes/\RS (sg J) 1 dV q.vu q.gk/\RS (sg V) 1 gL q.vl q.ll/\∀y∈q.ll,RS (sg I) 1 dC y.1 y.2):=λ_=>Iff.rfl
 have Y:=Nj (c:=x.c.plain) (num:=x.num) (sub:=x.sub) a5
 have a4:=Nl (c:=x.c.plain) (num:=x.num) (sub:=x.sub) a5 a3
 have e7:=hn.le
 obtain⟨k,f,vn,d,T,S,t,s,g⟩:=p
 have f2:bh.plain ⟨k,f,vn,d,T,S,t,s,g⟩=⟨k,f,d,g,S,s.map (·.2)⟩:=rfl
 rw[f2]at Y a4 a5 a3
 simp only at Y a4 hn a3 e7 f1
 have c0:=λj=>AT (c:=x.c.plain) (num:=x.num) (sub:=x.sub) k d j (ps.map bh.plain)
 have g5:=AS (c:=x.c.plain) (num:=x.num) (sub:=x.sub) k d (ps.map bh.plain)
 have e9:=sR (c:=x.c.plain) (num:=x.num) (sub:=x.sub) k d (ps.map bh.plain)
 have f7:=λ(j:Nat) (n:Nd) (hj:d[j]? =some n)=>AU (c:=x.c.plain) (num:=x.num) (sub:=x.sub) hj k (ps.map bh.plain)
 have g7:=λj=>sR (c:=x.c.plain) (num:=x.num) (sub:=x.sub) k (d.take j) (ps.map bh.plain)
 have b9:(dp x.c.plain x.num x.sub k (ps.map bh.plain) d).1.length<=3000000:=by
  rw[Y]at hl
  rwa [List.length_set]at hl
 refine Spec.body func60 rfl results60 ntmps60 rfl ?_
 refine .sr<|.mo rfl<|.nc rfl<|.fa rfl<|.fa rfl<|.lo rfl<|.mo rfl ?_
 refine .bH i W v (λh6=>?_)
 refine .q (.aP rfl) ?_
 refine .bV (λb4=>?_)
 refine .bN rfl rfl<|.zs<|.sr<|.fa rfl<|.lo rfl<|.q .not<|.zn ?_
 refine .cond rfl (λh1=>?_) λh1=>?_
 have hf:f=false:=by simpa using h1
 have c4:=a4 hf
 refine .ret (aI (bu _ .none (bp.MP.trans (aQ [4,4,4,0,0,0])) ?_))
 ·refine(b6 _).2 ⟨w,B,C,[],[],[],[],⟨k,f,vn,d,T,S,t,s,g⟩,?_,λq hq=>(by cases hq),?_,?_,?_,.inl rfl⟩
  ·rw[c4];simp[take,bK]
  ·rw[c4,afI]
   rw[zN v]
  ·rw[afI];exact hA.set v rfl
  ·rw[afI]
   rw[zN v];exact W
 have hf:f=true:=by simpa using h1
 refine .kn<|.sr<|.mo rfl<|.fa rfl<|.q (.loadT rfl) ?_
 refine .fa rfl<|.lo rfl ?_
 refine .call [] (f5 _ (h.mono λb o F=>.inl (b5 b o F)) xb va w e (pc:=PC.of (E:=160) (fr:=(0,0)) (.inr (by simp[rest]))) k) (λu H' O=>?_)
 obtain⟨J,Ts,rfl,U,ws,rfl,b3,e1⟩:=O
 have c7:=b3.aq
 have h0:=e1.aq
 conv=>arg 8;simp only[rest,bK,aft,afr]
 refine .mo rfl<|.q .extract<|.q .extract<|.ag rfl<|.ag rfl<|.z<|.ag rfl<|.z ?_
 refine .makeMap (λa1=>?_)
 refine .ag rfl<|.zs<|.sr<|.fa rfl<|.lo rfl<|.q (.bL hn) ?_
 refine .mo rfl<|.zn<|.block ?_
 refine .cL [(0,_),(1,_),(4,_),(5,_),(8,_),(36,_),(37,_)] (X:=Nat×List bh×Value×aH×aH×Value×List iA×aH×aH×List (Int×Bool)×aH) (λy=>y.1<=d.length/\AG x A ps va k (d.take y.1) (.map (some a1)) y.2.1 y.2.2.1 y.2.2.2.1 y.2.2.2.2.1 y.2.2.2.2.2.1 y.2.2.2.2.2.2.1 y.2.2.2.2.2.2.2.1 y.2.2.2.2.2.2.2.2.1 y.2.2.2.2.2.2.2.2.2.1 y.2.2.2.2.2.2.2.2.2.2) (λy E=>(38,iN y.1)::(7,y.2.2.2.2.2.1)::E) (G:=[J,bl b4 (bh.enc ⟨k,f,vn,d,T,S,t,s,g⟩) 77]) (λy G=>x.iB xb va y.2.2.1 e::y.2.2.2.1::y.2.2.2.2.1::y.2.2.2.2.2.2.2.1::y.2.2.2.2.2.2.2.2.1::y.2.2.2.2.2.2.2.2.2.2::G) (λy=>d.length-y.1) (0,ps,w,B,C,sZ,[],[],[],[],[(a1,.map #[] 0)]) ⟨afp _,⟨rfl,hA,W,⟨[],by simp,λq hq=>(by cases hq)⟩,OS.nil,λq hq=>(by cases hq),rfl,MS.nil,rfl⟩⟩ kE.c.c.c.c.c.c.c.c.c (bp.iG.trans (aQ [6,6,6,0,0,0,0,1])) ?_
 rintro⟨j,Q,c9,a7,d2,vL,L,V,I,M,Tm⟩ ⟨hj,a⟩
 simp only at hj a⊢
 have c8:=a.le.aq
 have g9:=a.o.aq
 have g3:L.length<=j:=by
  have h9:=afq List.length a.ll
  have h8:=(sQ (c:=x.c.plain) (num:=x.num) (sub:=x.sub) k (d.take j) (ps.map bh.plain)).1
  rw[afo]at h9
  rw[afv]at h8
  omega
 have g1:Q.length=(dp x.c.plain x.num x.sub k (ps.map bh.plain) (d.take j)).1.length:=by rw[<-a.eq,afo]
 have g6:=c0 j
 refine .sr<|.q .lss<|.zs ?_
 refine .cond rfl (λh2=>?_) λh2=>?_
 have b7:j<d.length:=cF h2
 obtain⟨n,c3⟩:=cm b7
 have a0:=f7 j n c3
 have c1:=c0 (j+1)
 have e6:(dJ x.c.plain x.num (Q.map bh.plain) (eh x.c.plain x.sub k n)).1.length<=3000000:=by
  rw[a.eq]
  rw[a0]at c1
  exact afu c1 b9
 refine .kn<|.seq<|.block<|.sr ?_
 refine .bI j hn c3 (λh7=>?_)
 refine .q (.aP rfl) ?_
 refine .bV (λd3=>?_)
 refine .bN rfl rfl<|.z<|.mo rfl<|.q (.aP rfl)<|.q (.aP rfl) ?_
 refine .call [1,1,1] ((e8 Q e va c9 a7 d2 a.at_ a.o k [.bool f,vn,T,t,iN g] n (ie:=⟨λu O=>f8.h u (by simp only[bh.enc];simp only[afx,afA,afB]at O⊢;simp[O])⟩) e6 rfl).weaken λb o F=>.inl (b5 b o F)) (λu H' O=>?_)
 obtain⟨f9,d0,a8,b0,Tl,rfl,D⟩:=O
 have iu:=D.l.aq
 have N:=D.l
 have g2:=D.len
 conv=>arg 8;simp only[rest,bK,aft,afr]
 obtain⟨r,a6⟩:∃r,r=(dJ x.c.plain x.num (Q.map bh.plain) (eh x.c.plain x.sub k n)).2:=⟨_,rfl⟩
 rw[<-a6]at N
 have g8:=N.le
 refine .ag rfl<|.zs<|.sr<|.mo rfl<|.q (.fD N) ?_
 refine .mo rfl<|.zn<|.block ?_
 refine .cL [(0,_),(1,_),(4,_),(5,_),(7,_),(8,_),(11,_),(36,_),(37,_),(38,_),(46,_),(47,_)] (X:=Nat×List (Int×Bool)×aH) (λy=>y.1<=r.length/\MS kI Value.bool (.map (some a1)) y.2.1 y.2.2/\y.2.1.map (·.1)=(kP (kP [] (dp x.c.plain x.num x.sub k (ps.map bh.plain) (d.take j)).2.flatten) (r.take y.1)).map λn:Nat=>(n:Int)) (λy E=>(48,iN y.1)::E) (G:=[Tl,x.iB xb va d0 e,a8,b0,bl d3 n.enc 204,V,I,J,bl b4 (bh.enc ⟨k,f,vn,d,T,S,t,s,g⟩) 77]) (λy G=>y.2.2::G) (λy=>r.length-y.1) (0,M,Tm) ⟨afp _,a.ms,a.yz⟩ kE.c.c.c.c.c.c.c.c.c.c.c.c.c (aQ [7,0,0,0,0,0,0,0,0,0]) ?_
 rintro⟨m,M2,d1⟩ ⟨hm,a2,Z⟩
 simp only at hm a2 Z⊢
 refine .sr<|.q .lss<|.zs ?_
 refine .cond rfl (λh3=>?_) λh3=>?_
 have c2:m<r.length:=cF h3
 obtain⟨to,c5⟩:=cm c2
 have f6:=Pd c5 (kP [] (dp x.c.plain x.num x.sub k (ps.map bh.plain) (d.take j)).2.flatten)
 refine .kn<|.seq<|.block<|.sr ?_
 refine .bH m N c5 (λi0=>?_)
 refine .lo rfl<|.az rfl<|.region<|.mo rfl<|.mo rfl ?_
 refine .update (key:=(to:Int)) (u:=true) a2 rfl rfl rfl (λT2 d9 _=>?_)
 have b8:=MC Z true to
 rw[<-f6]at b8
 refine .nil<|bi<|ay<|.region ?_
 refine .ia (m+1) .add ?_
 refine .mo rfl<|.nil ?_
 ·exact aW (m+1,dD (to:Int) true M2,T2) ⟨c2,d9,b8⟩ (by simp only;omega) kE.c.c.c.c.c.c.c.c.c.c.c.c.c rH
 have f0:m=r.length:=by have:=bC h3;omega
 rw[f0,afC]at Z
 obtain⟨pu,cu,rfl,_⟩:=N.shape
 refine .exit<|bz<|bG<|bB<|ay<|.region<|.mo rfl<|.mo rfl ?_
 refine .jB (λg0=>?_)
 refine .append a.le (RS.lits (xs:=[((.slice pu r.length cu,r):iA)]) rfl (by simp[gL]) (by simp[gL,aq])) (by simp only[afw];omega) (λv5 T5 c6=>?_)
 have i5:=c6.aq
 refine .ag rfl<|.nil<|bi<|ay<|.region ?_
 refine .ia (j+1) .add ?_
 refine .mo rfl<|.nil ?_
 ·exact aW (j+1,f9,d0,a8,b0,v5,L++[(.slice pu r.length cu,r)],T5,Tl++I,M2,d1) ⟨b7,⟨by rw[a0,D.eq,a.eq],D.at_,D.o,by
   obtain⟨l1,d4,d5⟩:=a.gr
   obtain⟨l2,d6,d7⟩:=D.gr
   refine⟨l1++l2,by rw[d6,d4,List.append_assoc],λq hq=>?_⟩
   rcases afF.1 hq with hq|hq
   ·exact d5 q hq
   ·exact d7 q hq,c6,λq hq=>by
   rcases afF.1 hq with hq|hq
   ·exact(a.rows q hq).mono λb o F=>gh F
   ·rw[afD]at hq
    subst hq
    exact N.sg.mono λb o F=>hU F,by rw[a0,afs,a.ll,a6,a.eq];rfl,a2,by rw[a0,List.flatten_append,zJ,Z,a6,a.eq];simp⟩⟩ (by simp only;omega) kE.c.c.c.c.c.c.c.c.c ((aQ [3,3,3,4,2,3,1,2,2]).trans (bp.eu (by simp[take,bK])))
 have e4:j=d.length:=by have:=bC h2;omega
 rw[e4,afC]at a
 have K:Q[i]? =some ⟨k,f,vn,d,T,S,t,s,g⟩:=by
  obtain⟨l,H,_⟩:=a.gr
  rw[H,List.getElem?_append_left e3,v]
 obtain⟨a9,e2⟩:=a.o.A6 K
 have b1:M.length=m4 (dp x.c.plain x.num x.sub k (ps.map bh.plain) d).2.flatten:=by
  have:=afq List.length a.yz
  rw[afo,afo]at this
  exact this
 have g4:M.length<=3000000:=by
  rw[b1]
  refine afu (MI (n:=(dp x.c.plain x.num x.sub k (ps.map bh.plain) d).1.length) λy hy=>?_) b9
  obtain⟨l,H,hy⟩:=List.mem_flatten.1 hy
  exact e9 l H y hy
 refine .exit<|bz<|bG<|bB<|ay<|.seq<|.dg [16,19] mixed ?_
 refine .tO 0 rfl .move<|.tO 1 rfl (.nilCheck rfl)<|.tO 2 rfl (.fieldAddr rfl)<|.tO 3 rfl (.fieldAddr rfl)<|.tO 4 rfl (.cO rfl)<|.tO 5 rfl .move<|.tO 6 rfl .move<|.tO 7 rfl (.nilCheck rfl)<|.tO 8 rfl (.fieldAddr rfl)<|.tO 9 rfl (.fieldAddr rfl)<|.tO 10 rfl (.cO rfl)<|.tK 11 rfl .move<|.tO 12 rfl .move<|.tK 13 rfl .move ?_
 refine RA.bH 14 rfl i a.o K rfl rfl rfl (by kernel_rfl) (λi4=>?_)
 refine .tO 15 rfl (.fieldAddr rfl) ?_
 refine .sT 16 rfl ?_
 refine .qh (k:=5) (cs:=[U]) (z':=(⟨k,f,vn,d,U,ig x.c.plain x.sub k,t,s,g⟩:bh)) i a.o K rfl rfl rfl (og c7.h) rfl (by simpa using c7.h) rfl (by simp) (λTd e0=>?_)
 have f4:(Q.set i (⟨k,f,vn,d,U,ig x.c.plain x.sub k,t,s,g⟩:bh))[i]? =some ⟨k,f,vn,d,U,ig x.c.plain x.sub k,t,s,g⟩:=by rw[List.getElem?_set_self (afJ.1 K).1]
 refine .nil (Next.mod rfl ?_)
 refine RA.bH 17 rfl i a.o K rfl rfl rfl (by kernel_rfl) (λi6=>?_)
 refine .tK 18 rfl (.gA rfl e2) ?_
 refine .sT 19 rfl ?_
 refine .qh (k:=6) (cs:=[vL]) (z':=(⟨k,f,vn,d,U,ig x.c.plain x.sub k,vL,L,g⟩:bh)) i e0 f4 rfl rfl rfl (og c8.h) rfl (by simpa using c8.h) rfl (by simp) (λTe b2=>?_)
 rw[List.set_set]at b2
 refine .nil (Next.mod rfl ?_)
 refine RA.nil (by kernel_rfl) ?_
 refine ay ?_
 refine .dY 11 mixed (by kernel_rfl) ?_
 conv=>arg 6;dsimp only[List.take]
 refine .mo rfl<|.nc rfl<|.fa rfl<|.fa rfl<|.lo rfl<|.mo rfl<|.q (.yh a.ms.rx rfl) ?_
 refine .ia (e+M.length) .add ?_
 refine .nc rfl<|.fa rfl<|.fa rfl<|.nil<|.dH rfl rfl<|.nil<|gg _ .none (aQ [0,0,0,0,0,1]) ?_
 ·obtain⟨l,H,e5⟩:=a.gr
  refine(b6 _).2 ⟨c9,a7,Te,V,I,J,l,⟨k,f,vn,d,U,ig x.c.plain x.sub k,vL,L,g⟩,?_,e5,?_,?_,?_,.inr ⟨rfl,rfl,b3.sg,a.le.sg,a.rows⟩⟩
  ·rw[Y, <-b1];simp[take,bK];rfl
  ·rw[Y, <-H,List.map_set,a.eq]
   simp only[hf,if_true]
   rw[<-a.ll]
   rfl
  ·rw[<-H];exact a.at_.set K rfl
  ·rw[<-H];exact b2
def qn(R:aw)(out:List cB×Nat×Int)(u:Value)(H':aN):Prop:=∃vp ps T,H'=[T]/\u=.tuple [.agg [vp,iN out.2.1].toArray,.int .i64 out.2.2].toArray/\RS (λb o=>R b o\/(b,o)∈T) 8 bh.enc vp ps/\(∀p∈ps,bh.is (λb o=>R b o\/(b,o)∈T) p)/\ps.map bh.plain=out.1
theorem uh{W:ByteArray->Bool}{F:ByteArray->ByteArray->Bool}{c:Cf}{num:List Nat}{k:bc}(b:c.right W F=true):(one c num k).nodes.length<=64:=by
 unfold one
 split
 ·simp
 ·rename_i i d
  simp only[afU,afz]
  cases hy:c.all[i]? with
  |none=>simp
  |some y=>
   have a:=(m9 b y (aV hy)).2
   unfold hG at a
   simp only[Bool.or_eq_false_iff,af0]at a
   simp only[afW,Option.getD_some]
   omega
theorem Np{c:Cf}{num:List Nat}{sub:bc->List Sub}{k:bc}{N i:Nat}(b:gH c num sub k N)(h:∀j,j<i->j<(opened c num sub k j).1.length):i<=N:=Nat.not_lt.1 λa=>by have:=h N a;have:=b.1;omega
theorem BN{R:aw}{hb:Nat}{vl:Value}{es:List ek}{b4:Nat}(hV:HV R hb vl es b4){g:Nat}{S:dd}{c8:List RB}{vf vr:Value}{Mf:List (bc×(Value×aH))}{Mr:List (Sub×(Value×aH))}(hS:SV R g S c8 vf vr Mf Mr)
    {L:List bA}(hL:fM S L)(hl:S.rows.length<=1000)(rev:Int)(en:ek)(b5:la es rev=some en)(num:List Nat)(V:nt isWord de en.c.plain num)(f3:en.ll.map (·.2)=rows en.c.plain.bd num)(e9:b4<=1000000/\es.length<=1000000)(c2:∀e∈es,e.ll.length<=1000000/\∀q∈e.ll,q.2.length<=1000000)
    (k:bc)(b:Int)(g6:b<=9223372036854775807)(sub:bc->List Sub)(f9:sub=λk=>if scan S rev then(L.filter λy=>y.there rev&&decide (y.t.dc=k)).map (·.t.sub)else [])
    (c3:∀i,(∀j,j<i->j<(opened en.c.plain num sub k j).1.length)->(opened en.c.plain num sub k i).1.length+(opened en.c.plain num sub k i).2<=1048576)(N:Nat)(hN:gH en.c.plain num sub k N):
    Spec prog 23 [pT hb,pT g,.int .u64 rev,.agg [.string k.os,.string k.oi].toArray,.string k.rel,.int .i64 b] R [] (qn R (lI en.c.plain num sub k b (scan S rev) N)):=by
  have d9:((la es rev).map λe=>e.c.plain).getD ⟨[],[]⟩=en.c.plain:=by rw[b5];rfl
  have b6:((la es rev).map λe=>e.ll.map (·.2)).getD []=rows en.c.plain.bd num:=by rw[b5];exact f3
  have J:∀out u H',qn R out u H'↔∃A s T,H'=[T]/\u=.tuple [.agg [A,iN out.2.1].toArray,.int .i64 out.2.2].toArray/\RS (λb o=>R b o\/(b,o)∈T) 8 bh.enc A s/\(∀p∈s,bh.is (λb o=>R b o\/(b,o)∈T) p)/\s.map bh.plain=out.1:=λ_ _ _=>Iff.rfl
  have r:lI en.c.plain num sub k b (scan S rev) N=if b<1 then([],0,2)else if scan S rev=false then([],0,12)
    else if(((opened en.c.plain num sub k N).1.length+(opened en.c.plain num sub k N).2:Nat):Int)<=b then((opened en.c.plain num sub k N).1,(opened en.c.plain num sub k N).2,0)else([],0,16):=rfl
  generalize g7:en.c.plain=cp at *
  refine Spec.body func23 rfl results23 ntmps23 rfl ?_
  refine .sr ?_
  refine .cj rfl (λb9=>?_)
  refine .bV (λb3=>?_)
  refine .ag rfl<|.z<|.mo rfl<|.fa rfl<|.lo rfl<|.fa rfl<|.lo rfl<|.mo rfl ?_
  refine .q .da ?_
  refine .mo rfl ?_
  refine .dq ((N0 hS (by omega) ⟨k.os,k.oi,k.rel,⟨#[]⟩,⟨#[]⟩,⟨#[]⟩,⟨#[]⟩⟩ rev).weaken cZ) (λu g4 a=>?_)
  obtain⟨wr,ys,rfl,d8,_⟩:=a
  have i3:=d8.aq
  refine .mo rfl<|.q .extract<|.q .extract<|.ag rfl<|.ag rfl<|.zs<|.block<|.sr<|.mo rfl ?_
  refine .aR ((HV.made hV).weaken cZ) (λu a=>?_)
  subst a
  refine .q .not<|.mo rfl ?_
  refine .split (t:=36) rfl (λa4=>?_) (λa4=>?_)
  ·simp at a4
  refine .gT a4<|.mo rfl<|.gT a4<|.q .bw<|.q (.aX a4) ?_
  refine .az rfl ?_
  refine .cond rfl (λh1=>?_) λh1=>?_
  ·cases I:scan S rev<;>simp[I]at h1
  refine .sr<|.mo rfl<|.q .lss<|.az rfl ?_
  refine .cond rfl (λh2=>?_) λh2=>?_
  have a1:b<1:=cq h2
  refine .sr ?_
  refine .q .da ?_
  refine .bN rfl rfl<|.az rfl ?_
  refine .ret (bf (aI (bu _ (.two (.ei rfl rfl) (.tmp rfl)) (bp.one [] _) ?_)))
  ·exact(J _ _ _).2 ⟨_,[],_,rfl,by rw[r,afn a1];rfl,RS.fH,λp f=>(by cases f),by rw[r,afn a1];rfl⟩
  have a1:¬b<1:=bC h2
  refine .sr<|.mo rfl<|.q .eT<|.az rfl ?_
  refine .cond rfl (λh3=>?_) λh3=>?_
  have I:scan S rev=false:=by
    cases I:scan S rev with
    |false=>rfl
    |true=>simp[I]at h3
  refine .sr ?_
  refine .q .da ?_
  refine .mo rfl<|.bN rfl rfl<|.az rfl ?_
  refine .ret (bf (aI (bu _ (.two (.ei rfl rfl) (.tmp rfl)) (bp.one [] _) ?_)))
  ·exact(J _ _ _).2 ⟨_,[],_,rfl,by rw[r,afm a1,afn I,I];rfl,RS.fH,λp f=>(by cases f),by rw[r,afm a1,afn I];rfl⟩
  have I:scan S rev=true:=by
    cases I:scan S rev with
    |true=>rfl
    |false=>simp[I]at h3
  rw[afm a1,afm (by rw[I];simp)]at r
  refine .skip<|bi<|ay<|.sr<|.mo rfl<|.mo rfl ?_
  refine .dq ((hV.at_ rev e9).weaken cZ) (λu Tc a=>?_)
  obtain⟨U,rfl,Z,v⟩:=a
  rw[d9]at v
  have i0:bZ U.enc:=⟨Z.cN⟩
  have h6:One U.vs:=RS.aq Z.ss
  have h7:One U.vc:=RS.aq Z.sc
  refine .mo rfl<|.q .extract<|.q .extract ?_
  refine .bV (λg5=>?_)
  refine .bN rfl rfl<|.ag rfl<|.zs ?_
  refine bF.dt [(4,_),(9,_),(12,_)] kE.c.c.c (X:=Nat×Nat×Value×aH) (λy=>MS lT kC y.2.2.1 (lW cp num) y.2.2.2) (λy E=>(18,.pointer (some ⟨y.1,0,none⟩))::E) (λy=>[XC.iB ⟨U,num,y.2.2.1,g,S,L,rev,b⟩ y.1 (.map (some y.2.1)) (sZ) 0,[(y.2.1,.map #[] 0)],[],[],Tc,y.2.2.2,bl b3 [sZ,.int .i64 0] 80,bl b9 [.string k.os,.string k.oi] 30]) ?_ ?_
  refine .dg [] mixed ?_
  refine .tO 0 rfl (.aP rfl)<|.tO 1 rfl (.aP rfl)<|.tO 2 rfl .move<|.tO 3 rfl .move<|.tO 6 rfl .move<|.tO 7 rfl .move<|.tO 9 rfl .move ?_
  refine RA.kR 4 8 rfl rfl (by kernel_rfl) rfl ?_ ?_
  refine .dq ((hV.numbers rev c2).weaken cZ) (λu Tn a=>?_)
  obtain⟨ll,a0,a2⟩:=a
  rw[b6]at a2
  have g0:=a0.rs.aq
  refine .nil (Next.sub ?_)
  refine RA.kR 5 8 rfl rfl (by kernel_rfl) rfl ?_ ?_
  refine .dq ((uf U (λb o=>(b,o)∈Tc\/(b,o)∈Tn) (Z.mono λb o hb=>.inl hb) (by rw[v];exact V.dZ) _ ll num (a0.mono λb o hb=>.inr hb) (by rw[v];exact a2) (by rw[v];exact V.len)).weaken λb o hb=>.inr (by rcases hb with hb|hb<;>simp[hb])) (λu w a=>?_)
  obtain⟨mn,rfl⟩:∃m,u=.map (some m):=by obtain⟨b,_,_,h,_⟩:=a;exact⟨b,h⟩
  refine .nil (Next.sub ?_)
  refine .sT 8 rfl ?_
  refine .makeMap (λB=>?_)
  refine .nil (Next.sub ?_)
  refine .tO 10 rfl .da ?_
  refine .sT 11 rfl ?_
  refine .cj rfl (λC=>?_)
  refine .nil (Next.sub ?_)
  refine .tO 12 rfl .assign ?_
  refine RA.nil (by kernel_rfl) ?_
  ·first
      |exact aG (C,B,_,w) (by rw[<-v];exact a) ((((kE.d rfl).d rfl).d rfl).d rfl) (bp.iG.trans (aQ [2,2,0,0,3,0,3,3]))
      |exact aG (C,B,_,w) (by rw[<-v];exact a) ((((kE.d rfl).d rfl).d rfl).d rfl) (bp.iG.trans (aQ [2,3,0,0,3,0,3,3]))
      |exact aG (C,B,_,w) (by rw[<-v];exact a) ((((kE.d rfl).d rfl).d rfl).d rfl) (bp.iG.trans (aQ [2,4,0,0,3,0,3,3]))
  refine .makeMap (λB=>?_)
  refine .nil (Next.sub ?_)
  refine .sT 5 rfl ?_
  refine .dq ((uf U (λb o=>(b,o)∈Tc\/(b,o)∈Tn) (Z.mono λb o hb=>.inl hb) (by rw[v];exact V.dZ) _ ll num (a0.mono λb o hb=>.inr hb) (by rw[v];exact a2) (by rw[v];exact V.len)).weaken λb o hb=>.inr (by rcases hb with hb|hb<;>simp[hb])) (λu w a=>?_)
  obtain⟨mn,rfl⟩:∃m,u=.map (some m):=by obtain⟨b,_,_,h,_⟩:=a;exact⟨b,h⟩
  refine .nil (Next.sub ?_)
  refine .tO 10 rfl .da ?_
  refine .sT 11 rfl ?_
  refine .cj rfl (λC=>?_)
  refine .nil (Next.sub ?_)
  refine .tO 12 rfl .assign ?_
  refine RA.nil (by kernel_rfl) ?_
  ·first
      |exact aG (C,B,_,w) (by rw[<-v];exact a) ((((kE.d rfl).d rfl).d rfl).d rfl) (bp.iG.trans (aQ [2,2,0,0,3,0,3,3]))
      |exact aG (C,B,_,w) (by rw[<-v];exact a) ((((kE.d rfl).d rfl).d rfl).d rfl) (bp.iG.trans (aQ [2,3,0,0,3,0,3,3]))
      |exact aG (C,B,_,w) (by rw[<-v];exact a) ((((kE.d rfl).d rfl).d rfl).d rfl) (bp.iG.trans (aQ [2,4,0,0,3,0,3,3]))
  refine .makeMap (λB=>?_)
  refine .nil (Next.sub ?_)
  refine .sT 4 rfl ?_
  refine .dq ((hV.numbers rev c2).weaken cZ) (λu Tn a=>?_)
  obtain⟨ll,a0,a2⟩:=a
  rw[b6]at a2
  have g0:=a0.rs.aq
  refine .nil (Next.sub ?_)
  refine .sT 5 rfl ?_
  refine .dq ((uf U (λb o=>(b,o)∈Tc\/(b,o)∈Tn) (Z.mono λb o hb=>.inl hb) (by rw[v];exact V.dZ) _ ll num (a0.mono λb o hb=>.inr hb) (by rw[v];exact a2) (by rw[v];exact V.len)).weaken λb o hb=>.inr (by rcases hb with hb|hb<;>simp[hb])) (λu w a=>?_)
  obtain⟨mn,rfl⟩:∃m,u=.map (some m):=by obtain⟨b,_,_,h,_⟩:=a;exact⟨b,h⟩
  refine .nil (Next.sub ?_)
  refine .tO 10 rfl .da ?_
  refine .sT 11 rfl ?_
  refine .cj rfl (λC=>?_)
  refine .nil (Next.sub ?_)
  refine .tO 12 rfl .assign ?_
  refine RA.nil (by kernel_rfl) ?_
  ·first
      |exact aG (C,B,_,w) (by rw[<-v];exact a) ((((kE.d rfl).d rfl).d rfl).d rfl) (bp.iG.trans (aQ [2,2,0,0,3,0,3,3]))
      |exact aG (C,B,_,w) (by rw[<-v];exact a) ((((kE.d rfl).d rfl).d rfl).d rfl) (bp.iG.trans (aQ [2,3,0,0,3,0,3,3]))
      |exact aG (C,B,_,w) (by rw[<-v];exact a) ((((kE.d rfl).d rfl).d rfl).d rfl) (bp.iG.trans (aQ [2,4,0,0,3,0,3,3]))
  intro y hy
  obtain⟨xb,Q,vn,w⟩:=y
  simp only at hy⊢
  obtain⟨x,a3⟩:∃x:XC,x=⟨U,num,vn,g,S,L,rev,b⟩:=⟨_,rfl⟩
  have i2:=hy.one
  have c7:x.sub=sub:=by rw[f9,a3];rfl
  have a7:x.c.plain=cp:=by rw[a3];exact v
  have a8:x.num=num:=by rw[a3]
  have K:x.b=b:=by rw[a3]
  obtain⟨Rc,H⟩:∃Rc:aw,Rc=λb o=>R b o\/(b,o)∈Tc\/(b,o)∈w:=⟨_,rfl⟩
  have a5:x.ok Rc:=by
    rw[a3,H]
    exact⟨Z.mono λb o hb=>.inr (.inl hb),by simp only;rw[v];exact hy.rm λp f=>.inr (.inr f),by simp only;rw[v];exact V.len,⟨c8,vf,vr,Mf,Mr,hS.mono λb o hb=>.inl hb⟩,hL,hl⟩
  have f7:=zb x Rc a5 xb
  have f5:=λR h=>Nn x Rc R h a5 xb
  have b2:=λR h=>Nw x R h xb
  rw[<-a3]
  refine ay<|.sr<|.mo rfl<|.q (.aP rfl)<|.mo rfl ?_
  refine .call [0,0,0] ((f7 [] 0 (.map (some Q)) (sZ) [(Q,.map #[] 0)] [] ⟨[],MS.nil,λk=>rfl⟩ OS.nil (by simp) k).weaken λb o hb=>by
    rw[H]at hb
    rcases hb with hb|hb|hb
    ·exact .inl hb
    ·exact .inr (by simp[rest,bK,hb])
    ·exact .inr (by simp[rest,bK,hb])) (λu H' a=>?_)
  obtain⟨c9,g2,d0,d2,rfl,rfl,e0,d4,d6,l1,c1,f6⟩:=a
  rw[afr]at c1
  subst c1
  conv=>arg 8;simp only[rest,bK,aft,afr]
  have h0:c9.map bh.plain=(opened cp num sub k 0).1:=by rw[e0,a7,a8];rfl
  refine .zs<|.sr<|.az rfl<|.block ?_
  refine .cL [(12,_),(18,_)] (X:=Nat×List bh×Value×aH×aH×aH) (λy=>(∀j,j<y.1->j<(opened cp num sub k j).1.length/\(((opened cp num sub k j).1.length+(opened cp num sub k j).2:Nat):Int)<=b)/\y.2.1.map bh.plain=(opened cp num sub k y.1).1/\iL y.2.1 (.map (some Q)) y.2.2.2.1/\OS 77 8 bh.enc y.2.2.1 y.2.1 y.2.2.2.2.1/\∀q∈y.2.1,q.is λb o=>Rc b o\/(b,o)∈y.2.2.2.2.2) (λy E=>(19,iN y.1)::E) (G:=[Tc,w,bl b3 [sZ,.int .i64 0] 80,bl b9 [.string k.os,.string k.oi] 30]) (λy G=>x.iB xb (.map (some Q)) y.2.2.1 (opened cp num sub k y.1).2::y.2.2.2.1::y.2.2.2.2.1::y.2.2.2.2.2::G) (λy=>N+1-y.1) (0,c9,g2,d0,d2,[]) ⟨λj hj=>(by omega),h0,d4,d6,λq hq=>(f6 q hq).mono λb o hb=>.inl hb⟩ kE.c.c.c rH ?_
  rintro⟨i,s,A,Ta,To,Tp⟩ ⟨hj,O,hA,F,M⟩
  simp only at hj O hA F M⊢
  have g1:=F.aq
  have i1:bZ (List.take 2 (List.drop 6 (x.cells (.map (some Q)) A (opened cp num sub k i).2))):=⟨λu a=>by
    simp[XC.cells]at a
    rcases a with rfl|rfl
    ·exact g1.h
    ·rfl⟩
  have a9:∀j,j<i->j<(opened cp num sub k j).1.length:=λj Y=>(hj j Y).1
  have b7:=Np hN a9
  have g8:=c3 i a9
  have c6:s.length=(opened cp num sub k i).1.length:=by rw[<-O,afo]
  refine .seq<|.sr<|.mo rfl<|.mo rfl<|.nc rfl<|.fa rfl<|.fa rfl<|.lo rfl<|.q (.fD F) ?_
  refine .q .lss<|.mo rfl ?_
  refine .split (t:=80) rfl (λD=>?_) (λD=>?_)
  have b8:i<s.length:=by have:=cq D;omega
  refine .gT D<|.mo rfl<|.gT D ?_
  refine .aR (b2 _ (a5.mono λb o hb=>by
    rw[H]at hb
    rcases hb with hb|hb|hb
    ·exact .inl hb
    ·exact .inr (by simp[hb])
    ·exact .inr (by simp[hb])) (.map (some Q)) A (opened cp num sub k i).2 s (pc:=PC.of (E:=160) (fr:=(0,0)) (.inr (by simp))) F.rx (by omega) (by rw[K];omega)) (λu a=>?_)
  subst a
  refine .gT D<|.q .not<|.q (.aZ D) ?_
  refine .zn ?_
  refine .cond rfl (λh4=>?_) λh4=>?_
  have f1:(((opened cp num sub k i).1.length+(opened cp num sub k i).2:Nat):Int)<=b:=by
    have:¬x.b<(s.length+(opened cp num sub k i).2:Nat):=by simpa using h4
    rw[K]at this;omega
  obtain⟨p,f⟩:=cm b8
  have b0:p.plain=one x.c.plain x.num p.k:=by
    rw[a7,a8]
    exact yP (c:=cp) (num:=num) (sub:=sub) (k:=k) i i p.plain (Nat.le_refl _) (by rw[<-O,afz,f];rfl)
  have f2:p.nodes.length<=1000000:=by
    have Y:=uh (num:=num) (k:=p.k) V.right
    rw[a7,a8]at b0
    rw[<-b0]at Y
    exact afu Y (by omega)
  have c0:∀j,j<i+1->j<(opened cp num sub k j).1.length/\(((opened cp num sub k j).1.length+(opened cp num sub k j).2:Nat):Int)<=b:=λj Y=>by
    rcases Nat.lt_or_ge j i with h8|h8
    ·exact hj j h8
    ·obtain rfl:j=i:=by omega
     exact⟨by omega,f1⟩
  have g9:=c3 (i+1) λj Y=>(c0 j Y).1
  have c5:=Ns (c:=cp) (num:=num) (sub:=sub) (k:=k) i
  have c4:(eX cp num sub (s.map bh.plain) i).1=(opened cp num sub k (i+1)).1:=by rw[c5,O]
  have f4:(opened cp num sub k i).2+(eX cp num sub (s.map bh.plain) i).2=(opened cp num sub k (i+1)).2:=by rw[c5,O]
  refine .kn<|.seq<|.block<|.region<|.mo rfl<|.mo rfl ?_
  refine .call [0,0,0] (f5 _ (λb o hb=>by
    rw[H]at hb
    rcases hb with hb|hb|hb
    ·exact .inl hb
    ·exact .inr (by simp[rest,bK,hb])
    ·exact .inr (by simp[rest,bK,hb])) s (opened cp num sub k i).2 (.map (some Q)) A Ta To hA F i p f ((M p (aV f)).n.mono λb o hb=>by
    rw[H]at hb
    rcases hb with(hb|hb|hb)|hb
    ·exact .inl hb
    ·exact .inr (by simp[rest,bK,hb])
    ·exact .inr (by simp[rest,bK,hb])
    ·exact .inr (by simp[rest,bK,hb])) b0 f2 (by rw[a7,a8,c7,c4];omega) (by omega)) (λu H' a=>?_)
  rw[sJ,a7,a8,c7,c4,f4]at a
  obtain⟨g3,d1,d3,TL,Tr,Tu,l,q,rfl,f0,e6,d5,d7,f8⟩:=a
  conv=>arg 8;simp only[rest,bK,aft,afr]
  refine .nil<|bi<|ay<|.region<|.mo rfl ?_
  refine .ia (i+1) .add ?_
  refine .ag rfl<|.nil ?_
  ·exact aW (i+1,(s++l).set i q,g3,d1,d3,TL++(Tr++(Tu++Tp))) ⟨c0,e6,d5,d7,λz hz=>by
      rcases List.mem_or_eq_of_mem_set hz with hz|rfl
      ·rcases afF.1 hz with hz|hz
       ·exact(M z hz).mono λb o hb=>hb.imp id λhb=>afy _ (afy _ (afy _ hb))
       ·exact(f0 z hz).mono λb o hb=>.inl hb
      ·rcases f8 with rfl|⟨e1,e2,e3,e4,e5⟩
       ·exact(M _ (aV f)).mono λb o hb=>hb.imp id λhb=>afy _ (afy _ (afy _ hb))
       ·refine⟨?_,e3.mono λb o hb=>.inr (afy _ (afy _ (afL _ hb))),e4.mono λb o hb=>.inr (afL _ hb),λy hy=>(e5 y hy).mono λb o hb=>.inr (afy _ (afL _ hb))⟩
        rw[e1,e2]
        exact(M p (aV f)).n.mono λb o hb=>hb.imp id λhb=>afy _ (afy _ (afy _ hb))⟩ (by simp only;omega) kE.c.c.c (bp.eu (by simp[dh]))
  refine .exit<|bz<|bG<|bB<|ay<|.seq<|.sr<|.mo rfl ?_
  refine .aR (b2 _ (a5.mono λb o hb=>by
    rw[H]at hb
    rcases hb with hb|hb|hb
    ·exact .inl hb
    ·exact .inr (by simp[hb])
    ·exact .inr (by simp[hb])) (.map (some Q)) A (opened cp num sub k i).2 s (pc:=PC.of (E:=160) (fr:=(0,0)) (.inr (by simp))) F.rx (by omega) (by rw[K];omega)) (λu a=>?_)
  subst a
  refine .zn ?_
  refine .cond rfl (λW=>?_) λW=>?_
  have a6:b<(((opened cp num sub k i).1.length+(opened cp num sub k i).2:Nat):Int):=by
    have:x.b<(s.length+(opened cp num sub k i).2:Nat):=by simpa using W
    rw[K]at this;omega
  obtain⟨e7,e8⟩:=uj (c:=cp) (num:=num) (sub:=sub) (k:=k) b7
  rw[afm (by omega)]at r
  refine .sr ?_
  refine .q .da ?_
  refine .bN rfl rfl<|.az rfl ?_
  refine .ret (aI (bu _ (.two (.ei rfl rfl) (.tmp rfl)) (bp.one [2,2,2,2] _) ?_))
  ·first
      |exact(J _ _ _).2 ⟨_,[],_,rfl,by rw[r];rfl,RS.fH,λp f=>(by cases f),by rw[r];rfl⟩
      |exact(J _ _ _).2 ⟨A,s,_,rfl,by rw[r];rfl,F.rs λp f=>.inr (by simp[take,bK,f]),λp f=>(M p f).mono λb o hb=>(by
          rw[H]at hb
          rcases hb with(hb|hb|hb)|hb
          ·exact .inl hb
          ·exact .inr (by simp[take,bK,hb])
          ·exact .inr (by simp[take,bK,hb])
          ·exact .inr (by simp[take,bK,hb])),by rw[r];exact O⟩
  have a6:(((opened cp num sub k i).1.length+(opened cp num sub k i).2:Nat):Int)<=b:=by
    have:¬x.b<(s.length+(opened cp num sub k i).2:Nat):=by simpa using W
    rw[K]at this;omega
  have b1:i=N:=by
    refine gH.dZ (c:=cp) (num:=num) (sub:=sub) (k:=k) ⟨?_,a9⟩ hN
    first
      |(rw[<-c6];omega)
      |(exfalso
        have:x.b<(s.length+(opened cp num sub k i).2:Nat):=by simpa using h4
        rw[K]at this
        omega)
  subst b1
  rw[afn a6]at r
  refine .kn<|.sr<|.mo rfl<|.nc rfl<|.fa rfl<|.q (.loadT rfl) ?_
  refine .bN rfl rfl<|.az rfl ?_
  refine .ret (bu _ (.two (.ei rfl rfl) (.tmp rfl)) (bp.one [2,2,2,2] _) ?_)
  ·first
      |exact(J _ _ _).2 ⟨_,[],_,rfl,by rw[r];rfl,RS.fH,λp f=>(by cases f),by rw[r];rfl⟩
      |exact(J _ _ _).2 ⟨A,s,_,rfl,by rw[r];rfl,F.rs λp f=>.inr (by simp[take,bK,f]),λp f=>(M p f).mono λb o hb=>(by
          rw[H]at hb
          rcases hb with(hb|hb|hb)|hb
          ·exact .inl hb
          ·exact .inr (by simp[take,bK,hb])
          ·exact .inr (by simp[take,bK,hb])
          ·exact .inr (by simp[take,bK,hb])),by rw[r];exact O⟩
  have b8:¬i<s.length:=by have:=bC D;omega
  refine .gF D<|.gF D<|.gF D<|.q (.aX D) ?_
  refine .zn<|.bQ<|.exit<|bz<|bG<|bB<|ay<|.seq<|.sr<|.mo rfl ?_
  refine .aR (b2 _ (a5.mono λb o hb=>by
    rw[H]at hb
    rcases hb with hb|hb|hb
    ·exact .inl hb
    ·exact .inr (by simp[hb])
    ·exact .inr (by simp[hb])) (.map (some Q)) A (opened cp num sub k i).2 s (pc:=PC.of (E:=160) (fr:=(0,0)) (.inr (by simp))) F.rx (by omega) (by rw[K];omega)) (λu a=>?_)
  subst a
  refine .zn ?_
  refine .cond rfl (λW=>?_) λW=>?_
  have a6:b<(((opened cp num sub k i).1.length+(opened cp num sub k i).2:Nat):Int):=by
    have:x.b<(s.length+(opened cp num sub k i).2:Nat):=by simpa using W
    rw[K]at this;omega
  obtain⟨e7,e8⟩:=uj (c:=cp) (num:=num) (sub:=sub) (k:=k) b7
  rw[afm (by omega)]at r
  refine .sr ?_
  refine .q .da ?_
  refine .bN rfl rfl<|.az rfl ?_
  refine .ret (aI (bu _ (.two (.ei rfl rfl) (.tmp rfl)) (bp.one [2,2,2,2] _) ?_))
  ·first
      |exact(J _ _ _).2 ⟨_,[],_,rfl,by rw[r];rfl,RS.fH,λp f=>(by cases f),by rw[r];rfl⟩
      |exact(J _ _ _).2 ⟨A,s,_,rfl,by rw[r];rfl,F.rs λp f=>.inr (by simp[take,bK,f]),λp f=>(M p f).mono λb o hb=>(by
          rw[H]at hb
          rcases hb with(hb|hb|hb)|hb
          ·exact .inl hb
          ·exact .inr (by simp[take,bK,hb])
          ·exact .inr (by simp[take,bK,hb])
          ·exact .inr (by simp[take,bK,hb])),by rw[r];exact O⟩
  have a6:(((opened cp num sub k i).1.length+(opened cp num sub k i).2:Nat):Int)<=b:=by
    have:¬x.b<(s.length+(opened cp num sub k i).2:Nat):=by simpa using W
    rw[K]at this;omega
  have b1:i=N:=by
    refine gH.dZ (c:=cp) (num:=num) (sub:=sub) (k:=k) ⟨?_,a9⟩ hN
    first
      |(rw[<-c6];omega)
      |(exfalso
        have:x.b<(s.length+(opened cp num sub k i).2:Nat):=by simpa using h4
        rw[K]at this
        omega)
  subst b1
  rw[afn a6]at r
  refine .kn<|.sr<|.mo rfl<|.nc rfl<|.fa rfl<|.q (.loadT rfl) ?_
  refine .bN rfl rfl<|.az rfl ?_
  refine .ret (bu _ (.two (.ei rfl rfl) (.tmp rfl)) (bp.one [2,2,2,2] _) ?_)
  ·first
      |exact(J _ _ _).2 ⟨_,[],_,rfl,by rw[r];rfl,RS.fH,λp f=>(by cases f),by rw[r];rfl⟩
      |exact(J _ _ _).2 ⟨A,s,_,rfl,by rw[r];rfl,F.rs λp f=>.inr (by simp[take,bK,f]),λp f=>(M p f).mono λb o hb=>(by
          rw[H]at hb
          rcases hb with(hb|hb|hb)|hb
          ·exact .inl hb
          ·exact .inr (by simp[take,bK,hb])
          ·exact .inr (by simp[take,bK,hb])
          ·exact .inr (by simp[take,bK,hb])),by rw[r];exact O⟩
def bh.zero(k:bc):bh:=⟨k,false,sZ,[],sZ,[],sZ,[],0⟩
def PU(R:aw)(A:List (ByteArray×Rl))(num:List Nat)(k:bc)(m:Nat)(p:bh):Prop:=
 (p=bh.zero k/\∀j x,j<m->A[j]? =some x->eg x≠⟨k.os,k.rel⟩)\/
 ∃j x vn,j<m/\A[j]? =some x/\eg x=⟨k.os,k.rel⟩/\p=⟨k,true,vn,x.2.nodes,sZ,[],sZ,[],num.getD j 0⟩/\RS R 5 Nd.enc vn x.2.nodes
theorem PU.skip{R:aw}{A:List (ByteArray×Rl)}{num:List Nat}{k:bc}{m:Nat}{p:bh}{x:ByteArray×Rl}(h:PU R A num k m p)(f:A[m]? =some x)(d:eg x≠⟨k.os,k.rel⟩):PU R A num k (m+1) p:=by
 rcases h with⟨e,b⟩|⟨j,y,g,b,c⟩
 ·refine .inl ⟨e,λj y i a=>?_⟩
  rcases Nat.lt_or_ge j m with h3|h3
  ·exact b j y h3 a
  ·obtain rfl:j=m:=by omega
   rw[f]at a;cases a;exact d
 ·exact .inr ⟨j,y,g,by omega,c⟩
theorem MV{A:List (ByteArray×Rl)}(a:(A.map eg).Nodup){i j:Nat}{x y:ByteArray×Rl}{t:Ty}(f:A[i]? =some x)(g:A[j]? =some y)(d:eg x=t)(e:eg y=t):i=j:=by
 have b:(A.map eg)[i]? =some t:=by rw[afz,f, <-d];rfl
 have c:(A.map eg)[j]? =some t:=by rw[afz,g, <-e];rfl
 rcases Nat.lt_trichotomy i j with h|h|h
 ·exact absurd a (mD h c b rfl)
 ·exact h
 ·exact absurd a (mD h b c rfl)
theorem PU.same{R:aw}{A:List (ByteArray×Rl)}{num:List Nat}{k:bc}{m:Nat}{p:bh}(h:PU R A num k m p)(r:A.length<=m)(n:(A.map eg).Nodup){c:Cf}(g:c.all=A):p.plain=one c num k/\p.is R:=by
 unfold one
 rw[g]
 rcases h with⟨rfl,d⟩|⟨j,x,s,d,a,e,rfl,f⟩
 ·rw[xr λj y q b=>d j y (by omega) b]
  exact⟨rfl,RS.fH,RS.fH,NN.nil⟩
 ·rw[xu a e λi y o b l=>by have:=MV n a b e l;omega]
  refine⟨?_,f,RS.fH,NN.nil⟩
  simp only[bh.plain,afU,afz,a]
  rfl
def ep(S:dd)(L:List bA)(rev:Int)(k:bc):List Sub:=if scan S rev then(L.filter λy=>y.there rev&&decide (y.t.dc=k)).map (·.t.sub)else []
structure WS(R:aw)(cp:Cf)(c:bP)(hb g x:Nat)(S:dd)(num:List Nat)(L:List bA):Prop where
 ci:c.is R
 pl:c.plain=cp
 h:∃vl e,HV R hb vl [e] 0/\e.rev=0/\e.c.plain=cp/\e.ll.map (·.2)=rows cp.bd num
 s:∃ps vf vr Mf Mr,SV R g S ps vf vr Mf Mr
 d:∃vL,DV R x S vL L
 rl:fM S L
 qg:gn S
 len:S.rows.length<=512
 m:nt isWord de cp num
 nm:(cp.numbers isWord de).2=rows cp.bd num
 kw:cp.bd.length<=5/\∀y∈cp.bd,y.bU.length<=6
theorem WS.mono{R R':aw}{cp:Cf}{c:bP}{f g x:Nat}{S:dd}{num:List Nat}{L:List bA}(h:WS R cp c f g x S num L)(a:∀b o,R b o->R' b o):WS R' cp c f g x S num L:=by
 obtain⟨w,e,k,l,n,p⟩:=h.h
 obtain⟨t,v,y,i,j,q⟩:=h.s
 obtain⟨u,r⟩:=h.d
 exact⟨h.ci.mono a,h.pl,⟨w,e,k.mono a,l,n,p⟩,⟨t,v,y,i,j,q.mono a⟩,⟨u,r.mono a⟩,h.rl,h.qg,h.len,h.m,h.nm,h.kw⟩
theorem Bq(c:Cf):(iC c).bd.length<=5/\∀y∈(iC c).bd,y.bU.length<=6:=by
 unfold iC
 refine⟨by simp only[afo,afv];omega,λy a=>?_⟩
 simp only at a
 obtain⟨s,_,rfl⟩:=afH.1 a
 unfold qU
 simp only[afo,afv]
 omega
section
variable{R:aw}{cp:Cf}{c:bP}{hb g x:Nat}{S:dd}{num:List Nat}{L:List bA}
theorem WS.row(h:WS R cp c hb g x S num L):∀y∈L,et y.t=true:=λy a=>(h.qg.ok y (h.rl.pm.mem_iff.1 a)).1
theorem WS.ll(h:WS R cp c hb g x S num L):L.length<=512:=by rw[h.rl.pm.length_eq];exact h.len
theorem PR(S:dd)(L:List bA)(rev:Int):∃M:List (bc×Sub),M.length<=L.length/\(∀y∈M,∃r∈L,y=(r.t.dc,r.t.sub))/\fE M=ep S L rev:=by
 refine⟨if scan S rev then(L.filter λy=>y.there rev).map λy=>(y.t.dc,y.t.sub)else [],?_,?_,?_⟩
 ·split
  ·rw[afo];exact afG _ _
  ·simp
 ·intro y b
  split at b
  ·obtain⟨r,c,rfl⟩:=afH.1 b
   exact⟨r,(List.mem_filter.1 c).1,rfl⟩
  ·cases b
 ·funext k
  unfold fE ep
  split
  ·rw[List.filter_map,afY,List.filter_filter]
   have:(λa:bA=>((λx:bc×Sub=>decide (x.1=k))∘λy:bA=>(y.t.dc,y.t.sub)) a&&a.there rev)=λy:bA=>y.there rev&&decide (y.t.dc=k):=by
    funext y
    simp[Bool.and_comm]
   rw[this]
   rfl
  ·rfl
theorem uS{rev:Int}{k:bc}{s:Sub}(h:s∈ep S L rev k):∃r∈L,s=r.t.sub:=by
 unfold ep at h
 split at h
 ·obtain⟨r,a,rfl⟩:=afH.1 h
  exact⟨r,(List.mem_filter.1 a).1,rfl⟩
 ·cases h
theorem WS.pQ(h:WS R cp c hb g x S num L)(rev:Int)(k:bc)(i:Nat)(a:∀j,j<i->j<(opened cp num (ep S L rev) k j).1.length):(opened cp num (ep S L rev) k i).1.length+(opened cp num (ep S L rev) k i).2<=1048576:=by
 obtain⟨M,b,_,d⟩:=PR S L rev
 rw[<-d]at a⊢
 obtain⟨E,e,_⟩:=h.m.ex
 exact Qb e h.m.right h.m.dZ h.kw.2 (afu b (afu h.ll (by decide))) k i a
theorem WS.fin(h:WS R cp c hb g x S num L)(rev:Int)(k:bc):∃N,gH cp num (ep S L rev) k N:=by
 have d:∀k,∀s∈ep S L rev k,s∈L.map (·.t.sub):=λk s b=>by
  obtain⟨r,a,rfl⟩:=uS b
  exact afH.2 ⟨r,a,rfl⟩
 exact gH.ex λi=>Nq (NZ d) Pe i
theorem WS.small(h:WS R cp c hb g x S num L)(rev:Int){B:Nat}(b:32<=B){k:bc}(e:jq B k)(i:Nat):∀p∈(opened cp num (ep S L rev) k i).1,jq B p.k:=
 Nr h.m.right (λs d=>afu (pM d) b) (λk s d=>by
  obtain⟨r,f,rfl⟩:=uS d
  have a:=h.row r f
  unfold et at a
  simp only[afS]at a
  have a:=a.2
  unfold gv at a
  split at a
  ·unfold de at a
   simp only[afS]at a
   exact⟨afu (pM a.1.1) b,afu (tx a.1.2) b,afu (pM a.2) b⟩
  ·simp only[afS,decide_eq_true_eq]at a
   rw[a.2.1.1,a.2.1.2,a.2.2]
   exact⟨afp _,afp _,afp _⟩) e i
theorem WS.oV(h:WS R cp c hb g x S num L)(rev:Int)(k:bc):(fitting cp (ep S L rev) k).length<=512:=by
 unfold fitting
 refine afu (afG _ _) ?_
 unfold ep
 split
 ·rw[afo]
  exact afu (afG _ _) h.ll
 ·simp
theorem WS.qA(h:WS R cp c hb g x S num L)(rev:Int)(k:bc)(n:Nd):(eh cp (ep S L rev) k n).length<=512:=by
 have a:∀k,(fK cp (ep S L rev) k).length<=512:=λk=>afu (afG _ _) (h.oV rev k)
 unfold eh
 split
 ·rw[afo];exact a _
 ·split
  ·rw[afo];exact a _
  ·split<;>simp
theorem WS.lI(h:WS R cp c hb g x S num L)(rev:Int)(D:0<=rev)(k:bc)(b:Int)(w:b<=9223372036854775807){N:Nat}(r:gH cp num (ep S L rev) k N):
  Spec prog 23 [pT hb,pT g,.int .u64 rev,.agg [.string k.os,.string k.oi].toArray,.string k.rel,.int .i64 b] R [] (qn R (lI cp num (ep S L rev) k b (scan S rev) N)):=by
 obtain⟨J,e,u,y,z,f⟩:=h.h
 obtain⟨H,I,K,E,F,t⟩:=h.s
 have v:la [e] rev=some e:=by
  unfold la
  have:hl [e] rev 1=some 0:=by
   simp only[hl,List.getElem?_cons_zero,y]
   simp[D]
  rw[show([e]:List ek).length=1 from rfl,this]
  rfl
 have A:=h.pQ rev k
 subst z
 exact BN u t h.rl (afu h.len (by decide)) rev e v num h.m f (by simp) (λa j=>by
  rw[afD]at j
  subst j
  have G:a.ll.length=a.c.plain.bd.length:=by rw[<-oM a.c.plain.bd num, <-f,afo]
  refine⟨by have:=h.kw.1;omega,λq B=>?_⟩
  have C:q.2∈rows a.c.plain.bd num:=by rw[<-f];exact afH.2 ⟨q,B,rfl⟩
  obtain⟨i,d,o⟩:=afT.1 C
  rw[oM]at d
  have l:=qb (n:=num) (bE d)
  rw[bE (by rw[oM];exact d),o]at l
  have p:=Option.some.inj l
  rw[p,afv]
  have:=h.kw.2 _ (List.getElem_mem d)
  omega) k b w (ep S L rev) rfl A N r
end
theorem Mv(w:lF)(R:aw)(h:w.is R):Spec prog 4 [.agg w.enc.toArray] R [] λu H'=>∃T,H'=[T]/\∃(c:bP) (p1 p2 p3:Value) (ok:Bool),u=.tuple [p1,p2,.agg c.enc.toArray,p3,.bool ok].toArray/\One p1/\One p2/\One p3/\c.is (λb o=>R b o\/(b,o)∈T)/\c.plain=iC w.c.plain/\ok=decide (((iC w.c.plain).numbers isWord de).1=0)/\
  (ok=true->∃hb g x S num L,p1=pT hb/\p2=pT g/\p3=pT x/\WS (λb o=>R b o\/(b,o)∈T) (iC w.c.plain) c hb g x S num L):=by
 refine Spec.flat ((Mw w R h).mono λu H' hu=>?_)
 rcases hu with hu|⟨T,c,x,rfl,rfl,k,a,l⟩
 ·obtain⟨d,f,i,j,hb,g,x,e,S,c,rfl,rfl,k,a,l,E,n,y,A,B,t,F⟩:=hu
  obtain⟨num,q,G⟩:=Nf l
  refine⟨_,d++(f++(i++j)),rfl,by simp,_,rfl,c,_,_,_,true,rfl,⟨rfl⟩,⟨rfl⟩,⟨rfl⟩,k.mono λb o hb=>hb.imp id λhb=>afL _ hb,a,by rw[l];rfl,λ_=>?_⟩
  obtain⟨K,m⟩:=y.view (R:=λb o=>R b o\/(b,o)∈d++(f++(i++j))) λp a=>.inr (afy _ (afL _ a))
  obtain⟨H,J,M,r,s,C⟩:=A.view (R:=λb o=>R b o\/(b,o)∈d++(f++(i++j))) λp a=>.inr (afy _ (afy _ (afL _ a)))
  obtain⟨I,L,v,z⟩:=t.view (R:=λb o=>R b o\/(b,o)∈d++(f++(i++j))) λp a=>.inr (afy _ (afy _ (afy _ a)))
  have D:=m.all e (by simp)
  exact⟨hb,g,x,S,num,L,rfl,rfl,rfl,k.mono λb o hb=>hb.imp id λhb=>afL _ hb,a,⟨K,e,m,E,n,by rw[D.eq,n,q]⟩,⟨H,J,M,r,s,C⟩,⟨I,v⟩,z,B,F,G,q,Bq _⟩
 ·exact⟨_,T,rfl,by simp,_,rfl,c,_,_,_,false,rfl,⟨rfl⟩,⟨rfl⟩,⟨rfl⟩,k,a,(afR l).symm,λh=>(by cases h)⟩
abbrev JV:=List Value×J
abbrev iD(p:JV):List Value:=p.1
def jt(s:ByteArray):List Value:=[.int .i64 3,.bool false,.int .i64 0,.string s,sZ,sZ]
theorem nK(R:aw)(s:ByteArray):di R (jt s) (dG s):=.mk (l:=[]) RS.fH RS.fH λp a=>(by cases a)
def jn(n:Int):List Value:=[.int .i64 2,.bool false,.int .i64 n,.string ⟨#[]⟩,sZ,sZ]
theorem xN(R:aw)(n:Int):di R (jn n) (ko n):=.mk (l:=[]) RS.fH RS.fH λp a=>(by cases a)
def jb(b:Bool):List Value:=[.int .i64 1,.bool b,.int .i64 0,.string ⟨#[]⟩,sZ,sZ]
theorem Ly(R:aw)(b:Bool):di R (jb b) (nH b):=.mk (l:=[]) RS.fH RS.fH λp a=>(by cases a)
def jz:List Value:=[.int .i64 0,.bool false,.int .i64 0,.string ⟨#[]⟩,sZ,sZ]
theorem xY(R:aw):di R jz m1:=.mk (l:=[]) RS.fH RS.fH λp a=>(by cases a)
instance QH(s:ByteArray):bZ (jt s):=⟨by simp[jt,aq]⟩
instance QG(n:Int):bZ (jn n):=⟨by simp[jn,aq]⟩
instance QE(b:Bool):bZ (jb b):=⟨by simp[jb,aq]⟩
theorem di.kw{R:aw}{cs:List Value}{j:J}(h:di R cs j):cs.length=6:=by cases h;rfl
theorem ng{cs:List Value}(h:cs.length=6):∃a b c d f g,cs=[a,b,c,d,f,g]:=by
 match cs,h with
 |[a,b,c,d,f,g],_=>exact⟨a,b,c,d,f,g,rfl⟩
theorem uU(s:ByteArray)(R:aw):Spec prog 52 [.string s] R [] λu H'=>u=.agg (jt s).toArray/\H'=[]:=by
 refine Spec.body func52 rfl results52 ntmps52 rfl ?_
 refine .sr ?_
 refine .bV (λa=>?_)
 refine .z<|.mo rfl ?_
 refine .q .da ?_
 refine .bN rfl rfl<|.zn ?_
 refine .ret (bu _ (.one (.ei rfl rfl)) (.none _) ?_)
 ·exact⟨rfl,rfl⟩
theorem yD(k:bc)(e:List Value) [ie:bZ e](g:e.length=5)(p:k.os.size<=1000000000000000)(r:k.oi.size<=1000000000000000)(s:k.rel.size<=1000000000000000)(R:aw):Spec prog 53 [.agg (.string k.os:: .string k.oi:: .string k.rel::e).toArray] R [] λu H'=>u=.string (kq k)/\H'=[]:=by
 obtain⟨i,j,l,m,n,rfl⟩:∃a b c d f,e=[a,b,c,d,f]:=by
  match e,g with
  |[a,b,c,d,f],_=>exact⟨a,b,c,d,f,rfl⟩
 have t:bZ (Value.string k.os:: .string k.oi:: .string k.rel::[i,j,l,m,n]):=⟨λu hu=>by
  simp only[afx,afA,afB]at hu
  rcases hu with rfl|rfl|rfl|hu
  ·rfl
  ·rfl
  ·rfl
  ·exact ie.h u (by simpa using hu)⟩
 have v:(⟨#[58]⟩:ByteArray).size=1:=rfl
 have w:(⟨#[35]⟩:ByteArray).size=1:=rfl
 refine Spec.body func53 rfl results53 ntmps53 rfl ?_
 refine .sr ?_
 refine .cj rfl (λo=>?_)
 refine .ag rfl<|.z<|.fa rfl<|.fa rfl<|.lo rfl ?_
 refine .q (.qy (by omega) rfl rfl) ?_
 refine .fa rfl<|.fa rfl<|.lo rfl ?_
 refine .q (.qy (by simp only[af5];omega) rfl rfl) ?_
 refine .q (.qy (by simp only[af5];omega) rfl rfl) ?_
 refine .fa rfl<|.lo rfl ?_
 refine .q (.qy (by simp only[af5];omega) rfl rfl) ?_
 refine .az rfl ?_
 refine .ret (aM rfl ?_)
 ·exact⟨rfl,rfl⟩
theorem Me(a:Int)(R:aw):Spec prog 99 [.int .i64 a] R [] λu H'=>u=.string (gw a)/\H'=[]:=by
 refine Spec.body func99 rfl results99 ntmps99 rfl ?_
 refine .sr<|.ag rfl<|.zs<|.sr<|.mo rfl<|.zn<|.block<|.sr<|.q .bw<|.az rfl ?_
 refine .cond rfl (λb=>?_) λb=>?_
 refine .sr<|.az rfl ?_
 refine .ret (bf (aI (aM rfl ?_)))
 ·refine⟨afq _ ?_,rfl⟩
  unfold gw
  simp_all
 refine .sr<|.q .bw<|.az rfl ?_
 refine .cond rfl (λc=>?_) λc=>?_
 refine .sr<|.az rfl ?_
 refine .ret (bf (aI (aM rfl ?_)))
 ·refine⟨afq _ ?_,rfl⟩
  unfold gw
  simp_all
 refine .sr<|.q .bw<|.az rfl ?_
 refine .cond rfl (λd=>?_) λd=>?_
 refine .sr<|.az rfl ?_
 refine .ret (bf (aI (aM rfl ?_)))
 ·refine⟨afq _ ?_,rfl⟩
  unfold gw
  simp_all
 refine .sr<|.q .bw<|.az rfl ?_
 refine .cond rfl (λe=>?_) λe=>?_
 refine .sr<|.az rfl ?_
 refine .ret (bf (aI (aM rfl ?_)))
 ·refine⟨afq _ ?_,rfl⟩
  unfold gw
  simp_all
 refine .sr<|.q .bw<|.az rfl ?_
 refine .cond rfl (λf=>?_) λf=>?_
 refine .sr<|.az rfl ?_
 refine .ret (bf (aI (aM rfl ?_)))
 ·refine⟨afq _ ?_,rfl⟩
  unfold gw
  simp_all
 refine .skip<|bi<|ay<|.sr<|.az rfl ?_
 refine .ret (aM rfl ?_)
 ·refine⟨afq _ ?_,rfl⟩
  unfold gw
  simp_all
def lS(s:ByteArray):JV:=(jt s,dG s)
def lP(v:Value):List Value:=[.int .i64 4,.bool false,.int .i64 0,.string ⟨#[]⟩,v,sZ]
instance QF(v:Value) [i:One v]:bZ (lP v):=⟨λu a=>by
 simp only[lP,afx,afA,afB]at a
 rcases a with rfl|rfl|rfl|rfl|rfl|rfl
 ·rfl
 ·rfl
 ·rfl
 ·rfl
 ·exact i.h
 ·rfl⟩
theorem ra{R:aw}{v:Value}{l:List JV}(h:RS R 6 iD v l)(a:∀p∈l,di R p.1 p.2):di R (lP v) (eE (l.map (·.2))):=.mk (l:=l) h RS.fH a
theorem Ag(v:Value)(l:List ByteArray)(R:aw)(h:RS R 1 dV v l)(x:l.length<=100000000):Spec prog 100 [v] R [] λu H'=>∃T,H'=[T]/\∃vo,u=.agg (lP vo).toArray/\OS 42 6 iD vo (l.map lS) T:=by
 have C:=h.aq
 refine Spec.fP (H':=[[]]) (by simp) ?_
 refine Spec.body func100 rfl results100 ntmps100 rfl ?_
 refine .sr ?_
 refine .bV (λm=>?_)
 refine .z ?_
 refine .q .da ?_
 refine .bV (λn=>?_)
 refine .bN rfl rfl<|.zs<|.sr<|.mo rfl<|.q (.bL h) ?_
 refine .mo rfl<|.zn<|.block ?_
 refine .cL [(2,_),(3,_),(7,_),(8,_)] (X:=Nat×Value×aH) (λy=>y.1<=l.length/\OS 42 6 iD y.2.1 ((l.take y.1).map lS) y.2.2) (λy E=>(9,iN y.1)::E) (G:=[bl m jz 42]) (λy G=>y.2.2::bl n (lP y.2.1) 42::G) (λy=>l.length-y.1) (0,sZ,[]) ⟨afp _,OS.nil⟩ kE.c.c.c.c.c (aQ [2,0,0]) ?_
 rintro⟨i,vo,k⟩ ⟨o,a⟩
 simp only at o a⊢
 have B:=a.aq
 refine .sr<|.q .lss<|.zs ?_
 refine .cond rfl (λb=>?_) λb=>?_
 have e:i<l.length:=cF b
 obtain⟨s,g⟩:=cm e
 have p:=er g
 refine .kn<|.seq<|.block<|.sr ?_
 refine .bI i h g (λD=>?_)
 refine .lo rfl<|.az rfl<|.dg [5,7] mixed ?_
 refine .tO 0 rfl (.fieldAddr rfl)<|.tO 1 rfl (.cO rfl)<|.tO 2 rfl .move ?_
 refine .sT 3 rfl ?_
 refine .aR (uU s _) (λu r=>?_)
 subst r
 refine .nil (Next.sub ?_)
 refine .sT 4 rfl ?_
 refine .ez (λw=>?_)
 refine .nil (Next.sub ?_)
 refine .sT 5 rfl ?_
 refine .append a (RS.lits (xs:=[lS s]) rfl (by simp[iD,lS,jt]) (by simp[iD,lS,jt,aq])) (by simp only[afw,afo,afv];omega) (λt j d=>?_)
 rw[<-af6 (f:=lS), <-afs, <-p]at d
 have A:=d.aq
 refine .nil (Next.mod rfl ?_)
 refine .tK 6 rfl (.gA rfl) ?_
 refine .sT 7 rfl ?_
 refine .dH rfl rfl ?_
 refine .nil (Next.mod rfl ?_)
 refine RA.nil (by kernel_rfl) ?_
 refine bi<|ay<|.region ?_
 refine .ia (i+1) .add ?_
 refine .mo rfl<|.nil ?_
 ·exact aW (i+1,t,j) ⟨e,d⟩ (by simp only;omega) kE.c.c.c.c.c (aQ [1,1,1])
 refine .exit<|bz<|bG<|bB<|ay<|.sr<|.q (.aP rfl)<|.bN rfl rfl<|.zn ?_
 refine .ret (bu _ (.one (.ei rfl rfl)) (.one [0] _) ?_)
 ·rw[dN (jh b)]at a
  exact⟨k,by simp[take],vo,rfl,a⟩
abbrev o8(bb:Nat)(kd:Int)(vl vk:Value):aH:=(bl bb [.int .i64 kd,.bool false,.int .i64 0,.string ⟨#[]⟩,vl,vk] 146)
theorem nb(s:Nat)(H:Int)(E D:Value)(l:List JV)(ks:List ByteArray)(y x:aH)(t:OS 42 6 iD E l y)(A:OS 9 1 dV D ks x)(N:l.length<=100000000/\ks.length<=100000000)(key:ByteArray)(cs:List Value)(j:J) [B:bZ cs](F:cs.length=6)(R:aw):
  Spec prog 51 [pT s,.string key,.agg cs.toArray] R [o8 s H E D,y,x] λ_ H'=>∃vl' vk' Tl' Tk',H'=[o8 s 5 vl' vk',Tl',Tk']/\OS 42 6 iD vl' (l++[(cs,j)]) Tl'/\OS 9 1 dV vk' (ks++[key]) Tk':=by
 obtain⟨i,k,m,n,o,p,rfl⟩:∃a b c d f g,cs=[a,b,c,d,f,g]:=by
  match cs,F with
  |[a,b,c,d,f,g],_=>exact⟨a,b,c,d,f,g,rfl⟩
 have T:=t.aq
 have S:=A.aq
 refine Spec.body func51 rfl results51 ntmps51 rfl ?_
 refine .sr ?_
 refine .cj rfl (λM=>?_)
 refine .z<|.mo rfl<|.nc rfl<|.fa rfl<|.fa rfl<|.dH rfl rfl<|.z<|.mo rfl<|.mo rfl<|.nc rfl<|.fa rfl<|.fa rfl<|.lo rfl<|.mo rfl ?_
 refine .jB (λK=>?_)
 refine .append A (RS.lits (xs:=[key]) rfl (by simp[dV]) (by simp[dV,aq])) (by simp only[afw];omega) (λC w u=>?_)
 have O:=u.aq
 refine .nc rfl<|.fa rfl<|.fa rfl<|.dH rfl rfl<|.zn<|.zt [2,2] [8,10,14] mixed ?_
 conv=>arg 3;simp only[take,rest,bK,afO,afP]
 conv=>arg 5;simp only[take,rest,bK,afO,afP]
 conv=>arg 9;simp only[take,rest,bK,afO,afP]
 refine .tO 0 rfl .move<|.tO 1 rfl (.nilCheck rfl)<|.tO 2 rfl (.fieldAddr rfl)<|.tO 3 rfl (.fieldAddr rfl)<|.tO 4 rfl (.cO rfl)<|.tO 5 rfl (.aP rfl) ?_
 refine .tO 6 rfl (.fD t) ?_
 refine .sT 7 rfl ?_
 refine .ez (λL=>?_)
 refine .nil (Next.sub ?_)
 refine .sT 8 rfl ?_
 refine .append t (RS.lits (xs:=[((jz,m1):JV)]) rfl (by simp[iD,jz]) (by simp[iD,jz,aq])) (by simp only[afw];omega) (λV I q=>?_)
 have Q:=q.aq
 have v:(l++[((jz,m1):JV)])[l.length]? =some (jz,m1):=by simp
 refine .nil (Next.mod rfl ?_)
 refine RA.bH 9 rfl l.length q v rfl rfl rfl (by kernel_rfl) (λU=>?_)
 refine .tK 11 rfl (.oC rfl) ?_
 refine .tK 12 rfl (.gA rfl) ?_
 refine .tK 13 rfl (.gA rfl) ?_
 refine RA.kR 10 14 rfl rfl (by kernel_rfl) rfl ?_ ?_
 refine .eG (z':=(([i,k,m,n,o,p],j):JV)) l.length q v (λr e=>?_) B.h
 have G:=e.aq
 rw[show(l++[((jz,m1):JV)]).set l.length ([i,k,m,n,o,p],j)=l++[([i,k,m,n,o,p],j)] by simp]at e
 refine .nil (Next.mod rfl ?_)
 refine .sT 14 rfl ?_
 refine .dH rfl rfl ?_
 refine .nil (Next.mod rfl ?_)
 refine RA.nil (by kernel_rfl) ?_
 refine gg _ .none (aQ [1,1,3]) ?_
 ·exact⟨_,C,r,w,by simp[take,bK,rest,dh,o8],e,u⟩
 refine .dH rfl rfl ?_
 refine .nil (Next.mod rfl ?_)
 refine .sT 10 rfl ?_
 refine .eG (z':=(([i,k,m,n,o,p],j):JV)) l.length q v (λr e=>?_) B.h
 have G:=e.aq
 rw[show(l++[((jz,m1):JV)]).set l.length ([i,k,m,n,o,p],j)=l++[([i,k,m,n,o,p],j)] by simp]at e
 refine .nil (Next.mod rfl ?_)
 refine RA.nil (by kernel_rfl) ?_
 refine gg _ .none (aQ [1,1,3]) ?_
 ·exact⟨_,C,r,w,by simp[take,bK,rest,dh,o8],e,u⟩
def vj(j:J):Prop:=∀(R1 R2 R:aw) (a b:List Value),di R1 a j->di R2 b j->(∀x o,R1 x o->R x o)->(∀x o,R2 x o->R x o)->Spec prog 12 [.agg a.toArray,.agg b.toArray] R [] λu H'=>u=.bool true/\H'=[]
theorem O3{s v R:aw}{a3:Int}{S:Bool}{n:Int}{a4:ByteArray}{K H L I:Value}{l l2:List JV}{F:List ByteArray}(Y:RS s 6 iD K l)(V:RS s 1 dV H F)(M:∀p∈l,di s p.1 p.2)(Z:RS v 6 iD L l2)(W:RS v 1 dV I F)(a5:∀p∈l2,di v p.1 p.2)(T:l.map (·.2)=l2.map (·.2))
  (w:∀x o,s x o->R x o)(A:∀x o,v x o->R x o)(ih:∀p∈l,vj p.2):Spec prog 12 [.agg [.int .i64 a3,.bool S,.int .i64 n,.string a4,K,H].toArray,.agg [.int .i64 a3,.bool S,.int .i64 n,.string a4,L,I].toArray] R [] λu H'=>u=.bool true/\H'=[]:=by
 have a9:One K:=Y.aq
 have b0:One H:=V.aq
 have b1:One L:=Z.aq
 have b4:One I:=W.aq
 have a8:l.length=l2.length:=by have:=afq List.length T;simpa using this
 have B:RS R 6 iD K l:=Y.mono w
 have a0:RS R 6 iD L l2:=Z.mono A
 have a7:=B.le
 refine Spec.body func12 rfl results12 ntmps12 rfl ?_
 refine .sr ?_
 refine .cj rfl (λb2=>?_)
 refine .cj rfl (λb3=>?_)
 refine .ag rfl<|.zs<|.sr<|.fa rfl<|.lo rfl<|.fa rfl<|.lo rfl<|.q .eT<|.mo rfl ?_
 refine .split (t:=11) rfl (λm=>?_) (λm=>?_)
 ·simp at m
 refine .gT m<|.fa rfl<|.gT m<|.lo rfl<|.gT m<|.fa rfl<|.gT m<|.lo rfl<|.gT m<|.q .ML<|.q (.aX m) ?_
 refine .mo rfl ?_
 refine .split (t:=18) rfl (λj=>?_) (λj=>?_)
 ·simp at j
 refine .gT j<|.fa rfl<|.gT j<|.lo rfl<|.gT j<|.fa rfl<|.gT j<|.lo rfl<|.gT j<|.q .eT<|.q (.aX j) ?_
 refine .mo rfl ?_
 refine .split (t:=25) rfl (λk=>?_) (λk=>?_)
 ·simp at k
 refine .gT k<|.fa rfl<|.gT k<|.lo rfl<|.gT k<|.fa rfl<|.gT k<|.lo rfl<|.gT k<|.q .gd<|.q (.aX k) ?_
 refine .mo rfl ?_
 refine .split (t:=32) rfl (λh=>?_) (λh=>?_)
 ·simp at h
 refine .gT h<|.fa rfl<|.gT h<|.lo rfl<|.gT h<|.fa rfl<|.gT h<|.lo rfl<|.gT h ?_
 refine .aR (O1 H I F F _ (V.mono λb o r=>.inl (w b o r)) (W.mono λb o r=>.inl (A b o r))) (λu N=>?_)
 subst N
 refine .gT h<|.q .not<|.q (.aX h) ?_
 refine .mo rfl ?_
 refine .split (t:=40) rfl (λe=>?_) (λe=>?_)
 ·simp at e
 refine .gT e<|.fa rfl<|.gT e<|.lo rfl<|.gT e<|.q (.bL B) ?_
 refine .gT e<|.fa rfl<|.gT e<|.lo rfl<|.gT e<|.q (.bL a0) ?_
 refine .gT e<|.q .eT<|.q (.aX e) ?_
 refine .zn ?_
 refine .cond rfl (λh1=>?_) λh1=>?_
 ·simp_all
 refine .kn<|.seq<|.sr<|.az rfl<|.block ?_
 refine .cL [(2,_),(3,_)] (X:=Nat) (λi=>i<=l.length) (λi E=>(5,iN i)::E) (λ_ G=>G) (λi=>l.length-i) 0 (afp _) kE.c.c.c rH ?_
 rintro i hi
 refine .seq<|.sr<|.mo rfl<|.fa rfl<|.lo rfl<|.q (.bL B) ?_
 refine .q .lss<|.zn ?_
 refine .cond rfl (λU=>?_) λU=>?_
 have a1:i<l.length:=cF U
 obtain⟨x,O⟩:=cm a1
 obtain⟨y,Q⟩:∃y,l2[i]? =some y:=⟨_,bE (by omega)⟩
 have a6:x.2=y.2:=by
  have:=afq (λz:List J=>z[i]?) T
  simp only[afz,O,Q,afW,Option.some.injEq]at this
  exact this
 have C:=aV O
 have D:=a5 y (aV Q)
 rw[<-a6]at D
 have ix:bZ x.1:=⟨(M x C).cN⟩
 have iy:bZ y.1:=⟨D.cN⟩
 have sx:=(M x C).kw
 have sy:=D.kw
 have a2:=λR w A=>ih x C s v R x.1 y.1 (M x C) D w A
 obtain⟨x,xj⟩:=x
 obtain⟨y,yj⟩:=y
 simp only at ix iy sx sy a2
 obtain⟨p1,p2,p3,p4,p5,p6,rfl⟩:∃a b c d f g,x=[a,b,c,d,f,g]:=ng sx
 obtain⟨q1,q2,q3,q4,q5,q6,rfl⟩:∃a b c d f g,y=[a,b,c,d,f,g]:=ng sy
 refine .kn<|.seq<|.block<|.seq ?_
 refine .dY 10 mixed (by kernel_rfl) ?_
 conv=>arg 6;dsimp only[List.take]
 refine .fa rfl<|.lo rfl<|.mo rfl ?_
 refine .bI i B O (λb5=>?_)
 refine .q (.aP rfl)<|.fa rfl<|.lo rfl<|.mo rfl ?_
 refine .bI i a0 Q (λb6=>?_)
 refine .q (.aP rfl)<|.nil ?_
 refine .aR (a2 _ (λb o r=>.inl (w b o r)) (λb o r=>.inl (A b o r))) (λu N=>?_)
 subst N
 refine .q .not<|.zn<|.bQ<|.skip<|bi<|ay<|.region<|.mo rfl ?_
 refine .ia (i+1) .add ?_
 refine .ag rfl<|.nil ?_
 ·exact aW (i+1) a1 (by omega) kE.c.c.c rH
 refine .exit<|bz<|bG<|bB<|ay<|.sr<|.az rfl ?_
 refine .ret (aM rfl ?_)
 ·exact⟨rfl,rfl⟩
theorem O2{c:aw}{d:List Value}{j:J}(f:di c d j):vj j:=by
 induction f with
 | @mk kind bb n text vl vk l keys hl hk hal ih=>
  intro z A R a b i o g h
  obtain⟨F,B,K,M,S,O,H,D,rfl,s,v,t,k⟩:=i.open
  injection s with e1 e2 e3 e4 e5 e6
  subst e1;subst e2;subst e3;subst e4;subst e6
  obtain⟨G,C,L,N,T,Q,I,E,rfl,r,w,u,m⟩:=o.open
  injection r with f1 f2 f3 f4 f5 f6
  subst f1;subst f2;subst f3;subst f4;subst f6
  exact O3 v t k w u m (e5.symm.trans f5) g h λq y=>by
   have:q.2∈l.map (·.2):=by rw[e5];exact afH.2 ⟨q,y,rfl⟩
   obtain⟨p,x,e⟩:=afH.1 this
   rw[<-e]
   exact ih p x
def gY:ByteArray:=⟨#[107,105,110,100]⟩
def kA:ByteArray:=⟨#[97]⟩
def kB:ByteArray:=⟨#[98]⟩
def mz:ByteArray:=⟨#[117,115,101,114,115]⟩
def kL:ByteArray:=⟨#[115,101,116,115]⟩
def ow:ByteArray:=⟨#[112,108,97,99,101]⟩
def ou:ByteArray:=⟨#[102,111,117,110,100]⟩
def ov:ByteArray:=⟨#[110,111,100,101,115]⟩
def gB(ps:List cB)(j:Nat):ByteArray:=((ps[j]?).map λp=>kq p.k).getD ⟨#[]⟩
def nJ(ps:List cB)(us:List ByteArray)(n:Nd)(row:List Nat):J:=
 if 3<n.kind then iF [gY,kA,kB] [dG (gw n.kind),ko n.a,ko n.b]
 else if n.kind=1 then iF [gY,mz,kL] [dG (gw n.kind),eE (us.map dG),eE ((row.map (gB ps)).map dG)]
 else iF [gY,kL] [dG (gw n.kind),eE ((row.map (gB ps)).map dG)]
def lQ(ps:List cB)(p:cB)(i:Nat):J:=nJ ps p.gk ((p.nodes[i]?).getD ⟨0,⟨#[]⟩,⟨#[]⟩,0,0⟩) ((p.leads[i]?).getD [])
def ot(ps:List cB)(p:cB):J:=iF [ow,ou,ov] [dG (kq p.k),nH p.found,eE ((List.range p.nodes.length).map (lQ ps p))]
def pN:List cB->J
 |[]=>m1
 |p::ps=>ot (p::ps) p
structure sG(R:aw)(vp:Value)(ps:List bh):Prop where
 rs:RS R 8 bh.enc vp ps
 all:∀p∈ps,p.is R
 small:∀p∈ps,jq 1000000000000000 p.k
 first:∀p,ps[0]? =some p->p.ll.length=p.nodes.length/\p.gk.length<=10000000/\p.nodes.length<=10000000/\∀q∈p.ll,q.2.length<=10000000/\∀j∈q.2,j<ps.length
 kinds:∀p∈ps,∀n∈p.nodes,1<=n.kind/\n.kind<=6
theorem tD{R:aw}{b a:Value}{l:List JV}{ks:List ByteArray}(h:RS R 6 iD b l)(d:RS R 1 dV a ks)(c:∀p∈l,di R p.1 p.2):di R [.int .i64 5,.bool false,.int .i64 0,.string ⟨#[]⟩,b,a] (iF ks (l.map (·.2))):=.mk (l:=l) h d c
theorem tG{R:aw}{l:List ByteArray}:∀p∈l.map lS,di R p.1 p.2:=λp a=>by
 obtain⟨s,_,rfl⟩:=afH.1 a
 exact nK R s
theorem tH(l:List ByteArray):(l.map lS).map (·.2)=l.map dG:=by rw[afY];rfl
theorem M6(vp:Value)(e:Int)(ps:List bh)(R:aw)(h:sG R vp ps)(C:bh)(h0:ps[0]? =some C)(i:Nat)(n:Nd)(V:C.nodes[i]? =some n):
  Spec prog 50 [.agg [vp,.int .i64 e].toArray,iN i] R [] λu H'=>∃T,H'=[T]/\∃cs,u=.agg cs.toArray/\di (sg T) cs (lQ (ps.map bh.plain) C.plain i):=by
 have a6:=h.rs
 have g0:=a6.aq
 have d5:=aV h0
 have Q:=h.all C d5
 have e0:=h.small
 have d1:=h.all
 obtain⟨d4,e2,d6,c3⟩:=h.first C h0
 have f4:bZ C.enc:=⟨Q.cN⟩
 obtain⟨k0,fo,vn,a8,vu,s,vl,W,nm⟩:=C
 have c1:RS R 5 Nd.enc vn a8:=Q.n
 have c7:RS R 1 dV vu s:=Q.u
 have b9:RS R 1 gL vl W:=Q.l.rs
 have b8:=Q.l.all
 simp only at V d4 e2 d6 c3 b8
 have e8:=(afJ.1 V).1
 obtain⟨⟨v,r⟩,a7⟩:∃q,W[i]? =some q:=⟨_,bE (by omega)⟩
 have c5:=aV a7
 have hr:RS R 1 dC v r:=b8 _ c5
 obtain⟨d8,c4⟩:=c3 _ c5
 simp only at d8 c4
 have f5:=c1.aq
 have f6:=c7.aq
 have f7:=b9.aq
 have f8:=hr.aq
 have hJ:lQ (ps.map bh.plain) (bh.plain ⟨k0,fo,vn,a8,vu,s,vl,W,nm⟩) i=nJ (ps.map bh.plain) s n r:=by
  unfold lQ bh.plain
  simp only[V,Option.getD_some,afz,a7,afW]
 rw[hJ]
 have K:nJ (ps.map bh.plain) s n r=if 3<n.kind then iF [gY,kA,kB] [dG (gw n.kind),ko n.a,ko n.b]
  else if n.kind=1 then iF [gY,mz,kL] [dG (gw n.kind),eE (s.map dG),eE ((r.map (gB (ps.map bh.plain))).map dG)]
  else iF [gY,kL] [dG (gw n.kind),eE ((r.map (gB (ps.map bh.plain))).map dG)]:=rfl
 have c6:∀m,((r.take m).map (gB (ps.map bh.plain))).length<=10000000:=λm=>by rw[afo,afv];omega
 generalize nJ (ps.map bh.plain) s n r=jj at *
 obtain⟨w,hw⟩:∃w,w=gw n.kind:=⟨_,rfl⟩
 rw[<-hw]at K
 refine Spec.fP (H':=[[],[]]) (by simp) ?_
 refine Spec.body func50 rfl results50 ntmps50 rfl ?_
 refine .sr ?_
 refine .cj rfl (λb2=>?_)
 refine .bV (λb4=>?_)
 refine .z<|.fa rfl<|.lo rfl ?_
 refine .bI 0 a6 h0 (λg2=>?_)
 refine .q (.aP rfl) ?_
 refine .bV (λb5=>?_)
 refine .bN rfl rfl<|.z<|.fa rfl<|.lo rfl<|.mo rfl ?_
 refine .bI i c1 V (λg3=>?_)
 refine .q (.aP rfl) ?_
 refine .bV (λb6=>?_)
 refine .bN rfl rfl<|.z ?_
 refine .bV (λH=>?_)
 refine .z<|.fa rfl<|.lo rfl ?_
 refine .aR (Me n.kind _) (λu g=>?_)
 subst g
 rw[<-hw]
 refine .aR (uU w _) (λu g=>?_)
 subst g
 refine .call [0,4,4] (nb H 0 (sZ) (sZ) [] [] [] [] OS.nil OS.nil (by simp) gY (jt w) (dG w) rfl _) (λu H' g=>?_)
 obtain⟨Z,Y,U,S,rfl,N,L⟩:=g
 have f3:=N.aq
 have f2:=L.aq
 conv=>arg 8;simp only[rest,bK,aft,afr]
 refine .zs<|.sr<|.fa rfl<|.lo rfl<|.q .geq<|.zn ?_
 refine .cond rfl (λh1=>?_) λh1=>?_
 have a3:3<n.kind:=by have h8:=cq h1;omega
 rw[afn a3]at K
 refine .sr<|.fa rfl<|.lo rfl ?_
 refine .q .da ?_
 refine .call [0,0,0] (nb H 5 Z Y _ _ U S N L (by simp) kA (jn n.a) (ko n.a) rfl _) (λu H' g=>?_)
 obtain⟨J,I,F,D,rfl,x,t⟩:=g
 have d0:=x.aq
 have c9:=t.aq
 conv=>arg 8;simp only[rest,bK,aft,afr]
 refine .z<|.fa rfl<|.lo rfl ?_
 refine .q .da ?_
 refine .call [0,0,0] (nb H 5 J I _ _ F D x t (by simp) kB (jn n.b) (ko n.b) rfl _) (λu H' g=>?_)
 obtain⟨e6,e5,a1,a0,rfl,O,M⟩:=g
 have e4:=O.aq
 have e3:=M.aq
 conv=>arg 8;simp only[rest,bK,aft,afr]
 refine .z<|.fa rfl<|.q (.loadT rfl) ?_
 refine .bN rfl rfl<|.zn ?_
 refine .ret (aI (bu _ (.one (.ei rfl rfl)) (bp.one [1,1] _) ?_))
 ·refine⟨_,rfl,_,rfl,?_⟩
  rw[K]
  exact tD (l:=[(jt w,dG w),(jn n.a,ko n.a),(jn n.b,ko n.b)]) (ks:=[gY,kA,kB]) (O.rs λp hp=>by simp[sg,take,bK,hp]) (M.rs λp hp=>by simp[sg,take,bK,hp]) λp hp=>by
   simp only[afx,afA,afB]at hp
   rcases hp with rfl|rfl|rfl
   ·exact nK _ w
   ·exact xN _ n.a
   ·exact xN _ n.b
 have a3:¬3<n.kind:=by have:=bC h1;omega
 rw[afm a3]at K
 refine .kn<|.seq ?_
 refine bF.dt [(1,_),(2,_),(4,_),(5,_),(7,_)] kE.c.c.c.c.c (X:=List JV×List ByteArray×Value×Value×aH×aH×aH) (λy=>OS 42 6 iD y.2.2.1 y.1 y.2.2.2.2.1/\OS 9 1 dV y.2.2.2.1 y.2.1 y.2.2.2.2.2.1/\(∀p∈y.1,di (sg y.2.2.2.2.2.2) p.1 p.2)/\y.1.map (·.2)=(if n.kind=1 then [dG w,eE (s.map dG)]else [dG w])/\y.2.1=if n.kind=1 then [gY,mz]else [gY]) (λy E=>E) (λy=>[o8 H 5 y.2.2.1 y.2.2.2.1,y.2.2.2.2.1,y.2.2.2.2.2.1,y.2.2.2.2.2.2,bl b6 n.enc 204,bl b5 (bh.enc ⟨k0,fo,vn,a8,vu,s,vl,W,nm⟩) 77,bl b4 jz 42,bl b2 [vp,.int .i64 e] 80]) ?_ ?_
 refine .sr<|.fa rfl<|.lo rfl<|.q .bw<|.zn ?_
 refine .cond rfl (λh2=>?_) λh2=>?_
 have B:n.kind=1:=by simpa using h2
 refine .region<|.fa rfl<|.lo rfl ?_
 refine .dq ((Ag vu s R c7 (by omega)).weaken cZ) (λu a9 g=>?_)
 obtain⟨vo,rfl,A⟩:=g
 have f9:=A.aq
 refine .call [1,1,1] (nb H 5 Z Y _ _ U S N L (by simp) mz (lP vo) (eE ((s.map lS).map (·.2))) rfl _) (λu H' g=>?_)
 obtain⟨J,I,F,D,rfl,x,t⟩:=g
 have d0:=x.aq
 have c9:=t.aq
 conv=>arg 8;simp only[rest,bK,aft,afr]
 refine .nil ?_
 ·first
   |exact aG (_,_,J,I,F,D,a9) ⟨x,t,λp hp=>by
     simp only[afr,aft,afx,afA,afB]at hp
     rcases hp with rfl|rfl
     ·exact nK _ w
     ·exact ra A.sg tG,by rw[afn B];simp only[afr,aft,afM,afN,tH],by rw[afn B];rfl⟩ (((((kE.d rfl).d rfl).d rfl).d rfl).d rfl) rH
   |exact aG (_,_,Z,Y,U,S,[]) ⟨N,L,λp hp=>by
     simp only[afr,afx,afA,afB]at hp
     subst hp
     exact nK _ w,by rw[afm B];rfl,by rw[afm B];rfl⟩ (((((kE.d rfl).d rfl).d rfl).d rfl).d rfl) (bp.jT.trans (aQ [1,1,1,0,0,0,0,0]))
 have B:n.kind≠1:=by simpa using h2
 refine .skip ?_
 ·first
   |exact aG (_,_,J,I,F,D,a9) ⟨x,t,λp hp=>by
     simp only[afr,aft,afx,afA,afB]at hp
     rcases hp with rfl|rfl
     ·exact nK _ w
     ·exact ra A.sg tG,by rw[afn B];simp only[afr,aft,afM,afN,tH],by rw[afn B];rfl⟩ (((((kE.d rfl).d rfl).d rfl).d rfl).d rfl) rH
   |exact aG (_,_,Z,Y,U,S,[]) ⟨N,L,λp hp=>by
     simp only[afr,afx,afA,afB]at hp
     subst hp
     exact nK _ w,by rw[afm B];rfl,by rw[afm B];rfl⟩ (((((kE.d rfl).d rfl).d rfl).d rfl).d rfl) (bp.jT.trans (aQ [1,1,1,0,0,0,0,0]))
 intro y hy
 obtain⟨lj,ks,J,I,F,D,Tx⟩:=y
 obtain⟨x,t,b3,a5,a4⟩:=hy
 simp only at x t b3 a5 a4⊢
 have d0:=x.aq
 have c9:=t.aq
 have f0:lj.length<=2:=by
  have:=afq List.length a5
  rw[afo]at this
  rw[this];split<;>simp
 have e9:ks.length<=2:=by rw[a4];split<;>simp
 refine ay<|.sr<|.ag rfl<|.zs<|.sr<|.fa rfl<|.lo rfl<|.mo rfl ?_
 refine .bI i b9 a7 (λg4=>?_)
 refine .lo rfl<|.q (.bL hr) ?_
 refine .mo rfl<|.zn<|.block ?_
 refine .cL [(2,_),(4,_),(7,_),(49,_),(50,_)] (X:=Nat×Value×aH) (λy=>y.1<=r.length/\OS 9 1 dV y.2.1 ((r.take y.1).map (gB (ps.map bh.plain))) y.2.2) (λy E=>(51,iN y.1)::(8,y.2.1)::E) (λy G=>y.2.2::G) (λy=>r.length-y.1) (0,sZ,[]) ⟨afp _,OS.nil⟩ kE.c.c.c.c.c.c.c bp.jT ?_
 rintro⟨m,vo,To⟩ ⟨hm,A⟩
 simp only at hm A⊢
 have io:=A.aq
 refine .sr<|.q .lss<|.zs ?_
 refine .cond rfl (λh3=>?_) λh3=>?_
 have c0:m<r.length:=cF h3
 obtain⟨j,hj⟩:=cm c0
 have d2:=c4 j (aV hj)
 obtain⟨q,hq⟩:=cm d2
 have c2:=aV hq
 have iq:bZ q.enc:=⟨(d1 q c2).cN⟩
 obtain⟨s1,s2,s3⟩:=e0 q c2
 have e1:=er hj
 have d3:gB (ps.map bh.plain) j=kq q.k:=by unfold gB;rw[afz,hq];rfl
 have f1:=c6 m
 refine .kn<|.seq<|.block<|.sr ?_
 refine .bI m hr hj (λg5=>?_)
 refine .lo rfl<|.az rfl<|.region<|.mo rfl<|.fa rfl<|.lo rfl<|.mo rfl ?_
 refine .bI j a6 hq (λg6=>?_)
 refine .q (.aP rfl) ?_
 refine .aR (yD q.k [.bool q.found,q.vn,q.vu,q.vl,iN q.number] (ie:=⟨λu g=>iq.h u (by simp only[bh.enc];simp only[afx,afA,afB]at g⊢;simp[g])⟩) rfl s1 s2 s3 _) (λu g=>?_)
 subst g
 rw[<-d3]
 refine .jB (λe7=>?_)
 refine .append A (RS.lits (xs:=[gB (ps.map bh.plain) j]) rfl (by simp[dV]) (by simp[dV,aq])) (by simp only[afw];omega) (λv5 T5 c8=>?_)
 rw[<-af6 (f:=gB (ps.map bh.plain)), <-afs, <-e1]at c8
 refine .ag rfl<|.nil<|bi<|ay<|.region ?_
 refine .ia (m+1) .add ?_
 refine .mo rfl<|.nil ?_
 ·exact aW (m+1,v5,T5) ⟨c0,c8⟩ (by simp only;omega) kE.c.c.c.c.c.c.c (bp.drop [0] _)
 rw[dN (jh h3)]at A
 have d9:=c6 r.length
 rw[afC]at d9
 refine .exit<|bz<|bG<|bB<|ay<|.sr<|.mo rfl ?_
 refine .dq (Ag vo _ _ A.rx (by omega)) (λu b0 g=>?_)
 obtain⟨vs,rfl,b1⟩:=g
 have g1:=b1.aq
 refine .call [2,2,2] (nb H 5 J I _ _ F D x t (by omega) kL (lP vs) (eE (((r.map (gB (ps.map bh.plain))).map lS).map (·.2))) rfl _) (λu H' g=>?_)
 obtain⟨e6,e5,a1,a0,rfl,O,M⟩:=g
 have e4:=O.aq
 have e3:=M.aq
 conv=>arg 8;simp only[rest,bK,aft,afr]
 refine .z<|.fa rfl<|.q (.loadT rfl) ?_
 refine .bN rfl rfl<|.zn ?_
 refine .ret (bu _ (.one (.ei rfl rfl)) (bp.one [1,1,1,2] _) ?_)
 ·refine⟨_,rfl,_,rfl,?_⟩
  have a2:=tD (R:=sg (a1++(a0++(b0++Tx)))) (O.rs λp hp=>by simp[sg,hp]) (M.rs λp hp=>by simp[sg,hp]) λp hp=>by
   rcases afF.1 hp with hp|hp
   ·exact(b3 p hp).mono λb o hb=>by
     have:(b,o)∈Tx:=hb
     simp[sg,this]
   ·rw[afD]at hp
    subst hp
    exact ra (b1.rs λp hp=>by simp[sg,hp]) tG
  rw[K]
  rw[afs,a5,a4,af6,tH]at a2
  have d7:iF ((if n.kind=1 then [gY,mz]else [gY])++[kL]) ((if n.kind=1 then [dG w,eE (s.map dG)]else [dG w])++[eE ((r.map (gB (ps.map bh.plain))).map dG)])=if n.kind=1 then iF [gY,mz,kL] [dG w,eE (s.map dG),eE ((r.map (gB (ps.map bh.plain))).map dG)]else iF [gY,kL] [dG w,eE ((r.map (gB (ps.map bh.plain))).map dG)]:=by
   by_cases hk:n.kind=1<;>simp[hk]
  rw[d7]at a2
  exact a2.mono λb o hb=>by
   have:(b,o)∈a1++(a0++(b0++Tx)):=hb
   simpa[sg,take,bK]using this
theorem Ap(C:Value)(e:Int)(ps:List bh)(R:aw)(h:sG R C ps):
  Spec prog 22 [.agg [C,.int .i64 e].toArray] R [] λu H'=>∃T,H'=[T]/\∃cs,u=.agg cs.toArray/\di (sg T) cs (pN (ps.map bh.plain)):=by
 have s:=h.rs
 have e4:=s.aq
 have b8:=h.all
 have c7:=h.small
 have b9:=h.first
 have c5:=λj f i n L=>M6 C e ps R h j f i n L
 refine Spec.fP (H':=[[],[],[],[]]) (by simp) ?_
 refine Spec.body func22 rfl results22 ntmps22 rfl ?_
 refine .sr ?_
 refine .cj rfl (λb1=>?_)
 refine .bV (λb2=>?_)
 refine .zs<|.sr<|.fa rfl<|.lo rfl<|.q (.bL s) ?_
 refine .q .bw<|.zn ?_
 refine .cond rfl (λH=>?_) λH=>?_
 have h9:(ps.length:Int)=0:=by simpa using H
 have c3:ps=[]:=af7 (by omega)
 subst c3
 refine .sr ?_
 refine .q .da ?_
 refine .bN rfl rfl<|.zn ?_
 refine .ret (aI (bu _ (.one (.ei rfl rfl)) (bp.one [] _) ?_))
 ·exact⟨_,rfl,_,rfl,xY _⟩
 have c6:0<ps.length:=by
  have:¬(ps.length:Int)=0:=by simpa using H
  omega
 obtain⟨j,f⟩:=cm c6
 have a5:=aV f
 have a2:=b8 j a5
 obtain⟨s1,s2,s3⟩:=c7 j a5
 obtain⟨_,_,c4,_⟩:=b9 j f
 have c9:bZ j.enc:=⟨a2.cN⟩
 have c2:pN (ps.map bh.plain)=ot (ps.map bh.plain) j.plain:=by
  cases ps with
  |nil=>simp at f
  |cons a l=>
   simp only[List.getElem?_cons_zero,Option.some.injEq]at f
   subst f
   rfl
 rw[c2]
 have a7:=c5 j f
 obtain⟨k,m,t,g,D,O,B,N,A⟩:=j
 have a6:RS R 5 Nd.enc t g:=a2.n
 simp only at c4 a7 s1 s2 s3
 have e3:=a6.aq
 have c1:ot (ps.map bh.plain) (bh.plain ⟨k,m,t,g,D,O,B,N,A⟩)=iF [ow,ou,ov] [dG (kq k),nH m,eE ((List.range g.length).map (lQ (ps.map bh.plain) (bh.plain ⟨k,m,t,g,D,O,B,N,A⟩)))]:=rfl
 generalize d5:lQ (ps.map bh.plain) (bh.plain ⟨k,m,t,g,D,O,B,N,A⟩)=fn at *
 refine .kn<|.sr ?_
 refine .q .da ?_
 refine .bV (λb3=>?_)
 refine .bN rfl rfl<|.zs<|.sr<|.fa rfl<|.lo rfl ?_
 refine .bI 0 s f (λe5=>?_)
 refine .fa rfl<|.lo rfl<|.q (.bL a6) ?_
 refine .mo rfl<|.zn<|.block ?_
 refine .cL [(1,_),(2,_),(3,_),(17,_)] (X:=Nat×Value×List JV×aH×aH) (λy=>y.1<=g.length/\OS 42 6 iD y.2.1 y.2.2.1 y.2.2.2.1/\(∀p∈y.2.2.1,di (sg y.2.2.2.2) p.1 p.2)/\y.2.2.1.map (·.2)=(List.range y.1).map fn) (λy E=>(18,iN y.1)::E) (G:=[bl b2 jz 42,bl b1 [C,.int .i64 e] 80,[],[]]) (λy G=>bl b3 (lP y.2.1) 42::y.2.2.2.1::y.2.2.2.2::G) (λy=>g.length-y.1) (0,sZ,[],[],[]) ⟨afp _,OS.nil,λp hp=>(by cases hp),rfl⟩ kE.c.c.c.c.c (aQ [0,2,2,0,0,0,0]) ?_
 rintro⟨i,vo,M,U,v⟩ ⟨hi,w,K,x⟩
 simp only at hi w K x⊢
 have io:=w.aq
 have d6:M.length=i:=by have:=afq List.length x;simpa using this
 refine .sr<|.q .lss<|.zs ?_
 refine .cond rfl (λI=>?_) λI=>?_
 have a4:i<g.length:=cF I
 obtain⟨n,L⟩:=cm a4
 refine .kn<|.seq<|.block<|.sr<|.mo rfl<|.az rfl<|.dg [6,8] mixed ?_
 refine .tO 0 rfl (.fieldAddr rfl)<|.tO 1 rfl (.cO rfl)<|.tO 2 rfl (.aP rfl)<|.tO 3 rfl .move ?_
 refine .sT 4 rfl ?_
 refine .dq ((a7 i n L).weaken cZ) (λu a9 d=>?_)
 obtain⟨cs,rfl,J⟩:=d
 have c8:bZ cs:=⟨J.cN⟩
 obtain⟨x1,x2,x3,x4,x5,x6,rfl⟩:=ng J.kw
 refine .nil (Next.sub ?_)
 refine .sT 5 rfl ?_
 refine .ez (λd4=>?_)
 refine .nil (Next.sub ?_)
 refine .sT 6 rfl ?_
 refine .append w (RS.lits (xs:=[(([x1,x2,x3,x4,x5,x6],fn i):JV)]) rfl (by simp[iD]) (by simpa[iD]using c8.h)) (by simp only[afw];omega) (λv5 T5 a8=>?_)
 have i5:=a8.aq
 refine .nil (Next.mod rfl ?_)
 refine .tK 7 rfl (.gA rfl) ?_
 refine .sT 8 rfl ?_
 refine .dH rfl rfl ?_
 refine .nil (Next.mod rfl ?_)
 refine RA.nil (by kernel_rfl) ?_
 refine bi<|ay<|.region ?_
 refine .ia (i+1) .add ?_
 refine .mo rfl<|.nil ?_
 ·exact aW (i+1,v5,M++[([x1,x2,x3,x4,x5,x6],fn i)],T5,a9++v) ⟨a4,a8,λp hp=>by
   rcases afF.1 hp with hp|hp
   ·exact(K p hp).mono λb o r=>gh r
   ·rw[afD]at hp
    subst hp
    exact J.mono λb o r=>hU r,by simp only;rw[afs,x,List.range_succ,afs];rfl⟩ (by simp only;omega) kE.c.c.c.c.c ((aQ [2,2,1,1,1,1,1,1]).trans (bp.eu (by simp[take,bK,dh,lP])))
 have c0:i=g.length:=by have:=bC I;omega
 subst c0
 refine .exit<|bz<|bG<|bB<|ay<|.sr ?_
 refine .bV (λF=>?_)
 refine .z<|.fa rfl<|.lo rfl ?_
 refine .bI 0 s f (λe6=>?_)
 refine .q (.aP rfl) ?_
 refine .aR (yD k [.bool m,t,D,B,iN A] (ie:=⟨λu d=>c9.h u (by simp only[bh.enc];simp only[afx,afA,afB]at d⊢;simp[d])⟩) rfl s1 s2 s3 _) (λu d=>?_)
 subst d
 refine .aR (uU (kq k) _) (λu d=>?_)
 subst d
 refine .call [0,5,5] (nb F 0 (sZ) (sZ) [] [] [] [] OS.nil OS.nil (by simp) ow (jt (kq k)) (dG (kq k)) rfl _) (λu H' d=>?_)
 obtain⟨d2,d0,b6,b0,rfl,Z,V⟩:=d
 have e0:=Z.aq
 have d7:=V.aq
 conv=>arg 8;simp only[rest,bK,aft,afr]
 refine .z<|.fa rfl<|.lo rfl ?_
 refine .bI 0 s f (λe7=>?_)
 refine .fa rfl<|.lo rfl ?_
 refine .q .da ?_
 refine .call [0,0,0] (nb F 5 d2 d0 _ _ b6 b0 Z V (by simp) ou (jb m) (nH m) rfl _) (λu H' d=>?_)
 obtain⟨d3,d1,b7,b4,rfl,a0,W⟩:=d
 have e1:=a0.aq
 have d8:=W.aq
 conv=>arg 8;simp only[rest,bK,aft,afr]
 refine .z<|.q (.aP rfl) ?_
 refine .call [0,0,0] (nb F 5 d3 d1 _ _ b7 b4 a0 W (by simp) ov (lP vo) (eE (M.map (·.2))) rfl _) (λu H' d=>?_)
 obtain⟨e9,e8,S,Q,rfl,a1,Y⟩:=d
 have e2:=a1.aq
 have d9:=Y.aq
 conv=>arg 8;simp only[rest,bK,aft,afr]
 refine .z<|.fa rfl<|.q (.loadT rfl) ?_
 refine .bN rfl rfl<|.zn ?_
 refine .ret (bu _ (.one (.ei rfl rfl)) (bp.one [1,1,2,2] _) ?_)
 ·refine⟨_,rfl,_,rfl,?_⟩
  have a3:=tD (R:=sg (S++(Q++(U++v)))) (a1.rs λp hp=>by simp[sg,hp]) (Y.rs λp hp=>by simp[sg,hp]) λp hp=>by
   simp only[afr,aft,afx,afA,afB]at hp
   rcases hp with rfl|rfl|rfl
   ·exact nK _ _
   ·exact Ly _ _
   ·exact ra (w.rs λp hp=>by simp[sg,hp]) λp hp=>(K p hp).mono λb o r=>by
     have:(b,o)∈v:=r
     simp[sg,this]
  rw[c1]
  simp only[afr,aft,afM,afN,x]at a3
  exact a3.mono λb o r=>by
   have:(b,o)∈S++(Q++(U++v)):=r
   simpa[sg,take,bK]using this
end Go.Proofs.YtenilfmlfldogaaGreatDoor

/- What the law 'KeepOpens' uses. No condition. -/
import Derived.Laws.AppendOwn
import Derived.Lib.Builder
import Derived.Lib.ConvBytes
import Derived.Lib.UnsafeStr
import Derived.Test.YtocjmmbldeljnaaGreatDoorKKeepOpensD
set_option linter.unusedSimpArgs false
set_option linter.unusedVariables false
set_option linter.unusedVariables false
namespace Go.Proofs.YtocjmmbldeljnaaGreatDoor
set_option linter.defProp false
def abV:=@Prod.mk.injEq
def abW:=@Option.some.injEq
def abX:=@List.mem_singleton
def abY:=@List.flatten_cons
def abZ:=@Nat.mod_eq_of_lt
def ab0:=@BitVec.ofInt_natCast
section
def bS(c:UInt8):List Value:=[.int .u8 (c.toNat:Int)]
theorem sn(l:List UInt8):l.flatMap bS=l.map λb=>Value.int .u8 (b.toNat:Int):=by
 induction l with
 |nil=>rfl
 |cons x l ih=>rw[List.flatMap_cons,ih];rfl
section
variable{P:Program}{N:Nat}{R:ao}{ops:Array Oper}{env:Env}{H:aF}{K:Env->aF->Prop}{l:List Oper}{m:Bool}{ty:TypeId}{pos:String}{af:Array Edge}{T:au}{upd:au->aF}
theorem aB.PM{d:Nat}{src dst e:TypeId}{x:Operand}{s:ByteArray}{us:TypeDesc} [G:bh P src us] [I:bh P dst (.slice e)] [J:bh P e (.int .u8)](D:s.size<=maxLen)
  (A:∀v T',RS (sg T') 1 bS v s.data.toList->aB false P N R ops l ((d,v)::env) (T'::H) K)(i:ev env x=some (.string s):=by rfl)(t:Nat.blt d N=true:=by rfl):
  aB false P N R ops (⟨some d,.convert src dst x,ty,pos,af,none⟩::l) env H K:=
 aB.lv t λa w o f L=>by
  have n:=Lib.run_convert_string_bytes (P:=P) w src dst e s G.h I.h J.h
  have B:=Lib.bytesWorld_at_new w e s
  have z:Frame w H (Lib.bytesWorld w e s) ([(w.heap.size,.cells (Lib.bytesCells w e s) e ((Lib.bytesCells w e s).size,(Lib.bytesCells w e s).size+1))]::H):=
   ⟨by rw[Lib.bytesWorld_size];omega,λb r _=>Lib.bytesWorld_at_old w e s b r,λp hp=>by
    rw[abY,List.mem_append]at hp
    rcases hp with hp|hp
    ·rw[abX]at hp;subst hp;exact .inr (Nat.le_refl _)
    ·exact .inl ⟨p,hp,rfl⟩,by simp[Lib.bytesWorld,World.freeze,World.alloc,World.drew, -World.alloc_eq, -World.drew_eq],by simp[Lib.bytesWorld,World.freeze,World.alloc,World.drew, -World.alloc_eq, -World.drew_eq],by simp[Lib.bytesWorld,World.freeze,World.alloc,World.drew, -World.alloc_eq, -World.drew_eq]⟩
  have E:Sat (Lib.bytesWorld w e s) ([(w.heap.size,.cells (Lib.bytesCells w e s) e ((Lib.bytesCells w e s).size,(Lib.bytesCells w e s).size+1))]::H):=by
   refine⟨?_,λp hp=>?_⟩
   ·rw[abY,List.map_append,List.nodup_append]
    refine⟨by simp,f.1,λx i y F=>?_⟩
    simp only[List.map_cons,List.map_nil,abX]at i
    obtain⟨q,C,rfl⟩:=List.mem_map.1 F
    have:=lF (f.2 q C)
    omega
   ·rw[abY,List.mem_append]at hp
    rcases hp with hp|hp
    ·rw[abX]at hp;subst hp;exact B
    ·rw[Lib.bytesWorld_at_old w e s _ (lF (f.2 p hp))];exact f.2 p hp
  refine⟨.slice (some ⟨w.heap.size,0,none⟩) s.size (grownCap w s.size 0 e),Lib.bytesWorld w e s,_,?_,z,E,A _ _ ?_⟩
  ·simp[execOp,o.eval i,n]
  ·have j:s.data.toList.length=s.size:=by simp
   refine⟨λ_ _=>rfl,λc _ u m=>by simp only[bS,abX]at m;subst m;rfl,some ⟨w.heap.size,0,none⟩,grownCap w s.size 0 e,by rw[j],by rw[j];exact grownCap_ge w _ _ _,grownCap_le_maxLen w _ _ _ D,.inr ⟨w.heap.size,0,_,_,_,rfl,abX.2 rfl,?_⟩⟩
   intro k g
   rw[sn]at g⊢
   rw[List.length_map]at g
   unfold Lib.bytesCells
   rw[Nat.zero_add,Array.getElem?_append_left (by simpa using g)]
   simp
end
end
section
abbrev cm:Nat:=18446744073709551616
theorem yV(n:Nat):IntKind.u64.wrap (n:Int)=((n % cm:Nat):Int):=by
 simp[IntKind.wrap,IntKind.bits,IntKind.signed]
theorem yW{n:Nat}(h:n<cm):IntKind.u64.wrap (n:Int)=(n:Int):=by rw[yV,abZ h]
theorem OS.lits{α:Type}{b n E sz:Nat}{cs:List Value}{enc:α->List Value}{xs:List α}(a:xs.flatMap enc=cs)(c:∀x∈xs,(enc x).length=sz)(ho:∀x∈xs,∀u∈enc x,Go.Proofs.YtocjmmbldeljnaaGreatDoor.ay u=true)(d:xs.length=n:=by rfl)(e:Nat.ble n 9223372036854775807=true:=by rfl):OS E sz enc (.slice (some ⟨b,0,none⟩) n n) xs [(b,.cells cs.toArray E (0,0))]:=
 ⟨c,ho,.inr ⟨b,0,_,n,by rw[d],rfl,by omega,by have:=Nat.le_of_ble_eq_true e;unfold maxLen;omega,by subst a;rw[List.size_toArray,gU c,d];omega,λk f=>by subst a;simp⟩⟩
section
variable{P:Program}{R:ao}{env:Env}{H:aF}{x y:Operand}{t u ty:TypeId}{a b n:Nat}{k2:IntKind}
theorem aI.oh(b:ev env x=some (.int .u64 (a:Nat)))(c:ev env y=some (.int k2 (n:Nat)))(d:n<=64):aI P R env H (.binOp .shl t x y u) ty (.int .u64 ((a*2^n % cm:Nat))):=by
 have h:=aI.lP (P:=P) (R:=R) (H:=H) (t:=t) (u:=u) (ty:=ty) b c (by omega)
 rw[show min ((n:Int)).toNat IntKind.u64.bits=n by simp only[IntKind.bits];omega,show((a:Int)*2^n)=((a*2^n:Nat):Int) by simp,yV]at h
 exact h
theorem aI.Pc(c:ev env x=some (.int .u64 (a:Nat)))(d:ev env y=some (.int k2 (n:Nat)))(e:n<=64):aI P R env H (.binOp .shr t x y u) ty (.int .u64 ((a/2^n:Nat))):=by
 have h:=aI.pI (P:=P) (R:=R) (H:=H) (t:=t) (u:=u) (ty:=ty) c d (by omega)
 have b:(a:Int).fdiv (2^n)=((a/2^n:Nat):Int):=by
  rw[Int.fdiv_eq_ediv_of_nonneg _ (Int.le_of_lt (Int.pow_pos (by decide)))]
  simp
 rw[show min ((n:Int)).toNat IntKind.u64.bits=n by simp only[IntKind.bits];omega,b]at h
 exact h
theorem aI.nR(e:ev env x=some (.int .u64 (a:Nat)))(f:ev env y=some (.int .u64 (b:Nat)))(c:a<cm)(d:b<cm):aI P R env H (.binOp .or t x y u) ty (.int .u64 ((a|||b:Nat))):=by
 have h:=aI.et (P:=P) (R:=R) (H:=H) (t:=t) (u:=u) (ty:=ty) e f
 have g:a|||b<2^64:=Nat.or_lt_two_pow (by unfold cm at c;omega) (by unfold cm at d;omega)
 rw[show(BitVec.ofInt IntKind.u64.bits (a:Int)|||BitVec.ofInt IntKind.u64.bits (b:Int)).toNat=a|||b by
  rw[ab0,ab0,BitVec.toNat_or,BitVec.toNat_ofNat,BitVec.toNat_ofNat,abZ (by simpa[IntKind.bits]using c),abZ (by simpa[IntKind.bits]using d)],yW (by unfold cm;omega)]at h
 exact h
theorem aI.fU{k:IntKind}{b:TypeDesc}{dst:TypeId}(d:ev env x=some (.int k (a:Nat)))(c:a<cm) [us:bh P t b] [e:bh P dst (.int .u64)]:aI P R env H (.convert t dst x) ty (.int .u64 (a:Nat)):=by
 have h:=aI.fv (P:=P) (R:=R) (H:=H) (ty:=ty) (t:=t) (dst:=dst) (k':=.u64) d
 rw[yW c]at h
 exact h
theorem aI.tY{k:IntKind}{b:TypeDesc}{dst:TypeId}(c:ev env x=some (.int k (a:Nat))) [us:bh P t b] [d:bh P dst (.int .u8)]:aI P R env H (.convert t dst x) ty (.int .u8 ((UInt8.ofNat a).toNat:Int)):=by
 have h:=aI.fv (P:=P) (R:=R) (H:=H) (ty:=ty) (t:=t) (dst:=dst) (k':=.u8) c
 rw[QH,ab0]at h
 simpa using h
theorem aI.LU{s:TypeId}{i:Nat}{c:Array Field}{b:Field}{cs:List Value}{v:Value}(l:P.underlying s=some (.struct c))(k:c[i]? =some b)(j:cs[b.offset]? =some v)(e:bV P b.type false)(m:ev env x=some (.agg cs.toArray)):aI P R env H (.field s x i) ty v:=λa w d o n g f _ _=>by
 simp[execOp,f.eval m,Instr.field,run_underlying l,k,asAgg,part,e.h,j]
end
theorem N0{a b k:Nat}(h:b<2^k):a*2^k|||b=a*2^k+b:=by
 rw[Nat.mul_comm,Nat.two_pow_add_eq_or_of_lt h]
end
section
set_option linter.unusedVariables false
set_option linter.unusedSimpArgs false
set_option maxRecDepth 4000
def put(x:Nat):List UInt8:=if h:x<128 then [UInt8.ofNat x]else UInt8.ofNat (128+x % 128)::put (x/128)
termination_by x
decreasing_by omega
theorem mU{x:Nat}(h:x<128):put x=[UInt8.ofNat x]:=by rw[put,dif_pos h]
theorem pB{x:Nat}(h:¬x<128):put x=UInt8.ofNat (128+x % 128)::put (x/128):=by rw[put,dif_neg h]
theorem xI:∀(k x:Nat),x<128^(k+1)->(put x).length<=k+1
 |0,x,h=>by rw[mU (by simpa using h)];simp
 |k+1,x,h=>by
  by_cases a:x<128
  ·rw[mU a];simp
  ·rw[pB a,List.length_cons]
   have:=xI k (x/128) (by rw[Nat.pow_succ]at h;omega)
   omega
theorem mT{x:Nat}(h:x<cm):(put x).length<=10:=xI 9 x (Nat.lt_of_lt_of_le h (by decide))
theorem Oj(x:Nat):0<(put x).length:=by
 by_cases a:x<128
 ·rw[mU a];simp
 ·rw[pB a];simp
theorem qH{n:Nat}(h:n<256):(UInt8.ofNat n).toNat=n:=by rw[UInt8.toNat_ofNat'];omega
theorem xx{c:UInt8}{n:Nat}(h:c.toNat=n):UInt8.ofNat n=c:=UInt8.toNat_inj.1 (by have:=c.toNat_lt;rw[qH (by omega),h])
def nY:Nat->List UInt8->Option (Nat×List UInt8)
 |_,[]=>none
 |i,c::r=>if i=9/\1<c.toNat then none else if 128<=c.toNat then(nY (i+1) r).map λp=>(c.toNat-128+128*p.1,p.2)else if c.toNat=0/\0<i then none else some (c.toNat,r)
theorem tv:∀(b:List UInt8) (i:Nat),i<=9->∀(x:Nat) (r:List UInt8),nY i b=some (x,r)↔b=put x++r/\x<2^(64-7*i)/\(0<i->0<x)
 |[],i,hi,x,r=>by
  constructor
  ·intro h;cases h
  ·rintro⟨h,_⟩
   have a:=congrArg List.length h
   have d:=Oj x
   rw[List.length_append]at a
   simp at a
   omega
 |c::b,i,hi,x,r=>by
  have A:=c.toNat_lt
  have g:c::b=put x++r->(x<128/\c.toNat=x/\b=r)\/(128<=x/\c.toNat=128+x % 128/\b=put (x/128)++r):=by
   intro h
   by_cases l:x<128
   ·rw[mU l]at h
    obtain⟨a,d⟩:=List.cons.inj h
    exact .inl ⟨l,by rw[a,qH (by omega)],by simpa using d⟩
   ·rw[pB l]at h
    obtain⟨a,d⟩:=List.cons.inj h
    exact .inr ⟨by omega,by rw[a,qH (by omega)],d⟩
  unfold nY
  by_cases k:i=9/\1<c.toNat
  ·rw[if_pos k]
   constructor
   ·intro h;cases h
   ·rintro⟨h,a,_⟩
    obtain⟨rfl,d⟩:=k
    simp only[Nat.reduceMul,Nat.reduceSub,Nat.reducePow]at a
    rcases g h with⟨_,e,_⟩|⟨e,_⟩<;>omega
  ·rw[if_neg k]
   by_cases n:128<=c.toNat
   ·have B:i<=8:=by omega
    have v:2^(64-7*i)=2^(64-7*(i+1))*128:=by rw[show 64-7*i=64-7*(i+1)+7 by omega,Nat.pow_add]
    rw[if_pos n,Option.map_eq_some_iff,v]
    generalize p:2^(64-7*(i+1))=m
    constructor
    ·rintro⟨⟨y,z⟩,w,o⟩
     obtain⟨s,u,f⟩:=(tv b (i+1) (by omega) y z).1 w
     simp only[abV]at o
     obtain⟨rfl,rfl⟩:=o
     have f:=f (by omega)
     rw[p]at u
     refine⟨?_,by omega,λ_=>by omega⟩
     rw[pB (by omega),show 128+(c.toNat-128+128*y) % 128=c.toNat by omega,show(c.toNat-128+128*y)/128=y by omega,xx rfl,s]
     rfl
    ·rintro⟨h,a,d⟩
     rcases g h with⟨e,j,_⟩|⟨e,j,q⟩
     ·omega
     ·refine⟨(x/128,r),(tv b (i+1) (by omega) (x/128) r).2 ⟨q,by rw[p];omega,λ_=>by omega⟩,?_⟩
      simp only[abV,and_true]
      omega
   ·rw[if_neg n]
    by_cases f:c.toNat=0/\0<i
    ·rw[if_pos f]
     constructor
     ·intro h;cases h
     ·rintro⟨h,_,d⟩
      have:=d f.2
      rcases g h with⟨_,e,_⟩|⟨_,e,_⟩<;>omega
    ·rw[if_neg f]
     simp only[abW,abV]
     constructor
     ·rintro⟨rfl,rfl⟩
      refine⟨by rw[mU (by omega),xx rfl];rfl,?_,λh=>by omega⟩
      by_cases t:i=9
      ·subst t;simp only[Nat.reduceMul,Nat.reduceSub,Nat.reducePow];omega
      ·have:2^7<=2^(64-7*i):=Nat.pow_le_pow_right (by decide) (by omega)
       omega
     ·rintro⟨h,_,_⟩
      rcases g h with⟨_,e,j⟩|⟨_,e,_⟩
      ·exact⟨e,j⟩
      ·omega
def gY(b:List UInt8):Option (Nat×List UInt8):=nY 0 b
structure fX{α:Type}(rd:List UInt8->Option (α×List UInt8))(enc:α->List UInt8)(ok:α->Prop):Prop where
 h:∀b a r,rd b=some (a,r)↔b=enc a++r/\ok a
theorem oV:fX gY put (· <cm):=⟨λb a r=>by
 rw[gY,tv b 0 (by decide)]
 simp[cm]⟩
def bX{α β:Type}(rd:List UInt8->Option (α×List UInt8))(K:α->List UInt8->Option β)(b:List UInt8):Option β:=(rd b).bind λp=>K p.1 p.2
theorem fX.bX{α β:Type}{rd:List UInt8->Option (α×List UInt8)}{enc:α->List UInt8}{ok:α->Prop}(c:fX rd enc ok)(K:α->List UInt8->Option β)(b:List UInt8)(y:β):
  Go.Proofs.YtocjmmbldeljnaaGreatDoor.bX rd K b=some y↔∃a b',(b=enc a++b'/\ok a)/\K a b'=some y:=by
 unfold Go.Proofs.YtocjmmbldeljnaaGreatDoor.bX
 rw[Option.bind_eq_some_iff]
 constructor
 ·rintro⟨⟨a,b'⟩,d,e⟩;exact⟨a,b',(c.h b a b').1 d,e⟩
 ·rintro⟨a,b',d,e⟩;exact⟨(a,b'),(c.h b a b').2 d,e⟩
theorem dK{α β:Type}{rd:List UInt8->Option (α×List UInt8)}{s c:Option (List UInt8)}{a:α}(h:s.bind rd=c.map λr=>(a,r))(K:α->List UInt8->Option β):s.bind (bX rd K)=c.bind (K a):=by
 cases s with
 |none=>cases c with
  |none=>rfl
  |some r=>cases h
 |some b=>
  simp only[Option.bind_some]at h⊢
  unfold bX
  rw[h]
  cases c<;>rfl
theorem oQ{α:Type}{s:Option (List UInt8)}{a:α}:s.bind (λr=>some (a,r))=s.map λr=>(a,r):=by cases s<;>rfl
def qQ{α:Type}(p:α->Bool)(rd:List UInt8->Option (α×List UInt8)):List UInt8->Option (α×List UInt8):=bX rd λa b=>if p a then some (a,b)else none
theorem fX.iff{α:Type}{rd:List UInt8->Option (α×List UInt8)}{enc:α->List UInt8}{ok:α->Prop}(c:fX rd enc ok)(p:α->Bool):fX (qQ p rd) enc λa=>ok a/\p a=true:=⟨λb a r=>by
 unfold qQ
 rw[c.bX]
 constructor
 ·rintro⟨h,i,⟨e,f⟩,d⟩
  split at d
  ·rename_i g
   simp only[abW,abV]at d
   obtain⟨rfl,rfl⟩:=d
   exact⟨e,f,g⟩
  ·cases d
 ·rintro⟨e,f,d⟩
  exact⟨a,r,⟨e,f⟩,by rw[if_pos d]⟩⟩
def iZ(m:Nat):=qQ (λx=>decide (x<=m)) gY
theorem kR(m:Nat):fX (iZ m) put λx=>x<cm/\x<=m:=⟨λb a r=>by rw[iZ,(oV.iff _).h];simp⟩
def jJ(l:List UInt8):List UInt8:=put l.length++l
def mj:List UInt8->Option (List UInt8×List UInt8):=bX (iZ 2147483647) λn b=>if n<=b.length then some (b.take n,b.drop n)else none
theorem qb:fX mj jJ λl=>l.length<=2147483647:=⟨λb a r=>by
 unfold mj
 rw[(kR _).bX]
 constructor
 ·rintro⟨n,e,⟨rfl,d,g⟩,c⟩
  split at c
  ·rename_i h
   simp only[abW,abV]at c
   obtain⟨rfl,rfl⟩:=c
   have f:(e.take n).length=n:=by rw[List.length_take];omega
   exact⟨by unfold jJ;rw[f,List.append_assoc,List.take_append_drop],by omega⟩
  ·cases c
 ·rintro⟨rfl,d⟩
  refine⟨a.length,a++r,⟨by unfold jJ;rw[List.append_assoc],by unfold cm;omega,d⟩,?_⟩
  rw[if_pos (by simp)]
  simp⟩
def dF(s:ByteArray):List UInt8:=jJ s.data.toList
def eZ:List UInt8->Option (ByteArray×List UInt8):=bX mj λl b=>some (⟨l.toArray⟩,b)
theorem fF:fX eZ dF λs=>s.size<=2147483647:=⟨λb a r=>by
 unfold eZ
 rw[qb.bX]
 constructor
 ·rintro⟨l,f,⟨rfl,c⟩,d⟩
  simp only[abW,abV]at d
  obtain⟨rfl,rfl⟩:=d
  exact⟨by simp[dF],by show l.toArray.size<=_;rw[List.size_toArray];exact c⟩
 ·rintro⟨rfl,c⟩
  have e:a.data.toList.length<=2147483647:=by rw[Array.length_toList];exact c
  exact⟨a.data.toList,r,⟨rfl,e⟩,by simp⟩⟩
def th(b:Bool):List UInt8:=put (if b then 1 else 0)
def nX:List UInt8->Option (Bool×List UInt8):=bX (iZ 1) λn b=>some (n==1,b)
theorem uU:fX nX th λ_=>True:=⟨λb a r=>by
 unfold nX
 rw[(kR 1).bX]
 constructor
 ·rintro⟨n,d,⟨rfl,e,f⟩,c⟩
  simp only[abW,abV]at c
  obtain⟨rfl,rfl⟩:=c
  refine⟨?_,trivial⟩
  have:n=0\/n=1:=by omega
  rcases this with rfl|rfl<;>rfl
 ·rintro⟨rfl,_⟩
  exact⟨if a then 1 else 0,r,⟨rfl,by split<;>decide,by split<;>decide⟩,by cases a<;>rfl⟩⟩
def gA{α:Type}(rd:List UInt8->Option (α×List UInt8)):Nat->List UInt8->Option (List α×List UInt8)
 |0,b=>some ([],b)
 |n+1,b=>bX rd (λa b'=>bX (gA rd n) (λl b''=>some (a::l,b'')) b') b
theorem rR{α:Type}{rd:List UInt8->Option (α×List UInt8)}{enc:α->List UInt8}{ok:α->Prop}(c:fX rd enc ok):∀n,fX (gA rd n) (λl=>l.flatMap enc) λl=>l.length=n/\∀a∈l,ok a
 |0=>⟨λb l r=>by
  unfold gA
  simp only[abW,abV]
  constructor
  ·rintro⟨rfl,rfl⟩;simp
  ·rintro⟨rfl,h,_⟩
   obtain rfl:=List.length_eq_zero_iff.1 h
   simp⟩
 |n+1=>⟨λb l r=>by
  unfold gA
  rw[c.bX]
  simp only[(rR c n).bX]
  constructor
  ·rintro⟨a,j,⟨rfl,d⟩,m,k,⟨rfl,e,g⟩,f⟩
   simp only[abW,abV]at f
   obtain⟨rfl,rfl⟩:=f
   exact⟨by simp,by simp[e],by simpa using⟨d,g⟩⟩
  ·rintro⟨rfl,d,e⟩
   cases l with
   |nil=>simp at d
   |cons a l=>
    exact⟨a,l.flatMap enc++r,⟨by simp,e a (by simp)⟩,l,r,⟨rfl,by simpa using d,λx i=>e x (by simp[i])⟩,rfl⟩⟩
def eC{α:Type}(enc:α->List UInt8)(l:List α):List UInt8:=put l.length++l.flatMap enc
def iq{α:Type}(rd:List UInt8->Option (α×List UInt8)):List UInt8->Option (List α×List UInt8):=bX (iZ 4096) λn=>gA rd n
theorem lu{α:Type}{rd:List UInt8->Option (α×List UInt8)}{enc:α->List UInt8}{ok:α->Prop}(c:fX rd enc ok):fX (iq rd) (eC enc) λl=>l.length<=4096/\∀a∈l,ok a:=⟨λb l r=>by
 unfold iq
 rw[(kR _).bX]
 constructor
 ·rintro⟨n,f,⟨rfl,e,d⟩,g⟩
  obtain⟨rfl,rfl,i⟩:=((rR c n).h f l r).1 g
  exact⟨by simp[eC],d,i⟩
 ·rintro⟨rfl,e,d⟩
  exact⟨l.length,l.flatMap enc++r,⟨by simp[eC],by unfold cm;omega,e⟩,((rR c _).h _ l r).2 ⟨rfl,rfl,d⟩⟩⟩
theorem tq{α:Type}{rd:List UInt8->Option (α×List UInt8)}{s c:Option (List UInt8)}{a:α}{n:Nat}{pre:List α}(h:s.bind rd=c.map λr=>(a,r)):(s.bind (gA rd (n+1))).map (λq=>(pre++q.1,q.2))=(c.bind (gA rd n)).map λq=>(pre++[a]++q.1,q.2):=by
 have e:s.bind (gA rd (n+1))=c.bind λd=>bX (gA rd n) (λl f=>some (a::l,f)) d:=dK (K:=λa d=>bX (gA rd n) (λl f=>some (a::l,f)) d) h
 rw[e]
 cases c with
 |none=>rfl
 |some b=>
  simp only[Option.bind_some]
  unfold bX
  cases gA rd n b with
  |none=>rfl
  |some q=>simp
abbrev dk:=BitVec 32
def kX(x:dk)(n:Nat):dk:=x<<<(32-n)|||x>>>n
def wv(l:List dk):List Value:=l.map λx=>Value.int .u32 (x.toNat:Int)
theorem yZ{l:List dk}{i:Nat}{x:dk}(h:l[i]? =some x):(wv l)[i]? =some (.int .u32 (x.toNat:Int)):=by
 unfold wv
 rw[List.getElem?_map,h];rfl
structure jx where
 a:dk
 b:dk
 c:dk
 d:dk
 e:dk
 f:dk
 g:dk
 h:dk
def ks:List dk:=[0x428a2f98,0x71374491,0xb5c0fbcf,0xe9b5dba5,0x3956c25b,0x59f111f1,0x923f82a4,0xab1c5ed5,0xd807aa98,0x12835b01,0x243185be,0x550c7dc3,0x72be5d74,0x80deb1fe,0x9bdc06a7,0xc19bf174,0xe49b69c1,0xefbe4786,0x0fc19dc6,0x240ca1cc,0x2de92c6f,0x4a7484aa,0x5cb0a9dc,0x76f988da,0x983e5152,0xa831c66d,0xb00327c8,0xbf597fc7,0xc6e00bf3,0xd5a79147,0x06ca6351,0x14292967,0x27b70a85,0x2e1b2138,0x4d2c6dfc,0x53380d13,0x650a7354,0x766a0abb,0x81c2c92e,0x92722c85,0xa2bfe8a1,0xa81a664b,0xc24b8b70,0xc76c51a3,0xd192e819,0xd6990624,0xf40e3585,0x106aa070,0x19a4c116,0x1e376c08,0x2748774c,0x34b0bcb5,0x391c0cb3,0x4ed8aa4a,0x5b9cca4f,0x682e6ff3,0x748f82ee,0x78a5636f,0x84c87814,0x8cc70208,0x90befffa,0xa4506ceb,0xbef9a3f7,0xc67178f2]
def H0:jx:=⟨0x6a09e667,0xbb67ae85,0x3c6ef372,0xa54ff53a,0x510e527f,0x9b05688c,0x1f83d9ab,0x5be0cd19⟩
def Pq(v:dk):dk:=(kX v 7^^^kX v 18)^^^v>>>3
def Pr(x:dk):dk:=(kX x 17^^^kX x 19)^^^x>>>10
def tt(s:jx)(k w:dk):dk:=((s.h+((kX s.e 6^^^kX s.e 11)^^^kX s.e 25))+((s.e&&&s.f)^^^(~~~s.e&&&s.g)))+k+w
def uu(s:jx):dk:=((kX s.a 2^^^kX s.a 13)^^^kX s.a 22)+(((s.a&&&s.b)^^^(s.a&&&s.c))^^^(s.b&&&s.c))
def Oz(s:jx)(k w:dk):jx:=⟨tt s k w+uu s,s.a,s.b,s.c,s.d+tt s k w,s.e,s.f,s.g⟩
def wide(c:UInt8):dk:=c.toBitVec.setWidth 32
def QC(b0 b1 b2 b3:UInt8):dk:=((wide b0<<<24|||wide b1<<<16)|||wide b2<<<8)|||wide b3
def Qz(b:List UInt8)(l:List dk):dk:=
 if l.length<16 then QC (b.getD (4*l.length) 0) (b.getD (4*l.length+1) 0) (b.getD (4*l.length+2) 0) (b.getD (4*l.length+3) 0)
 else((l.getD (l.length-16) 0+Pq (l.getD (l.length-15) 0))+l.getD (l.length-7) 0)+Pr (l.getD (l.length-2) 0)
def sched(b:List UInt8):Nat->List dk
 |0=>[]
 |i+1=>sched b i++[Qz b (sched b i)]
def rounds(w:List dk)(s:jx):Nat->jx
 |0=>s
 |i+1=>Oz (rounds w s i) (ks.getD i 0) (w.getD i 0)
def PD(s x:jx):jx:=⟨s.a+x.a,s.b+x.b,s.c+x.c,s.d+x.d,s.e+x.e,s.f+x.f,s.g+x.g,s.h+x.h⟩
def comp(s:jx)(b:List UInt8):jx:=PD s (rounds (sched b 64) s 64)
def blocks(s:jx)(l:List UInt8):jx:=if h:64<=l.length then blocks (comp s l) (l.drop 64)else s
termination_by l.length
decreasing_by rw[List.length_drop];omega
end
end Go.Proofs.YtocjmmbldeljnaaGreatDoor

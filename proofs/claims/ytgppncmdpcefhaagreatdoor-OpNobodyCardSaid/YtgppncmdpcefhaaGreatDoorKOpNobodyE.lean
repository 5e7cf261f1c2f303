/- What the law 'OpNobody' uses. No condition. -/
import Derived.Laws.AppendOwn
import Derived.Lib.Builder
import Derived.Lib.ConvBytes
import Derived.Lib.UnsafeStr
import Derived.Test.YtgppncmdpcefhaaGreatDoorKOpNobodyD
set_option linter.unusedVariables false
set_option linter.unusedSimpArgs false
namespace Go.Proofs.YtgppncmdpcefhaaGreatDoor
set_option linter.defProp false
def abK:=@Nat.mod_eq_of_lt
def abL:=@BitVec.ofInt_natCast
section
def dt(c:UInt8):List Value:=[.int .u8 (c.toNat:Int)]
end
section
abbrev di:Nat:=18446744073709551616
theorem sW(n:Nat):IntKind.u64.wrap (n:Int)=((n % di:Nat):Int):=by
 simp[IntKind.wrap,IntKind.bits,IntKind.signed]
theorem sX{n:Nat}(h:n<di):IntKind.u64.wrap (n:Int)=(n:Int):=by rw[sW,abK h]
theorem OS.lits{α:Type}{b n E sz:Nat}{cs:List Value}{enc:α->List Value}{xs:List α}(a:xs.flatMap enc=cs)(c:∀x∈xs,(enc x).length=sz)(ho:∀x∈xs,∀u∈enc x,Go.Proofs.YtgppncmdpcefhaaGreatDoor.aL u=true)(d:xs.length=n:=by rfl)(e:Nat.ble n 9223372036854775807=true:=by rfl):OS E sz enc (.slice (some ⟨b,0,none⟩) n n) xs [(b,.cells cs.toArray E (0,0))]:=
 ⟨c,ho,.inr ⟨b,0,_,n,by rw[d],rfl,by omega,by have:=Nat.le_of_ble_eq_true e;unfold maxLen;omega,by subst a;rw[List.size_toArray,hZ c,d];omega,λk f=>by subst a;simp⟩⟩
section
variable{P:Program}{R:aA}{env:Env}{H:aS}{x y:Operand}{t u ty:TypeId}{a b n:Nat}{k2:IntKind}
theorem bd.lz(b:ev env x=some (.int .u64 (a:Nat)))(c:ev env y=some (.int k2 (n:Nat)))(d:n<=64):bd P R env H (.binOp .shl t x y u) ty (.int .u64 ((a*2^n % di:Nat))):=by
 have h:=bd.nz (P:=P) (R:=R) (H:=H) (t:=t) (u:=u) (ty:=ty) b c (by omega)
 rw[show min ((n:Int)).toNat IntKind.u64.bits=n by simp only[IntKind.bits];omega,show((a:Int)*2^n)=((a*2^n:Nat):Int) by simp,sW]at h
 exact h
theorem bd.Gy(c:ev env x=some (.int .u64 (a:Nat)))(d:ev env y=some (.int k2 (n:Nat)))(e:n<=64):bd P R env H (.binOp .shr t x y u) ty (.int .u64 ((a/2^n:Nat))):=by
 have h:=bd.sk (P:=P) (R:=R) (H:=H) (t:=t) (u:=u) (ty:=ty) c d (by omega)
 have b:(a:Int).fdiv (2^n)=((a/2^n:Nat):Int):=by
  rw[Int.fdiv_eq_ediv_of_nonneg _ (Int.le_of_lt (Int.pow_pos (by decide)))]
  simp
 rw[show min ((n:Int)).toNat IntKind.u64.bits=n by simp only[IntKind.bits];omega,b]at h
 exact h
theorem bd.lh(e:ev env x=some (.int .u64 (a:Nat)))(f:ev env y=some (.int .u64 (b:Nat)))(c:a<di)(d:b<di):bd P R env H (.binOp .or t x y u) ty (.int .u64 ((a|||b:Nat))):=by
 have h:=bd.eo (P:=P) (R:=R) (H:=H) (t:=t) (u:=u) (ty:=ty) e f
 have g:a|||b<2^64:=Nat.or_lt_two_pow (by unfold di at c;omega) (by unfold di at d;omega)
 rw[show(BitVec.ofInt IntKind.u64.bits (a:Int)|||BitVec.ofInt IntKind.u64.bits (b:Int)).toNat=a|||b by
  rw[abL,abL,BitVec.toNat_or,BitVec.toNat_ofNat,BitVec.toNat_ofNat,abK (by simpa[IntKind.bits]using c),abK (by simpa[IntKind.bits]using d)],sX (by unfold di;omega)]at h
 exact h
theorem bd.gg{k:IntKind}{b:TypeDesc}{dst:TypeId}(d:ev env x=some (.int k (a:Nat)))(c:a<di) [us:bL P t b] [e:bL P dst (.int .u64)]:bd P R env H (.convert t dst x) ty (.int .u64 (a:Nat)):=by
 have h:=bd.ez (P:=P) (R:=R) (H:=H) (ty:=ty) (t:=t) (dst:=dst) (k':=.u64) d
 rw[sX c]at h
 exact h
theorem bd.sK{k:IntKind}{b:TypeDesc}{dst:TypeId}(c:ev env x=some (.int k (a:Nat))) [us:bL P t b] [d:bL P dst (.int .u8)]:bd P R env H (.convert t dst x) ty (.int .u8 ((UInt8.ofNat a).toNat:Int)):=by
 have h:=bd.ez (P:=P) (R:=R) (H:=H) (ty:=ty) (t:=t) (dst:=dst) (k':=.u8) c
 rw[HF,abL]at h
 simpa using h
theorem bd.Eh{s:TypeId}{i:Nat}{c:Array Field}{b:Field}{cs:List Value}{v:Value}(l:P.underlying s=some (.struct c))(k:c[i]? =some b)(j:cs[b.offset]? =some v)(e:cC P b.type false)(m:ev env x=some (.agg cs.toArray)):bd P R env H (.field s x i) ty v:=λa w d o n g f _ _=>by
 simp[execOp,f.eval m,Instr.field,run_underlying l,k,asAgg,part,e.h,j]
end
theorem FD{a b k:Nat}(h:b<2^k):a*2^k|||b=a*2^k+b:=by
 rw[Nat.mul_comm,Nat.two_pow_add_eq_or_of_lt h]
end
section
set_option linter.unusedVariables false
set_option linter.unusedSimpArgs false
set_option maxRecDepth 4000
def put(x:Nat):List UInt8:=if h:x<128 then [UInt8.ofNat x]else UInt8.ofNat (128+x % 128)::put (x/128)
termination_by x
decreasing_by omega
theorem lk{x:Nat}(h:x<128):put x=[UInt8.ofNat x]:=by rw[put,dif_pos h]
theorem me{x:Nat}(h:¬x<128):put x=UInt8.ofNat (128+x % 128)::put (x/128):=by rw[put,dif_neg h]
theorem rJ:∀(k x:Nat),x<128^(k+1)->(put x).length<=k+1
 |0,x,h=>by rw[lk (by simpa using h)];simp
 |k+1,x,h=>by
  by_cases a:x<128
  ·rw[lk a];simp
  ·rw[me a,List.length_cons]
   have:=rJ k (x/128) (by rw[Nat.pow_succ]at h;omega)
   omega
theorem nj{x:Nat}(h:x<di):(put x).length<=10:=rJ 9 x (Nat.lt_of_lt_of_le h (by decide))
theorem rK(x:Nat):0<(put x).length:=by
 by_cases a:x<128
 ·rw[lk a];simp
 ·rw[me a];simp
theorem m5{n:Nat}(h:n<256):(UInt8.ofNat n).toNat=n:=by rw[UInt8.toNat_ofNat'];omega
theorem ry{c:UInt8}{n:Nat}(h:c.toNat=n):UInt8.ofNat n=c:=UInt8.toNat_inj.1 (by have:=c.toNat_lt;rw[m5 (by omega),h])
def kp:Nat->List UInt8->Option (Nat×List UInt8)
 |_,[]=>none
 |i,c::r=>if i=9/\1<c.toNat then none else if 128<=c.toNat then(kp (i+1) r).map λp=>(c.toNat-128+128*p.1,p.2)else if c.toNat=0/\0<i then none else some (c.toNat,r)
theorem oD:∀(b:List UInt8) (i:Nat),i<=9->∀(x:Nat) (r:List UInt8),kp i b=some (x,r)↔b=put x++r/\x<2^(64-7*i)/\(0<i->0<x)
 |[],i,hi,x,r=>by
  constructor
  ·intro h;cases h
  ·rintro⟨h,_⟩
   have a:=congrArg List.length h
   have d:=rK x
   rw[List.length_append]at a
   simp at a
   omega
 |c::b,i,hi,x,r=>by
  have A:=c.toNat_lt
  have g:c::b=put x++r->(x<128/\c.toNat=x/\b=r)\/(128<=x/\c.toNat=128+x % 128/\b=put (x/128)++r):=by
   intro h
   by_cases l:x<128
   ·rw[lk l]at h
    obtain⟨a,d⟩:=List.cons.inj h
    exact .inl ⟨l,by rw[a,m5 (by omega)],by simpa using d⟩
   ·rw[me l]at h
    obtain⟨a,d⟩:=List.cons.inj h
    exact .inr ⟨by omega,by rw[a,m5 (by omega)],d⟩
  unfold kp
  by_cases k:i=9/\1<c.toNat
  ·rw[if_pos k]
   constructor
   ·intro h;cases h
   ·rintro⟨h,a,_⟩
    obtain⟨rfl,d⟩:=k
    simp only[Nat.reduceMul,Nat.reduceSub,Nat.reducePow]at a
    rcases g h with⟨_,e,_⟩|⟨e,_⟩<;>omega
  ·rw[if_neg k]
   by_cases n:128<=c.toNat
   ·have B:i<=8:=by omega
    have v:2^(64-7*i)=2^(64-7*(i+1))*128:=by rw[show 64-7*i=64-7*(i+1)+7 by omega,Nat.pow_add]
    rw[if_pos n,Option.map_eq_some_iff,v]
    generalize p:2^(64-7*(i+1))=m
    constructor
    ·rintro⟨⟨y,z⟩,w,o⟩
     obtain⟨s,u,f⟩:=(oD b (i+1) (by omega) y z).1 w
     simp only[Prod.mk.injEq]at o
     obtain⟨rfl,rfl⟩:=o
     have f:=f (by omega)
     rw[p]at u
     refine⟨?_,by omega,λ_=>by omega⟩
     rw[me (by omega),show 128+(c.toNat-128+128*y) % 128=c.toNat by omega,show(c.toNat-128+128*y)/128=y by omega,ry rfl,s]
     rfl
    ·rintro⟨h,a,d⟩
     rcases g h with⟨e,j,_⟩|⟨e,j,q⟩
     ·omega
     ·refine⟨(x/128,r),(oD b (i+1) (by omega) (x/128) r).2 ⟨q,by rw[p];omega,λ_=>by omega⟩,?_⟩
      simp only[Prod.mk.injEq,and_true]
      omega
   ·rw[if_neg n]
    by_cases f:c.toNat=0/\0<i
    ·rw[if_pos f]
     constructor
     ·intro h;cases h
     ·rintro⟨h,_,d⟩
      have:=d f.2
      rcases g h with⟨_,e,_⟩|⟨_,e,_⟩<;>omega
    ·rw[if_neg f]
     simp only[Option.some.injEq,Prod.mk.injEq]
     constructor
     ·rintro⟨rfl,rfl⟩
      refine⟨by rw[lk (by omega),ry rfl];rfl,?_,λh=>by omega⟩
      by_cases t:i=9
      ·subst t;simp only[Nat.reduceMul,Nat.reduceSub,Nat.reducePow];omega
      ·have:2^7<=2^(64-7*i):=Nat.pow_le_pow_right (by decide) (by omega)
       omega
     ·rintro⟨h,_,_⟩
      rcases g h with⟨_,e,j⟩|⟨_,e,_⟩
      ·exact⟨e,j⟩
      ·omega
def gm(b:List UInt8):Option (Nat×List UInt8):=kp 0 b
structure mA{α:Type}(rd:List UInt8->Option (α×List UInt8))(enc:α->List UInt8)(ok:α->Prop):Prop where
 h:∀b a r,rd b=some (a,r)↔b=enc a++r/\ok a
theorem uh:mA gm put (· <di):=⟨λb a r=>by
 rw[gm,oD b 0 (by decide)]
 simp[di]⟩
def eW{α β:Type}(rd:List UInt8->Option (α×List UInt8))(K:α->List UInt8->Option β)(b:List UInt8):Option β:=(rd b).bind λp=>K p.1 p.2
theorem mA.eW{α β:Type}{rd:List UInt8->Option (α×List UInt8)}{enc:α->List UInt8}{ok:α->Prop}(c:mA rd enc ok)(K:α->List UInt8->Option β)(b:List UInt8)(y:β):
  Go.Proofs.YtgppncmdpcefhaaGreatDoor.eW rd K b=some y↔∃a b',(b=enc a++b'/\ok a)/\K a b'=some y:=by
 unfold Go.Proofs.YtgppncmdpcefhaaGreatDoor.eW
 rw[Option.bind_eq_some_iff]
 constructor
 ·rintro⟨⟨a,b'⟩,d,e⟩;exact⟨a,b',(c.h b a b').1 d,e⟩
 ·rintro⟨a,b',d,e⟩;exact⟨(a,b'),(c.h b a b').2 d,e⟩
theorem tw{α β:Type}{rd:List UInt8->Option (α×List UInt8)}{s c:Option (List UInt8)}{a:α}(h:s.bind rd=c.map λr=>(a,r))(K:α->List UInt8->Option β):s.bind (eW rd K)=c.bind (K a):=by
 cases s with
 |none=>cases c with
  |none=>rfl
  |some r=>cases h
 |some b=>
  simp only[Option.bind_some]at h⊢
  unfold eW
  rw[h]
  cases c<;>rfl
def rR{α:Type}(p:α->Bool)(rd:List UInt8->Option (α×List UInt8)):List UInt8->Option (α×List UInt8):=eW rd λa b=>if p a then some (a,b)else none
def oC(m:Nat):=rR (λx=>decide (x<=m)) gm
abbrev ej:=BitVec 32
def jj(x:ej)(n:Nat):ej:=x<<<(32-n)|||x>>>n
def wv(l:List ej):List Value:=l.map λx=>Value.int .u32 (x.toNat:Int)
structure gH where
 a:ej
 b:ej
 c:ej
 d:ej
 e:ej
 f:ej
 g:ej
 h:ej
def ks:List ej:=[0x428a2f98,0x71374491,0xb5c0fbcf,0xe9b5dba5,0x3956c25b,0x59f111f1,0x923f82a4,0xab1c5ed5,0xd807aa98,0x12835b01,0x243185be,0x550c7dc3,0x72be5d74,0x80deb1fe,0x9bdc06a7,0xc19bf174,0xe49b69c1,0xefbe4786,0x0fc19dc6,0x240ca1cc,0x2de92c6f,0x4a7484aa,0x5cb0a9dc,0x76f988da,0x983e5152,0xa831c66d,0xb00327c8,0xbf597fc7,0xc6e00bf3,0xd5a79147,0x06ca6351,0x14292967,0x27b70a85,0x2e1b2138,0x4d2c6dfc,0x53380d13,0x650a7354,0x766a0abb,0x81c2c92e,0x92722c85,0xa2bfe8a1,0xa81a664b,0xc24b8b70,0xc76c51a3,0xd192e819,0xd6990624,0xf40e3585,0x106aa070,0x19a4c116,0x1e376c08,0x2748774c,0x34b0bcb5,0x391c0cb3,0x4ed8aa4a,0x5b9cca4f,0x682e6ff3,0x748f82ee,0x78a5636f,0x84c87814,0x8cc70208,0x90befffa,0xa4506ceb,0xbef9a3f7,0xc67178f2]
def H0:gH:=⟨0x6a09e667,0xbb67ae85,0x3c6ef372,0xa54ff53a,0x510e527f,0x9b05688c,0x1f83d9ab,0x5be0cd19⟩
def GC(v:ej):ej:=(jj v 7^^^jj v 18)^^^v>>>3
def GD(x:ej):ej:=(jj x 17^^^jj x 19)^^^x>>>10
def tt(s:gH)(k w:ej):ej:=((s.h+((jj s.e 6^^^jj s.e 11)^^^jj s.e 25))+((s.e&&&s.f)^^^(~~~s.e&&&s.g)))+k+w
def uu(s:gH):ej:=((jj s.a 2^^^jj s.a 13)^^^jj s.a 22)+(((s.a&&&s.b)^^^(s.a&&&s.c))^^^(s.b&&&s.c))
def F7(s:gH)(k w:ej):gH:=⟨tt s k w+uu s,s.a,s.b,s.c,s.d+tt s k w,s.e,s.f,s.g⟩
def wide(c:UInt8):ej:=c.toBitVec.setWidth 32
def HA(b0 b1 b2 b3:UInt8):ej:=((wide b0<<<24|||wide b1<<<16)|||wide b2<<<8)|||wide b3
def Hy(b:List UInt8)(l:List ej):ej:=
 if l.length<16 then HA (b.getD (4*l.length) 0) (b.getD (4*l.length+1) 0) (b.getD (4*l.length+2) 0) (b.getD (4*l.length+3) 0)
 else((l.getD (l.length-16) 0+GC (l.getD (l.length-15) 0))+l.getD (l.length-7) 0)+GD (l.getD (l.length-2) 0)
def sched(b:List UInt8):Nat->List ej
 |0=>[]
 |i+1=>sched b i++[Hy b (sched b i)]
def rounds(w:List ej)(s:gH):Nat->gH
 |0=>s
 |i+1=>F7 (rounds w s i) (ks.getD i 0) (w.getD i 0)
def GN(s x:gH):gH:=⟨s.a+x.a,s.b+x.b,s.c+x.c,s.d+x.d,s.e+x.e,s.f+x.f,s.g+x.g,s.h+x.h⟩
def comp(s:gH)(b:List UInt8):gH:=GN s (rounds (sched b 64) s 64)
def blocks(s:gH)(l:List UInt8):gH:=if h:64<=l.length then blocks (comp s l) (l.drop 64)else s
termination_by l.length
decreasing_by rw[List.length_drop];omega
end
end Go.Proofs.YtgppncmdpcefhaaGreatDoor

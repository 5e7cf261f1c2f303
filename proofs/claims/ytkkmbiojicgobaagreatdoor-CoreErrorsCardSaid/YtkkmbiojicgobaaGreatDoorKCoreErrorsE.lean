/- What the law 'CoreErrors' uses. No condition. -/
import Derived.Laws.AppendOwn
import Derived.Lib.Builder
import Derived.Lib.ConvBytes
import Derived.Lib.UnsafeStr
import Derived.Test.YtkkmbiojicgobaaGreatDoorKCoreErrorsD
set_option linter.unusedSimpArgs false
set_option linter.unusedVariables false
set_option linter.unusedVariables false
namespace Go.Proofs.YtkkmbiojicgobaaGreatDoor
set_option linter.defProp false
def abX:=@Nat.mod_eq_of_lt
def abY:=@List.mem_singleton
def abZ:=@BitVec.ofInt_natCast
def ab0:=@BitVec.toNat_ofNat
def ab1:=@Bool.or_eq_true
def ab2:=@List.getD_eq_getElem?_getD
def ab3:=@List.length_drop
def ab4:=@List.flatten_cons
def ab5:=@BitVec.getLsbD_or
section
def cO(c:UInt8):List Value:=[.int .u8 (c.toNat:Int)]
theorem qq(l:List UInt8):l.flatMap cO=l.map λb=>Value.int .u8 (b.toNat:Int):=by
 induction l with
 |nil=>rfl
 |cons x l ih=>rw[List.flatMap_cons,ih];rfl
section
variable{P:Program}{N:Nat}{R:av}{ops:Array Oper}{env:Env}{H:aV}{K:Env->aV->Prop}{l:List Oper}{m:Bool}{ty:TypeId}{pos:String}{af:Array Edge}{T:ax}{upd:ax->aV}
theorem aP.N7{src dst t:TypeId}{x:Operand}{b off E:Nat}{c:Array Value}{fr:Nat×Nat}(l:(b,Obj.cells c E fr)∈H.flatten)(ho:off<c.size) [us:bP P src (.pointer t)] [r:bP P dst .unsafePointer](m:(P.info? t).map (λj=>decide (j.size≠0))=some true)
  (o:ev env x=some (.pointer (some ⟨b,off,none⟩))):aP P R env H (.convert src dst x) ty (.pointer (some ⟨b,off,none⟩)):=λa w d u s g k q _=>by
 obtain⟨j,n,p⟩:=Option.map_eq_some_iff.1 m
 have f:=q.2 _ l
 have i:=Lib.run_to_unsafe (P:=P) w (src:=src) (dst:=dst) (e:=E) (cells:=c.size) ⟨b,off,none⟩ us.h r.h n (by simpa using p) (by simp[World.shape?,f]) ho
 simp[execOp,k.eval o,i]
theorem aP.Kq{src dst t:TypeId}{x:Operand}{b off E n:Nat}{c:Array Value}{fr:Nat×Nat}(l:(b,Obj.cells c E fr)∈H.flatten)(q:c.size=n) [us:bP P src .unsafePointer] [u:bP P dst (.pointer t)](m:(P.info? t).isSome=true)(p:liesAt P P.depth E (n/P.cellsOf E) off t 1=true)
  (r:ev env x=some (.pointer (some ⟨b,off,none⟩))):aP P R env H (.convert src dst x) ty (.pointer (some ⟨b,off,none⟩)):=λa w d y v g k s _=>by
 obtain⟨j,o⟩:=Option.isSome_iff_exists.1 m
 have f:=s.2 _ l
 have i:=Lib.run_from_unsafe (P:=P) w (src:=src) (dst:=dst) (e:=E) (cells:=n) ⟨b,off,none⟩ us.h u.h o (by simp[World.shape?,f,q]) p
 simp[execOp,k.eval r,i]
theorem aP.Lg{F:FuncId}{fn:Func}{ta:TypeId}{x:Operand}{v:Value}(hf:P.funcs[F]? =some fn)(hname:(fn.name== "runtime.NumGoroutine")=false)(hbd:fn.body.isNone=true)(hnx:Extern.findNext fn=none)(he:Extern.find fn=some Extern.AbiNoEscape.same)
  (hx:ev env x=some v):aP P R env H (.call ⟨.value (.func F),#[x],#[ta]⟩) ty v:=fun a w d pos af g ha sat ro=>by
 have hr:=run_callFunc_extern hf hname hbd hnx he #[v] w
 rw[Lib.run_noEscape]at hr
 have h4:=ha.m6 (xs:=[x]) (vs:=[v]) (by simp[hN,hx])
 simp only[execOp,resolve,h4,Act.eval,Deferred.ofValue]
 simp[invoke,hr]
theorem aP.Lc{t c u:TypeId}{x y:Operand}{p:Addr}(i:ev env x=some (.pointer (some p)))(k:ev env y=some (.pointer (some p))) [ut:bP P t (.pointer c)](e:(P.info? c).isSome=true):aP P R env H (.binOp .neq t x y u) ty (.bool false):=λa w d m l g b _ _=>by
 obtain⟨j,f⟩:=Option.isSome_iff_exists.1 e
 refine qN (op:=.move x) (b.eval i) (b.eval k) (mH rfl) rfl (r:=true) ?_
 have h:∀d:Nat,(Op.equalIn (d+1) t (.pointer (some p)) (.pointer (some p))).run P w=.ok true w:=λd=>by
  simp[Op.equalIn,run_underlying ut.h,sizeOf,typeInfo,f,run_sameAddr_same]
 exact h 9999
theorem aP.NB{x:Operand}{t:TypeId}{p:Addr}{n c:Nat}(e:c≠0)(f:ev env x=some (.slice (some p) n c)):aP P R env H (.call ⟨.builtin .unsafeSliceData,#[x],#[t]⟩) ty (.pointer (some p)):=λa w d i h g b _ _=>by
 simp[execOp,resolve,b.eval f,invoke,builtin,Lib.run_unsafeSliceData_row w _ _ p n c e]
theorem aP.NC{x:Operand}{t:TypeId}{n c:Nat}(e:ev env x=some (.slice none n c)):aP P R env H (.call ⟨.builtin .unsafeSliceData,#[x],#[t]⟩) ty (.pointer none):=λa w d h f g b _ _=>by
 simp[execOp,resolve,b.eval e,invoke,builtin,Lib.run_unsafeSliceData_nil w]
theorem aP.Ou{x y:Operand}{t u:TypeId}{p:Option Addr}(c:ev env x=some (.pointer p))(e:ev env y=some (.int .i64 0)):aP P R env H (.call ⟨.builtin .unsafeString,#[x,y],#[t,u]⟩) ty (.string ⟨#[]⟩):=λa w d i f g b _ _=>by
 have h:=Lib.run_unsafeString_none (P:=P) w t u ty p
 simp[execOp,resolve,b.eval c,b.eval e,invoke,builtin,h]
 rfl
theorem aG.yg{d:Nat}{src dst e:TypeId}{x:Operand}{s:ByteArray}{us:TypeDesc} [G:bP P src us] [I:bP P dst (.slice e)] [J:bP P e (.int .u8)](D:s.size<=maxLen)
  (A:∀v T',RS (sg T') 1 cO v s.data.toList->aG false P N R ops l ((d,v)::env) (T'::H) K)(i:ev env x=some (.string s):=by rfl)(t:Nat.blt d N=true:=by rfl):
  aG false P N R ops (⟨some d,.convert src dst x,ty,pos,af,none⟩::l) env H K:=
 aG.l8 t λa w o f L=>by
  have n:=Lib.run_convert_string_bytes (P:=P) w src dst e s G.h I.h J.h
  have B:=Lib.bytesWorld_at_new w e s
  have z:Frame w H (Lib.bytesWorld w e s) ([(w.heap.size,.cells (Lib.bytesCells w e s) e ((Lib.bytesCells w e s).size,(Lib.bytesCells w e s).size+1))]::H):=
   ⟨by rw[Lib.bytesWorld_size];omega,λb r _=>Lib.bytesWorld_at_old w e s b r,λp hp=>by
    rw[ab4,List.mem_append]at hp
    rcases hp with hp|hp
    ·rw[abY]at hp;subst hp;exact .inr (Nat.le_refl _)
    ·exact .inl ⟨p,hp,rfl⟩,by simp[Lib.bytesWorld,World.freeze,World.alloc,World.drew, -World.alloc_eq, -World.drew_eq],by simp[Lib.bytesWorld,World.freeze,World.alloc,World.drew, -World.alloc_eq, -World.drew_eq],by simp[Lib.bytesWorld,World.freeze,World.alloc,World.drew, -World.alloc_eq, -World.drew_eq]⟩
  have E:Sat (Lib.bytesWorld w e s) ([(w.heap.size,.cells (Lib.bytesCells w e s) e ((Lib.bytesCells w e s).size,(Lib.bytesCells w e s).size+1))]::H):=by
   refine⟨?_,λp hp=>?_⟩
   ·rw[ab4,List.map_append,List.nodup_append]
    refine⟨by simp,f.1,λx i y F=>?_⟩
    simp only[List.map_cons,List.map_nil,abY]at i
    obtain⟨q,C,rfl⟩:=List.mem_map.1 F
    have:=ln (f.2 q C)
    omega
   ·rw[ab4,List.mem_append]at hp
    rcases hp with hp|hp
    ·rw[abY]at hp;subst hp;exact B
    ·rw[Lib.bytesWorld_at_old w e s _ (ln (f.2 p hp))];exact f.2 p hp
  refine⟨.slice (some ⟨w.heap.size,0,none⟩) s.size (grownCap w s.size 0 e),Lib.bytesWorld w e s,_,?_,z,E,A _ _ ?_⟩
  ·simp[execOp,o.eval i,n]
  ·have j:s.data.toList.length=s.size:=by simp
   refine⟨λ_ _=>rfl,λc _ u m=>by simp only[cO,abY]at m;subst m;rfl,some ⟨w.heap.size,0,none⟩,grownCap w s.size 0 e,by rw[j],by rw[j];exact grownCap_ge w _ _ _,grownCap_le_maxLen w _ _ _ D,.inr ⟨w.heap.size,0,_,_,_,rfl,abY.2 rfl,?_⟩⟩
   intro k g
   rw[qq]at g⊢
   rw[List.length_map]at g
   unfold Lib.bytesCells
   rw[Nat.zero_add,Array.getElem?_append_left (by simpa using g)]
   simp
theorem K3{e:TypeId}(b:P.cellsOf e=1){count off n:Nat}(c:off+n<=count):liesAt P P.depth e count off e n=true:=by
 have a:P.depth=(2*(P.types.size+Made.depth)+1)+1:=rfl
 rw[a]
 simp only[liesAt,ab1]
 left
 rw[a]
 simp[rowAt,b,c,sameLayout,Nat.mod_one]
theorem aG.Ot{d:Nat}{x y:Operand}{g tb E b off:Nat}{c:Array Value}{xs:List UInt8} [V:fm H [(b,.cells c E (0,0))] upd](t:xs≠[])(M:Row c off (xs.flatMap cO))(C:off+xs.length<=c.size)(o:P.cellsOf E=1)(Y:xs.length<=9223372036854775807) [ut:bP P g (.pointer E)]
  (T:ev env x=some (.pointer (some ⟨b,off,none⟩)))(U:ev env y=some (iN xs.length))(J:∀fr,aG false P N R ops l ((d,.string ⟨xs.toArray⟩)::env) (upd [(b,.cells c E fr)]) K)(A:Nat.blt d N=true:=by rfl):
  aG false P N R ops (⟨some d,.call ⟨.builtin .unsafeString,#[x,y],#[g,tb]⟩,ty,pos,af,none⟩::l) env H K:=
 aG.l8 A λa w m f Z=>by
  obtain⟨W,X,s,k⟩:=V.h
  subst s
  have e:w.heap[b]? =some (.cells c E (0,0)):=f.2 (b,_) (by simp)
  have r:xs.length≠0:=by simpa using t
  have z:∀j x,xs[j]? =some x->w.cell? ((⟨b,off,none⟩:Addr).add j)=some (.int .u8 x.toNat):=λj x q=>by
   have B:=(List.getElem?_eq_some_iff.1 q).1
   have:=M j (by rw[qq,List.length_map];exact B)
   rw[qq,List.getElem?_map,q]at this
   rw[lE]
   simpa[World.cell?,e]using this
  have D:=Lib.run_loadBytes (P:=P) w xs ⟨b,off,none⟩ .empty z
  have F:=K3 (P:=P) o (count:=c.size/P.cellsOf E) (off:=off) (n:=xs.length) (by rw[o,Nat.div_one];exact C)
  have u:¬(9223372036854775807:Int)<(xs.length:Int):=by omega
  have I:IntKind.i64.max=9223372036854775807:=rfl
  have L:¬(xs.length:Int)<0:=by omega
  have Q:w.shape? b=some (E,c.size):=by simp[World.shape?,e]
  have S:w.freeze ⟨b,off,none⟩ xs.length=eC w b (.cells c E (off,off+xs.length)):=by
   unfold World.freeze eC
   rw[if_neg r]
   congr 1
   apply Array.ext_getElem?
   intro i
   obtain⟨G,v⟩:=Array.getElem?_eq_some_iff.1 e
   rw[Array.getElem?_modify,Array.getElem?_setIfInBounds]
   by_cases p:b=i
   ·subst p
    simp[G,v]
   ·simp[p]
  have O:(Builtin.unsafeString_ #[g,tb] ty #[.pointer (some ⟨b,off,none⟩),iN xs.length]).run P w=.ok (.string ⟨xs.toArray⟩) (w.freeze ⟨b,off,none⟩ xs.length):=by
   refine(show Sem.run P (asInt (iN xs.length)>>=_) w=_ from ?_)
   simp[asInt,asIntOf,I,u,L,r,variablesAt,Q,elemOf,run_underlying ut.h,F,D]
  refine⟨_,eC w b (.cells c E (off,off+xs.length)),upd [(b,.cells c E (off,off+xs.length))],?_,by rw[k];exact(lS (o':=_) f).1,by rw[k];exact(lS (o':=_) f).2,J _⟩
  rw[<-S]
  simp[execOp,resolve,m.eval T,m.eval U,invoke,builtin,O]
end
end
section
abbrev eI:Nat:=18446744073709551616
theorem yJ(n:Nat):IntKind.u64.wrap (n:Int)=((n % eI:Nat):Int):=by
 simp[IntKind.wrap,IntKind.bits,IntKind.signed]
theorem q5{n:Nat}(h:n<eI):IntKind.u64.wrap (n:Int)=(n:Int):=by rw[yJ,abX h]
theorem OS.lits{α:Type}{b n E sz:Nat}{cs:List Value}{enc:α->List Value}{xs:List α}(a:xs.flatMap enc=cs)(c:∀x∈xs,(enc x).length=sz)(ho:∀x∈xs,∀u∈enc x,Go.Proofs.YtkkmbiojicgobaaGreatDoor.aw u=true)(d:xs.length=n:=by rfl)(e:Nat.ble n 9223372036854775807=true:=by rfl):OS E sz enc (.slice (some ⟨b,0,none⟩) n n) xs [(b,.cells cs.toArray E (0,0))]:=
 ⟨c,ho,.inr ⟨b,0,_,n,by rw[d],rfl,by omega,by have:=Nat.le_of_ble_eq_true e;unfold maxLen;omega,by subst a;rw[List.size_toArray,jP c,d];omega,λk f=>by subst a;simp⟩⟩
section
variable{P:Program}{R:av}{env:Env}{H:aV}{x y:Operand}{t u ty:TypeId}{a b n:Nat}{k2:IntKind}
theorem aP.qS(b:ev env x=some (.int .u64 (a:Nat)))(c:ev env y=some (.int k2 (n:Nat)))(d:n<=64):aP P R env H (.binOp .shl t x y u) ty (.int .u64 ((a*2^n % eI:Nat))):=by
 have h:=aP.po (P:=P) (R:=R) (H:=H) (t:=t) (u:=u) (ty:=ty) b c (by omega)
 rw[show min ((n:Int)).toNat IntKind.u64.bits=n by simp only[IntKind.bits];omega,show((a:Int)*2^n)=((a*2^n:Nat):Int) by simp,yJ]at h
 exact h
theorem aP.yb(c:ev env x=some (.int .u64 (a:Nat)))(d:ev env y=some (.int k2 (n:Nat)))(e:n<=64):aP P R env H (.binOp .shr t x y u) ty (.int .u64 ((a/2^n:Nat))):=by
 have h:=aP.qT (P:=P) (R:=R) (H:=H) (t:=t) (u:=u) (ty:=ty) c d (by omega)
 have b:(a:Int).fdiv (2^n)=((a/2^n:Nat):Int):=by
  rw[Int.fdiv_eq_ediv_of_nonneg _ (Int.le_of_lt (Int.pow_pos (by decide)))]
  simp
 rw[show min ((n:Int)).toNat IntKind.u64.bits=n by simp only[IntKind.bits];omega,b]at h
 exact h
theorem aP.wT(e:ev env x=some (.int .u64 (a:Nat)))(f:ev env y=some (.int .u64 (b:Nat)))(c:a<eI)(d:b<eI):aP P R env H (.binOp .or t x y u) ty (.int .u64 ((a|||b:Nat))):=by
 have h:=aP.gq (P:=P) (R:=R) (H:=H) (t:=t) (u:=u) (ty:=ty) e f
 have g:a|||b<2^64:=Nat.or_lt_two_pow (by unfold eI at c;omega) (by unfold eI at d;omega)
 rw[show(BitVec.ofInt IntKind.u64.bits (a:Int)|||BitVec.ofInt IntKind.u64.bits (b:Int)).toNat=a|||b by
  rw[abZ,abZ,BitVec.toNat_or,ab0,ab0,abX (by simpa[IntKind.bits]using c),abX (by simpa[IntKind.bits]using d)],q5 (by unfold eI;omega)]at h
 exact h
theorem aP.rk(e:ev env x=some (.int .u64 (a:Nat)))(f:ev env y=some (.int .u64 (b:Nat)))(c:a<eI)(d:b<eI):aP P R env H (.binOp .and t x y u) ty (.int .u64 ((a&&&b:Nat))):=by
 have h:=aP.ox (P:=P) (R:=R) (H:=H) (t:=t) (u:=u) (ty:=ty) e f
 have g:a&&&b<=a:=Nat.and_le_left
 rw[show(BitVec.ofInt IntKind.u64.bits (a:Int)&&&BitVec.ofInt IntKind.u64.bits (b:Int)).toNat=a&&&b by
  rw[abZ,abZ,BitVec.toNat_and,ab0,ab0,abX (by simpa[IntKind.bits]using c),abX (by simpa[IntKind.bits]using d)],q5 (by omega)]at h
 exact h
theorem aP.qX{k:IntKind}{b:TypeDesc}{dst:TypeId}(d:ev env x=some (.int k (a:Nat)))(c:a<eI) [us:bP P t b] [e:bP P dst (.int .u64)]:aP P R env H (.convert t dst x) ty (.int .u64 (a:Nat)):=by
 have h:=aP.hE (P:=P) (R:=R) (H:=H) (ty:=ty) (t:=t) (dst:=dst) (k':=.u64) d
 rw[q5 c]at h
 exact h
theorem aP.s7{k:IntKind}{b:TypeDesc}{dst:TypeId}(c:ev env x=some (.int k (a:Nat))) [us:bP P t b] [d:bP P dst (.int .u8)]:aP P R env H (.convert t dst x) ty (.int .u8 ((UInt8.ofNat a).toNat:Int)):=by
 have h:=aP.hE (P:=P) (R:=R) (H:=H) (ty:=ty) (t:=t) (dst:=dst) (k':=.u8) c
 rw[tu,abZ]at h
 simpa using h
theorem aP.mr(b:Nat)(d:ev env x=some (iN a))(e:ev env y=some (iN b))(g:b≠0)(f:a<=9223372036854775807):aP P R env H (.binOp .quo t x y u) ty (.int .i64 ((a/b:Nat))):=by
 have h:=aP.quo (P:=P) (R:=R) (H:=H) (t:=t) (u:=u) (ty:=ty) d e (by omega)
 have c:a/b<=a:=Nat.div_le_self _ _
 rw[show((a:Int)).tdiv (b:Int)=((a/b:Nat):Int) by rw[Int.tdiv_eq_ediv_of_nonneg (by omega)];simp,IntWalk.i64_in _ (by generalize a/b=q at c⊢;omega)]at h
 exact h
theorem aP.lP(b:Nat){k:IntKind}(c:ev env x=some (.int k (a:Nat)))(d:ev env y=some (.int k (b:Nat)))(e:b≠0):aP P R env H (.binOp .rem t x y u) ty (.int k ((a % b:Nat))):=by
 have h:=aP.rem (P:=P) (R:=R) (H:=H) (t:=t) (u:=u) (ty:=ty) c d (by omega)
 rw[show((a:Int)).tmod (b:Int)=((a % b:Nat):Int) by rw[Int.tmod_eq_emod_of_nonneg (by omega)];simp]at h
 exact h
theorem aP.xA(b:Nat)(e:ev env x=some (.int .u64 (a:Nat)))(f:ev env y=some (.int .u64 (b:Nat)))(g:b≠0)(c:a<eI):aP P R env H (.binOp .quo t x y u) ty (.int .u64 ((a/b:Nat))):=by
 have h:=aP.quo (P:=P) (R:=R) (H:=H) (t:=t) (u:=u) (ty:=ty) e f (by omega)
 have d:a/b<=a:=Nat.div_le_self _ _
 rw[show((a:Int)).tdiv (b:Int)=((a/b:Nat):Int) by rw[Int.tdiv_eq_ediv_of_nonneg (by omega)];simp,q5 (Nat.lt_of_le_of_lt d c)]at h
 exact h
theorem aP.gI{p q:ByteArray}(h:p.size+q.size<=9223372036854775807)(f:ev env x=some (.string p))(i:ev env y=some (.string q)):aP P R env H (.binOp .add t x y u) ty (.string (p++q)):=λa w d k j g b _ _=>by
 have e:IntKind.i64.max=9223372036854775807:=rfl
 have c:¬(9223372036854775807:Int)<((p.size:Int)+(q.size:Int)):=by omega
 simp[execOp,b.eval f,b.eval i,eqGuard,binOp,Op.stringOp,e,c]
end
theorem lc(a b:List UInt8):(⟨a.toArray⟩:ByteArray)++⟨b.toArray⟩=⟨(a++b).toArray⟩:=by
 apply ByteArray.ext
 simp
theorem wU{a b k:Nat}(h:b<2^k):a*2^k|||b=a*2^k+b:=by
 rw[Nat.mul_comm,Nat.two_pow_add_eq_or_of_lt h]
end
section
set_option linter.unusedVariables false
set_option linter.unusedSimpArgs false
set_option maxRecDepth 4000
abbrev de:=BitVec 32
def gQ(x:de)(n:Nat):de:=x<<<(32-n)|||x>>>n
def wv(l:List de):List Value:=l.map λx=>Value.int .u32 (x.toNat:Int)
def kr(x:de):List Value:=[.int .u32 (x.toNat:Int)]
theorem kY{l:List de}:(wv l).length=l.length:=List.length_map ..
theorem q6{l:List de}:∀u∈wv l,aw u=true:=λu a=>by
 obtain⟨x,_,rfl⟩:=List.mem_map.1 a
 rfl
instance Px{l:List de}:bJ (wv l):=⟨q6⟩
theorem lW{l:List de}{i:Nat}{x:de}(h:l[i]? =some x):(wv l)[i]? =some (.int .u32 (x.toNat:Int)):=by
 unfold wv
 rw[List.getElem?_map,h];rfl
theorem tv{l:List de}{i k:Nat}{x:de}(a:k=i)(h:i<l.length):cc (wv l) k [.int .u32 (x.toNat:Int)]=wv (l.set i x):=by
 subst a
 rw[x5 (by rw[kY];exact h)]
 unfold wv
 rw[List.map_set]
structure ew where
 a:de
 b:de
 c:de
 d:de
 e:de
 f:de
 g:de
 h:de
def ew.dp(s:ew):List de:=[s.a,s.b,s.c,s.d,s.e,s.f,s.g,s.h]
def ks:List de:=[0x428a2f98,0x71374491,0xb5c0fbcf,0xe9b5dba5,0x3956c25b,0x59f111f1,0x923f82a4,0xab1c5ed5,0xd807aa98,0x12835b01,0x243185be,0x550c7dc3,0x72be5d74,0x80deb1fe,0x9bdc06a7,0xc19bf174,0xe49b69c1,0xefbe4786,0x0fc19dc6,0x240ca1cc,0x2de92c6f,0x4a7484aa,0x5cb0a9dc,0x76f988da,0x983e5152,0xa831c66d,0xb00327c8,0xbf597fc7,0xc6e00bf3,0xd5a79147,0x06ca6351,0x14292967,0x27b70a85,0x2e1b2138,0x4d2c6dfc,0x53380d13,0x650a7354,0x766a0abb,0x81c2c92e,0x92722c85,0xa2bfe8a1,0xa81a664b,0xc24b8b70,0xc76c51a3,0xd192e819,0xd6990624,0xf40e3585,0x106aa070,0x19a4c116,0x1e376c08,0x2748774c,0x34b0bcb5,0x391c0cb3,0x4ed8aa4a,0x5b9cca4f,0x682e6ff3,0x748f82ee,0x78a5636f,0x84c87814,0x8cc70208,0x90befffa,0xa4506ceb,0xbef9a3f7,0xc67178f2]
def H0:ew:=⟨0x6a09e667,0xbb67ae85,0x3c6ef372,0xa54ff53a,0x510e527f,0x9b05688c,0x1f83d9ab,0x5be0cd19⟩
def NE(v:de):de:=(gQ v 7^^^gQ v 18)^^^v>>>3
def NF(x:de):de:=(gQ x 17^^^gQ x 19)^^^x>>>10
def tt(s:ew)(k w:de):de:=((s.h+((gQ s.e 6^^^gQ s.e 11)^^^gQ s.e 25))+((s.e&&&s.f)^^^(~~~s.e&&&s.g)))+k+w
def uu(s:ew):de:=((gQ s.a 2^^^gQ s.a 13)^^^gQ s.a 22)+(((s.a&&&s.b)^^^(s.a&&&s.c))^^^(s.b&&&s.c))
def sJ(s:ew)(k w:de):ew:=⟨tt s k w+uu s,s.a,s.b,s.c,s.d+tt s k w,s.e,s.f,s.g⟩
def wide(c:UInt8):de:=c.toBitVec.setWidth 32
def tp(b0 b1 b2 b3:UInt8):de:=((wide b0<<<24|||wide b1<<<16)|||wide b2<<<8)|||wide b3
def jq(b:List UInt8)(l:List de):de:=
 if l.length<16 then tp (b.getD (4*l.length) 0) (b.getD (4*l.length+1) 0) (b.getD (4*l.length+2) 0) (b.getD (4*l.length+3) 0)
 else((l.getD (l.length-16) 0+NE (l.getD (l.length-15) 0))+l.getD (l.length-7) 0)+NF (l.getD (l.length-2) 0)
def sched(b:List UInt8):Nat->List de
 |0=>[]
 |i+1=>sched b i++[jq b (sched b i)]
theorem iX{b:List UInt8}:∀i,(sched b i).length=i
 |0=>rfl
 |i+1=>by simp[sched,iX i]
def arr(b:List UInt8)(i:Nat):List de:=sched b i++List.replicate (64-i) 0#32
theorem tN{b:List UInt8}{i:Nat}(h:i<=64):(arr b i).length=64:=by simp[arr,iX];omega
theorem tP{b:List UInt8}{i:Nat}(h:i<64):(arr b i).set i (jq b (sched b i))=arr b (i+1):=by
 unfold arr
 rw[List.set_append_right _ _ (by rw[iX];exact Nat.le_refl _),iX,Nat.sub_self,show 64-i=(64-(i+1))+1 by omega,List.replicate_succ,List.set_cons_zero]
 simp[sched]
theorem p8{b:List UInt8}{i j:Nat}(h:j<i):(arr b i)[j]? =some ((sched b i).getD j 0):=by
 unfold arr
 rw[List.getElem?_append_left (by rw[iX];exact h),ab2,bC (by rw[iX];exact h)]
 rfl
theorem zc{b:List UInt8}:arr b 64=sched b 64:=by simp[arr]
theorem nW{b:List UInt8}{i j:Nat}(h:j<i):(sched b i)[j]? =some ((sched b i).getD j 0):=by
 rw[ab2,bC (by rw[iX];exact h)]
 rfl
def rounds(w:List de)(s:ew):Nat->ew
 |0=>s
 |i+1=>sJ (rounds w s i) (ks.getD i 0) (w.getD i 0)
def pA(s x:ew):ew:=⟨s.a+x.a,s.b+x.b,s.c+x.c,s.d+x.d,s.e+x.e,s.f+x.f,s.g+x.g,s.h+x.h⟩
def comp(s:ew)(b:List UInt8):ew:=pA s (rounds (sched b 64) s 64)
theorem O2{b:List UInt8}{l:List de}:jq (b.take 64) l=jq b l:=by
 have a:∀j,j<64->(b.take 64).getD j 0=b.getD j 0:=λj c=>by
  rw[ab2,ab2,List.getElem?_take_of_lt c]
 unfold jq
 by_cases h:l.length<16
 ·rw[if_pos h,if_pos h,a _ (by omega),a _ (by omega),a _ (by omega),a _ (by omega)]
 ·rw[if_neg h,if_neg h]
theorem xW{b:List UInt8}{i:Nat}:sched b (i+1)=sched b i++[jq b (sched b i)]:=rfl
theorem Nh{b:List UInt8}(i:Nat):sched (b.take 64) i=sched b i:=by
 induction i with
 |zero=>rfl
 |succ i ih=>rw[xW,xW,ih,O2]
theorem rB{s:ew}{b:List UInt8}:comp s (b.take 64)=comp s b:=by unfold comp;rw[Nh]
theorem Ae{s:ew}{b m:List UInt8}(h:64<=b.length):comp s (b++m)=comp s b:=by
 rw[<-rB,List.take_append_of_le_length h,rB]
def blocks(s:ew)(l:List UInt8):ew:=if h:64<=l.length then blocks (comp s l) (l.drop 64)else s
termination_by l.length
decreasing_by rw[ab3];omega
def lm(l:List UInt8):List UInt8:=if h:64<=l.length then lm (l.drop 64)else l
termination_by l.length
decreasing_by rw[ab3];omega
theorem qb{s:ew}{l:List UInt8}(h:64<=l.length):blocks s l=blocks (comp s l) (l.drop 64):=by rw[blocks,dif_pos h]
theorem rq{s:ew}{l:List UInt8}(h:¬64<=l.length):blocks s l=s:=by rw[blocks,dif_neg h]
theorem r7{l:List UInt8}(h:64<=l.length):lm l=lm (l.drop 64):=by rw[lm,dif_pos h]
theorem r8{l:List UInt8}(h:¬64<=l.length):lm l=l:=by rw[lm,dif_neg h]
theorem zt{m:List UInt8}:∀(n:Nat) (l:List UInt8) (s:ew),l.length=n->blocks s (l++m)=blocks (blocks s l) (lm l++m):=by
 intro n
 induction n using Nat.strongRecOn with
 |_ n ih=>
  intro l s a
  by_cases h:64<=l.length
  ·rw[qb (l:=l++m) (by rw[List.length_append];omega),Ae h,List.drop_append_of_le_length h,ih _ (by rw[ab3];omega) (l.drop 64) _ rfl,qb (l:=l) h,r7 h]
  ·rw[rq (l:=l) h,r8 h]
theorem K2:∀(n:Nat) (l:List UInt8),l.length=n->(lm l).length<64:=by
 intro n
 induction n using Nat.strongRecOn with
 |_ n ih=>
  intro l a
  by_cases h:64<=l.length
  ·rw[r7 h];exact ih _ (by rw[ab3];omega) (l.drop 64) rfl
  ·rw[r8 h];omega
def gN(n k:Nat):UInt8:=UInt8.ofNat (n*8/2^(56-8*k))
def iD(n:Nat):List UInt8:=128::List.replicate ((119-n % 64) % 64) 0++[gN n 0,gN n 1,gN n 2,gN n 3,gN n 4,gN n 5,gN n 6,gN n 7]
def byteOf(x:de)(k:Nat):UInt8:=UInt8.ofBitVec ((x>>>k).setWidth 8)
def ud(x:de):List UInt8:=[byteOf x 24,byteOf x 16,byteOf x 8,byteOf x 0]
def jY(s:ew):List UInt8:=s.dp.flatMap ud
def mw(l:List UInt8):List UInt8:=jY (blocks H0 (l++iD l.length))
theorem yH(c:UInt8)(i:Nat)(h:8<=i):(wide c).getLsbD i=false:=by
 unfold wide
 rw[BitVec.getLsbD_setWidth,BitVec.getLsbD_of_ge _ _ h,Bool.and_false]
theorem sN(x:de)(n:Nat):x*BitVec.ofNat 32 (2^n)=x<<<n:=by
 rw[BitVec.shiftLeft_eq_mul_twoPow]
 congr 1
 apply BitVec.eq_of_toNat_eq
 simp[BitVec.toNat_twoPow]
theorem O4(a b c d:UInt8):wide a*16777216#32+wide b*65536#32+wide c*256#32+wide d=tp a b c d:=by
 rw[show(16777216#32)=BitVec.ofNat 32 (2^24)from rfl,show(65536#32)=BitVec.ofNat 32 (2^16)from rfl,show(256#32)=BitVec.ofNat 32 (2^8)from rfl,sN,sN,sN]
 unfold tp
 have z:∀x y:de,(∀i,x.getLsbD i=true->y.getLsbD i=true->False)->x+y=x|||y:=λx y h=>by
  refine BitVec.add_eq_or_of_and_eq_zero _ _ ?_
  apply BitVec.eq_of_getLsbD_eq
  intro i j
  rw[BitVec.getLsbD_and]
  cases h1:x.getLsbD i<;>cases e:y.getLsbD i<;>simp
  exact h i h1 e
 have f:∀(x:UInt8) (n i:Nat),((wide x)<<<n).getLsbD i=true->n<=i/\i<n+8:=λx n i h=>by
  rw[BitVec.getLsbD_shiftLeft]at h
  simp only[Bool.and_eq_true,decide_eq_true_eq,Bool.not_eq_true',decide_eq_false_iff_not]at h
  refine⟨by omega,?_⟩
  rcases Nat.lt_or_ge i (n+8)with h1|h1
  ·exact h1
  ·rw[yH x (i-n) (by omega)]at h;simp at h
 have g:∀(x:UInt8) (i:Nat),(wide x).getLsbD i=true->i<8:=λx i h=>by
  rcases Nat.lt_or_ge i 8 with h1|h1
  ·exact h1
  ·rw[yH x i h1]at h;cases h
 rw[z (wide a<<<24) (wide b<<<16) λi h1 e=>by have:=f _ _ _ h1;have:=f _ _ _ e;omega]
 rw[z _ (wide c<<<8) λi h1 e=>by
  rw[ab5,ab1]at h1
  have:=f _ _ _ e
  rcases h1 with h1|h1<;>have:=f _ _ _ h1<;>omega]
 rw[z _ (wide d) λi h1 e=>by
  rw[ab5,ab5,ab1,ab1]at h1
  have:=g _ _ e
  rcases h1 with(h1|h1)|h1<;>have:=f _ _ _ h1<;>omega]
theorem uL(x:de)(n:Nat)(h:n<32):x/BitVec.ofNat 32 (2^n)=x>>>n:=by
 apply BitVec.eq_of_toNat_eq
 rw[BitVec.toNat_udiv,BitVec.toNat_ushiftRight,Nat.shiftRight_eq_div_pow,ab0,abX (Nat.pow_lt_pow_right (by decide) h)]
theorem Oo(x:de)(n:Nat):(x>>>n|||x<<<(32-n))=gQ x n:=by
 unfold gQ;exact BitVec.or_comm _ _
theorem Pa(e:de):e^^^4294967295#32= ~~~e:=by
 rw[show(4294967295#32)=BitVec.allOnes 32 from rfl,BitVec.xor_allOnes]
end
end Go.Proofs.YtkkmbiojicgobaaGreatDoor

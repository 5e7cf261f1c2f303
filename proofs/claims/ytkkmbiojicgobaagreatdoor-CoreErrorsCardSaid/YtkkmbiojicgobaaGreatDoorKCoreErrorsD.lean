/- What the law 'CoreErrors' uses. No condition. -/
import Derived.Lib.Overlaps
import Derived.Test.YtkkmbiojicgobaaGreatDoorKCoreErrorsB
set_option linter.unusedSimpArgs false
set_option linter.unusedVariables false
namespace Go.Proofs.YtkkmbiojicgobaaGreatDoor
set_option linter.defProp false
def abQ:=@BitVec.eq_of_toNat_eq
def abR:=@List.mem_of_mem_drop
def abS:=@List.length_drop
def abT:=@BitVec.toNat_ofInt
def abU:=@BitVec.toNat_ofNat
def abV:=@List.eq_of_mem_replicate
def abW:=@List.length_replicate
section
set_option linter.unusedVariables false
section
variable{P:Program}{N:Nat}{R:av}{ops:Array Oper}{l:List Oper}{env:Env}{H:aV}{K:Env->aV->Prop}{T:ax}{upd:ax->aV}{ty:TypeId}{pos:String}{af:Array Edge}{α:Type}
theorem LV{sz lo a b off cap:Nat}(h:cap≠lo):kA sz lo a (some ⟨b,off,none⟩) cap=.slice (some ⟨b,off+lo*sz,none⟩) (a-lo) (cap-lo):=by
 unfold kA
 rw[if_neg h,Option.map_some,lE]
theorem OS.NW{R':av}{E sz cap b off:Nat}{enc:α->List Value}{xs:List α}(h:OS E sz enc (.slice (some ⟨b,off,none⟩) xs.length cap) xs T)(g:∀p∈T,R' p.1 p.2)(i:Nat)(o:i<=xs.length):RS R' sz enc (.slice (some ⟨b,off+i*sz,none⟩) (xs.drop i).length (cap-i)) (xs.drop i):=by
 refine⟨λx d=>h.len x (abR d),λx d=>h.one x (abR d),?_⟩
 rcases h.h with⟨a,_,_⟩|⟨j,q,c,k,a,e,l,m,n,f⟩
 ·cases a
 ·cases a
  subst e
  refine⟨_,cap-i,rfl,by rw[abS];omega,by omega,.inr ⟨b,off+i*sz,c,E,(0,0),rfl,g (b,_) (by simp),?_⟩⟩
  have:=f.piece h.len i (xs.length-i)
  rwa [List.take_of_length_le (by rw[abS];exact Nat.le_refl _)]at this
end
end
section
theorem wrap32(z:Int):IntKind.u32.wrap z=((BitVec.ofInt 32 z).toNat:Int):=by
 simp only[IntKind.wrap,IntKind.bits,IntKind.signed,abT]
 simp
 omega
theorem tu(z:Int):IntKind.u8.wrap z=((BitVec.ofInt 8 z).toNat:Int):=by
 simp only[IntKind.wrap,IntKind.bits,IntKind.signed,abT]
 simp
 omega
theorem o5(x:BitVec 32):BitVec.ofInt 32 (x.toNat:Int)=x:=by
 apply abQ
 simp
section
variable{P:Program}{R:av}{env:Env}{H:aV}{ty:TypeId}{x y:Operand}{t u:TypeId}{a b:BitVec 32}
theorem aP.mU{op:Op}{z:Int}(h:aP P R env H op ty (.int .u32 (IntKind.u32.wrap z)))(c:BitVec 32)(e:BitVec.ofInt 32 z=c):aP P R env H op ty (.int .u32 (c.toNat:Int)):=by
 subst e
 rw[wrap32]at h
 exact h
theorem aP.fh(c:ev env x=some (.int .u32 (a.toNat:Int)))(d:ev env y=some (.int .u32 (b.toNat:Int))):aP P R env H (.binOp .add t x y u) ty (.int .u32 ((a+b).toNat:Int)):=
 (aP.add c d).mU _ (by
  apply abQ
  simp[abT,BitVec.toNat_add]
  omega)
theorem aP.sk(c:ev env x=some (.int .u32 (a.toNat:Int)))(d:ev env y=some (.int .u32 (b.toNat:Int))):aP P R env H (.binOp .mul t x y u) ty (.int .u32 ((a*b).toNat:Int)):=
 (aP.mul c d).mU _ (by
  apply abQ
  rw[<-Int.natCast_mul,BitVec.ofInt_natCast,abU,BitVec.toNat_mul])
theorem aP.xB(d:ev env x=some (.int .u32 (a.toNat:Int)))(e:ev env y=some (.int .u32 (b.toNat:Int)))(c:b≠0#32):aP P R env H (.binOp .quo t x y u) ty (.int .u32 ((a/b).toNat:Int)):=
 (aP.quo d e (by
  intro h
  apply c
  apply abQ
  simp only[abU]
  omega)).mU _ (by
  apply abQ
  rw[Int.tdiv_eq_ediv_of_nonneg (by omega), <-Int.natCast_ediv]
  simp[BitVec.toNat_udiv]
  exact Nat.mod_eq_of_lt (Nat.lt_of_le_of_lt (Nat.div_le_self _ _) a.isLt))
theorem aP.lF(c:ev env x=some (.int .u32 (a.toNat:Int)))(d:ev env y=some (.int .u32 (b.toNat:Int))):aP P R env H (.binOp .and t x y u) ty (.int .u32 ((a&&&b).toNat:Int)):=
 (aP.ox c d).mU _ (by
  simp only[IntKind.bits,o5]
  rfl)
theorem aP.o6(c:ev env x=some (.int .u32 (a.toNat:Int)))(d:ev env y=some (.int .u32 (b.toNat:Int))):aP P R env H (.binOp .or t x y u) ty (.int .u32 ((a|||b).toNat:Int)):=
 (aP.gq c d).mU _ (by
  simp only[IntKind.bits,o5]
  rfl)
theorem aP.gG(c:ev env x=some (.int .u32 (a.toNat:Int)))(d:ev env y=some (.int .u32 (b.toNat:Int))):aP P R env H (.binOp .xor t x y u) ty (.int .u32 ((a^^^b).toNat:Int)):=
 (aP.q7 c d).mU _ (by
  simp only[IntKind.bits,o5]
  rfl)
theorem aP.pr{e:IntKind}{n:Nat}(c:ev env x=some (.int .u32 (a.toNat:Int)))(d:ev env y=some (.int e (n:Int)))(f:n<=32):aP P R env H (.binOp .shl t x y u) ty (.int .u32 ((a<<<n).toNat:Int)):=
 (aP.po c d (by omega)).mU _ (by
  apply abQ
  have h:min ((n:Int)).toNat IntKind.u32.bits=n:=by simp only[IntKind.bits];omega
  have b:(a.toNat:Int)*2^n=((a.toNat*2^n:Nat):Int):=by simp
  rw[h,b,BitVec.ofInt_natCast,abU,BitVec.toNat_shiftLeft,Nat.shiftLeft_eq])
theorem aP.mQ{f:IntKind}{n:Nat}(d:ev env x=some (.int .u32 (a.toNat:Int)))(e:ev env y=some (.int f (n:Int)))(g:n<=32):aP P R env H (.binOp .shr t x y u) ty (.int .u32 ((a>>>n).toNat:Int)):=by
 have h:=aP.qT (P:=P) (R:=R) (H:=H) (ty:=ty) (t:=t) (u:=u) d e (by omega)
 have b:min ((n:Int)).toNat IntKind.u32.bits=n:=by simp only[IntKind.bits];omega
 have c:((a>>>n).toNat:Int)=(a.toNat:Int).fdiv (2^min ((n:Int)).toNat IntKind.u32.bits):=by
  rw[b,Int.fdiv_eq_ediv_of_nonneg _ (Int.le_of_lt (Int.pow_pos (by decide)))]
  simp[Nat.shiftRight_eq_div_pow]
 rw[c]
 exact h
theorem aP.wide{c:UInt8}{a:TypeDesc}{dst:TypeId}(b:ev env x=some (.int .u8 (c.toNat:Int))) [us:bP P t a] [d:bP P dst (.int .u32)]:aP P R env H (.convert t dst x) ty (.int .u32 ((c.toBitVec.setWidth 32).toNat:Int)):=
 (aP.hE b).mU _ (by
  apply abQ
  simp)
theorem aP.narrow{b:TypeDesc}{dst:TypeId}(c:ev env x=some (.int .u32 (a.toNat:Int))) [us:bP P t b] [d:bP P dst (.int .u8)]:aP P R env H (.convert t dst x) ty (.int .u8 ((UInt8.ofBitVec (a.setWidth 8)).toNat:Int)):=by
 have h:=aP.hE (P:=P) (R:=R) (H:=H) (ty:=ty) (t:=t) (dst:=dst) (k':=.u8) c
 rw[tu]at h
 have e:(BitVec.ofInt 8 (a.toNat:Int)).toNat=(UInt8.ofBitVec (a.setWidth 8)).toNat:=by
  simp
 rw[e]at h
 exact h
end
end
section
theorem lH{α:Type}{l:List α}{i:Nat}{x:α}(h:l[i]? =some x):l.drop i=x::l.drop (i+1):=by
 obtain⟨a,b⟩:=List.getElem?_eq_some_iff.1 h
 rw[<-b];exact List.drop_eq_getElem_cons a
theorem x5{vs:List Value}{i:Nat}{v:Value}(h:i<vs.length):cc vs i [v]=vs.set i v:=by
 rw[iY,List.set_eq_take_append_cons_drop,if_pos h]
 simp
section
variable{P:Program}{R:av}{env:Env}{H:aV}{ty:TypeId}{x y:Operand}{t u:TypeId}{a:BitVec 32}
theorem aP.KO{t e:TypeId}{n sz:Nat}{p:Value}{vs:List Value}{k:IntKind}{j:Int}(i:Nat)(m:i<n)(r:ev env x=some p)(u:ev env y=some (.int k j))(q:j=(i:Int)) [ut:bP P t (.array n e)] [s:Sz P e sz] [rc:RC R H p vs]:
  aP P R env H (.indexAddr t x y) ty (cK p (i*sz)):=λa w d A v g l _ _=>by
 obtain⟨b,o,c,E,z,f,_,_⟩:=rc.h.h
 subst f;subst q
 have f:(0:Int)<=i/\(i:Int)<n:=by omega
 simp[execOp,l.eval r,l.eval u,Instr.indexAt,asIntOf,run_underlying ut.h,Instr.sureAddr,f,m,s.h,cK]
theorem aP.fF{t e:TypeId}{n:Nat}{p:Value}{vs:List Value}{k:IntKind}{j:Int}(i:Nat)(a:i<n)(c:ev env x=some p)(d:ev env y=some (.int k j))(b:j=(i:Int)) [ut:bP P t (.array n e)] [s:Sz P e 1] [rc:RC R H p vs]:
  aP P R env H (.indexAddr t x y) ty (cK p i):=by
 have:=aP.KO (P:=P) (R:=R) (env:=env) (H:=H) (ty:=ty) (t:=t) i a c d b
 rw[Nat.mul_one]at this
 exact this
theorem aP.vM{t e:TypeId}{n:Nat}{cs:List Value}{v:Value}{k:IntKind}{j:Int}(i:Nat)(o:cs[i]? =some v)(l:i<n)(p:ev env x=some (.agg cs.toArray))(q:ev env y=some (.int k j))(m:j=(i:Int)) [ut:bP P t (.array n e)] [s:Sz P e 1] [c:dj P e false]:
  aP P R env H (.index t x y) ty v:=λa w d u r g b _ _=>by
 subst m
 have f:(0:Int)<=i/\(i:Int)<n:=by omega
 simp[execOp,b.eval p,b.eval q,Instr.index,asIntOf,run_underlying ut.h,f,l,s.h,part,c.h,o]
theorem aP.tZ{t e:TypeId}{n:Nat}{zero out:List Value}{xs:List (Nat×Operand)}{parts:List (Nat×Value)} [ut:bP P t (.array n e)] [s:Sz P e 1] [v:Zr P t (.agg zero.toArray)]
  (q:lI env xs=some parts:=by rfl)(m:gA ((List.range n).map λi=>(i,1)) zero parts=some out:=by rfl)(p:(parts.all λx=>Nat.blt x.1 n)=true:=by rfl):aP P R env H (.build t xs.toArray) ty (.agg out.toArray):=λa w d u b g l _ _=>by
 have c:=qp parts zero m
 have f:xs.toArray.map (λx=>(x.1,a.eval x.2))=parts.toArray:=by rw[List.map_toArray,l.qm q]
 have j:(execOp a.eval ⟨d,.build t xs.toArray,ty,u,b,g⟩)=(do pure (.value (<-Instr.build t parts.toArray))):=by
  show(do pure (Next.value (<-Instr.build t (xs.toArray.map λx:Nat×Operand=>(x.1,a.eval x.2)))))=_
  rw[f]
 have k:Instr.fill (λi=>some (i*1,1)) zero.toArray parts=some out.toArray:=by
  rw[<-c]
  refine rS parts (λx r=>?_) _
  have:=List.all_eq_true.1 p x r
  have o:x.1<n:=bx (by simpa[Nat.blt_eq]using this)
  rw[List.getElem?_map,List.getElem?_range o]
  simp
 rw[j]
 simp only[Instr.build,Sem.run_bind,v.h,Result.andThen_ok,run_underlying ut.h,s.h,Value.cells,k]
 rfl
theorem aP.Ag(j:ev env x=some (.int .u32 (a.toNat:Int))):aP P R env H (.unOp .xor t x) ty (.int .u32 ((~~~a).toNat:Int)):=λc w d l k g i _ _=>by
 have e:IntKind.u32.wrap ((BitVec.ofInt IntKind.u32.bits IntKind.u32.max^^^BitVec.ofInt IntKind.u32.bits (a.toNat:Int)).toNat:Int)=((~~~a).toNat:Int):=by
  have b:IntKind.u32.max=4294967295:=by decide
  have f:BitVec.ofInt 32 4294967295=BitVec.allOnes 32:=by decide
  have h:(BitVec.ofInt IntKind.u32.bits IntKind.u32.max^^^BitVec.ofInt IntKind.u32.bits (a.toNat:Int)).toNat=(~~~a).toNat:=by
   rw[b]
   show(BitVec.ofInt 32 4294967295^^^BitVec.ofInt 32 (a.toNat:Int)).toNat=_
   rw[o5,f,BitVec.allOnes_xor]
  rw[h,wrap32,o5]
 simp only[execOp,i.eval j,Op.unary,Op.intBits,IntKind.signed,Bool.false_eq_true,if_false,e]
 rfl
theorem aP.sQ{xl i:Option Operand}{t e:TypeId}{n sz b off:Nat}(lo f:Nat)(q:ev env x=some (.pointer (some ⟨b,off,none⟩))) [ut:bP P t (.array n e)] [s:Sz P e sz](p:fy env xl 0 lo)(c:fy env i n f)(r:lo<=f)(u:f<=n)(D:lo<n):
  aP P R env H (.slice t x xl i none) ty (.slice (some ⟨b,off+lo*sz,none⟩) (f-lo) (n-lo)):=λa w d F C g v _ _=>by
 have j:∀{x:Operand} {k:IntKind} {y n:Nat} {code:BoundsCode},ev env x=some (.int k n)->n<=y->(Instr.sliceBound (a.eval x) y code).run P w=.ok n w:=λq A=>run_sliceBound (v.eval q) A
 have m:¬n=lo:=by omega
 have B:(Instr.sliceAt t (.pointer (some ⟨b,off,none⟩)) (xl.map a.eval) (i.map a.eval) none).run P w=.ok (.slice (some ⟨b,off+lo*sz,none⟩) (f-lo) (n-lo)) w:=by
  unfold Instr.sliceAt
  simp only[Sem.run_bind,run_underlying ut.h,Result.andThen_ok,Instr.sureAddr]
  unfold Instr.sliceBounds
  cases xl with
  |none=>
   simp only[fy]at p
   subst p
   cases i with
   |none=>simp only[fy]at c;subst c;simp[s.h,m,lE]
   |some o=>obtain⟨k,l⟩:=c;simp[s.h,j l u,m,lE]
  |some o=>
   obtain⟨k,l⟩:=p
   cases i with
   |none=>simp only[fy]at c;subst c;simp[s.h,j l r,m,lE]
   |some o'=>obtain⟨E,z⟩:=c;simp[s.h,j l r,j z u,m,lE]
 simp only[execOp,v.eval q,Option.map_none]
 rw[Sem.run_bind,B]
 rfl
end
section
variable{P:Program}{N:Nat}{R:av}{ops:Array Oper}{l:List Oper}{env:Env}{H:aV}{K:Env->aV->Prop}{T:ax}{upd:ax->aV}{ty:TypeId}{pos:String}{af:Array Edge}{α:Type}
theorem RS.zq{R:av}{b E lo n cap:Nat}{vs:List Value}{fr:Nat×Nat}(d:R b (.cells vs.toArray E fr))(ho:∀u∈vs,Go.Proofs.YtkkmbiojicgobaaGreatDoor.aw u=true)(m:lo+n<=vs.length)(i:n<=cap)(f:cap<=maxLen):RS R 1 (λv:Value=>[v]) (.slice (some ⟨b,lo,none⟩) n cap) ((vs.drop lo).take n):=by
 have g:((vs.drop lo).take n).length=n:=by rw[List.length_take,abS];omega
 have e:∀l:List Value,l.flatMap (λv=>[v])=l:=λl=>by induction l with|nil=>rfl|cons a l ih=>simp[ih]
 refine⟨λ_ _=>rfl,λv h u c=>?_,_,cap,by rw[g],by omega,f,.inr ⟨b,lo,_,E,fr,rfl,d,?_⟩⟩
 ·simp only[List.mem_singleton]at c
  subst c
  exact ho _ (abR (List.mem_of_mem_take h))
 ·rw[e]
  intro k j
  rw[List.getElem?_take_of_lt (by omega),List.getElem?_drop,List.getElem?_toArray]
theorem aG.Aj{d:Nat}{x y:Operand}{t tb e j r T k A lo b E:Nat}{ps:Option Addr}{vs ys:List Value}(q:RS (Rx R H) 1 (λv:Value=>[v]) (.slice ps ys.length T) ys) [V:fm H [(b,.cells vs.toArray E (0,0))] upd] [W:bP P t (.slice e)] [s:Sz P e 1]
  (Q:ev env x=some (.slice (some ⟨b,lo,none⟩) k A))(S:ev env y=some (.slice ps j r))(J:Nat.min j k=ys.length)(X:lo+ys.length<=vs.length)
  (L:aG false P N R ops l ((d,iN ys.length)::env) (upd [(b,.cells (cc vs lo ys).toArray E (0,0))]) K)(F:Nat.blt d N=true:=by rfl):
  aG false P N R ops (⟨some d,.call ⟨.builtin .copy,#[x,y],#[t,tb]⟩,ty,pos,af,none⟩::l) env H K:=
 aG.l8 F λa w n g U=>by
  obtain⟨u,z,B,m⟩:=V.h
  subst B
  have O:∀f o,Rx R (u++[(b,.cells vs.toArray E (0,0))]::z) f o->w.heap[f]? =some o:=λf o h=>by
   rcases h with h|h
   ·exact(U f o h).1
   ·exact g.2 _ h
  have G:∀l:List Value,l.flatMap (λv=>[v])=l:=λl=>by induction l with|nil=>rfl|cons a l ih=>simp[ih]
  have i:=qM (P:=P) q O
  rw[G]at i
  have C:w.heap[b]? =some (.cells vs.toArray E (0,0)):=g.2 (b,_) (by simp)
  have M:∀c∈ys,Go.Proofs.YtkkmbiojicgobaaGreatDoor.aw c=true:=λc D=>q.one c D c (by simp)
  have p:=pf (P:=P) (b:=b) (off:=lo) (E:=E) ys 0 vs w C M (by omega)
  rw[Nat.add_zero]at p
  refine⟨iN ys.length,eC w b (.cells (cc vs lo ys).toArray E (0,0)),upd [(b,.cells (cc vs lo ys).toArray E (0,0))],?_,by rw[m];exact(lS (o':=_) g).1,by rw[m];exact(lS (o':=_) g).2,L⟩
  have I:(Builtin.firstCells 1 ys.length (.slice ps j r)).run P w=.ok ys.toArray w:=by
   cases ps with
   |none=>exact i
   |some a=>exact i
  simp[execOp,resolve,n.eval Q,n.eval S,invoke,builtin,Builtin.copy_,run_underlying W.h,s.h,Builtin.lenOf,J,I,p,goInt]
theorem aG.makeSlice{d:Nat}{t e:TypeId}{x y:Operand}{k r:Nat}{o:Value}{enc:α->List Value}(n:Nat)(z:α) [ut:bP P t (.slice e)] [s:Sz P e k] [C:By P e r] [zr:Zr P e o](B:o.cells=(enc z).toArray)(p:(enc z).length=k)(X:0<k)(ho:∀u∈enc z,Go.Proofs.YtkkmbiojicgobaaGreatDoor.aw u=true)
  (f:ev env x=some (iN n))(hy:ev env y=some (iN n))(Y:r*n<=2^48)(a5:n<=9223372036854775807)
  (Z:∀b T,OS e k enc (.slice (some ⟨b,0,none⟩) n n) (List.replicate n z) T->aG false P N R ops l ((d,.slice (some ⟨b,0,none⟩) n n)::env) (T::H) K)(O:Nat.blt d N=true:=by rfl):
  aG false P N R ops (⟨some d,.makeSlice t x y,ty,pos,af,none⟩::l) env H K:=
 aG.l8 O λa w A a4 ro=>by
  obtain⟨i,U,V⟩:=C.h w
  have hw:IntKind.i64.wrap (n:Int)=n:=IntWalk.i64_in _ (by omega)
  have I:∀m,(askRoom m).run P w=.ok () w:=λm=>by unfold askRoom;split<;>rfl
  have a3:(o.cells).size=k:=by rw[B];simpa using p
  have J:¬((i.bytes:Int)*(n:Int)>2^48):=by
   rw[V]
   have:((r*n:Nat):Int)<=((2^48:Nat):Int):=Int.ofNat_le.2 Y
   rw[Int.natCast_mul]at this
   omega
  have a1:∃c:Array Value,((Array.range (n*k)).map (λj=>(if n*k=0 then #[]else o.cells)[j % (if n*k=0 then #[]else o.cells).size]!))=c/\c.size=n*k/\Row c 0 ((List.replicate n z).flatMap enc):=by
   refine⟨_,rfl,by simp,?_⟩
   intro j g
   have Q:∀m:Nat,((List.replicate m z).flatMap enc).length=m*k:=λm=>by
    rw[jP (sz:=k) (λx f=>by rw[abV f];exact p),abW]
   rw[Q]at g
   have a0:¬n*k=0:=by omega
   have S:∀m j:Nat,j<m*k->((List.replicate m z).flatMap enc)[j]? =(enc z)[j % k]? :=by
    intro m
    induction m with
    |zero=>intro j g;omega
    |succ m ih=>
     intro j g
     rw[List.replicate_succ,List.flatMap_cons]
     by_cases h:j<k
     ·rw[List.getElem?_append_left (by omega),Nat.mod_eq_of_lt h]
     ·rw[List.getElem?_append_right (by omega),p,ih (j-k) (by rw[Nat.add_mul,Nat.one_mul]at g;omega),Nat.mod_eq_sub_mod (a:=j) (b:=k) (by omega)]
   rw[S n j g,Nat.zero_add]
   simp only[if_neg a0]
   have W:j % k<k:=Nat.mod_lt _ X
   rw[Array.getElem?_map,Array.getElem?_range,if_pos g,Option.map_some,a3]
   have G:o.cells[j % k]! =(enc z)[j % k]'(by omega):=by
    rw[B]
    simp[getElem!_pos,p,W]
   rw[G,bC (by omega)]
  obtain⟨c,q,M,L⟩:=a1
  have a2:(Instr.makeSlice t (iN n) (iN n)).run P w=.ok (.slice (some ⟨w.heap.size,0,none⟩) n n) (w.alloc (.cells c e)):=by
   simp only[Instr.makeSlice,Sem.run_bind,run_underlying ut.h,Result.andThen_ok,asInt,asIntOf,Sem.run_pure,U,hw]
   have D:decide ((i.bytes:Int)*(n:Int)>2^48)=false:=decide_eq_false J
   have E:decide ((n:Int)>(n:Int))=false:=decide_eq_false (by omega)
   have F:decide ((n:Int)<0)=false:=decide_eq_false (by omega)
   simp only[D,E,F,Bool.or_false,Bool.false_eq_true,if_false,Int.toNat_natCast]
   simp only[Sem.run_bind,I,s.h,Result.andThen_ok]
   by_cases v:n*k=0
   ·simp only[if_pos v]at q⊢
    simp only[Sem.run_bind,Sem.run_pure,Result.andThen_ok,q,mn]
   ·simp only[if_neg v]at q⊢
    simp only[Sem.run_bind,Sem.run_pure,Result.andThen_ok,zr.h,q,mn]
  refine⟨.slice (some ⟨w.heap.size,0,none⟩) n n,w.alloc (.cells c e),[(w.heap.size,.cells c e (0,0))]::H,?_,Frame.alloc w H _,Sat.alloc a4 _,Z _ _ ?_⟩
  ·simp[execOp,A.eval f,A.eval hy,a2]
  ·refine⟨λx f=>by rw[abV f];exact p,λx f=>by rw[abV f];exact ho,.inr ⟨w.heap.size,0,c,n,by rw[abW],rfl,by rw[abW];exact Nat.le_refl _,by unfold maxLen;omega,by rw[M];omega,L⟩⟩
end
end
end Go.Proofs.YtkkmbiojicgobaaGreatDoor

/- What the law 'KeepOpens' uses. No condition. -/
import Derived.Lib.Overlaps
import Derived.Test.YtocjmmbldeljnaaGreatDoorKKeepOpensB
set_option linter.unusedSimpArgs false
set_option linter.unusedVariables false
namespace Go.Proofs.YtocjmmbldeljnaaGreatDoor
set_option linter.defProp false
def abN:=@Nat.mul_le_mul_right
def abO:=@List.mem_append
def abP:=@List.mem_of_mem_drop
def abQ:=@Array.length_toList
def abR:=@List.length_drop
def abS:=@BitVec.eq_of_toNat_eq
def abT:=@List.eq_of_mem_replicate
def abU:=@List.length_replicate
section
set_option linter.unusedVariables false
theorem OA{c:Array Value}{off sz cap lo:Nat}{α:Type}{enc:α->List Value}{xs ys:List α}(g:Row c off (xs.flatMap enc))(d:∀x∈xs,(enc x).length=sz)(o:∀y∈ys,(enc y).length=sz)(n:lo<=xs.length)(j:lo+ys.length<=cap)(s:off+cap*sz<=c.size):
  Row (bT c.toList (off+lo*sz) (ys.flatMap enc)).toArray off ((xs.take lo++ys++xs.drop (lo+ys.length)).flatMap enc):=by
 intro k e
 have a:=gU d
 have f:=gU o
 rw[List.flatMap_append,List.flatMap_append,sm lo d,sl (lo+ys.length) d]at e⊢
 have t:lo*sz<=xs.length*sz:=abN _ n
 have u:(lo+ys.length)*sz<=cap*sz:=abN _ j
 have v:(lo+ys.length)*sz=lo*sz+ys.length*sz:=Nat.add_mul _ _ _
 have h:((xs.flatMap enc).take (lo*sz)).length=lo*sz:=by rw[List.length_take,a];omega
 rw[List.getElem?_toArray,gC]
 have l:(c.toList.take (off+lo*sz)).length=off+lo*sz:=by rw[List.length_take,abQ];omega
 simp only[List.getElem?_append,List.length_append,l,h,f]
 by_cases b:k<lo*sz
 ·rw[if_pos (by omega),if_pos (by omega),if_pos (by omega),if_pos b,List.getElem?_take_of_lt (by omega),List.getElem?_take_of_lt b,Array.getElem?_toList]
  exact g k (by rw[a];omega)
 ·by_cases r:k<lo*sz+ys.length*sz
  ·rw[if_pos (by omega),if_neg (by omega),if_pos (by omega),if_neg b]
   congr 1
   omega
  ·have m:k<xs.length*sz:=by
    simp only[List.length_append,h,f,abR,a]at e
    omega
   rw[if_neg (by omega),if_neg (by omega),List.getElem?_drop,List.getElem?_drop,Array.getElem?_toList]
   have i:=g k (by rw[a];exact m)
   have p:off+lo*sz+ys.length*sz+(off+k-(off+lo*sz+ys.length*sz))=off+k:=by omega
   have q:(lo+ys.length)*sz+(k-(lo*sz+ys.length*sz))=k:=by omega
   rw[p,q]
   exact i
theorem N5{E sz b off cap lo:Nat}{c:Array Value}{α:Type}{enc:α->List Value}{xs ys:List α}(h:OS E sz enc (.slice (some ⟨b,off,none⟩) xs.length cap) xs [(b,.cells c E (0,0))])(a:∀y∈ys,(enc y).length=sz)(o:∀y∈ys,∀u∈enc y,Go.Proofs.YtocjmmbldeljnaaGreatDoor.ay u=true)(j:lo<=xs.length)(e:lo+ys.length<=cap)
  (m:Row c off (xs.flatMap enc))(d:off+cap*sz<=c.size)(k:cap<=maxLen)(n:Nat)(f:(xs.take lo++ys++xs.drop (lo+ys.length)).length=n)(l:n<=cap):
  OS E sz enc (.slice (some ⟨b,off,none⟩) n cap) (xs.take lo++ys++xs.drop (lo+ys.length)) [(b,.cells (bT c.toList (off+lo*sz) (ys.flatMap enc)).toArray E (0,0))]:=by
 have i:=gU a
 have p:(lo+ys.length)*sz<=cap*sz:=abN _ e
 have q:(lo+ys.length)*sz=lo*sz+ys.length*sz:=Nat.add_mul _ _ _
 refine⟨λx hx=>?_,λx hx=>?_,.inr ⟨b,off,_,cap,by rw[f],rfl,by rw[f];exact l,k,?_,OA m h.len a j e d⟩⟩
 ·rcases abO.1 hx with hx|hx
  ·rcases abO.1 hx with hx|hx
   ·exact h.len x (List.mem_of_mem_take hx)
   ·exact a x hx
  ·exact h.len x (abP hx)
 ·rcases abO.1 hx with hx|hx
  ·rcases abO.1 hx with hx|hx
   ·exact h.one x (List.mem_of_mem_take hx)
   ·exact o x hx
  ·exact h.one x (abP hx)
 ·have g:c.toList.length=c.size:=abQ
  rw[List.size_toArray,mv (by rw[i];omega),g];exact d
section
variable{P:Program}{N:Nat}{R:ao}{ops:Array Oper}{l:List Oper}{env:Env}{H:aF}{K:Env->aF->Prop}{T:au}{upd:au->aF}{ty:TypeId}{pos:String}{af:Array Edge}{α:Type}
theorem aB.uZ{d:Nat}{x y:Operand}{B tb E sz cap j A kc k F lo n:Nat}{b off:Nat}{z ps:Option Addr}{enc:α->List Value}{xs ys:List α}(v:OS E sz enc (.slice (some ⟨b,off,none⟩) xs.length cap) xs T)(e:RS (Rx R H) sz enc (.slice ps ys.length kc) ys) [sa:dE H T upd] [ua:bh P B (.slice E)] [s:Sz P E sz]
  (a4:z=some ⟨b,off+lo*sz,none⟩)(W:Nat.min j k=ys.length)(Y:lo<=xs.length)(r:lo+ys.length<=cap)(a1:(xs.take lo++ys++xs.drop (lo+ys.length)).length=n)(a0:n<=cap)
  (hx:ev env x=some (.slice z k F))(i:ev env y=some (.slice ps j A))(Z:∀T',OS E sz enc (.slice (some ⟨b,off,none⟩) n cap) (xs.take lo++ys++xs.drop (lo+ys.length)) T'->aB false P N R ops l ((d,iN ys.length)::env) (upd T') K)(U:Nat.blt d N=true:=by rfl):
  aB false P N R ops (⟨some d,.call ⟨.builtin .copy,#[x,y],#[B,tb]⟩,ty,pos,af,none⟩::l) env H K:=
 aB.lv U λa w q f ro=>by
  obtain⟨C,D,G,m⟩:=sa.h
  subst G
  subst a4
  have hw:∀b o,Rx R (C++T::D) b o->w.heap[b]? =some o:=λb o h=>by
   rcases h with h|h
   ·exact(ro b o h).1
   ·exact f.2 _ h
  have t:=qX (P:=P) e hw
  rcases v.h with⟨g,p,I⟩|⟨b',a9,c,a5,g,p,I,J,L,M⟩
  ·cases g
  ·cases g
   subst p
   have O:w.heap[b]? =some (.cells c E (0,0)):=f.2 (b,_) (by simp)
   have X:=gU e.len
   have a7:(lo+ys.length)*sz<=cap*sz:=abN _ r
   have a8:(lo+ys.length)*sz=lo*sz+ys.length*sz:=Nat.add_mul _ _ _
   have a2:∀c∈ys.flatMap enc,Go.Proofs.YtocjmmbldeljnaaGreatDoor.ay c=true:=λc Q=>by
    obtain⟨y,i,S⟩:=List.mem_flatMap.1 Q
    exact e.one y i c S
   have u:=pG (P:=P) (b:=b) (off:=off+lo*sz) (E:=E) (ys.flatMap enc) 0 c.toList w (by simpa using O) a2 (by rw[X];have a6:c.toList.length=c.size:=abQ;omega)
   rw[Nat.add_zero]at u
   have a3:=N5 v e.len e.one Y r M L J n a1 a0
   refine⟨iN ys.length,dz w b (.cells (bT c.toList (off+lo*sz) (ys.flatMap enc)).toArray E (0,0)),upd [(b,.cells (bT c.toList (off+lo*sz) (ys.flatMap enc)).toArray E (0,0))],?_,by rw[m];exact(kk (o':=_) f).1,by rw[m];exact(kk (o':=_) f).2,Z _ a3⟩
   have V:(Builtin.firstCells sz ys.length (.slice ps j A)).run P w=.ok (ys.flatMap enc).toArray w:=by
    cases ps with
    |none=>exact t
    |some a=>exact t
   simp[execOp,resolve,q.eval hx,q.eval i,invoke,builtin,Builtin.copy_,run_underlying ua.h,s.h,Builtin.lenOf,W,V,u,goInt]
theorem Ob{sz lo hi b off cap:Nat}(h:cap≠lo):jI sz lo hi (some ⟨b,off,none⟩) cap=.slice (some ⟨b,off+lo*sz,none⟩) (hi-lo) (cap-lo):=by
 unfold jI
 rw[if_neg h,Option.map_some,kO]
theorem OS.PZ{R':ao}{E sz cap b off:Nat}{enc:α->List Value}{xs:List α}(h:OS E sz enc (.slice (some ⟨b,off,none⟩) xs.length cap) xs T)(g:∀p∈T,R' p.1 p.2)(i:Nat)(hi:i<=xs.length):RS R' sz enc (.slice (some ⟨b,off+i*sz,none⟩) (xs.drop i).length (cap-i)) (xs.drop i):=by
 refine⟨λx d=>h.len x (abP d),λx d=>h.one x (abP d),?_⟩
 rcases h.h with⟨a,_,_⟩|⟨j,o,c,k,a,e,l,m,n,f⟩
 ·cases a
 ·cases a
  subst e
  refine⟨_,cap-i,rfl,by rw[abR];omega,by omega,.inr ⟨b,off+i*sz,c,E,(0,0),rfl,g (b,_) (by simp),?_⟩⟩
  have:=f.piece h.len i (xs.length-i)
  rwa [List.take_of_length_le (by rw[abR];exact Nat.le_refl _)]at this
end
end
section
theorem wrap32(z:Int):IntKind.u32.wrap z=((BitVec.ofInt 32 z).toNat:Int):=by
 simp only[IntKind.wrap,IntKind.bits,IntKind.signed,BitVec.toNat_ofInt]
 simp
 omega
theorem QH(z:Int):IntKind.u8.wrap z=((BitVec.ofInt 8 z).toNat:Int):=by
 simp only[IntKind.wrap,IntKind.bits,IntKind.signed,BitVec.toNat_ofInt]
 simp
 omega
theorem qG(x:BitVec 32):BitVec.ofInt 32 (x.toNat:Int)=x:=by
 apply abS
 simp
section
variable{P:Program}{R:ao}{env:Env}{H:aF}{ty:TypeId}{x y:Operand}{t u:TypeId}{a b:BitVec 32}
theorem aI.rj{op:Op}{z:Int}(h:aI P R env H op ty (.int .u32 (IntKind.u32.wrap z)))(c:BitVec 32)(e:BitVec.ofInt 32 z=c):aI P R env H op ty (.int .u32 (c.toNat:Int)):=by
 subst e
 rw[wrap32]at h
 exact h
theorem aI.uv(c:ev env x=some (.int .u32 (a.toNat:Int)))(d:ev env y=some (.int .u32 (b.toNat:Int))):aI P R env H (.binOp .and t x y u) ty (.int .u32 ((a&&&b).toNat:Int)):=
 (aI.rJ c d).rj _ (by
  simp only[IntKind.bits,qG]
  rfl)
theorem aI.ru(c:ev env x=some (.int .u32 (a.toNat:Int)))(d:ev env y=some (.int .u32 (b.toNat:Int))):aI P R env H (.binOp .xor t x y u) ty (.int .u32 ((a^^^b).toNat:Int)):=
 (aI.rr c d).rj _ (by
  simp only[IntKind.bits,qG]
  rfl)
theorem aI.Q9{e:IntKind}{n:Nat}(c:ev env x=some (.int .u32 (a.toNat:Int)))(d:ev env y=some (.int e (n:Int)))(f:n<=32):aI P R env H (.binOp .shl t x y u) ty (.int .u32 ((a<<<n).toNat:Int)):=
 (aI.lP c d (by omega)).rj _ (by
  apply abS
  have h:min ((n:Int)).toNat IntKind.u32.bits=n:=by simp only[IntKind.bits];omega
  have b:(a.toNat:Int)*2^n=((a.toNat*2^n:Nat):Int):=by simp
  rw[h,b,BitVec.ofInt_natCast,BitVec.toNat_ofNat,BitVec.toNat_shiftLeft,Nat.shiftLeft_eq])
theorem aI.yl{f:IntKind}{n:Nat}(d:ev env x=some (.int .u32 (a.toNat:Int)))(e:ev env y=some (.int f (n:Int)))(g:n<=32):aI P R env H (.binOp .shr t x y u) ty (.int .u32 ((a>>>n).toNat:Int)):=by
 have h:=aI.pI (P:=P) (R:=R) (H:=H) (ty:=ty) (t:=t) (u:=u) d e (by omega)
 have b:min ((n:Int)).toNat IntKind.u32.bits=n:=by simp only[IntKind.bits];omega
 have c:((a>>>n).toNat:Int)=(a.toNat:Int).fdiv (2^min ((n:Int)).toNat IntKind.u32.bits):=by
  rw[b,Int.fdiv_eq_ediv_of_nonneg _ (Int.le_of_lt (Int.pow_pos (by decide)))]
  simp[Nat.shiftRight_eq_div_pow]
 rw[c]
 exact h
theorem aI.wide{c:UInt8}{a:TypeDesc}{dst:TypeId}(b:ev env x=some (.int .u8 (c.toNat:Int))) [us:bh P t a] [d:bh P dst (.int .u32)]:aI P R env H (.convert t dst x) ty (.int .u32 ((c.toBitVec.setWidth 32).toNat:Int)):=
 (aI.fv b).rj _ (by
  apply abS
  simp)
end
end
section
theorem vh{α:Type}{l:List α}{i:Nat}{x:α}(h:l[i]? =some x):l.drop i=x::l.drop (i+1):=by
 obtain⟨a,b⟩:=List.getElem?_eq_some_iff.1 h
 rw[<-b];exact List.drop_eq_getElem_cons a
section
variable{P:Program}{R:ao}{env:Env}{H:aF}{ty:TypeId}{x y:Operand}{t u:TypeId}{a:BitVec 32}
theorem aI.MF{t e:TypeId}{n sz:Nat}{p:Value}{vs:List Value}{k:IntKind}{j:Int}(i:Nat)(hi:i<n)(q:ev env x=some p)(r:ev env y=some (.int k j))(m:j=(i:Int)) [ut:bh P t (.array n e)] [s:Sz P e sz] [rc:RC R H p vs]:
  aI P R env H (.indexAddr t x y) ty (gr p (i*sz)):=λa w d z u g l _ _=>by
 obtain⟨b,o,c,E,v,f,_,_⟩:=rc.h.h
 subst f;subst m
 have f:(0:Int)<=i/\(i:Int)<n:=by omega
 simp[execOp,l.eval q,l.eval r,Instr.indexAt,asIntOf,run_underlying ut.h,Instr.sureAddr,f,hi,s.h,gr]
theorem aI.wM{t e:TypeId}{n:Nat}{p:Value}{vs:List Value}{k:IntKind}{j:Int}(i:Nat)(hi:i<n)(b:ev env x=some p)(c:ev env y=some (.int k j))(a:j=(i:Int)) [ut:bh P t (.array n e)] [s:Sz P e 1] [rc:RC R H p vs]:
  aI P R env H (.indexAddr t x y) ty (gr p i):=by
 have:=aI.MF (P:=P) (R:=R) (env:=env) (H:=H) (ty:=ty) (t:=t) i hi b c a
 rw[Nat.mul_one]at this
 exact this
theorem aI.uW(j:ev env x=some (.int .u32 (a.toNat:Int))):aI P R env H (.unOp .xor t x) ty (.int .u32 ((~~~a).toNat:Int)):=λc w d l k g i _ _=>by
 have e:IntKind.u32.wrap ((BitVec.ofInt IntKind.u32.bits IntKind.u32.max^^^BitVec.ofInt IntKind.u32.bits (a.toNat:Int)).toNat:Int)=((~~~a).toNat:Int):=by
  have b:IntKind.u32.max=4294967295:=by decide
  have f:BitVec.ofInt 32 4294967295=BitVec.allOnes 32:=by decide
  have h:(BitVec.ofInt IntKind.u32.bits IntKind.u32.max^^^BitVec.ofInt IntKind.u32.bits (a.toNat:Int)).toNat=(~~~a).toNat:=by
   rw[b]
   show(BitVec.ofInt 32 4294967295^^^BitVec.ofInt 32 (a.toNat:Int)).toNat=_
   rw[qG,f,BitVec.allOnes_xor]
  rw[h,wrap32,qG]
 simp only[execOp,i.eval j,Op.unary,Op.intBits,IntKind.signed,Bool.false_eq_true,if_false,e]
 rfl
theorem aI.Pg{xl f:Option Operand}{t e:TypeId}{n sz b off:Nat}(lo hi:Nat)(p:ev env x=some (.pointer (some ⟨b,off,none⟩))) [ut:bh P t (.array n e)] [s:Sz P e sz](m:dR env xl 0 lo)(c:dR env f n hi)(q:lo<=hi)(r:hi<=n)(C:lo<n):
  aI P R env H (.slice t x xl f none) ty (.slice (some ⟨b,off+lo*sz,none⟩) (hi-lo) (n-lo)):=λa w d E B g u _ _=>by
 have i:∀{x:Operand} {k:IntKind} {y n:Nat} {code:BoundsCode},ev env x=some (.int k n)->n<=y->(Instr.sliceBound (a.eval x) y code).run P w=.ok n w:=λp z=>run_sliceBound (u.eval p) z
 have l:¬n=lo:=by omega
 have A:(Instr.sliceAt t (.pointer (some ⟨b,off,none⟩)) (xl.map a.eval) (f.map a.eval) none).run P w=.ok (.slice (some ⟨b,off+lo*sz,none⟩) (hi-lo) (n-lo)) w:=by
  unfold Instr.sliceAt
  simp only[Sem.run_bind,run_underlying ut.h,Result.andThen_ok,Instr.sureAddr]
  unfold Instr.sliceBounds
  cases xl with
  |none=>
   simp only[dR]at m
   subst m
   cases f with
   |none=>simp only[dR]at c;subst c;simp[s.h,l,kO]
   |some o=>obtain⟨k,j⟩:=c;simp[s.h,i j r,l,kO]
  |some o=>
   obtain⟨k,j⟩:=m
   cases f with
   |none=>simp only[dR]at c;subst c;simp[s.h,i j q,l,kO]
   |some o'=>obtain⟨D,v⟩:=c;simp[s.h,i j q,i v r,l,kO]
 simp only[execOp,u.eval p,Option.map_none]
 rw[Sem.run_bind,A]
 rfl
end
section
variable{P:Program}{N:Nat}{R:ao}{ops:Array Oper}{l:List Oper}{env:Env}{H:aF}{K:Env->aF->Prop}{T:au}{upd:au->aF}{ty:TypeId}{pos:String}{af:Array Edge}{α:Type}
theorem aB.makeSlice{d:Nat}{t e:TypeId}{x y:Operand}{k r:Nat}{o:Value}{enc:α->List Value}(n:Nat)(z:α) [ut:bh P t (.slice e)] [s:Sz P e k] [C:By P e r] [zr:Zr P e o](B:o.cells=(enc z).toArray)(p:(enc z).length=k)(X:0<k)(ho:∀u∈enc z,Go.Proofs.YtocjmmbldeljnaaGreatDoor.ay u=true)
  (f:ev env x=some (iN n))(hy:ev env y=some (iN n))(Y:r*n<=2^48)(a5:n<=9223372036854775807)
  (Z:∀b T,OS e k enc (.slice (some ⟨b,0,none⟩) n n) (List.replicate n z) T->aB false P N R ops l ((d,.slice (some ⟨b,0,none⟩) n n)::env) (T::H) K)(O:Nat.blt d N=true:=by rfl):
  aB false P N R ops (⟨some d,.makeSlice t x y,ty,pos,af,none⟩::l) env H K:=
 aB.lv O λa w A a4 ro=>by
  obtain⟨i,U,V⟩:=C.h w
  have hw:IntKind.i64.wrap (n:Int)=n:=IntWalk.i64_in _ (by omega)
  have I:∀m,(askRoom m).run P w=.ok () w:=λm=>by unfold askRoom;split<;>rfl
  have a3:(o.cells).size=k:=by rw[B];simpa using p
  have J:¬((i.bytes:Int)*(n:Int)>2^48):=by
   rw[V]
   have:((r*n:Nat):Int)<=((2^48:Nat):Int):=Int.ofNat_le.2 Y
   rw[Int.natCast_mul]at this
   omega
  have a1:∃c:Array Value,((Array.range (n*k)).map (λj=>(if n*k=0 then #[]else o.cells)[j % (if n*k=0 then #[]else o.cells).size]!))=c/\c.size=n*k/\Row c 0 ((List.replicate n z).flatMap enc):=by
   refine⟨_,rfl,by simp,?_⟩
   intro j g
   have Q:∀m:Nat,((List.replicate m z).flatMap enc).length=m*k:=λm=>by
    rw[gU (sz:=k) (λx f=>by rw[abT f];exact p),abU]
   rw[Q]at g
   have a0:¬n*k=0:=by omega
   have S:∀m j:Nat,j<m*k->((List.replicate m z).flatMap enc)[j]? =(enc z)[j % k]? :=by
    intro m
    induction m with
    |zero=>intro j g;omega
    |succ m ih=>
     intro j g
     rw[List.replicate_succ,List.flatMap_cons]
     by_cases h:j<k
     ·rw[List.getElem?_append_left (by omega),Nat.mod_eq_of_lt h]
     ·rw[List.getElem?_append_right (by omega),p,ih (j-k) (by rw[Nat.add_mul,Nat.one_mul]at g;omega),Nat.mod_eq_sub_mod (a:=j) (b:=k) (by omega)]
   rw[S n j g,Nat.zero_add]
   simp only[if_neg a0]
   have W:j % k<k:=Nat.mod_lt _ X
   rw[Array.getElem?_map,Array.getElem?_range,if_pos g,Option.map_some,a3]
   have G:o.cells[j % k]! =(enc z)[j % k]'(by omega):=by
    rw[B]
    simp[getElem!_pos,p,W]
   rw[G,bd (by omega)]
  obtain⟨c,q,M,L⟩:=a1
  have a2:(Instr.makeSlice t (iN n) (iN n)).run P w=.ok (.slice (some ⟨w.heap.size,0,none⟩) n n) (w.alloc (.cells c e)):=by
   simp only[Instr.makeSlice,Sem.run_bind,run_underlying ut.h,Result.andThen_ok,asInt,asIntOf,Sem.run_pure,U,hw]
   have D:decide ((i.bytes:Int)*(n:Int)>2^48)=false:=decide_eq_false J
   have E:decide ((n:Int)>(n:Int))=false:=decide_eq_false (by omega)
   have F:decide ((n:Int)<0)=false:=decide_eq_false (by omega)
   simp only[D,E,F,Bool.or_false,Bool.false_eq_true,if_false,Int.toNat_natCast]
   simp only[Sem.run_bind,I,s.h,Result.andThen_ok]
   by_cases v:n*k=0
   ·simp only[if_pos v]at q⊢
    simp only[Sem.run_bind,Sem.run_pure,Result.andThen_ok,q,lH]
   ·simp only[if_neg v]at q⊢
    simp only[Sem.run_bind,Sem.run_pure,Result.andThen_ok,zr.h,q,lH]
  refine⟨.slice (some ⟨w.heap.size,0,none⟩) n n,w.alloc (.cells c e),[(w.heap.size,.cells c e (0,0))]::H,?_,Frame.alloc w H _,Sat.alloc a4 _,Z _ _ ?_⟩
  ·simp[execOp,A.eval f,A.eval hy,a2]
  ·refine⟨λx f=>by rw[abT f];exact p,λx f=>by rw[abT f];exact ho,.inr ⟨w.heap.size,0,c,n,by rw[abU],rfl,by rw[abU];exact Nat.le_refl _,by unfold maxLen;omega,by rw[M];omega,L⟩⟩
end
end
end Go.Proofs.YtocjmmbldeljnaaGreatDoor

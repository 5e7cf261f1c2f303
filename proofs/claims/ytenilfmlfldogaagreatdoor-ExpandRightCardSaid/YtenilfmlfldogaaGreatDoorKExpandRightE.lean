/- What the law 'ExpandRight' uses. No condition. -/
import Derived.Laws.AppendOwn
import Derived.Lib.Builder
import Derived.Lib.ConvBytes
import Derived.Lib.UnsafeStr
import Derived.Test.YtenilfmlfldogaaGreatDoorKExpandRightB
import Derived.Test.YtenilfmlfldogaaGreatDoorKExpandRightD
set_option linter.unusedVariables false
namespace Go.Proofs.YtenilfmlfldogaaGreatDoor
set_option linter.defProp false
def ab8:=@List.mem_singleton
def ab9:=@List.length_append
def aca:=@List.getElem?_toArray
def acb:=@List.mem_append
def acd:=@List.size_toArray
def ace:=@List.flatten_cons
def acf:=@Nat.mul_le_mul_right
def acg:=@List.getElem?_cons_zero
def ach:=@List.getElem?_cons_succ
def aci:=@Bool.false_eq_true
def acj:=@List.getElem?_append_left
def ack:=@List.length_take
section
def jE(c:UInt8):List Value:=[.int .u8 (c.toNat:Int)]
theorem qY(l:List UInt8):l.flatMap jE=l.map λb=>Value.int .u8 (b.toNat:Int):=by
 induction l with
 |nil=>rfl
 |cons x l ih=>rw[List.flatMap_cons,ih];rfl
section
variable{P:Program}{N:Nat}{R:aw}{ops:Array Oper}{env:Env}{H:aN}{K:Env->aN->Prop}{l:List Oper}{m:Bool}{ty:TypeId}{pos:String}{af:Array Edge}{T:aH}{upd:aH->aN}
theorem bo.Al{src dst t:TypeId}{x:Operand}{b off E:Nat}{c:Array Value}{fr:Nat×Nat}(l:(b,Obj.cells c E fr)∈H.flatten)(ho:off<c.size) [us:bS P src (.pointer t)] [r:bS P dst .unsafePointer](m:(P.info? t).map (λj=>decide (j.size≠0))=some true)
  (o:ev env x=some (.pointer (some ⟨b,off,none⟩))):bo P R env H (.convert src dst x) ty (.pointer (some ⟨b,off,none⟩)):=λa w d u s g k q _=>by
 obtain⟨j,n,p⟩:=Option.map_eq_some_iff.1 m
 have f:=q.2 _ l
 have i:=Lib.run_to_unsafe (P:=P) w (src:=src) (dst:=dst) (e:=E) (cells:=c.size) ⟨b,off,none⟩ us.h r.h n (by simpa using p) (by simp[World.shape?,f]) ho
 simp[execOp,k.eval o,i]
theorem bo.xA{src dst t:TypeId}{x:Operand}{b off E n:Nat}{c:Array Value}{fr:Nat×Nat}(l:(b,Obj.cells c E fr)∈H.flatten)(q:c.size=n) [us:bS P src .unsafePointer] [u:bS P dst (.pointer t)](m:(P.info? t).isSome=true)(p:liesAt P P.depth E (n/P.cellsOf E) off t 1=true)
  (r:ev env x=some (.pointer (some ⟨b,off,none⟩))):bo P R env H (.convert src dst x) ty (.pointer (some ⟨b,off,none⟩)):=λa w d y v g k s _=>by
 obtain⟨j,o⟩:=Option.isSome_iff_exists.1 m
 have f:=s.2 _ l
 have i:=Lib.run_from_unsafe (P:=P) w (src:=src) (dst:=dst) (e:=E) (cells:=n) ⟨b,off,none⟩ us.h u.h o (by simp[World.shape?,f,q]) p
 simp[execOp,k.eval r,i]
theorem bo.yJ{F:FuncId}{fn:Func}{ta:TypeId}{x:Operand}{v:Value}(hf:P.funcs[F]? =some fn)(hname:(fn.name== "runtime.NumGoroutine")=false)(hbd:fn.body.isNone=true)(hnx:Extern.findNext fn=none)(he:Extern.find fn=some Extern.AbiNoEscape.same)
  (hx:ev env x=some v):bo P R env H (.call ⟨.value (.func F),#[x],#[ta]⟩) ty v:=fun a w d pos af g ha sat ro=>by
 have hr:=run_callFunc_extern hf hname hbd hnx he #[v] w
 rw[Lib.run_noEscape]at hr
 have h4:=ha.pp (xs:=[x]) (vs:=[v]) (by simp[jf,hx])
 simp only[execOp,resolve,h4,Act.eval,Deferred.ofValue]
 simp[invoke,hr]
theorem bo.yF{t c u:TypeId}{x y:Operand}{p:Addr}(i:ev env x=some (.pointer (some p)))(k:ev env y=some (.pointer (some p))) [ut:bS P t (.pointer c)](e:(P.info? c).isSome=true):bo P R env H (.binOp .neq t x y u) ty (.bool false):=λa w d m l g b _ _=>by
 obtain⟨j,f⟩:=Option.isSome_iff_exists.1 e
 refine qc (op:=.move x) (b.eval i) (b.eval k) (oo rfl) rfl (r:=true) ?_
 have h:∀d:Nat,(Op.equalIn (d+1) t (.pointer (some p)) (.pointer (some p))).run P w=.ok true w:=λd=>by
  simp[Op.equalIn,run_underlying ut.h,sizeOf,typeInfo,f,run_sameAddr_same]
 exact h 9999
theorem bo.zW{x:Operand}{t:TypeId}{p:Addr}{n c:Nat}(e:c≠0)(f:ev env x=some (.slice (some p) n c)):bo P R env H (.call ⟨.builtin .unsafeSliceData,#[x],#[t]⟩) ty (.pointer (some p)):=λa w d i h g b _ _=>by
 simp[execOp,resolve,b.eval f,invoke,builtin,Lib.run_unsafeSliceData_row w _ _ p n c e]
theorem bo.zX{x:Operand}{t:TypeId}{n c:Nat}(e:ev env x=some (.slice none n c)):bo P R env H (.call ⟨.builtin .unsafeSliceData,#[x],#[t]⟩) ty (.pointer none):=λa w d h f g b _ _=>by
 simp[execOp,resolve,b.eval e,invoke,builtin,Lib.run_unsafeSliceData_nil w]
theorem bo.As{x y:Operand}{t u:TypeId}{p:Option Addr}(c:ev env x=some (.pointer p))(e:ev env y=some (.int .i64 0)):bo P R env H (.call ⟨.builtin .unsafeString,#[x,y],#[t,u]⟩) ty (.string ⟨#[]⟩):=λa w d i f g b _ _=>by
 have h:=Lib.run_unsafeString_none (P:=P) w t u ty p
 simp[execOp,resolve,b.eval c,b.eval e,invoke,builtin,h]
 rfl
theorem aO.PK{d:Nat}{src dst e:TypeId}{x:Operand}{s:ByteArray}{us:TypeDesc} [G:bS P src us] [I:bS P dst (.slice e)] [J:bS P e (.int .u8)](D:s.size<=maxLen)
  (A:∀v T',RS (sg T') 1 jE v s.data.toList->aO false P N R ops l ((d,v)::env) (T'::H) K)(i:ev env x=some (.string s):=by rfl)(t:Nat.blt d N=true:=by rfl):
  aO false P N R ops (⟨some d,.convert src dst x,ty,pos,af,none⟩::l) env H K:=
 aO.mv t λa w o f L=>by
  have n:=Lib.run_convert_string_bytes (P:=P) w src dst e s G.h I.h J.h
  have B:=Lib.bytesWorld_at_new w e s
  have z:Frame w H (Lib.bytesWorld w e s) ([(w.heap.size,.cells (Lib.bytesCells w e s) e ((Lib.bytesCells w e s).size,(Lib.bytesCells w e s).size+1))]::H):=
   ⟨by rw[Lib.bytesWorld_size];omega,λb r _=>Lib.bytesWorld_at_old w e s b r,λp hp=>by
    rw[ace,acb]at hp
    rcases hp with hp|hp
    ·rw[ab8]at hp;subst hp;exact .inr (Nat.le_refl _)
    ·exact .inl ⟨p,hp,rfl⟩,by simp[Lib.bytesWorld,World.freeze,World.alloc,World.drew, -World.alloc_eq, -World.drew_eq],by simp[Lib.bytesWorld,World.freeze,World.alloc,World.drew, -World.alloc_eq, -World.drew_eq],by simp[Lib.bytesWorld,World.freeze,World.alloc,World.drew, -World.alloc_eq, -World.drew_eq]⟩
  have E:Sat (Lib.bytesWorld w e s) ([(w.heap.size,.cells (Lib.bytesCells w e s) e ((Lib.bytesCells w e s).size,(Lib.bytesCells w e s).size+1))]::H):=by
   refine⟨?_,λp hp=>?_⟩
   ·rw[ace,List.map_append,List.nodup_append]
    refine⟨by simp,f.1,λx i y F=>?_⟩
    simp only[List.map_cons,List.map_nil,ab8]at i
    obtain⟨q,C,rfl⟩:=List.mem_map.1 F
    have:=mA (f.2 q C)
    omega
   ·rw[ace,acb]at hp
    rcases hp with hp|hp
    ·rw[ab8]at hp;subst hp;exact B
    ·rw[Lib.bytesWorld_at_old w e s _ (mA (f.2 p hp))];exact f.2 p hp
  refine⟨.slice (some ⟨w.heap.size,0,none⟩) s.size (grownCap w s.size 0 e),Lib.bytesWorld w e s,_,?_,z,E,A _ _ ?_⟩
  ·simp[execOp,o.eval i,n]
  ·have j:s.data.toList.length=s.size:=by simp
   refine⟨λ_ _=>rfl,λc _ u m=>by simp only[jE,ab8]at m;subst m;rfl,some ⟨w.heap.size,0,none⟩,grownCap w s.size 0 e,by rw[j],by rw[j];exact grownCap_ge w _ _ _,grownCap_le_maxLen w _ _ _ D,.inr ⟨w.heap.size,0,_,_,_,rfl,ab8.2 rfl,?_⟩⟩
   intro k g
   rw[qY]at g⊢
   rw[List.length_map]at g
   unfold Lib.bytesCells
   rw[Nat.zero_add,Array.getElem?_append_left (by simpa using g)]
   simp
theorem Ml{e:TypeId}(b:P.cellsOf e=1){count off n:Nat}(c:off+n<=count):liesAt P P.depth e count off e n=true:=by
 have a:P.depth=(2*(P.types.size+Made.depth)+1)+1:=rfl
 rw[a]
 simp only[liesAt,Bool.or_eq_true]
 left
 rw[a]
 simp[rowAt,b,c,sameLayout,Nat.mod_one]
theorem aO.Ar{d:Nat}{x y:Operand}{g tb E b off:Nat}{c:Array Value}{xs:List UInt8} [V:fA H [(b,.cells c E (0,0))] upd](t:xs≠[])(M:Row c off (xs.flatMap jE))(C:off+xs.length<=c.size)(o:P.cellsOf E=1)(Y:xs.length<=9223372036854775807) [ut:bS P g (.pointer E)]
  (T:ev env x=some (.pointer (some ⟨b,off,none⟩)))(U:ev env y=some (iN xs.length))(J:∀fr,aO false P N R ops l ((d,.string ⟨xs.toArray⟩)::env) (upd [(b,.cells c E fr)]) K)(A:Nat.blt d N=true:=by rfl):
  aO false P N R ops (⟨some d,.call ⟨.builtin .unsafeString,#[x,y],#[g,tb]⟩,ty,pos,af,none⟩::l) env H K:=
 aO.mv A λa w m f Z=>by
  obtain⟨W,X,s,k⟩:=V.h
  subst s
  have e:w.heap[b]? =some (.cells c E (0,0)):=f.2 (b,_) (by simp)
  have r:xs.length≠0:=by simpa using t
  have z:∀j x,xs[j]? =some x->w.cell? ((⟨b,off,none⟩:Addr).add j)=some (.int .u8 x.toNat):=λj x q=>by
   have B:=(List.getElem?_eq_some_iff.1 q).1
   have:=M j (by rw[qY,List.length_map];exact B)
   rw[qY,List.getElem?_map,q]at this
   rw[qz]
   simpa[World.cell?,e]using this
  have D:=Lib.run_loadBytes (P:=P) w xs ⟨b,off,none⟩ .empty z
  have F:=Ml (P:=P) o (count:=c.size/P.cellsOf E) (off:=off) (n:=xs.length) (by rw[o,Nat.div_one];exact C)
  have u:¬(9223372036854775807:Int)<(xs.length:Int):=by omega
  have I:IntKind.i64.max=9223372036854775807:=rfl
  have L:¬(xs.length:Int)<0:=by omega
  have Q:w.shape? b=some (E,c.size):=by simp[World.shape?,e]
  have S:w.freeze ⟨b,off,none⟩ xs.length=ew w b (.cells c E (off,off+xs.length)):=by
   unfold World.freeze ew
   rw[if_neg r]
   congr 1
   apply Array.ext_getElem?
   intro i
   obtain⟨G,v⟩:=Array.getElem?_eq_some_iff.1 e
   rw[Array.getElem?_modify,Array.getElem?_setIfInBounds]
   by_cases p:b=i
   ·subst p
    simp[G,v]
   ·simp[p]
  have O:(Builtin.unsafeString_ #[g,tb] ty #[.pointer (some ⟨b,off,none⟩),iN xs.length]).run P w=.ok (.string ⟨xs.toArray⟩) (w.freeze ⟨b,off,none⟩ xs.length):=by
   refine(show Sem.run P (asInt (iN xs.length)>>=_) w=_ from ?_)
   simp[asInt,asIntOf,I,u,L,r,variablesAt,Q,elemOf,run_underlying ut.h,F,D]
  refine⟨_,ew w b (.cells c E (off,off+xs.length)),upd [(b,.cells c E (off,off+xs.length))],?_,by rw[k];exact(nY (o':=_) f).1,by rw[k];exact(nY (o':=_) f).2,J _⟩
  rw[<-S]
  simp[execOp,resolve,m.eval T,m.eval U,invoke,builtin,O]
end
end
section
abbrev oc:Nat:=18446744073709551616
theorem Ay(n:Nat):IntKind.u64.wrap (n:Int)=((n % oc:Nat):Int):=by
 simp[IntKind.wrap,IntKind.bits,IntKind.signed]
theorem Qs{n:Nat}(h:n<oc):IntKind.u64.wrap (n:Int)=(n:Int):=by rw[Ay,Nat.mod_eq_of_lt h]
theorem OS.lits{α:Type}{b n E sz:Nat}{cs:List Value}{enc:α->List Value}{xs:List α}(a:xs.flatMap enc=cs)(c:∀x∈xs,(enc x).length=sz)(ho:∀x∈xs,∀u∈enc x,Go.Proofs.YtenilfmlfldogaaGreatDoor.aq u=true)(d:xs.length=n:=by rfl)(e:Nat.ble n 9223372036854775807=true:=by rfl):OS E sz enc (.slice (some ⟨b,0,none⟩) n n) xs [(b,.cells cs.toArray E (0,0))]:=
 ⟨c,ho,.inr ⟨b,0,_,n,by rw[d],rfl,by omega,by have:=Nat.le_of_ble_eq_true e;unfold maxLen;omega,by subst a;rw[acd,jg c,d];omega,λk f=>by subst a;simp⟩⟩
section
variable{P:Program}{R:aw}{env:Env}{H:aN}{x y:Operand}{t u ty:TypeId}{a b n:Nat}{k2:IntKind}
theorem bo.zU(b:ev env x=some (.int .u64 (a:Nat)))(c:ev env y=some (.int k2 (n:Nat)))(d:n<=64):bo P R env H (.binOp .shl t x y u) ty (.int .u64 ((a*2^n % oc:Nat))):=by
 have h:=bo.lu (P:=P) (R:=R) (H:=H) (t:=t) (u:=u) (ty:=ty) b c (by omega)
 rw[show min ((n:Int)).toNat IntKind.u64.bits=n by simp only[IntKind.bits];omega,show((a:Int)*2^n)=((a*2^n:Nat):Int) by simp,Ay]at h
 exact h
theorem bo.Ak{k:IntKind}{b:TypeDesc}{dst:TypeId}(d:ev env x=some (.int k (a:Nat)))(c:a<oc) [us:bS P t b] [e:bS P dst (.int .u64)]:bo P R env H (.convert t dst x) ty (.int .u64 (a:Nat)):=by
 have h:=bo.gK (P:=P) (R:=R) (H:=H) (ty:=ty) (t:=t) (dst:=dst) (k':=.u64) d
 rw[Qs c]at h
 exact h
theorem bo.KY{s:TypeId}{i:Nat}{c:Array Field}{b:Field}{cs:List Value}{v:Value}(l:P.underlying s=some (.struct c))(k:c[i]? =some b)(j:cs[b.offset]? =some v)(e:cR P b.type false)(m:ev env x=some (.agg cs.toArray)):bo P R env H (.field s x i) ty v:=λa w d o n g f _ _=>by
 simp[execOp,f.eval m,Instr.field,run_underlying l,k,asAgg,part,e.h,j]
theorem bo.qy{p q:ByteArray}(h:p.size+q.size<=9223372036854775807)(f:ev env x=some (.string p))(i:ev env y=some (.string q)):bo P R env H (.binOp .add t x y u) ty (.string (p++q)):=λa w d k j g b _ _=>by
 have e:IntKind.i64.max=9223372036854775807:=rfl
 have c:¬(9223372036854775807:Int)<((p.size:Int)+(q.size:Int)):=by omega
 simp[execOp,b.eval f,b.eval i,eqGuard,binOp,Op.stringOp,e,c]
end
end
section
set_option linter.unusedVariables false
section
variable{α β:Type}
theorem OG{P:Program}{R:aw}{H1 H2:aN}{T:aH}{E sz bytes:Nat}{enc:α->List Value}{v u:Value}{xs ys:List α}{w:World}{ta tb t:TypeId}{z:Value}
  (hv:OS E sz enc v xs T)(hfuA:∀w':World,(Builtin.firstCells sz ys.length u).run P w'=.ok (ys.flatMap enc).toArray w')(hluA:∀w':World,(Builtin.lenOf u).run P w'=.ok ys.length w')(ulen:∀y∈ys,(enc y).length=sz)(uone:∀y∈ys,∀c∈enc y,Go.Proofs.YtenilfmlfldogaaGreatDoor.aq c=true)(ua:bS P ta (.slice E))(ub:bS P tb .string)(s:Sz P E sz)(by_:By P E bytes)(zr:Zr P E z)(hz:z.cells.size=sz)(hb0:0<bytes)(hb:(xs.length+ys.length)*bytes<=2^47)
  (sat:Sat w (H1++T::H2))(ro:RO w R (H1++T::H2)):
  ∃v' w' T',(Builtin.append_ #[ta,tb] t #[v,u]).run P w=.ok v' w'/\OS E sz enc v' (xs++ys) T'/\Frame w (H1++T::H2) w' (H1++T'::H2)/\Sat w' (H1++T'::H2):=by
 have hfu:=hfuA w
 have hlu:=hluA w
 have hlen:∀x∈xs++ys,(enc x).length=sz:=λx hx=>(acb.1 hx).elim (hv.len x) (ulen x)
 have hone:∀x∈xs++ys,∀c∈enc x,Go.Proofs.YtenilfmlfldogaaGreatDoor.aq c=true:=λx hx=>(acb.1 hx).elim (hv.one x) (uone x)
 have hneed:xs.length+ys.length<=2^47:=Nat.le_trans (Nat.le_mul_of_pos_right _ hb0) hb
 have hone':∀c∈ys.flatMap enc,Go.Proofs.YtenilfmlfldogaaGreatDoor.aq c=true:=λc hc=>by
  obtain⟨y,hy,hcy⟩:=List.mem_flatMap.1 hc
  exact uone y hy c hcy
 -- the two ways
 have grow:∀(p:Option Addr) (cap:Nat),v=.slice p xs.length cap->¬xs.length+ys.length<=cap->(Builtin.firstCells sz xs.length v).run P {w with drawn:=w.drawn+1}=.ok (xs.flatMap enc).toArray {w with drawn:=w.drawn+1}->
   ∃v' w' T',(Builtin.append_ #[ta,tb] t #[v,u]).run P w=.ok v' w'/\OS E sz enc v' (xs++ys) T'/\Frame w (H1++T::H2) w' (H1++T'::H2)/\Sat w' (H1++T'::H2):=by
  intro p cap hvp hcap hfv
  obtain⟨i,hi,hib⟩:=by_.h w
  have hcut:∃q,xs.length+ys.length<=q/\q<=maxLen/\q=Question.cut (.appendCap (xs.length+ys.length) cap E) (w.tape w.drawn (.appendCap (xs.length+ys.length) cap E)):=by
   refine⟨_,?_,?_,rfl⟩
   ·simp only[Question.cut];omega
   ·simp only[Question.cut]
    have:w.tape w.drawn (.appendCap (xs.length+ys.length) cap E) % (2^63-(xs.length+ys.length))<2^63-(xs.length+ys.length):=Nat.mod_lt _ (by omega)
    unfold maxLen;omega
  obtain⟨q,hq1,hq2,hq3⟩:=hcut
  have hfu':(Builtin.firstCells sz ys.length u).run P {w with drawn:=w.drawn+1}=.ok (ys.flatMap enc).toArray {w with drawn:=w.drawn+1}:=hfuA _
  have hn1:¬((xs.length+ys.length:Nat):Int)>IntKind.i64.max:=by
   have:IntKind.i64.max=9223372036854775807:=by decide
   omega
  have hn2:¬Builtin.nextslicecap (xs.length+ys.length) cap*bytes>2^48:=by
   have h1:=nextslicecap_le (need:=xs.length+ys.length) (old:=cap) (by omega)
   have h2:=acf bytes h1
   rw[Nat.mul_assoc]at h2
   omega
  have hrun:(Builtin.append_ #[ta,tb] t #[v,u]).run P w=.ok (.slice (some ⟨w.heap.size,0,none⟩) (xs.length+ys.length) q)
    (World.alloc {w with drawn:=w.drawn+1} (.cells ((xs.flatMap enc).toArray++(ys.flatMap enc).toArray++Builtin.zeroCells z.cells (q-(xs.length+ys.length))) E)):=by
   subst hvp
   simp only[Builtin.append_]
   simp only[aca,acg,ach,Sem.run_bind,run_underlying ua.h,run_underlying ub.h,Result.andThen_ok,s.h,Sem.run_pure]
   have hm:(TypeDesc.string matches .int _)=false:=rfl
   simp only[aci,if_false,hlu,Result.andThen_ok,if_neg hcap,false_or,hn1,false_and,hi,hib,if_neg hn2,Sem.run_bind]
   have hch:(choose (.appendCap (xs.length+ys.length) cap E)).run P w=.ok (Question.cut (.appendCap (xs.length+ys.length) cap E) (w.tape w.drawn (.appendCap (xs.length+ys.length) cap E))) {w with drawn:=w.drawn+1}:=by
    simp[choose,Sem.run,Question.forced]
   rw[hch, <-hq3]
   obtain⟨i',hi',hib'⟩:=by_.h {w with drawn:=w.drawn+1}
   have har:∀n,(askRoom n).run P {w with drawn:=w.drawn+1}=.ok () {w with drawn:=w.drawn+1}:=λn=>by
    unfold askRoom;split<;>rfl
   simp only[Result.andThen_ok,hi',har,hfv,Bool.not_false,if_true,hfu',zr.h,lU]
   rfl
  have hz':(Builtin.zeroCells z.cells (q-(xs.length+ys.length))).size=(q-(xs.length+ys.length))*sz:=by rw[Az,hz]
  generalize hC:(xs.flatMap enc).toArray++(ys.flatMap enc).toArray++Builtin.zeroCells z.cells (q-(xs.length+ys.length))=C at hrun
  have hsize:0+q*sz<=C.size:=by
   have h1:=jg hv.len
   have h2:=jg ulen
   rw[<-hC]
   simp only[Array.size_append,acd,h1,h2,hz']
   rw[<-Nat.add_mul, <-Nat.add_mul,Nat.zero_add]
   exact acf _ (by omega)
  have hrow:Row C 0 ((xs++ys).flatMap enc):=by
   intro k hk
   rw[<-hC]
   rw[List.flatMap_append]at hk⊢
   have hsz:k<((xs.flatMap enc).toArray++(ys.flatMap enc).toArray).size:=by
    rw[ab9]at hk
    simpa only[Array.size_append,acd]using hk
   rw[Nat.zero_add,Array.getElem?_append_left hsz,List.append_toArray (xs.flatMap enc) (ys.flatMap enc),aca]
  clear hC hz' hfu hlu hfu' hq3
  have hos:OS E sz enc (.slice (some ⟨w.heap.size,0,none⟩) (xs.length+ys.length) q) (xs++ys) [(w.heap.size,.cells C E (0,0))]:=
   ⟨hlen,hone,.inr ⟨w.heap.size,0,C,q,by rw[ab9],rfl,by rw[ab9];exact hq1,hq2,hsize,hrow⟩⟩
  have f:=(Frame.drew w (H1++T::H2) (w.drawn+1)).trans (Frame.alloc {w with drawn:=w.drawn+1} (H1++T::H2) (.cells C E (0,0)))
  have f2:Frame w (H1++T::H2) (World.alloc {w with drawn:=w.drawn+1} (.cells C E)) (H1++[(w.heap.size,.cells C E (0,0))]::H2):=f.trans (bp.front.frame _)
  have s2:Sat (World.alloc {w with drawn:=w.drawn+1} (.cells C E)) (H1++[(w.heap.size,.cells C E (0,0))]::H2):=bp.front.sat (Sat.alloc (w:={w with drawn:=w.drawn+1}) (sat.drew _) _)
  exact⟨_,_,_,hrun,hos,f2,s2⟩
 rcases hv.h with⟨rfl,rfl,rfl⟩|⟨b,off,c,cap,rfl,rfl,g3,g4,g5,g6⟩
 ·by_cases h0:ys.length=0
  ·have hy:ys=[]:=List.eq_nil_of_length_eq_zero h0
   subst hy
   refine⟨sZ,w,[],?_,OS.nil,Frame.refl _ _,sat⟩
   simp only[Builtin.append_]
   simp only[aca,acg,ach,Sem.run_bind,run_underlying ua.h,run_underlying ub.h,Result.andThen_ok,s.h,Sem.run_pure,aci,if_false,hlu]
   have hfu0:(Builtin.firstCells sz 0 u).run P w=.ok #[] w:=hfu
   simp[hfu0]
  ·exact grow none 0 rfl (by simp only[List.length_nil];omega) rfl
 ·by_cases hcap:xs.length+ys.length<=cap
  ·have hb:=sat.2 (b,.cells c E (0,0)) (by simp)
   have hc:c=c.toList.toArray:=by simp
   have hl1:=jg hv.len
   have hl2:=jg ulen
   have hroom:off+xs.length*sz+(ys.flatMap enc).length<=c.toList.length:=by
    rw[hl2,Array.length_toList,Nat.add_assoc, <-Nat.add_mul]
    exact Nat.le_trans (Nat.add_le_add_left (acf _ hcap) _) g5
   have hst:=r9 (P:=P) (b:=b) (off:=off+xs.length*sz) (E:=E) (ys.flatMap enc) 0 c.toList w (by rw[<-hc];exact hb) hone' (by simpa using hroom)
   rw[Nat.add_zero]at hst
   have hadd:(⟨b,off,none⟩:Addr).add (xs.length*sz)=⟨b,off+xs.length*sz,none⟩:=by
    simp only[Addr.add];split
    ·rename_i h0;rw[h0];rfl
    ·rfl
   refine⟨.slice (some ⟨b,off,none⟩) (xs.length+ys.length) cap,ew w b (.cells (dh c.toList (off+xs.length*sz) (ys.flatMap enc)).toArray E (0,0)),[(b,.cells (dh c.toList (off+xs.length*sz) (ys.flatMap enc)).toArray E (0,0))],?_,⟨hlen,hone,.inr ⟨b,off,_,cap,by rw[ab9],rfl,by rw[ab9];exact hcap,g4,?_,?_⟩⟩,Frame.set (T1:=[]) (T2:=[]),Sat.set (T1:=[]) (T2:=[]) sat⟩
   ·simp only[Builtin.append_]
    simp only[aca,acg,ach,Sem.run_bind,run_underlying ua.h,run_underlying ub.h,Result.andThen_ok,s.h,Sem.run_pure,aci,if_false,hlu,if_pos hcap,Bool.not_false,if_true,hfu,hadd,hst]
   ·rw[acd,oT hroom,Array.length_toList];exact g5
   ·intro k hk
    rw[List.flatMap_append]at hk⊢
    rw[aca]
    have hle:off+xs.length*sz<=c.toList.length:=by omega
    by_cases h1:k<(xs.flatMap enc).length
    ·have h2:=g6 k h1
     rw[hl1]at h1
     rw[iH,List.append_assoc,acj (by rw[ack];omega),List.getElem?_take_of_lt (by omega),Array.getElem?_toList,h2,acj (by omega)]
    ·rw[ab9]at hk
     rw[hl1]at h1 hk
     rw[iH,List.append_assoc,List.getElem?_append_right (by rw[ack];omega),ack,Nat.min_eq_left hle,
      acj (by omega),List.getElem?_append_right (by omega),hl1]
     congr 1
     omega
  ·refine grow _ cap rfl hcap ?_
   refine r8 (P:=P) (R:=sg [(b,.cells c E (0,0))]) (hv.rs λp hp=>hp) λb' o' h'=>?_
   simp only[sg,ab8,Prod.mk.injEq]at h'
   obtain⟨e1,e2⟩:=h'
   subst e1;subst e2
   exact sat.2 (b',.cells c E (0,0)) (by simp)
end
section
variable{P:Program}{N:Nat}{R:aw}{ops:Array Oper}{l:List Oper}{env:Env}{H:aN}{K:Env->aN->Prop}{ty:TypeId}{pos:String}{af:Array Edge}{m:Bool}
theorem aO.A4{d:Nat}{x y:Operand}{m tb E:Nat}{v:Value}{s:ByteArray}{xs:List UInt8}{T:aH}{n:aH->aN}(D:OS E 1 jE v xs T) [L:fA H T n] [M:bS P m (.slice E)] [O:bS P tb .string] [sz:Sz P E 1] [o:By P E 1] [Q:Zr P E (.int .u8 0)]
  (S:xs.length+s.size<=2^47)(z:∀v' T',OS E 1 jE v' (xs++s.data.toList) T'->aO false P N R ops l ((d,v')::env) (n T') K)
  (F:ev env x=some v:=by rfl)(G:ev env y=some (.string s):=by rfl)(q:Nat.blt d N=true:=by rfl):
  aO false P N R ops (⟨some d,.call ⟨.builtin .append,#[x,y],#[m,tb]⟩,ty,pos,af,none⟩::l) env H K:=
 aO.mv q λa w j J I=>by
  obtain⟨H1,H2,p,i⟩:=L.h
  subst p
  have g:s.data.toList.length=s.size:=by simp
  obtain⟨v',f,T',B,A,r,C⟩:=OG (P:=P) (R:=R) (H1:=H1) (H2:=H2) (enc:=jE) (u:=.string s) (ys:=s.data.toList) (t:=ty) (tb:=tb) D
   (λf=>by
    have e:(s.extract 0 s.size).data=s.data:=by simp
    rw[g,qY]
    show(pure ((s.extract 0 s.size).data.map λb=>Value.int .u8 b.toNat):Sem (Array Value)).run P f=_
    rw[e,Sem.run_pure]
    congr 1
    apply Array.ext'
    simp)
   (λf=>by rw[g];rfl) (λy _=>rfl) (λy _ c k=>by simp only[jE,ab8]at k;subst k;rfl) M O sz o Q rfl (by decide) (by rw[g];omega) J I
  refine⟨v',f,_,?_,?_,?_,z v' T' A⟩
  ·simp[execOp,resolve,j.eval F,j.eval G,invoke,builtin,B]
  ·rw[i];exact r
  ·rw[i];exact C
end
end
end Go.Proofs.YtenilfmlfldogaaGreatDoor

/- What the law 'ExpandRight' uses. No condition. -/
import Derived.Test.YtenilfmlfldogaaGreatDoorKExpandRightA
import Derived.Test.YtenilfmlfldogaaGreatDoorKExpandRightB
import Derived.Test.YtenilfmlfldogaaGreatDoorKExpandRightE
import Derived.Test.YtenilfmlfldogaaGreatDoorKExpandRightG
import Derived.Test.YtenilfmlfldogaaGreatDoorKExpandRightH
import Derived.Test.YtenilfmlfldogaaGreatDoorKExpandRightI
import Derived.Test.YtenilfmlfldogaaGreatDoorKExpandRightP
namespace Go.Proofs.YtenilfmlfldogaaGreatDoor
set_option linter.defProp false
def af8:=@List.length_append
def af9:=@congrArg
def aga:=@List.length_cons
def agb:=@if_neg
def agc:=@List.cons_append
def agd:=@List.nil_append
def age:=@List.length_nil
def agf:=@List.take_add_one
def agh:=@List.mem_singleton
def agi:=@Nat.zero_le
def agj:=@Nat.le_refl
def agk:=@List.take_of_length_le
def agl:=@List.length_take
def agm:=@List.mem_map
def agn:=@List.length_singleton
def ago:=@List.mem_append
def agp:=@decide_eq_true_eq
def agq:=@List.mem_cons
def agr:=@List.append_assoc
def ags:=@Nat.lt_or_ge
def agt:=@List.append_nil
def agu:=@List.take_append_drop
def agv:=@Nat.min_eq_left
def agw:=@Bool.and_eq_true
def agx:=@UInt8.toNat.inj
def agy:=@List.drop_eq_getElem_cons
def agz:=@List.getElem_mem
def agA:=@List.map_eq_nil_iff
open Tryz
set_option linter.unusedVariables false
set_option linter.unusedSimpArgs false
set_option maxRecDepth 4000
theorem ja{s:ByteArray}{n:Nat}(h:n<s.size):s[n]=gJ s n:=by
 unfold gJ
 have a:n<s.data.size:=h
 rw[Array.getD_eq_getD_getElem?,Array.getElem?_eq_getElem a]
 rfl
theorem LK(s p:ByteArray)(R:aw):Spec prog 116 [.string s,.string p] R [] λv H'=>v=.bool (Lib.hasPrefix s.data.toList p.data.toList)/\H'=[]:=
 Spec.rK (PN s p) R
theorem LM(s:ByteArray)(c:Int)(R:aw):Spec prog 77 [.string s,.int .u8 c] R [] λv H'=>v=.int .i64 (Lib.indexByte s.data.toList c.toNat.toUInt8)/\H'=[]:=by
 refine Spec.body func77 rfl results77 ntmps77 rfl ?_
 refine .sr<|.ag rfl<|.z<|.mo rfl<|.mo rfl ?_
 refine .aR (Spec.rK (PO s c) _) (λv a=>?_)
 subst a
 refine .az rfl ?_
 refine .ret (aM rfl ?_)
 ·exact⟨rfl,rfl⟩
def dA(s:ByteArray)(i:Nat)(r:List UInt8):Prop:=i<=s.size/\s.data.toList.drop i=r
theorem gD(s:ByteArray):s.data.toList.length=s.size:=by simp
theorem dA.zero(s:ByteArray):dA s 0 s.data.toList:=⟨agi _,rfl⟩
theorem dA.len{s:ByteArray}{i:Nat}{r:List UInt8}(h:dA s i r):i+r.length=s.size:=by
 have a:=af9 List.length h.2
 rw[List.length_drop,gD]at a
 have:=h.1
 omega
theorem dA.head{s:ByteArray}{i:Nat}{c:UInt8}{r:List UInt8}(h:dA s i (c::r)):i<s.size/\gJ s i=c:=by
 have e:=h.len
 rw[aga]at e
 have a:i<s.size:=by omega
 refine⟨a,?_⟩
 have b:=h.2
 have d:i<s.data.toList.length:=by rw[gD];exact a
 rw[agy d]at b
 injection b with h3 _
 rw[<-ja a, <-h3]
 rfl
theorem dA.gq{s:ByteArray}{i:Nat}{p r:List UInt8}(h:dA s i (p++r)):dA s (i+p.length) r:=by
 have a:=h.len
 rw[af8]at a
 refine⟨by omega,?_⟩
 rw[<-List.drop_drop,h.2,List.drop_left]
theorem dA.tail{s:ByteArray}{i:Nat}{c:UInt8}{r:List UInt8}(h:dA s i (c::r)):dA s (i+1) r:=dA.gq (p:=[c]) h
theorem wL(s:ByteArray)(i:Nat):(s.extract i s.size).data.toList=s.data.toList.drop i:=by
 simp[ByteArray.data_extract]
 rw[agk]
 simp
theorem dA.pre{s:ByteArray}{i:Nat}{r:List UInt8}(h:dA s i r)(p:List UInt8):Lib.hasPrefix (s.extract i s.size).data.toList p=p.isPrefixOf r:=by
 rw[wL,h.2];rfl
theorem gE{c d:UInt8}{p r:List UInt8}(h:d≠c):(d::p).isPrefixOf (c::r)=false:=by
 rw[List.isPrefixOf_cons_cons,beq_eq_false_iff_ne.2 h,Bool.false_and]
theorem zi(p r:List UInt8):p.isPrefixOf (p++r)=true:=List.isPrefixOf_iff_prefix.2 (List.prefix_append p r)
abbrev dy(p:Nat)(s:ByteArray)(i:Nat):aH:=(bl p [.string s,iN i,.bool true] 95)
def lH(c:UInt8):Bool:=decide (c=32)||(decide (c=9)||(decide (c=10)||decide (c=13)))
theorem Ba(c:UInt8):decide (0<=Lib.indexByte [32,9,10,13] c)=lH c:=by
 have e:∀k:Fin 256,decide (0<=Lib.indexByte [32,9,10,13] (UInt8.ofNat k.val))=lH (UInt8.ofNat k.val):=by decide+kernel
 have h:=e ⟨c.toNat,c.toNat_lt⟩
 simpa using h
def vg(r:List UInt8):Prop:=∀c l,r=c::l->lH c=false
theorem kJ(p:Nat)(s:ByteArray)(i:Nat)(r:List UInt8)(g:dA s i r)(x:s.size<=1000000)(h:vg r)(R:aw):Spec prog 30 [pT p] R [dy p s i] λu H'=>∃T',H'=[T']/\T'=dy p s i:=by
 have o:=g.len
 refine Spec.body func30 rfl results30 ntmps30 rfl ?_
 refine .block ?_
 refine .cL [(0,_)] (X:=Unit) (λ_=>True) (λ_ E=>E) (G:=[dy p s i]) (λ_ G=>G) (λ_=>0) () trivial kE.c rH ?_
 rintro _ _
 refine .seq<|.seq ?_
 refine .dY 20 mixed (by kernel_rfl) ?_
 conv=>arg 6;dsimp only[List.take]
 refine .mo rfl<|.nc rfl<|.fa rfl<|.lo rfl<|.mo rfl ?_
 refine .nc rfl<|.fa rfl<|.lo rfl<|.q .fw<|.q .lss<|.mo rfl ?_
 refine .split (t:=12) rfl (λa=>?_) (λa=>?_)
 obtain⟨c,l,m⟩:∃c l,r=c::l:=by
  cases r with
  |nil=>exfalso;have:=cq a;simp at o;omega
  |cons c l=>exact⟨c,l,rfl⟩
 subst m
 obtain⟨f,j⟩:=g.head
 have n:=ja f
 have v:=h c l rfl
 have k:((gJ s i).toNat:Int).toNat.toUInt8=gJ s i:=by simp
 refine .gT a<|.mo rfl<|.gT a<|.nc rfl<|.gT a<|.fa rfl<|.gT a<|.lo rfl<|.gT a<|.mo rfl<|.gT a ?_
 refine .nc rfl<|.gT a<|.fa rfl<|.gT a<|.lo rfl<|.gT a ?_
 refine .q (.cast (.fv i f) (by rw[n])) ?_
 refine .nil<|.gT a ?_
 refine .aR (LM _ _ _) (λu w=>?_)
 subst w
 refine .gT a<|.q .geq<|.q (.aZ a) ?_
 refine .zn ?_
 refine .cond rfl (λb=>?_) λb=>?_
 ·exfalso
  rw[k,j]at b
  have e:=Ba c
  rw[v]at e
  have d:decide (0<=Lib.indexByte [32,9,10,13] c)=true:=b
  rw[e]at d
  cases d
 refine .exit<|bz<|bG<|bB<|gg _ .none rH ?_
 ·exact⟨_,rfl,rfl⟩
 refine .gF a<|.gF a<|.gF a<|.gF a<|.gF a<|.gF a<|.gF a<|.gF a<|.gF a<|.nil<|.gF a<|.gF a<|.q (.aX a) ?_
 refine .zn<|.bQ<|.exit<|bz<|bG<|bB<|gg _ .none rH ?_
 ·exact⟨_,rfl,rfl⟩
theorem xW(p:Nat)(s:ByteArray)(i:Nat)(r:List UInt8)(b:dA s i r)(j:s.size<=1000000)(w:ByteArray)(k:w.size<=1000000)(R:aw):Spec prog 72 [pT p,.string w] R [dy p s i] λu H'=>∃T',H'=[T']/\u=.bool (w.data.toList.isPrefixOf r)/\T'=dy p s (if w.data.toList.isPrefixOf r then i+w.size else i):=by
 have c:=b.1
 have d:=b.pre w.data.toList
 generalize h:w.data.toList.isPrefixOf r=q at *
 refine Spec.body func72 rfl results72 ntmps72 rfl ?_
 refine .sr<|.ag rfl<|.zs<|.seq ?_
 refine .dY 10 mixed (by kernel_rfl) ?_
 conv=>arg 6;dsimp only[List.take]
 refine .mo rfl<|.nc rfl<|.fa rfl<|.lo rfl<|.mo rfl ?_
 refine .nc rfl<|.fa rfl<|.lo rfl<|.q (.jK i s.size ⟨_,rfl⟩ rfl c (agj _)) ?_
 refine .mo rfl<|.nil ?_
 refine .aR (LK _ _ _) (λu g=>?_)
 subst g
 rw[d]
 refine .q .not<|.zn ?_
 refine .cond rfl (λa=>?_) λa=>?_
 have e:q=false:=by simpa using a
 subst e
 refine .sr<|.az rfl ?_
 refine .ret (aI (bu _ (.one (.tmp rfl)) rH ?_))
 ·exact⟨_,rfl,rfl,rfl⟩
 have f:q=true:=by simpa using a
 subst f
 refine .kn<|.sr<|.mo rfl<|.nc rfl<|.fa rfl<|.lo rfl<|.mo rfl<|.q .fw ?_
 refine .ia (i+w.size) .add ?_
 refine .nc rfl<|.fa rfl<|.dH rfl rfl<|.z<|.az rfl ?_
 refine .ret (bu _ (.one (.tmp rfl)) rH ?_)
 ·exact⟨_,rfl,rfl,rfl⟩
theorem m2(p:Nat)(s:ByteArray)(i:Nat)(w:ByteArray)(r:List UInt8)(d:dA s i (w.data.toList++r))(e:s.size<=1000000)(f:w.size<=1000000)(R:aw):Spec prog 72 [pT p,.string w] R [dy p s i] λu H'=>∃T',H'=[T']/\u=.bool true/\T'=dy p s (i+w.size):=
 (xW p s i _ d e w f R).mono λu H' ⟨T',a,b,c⟩=>⟨T',a,by rw[b,zi],by rw[c,zi];rfl⟩
theorem gC(p:Nat)(s:ByteArray)(i:Nat)(w:ByteArray)(r:List UInt8)(e:dA s i r)(a:w.data.toList.isPrefixOf r=false)(f:s.size<=1000000)(g:w.size<=1000000)(R:aw):Spec prog 72 [pT p,.string w] R [dy p s i] λu H'=>∃T',H'=[T']/\u=.bool false/\T'=dy p s i:=
 (xW p s i _ e f w g R).mono λu H' ⟨T',b,c,d⟩=>⟨T',b,by rw[c,a],by rw[d,a];rfl⟩
theorem LS{s t:ByteArray}{i:Nat}{rest:List UInt8}(h:dA s i (t.data.toList++34::rest))(f:dm t){k:Nat}(d:k<t.size):∃c,t.data.toList[k]? =some c/\jW c=true/\i+k<s.size/\gJ s (i+k)=c:=by
 have a:k<t.data.toList.length:=by rw[gD];exact d
 refine⟨t.data.toList[k],bE a,f _ (agz a),?_⟩
 have e:t.data.toList++34::rest=t.data.toList.take k++(t.data.toList[k]::(t.data.toList.drop (k+1)++34::rest)):=by
  rw[<-agc, <-agy a, <-agr,agu]
 rw[e]at h
 have b:=h.gq
 rw[agl,agv (by omega)]at b
 exact b.head
theorem xX(p:Nat)(s:ByteArray)(i:Nat)(t:ByteArray)(rs:List UInt8)(N:dA s i (dX t++rs))(O:s.size<=1000000)(Q:dm t)(R:aw):Spec prog 73 [pT p] R [dy p s i] λu H'=>∃T',H'=[T']/\u=.string t/\T'=dy p s (i+(t.size+2)):=by
 have x:dA s i (34::(t.data.toList++34::rs)):=by simpa[dX]using N
 have A:=x.tail
 have B:dA s (i+1+t.size) (34::rs):=by have h9:=A.gq;rw[gD]at h9;exact h9
 obtain⟨W,H⟩:=B.head
 have Y:=gD t
 have M:=B.len
 rw[aga]at M
 refine Spec.body func73 rfl results73 ntmps73 rfl ?_
 refine .sr<|.ag rfl<|.z ?_
 refine .bV (λh=>?_)
 refine .zs<|.sr<|.mo rfl ?_
 refine .cr (m2 p s i ⟨#[34]⟩ _ x O (by decide) _) (λu U b=>?_)
 obtain⟨rfl,rfl⟩:=b
 refine .q .not<|.zn<|.bQ<|.kn<|.seq<|.block ?_
 refine .cL [(0,_),(3,_)] (X:=Nat×aH) (λy=>y.1<=t.size/\BI h (t.data.toList.take y.1) y.2) (λy E=>E) (G:=[]) (λy G=>y.2::dy p s (i+1+y.1)::G) (λy=>t.size-y.1) (0,_) ⟨agi _,BI.new⟩ kE.c.c rH ?_
 rintro⟨k,v⟩ ⟨I,g⟩
 simp only at I g⊢
 refine .seq<|.sr<|.mo rfl<|.nc rfl<|.fa rfl<|.lo rfl<|.zn ?_
 refine .cond rfl (λf=>?_) λf=>?_
 refine .kn<|.block<|.seq<|.seq ?_
 refine .eo mixed (by kernel_rfl) ?_
 obtain⟨c,m⟩:∃c,c=gJ s (i+1+k):=⟨_,rfl⟩
 have r:i+1+k<s.size:=by omega
 have o:=ja r
 rw[<-m]at o
 have n:(k<t.size/\t.data.toList[k]? =some c/\jW c=true)\/(k=t.size/\c=34):=by
  rcases ags k t.size with h9|h9
  ·obtain⟨V,D,f,j,d⟩:=LS A Q h9
   left
   rw[m,d]
   exact⟨h9,D,f⟩
  ·right
   have:k=t.size:=by omega
   subst this
   exact⟨rfl,m.trans H⟩
 have F:32<=c.toNat/\c≠92:=by
  rcases n with⟨_,_,h9⟩|⟨_,h9⟩
  ·unfold jW at h9
   simp only[agw,agp]at h9
   exact⟨h9.1,h9.2.2.2⟩
  ·subst h9;exact⟨by decide,by decide⟩
 refine .mo rfl<|.nc rfl<|.fa rfl<|.lo rfl<|.mo rfl ?_
 refine .nc rfl<|.fa rfl<|.lo rfl<|.q .fw<|.q .bw<|.mo rfl ?_
 refine .split (t:=24) rfl (λa=>?_) (λa=>?_)
 ·exfalso;have:=cq a;omega
 refine .gT a<|.mo rfl<|.gT a<|.nc rfl<|.gT a<|.fa rfl<|.gT a<|.lo rfl<|.gT a<|.mo rfl<|.gT a ?_
 refine .nc rfl<|.gT a<|.fa rfl<|.gT a<|.lo rfl<|.gT a ?_
 refine .q (.cast (.fv (i+1+k) r) (by rw[o])) ?_
 refine .gT a<|.q .lss<|.q (.aX a) ?_
 refine .zn ?_
 refine .cond rfl (λj=>?_) λj=>?_
 ·exfalso;have:=cq j;omega
 refine .kn<|.seq ?_
 refine .eo mixed (by kernel_rfl) ?_
 refine .mo rfl<|.nc rfl<|.fa rfl<|.lo rfl<|.mo rfl ?_
 refine .nc rfl<|.fa rfl<|.lo rfl ?_
 refine .q (.cast (.fv (i+1+k) r) (by rw[o])) ?_
 refine .ag rfl<|.z<|.mo rfl<|.nc rfl<|.fa rfl<|.lo rfl ?_
 refine .ia (i+1+k+1) .add ?_
 refine .nc rfl<|.fa rfl<|.dH rfl rfl<|.z<|.mo rfl<|.zn<|.block<|.sr<|.q .bw<|.az rfl ?_
 refine .cond rfl (λd=>?_) λd=>?_
 have l:c=34:=agx (by have h9:=d;simp only[beq_iff_eq]at h9;show c.toNat=34;omega)
 have L:k=t.size:=by
  rcases n with⟨_,_,h9⟩|⟨h9,_⟩
  ·subst l;exact absurd h9 (by decide)
  ·exact h9
 subst L
 have S:t.data.toList.take t.size=t.data.toList:=agk (by omega)
 rw[S]at g
 refine .sr ?_
 refine .call [0] (vZ h _ v _ g) (λu H' b=>?_)
 obtain⟨rfl,rfl⟩:=b
 conv=>arg 8;simp only[rest,bK,agc,agd]
 refine .az rfl ?_
 refine .ret (bf (bf (cK (bf (aI (bu _ (.one (.tmp rfl)) (by first|exact bp.refl _|exact aQ [0]) ?_))))))
 ·refine⟨_,rfl,?_,by rw[show i+(t.size+2)=i+1+t.size+1 by omega];rfl⟩
  first|rfl|simp
 have l:¬c=34:=λe=>by subst e;simp at d
 obtain⟨K,J,_⟩:=n.resolve_right λh9=>l h9.2
 have T:t.data.toList.take (k+1)=t.data.toList.take k++[c]:=by rw[agf,J];rfl
 refine .sr<|.q .bw<|.az rfl ?_
 refine .cond rfl (λw=>?_) λw=>?_
 ·exfalso
  refine F.2 (agx ?_)
  have h9:=w
  simp only[beq_iff_eq]at h9
  show c.toNat=92
  omega
 refine .region<|.mo rfl ?_
 refine .cr (qL h _ v c _ g (by rw[agl];omega)) (λu C b=>?_)
 rw[<-T]at b
 refine .nil<|bi<|bi ?_
 ·exact aW (k+1,C) ⟨K,b⟩ (by simp only;omega) kE.c.c rH
 ·exfalso;simp at f
section
variable{P:Program}{R:aw}{env:Env}{H:aN}{ty:TypeId}
theorem OI(n:Nat){w:World}{t:TypeId}{a:TypeDesc}(b:(match a with| .interface _=>true|_=>false)=true)(ut:P.underlying t=some a):(Op.equalIn (n+1) t .nilIface .nilIface).run P w=.ok true w:=by
 cases a<;>first|(cases b;done)|simp[Op.equalIn,run_underlying ut]
theorem bo.pV{x:Operand}{t u:TypeId}{b:TypeDesc} [ut:bS P t b](e:(match b with| .interface _=>true|_=>false)=true:=by rfl)(f:ev env x=some .nilIface:=by rfl):bo P R env H (.binOp .neq t x (.const .nilIface) u) ty (.bool false):=λa w d j i g c _ _=>
 qc (op:=.move x) (u:=.nilIface) (v:=.nilIface) (r:=true) (c.eval f) rfl (by unfold eqGuard;cases x<;>rfl) rfl (OI _ e ut.h)
end
def kG(s:ByteArray):Prop:=∀k,k<s.size->(gJ s k).toNat<128
theorem Bd{s:ByteArray}{i k:Nat}(g:i<=s.size)(h:k<s.size-i):gJ (s.extract i s.size) k=gJ s (i+k):=by
 have e:=wL s i
 have f:(s.extract i s.size).size=s.size-i:=by simp
 have b:k<(s.extract i s.size).size:=by omega
 have a:i+k<s.size:=by omega
 rw[<-ja b, <-ja a]
 have c:(s.extract i s.size)[k]=(s.extract i s.size).data.toList[k]'(by rw[gD];exact b):=rfl
 have d:s[i+k]=s.data.toList[i+k]'(by rw[gD];exact a):=rfl
 rw[c,d]
 simp only[e,List.getElem_drop]
theorem kG.drop{s:ByteArray}(h:kG s){i:Nat}(a:i<=s.size):kG (s.extract i s.size):=λk c=>by
 have b:(s.extract i s.size).size=s.size-i:=by simp
 rw[Bd a (by omega)]
 exact h _ (by omega)
theorem n8(s:ByteArray)(a:8<=s.size)(R:aw):Spec prog 70 [.string s] R [] λu H'=>(∃n:Int,u=.int .u64 n)/\H'=[]:=by
 refine Spec.body func70 rfl results70 ntmps70 rfl ?_
 refine .sr<|.ag rfl<|.zs<|.bQ<|.kn<|.seq ?_
 refine .eo mixed (by kernel_rfl) ?_
 refine .mo rfl ?_
 refine .q (.fv (p:=s) 0 (by omega)) ?_
 refine .q .gK<|.mo rfl ?_
 refine .q (.fv (p:=s) 1 (by omega)) ?_
 refine .q .gK<|.q .lu<|.q .ey<|.mo rfl ?_
 refine .q (.fv (p:=s) 2 (by omega)) ?_
 refine .q .gK<|.q .lu<|.q .ey<|.mo rfl ?_
 refine .q (.fv (p:=s) 3 (by omega)) ?_
 refine .q .gK<|.q .lu<|.q .ey<|.mo rfl ?_
 refine .q (.fv (p:=s) 4 (by omega)) ?_
 refine .q .gK<|.q .lu<|.q .ey<|.mo rfl ?_
 refine .q (.fv (p:=s) 5 (by omega)) ?_
 refine .q .gK<|.q .lu<|.q .ey<|.mo rfl ?_
 refine .q (.fv (p:=s) 6 (by omega)) ?_
 refine .q .gK<|.q .lu<|.q .ey<|.mo rfl ?_
 refine .q (.fv (p:=s) 7 (by omega)) ?_
 refine .q .gK<|.q .lu<|.q .ey<|.az rfl ?_
 refine .ret (aM rfl ?_)
 ·exact⟨⟨_,rfl⟩,rfl⟩
theorem uY(s:ByteArray)(h:kG s)(R:aw):Spec prog 28 [.string s] R [] λu H'=>u=.bool true/\H'=[]:=by
 refine Spec.body func28 rfl results28 ntmps28 rfl ?_
 refine .sr<|.ag rfl<|.zs<|.block ?_
 refine .cL [] (X:=ByteArray) (λt=>kG t) (λt E=>(0,.string t)::E) (G:=[]) (λ_ G=>G) (λt=>t.size) s h kE.c rH ?_
 intro t A
 refine .seq<|.sr<|.mo rfl<|.q .fw<|.q .gtr<|.zn ?_
 refine .cond rfl (λy=>?_) λy=>?_
 have x:0<t.size:=cF y
 have M:=A 0 x
 have I:=ja x
 refine .kn<|.block<|.sr<|.mo rfl ?_
 refine .q (.cast (.fv 0 x) (by rw[I])) ?_
 refine .ag rfl<|.zs<|.sr<|.mo rfl<|.q .lss<|.zn ?_
 refine .cond rfl (λz=>?_) λz=>?_
 refine .sr<|.mo rfl ?_
 refine .q (.jK 1 t.size ⟨_,rfl⟩ rfl (by omega) (agj _)) ?_
 obtain⟨f,p⟩:∃f,f=t.extract 1 t.size:=⟨_,rfl⟩
 have j:kG f:=p▸A.drop (by omega)
 have N:f.size=t.size-1:=by rw[p];simp
 rw[<-p]
 clear p
 refine .ag rfl<|.zs<|.sr<|.mo rfl<|.q .fw<|.q .gtr<|.mo rfl ?_
 refine .split (t:=19) rfl (λi=>?_) (λi=>?_)
 have L:8<f.size:=by have:=cq i;omega
 refine .gT i<|.mo rfl<|.gT i ?_
 refine .aR (n8 f (by omega) _) (λu g=>?_)
 obtain⟨Y,rfl⟩:=g
 refine .gT i<|.q .qE<|.gT i<|.q .bw<|.q (.aZ i) ?_
 refine .zn ?_
 refine .cond rfl (λB=>?_) λB=>?_
 refine .sr<|.mo rfl ?_
 refine .q (.jK 8 f.size ⟨_,rfl⟩ rfl (by omega) (agj _)) ?_
 obtain⟨e,r⟩:∃e,e=f.extract 8 f.size:=⟨_,rfl⟩
 have k:kG e:=r▸j.drop (by omega)
 have O:e.size=f.size-8:=by rw[r];simp
 rw[<-r]
 clear r
 refine .ag rfl<|.zs<|.dg [] mixed ?_
 refine .tO 0 rfl .move<|.tO 1 rfl .fw<|.tO 2 rfl .gtr<|.tO 3 rfl .move ?_
 refine RA.split (t:=30) rfl (λd=>?_) (λd=>?_)
 have J:16<e.size:=by have:=cq d;omega
 refine .iJ 4 rfl rfl d .move (by kernel_rfl) ?_
 refine .iJ 6 rfl rfl d .move (by kernel_rfl) ?_
 refine .iJ 7 rfl rfl d (.jK 8 e.size ⟨_,rfl⟩ rfl (by omega) (agj _)) (by kernel_rfl) ?_
 refine .sT 5 rfl ?_
 refine .gT d ?_
 refine .aR (n8 e (by omega) _) (λu g=>?_)
 obtain⟨Z,rfl⟩:=g
 refine .nil (Next.sub ?_)
 refine .sT 8 rfl ?_
 refine .gT d ?_
 refine .aR (n8 (e.extract 8 e.size) (by simp;omega) _) (λu g=>?_)
 obtain⟨V,rfl⟩:=g
 refine .nil (Next.sub ?_)
 refine .iJ 9 rfl rfl d .ey (by kernel_rfl) ?_
 refine .iJ 10 rfl rfl d .qE (by kernel_rfl) ?_
 refine .iJ 11 rfl rfl d .bw (by kernel_rfl) ?_
 refine .tO 12 rfl (.aZ d) ?_
 refine RA.nil (by kernel_rfl) ?_
 refine ay ?_
 refine .cond rfl (λC=>?_) λC=>?_
 refine .sr<|.mo rfl ?_
 refine .q (.jK 16 e.size ⟨_,rfl⟩ rfl (by omega) (agj _)) ?_
 obtain⟨n,v⟩:∃n,n=e.extract 16 e.size:=⟨_,rfl⟩
 have F:kG n:=v▸k.drop (by omega)
 have Q:n.size=e.size-16:=by rw[v];simp
 rw[<-v]
 clear v
 refine .az rfl<|.block ?_
 refine .cL [] (X:=ByteArray) (λb=>kG b/\b.size<t.size) (λb E=>(0,.string b)::E) (G:=[]) (λ_ G=>G) (λb=>b.size) n ⟨F,by omega⟩ kE.c rH ?_
 rintro b ⟨l,m⟩
 refine .seq<|.seq<|.dg [] mixed ?_
 refine .tO 0 rfl .move<|.tO 1 rfl .fw<|.tO 2 rfl .gtr<|.tO 3 rfl .move ?_
 refine RA.split (t:=45) rfl (λa=>?_) (λa=>?_)
 have K:32<b.size:=by have:=cq a;omega
 refine .iJ 4 rfl rfl a .move (by kernel_rfl) ?_
 refine .iJ 6 rfl rfl a .move (by kernel_rfl) ?_
 refine .iJ 7 rfl rfl a (.jK 8 b.size ⟨_,rfl⟩ rfl (by omega) (agj _)) (by kernel_rfl) ?_
 refine .iJ 10 rfl rfl a .move (by kernel_rfl) ?_
 refine .iJ 11 rfl rfl a (.jK 16 b.size ⟨_,rfl⟩ rfl (by omega) (agj _)) (by kernel_rfl) ?_
 refine .iJ 13 rfl rfl a .move (by kernel_rfl) ?_
 refine .iJ 14 rfl rfl a (.jK 24 b.size ⟨_,rfl⟩ rfl (by omega) (agj _)) (by kernel_rfl) ?_
 refine .sT 5 rfl ?_
 refine .gT a ?_
 refine .aR (n8 b (by omega) _) (λu g=>?_)
 obtain⟨n9,rfl⟩:=g
 refine .nil (Next.sub ?_)
 refine .sT 8 rfl ?_
 refine .gT a ?_
 refine .aR (n8 (b.extract 8 b.size) (by simp;omega) _) (λu g=>?_)
 obtain⟨W,rfl⟩:=g
 refine .nil (Next.sub ?_)
 refine .iJ 9 rfl rfl a .ey (by kernel_rfl) ?_
 refine .sT 12 rfl ?_
 refine .gT a ?_
 refine .aR (n8 (b.extract 16 b.size) (by simp;omega) _) (λu g=>?_)
 obtain⟨U,rfl⟩:=g
 refine .nil (Next.sub ?_)
 refine .sT 15 rfl ?_
 refine .gT a ?_
 refine .aR (n8 (b.extract 24 b.size) (by simp;omega) _) (λu g=>?_)
 obtain⟨T,rfl⟩:=g
 refine .nil (Next.sub ?_)
 refine .iJ 16 rfl rfl a .ey (by kernel_rfl) ?_
 refine .iJ 17 rfl rfl a .ey (by kernel_rfl) ?_
 refine .iJ 18 rfl rfl a .qE (by kernel_rfl) ?_
 refine .iJ 19 rfl rfl a .bw (by kernel_rfl) ?_
 refine .tO 20 rfl (.aZ a) ?_
 refine RA.nil (by kernel_rfl) ?_
 refine ay ?_
 refine .cond rfl (λD=>?_) λD=>?_
 refine .kn<|.block<|.region<|.mo rfl ?_
 refine .q (.jK 32 b.size ⟨_,rfl⟩ rfl (by omega) (agj _)) ?_
 obtain⟨o,w⟩:∃o,o=b.extract 32 b.size:=⟨_,rfl⟩
 have H:kG o:=w▸l.drop (by omega)
 have S:o.size=b.size-32:=by rw[w];simp
 rw[<-w]
 clear w
 refine .ag rfl<|.nil<|bi ?_
 ·exact aW o ⟨H,by omega⟩ (by omega) kE.c rH
 refine .exit<|bz<|bG<|bB<|ay<|.exit<|bz<|bB ?_
 ·first
   |exact aW b l m kE.c rH
   |exact aW e k (by omega) kE.c rH
   |exact aW f j (by omega) kE.c rH
 refine .iI 4 rfl rfl a rfl (by kernel_rfl) ?_
 refine .iI 6 rfl rfl a rfl (by kernel_rfl) ?_
 refine .iI 7 rfl rfl a rfl (by kernel_rfl) ?_
 refine .iI 10 rfl rfl a rfl (by kernel_rfl) ?_
 refine .iI 11 rfl rfl a rfl (by kernel_rfl) ?_
 refine .iI 13 rfl rfl a rfl (by kernel_rfl) ?_
 refine .iI 14 rfl rfl a rfl (by kernel_rfl) ?_
 refine .sT 5 rfl ?_
 refine .gF a ?_
 refine .nil (Next.sub ?_)
 refine .sT 8 rfl ?_
 refine .gF a ?_
 refine .nil (Next.sub ?_)
 refine .iI 9 rfl rfl a rfl (by kernel_rfl) ?_
 refine .sT 12 rfl ?_
 refine .gF a ?_
 refine .nil (Next.sub ?_)
 refine .sT 15 rfl ?_
 refine .gF a ?_
 refine .nil (Next.sub ?_)
 refine .iI 16 rfl rfl a rfl (by kernel_rfl) ?_
 refine .iI 17 rfl rfl a rfl (by kernel_rfl) ?_
 refine .iI 18 rfl rfl a rfl (by kernel_rfl) ?_
 refine .iI 19 rfl rfl a rfl (by kernel_rfl) ?_
 refine .tO 20 rfl (.aX a) ?_
 refine RA.nil (by kernel_rfl) ?_
 refine ay<|.bQ<|.exit<|bz<|bG<|bB<|ay<|.exit<|bz<|bB ?_
 ·first
   |exact aW b l m kE.c rH
   |exact aW e k (by omega) kE.c rH
   |exact aW f j (by omega) kE.c rH
 refine .kn<|.exit<|bz<|bB ?_
 ·first
   |exact aW b l m kE.c rH
   |exact aW e k (by omega) kE.c rH
   |exact aW f j (by omega) kE.c rH
 refine .iI 4 rfl rfl d rfl (by kernel_rfl) ?_
 refine .iI 6 rfl rfl d rfl (by kernel_rfl) ?_
 refine .iI 7 rfl rfl d rfl (by kernel_rfl) ?_
 refine .sT 5 rfl ?_
 refine .gF d ?_
 refine .nil (Next.sub ?_)
 refine .sT 8 rfl ?_
 refine .gF d ?_
 refine .nil (Next.sub ?_)
 refine .iI 9 rfl rfl d rfl (by kernel_rfl) ?_
 refine .iI 10 rfl rfl d rfl (by kernel_rfl) ?_
 refine .iI 11 rfl rfl d rfl (by kernel_rfl) ?_
 refine .tO 12 rfl (.aX d) ?_
 refine RA.nil (by kernel_rfl) ?_
 refine ay<|.bQ<|.kn<|.exit<|bz<|bB ?_
 ·first
   |exact aW b l m kE.c rH
   |exact aW e k (by omega) kE.c rH
   |exact aW f j (by omega) kE.c rH
 refine .kn<|.exit<|bz<|bB ?_
 ·first
   |exact aW b l m kE.c rH
   |exact aW e k (by omega) kE.c rH
   |exact aW f j (by omega) kE.c rH
 refine .gF i<|.gF i<|.gF i<|.gF i<|.q (.aX i) ?_
 refine .zn<|.bQ<|.kn<|.exit<|bz<|bB ?_
 ·first
   |exact aW b l m kE.c rH
   |exact aW e k (by omega) kE.c rH
   |exact aW f j (by omega) kE.c rH
 ·exfalso
  have:=bC z
  omega
 refine .exit<|bz<|bG<|bB<|ay<|.sr<|.az rfl ?_
 refine .ret (aM rfl ?_)
 ·exact⟨rfl,rfl⟩
theorem zc{s:ByteArray}(h:dm s):kG s:=λk a=>by
 rw[<-ja a]
 have c:s[k]=s.data.toList[k]'(by rw[gD];exact a):=rfl
 rw[c]
 have b:=h _ (agz (by rw[gD];exact a))
 unfold jW at b
 simp only[agw,agp]at b
 omega
theorem KV(b:Bool)(R:aw):Spec prog 62 [.bool b] R [] λu H'=>u=.string ⟨(bT b).toArray⟩/\H'=[]:=by
 have a:Spec prog 112 [.bool b] (Rx R []) [] λu H'=>u=.string ⟨(bT b).toArray⟩/\H'=[]:=by
  cases b
  ·skip
   refine Spec.body func112 rfl results112 ntmps112 rfl ?_
   refine .sr<|.ag rfl<|.zs<|.sr<|.mo rfl<|.zn<|.bQ<|.kn<|.sr<|.az rfl ?_
   refine .ret (aM rfl ?_)
   ·exact⟨rfl,rfl⟩
  ·skip
   refine Spec.body func112 rfl results112 ntmps112 rfl ?_
   refine .sr<|.ag rfl<|.zs<|.sr<|.mo rfl<|.zn<|.eQ<|.sr<|.az rfl ?_
   refine .ret (aI (aM rfl ?_))
   ·exact⟨rfl,rfl⟩
 refine Spec.body func62 rfl results62 ntmps62 rfl ?_
 refine .sr<|.ag rfl<|.z<|.mo rfl ?_
 refine .aR a (λu c=>?_)
 subst c
 refine .az rfl ?_
 refine .ret (aM rfl ?_)
 ·exact⟨rfl,rfl⟩
def qD:ByteArray:=⟨#[48,49,50,51,52,53,54,55,56,57,97,98,99,100,101,102,103,104,105,106,107,108,109,110,111,112,113,114,115,116,117,118,119,120,121,122]⟩
def gb(n:Nat):ByteArray:=⟨(eR n).toArray⟩
theorem A1(n:Nat)(h:n<10):qD.extract n (n+1)=gb n:=by
 have e:∀k:Fin 10,qD.extract k.val (k.val+1)=gb k.val:=by decide+kernel
 exact e ⟨n,h⟩
def sl:ByteArray:=⟨#[48,48,48,49,48,50,48,51,48,52,48,53,48,54,48,55,48,56,48,57,49,48,49,49,49,50,49,51,49,52,49,53,49,54,49,55,49,56,49,57,50,48,50,49,50,50,50,51,50,52,50,53,50,54,50,55,50,56,50,57,51,48,51,49,51,50,51,51,51,52,51,53,51,54,51,55,51,56,51,57,52,48,52,49,52,50,52,51,52,52,52,53,52,54,52,55,52,56,52,57,53,48,53,49,53,50,53,51,53,52,53,53,53,54,53,55,53,56,53,57,54,48,54,49,54,50,54,51,54,52,54,53,54,54,54,55,54,56,54,57,55,48,55,49,55,50,55,51,55,52,55,53,55,54,55,55,55,56,55,57,56,48,56,49,56,50,56,51,56,52,56,53,56,54,56,55,56,56,56,57,57,48,57,49,57,50,57,51,57,52,57,53,57,54,57,55,57,56,57,57]⟩
theorem Pz(n:Nat)(h:n<64)(b:10<=n):sl.extract (2*n) (2*n+2)=gb n:=by
 have e:∀k:Fin 54,sl.extract (2*(k.val+10)) (2*(k.val+10)+2)=gb (k.val+10):=by decide+kernel
 have a:=e ⟨n-10,by omega⟩
 rwa [show n-10+10=n by omega]at a
theorem Py(n:Nat)(c:n<64)(R:aw):Spec prog 147 [iN n] R [] λu H'=>u=.string (gb n)/\H'=[]:=by
 refine Spec.body func147 rfl results147 ntmps147 rfl ?_
 refine .sr<|.ag rfl<|.zs<|.sr<|.mo rfl<|.q .lss<|.zn ?_
 refine .cond rfl (λa=>?_) λa=>?_
 have b:n<10:=cF a
 refine .sr<|.mo rfl<|.mo rfl ?_
 refine .ia (n+1) .add ?_
 refine .q (.jK (s:=qD) n (n+1) ⟨_,rfl⟩ ⟨_,rfl⟩ (by omega) (by have:qD.size=36:=rfl;omega)) ?_
 rw[A1 n b]
 refine .az rfl ?_
 refine .ret (aI (aM rfl ?_))
 ·exact⟨rfl,rfl⟩
 have b:10<=n:=by have:=bC a;omega
 refine .kn<|.sr<|.mo rfl ?_
 refine .ia (2*n) .mul ?_
 refine .mo rfl ?_
 refine .ia (2*n) .mul ?_
 refine .ia (2*n+2) .add ?_
 refine .q (.jK (s:=sl) (2*n) (2*n+2) ⟨_,rfl⟩ ⟨_,rfl⟩ (by omega) (by have:sl.size=200:=rfl;omega)) ?_
 rw[Pz n c b]
 refine .az rfl ?_
 refine .ret (aM rfl ?_)
 ·exact⟨rfl,rfl⟩
theorem Ls(n:Nat)(c:n<64)(R:aw):Spec prog 113 [iN n,.int .i64 10] R [] λu H'=>u=.string (gb n)/\H'=[]:=by
 refine Spec.body func113 rfl results113 ntmps113 rfl ?_
 refine .sr<|.ag rfl<|.zs<|.sr<|.mo rfl<|.q (.cast (v':=.bool true) .bw rfl) ?_
 refine .zn<|.eQ<|.seq<|.sr<|.mo rfl<|.q .leq<|.mo rfl ?_
 refine .split (t:=14) rfl (λa=>?_) (λa=>?_)
 refine .gT a<|.mo rfl<|.gT a<|.q .lss<|.q (.aZ a) ?_
 refine .zn ?_
 refine .cond rfl (λb=>?_) λb=>?_
 refine .sr<|.mo rfl ?_
 refine .aR (Py n c _) (λu d=>?_)
 subst d
 refine .az rfl ?_
 refine .ret (aI (aI (aM rfl ?_)))
 ·exact⟨rfl,rfl⟩
 ·exfalso;have:=bC b;omega
 ·exfalso;have:=bC a;omega
theorem xz(n:Nat)(a:n<64)(R:aw):Spec prog 63 [iN n,.int .i64 10] R [] λu H'=>u=.string (gb n)/\H'=[]:=by
 refine Spec.body func63 rfl results63 ntmps63 rfl ?_
 refine .sr<|.ag rfl<|.z<|.mo rfl<|.mo rfl ?_
 refine .aR (Ls n a _) (λu b=>?_)
 subst b
 refine .az rfl ?_
 refine .ret (aM rfl ?_)
 ·exact⟨rfl,rfl⟩
def jG(l:List UInt8):Nat:=l.foldl (λa c=>10*a+(c.toNat-48)) 0
theorem Na(l:List UInt8)(c:UInt8):jG (l++[c])=10*jG l+(c.toNat-48):=by simp[jG]
theorem M9(n:Nat)(h:n<64):jG (eR n)=n:=by
 have e:∀k:Fin 64,jG (eR k.val)=k.val:=by decide
 exact e ⟨n,h⟩
theorem nC(n:Nat)(h:n<64):(eR n).length<=2/\1<=(eR n).length/\∀c∈eR n,48<=c.toNat/\c.toNat<=57:=by
 have e:∀k:Fin 64,(eR k.val).length<=2/\1<=(eR k.val).length/\∀c∈eR k.val,48<=c.toNat/\c.toNat<=57:=by decide
 exact e ⟨n,h⟩
theorem NS(n:Nat)(F:n<64)(R:aw):Spec prog 192 [.string (gb n),.int .i64 10,.int .i64 64] R [] λu H'=>u=.tuple [.int .u64 (n:Nat),.nilIface].toArray/\H'=[]:=by
 obtain⟨S,T,C⟩:=nC n F
 have D:(gb n).data.toList=eR n:=rfl
 have L:(gb n).size=(eR n).length:=by rw[<-gD,D]
 have J:¬gb n=⟨#[]⟩:=λe=>by
  have:=af9 ByteArray.size e
  rw[L]at this
  have N:(⟨#[]⟩:ByteArray).size=0:=rfl
  omega
 have K:=M9 n F
 generalize gb n=s at *
 generalize eR n=l at *
 subst D
 refine Spec.body func192 rfl results192 ntmps192 rfl ?_
 refine .sr<|.ag rfl<|.ag rfl<|.zs<|.sr<|.mo rfl<|.q .ec<|.zn ?_
 refine .cond rfl (λA=>?_) λA=>?_
 ·exact absurd (cq A) J
 refine .kn<|.sr<|.mo rfl<|.q (.cast (v':=.bool false) .bw rfl) ?_
 refine .ag rfl<|.z<|.mo rfl<|.ag rfl<|.zs<|.block<|.sr<|.mo rfl<|.q (.cast (v':=.bool true) .leq rfl) ?_
 refine .mo rfl<|.gt rfl ?_
 refine .mo rfl<|.gt rfl ?_
 refine .q (.cast (v':=.bool true) .leq rfl) ?_
 refine .q .ca<|.az rfl<|.eQ<|.skip<|bi<|ay<|.seq<|.sr<|.mo rfl<|.q (.cast (v':=.bool false) .bw rfl) ?_
 refine .zn<|.bQ<|.sr<|.mo rfl<|.q (.cast (v':=.bool false) .lss rfl) ?_
 refine .mo rfl<|.gt rfl ?_
 refine .mo rfl<|.gt rfl ?_
 refine .q (.cast (v':=.bool false) .gtr rfl) ?_
 refine .q .cb<|.zn<|.bQ<|.kn<|.sr<|.ag rfl<|.zs<|.sr<|.mo rfl<|.zn<|.block<|.sr<|.q (.cast (v':=.bool true) .bw rfl) ?_
 refine .az rfl<|.eQ<|.region<|.ag rfl<|.nil<|bi<|ay<|.sr<|.mo rfl<|.q (.cast (v':=.int .u64 ((64:Nat):Int)) .gK rfl) ?_
 refine .q (.cast (v':=.int .u64 0) (.zU (a:=1) (n:=64) rfl rfl (by decide)) rfl) ?_
 refine .q (.cast (v':=.int .u64 18446744073709551615) .sub rfl) ?_
 refine .ag rfl<|.z<|.ag rfl<|.z<|.ag rfl<|.zs<|.sr<|.mo rfl ?_
 refine .PK (s:=s) (by unfold maxLen;omega) (λM y p=>?_)
 have Y:=p.aq
 refine .q (.bL p) ?_
 refine .mo rfl<|.zn<|.block ?_
 refine .cL [(1,_),(8,_),(9,_),(10,_),(11,_),(99,_),(100,_)] (X:=Nat) (λi=>i<=s.data.toList.length) (λi E=>(12,.bool false)::(13,.int .u64 (jG (s.data.toList.take i):Nat))::(101,iN i)::E) (G:=[y]) (λ_ G=>G) (λi=>s.data.toList.length-i) 0 (agi _) kE.c.c.c.c.c.c.c.c.c.c rH ?_
 intro i U
 refine .sr<|.q .lss<|.zs ?_
 refine .cond rfl (λv=>?_) λv=>?_
 have o:i<s.data.toList.length:=cF v
 obtain⟨c,r⟩:=cm o
 obtain⟨O,Q⟩:=C c (aV r)
 have H:jG (s.data.toList.take (i+1))=10*jG (s.data.toList.take i)+(c.toNat-48):=by
  rw[agf,r]
  exact Na _ _
 have V:jG (s.data.toList.take i)<=9:=by
  have w:i<=1:=by omega
  rcases ags i 1 with h8|h8
  ·have:i=0:=by omega
   subst this;simp[jG]
  ·have:i=1:=by omega
   subst this
   cases e:s.data.toList with
   |nil=>rw[e]at o;simp at o
   |cons x xs=>
    have W:=C x (by rw[e];simp)
    simp[jG]
    omega
 have Z:PS y (fB M (i*1)) (jE c):=⟨p.pc r⟩
 refine .kn<|.seq<|.block<|.sr<|.q (.bI i p r rfl rfl rfl) ?_
 refine .lo rfl<|.ag rfl<|.z<|.ag rfl<|.zs<|.block<|.sr<|.mo rfl<|.q .bw<|.mo rfl ?_
 refine .split (t:=109) rfl (λg=>?_) (λg=>?_)
 refine .gT g<|.mo rfl<|.q (.aZ g) ?_
 refine .az rfl ?_
 refine .cond rfl (λB=>?_) λB=>?_
 ·exfalso
  have w:=B
  first
   |(simp at w;done)
   |(simp at w;omega)
 refine .sr<|.mo rfl<|.q .leq<|.mo rfl ?_
 refine .split (t:=115) rfl (λd=>?_) (λd=>?_)
 refine .gT d<|.mo rfl<|.gT d<|.q .leq<|.q (.aZ d) ?_
 refine .az rfl ?_
 refine .cond rfl (λh=>?_) λh=>?_
 refine .region<|.mo rfl ?_
 refine .q (.cast (v':=.int .u8 ((c.toNat-48:Nat):Int)) (.sub rfl rfl) (af9 (Value.int .u8) (by simp[IntKind.wrap,IntKind.bits,IntKind.signed];omega))) ?_
 refine .ag rfl<|.nil<|bi<|ay<|.seq<|.sr<|.mo rfl<|.mo rfl<|.q (.cast (v':=.int .u8 10) .gK rfl) ?_
 refine .q .geq<|.zn ?_
 refine .cond rfl (λj=>?_) λj=>?_
 ·exfalso;have:=cq j;omega
 refine .kn<|.seq<|.sr<|.mo rfl<|.mo rfl<|.q .geq<|.zn ?_
 refine .cond rfl (λk=>?_) λk=>?_
 ·exfalso;have:=cq k;omega
 refine .kn<|.sr<|.mo rfl<|.mo rfl<|.q (.cast (v':=.int .u64 10) .gK rfl) ?_
 refine .q (.cast (v':=.int .u64 ((10*jG (s.data.toList.take i):Nat):Int)) (.mul rfl rfl) (af9 (Value.int .u64) (by simp[IntKind.wrap,IntKind.bits,IntKind.signed];omega))) ?_
 refine .ag rfl<|.z<|.mo rfl<|.mo rfl ?_
 refine .q (.Ak (a:=c.toNat-48) rfl (by unfold oc;omega)) ?_
 refine .q (.cast (v':=.int .u64 ((jG (s.data.toList.take (i+1)):Nat):Int)) (.add rfl rfl) (af9 (Value.int .u64) (by rw[H];simp[IntKind.wrap,IntKind.bits,IntKind.signed];omega))) ?_
 refine .ag rfl<|.zs<|.sr<|.mo rfl<|.mo rfl<|.q .lss<|.mo rfl ?_
 refine .split (t:=155) rfl (λb=>?_) (λb=>?_)
 ·exfalso;have:=cq b;omega
 refine .gT b<|.mo rfl<|.gT b<|.mo rfl<|.gT b<|.q .gtr<|.q (.aX b) ?_
 refine .zn ?_
 refine .cond rfl (λm=>?_) λm=>?_
 ·exfalso;have:=cq m;omega
 refine .kn<|.region<|.mo rfl<|.ag rfl<|.nil<|bi<|ay<|.region ?_
 refine .ia (i+1) .add ?_
 refine .mo rfl<|.nil ?_
 ·exact aW (i+1) o (by omega) kE.c.c.c.c.c.c.c.c.c.c rH
 ·exfalso;have:=bC h;omega
 ·exfalso;have:=bC d;omega
 refine .gF g<|.q (.aX g) ?_
 refine .az rfl<|.bQ<|.sr<|.mo rfl<|.q .leq<|.mo rfl ?_
 refine .split (t:=115) rfl (λd=>?_) (λd=>?_)
 refine .gT d<|.mo rfl<|.gT d<|.q .leq<|.q (.aZ d) ?_
 refine .az rfl ?_
 refine .cond rfl (λh=>?_) λh=>?_
 refine .region<|.mo rfl ?_
 refine .q (.cast (v':=.int .u8 ((c.toNat-48:Nat):Int)) (.sub rfl rfl) (af9 (Value.int .u8) (by simp[IntKind.wrap,IntKind.bits,IntKind.signed];omega))) ?_
 refine .ag rfl<|.nil<|bi<|ay<|.seq<|.sr<|.mo rfl<|.mo rfl<|.q (.cast (v':=.int .u8 10) .gK rfl) ?_
 refine .q .geq<|.zn ?_
 refine .cond rfl (λj=>?_) λj=>?_
 ·exfalso;have:=cq j;omega
 refine .kn<|.seq<|.sr<|.mo rfl<|.mo rfl<|.q .geq<|.zn ?_
 refine .cond rfl (λk=>?_) λk=>?_
 ·exfalso;have:=cq k;omega
 refine .kn<|.sr<|.mo rfl<|.mo rfl<|.q (.cast (v':=.int .u64 10) .gK rfl) ?_
 refine .q (.cast (v':=.int .u64 ((10*jG (s.data.toList.take i):Nat):Int)) (.mul rfl rfl) (af9 (Value.int .u64) (by simp[IntKind.wrap,IntKind.bits,IntKind.signed];omega))) ?_
 refine .ag rfl<|.z<|.mo rfl<|.mo rfl ?_
 refine .q (.Ak (a:=c.toNat-48) rfl (by unfold oc;omega)) ?_
 refine .q (.cast (v':=.int .u64 ((jG (s.data.toList.take (i+1)):Nat):Int)) (.add rfl rfl) (af9 (Value.int .u64) (by rw[H];simp[IntKind.wrap,IntKind.bits,IntKind.signed];omega))) ?_
 refine .ag rfl<|.zs<|.sr<|.mo rfl<|.mo rfl<|.q .lss<|.mo rfl ?_
 refine .split (t:=155) rfl (λb=>?_) (λb=>?_)
 ·exfalso;have:=cq b;omega
 refine .gT b<|.mo rfl<|.gT b<|.mo rfl<|.gT b<|.q .gtr<|.q (.aX b) ?_
 refine .zn ?_
 refine .cond rfl (λm=>?_) λm=>?_
 ·exfalso;have:=cq m;omega
 refine .kn<|.region<|.mo rfl<|.ag rfl<|.nil<|bi<|ay<|.region ?_
 refine .ia (i+1) .add ?_
 refine .mo rfl<|.nil ?_
 ·exact aW (i+1) o (by omega) kE.c.c.c.c.c.c.c.c.c.c rH
 ·exfalso;have:=bC h;omega
 ·exfalso;have:=bC d;omega
 have I:i=s.data.toList.length:=by have:=bC v;omega
 rw[I,List.take_length,K]
 refine .exit<|bz<|bG<|bB<|ay<|.seq<|.sr<|.mo rfl<|.mo rfl ?_
 refine .split (t:=165) rfl (λf=>?_) (λf=>?_)
 ·simp at f
 refine .gF f<|.gF f<|.gF f<|.q (.aX f) ?_
 refine .zn<|.bQ<|.kn<|.sr<|.mo rfl<|.ag rfl<|.az rfl ?_
 refine .ret (bu _ (.two (.tmp rfl) (.tmp rfl)) (.none _) ?_)
 ·exact⟨rfl,rfl⟩
theorem NM(n:Nat)(j:n<64)(R:aw):Spec prog 154 [.string (gb n),.int .i64 10,.int .i64 64] R [] λu H'=>u=.tuple [iN n,.nilIface].toArray/\H'=[]:=by
 obtain⟨r,s,k⟩:=nC n j
 have i:(gb n).data.toList=eR n:=rfl
 have m:(gb n).size=(eR n).length:=by rw[<-gD,i]
 have l:¬gb n=⟨#[]⟩:=λe=>by
  have:=af9 ByteArray.size e
  rw[m]at this
  have b:(⟨#[]⟩:ByteArray).size=0:=rfl
  omega
 have b:0<(gb n).size:=by omega
 have p:=k ((gb n)[0]'b) (by rw[<-i];exact agz (by rw[gD];exact b))
 refine Spec.body func154 rfl results154 ntmps154 rfl ?_
 refine .sr<|.ag rfl<|.ag rfl<|.zs<|.sr<|.mo rfl<|.q .ec<|.zn ?_
 refine .cond rfl (λd=>?_) λd=>?_
 ·exact absurd (cq d) l
 refine .kn<|.sr<|.ag rfl<|.zs<|.sr<|.mo rfl<|.q (.fv 0 b) ?_
 refine .zn<|.block<|.sr<|.q .bw<|.az rfl ?_
 refine .cond rfl (λf=>?_) λf=>?_
 ·exfalso
  have c:=f
  simp at c
  omega
 refine .sr<|.q .bw<|.az rfl ?_
 refine .cond rfl (λg=>?_) λg=>?_
 ·exfalso
  have c:=g
  simp at c
  omega
 refine .skip<|bi<|ay<|.sr<|.ag rfl<|.z<|.mo rfl<|.mo rfl<|.mo rfl ?_
 refine .aR (NS n j _) (λu o=>?_)
 subst o
 refine .mo rfl<|.q .extract<|.q .extract<|.ag rfl<|.ag rfl<|.zs<|.sr<|.mo rfl<|.q (.pV (ut:=⟨underlying165⟩)) ?_
 refine .mo rfl<|.gX<|.gX<|.gX<|.q .cb<|.zn<|.bQ<|.kn<|.seq<|.sr<|.mo rfl<|.q (.cast (v':=.bool false) .bw rfl) ?_
 refine .zn<|.bQ<|.kn<|.sr<|.mo rfl<|.q .sub<|.q (.cast (v':=.int .u64 63) .gK rfl) ?_
 refine .q (.cast (v':=.int .u64 9223372036854775808) (.zU (a:=1) (n:=63) rfl rfl (by decide)) rfl) ?_
 refine .ag rfl<|.zs<|.sr<|.mo rfl<|.q .not<|.mo rfl<|.gt rfl ?_
 refine .mo rfl<|.gt rfl ?_
 refine .mo rfl<|.gt rfl ?_
 refine .q .geq<|.q .ca<|.zn ?_
 refine .cond rfl (λh=>?_) λh=>?_
 ·exfalso;have:=cq h;omega
 refine .kn<|.seq<|.sr<|.mo rfl<|.mo rfl<|.gX<|.gX<|.gX<|.q .cb<|.zn<|.bQ<|.kn<|.sr<|.mo rfl ?_
 refine .q (.cast (v':=iN n) .gK (af9 (Value.int .i64) (IntWalk.i64_in _ (by omega)))) ?_
 refine .ag rfl<|.zs<|.sr<|.mo rfl<|.zn<|.bQ<|.kn<|.sr<|.mo rfl<|.ag rfl<|.az rfl ?_
 refine .ret (bu _ (.two (.tmp rfl) (.tmp rfl)) (.none _) ?_)
 ·exact⟨rfl,rfl⟩
theorem NB(n:Nat)(a:n<64)(R:aw):Spec prog 120 [.string (gb n),.int .i64 10,.int .i64 64] R [] λu H'=>u=.tuple [iN n,.nilIface].toArray/\H'=[]:=by
 refine Spec.body func120 rfl results120 ntmps120 rfl ?_
 refine .sr<|.ag rfl<|.ag rfl<|.z<|.mo rfl<|.mo rfl<|.mo rfl ?_
 refine .aR (NM n a _) (λu b=>?_)
 subst b
 refine .mo rfl<|.q .extract<|.q .extract<|.ag rfl<|.ag rfl<|.zs<|.sr<|.mo rfl<|.q (.pV (ut:=⟨underlying165⟩)) ?_
 refine .zn<|.bQ<|.kn<|.sr<|.mo rfl<|.ag rfl<|.az rfl ?_
 refine .ret (bu _ (.two (.tmp rfl) (.tmp rfl)) (.none _) ?_)
 ·exact⟨rfl,rfl⟩
theorem Lz(b:Bool)(e d:Value)(R:aw)(c:RS R 6 iE e [])(a:RS R 1 dV d []):Spec prog 66 [.agg [.int .i64 1,.bool b,.int .i64 0,.string ⟨#[]⟩,e,d].toArray,.bool true,.bool false,.bool false,.bool false,.bool false] R [] λu H'=>u=.bool true/\H'=[]:=by
 have h:=c.aq
 have g:=a.aq
 refine Spec.body func66 rfl results66 ntmps66 rfl ?_
 refine .sr ?_
 refine .cj rfl (λf=>?_)
 refine .ag rfl<|.z<|.mo rfl<|.mo rfl<|.gX<|.gX<|.gX<|.q .ca<|.mo rfl<|.gt rfl ?_
 refine .mo rfl<|.gt rfl ?_
 refine .mo rfl<|.gt rfl ?_
 refine .fa rfl<|.gt rfl ?_
 refine .lo rfl<|.gt rfl ?_
 refine .q (.cast (v':=.bool true) .bw rfl) ?_
 refine .gt rfl ?_
 refine .q .cb<|.q .ca<|.mo rfl<|.gt rfl ?_
 refine .mo rfl<|.gt rfl ?_
 refine .mo rfl<|.gt rfl ?_
 refine .fa rfl<|.gt rfl ?_
 refine .lo rfl<|.gt rfl ?_
 refine .q (.cast (v':=.bool true) .ec (by simp)) ?_
 refine .gt rfl ?_
 refine .q .cb<|.q .ca<|.mo rfl<|.gt rfl ?_
 refine .mo rfl<|.gt rfl ?_
 refine .mo rfl<|.gt rfl ?_
 refine .fa rfl<|.gt rfl ?_
 refine .lo rfl<|.gt rfl ?_
 refine .q (.bL c) ?_
 refine .gt rfl ?_
 refine .q (.cast (v':=.bool true) .bw rfl) ?_
 refine .gt rfl ?_
 refine .q .cb<|.q .ca<|.mo rfl<|.gt rfl ?_
 refine .mo rfl<|.gt rfl ?_
 refine .mo rfl<|.gt rfl ?_
 refine .fa rfl<|.gt rfl ?_
 refine .lo rfl<|.gt rfl ?_
 refine .q (.bL a) ?_
 refine .gt rfl ?_
 refine .q (.cast (v':=.bool true) .bw rfl) ?_
 refine .gt rfl ?_
 refine .q .cb<|.q .ca<|.az rfl ?_
 refine .ret (aM rfl ?_)
 ·exact⟨rfl,rfl⟩
theorem LA(n:Int)(d c:Value)(R:aw)(b:RS R 6 iE d [])(a:RS R 1 dV c []):Spec prog 66 [.agg [.int .i64 2,.bool false,.int .i64 n,.string ⟨#[]⟩,d,c].toArray,.bool false,.bool true,.bool false,.bool false,.bool false] R [] λu H'=>u=.bool true/\H'=[]:=by
 have g:=b.aq
 have f:=a.aq
 refine Spec.body func66 rfl results66 ntmps66 rfl ?_
 refine .sr ?_
 refine .cj rfl (λe=>?_)
 refine .ag rfl<|.z<|.mo rfl<|.mo rfl<|.gt rfl ?_
 refine .fa rfl<|.gt rfl ?_
 refine .lo rfl<|.gt rfl ?_
 refine .q (.cast (v':=.bool true) .not rfl) ?_
 refine .q .cb<|.mo rfl<|.gt rfl ?_
 refine .mo rfl<|.gt rfl ?_
 refine .mo rfl<|.gX<|.gX<|.gX<|.gt rfl ?_
 refine .q .ca<|.q .ca<|.mo rfl<|.gt rfl ?_
 refine .mo rfl<|.gt rfl ?_
 refine .mo rfl<|.gt rfl ?_
 refine .fa rfl<|.gt rfl ?_
 refine .lo rfl<|.gt rfl ?_
 refine .q (.cast (v':=.bool true) .ec (by simp)) ?_
 refine .gt rfl ?_
 refine .q .cb<|.q .ca<|.mo rfl<|.gt rfl ?_
 refine .mo rfl<|.gt rfl ?_
 refine .mo rfl<|.gt rfl ?_
 refine .fa rfl<|.gt rfl ?_
 refine .lo rfl<|.gt rfl ?_
 refine .q (.bL b) ?_
 refine .gt rfl ?_
 refine .q (.cast (v':=.bool true) .bw rfl) ?_
 refine .gt rfl ?_
 refine .q .cb<|.q .ca<|.mo rfl<|.gt rfl ?_
 refine .mo rfl<|.gt rfl ?_
 refine .mo rfl<|.gt rfl ?_
 refine .fa rfl<|.gt rfl ?_
 refine .lo rfl<|.gt rfl ?_
 refine .q (.bL a) ?_
 refine .gt rfl ?_
 refine .q (.cast (v':=.bool true) .bw rfl) ?_
 refine .gt rfl ?_
 refine .q .cb<|.q .ca<|.az rfl ?_
 refine .ret (aM rfl ?_)
 ·exact⟨rfl,rfl⟩
theorem LC(s:ByteArray)(d c:Value)(R:aw)(b:RS R 6 iE d [])(a:RS R 1 dV c []):Spec prog 66 [.agg [.int .i64 3,.bool false,.int .i64 0,.string s,d,c].toArray,.bool false,.bool false,.bool true,.bool false,.bool false] R [] λu H'=>u=.bool true/\H'=[]:=by
 have g:=b.aq
 have f:=a.aq
 refine Spec.body func66 rfl results66 ntmps66 rfl ?_
 refine .sr ?_
 refine .cj rfl (λe=>?_)
 refine .ag rfl<|.z<|.mo rfl<|.mo rfl<|.gt rfl ?_
 refine .fa rfl<|.gt rfl ?_
 refine .lo rfl<|.gt rfl ?_
 refine .q (.cast (v':=.bool true) .not rfl) ?_
 refine .q .cb<|.mo rfl<|.gt rfl ?_
 refine .mo rfl<|.gt rfl ?_
 refine .mo rfl<|.gt rfl ?_
 refine .fa rfl<|.gt rfl ?_
 refine .lo rfl<|.gt rfl ?_
 refine .q (.cast (v':=.bool true) .bw rfl) ?_
 refine .gt rfl ?_
 refine .q .cb<|.q .ca<|.mo rfl<|.gt rfl ?_
 refine .mo rfl<|.gt rfl ?_
 refine .mo rfl<|.gX<|.gX<|.gX<|.gt rfl ?_
 refine .q .ca<|.q .ca<|.mo rfl<|.gt rfl ?_
 refine .mo rfl<|.gt rfl ?_
 refine .mo rfl<|.gt rfl ?_
 refine .fa rfl<|.gt rfl ?_
 refine .lo rfl<|.gt rfl ?_
 refine .q (.bL b) ?_
 refine .gt rfl ?_
 refine .q (.cast (v':=.bool true) .bw rfl) ?_
 refine .gt rfl ?_
 refine .q .cb<|.q .ca<|.mo rfl<|.gt rfl ?_
 refine .mo rfl<|.gt rfl ?_
 refine .mo rfl<|.gt rfl ?_
 refine .fa rfl<|.gt rfl ?_
 refine .lo rfl<|.gt rfl ?_
 refine .q (.bL a) ?_
 refine .gt rfl ?_
 refine .q (.cast (v':=.bool true) .bw rfl) ?_
 refine .gt rfl ?_
 refine .q .cb<|.q .ca<|.az rfl ?_
 refine .ret (aM rfl ?_)
 ·exact⟨rfl,rfl⟩
theorem LD{l:List JP}(c b:Value)(R:aw)(d:RS R 6 iE c l)(a:RS R 1 dV b []):Spec prog 66 [.agg [.int .i64 4,.bool false,.int .i64 0,.string ⟨#[]⟩,c,b].toArray,.bool false,.bool false,.bool false,.bool true,.bool false] R [] λu H'=>u=.bool true/\H'=[]:=by
 have g:=d.aq
 have f:=a.aq
 refine Spec.body func66 rfl results66 ntmps66 rfl ?_
 refine .sr ?_
 refine .cj rfl (λe=>?_)
 refine .ag rfl<|.z<|.mo rfl<|.mo rfl<|.gt rfl ?_
 refine .fa rfl<|.gt rfl ?_
 refine .lo rfl<|.gt rfl ?_
 refine .q (.cast (v':=.bool true) .not rfl) ?_
 refine .q .cb<|.mo rfl<|.gt rfl ?_
 refine .mo rfl<|.gt rfl ?_
 refine .mo rfl<|.gt rfl ?_
 refine .fa rfl<|.gt rfl ?_
 refine .lo rfl<|.gt rfl ?_
 refine .q (.cast (v':=.bool true) .bw rfl) ?_
 refine .gt rfl ?_
 refine .q .cb<|.q .ca<|.mo rfl<|.gt rfl ?_
 refine .mo rfl<|.gt rfl ?_
 refine .mo rfl<|.gt rfl ?_
 refine .fa rfl<|.gt rfl ?_
 refine .lo rfl<|.gt rfl ?_
 refine .q (.cast (v':=.bool true) .ec (by simp)) ?_
 refine .gt rfl ?_
 refine .q .cb<|.q .ca<|.mo rfl<|.gt rfl ?_
 refine .mo rfl<|.gt rfl ?_
 refine .mo rfl<|.gX<|.gX<|.gX<|.gX<|.gt rfl ?_
 refine .q .ca<|.q .ca<|.mo rfl<|.gt rfl ?_
 refine .mo rfl<|.gt rfl ?_
 refine .mo rfl<|.gt rfl ?_
 refine .fa rfl<|.gt rfl ?_
 refine .lo rfl<|.gt rfl ?_
 refine .q (.bL a) ?_
 refine .gt rfl ?_
 refine .q (.cast (v':=.bool true) .bw rfl) ?_
 refine .gt rfl ?_
 refine .q .cb<|.q .ca<|.az rfl ?_
 refine .ret (aM rfl ?_)
 ·exact⟨rfl,rfl⟩
theorem LF{l:List JP}{ks:List ByteArray}(b a:Value)(R:aw)(d:RS R 6 iE b l)(c:RS R 1 dV a ks):Spec prog 66 [.agg [.int .i64 5,.bool false,.int .i64 0,.string ⟨#[]⟩,b,a].toArray,.bool false,.bool false,.bool false,.bool true,.bool true] R [] λu H'=>u=.bool true/\H'=[]:=by
 have g:=d.aq
 have f:=c.aq
 refine Spec.body func66 rfl results66 ntmps66 rfl ?_
 refine .sr ?_
 refine .cj rfl (λe=>?_)
 refine .ag rfl<|.z<|.mo rfl<|.mo rfl<|.gt rfl ?_
 refine .fa rfl<|.gt rfl ?_
 refine .lo rfl<|.gt rfl ?_
 refine .q (.cast (v':=.bool true) .not rfl) ?_
 refine .q .cb<|.mo rfl<|.gt rfl ?_
 refine .mo rfl<|.gt rfl ?_
 refine .mo rfl<|.gt rfl ?_
 refine .fa rfl<|.gt rfl ?_
 refine .lo rfl<|.gt rfl ?_
 refine .q (.cast (v':=.bool true) .bw rfl) ?_
 refine .gt rfl ?_
 refine .q .cb<|.q .ca<|.mo rfl<|.gt rfl ?_
 refine .mo rfl<|.gt rfl ?_
 refine .mo rfl<|.gt rfl ?_
 refine .fa rfl<|.gt rfl ?_
 refine .lo rfl<|.gt rfl ?_
 refine .q (.cast (v':=.bool true) .ec (by simp)) ?_
 refine .gt rfl ?_
 refine .q .cb<|.q .ca<|.mo rfl<|.gt rfl ?_
 refine .mo rfl<|.gt rfl ?_
 refine .mo rfl<|.gX<|.gX<|.gX<|.gX<|.gt rfl ?_
 refine .q .ca<|.q .ca<|.mo rfl<|.gt rfl ?_
 refine .mo rfl<|.gt rfl ?_
 refine .mo rfl<|.gX<|.gX<|.gX<|.gX<|.gt rfl ?_
 refine .q .ca<|.q .ca<|.az rfl ?_
 refine .ret (aM rfl ?_)
 ·exact⟨rfl,rfl⟩
def nN(M:List (ByteArray×Bool))(l:List ByteArray):Prop:=∀k,db k M=if k∈l then some true else none
theorem nN.nil:nN [] []:=λk=>by simp[db]
theorem nN.add{M:List (ByteArray×Bool)}{l:List ByteArray}(h:nN M l)(t:ByteArray):nN (dD t true M) (l++[t]):=λk=>by
 rw[nR,h k]
 by_cases e:k=t
 ·simp[e]
 ·simp[e]
theorem LG(n:Value)(ks:List ByteArray)(R:aw)(a:RS R 1 dV n ks)(x:∀t∈ks,dm t)(v:ks.Nodup):Spec prog 67 [n] R [] λu H'=>u=.bool true/\H'=[]:=by
 have F:=a.aq
 have D:=a.le
 refine Spec.body func67 rfl results67 ntmps67 rfl ?_
 refine .sr<|.ag rfl<|.z ?_
 refine .makeMap (λg=>?_)
 refine .ag rfl<|.zs<|.sr<|.mo rfl<|.q (.bL a) ?_
 refine .mo rfl<|.zn<|.block ?_
 refine .cL [(3,_),(7,_),(8,_)] (G:=[]) (X:=Nat×List (ByteArray×Bool)×aH) (λy=>y.1<=ks.length/\nN y.2.1 (ks.take y.1)/\MS (λs:ByteArray=>.string s) (λb:Bool=>.bool b) (.map (some g)) y.2.1 y.2.2) (λy E=>(9,iN y.1)::E) (λy G=>y.2.2::G) (λy=>ks.length-y.1) (0,[],[(g,.map #[] 0)]) ⟨agi _,by simpa using nN.nil,MS.nil⟩ kE.c.c.c.c rH ?_
 rintro⟨i,M,C⟩ ⟨r,f,d⟩
 simp only at r f d⊢
 refine .sr<|.q .lss<|.zs ?_
 refine .cond rfl (λj=>?_) λj=>?_
 have l:i<ks.length:=cF j
 obtain⟨t,e⟩:=cm l
 have A:=x t (aV e)
 have m:ks.take (i+1)=ks.take i++[t]:=by rw[agf,e];rfl
 have w:t∉ks.take i:=λh=>by
  have k:(ks.take (i+1)).Nodup:=List.Sublist.nodup (List.take_sublist _ _) v
  rw[m,List.nodup_append]at k
  exact k.2.2 t h t (by simp) rfl
 refine .kn<|.seq<|.block<|.sr ?_
 refine .bI i a e (λH=>?_)
 refine .lo rfl<|.ag rfl<|.zs<|.sr<|.mo rfl<|.mo rfl ?_
 refine .q (.m3 d.rx rfl (key:=t) rfl (show _=Value.bool false from by rw[f t,agb w];rfl)) ?_
 refine .mo rfl<|.gt rfl ?_
 refine .mo rfl<|.gt rfl ?_
 refine .aR (uY t (zc A) _) (λu B=>?_)
 subst B
 refine .gt rfl ?_
 refine .q .not<|.q .cb<|.zn<|.bQ<|.kn<|.region<|.mo rfl<|.mo rfl ?_
 refine .update (key:=t) (u:=true) d rfl rfl rfl (λo p _=>?_)
 refine .nil<|bi<|ay<|.region ?_
 refine .ia (i+1) .add ?_
 refine .mo rfl<|.nil ?_
 ·exact aW (i+1,dD t true M,o) ⟨l,by simp only;rw[m];exact f.add t,p⟩ (by simp only;omega) kE.c.c.c.c rH
 refine .exit<|bz<|bG<|bB<|ay<|.sr<|.az rfl ?_
 refine .ret (aM rfl ?_)
 ·exact⟨rfl,rfl⟩
theorem LV(d:Nat)(y:d<=1000)(p:∀(cs:List Value) (j:J) (R:aw),di R cs j->dF d j->Spec prog 27 [.agg cs.toArray,iN d] R [] λu H'=>u=.bool true/\H'=[])(b:Nat)(cs:List Value)(j:J)(R:aw)(pc:PC R (pT b) [.int .i64 ((d+1:Nat):Int)])(h:di R cs j)(f:dF d j):Spec prog 69 [.agg cs.toArray,pT b] R [] λu H'=>u=.bool false/\H'=[]:=by
 have A:bZ cs:=⟨h.cN⟩
 obtain⟨k,a,n,t,v,s,l,r,rfl,rfl,i,g,x⟩:=h.open
 have c:di R [.int .i64 k,.bool a,.int .i64 n,.string t,v,s] (.mk k a n t (l.map (·.2)) r):=h
 have C:=i.aq
 have B:=g.aq
 refine Spec.body func69 rfl results69 ntmps69 rfl ?_
 refine .sr ?_
 refine .cj rfl (λw=>?_)
 refine .ag rfl<|.z<|.q (.aP rfl)<|.lo rfl ?_
 refine .ia (d) .sub ?_
 refine .aR (p _ _ _ (c.mono λb o e=>.inl e) f) (λu m=>?_)
 subst m
 refine .q .not<|.az rfl ?_
 refine .ret (aM rfl ?_)
 ·exact⟨rfl,rfl⟩
theorem LW(d:Nat)(Y:d+1<=1000)(Q:∀(cs:List Value) (j:J) (R:aw),di R cs j->dF d j->Spec prog 27 [.agg cs.toArray,iN d] R [] λu H'=>u=.bool true/\H'=[])(cs:List Value)(j:J)(R:aw)(h:di R cs j)(v:dF (d+1) j):
  Spec prog 27 [.agg cs.toArray,.int .i64 ((d+1:Nat):Int)] R [] λu H'=>u=.bool true/\H'=[]:=by
 obtain⟨k,b,n,t,r,m,l,g,rfl,rfl,f,e,M⟩:=h.open
 have il:=f.aq
 have Z:=e.aq
 unfold dF at v
 refine Spec.body func27 rfl results27 ntmps27 rfl ?_
 refine .sr ?_
 refine .cj rfl (λG=>?_)
 refine .vY rfl (λz=>?_)
 refine .ag rfl<|.zs<|.sr<|.lo rfl ?_
 refine .q (.cast (v':=.bool false) .bw (by simp;omega)) ?_
 refine .zn<|.bQ<|.kn<|.seq<|.sr<|.fa rfl<|.lo rfl<|.zn ?_
 refine bF.cut (X:=Unit) (λ_=>∀x∈l.map (·.2),dF d x) (λ_=>[(2,pT G),(3,pT z)]) (λ_=>[[(z,.cells #[.int .i64 ((d+1:Nat):Int)] 3 (0,0))],bl G [.int .i64 k,.bool b,.int .i64 n,.string t,r,m] 42]) ?_ ?_
 refine .block<|.sr<|.q .bw<|.az rfl ?_
 refine .cond rfl (λH=>?_) λH=>?_
 ·exfalso
  have s:=H
  simp at s
  omega
 refine .sr<|.q .bw<|.az rfl ?_
 refine .cond rfl (λA=>?_) λA=>?_
 obtain⟨rfl,rfl,rfl,y,rfl⟩:k=1/\n=0/\t=⟨#[]⟩/\l.map (·.2)=[]/\g=[]:=by
  have s:k=1:=by simpa using A
  rcases v with h|h|h|h|h
  ·exact h
  ·omega
  ·omega
  ·omega
  ·omega
 obtain rfl:l=[]:=agA.1 y
 refine .sr<|.q (.aP rfl) ?_
 refine .aR (Lz b r m _ f.rx e.rx) (λu a=>?_)
 subst a
 refine .az rfl ?_
 refine .ret (bf (gW (aI (aM rfl ?_))))
 ·refine⟨?_,rfl⟩
  first
   |rfl
   |simp
 refine .sr<|.q .bw<|.az rfl ?_
 refine .cond rfl (λB=>?_) λB=>?_
 obtain⟨rfl,rfl,K,rfl,y,rfl⟩:k=2/\b=false/\(0<=n/\n<64)/\t=⟨#[]⟩/\l.map (·.2)=[]/\g=[]:=by
  have s:k=2:=by simpa using B
  rcases v with h|h|h|h|h
  ·omega
  ·exact h
  ·omega
  ·omega
  ·omega
 obtain rfl:l=[]:=agA.1 y
 refine .sr<|.q (.aP rfl) ?_
 refine .aR (LA n r m _ f.rx e.rx) (λu a=>?_)
 subst a
 refine .mo rfl<|.gt rfl ?_
 refine .fa rfl<|.gt rfl ?_
 refine .lo rfl<|.gt rfl ?_
 refine .q (.cast (v':=.bool true) .geq (by simp;omega)) ?_
 refine .q .ca<|.mo rfl<|.gt rfl ?_
 refine .fa rfl<|.gt rfl ?_
 refine .lo rfl<|.gt rfl ?_
 refine .q (.cast (v':=.bool true) .leq (by simp;omega)) ?_
 refine .q .ca<|.az rfl ?_
 refine .ret (bf (gW (aI (aM rfl ?_))))
 ·refine⟨?_,rfl⟩
  first
   |rfl
   |simp
 refine .sr<|.q .bw<|.az rfl ?_
 refine .cond rfl (λC=>?_) λC=>?_
 obtain⟨rfl,rfl,rfl,w,y,rfl⟩:k=3/\b=false/\n=0/\dm t/\l.map (·.2)=[]/\g=[]:=by
  have s:k=3:=by simpa using C
  rcases v with h|h|h|h|h
  ·omega
  ·omega
  ·exact h
  ·omega
  ·omega
 obtain rfl:l=[]:=agA.1 y
 refine .sr<|.q (.aP rfl) ?_
 refine .aR (LC t r m _ f.rx e.rx) (λu a=>?_)
 subst a
 refine .mo rfl<|.gt rfl ?_
 refine .fa rfl<|.gt rfl ?_
 refine .lo rfl<|.gt rfl ?_
 refine .aR (uY t (zc w) _) (λu a=>?_)
 subst a
 refine .q .ca<|.az rfl ?_
 refine .ret (bf (gW (aI (aM rfl ?_))))
 ·refine⟨?_,rfl⟩
  first
   |rfl
   |simp
 refine .sr<|.q .bw<|.az rfl ?_
 refine .cond rfl (λD=>?_) λD=>?_
 obtain⟨rfl,rfl,rfl,rfl,i,rfl⟩:k=4/\b=false/\n=0/\t=⟨#[]⟩/\(∀x∈l.map (·.2),dF d x)/\g=[]:=by
  have s:k=4:=by simpa using D
  rcases v with h|h|h|h|h
  ·omega
  ·omega
  ·omega
  ·exact h
  ·omega
 refine .sr<|.q (.aP rfl) ?_
 refine .aR (LD r m _ f.rx e.rx) (λu a=>?_)
 subst a
 refine .q .not<|.zn<|.bQ<|.skip<|bi ?_
 exact aG () i kE.c.c rH
 refine .sr<|.q .bw<|.az rfl ?_
 refine .cond rfl (λF=>?_) λF=>?_
 obtain⟨rfl,rfl,rfl,rfl,i,w,K,O⟩:k=5/\b=false/\n=0/\t=⟨#[]⟩/\(∀x∈l.map (·.2),dF d x)/\(∀t∈g,dm t)/\g.Nodup/\g.length=(l.map (·.2)).length:=by
  have s:k=5:=by simpa using F
  rcases v with h|h|h|h|h
  ·omega
  ·omega
  ·omega
  ·omega
  ·exact h
 refine .sr<|.q (.aP rfl) ?_
 refine .aR (LF r m _ f.rx e.rx) (λu a=>?_)
 subst a
 refine .q .not<|.mo rfl<|.gt rfl ?_
 refine .fa rfl<|.gt rfl ?_
 refine .lo rfl<|.gt rfl ?_
 refine .q (.bL e) ?_
 refine .gt rfl ?_
 refine .fa rfl<|.gt rfl ?_
 refine .lo rfl<|.gt rfl ?_
 refine .q (.bL f) ?_
 refine .gt rfl ?_
 refine .q (.cast (v':=.bool false) .eT (by rw[O];simp)) ?_
 refine .q .cb<|.mo rfl<|.gt rfl ?_
 refine .fa rfl<|.gt rfl ?_
 refine .lo rfl<|.gt rfl ?_
 refine .aR (LG m g _ e.rx w K) (λu a=>?_)
 subst a
 refine .gt rfl ?_
 refine .q .not<|.q .cb<|.zn<|.bQ<|.skip<|bi ?_
 exact aG () i kE.c.c rH
 ·exfalso
  have S:¬k=1:=by simpa using A
  have T:¬k=2:=by simpa using B
  have U:¬k=3:=by simpa using C
  have V:¬k=4:=by simpa using D
  have W:¬k=5:=by simpa using F
  omega
 intro x i
 have i:∀x∈l.map (·.2),dF d x:=i
 refine ay<|.sr<|.fa rfl<|.lo rfl<|.q .makeFunc ?_
 refine .aR (LJS.jd 69 [pT z] (λ_=>false) r l _ f.rx (λp w L I=>LV d (by omega) Q z p.1 p.2 L (PC.of (E:=3) (fr:=(0,0)) (I _ _ (.inr (by simp)))) ((M p w).mono λb o N=>I b o (.inl N)) (i p.2 (agm.2 ⟨p,w,rfl⟩)))) (λu a=>?_)
 subst a
 refine .q .not<|.az rfl ?_
 refine .ret (aM rfl ?_)
 ·refine⟨?_,rfl⟩
  first
   |rfl
   |simp
theorem xV:∀(d:Nat) (cs:List Value) (j:J) (R:aw),di R cs j->dF d j->d<=1000->Spec prog 27 [.agg cs.toArray,iN d] R [] λu H'=>u=.bool true/\H'=[]
 |0,_,_,_,_,h,_=>h.elim
 |d+1,cs,j,R,h,a,hd=>LW d hd (λcs j R h a=>xV d cs j R h a (by omega)) cs j R h a
theorem BZ{c:UInt8}(h:jW c=true):¬c.toNat=34/\¬c.toNat=92/\¬c.toNat=10/\¬c.toNat=13/\¬c.toNat=9/\¬c.toNat<32/\¬c.toNat=127:=by
 unfold jW at h
 simp only[agw,agp]at h
 obtain⟨d,f,a,b⟩:=h
 exact⟨λe=>a (agx e),λe=>b (agx e),by omega,by omega,by omega,by omega,by omega⟩
theorem xU(t:ByteArray)(I:dm t)(M:t.size<=100000000)(R:aw):Spec prog 64 [.string t] R [] λu H'=>u=.string ⟨(dX t).toArray⟩/\H'=[]:=by
 have N:=gD t
 refine Spec.body func64 rfl results64 ntmps64 rfl ?_
 refine .sr<|.ag rfl<|.z ?_
 refine .bV (λd=>?_)
 refine .z ?_
 refine .cr (qL d [] _ 34 _ BI.new (by simp)) (λu s j=>?_)
 refine .zs<|.sr<|.mo rfl<|.q .fw<|.mo rfl<|.zn<|.block ?_
 refine .cL [(0,_),(3,_),(8,_)] (G:=[]) (X:=Nat×aH) (λy=>y.1<=t.size/\BI d (34::t.data.toList.take y.1) y.2) (λy E=>(9,iN y.1)::E) (λy G=>y.2::G) (λy=>t.size-y.1) (0,s) ⟨agi _,j⟩ kE.c.c.c.c rH ?_
 rintro⟨k,l⟩ ⟨C,f⟩
 simp only at C f⊢
 refine .sr<|.q .lss<|.zs ?_
 refine .cond rfl (λg=>?_) λg=>?_
 have i:k<t.size:=cF g
 have h:=ja i
 obtain⟨c,B⟩:∃c,c=gJ t k:=⟨_,rfl⟩
 rw[<-B]at h
 have D:k<t.data.toList.length:=by omega
 have p:t.data.toList[k]? =some c:=by
  rw[bE D, <-h]
  rfl
 have H:=I c (aV p)
 obtain⟨O,Q,S,T,U,V,W⟩:=BZ H
 have K:34::t.data.toList.take (k+1)=(34::t.data.toList.take k)++[c]:=by rw[agf,p];rfl
 refine .kn<|.seq<|.block<|.sr<|.mo rfl<|.ag rfl<|.z<|.mo rfl<|.mo rfl ?_
 refine .q (.cast (.fv k i) (by rw[h])) ?_
 refine .az rfl<|.block<|.sr<|.mo rfl<|.q .bw<|.mo rfl ?_
 refine .split (t:=20) rfl (λb=>?_) (λb=>?_)
 refine .gF b<|.gF b<|.q (.aZ b) ?_
 refine .az rfl<|.eQ ?_
 ·exfalso
  simp_all
  omega
 refine .gT b<|.mo rfl<|.gT b<|.q .bw<|.q (.aX b) ?_
 refine .az rfl ?_
 refine .cond rfl (λx=>?_) λx=>?_
 ·exfalso
  simp_all
  omega
 refine .sr<|.mo rfl<|.q .bw<|.az rfl ?_
 refine .cond rfl (λm=>?_) λm=>?_
 ·exfalso
  have e:=m
  simp at e
  omega
 refine .sr<|.mo rfl<|.q .bw<|.az rfl ?_
 refine .cond rfl (λn=>?_) λn=>?_
 ·exfalso
  have e:=n
  simp at e
  omega
 refine .sr<|.mo rfl<|.q .bw<|.az rfl ?_
 refine .cond rfl (λo=>?_) λo=>?_
 ·exfalso
  have e:=o
  simp at e
  omega
 refine .sr<|.mo rfl<|.q .lss<|.mo rfl ?_
 refine .split (t:=42) rfl (λa=>?_) (λa=>?_)
 refine .gF a<|.gF a<|.q (.aZ a) ?_
 refine .az rfl<|.eQ ?_
 ·exfalso
  simp_all
  omega
 refine .gT a<|.mo rfl<|.gT a<|.q .bw<|.q (.aX a) ?_
 refine .az rfl ?_
 refine .cond rfl (λA=>?_) λA=>?_
 ·exfalso
  simp_all
  omega
 refine .region<|.mo rfl ?_
 refine .cr (qL d _ l c _ f (by simp;omega)) (λu w r=>?_)
 rw[<-K]at r
 refine .nil<|bi<|bi<|ay<|.region ?_
 refine .ia (k+1) .add ?_
 refine .mo rfl<|.nil ?_
 ·exact aW (k+1,w) ⟨i,r⟩ (by simp only;omega) kE.c.c.c.c rH
 have F:k=t.size:=by have:=bC g;omega
 subst F
 have J:t.data.toList.take t.size=t.data.toList:=agk (by omega)
 rw[J]at f
 refine .exit<|bz<|bG<|bB<|ay<|.sr ?_
 refine .cr (qL d _ l 34 _ f (by simp;omega)) (λu v L=>?_)
 refine .z ?_
 refine .call [0] (vZ d _ v _ L) (λu H' j=>?_)
 obtain⟨rfl,rfl⟩:=j
 conv=>arg 8;simp only[rest,bK,agc,agd]
 refine .az rfl ?_
 refine .ret (aM rfl ?_)
 ·exact⟨by simp[dX],rfl⟩
def BP(b:Nat)(xs:List UInt8)(T:aH):Prop:=∃a vs Tb,T=(b,.cells [a,vs].toArray 88 (0,0))::Tb/\(a=.pointer none\/a=pT b)/\OS 5 1 jE vs xs Tb/\(xs=[]->vs=sZ)
theorem BP.new{b:Nat}:BP b [] (bl b [.pointer none,sZ] 88):=⟨_,_,[],rfl,.inl rfl,OS.nil,λ_=>rfl⟩
theorem yZ(b:Nat)(a vs:Value)(R:aw)(d:a=.pointer none\/a=pT b)(e:One vs):
  Spec prog 111 [pT b] R [bl b [a,vs] 88] λu H'=>∃T',H'=[T']/\u=.tuple #[]/\T'=(bl b [pT b,vs] 88):=by
 rcases d with rfl|rfl
 ·skip
  refine Spec.body func111 rfl results111 ntmps111 rfl ?_
  refine .sr<|.mo rfl<|.nc rfl<|.fa rfl<|.lo rfl<|.q (.po rfl rfl) ?_
  refine .zn<|.eQ<|.region<|.mo rfl<|.mo rfl ?_
  refine .q (.Al (b:=b) (E:=88) (c:=[.pointer none,vs].toArray) (fr:=(0,0)) (by simp) (by simp) (by kernel_rfl) rfl) ?_
  refine .q (.yJ func146 (by kernel_rfl) (by kernel_rfl) (by kernel_rfl) (by kernel_rfl) rfl) ?_
  refine .q (.xA (b:=b) (E:=88) (n:=2) (c:=[.pointer none,vs].toArray) (fr:=(0,0)) (by simp) rfl (by kernel_rfl) (by kernel_rfl) rfl) ?_
  refine .nc rfl<|.fa rfl<|.dH rfl rfl<|.nil<|gg _ .none (.one [0] _) ?_
  ·exact⟨_,by simp[take];rfl,rfl,rfl⟩
 ·skip
  refine Spec.body func111 rfl results111 ntmps111 rfl ?_
  refine .sr<|.mo rfl<|.nc rfl<|.fa rfl<|.lo rfl<|.q (.po rfl rfl) ?_
  refine .zn<|.bQ<|.sr<|.mo rfl<|.nc rfl<|.fa rfl<|.lo rfl<|.mo rfl ?_
  refine .q (.yF rfl rfl (by kernel_rfl)) ?_
  refine .zn<|.bQ<|.skip<|gg _ .none (.one [0] _) ?_
  ·exact⟨_,by simp[take],rfl,rfl⟩
theorem rR(b:Nat)(xs:List UInt8)(T:aH)(c:UInt8)(R:aw)(h:BP b xs T)(p:xs.length<=1000000000):
  Spec prog 114 [pT b,.int .u8 (c.toNat:Int)] R [T] λu H'=>∃T',H'=[T']/\BP b (xs++[c]) T':=by
 obtain⟨a,j,k,rfl,g,e,q⟩:=h
 have m:=e.aq
 have s:One a:=⟨by rcases g with rfl|rfl<;>rfl⟩
 refine Spec.fP (H':=[bl b [a,j] 88,k]) (by simp) ?_
 refine Spec.body func114 rfl results114 ntmps114 rfl ?_
 refine .sr<|.ag rfl<|.z<|.mo rfl ?_
 refine .cr (yZ b a j _ g m) (λu n l=>?_)
 obtain⟨rfl,rfl⟩:=l
 refine .z<|.mo rfl<|.mo rfl<|.nc rfl<|.fa rfl<|.lo rfl<|.mo rfl ?_
 refine .jB (λo=>?_)
 refine .append e (RS.lits (xs:=[c]) rfl (by simp[jE]) (by simp[jE,aq])) (by simp;omega) (λi d f=>?_)
 have r:=f.aq
 refine .nc rfl<|.fa rfl<|.dH rfl rfl<|.z<|.az rfl ?_
 refine .ret (bu _ (.one (.tmp rfl)) ((aQ [1,1]).trans (bp.eu (H':=[(b,.cells [pT b,i].toArray 88 (0,0))::d]) (by simp[take,bK];exact .refl _))) ?_)
 ·exact⟨_,rfl,_,i,d,rfl,.inr rfl,f,by simp⟩
theorem NF(b:Nat)(xs:List UInt8)(T:aH)(R:aw)(h:BP b xs T):
  Spec prog 26 [pT b] R [T] λu H'=>u=.string ⟨xs.toArray⟩/\H'=[]:=by
 obtain⟨a,p,f,rfl,j,e,m⟩:=h
 have B:=e.aq
 have A:One a:=⟨by rcases j with rfl|rfl<;>rfl⟩
 have l:=e.le
 refine Spec.fP (H':=[bl b [a,p] 88,f]) (by simp) ?_
 by_cases d:xs=[]
 ·subst d
  have o:=m rfl
  subst o
  refine Spec.body func26 rfl results26 ntmps26 rfl ?_
  refine .sr<|.ag rfl<|.zs<|.dg [] mixed ?_
  refine .tO 0 rfl .move<|.tO 1 rfl (.nilCheck rfl)<|.tO 2 rfl (.fieldAddr rfl)<|.tO 3 rfl (.cO rfl)<|.tO 5 rfl .move<|.tO 6 rfl (.nilCheck rfl)<|.tO 7 rfl (.fieldAddr rfl)<|.tO 8 rfl (.cO rfl) ?_
  refine .tO 9 rfl (.pP rfl) ?_
  refine .sT 4 rfl ?_
  refine .q (.zX rfl) ?_
  refine .nil (Next.sub ?_)
  refine .sT 10 rfl ?_
  refine .q (.As rfl rfl) ?_
  refine .nil (Next.sub ?_)
  refine .tO 11 rfl .assign ?_
  refine RA.nil (by kernel_rfl) ?_
  refine ay ?_
  refine .ret (aM rfl ?_)
  ·exact⟨rfl,rfl⟩
 ·obtain⟨y,z,k⟩:=e
  rcases k with⟨_,i,_⟩|⟨g,off,c,r,rfl,rfl,t,v,w,n⟩
  ·exact absurd i d
  ·have x:0<xs.length:=List.length_pos_iff.2 d
   refine Spec.body func26 rfl results26 ntmps26 rfl ?_
   refine .sr<|.ag rfl<|.zs<|.dg [10] mixed ?_
   refine .tO 0 rfl .move<|.tO 1 rfl (.nilCheck rfl)<|.tO 2 rfl (.fieldAddr rfl)<|.tO 3 rfl (.cO rfl)<|.tO 5 rfl .move<|.tO 6 rfl (.nilCheck rfl)<|.tO 7 rfl (.fieldAddr rfl)<|.tO 8 rfl (.cO rfl) ?_
   refine .tO 9 rfl (.pP rfl) ?_
   refine .sT 4 rfl ?_
   refine .q (.zW (by omega) rfl) ?_
   refine .nil (Next.sub ?_)
   refine .sT 10 rfl ?_
   refine .Ar (b:=g) (off:=off) (c:=c) (xs:=xs) d n (by omega) (by kernel_rfl) l rfl rfl (λs=>?_)
   refine .nil (Next.mod rfl ?_)
   refine .tK 11 rfl .assign ?_
   refine RA.nil (by kernel_rfl) ?_
   refine ay ?_
   refine .ret (aM rfl ?_)
   ·exact⟨rfl,rfl⟩
theorem rS(b:Nat)(xs:List UInt8)(T:aH)(s:ByteArray)(R:aw)(h:BP b xs T)(p:xs.length<=1000000000)(t:s.size<=1000000000)(v:0<s.size):
  Spec prog 61 [pT b,.string s] R [T] λu H'=>∃T',H'=[T']/\BP b (xs++s.data.toList) T':=by
 obtain⟨a,j,k,rfl,g,d,r⟩:=h
 have n:=d.aq
 have x:One a:=⟨by rcases g with rfl|rfl<;>rfl⟩
 refine Spec.fP (H':=[bl b [a,j] 88,k]) (by simp) ?_
 refine Spec.body func61 rfl results61 ntmps61 rfl ?_
 refine .sr<|.ag rfl<|.ag rfl<|.z<|.mo rfl ?_
 refine .cr (yZ b a j _ g n) (λu o m=>?_)
 obtain⟨rfl,rfl⟩:=m
 refine .z<|.mo rfl<|.mo rfl<|.nc rfl<|.fa rfl<|.lo rfl<|.mo rfl ?_
 refine .A4 (s:=s) d (by omega) (λi c f=>?_)
 have w:=f.aq
 refine .nc rfl<|.fa rfl<|.dH rfl rfl<|.z<|.mo rfl<|.q .fw<|.ag rfl<|.az rfl ?_
 refine .ret (bu _ (.two (.tmp rfl) (.tmp rfl)) ((aQ [0,0]).trans (bp.eu (H':=[(b,.cells [pT b,i].toArray 88 (0,0))::c]) (by simp[take,bK];exact .refl _))) ?_)
 ·refine⟨_,rfl,_,i,c,rfl,.inr rfl,f,λe=>?_⟩
  have l:=af9 List.length e
  rw[af8,gD,age]at l
  omega
theorem NE(b:Nat)(xs:List UInt8)(T:aH)(R:aw)(h:BP b xs T):
  Spec prog 25 [pT b] R [T] λu H'=>∃T',H'=[T']/\u=iN xs.length/\BP b xs T':=by
 have f:=h
 obtain⟨a,e,c,rfl,g,d,i⟩:=h
 have k:=d.aq
 have j:One a:=⟨by rcases g with rfl|rfl<;>rfl⟩
 refine Spec.fP (H':=[bl b [a,e] 88,c]) (by simp) ?_
 refine Spec.body func25 rfl results25 ntmps25 rfl ?_
 refine .sr<|.ag rfl<|.z<|.mo rfl<|.nc rfl<|.fa rfl<|.lo rfl<|.q (.fD d) ?_
 refine .az rfl ?_
 refine .ret (bu _ (.one (.tmp rfl)) (bp.eu (H':=[(b,.cells [a,e].toArray 88 (0,0))::c]) (by simp)) ?_)
 ·exact⟨_,rfl,rfl,f⟩
theorem BP.ps{b:Nat}{xs:List UInt8}{T:aH}(h:BP b xs T):∃a vs,PS T (pT b) [a,vs]:=by
 obtain⟨a,vs,c,rfl,_⟩:=h
 exact⟨a,vs,PS.of (E:=88) (fr:=(0,0)) (by simp)⟩
def sL(d:Nat):Prop:=∀(b:Nat) (xs:List UInt8) (T:aH) (cs:List Value) (j:J) (R:aw),BP b xs T->di R cs j->dF d j->xs.length+(pJ d j).length<=100000000->
 Spec prog 24 [pT b,.agg cs.toArray] R [T] λu H'=>∃T',H'=[T']/\BP b (xs++pJ d j) T'
def lO(d:Nat)(k:Int)(l:List JP)(ks:List ByteArray)(i:Nat):List UInt8:=(if k=5 then dX ((ks[i]?).getD ⟨#[]⟩)++[58]else [])++(((l[i]?).map λp=>pJ d p.2).getD [])
theorem oJ(t:ByteArray):(dX t).length=t.size+2:=by
 have:=gD t
 simp[dX]
theorem LP:∀{xs:List (List UInt8)} {x:List UInt8},x∈xs->x.length<=(cP xs).length
 |y::xs,x,h=>by
  rcases agq.1 h with rfl|h
  ·simp[cP]
  ·obtain⟨a,b,rfl⟩:=List.append_of_mem h
   simp[cP]
   omega
theorem xS{xs:List (List UInt8)}(i:Nat):(cP (xs.take i)).length<=(cP xs).length:=by
 cases xs with
 |nil=>simp[cP]
 |cons x xs=>
  cases i with
  |zero=>simp[cP]
  |succ i=>
   simp only[List.take_succ_cons,cP,af8]
   have h:(xs.flatMap λy=>(44:UInt8)::y)=((xs.take i).flatMap λy=>44::y)++((xs.drop i).flatMap λy=>44::y):=by
    conv=>lhs;rw[<-agu i xs]
    rw[List.flatMap_append]
   rw[h,af8]
   omega
theorem yW(d:Nat)(V:sL d)(b:Nat)(xs:List UInt8)(T:aH)(k:Int)(op en:UInt8)(v r:Value)(l:List JP)(ks:List ByteArray)(R:aw)(Y:BP b xs T)(A:RS R 6 iE v l)(K:RS R 1 dV r ks)
  (ha:∀p∈l,di R p.1 p.2/\dF d p.2)(b7:∀t∈ks,dm t)(c0:k=5->ks.length=l.length)(a:List (List UInt8))(hi:a=(List.range l.length).map (lO d k l ks))(d4:xs.length+(cP a).length+2<=100000000):
  Spec prog 65 [pT b,.agg [.int .i64 k,.bool false,.int .i64 0,.string ⟨#[]⟩,v,r].toArray,.int .u8 (op.toNat:Int),.int .u8 (en.toNat:Int)] R [T] λu H'=>∃T',H'=[T']/\BP b (xs++op::(cP a++[en])) T':=by
 have il:=A.aq
 have ik:=K.aq
 have d2:=A.le
 have c8:a.length=l.length:=by rw[hi];simp
 obtain⟨aB,vB,pB⟩:=Y.ps
 have b3:∀i,i<l.length->a[i]? =some (lO d k l ks i):=λi h=>by rw[hi];simp[h]
 refine Spec.body func65 rfl results65 ntmps65 rfl ?_
 refine .sr ?_
 refine .cj rfl (λF=>?_)
 refine .z<|.mo rfl<|.nc rfl<|.fa rfl<|.mo rfl ?_
 refine .cr (rR b xs T op _ Y (by omega)) (λu T1 c4=>?_)
 refine .zs<|.sr<|.fa rfl<|.lo rfl<|.q (.bL A) ?_
 refine .mo rfl<|.zn<|.block ?_
 refine .cL [(0,_),(3,_),(5,_),(16,_),(17,_)] (G:=[bl F [.int .i64 k,.bool false,.int .i64 0,.string ⟨#[]⟩,v,r] 42]) (X:=Nat×aH) (λy=>y.1<=l.length/\BP b ((xs++[op])++cP (a.take y.1)) y.2) (λy E=>(18,iN y.1)::E) (λy G=>y.2::G) (λy=>l.length-y.1) (0,T1) ⟨agi _,by simpa[cP]using c4⟩ kE.c.c.c.c.c.c (aQ [1,0]) ?_
 rintro⟨i,w⟩ ⟨b0,n⟩
 simp only at b0 n⊢
 obtain⟨aC,vC,pC⟩:=n.ps
 have d0:=xS (xs:=a) i
 refine .sr<|.q .lss<|.zs ?_
 refine .cond rfl (λH=>?_) λH=>?_
 have M:i<l.length:=cF H
 obtain⟨⟨cs,j⟩,O⟩:=cm M
 obtain⟨hJ,b4⟩:=ha _ (aV O)
 have a0:=b3 i M
 have c9:=LP (aV a0)
 have D:cP (a.take (i+1))=cP (a.take i)++((if i=0 then []else [44])++lO d k l ks i):=by
  rw[agf,a0]
  show cP (a.take i++[lO d k l ks i])=_
  rw[tE]
  by_cases g:i=0
  ·subst g;simp
  ·have c1:¬a.take i=[]:=λe=>by
    have h9:=af9 List.length e
    rw[agl,age]at h9
    omega
   rw[agb c1,agb g];rfl
 have o:=xS (xs:=a) (i+1)
 rw[D]at o
 have b1:(lO d k l ks i)=(if k=5 then dX ((ks[i]?).getD ⟨#[]⟩)++[58]else [])++pJ d j:=by unfold lO;rw[O];rfl
 rw[b1]at D o
 simp only[af8]at o
 have a8:=hJ
 obtain⟨k2,U,n2,t2,a5,a4,l2,d7,rfl,rfl,b8,b6,c7⟩:=hJ.open
 have d6:=b8.aq
 have d5:=b6.aq
 refine .kn<|.seq<|.block<|.sr<|.mo rfl ?_
 refine .bI i A O (λd8=>?_)
 refine .q (.aP rfl) ?_
 refine .bV (λW=>?_)
 refine .ag rfl<|.bN rfl rfl<|.zs<|.sr<|.mo rfl<|.q .gtr<|.zn ?_
 refine bF.dt [(0,_),(3,_),(5,_),(8,_),(9,_),(16,_),(17,_),(18,_)] kE.c.c.c.c.c.c.c.c (X:=aH) (λf=>BP b ((xs++[op])++cP (a.take i)++(if i=0 then []else [44])) f) (λf E=>E) (λf=>[f,bl W [.int .i64 k2,.bool U,.int .i64 n2,.string t2,a5,a4] 42,bl F [.int .i64 k,.bool false,.int .i64 0,.string ⟨#[]⟩,v,r] 42]) ?_ ?_
 refine .cond rfl (λI=>?_) λI=>?_
 have g:¬i=0:=by have:=cq I;omega
 refine .region<|.mo rfl<|.nc rfl<|.fa rfl ?_
 refine .cr (rR b _ w 44 _ n (by simp only[af8,aga,age];omega)) (λu Q a1=>?_)
 refine .nil ?_
 ·first
   |exact aG Q (by simp only[agb g];exact a1) kE.c.c.c.c.c.c.c.c (aQ [1,0,0])
   |exact aG w (by simp only[if_pos g,agt];exact n) kE.c.c.c.c.c.c.c.c (aQ [1,0,0])
 have g:i=0:=by have:=bC I;omega
 refine .skip ?_
 ·first
   |exact aG Q (by simp only[agb g];exact a1) kE.c.c.c.c.c.c.c.c (aQ [1,0,0])
   |exact aG w (by simp only[if_pos g,agt];exact n) kE.c.c.c.c.c.c.c.c (aQ [1,0,0])
 intro x N
 have s:=N
 obtain⟨aD,vD,pD⟩:=s.ps
 obtain⟨C,hC⟩:∃C,C=(if i=0 then([]:List UInt8)else [44]):=⟨_,rfl⟩
 rw[<-hC]at s D o
 refine ay<|.seq<|.sr<|.fa rfl<|.lo rfl<|.q .bw<|.zn ?_
 refine bF.dt [(0,_),(3,_),(5,_),(9,_),(16,_),(17,_),(18,_)] kE.c.c.c.c.c.c.c (X:=aH) (λf=>BP b ((xs++[op])++cP (a.take i)++C++(if k=5 then dX ((ks[i]?).getD ⟨#[]⟩)++[58]else [])) f) (λf E=>E) (λf=>[f,bl W [.int .i64 k2,.bool U,.int .i64 n2,.string t2,a5,a4] 42,bl F [.int .i64 k,.bool false,.int .i64 0,.string ⟨#[]⟩,v,r] 42]) ?_ ?_
 refine .cond rfl (λJ=>?_) λJ=>?_
 have m:k=5:=by simpa using J
 have d1:=c0 m
 obtain⟨t,B⟩:∃t,ks[i]? =some t:=⟨_,bE (by omega)⟩
 have c3:=b7 t (aV B)
 have pk:PC R (fB r (i*1)) [.string t]:=K.pc B
 have L:(ks[i]?).getD ⟨#[]⟩=t:=by rw[B];rfl
 have c2:=oJ t
 rw[if_pos m,L]at o
 simp only[af8,aga,age]at o
 have d3:(⟨(dX t).toArray⟩:ByteArray).size=t.size+2:=by rw[<-gD];simpa using c2
 refine .seq<|.dg [9] mixed ?_
 refine .tO 0 rfl .move<|.tO 1 rfl (.nilCheck rfl)<|.tO 2 rfl (.fieldAddr rfl)<|.tO 3 rfl (.fieldAddr rfl)<|.tO 4 rfl (.cO rfl)<|.tO 5 rfl .move ?_
 refine .tO 6 rfl (.bI i K B rfl rfl rfl) ?_
 refine .tO 7 rfl (.cO rfl) ?_
 refine .sT 8 rfl ?_
 refine .aR (xU t c3 (by omega) _) (λu hu=>?_)
 subst hu
 refine .nil (Next.sub ?_)
 refine .sT 9 rfl ?_
 refine .cr (rS b _ _ ⟨(dX t).toArray⟩ _ s (by simp only[af8,aga,age];omega) (by omega) (by omega)) (λu T8 a2=>?_)
 obtain⟨aE,vE,pE⟩:=a2.ps
 refine .nil (Next.mod rfl ?_)
 refine RA.nil (by kernel_rfl) ?_
 refine ay<|.region<|.mo rfl<|.nc rfl<|.fa rfl ?_
 refine .cr (rR b _ T8 58 _ a2 (by simp only[af8,aga,age];omega)) (λu S a3=>?_)
 refine .nil ?_
 ·first
   |exact aG S (by simp only[if_pos m,L];simpa using a3) kE.c.c.c.c.c.c.c rH
   |exact aG _ (by simp only[agb m,agt];exact s) kE.c.c.c.c.c.c.c rH
 have m:¬k=5:=by simpa using J
 refine .skip ?_
 ·first
   |exact aG S (by simp only[if_pos m,L];simpa using a3) kE.c.c.c.c.c.c.c rH
   |exact aG _ (by simp only[agb m,agt];exact s) kE.c.c.c.c.c.c.c rH
 intro x N
 have Z:=N
 obtain⟨aF,vF,pF⟩:=Z.ps
 refine ay<|.region<|.mo rfl<|.q (.aP rfl) ?_
 refine .cr (V b _ _ _ _ _ Z a8 b4 (by simp only[af8,aga,age];omega)) (λu a6 c5=>?_)
 refine .nil<|bi<|ay<|.region ?_
 refine .ia (i+1) .add ?_
 refine .mo rfl<|.nil ?_
 ·exact aW (i+1,a6) ⟨M,by
   simp only
   rw[D]
   simpa using c5⟩ (by simp only;omega) kE.c.c.c.c.c.c (aQ [0,1])
 have a9:i=a.length:=by have:=bC H;omega
 rw[a9,List.take_length]at n
 refine .exit<|bz<|bG<|bB<|ay<|.region<|.mo rfl<|.nc rfl<|.fa rfl<|.mo rfl ?_
 refine .cr (rR b _ w en _ n (by simp only[af8,aga,age];omega)) (λu a7 c6=>?_)
 refine .nil<|gg _ .none (.one [0] _) ?_
 ·exact⟨a7,by simp[take],by simpa using c6⟩
theorem Ny(d:Nat)(l:List JP):(List.range l.length).map (lO d 4 l [])=(l.map (·.2)).map (pJ d):=by
 apply List.ext_getElem
 ·simp
 ·intro i a c
  have b:i<l.length:=by simpa using a
  simp[lO,b]
theorem Nz(d:Nat)(l:List JP)(ks:List ByteArray)(h:ks.length=l.length):(List.range l.length).map (lO d 5 l ks)=(ks.zip (l.map (·.2))).map λp=>dX p.1++58::pJ d p.2:=by
 apply List.ext_getElem
 ·simp[h]
 ·intro i a e
  have b:i<l.length:=by simpa using a
  have c:i<ks.length:=by omega
  simp[lO,b,c]
theorem NV(d:Nat)(V:sL d)(b:Nat)(xs:List UInt8)(T:aH)(cs:List Value)(j:J)(R:aw)(g:BP b xs T)(h:di R cs j)(y:dF (d+1) j)(c:xs.length+(pJ (d+1) j).length<=100000000):
  Spec prog 24 [pT b,.agg cs.toArray] R [T] λu H'=>∃T',H'=[T']/\BP b (xs++pJ (d+1) j) T':=by
 obtain⟨k,a,n,t,vl,Z,l,i,rfl,rfl,N,M,U⟩:=h.open
 have il:=N.aq
 have ik:=M.aq
 obtain⟨aB,vB,pB⟩:=g.ps
 unfold dF at y
 rw[pJ]at c⊢
 refine Spec.body func24 rfl results24 ntmps24 rfl ?_
 refine .sr ?_
 refine .cj rfl (λb3=>?_)
 refine .z<|.fa rfl<|.lo rfl<|.zn<|.block<|.sr<|.q .bw<|.az rfl ?_
 refine .cond rfl (λS=>?_) λS=>?_
 ·exfalso
  have h9:=S
  simp at h9
  omega
 refine .sr<|.q .bw<|.az rfl ?_
 refine .cond rfl (λG=>?_) λG=>?_
 have a0:k=1:=by simpa using G
 simp only[a0,if_true]at c⊢
 have b0:(bT a).length<=5/\0<(bT a).length:=by cases a<;>simp[bT]
 have Y:(⟨(bT a).toArray⟩:ByteArray).size=(bT a).length:=by rw[<-gD]
 refine .dg [6] mixed ?_
 refine .tO 0 rfl .move<|.tO 1 rfl (.nilCheck rfl)<|.tO 2 rfl (.fieldAddr rfl)<|.tO 3 rfl (.fieldAddr rfl)<|.tO 4 rfl (.cO rfl) ?_
 refine .sT 5 rfl ?_
 refine .aR (KV a _) (λu A=>?_)
 subst A
 refine .nil (Next.sub ?_)
 refine .sT 6 rfl ?_
 refine .cr (rS b xs T ⟨(bT a).toArray⟩ _ g (by omega) (by omega) (by omega)) (λu s D=>?_)
 refine .nil (Next.mod rfl ?_)
 refine RA.nil (by kernel_rfl) ?_
 refine bi (gg _ .none (.one [1] _) ?_)
 ·first
   |exact⟨s,by simp[take],D⟩
   |exact⟨v,by simp[take],E⟩
   |exact⟨w,by simp[take],F⟩
   |exact⟨o,by simp[take],B⟩
   |exact⟨r,by simp[take],C⟩
 refine .sr<|.q .bw<|.az rfl ?_
 refine .cond rfl (λH=>?_) λH=>?_
 have a6:k=2:=by simpa using H
 have X:0<=n/\n<64:=by
  rcases y with h|h|h|h|h
  ·omega
  ·exact h.2.2.1
  ·omega
  ·omega
  ·omega
 simp only[a6,if_true,show ¬((2:Int)=1) by decide,if_false]at c⊢
 obtain⟨m,rfl⟩:=Int.eq_ofNat_of_zero_le X.1
 have W:m<64:=by omega
 obtain⟨b1,b2,_⟩:=nC m W
 have Y:(gb m).size=(eR m).length:=by rw[<-gD];rfl
 refine .dg [6] mixed ?_
 refine .tO 0 rfl .move<|.tO 1 rfl (.nilCheck rfl)<|.tO 2 rfl (.fieldAddr rfl)<|.tO 3 rfl (.fieldAddr rfl)<|.tO 4 rfl (.cO rfl) ?_
 refine .sT 5 rfl ?_
 refine .aR (xz m W _) (λu A=>?_)
 subst A
 refine .nil (Next.sub ?_)
 refine .sT 6 rfl ?_
 refine .cr (rS b xs T (gb m) _ g (by omega) (by omega) (by omega)) (λu v E=>?_)
 refine .nil (Next.mod rfl ?_)
 refine RA.nil (by kernel_rfl) ?_
 refine bi (gg _ .none (.one [1] _) ?_)
 ·first
   |exact⟨s,by simp[take],D⟩
   |exact⟨v,by simp[take],E⟩
   |exact⟨w,by simp[take],F⟩
   |exact⟨o,by simp[take],B⟩
   |exact⟨r,by simp[take],C⟩
 refine .sr<|.q .bw<|.az rfl ?_
 refine .cond rfl (λI=>?_) λI=>?_
 have a7:k=3:=by simpa using I
 have a9:dm t:=by
  rcases y with h|h|h|h|h
  ·omega
  ·omega
  ·exact h.2.2.2.1
  ·omega
  ·omega
 simp only[a7,if_true,show ¬((3:Int)=1) by decide,show ¬((3:Int)=2) by decide,if_false]at c⊢
 have a8:=oJ t
 have Y:(⟨(dX t).toArray⟩:ByteArray).size=t.size+2:=by rw[<-gD];simpa using a8
 refine .dg [6] mixed ?_
 refine .tO 0 rfl .move<|.tO 1 rfl (.nilCheck rfl)<|.tO 2 rfl (.fieldAddr rfl)<|.tO 3 rfl (.fieldAddr rfl)<|.tO 4 rfl (.cO rfl) ?_
 refine .sT 5 rfl ?_
 refine .aR (xU t a9 (by omega) _) (λu A=>?_)
 subst A
 refine .nil (Next.sub ?_)
 refine .sT 6 rfl ?_
 refine .cr (rS b xs T ⟨(dX t).toArray⟩ _ g (by omega) (by omega) (by omega)) (λu w F=>?_)
 refine .nil (Next.mod rfl ?_)
 refine RA.nil (by kernel_rfl) ?_
 refine bi (gg _ .none (.one [1] _) ?_)
 ·first
   |exact⟨s,by simp[take],D⟩
   |exact⟨v,by simp[take],E⟩
   |exact⟨w,by simp[take],F⟩
   |exact⟨o,by simp[take],B⟩
   |exact⟨r,by simp[take],C⟩
 refine .sr<|.q .bw<|.az rfl ?_
 refine .cond rfl (λK=>?_) λK=>?_
 have b4:k=4:=by simpa using K
 obtain⟨rfl,rfl,rfl,rfl,Q,rfl⟩:k=4/\a=false/\n=0/\t=⟨#[]⟩/\(∀x∈l.map (·.2),dF d x)/\i=[]:=by
  rcases y with h|h|h|h|h
  ·omega
  ·omega
  ·omega
  ·exact h
  ·omega
 simp only[if_true,show ¬((4:Int)=1) by decide,show ¬((4:Int)=2) by decide,show ¬((4:Int)=3) by decide,if_false]at c⊢
 simp only[aga,af8,age]at c
 refine .region<|.mo rfl<|.q (.aP rfl) ?_
 refine .cr (yW d V b xs T 4 91 93 vl Z l [] _ g N M (λp f=>⟨U p f,Q p.2 (agm.2 ⟨p,f,rfl⟩)⟩) (λt ht=>by cases ht) (λe=>absurd e (by decide)) _ (Ny d l).symm (by omega)) (λu o B=>?_)
 refine .nil ?_
 refine bi (gg _ .none (.one [1] _) ?_)
 ·first
   |exact⟨s,by simp[take],D⟩
   |exact⟨v,by simp[take],E⟩
   |exact⟨w,by simp[take],F⟩
   |exact⟨o,by simp[take],B⟩
   |exact⟨r,by simp[take],C⟩
 refine .sr<|.q .bw<|.az rfl ?_
 refine .cond rfl (λL=>?_) λL=>?_
 have b5:k=5:=by simpa using L
 obtain⟨rfl,rfl,rfl,rfl,Q,f,X,O⟩:k=5/\a=false/\n=0/\t=⟨#[]⟩/\(∀x∈l.map (·.2),dF d x)/\(∀t∈i,dm t)/\i.Nodup/\i.length=(l.map (·.2)).length:=by
  rcases y with h|h|h|h|h
  ·omega
  ·omega
  ·omega
  ·omega
  ·exact h
 rw[List.length_map]at O
 simp only[show ¬((5:Int)=1) by decide,show ¬((5:Int)=2) by decide,show ¬((5:Int)=3) by decide,show ¬((5:Int)=4) by decide,if_false]at c⊢
 simp only[aga,af8,age]at c
 refine .region<|.mo rfl<|.q (.aP rfl) ?_
 refine .cr (yW d V b xs T 5 123 125 vl Z l i _ g N M (λp f=>⟨U p f,Q p.2 (agm.2 ⟨p,f,rfl⟩)⟩) f (λ_=>O) _ (Nz d l i O).symm (by omega)) (λu r C=>?_)
 refine .nil ?_
 refine bi (gg _ .none (.one [1] _) ?_)
 ·first
   |exact⟨s,by simp[take],D⟩
   |exact⟨v,by simp[take],E⟩
   |exact⟨w,by simp[take],F⟩
   |exact⟨o,by simp[take],B⟩
   |exact⟨r,by simp[take],C⟩
 ·exfalso
  have a1:¬k=1:=by simpa using G
  have a2:¬k=2:=by simpa using H
  have a3:¬k=3:=by simpa using I
  have a4:¬k=4:=by simpa using K
  have a5:¬k=5:=by simpa using L
  omega
theorem zl:∀d,sL d
 |0=>λb e T c j R _ _ a _=>a.elim
 |d+1=>λb e T c j R f h a g=>NV d (zl d) b e T c j R f h a g
theorem tz(cs:List Value)(j:J)(R:aw)(h:di R cs j)(d:dF 16 j):Spec prog 10 [.agg cs.toArray] R [] λu H'=>u=.bool true/\H'=[]:=by
 have r:bZ cs:=⟨h.cN⟩
 have a:=h
 obtain⟨k,g,n,t,w,v,l,s,rfl,rfl,p,m,i⟩:=h.open
 refine Spec.body func10 rfl results10 ntmps10 rfl ?_
 refine .sr ?_
 refine .cj rfl (λf=>?_)
 refine .ag rfl<|.z<|.q (.aP rfl) ?_
 refine .aR (xV 16 _ _ _ (a.mono λb o c=>.inl c) d (by decide)) (λu e=>?_)
 subst e
 refine .az rfl ?_
 refine .ret (aM rfl ?_)
 ·exact⟨rfl,rfl⟩
theorem LU(cs:List Value)(j:J)(R:aw)(h:di R cs j)(i:dF 16 j)(x:(pJ 16 j).length<=100000000):Spec prog 9 [.agg cs.toArray] R [] λu H'=>u=(if 65536<(pJ 16 j).length then .tuple [.string ⟨#[]⟩,.int .i64 5].toArray else .tuple [.string ⟨(pJ 16 j).toArray⟩,.int .i64 0].toArray)/\H'=[]:=by
 have E:bZ cs:=⟨h.cN⟩
 have g:=h
 obtain⟨k,C,n,t,O,N,l,H,rfl,rfl,w,v,D⟩:=h.open
 have G:=w.aq
 have F:=v.aq
 refine Spec.body func9 rfl results9 ntmps9 rfl ?_
 refine .sr ?_
 refine .cj rfl (λB=>?_)
 refine .ag rfl<|.ag rfl<|.zs<|.sr<|.q (.aP rfl) ?_
 refine .aR (tz _ _ _ (g.mono λb o s=>.inl s) i) (λu f=>?_)
 subst f
 refine .q .not<|.zn<|.bQ<|.kn<|.sr ?_
 refine .bV (λc=>?_)
 refine .z<|.q (.aP rfl) ?_
 refine .cr (zl 16 c [] _ _ _ _ BP.new g i (by simpa using x)) (λu p m=>?_)
 obtain⟨y,L,I⟩:=m.ps
 refine .zs<|.sr<|.fa rfl ?_
 refine .cr (NE c _ p _ m) (λu r a=>?_)
 obtain⟨rfl,a⟩:=a
 obtain⟨A,M,K⟩:=a.ps
 refine .q .gtr<|.zn ?_
 refine .cond rfl (λd=>?_) λd=>?_
 refine .sr<|.ag rfl<|.az rfl ?_
 refine .ret (aI (bu _ (.two (.tmp rfl) (.tmp rfl)) (.none _) ?_))
 ·have e:=cq d
  rw[if_pos (by simp only[agd]at e;omega)]
  exact⟨rfl,rfl⟩
 refine .kn<|.sr<|.fa rfl ?_
 refine .call [0] (NF c _ r _ a) (λu H' f=>?_)
 obtain⟨rfl,rfl⟩:=f
 conv=>arg 8;simp only[rest,bK,agc,agd]
 refine .ag rfl<|.az rfl ?_
 refine .ret (bu _ (.two (.tmp rfl) (.tmp rfl)) (.none _) ?_)
 ·have e:=bC d
  rw[agb (by simp only[agd]at e;omega)]
  exact⟨rfl,rfl⟩
theorem dA.ext{s:ByteArray}{i:Nat}{l r:List UInt8}(h:dA s i (l++r)):s.extract i (i+l.length)=⟨l.toArray⟩:=by
 have a:=h.len
 rw[af8]at a
 apply ByteArray.ext
 apply Array.ext'
 have e:(s.extract i (i+l.length)).data.toList=(s.data.toList.drop i).take l.length:=by
  rw[ByteArray.data_extract,Array.toList_extract,List.extract_eq_take_drop]
  congr 1
  omega
 rw[e,h.2]
 simp
def sI(r:List UInt8):Prop:=∀c l,r=c::l->¬(48<=c.toNat/\c.toNat<=57)
theorem N6{s:ByteArray}{i j:Nat}{l r:List UInt8}(h:dA s i (l++r))(b:j<l.length):i+j<s.size/\l[j]? =some (gJ s (i+j)):=by
 have e:l++r=l.take j++(l[j]::(l.drop (j+1)++r)):=by
  rw[<-agc, <-agy b, <-agr,agu]
 rw[e]at h
 have a:=h.gq
 rw[agl,agv (by omega)]at a
 obtain⟨c,d⟩:=a.head
 exact⟨c,by rw[d,bE b]⟩
theorem LO(p:Nat)(s:ByteArray)(i n:Nat)(C:n<64)(rs:List UInt8)(o:dA s i (eR n++rs))(V:s.size<=1000000)(T:sI rs)(R:aw):
    Spec prog 76 [pT p] R [dy p s i] λu H'=>∃T',H'=[T']/\u=.agg [.int .i64 2,.bool false,iN n,.string ⟨#[]⟩,sZ,sZ].toArray/\T'=dy p s (i+(eR n).length):=by
  obtain⟨a0,I,J⟩:=nC n C
  have m:=o.ext
  have F:=o.gq
  have H:=λj (K:j<(eR n).length)=>N6 o K
  have L:=F.len
  have S:∃c r,eR n++rs=c::r/\c≠45:=by
    cases e:eR n with
    |nil=>rw[e]at I;simp at I
    |cons c r=>
     refine⟨c,r++rs,rfl,λh9=>?_⟩
     have:=J c (by rw[e];simp)
     subst h9
     simp at this
  obtain⟨Z,r0,O,Q⟩:=S
  have U:(gb n)=⟨(eR n).toArray⟩:=rfl
  have D:=NB n C
  have x:=xz n C
  rw[<-U]at m
  generalize gb n=sn at *
  generalize eR n=l at *
  refine Spec.body func76 rfl results76 ntmps76 rfl ?_
  refine .sr ?_
  refine .bV (λM=>?_)
  refine .z<|.mo rfl<|.nc rfl<|.fa rfl<|.lo rfl<|.ag rfl<|.z<|.mo rfl ?_
  refine .cr (gC p s i ⟨#[45]⟩ _ o (by rw[O];exact gE (λe=>Q e.symm)) V (by decide) _) (λu W d=>?_)
  obtain⟨rfl,rfl⟩:=d
  refine .zs<|.block ?_
  refine .cL [(0,_),(2,_),(3,_)] (G:=[bl M [.int .i64 0,.bool false,.int .i64 0,.string ⟨#[]⟩,sZ,sZ] 42]) (X:=Nat) (λj=>j<=l.length) (λ_ E=>E) (λj G=>dy p s (i+j)::G) (λj=>l.length-j) 0 (agi _) kE.c.c.c (aQ [1,0]) ?_
  intro j K
  refine .seq<|.seq ?_
  refine .eo mixed (by kernel_rfl) ?_
  refine .mo rfl<|.nc rfl<|.fa rfl<|.lo rfl<|.mo rfl ?_
  refine .nc rfl<|.fa rfl<|.lo rfl<|.q .fw<|.q .lss<|.mo rfl ?_
  refine .split (t:=23) rfl (λb=>?_) (λb=>?_)
  have B:i+j<s.size:=by have:=cq b;omega
  have y:=ja B
  obtain⟨c,w⟩:∃c,c=gJ s (i+j):=⟨_,rfl⟩
  rw[<-w]at y
  have k:(j<l.length/\48<=c.toNat/\c.toNat<=57)\/(j=l.length/\¬(48<=c.toNat/\c.toNat<=57)):=by
    rcases ags j l.length with h9|h9
    ·left
     obtain⟨_,v⟩:=H j h9
     rw[<-w]at v
     exact⟨h9,J c (aV v)⟩
    ·right
     have:j=l.length:=by omega
     subst this
     refine⟨rfl,?_⟩
     cases e:rs with
     |nil=>rw[e]at L;simp at L;omega
     |cons c' r'=>
      rw[e]at F
      obtain⟨_,N⟩:=F.head
      rw[w,N]
      exact T c' r' e
  refine .gT b<|.mo rfl<|.gT b<|.nc rfl<|.gT b<|.fa rfl<|.gT b<|.lo rfl<|.gT b<|.mo rfl<|.gT b ?_
  refine .nc rfl<|.gT b<|.fa rfl<|.gT b<|.lo rfl<|.gT b ?_
  refine .q (.cast (.fv (i+j) B) (by rw[y])) ?_
  refine .gT b<|.q .geq<|.q (.aZ b) ?_
  refine .mo rfl ?_
  refine .split (t:=35) rfl (λa=>?_) (λa=>?_)
  refine .gT a<|.mo rfl<|.gT a<|.nc rfl<|.gT a<|.fa rfl<|.gT a<|.lo rfl<|.gT a<|.mo rfl<|.gT a ?_
  refine .nc rfl<|.gT a<|.fa rfl<|.gT a<|.lo rfl<|.gT a ?_
  refine .q (.cast (.fv (i+j) B) (by rw[y])) ?_
  refine .gT a<|.q .leq<|.q (.aZ a) ?_
  refine .zn ?_
  refine .cond rfl (λh=>?_) λh=>?_
  have f:j<l.length:=by
    rcases k with h9|h9
    ·exact h9.1
    ·exfalso
     have g:=cq a
     have Y:=cq h
     omega
  refine .kn<|.block<|.region<|.mo rfl<|.nc rfl<|.fa rfl<|.lo rfl ?_
  refine .ia (i+j+1) .add ?_
  refine .nc rfl<|.fa rfl<|.dH rfl rfl<|.nil<|bi ?_
  ·exact aW (j+1) f (by omega) kE.c.c.c rH
  have f:j=l.length:=by
    first
      |exact A
      |(rcases k with h9|h9
        ·exfalso
         first
           |(have g:=bC a;omega)
           |(have g:=bC h;omega)
        ·exact h9.1)
  subst f
  refine .exit<|bz<|bG<|bB<|ay<|.seq ?_
  refine .eo mixed (by kernel_rfl) ?_
  refine .mo rfl<|.nc rfl<|.fa rfl<|.lo rfl<|.mo rfl<|.mo rfl ?_
  refine .nc rfl<|.fa rfl<|.lo rfl ?_
  refine .q (.jK (s:=s) i (i+l.length) ⟨_,rfl⟩ ⟨_,rfl⟩ (by omega) (by omega)) ?_
  rw[m]
  refine .ag rfl<|.z<|.mo rfl ?_
  refine .aR (D _) (λu d=>?_)
  subst d
  refine .mo rfl<|.q .extract<|.q .extract<|.ag rfl<|.ag rfl<|.zs<|.sr<|.mo rfl<|.q (.pV (ut:=⟨underlying165⟩)) ?_
  refine .mo rfl<|.gt rfl ?_
  refine .mo rfl<|.gt rfl ?_
  refine .aR (x _) (λu d=>?_)
  subst d
  refine .gt rfl ?_
  refine .mo rfl<|.gt rfl ?_
  refine .q (.cast (v':=.bool false) .gd (by simp)) ?_
  refine .q .cb<|.mo rfl<|.gt rfl ?_
  refine .mo rfl<|.gt rfl ?_
  refine .q (.cast (v':=.bool false) .lss (by first|(simp;done)|(simp;omega))) ?_
  refine .q .cb<|.mo rfl<|.gt rfl ?_
  refine .mo rfl<|.gt rfl ?_
  refine .q (.cast (v':=.bool false) .gtr (by first|(simp;done)|(simp;omega))) ?_
  refine .q .cb<|.zn<|.bQ<|.kn<|.sr<|.mo rfl ?_
  refine .q .da ?_
  refine .bN rfl rfl<|.zn ?_
  refine .ret (bu _ (.one (.ei rfl rfl)) (.one [0] _) ?_)
  ·exact⟨_,rfl,rfl,rfl⟩
  refine .gF a<|.gF a<|.gF a<|.gF a<|.gF a<|.gF a<|.gF a<|.gF a<|.gF a<|.gF a<|.q (.aX a) ?_
  refine .zn<|.bQ ?_
  have f:j=l.length:=by
    first
      |exact A
      |(rcases k with h9|h9
        ·exfalso
         first
           |(have g:=bC a;omega)
           |(have g:=bC h;omega)
        ·exact h9.1)
  subst f
  refine .exit<|bz<|bG<|bB<|ay<|.seq ?_
  refine .eo mixed (by kernel_rfl) ?_
  refine .mo rfl<|.nc rfl<|.fa rfl<|.lo rfl<|.mo rfl<|.mo rfl ?_
  refine .nc rfl<|.fa rfl<|.lo rfl ?_
  refine .q (.jK (s:=s) i (i+l.length) ⟨_,rfl⟩ ⟨_,rfl⟩ (by omega) (by omega)) ?_
  rw[m]
  refine .ag rfl<|.z<|.mo rfl ?_
  refine .aR (D _) (λu d=>?_)
  subst d
  refine .mo rfl<|.q .extract<|.q .extract<|.ag rfl<|.ag rfl<|.zs<|.sr<|.mo rfl<|.q (.pV (ut:=⟨underlying165⟩)) ?_
  refine .mo rfl<|.gt rfl ?_
  refine .mo rfl<|.gt rfl ?_
  refine .aR (x _) (λu d=>?_)
  subst d
  refine .gt rfl ?_
  refine .mo rfl<|.gt rfl ?_
  refine .q (.cast (v':=.bool false) .gd (by simp)) ?_
  refine .q .cb<|.mo rfl<|.gt rfl ?_
  refine .mo rfl<|.gt rfl ?_
  refine .q (.cast (v':=.bool false) .lss (by first|(simp;done)|(simp;omega))) ?_
  refine .q .cb<|.mo rfl<|.gt rfl ?_
  refine .mo rfl<|.gt rfl ?_
  refine .q (.cast (v':=.bool false) .gtr (by first|(simp;done)|(simp;omega))) ?_
  refine .q .cb<|.zn<|.bQ<|.kn<|.sr<|.mo rfl ?_
  refine .q .da ?_
  refine .bN rfl rfl<|.zn ?_
  refine .ret (bu _ (.one (.ei rfl rfl)) (.one [0] _) ?_)
  ·exact⟨_,rfl,rfl,rfl⟩
  have A:j=l.length:=by
    have:=bC b
    rcases ags j l.length with h9|h9
    ·obtain⟨v,_⟩:=H j h9
     omega
    ·omega
  refine .gF b<|.gF b<|.gF b<|.gF b<|.gF b<|.gF b<|.gF b<|.gF b<|.gF b<|.gF b<|.q (.aX b) ?_
  refine .mo rfl<|.gX<|.gX<|.gX<|.gX<|.gX<|.gX<|.gX<|.gX<|.gX<|.gX<|.q .cb<|.zn<|.bQ ?_
  have f:j=l.length:=by
    first
      |exact A
      |(rcases k with h9|h9
        ·exfalso
         first
           |(have g:=bC a;omega)
           |(have g:=bC h;omega)
        ·exact h9.1)
  subst f
  refine .exit<|bz<|bG<|bB<|ay<|.seq ?_
  refine .eo mixed (by kernel_rfl) ?_
  refine .mo rfl<|.nc rfl<|.fa rfl<|.lo rfl<|.mo rfl<|.mo rfl ?_
  refine .nc rfl<|.fa rfl<|.lo rfl ?_
  refine .q (.jK (s:=s) i (i+l.length) ⟨_,rfl⟩ ⟨_,rfl⟩ (by omega) (by omega)) ?_
  rw[m]
  refine .ag rfl<|.z<|.mo rfl ?_
  refine .aR (D _) (λu d=>?_)
  subst d
  refine .mo rfl<|.q .extract<|.q .extract<|.ag rfl<|.ag rfl<|.zs<|.sr<|.mo rfl<|.q (.pV (ut:=⟨underlying165⟩)) ?_
  refine .mo rfl<|.gt rfl ?_
  refine .mo rfl<|.gt rfl ?_
  refine .aR (x _) (λu d=>?_)
  subst d
  refine .gt rfl ?_
  refine .mo rfl<|.gt rfl ?_
  refine .q (.cast (v':=.bool false) .gd (by simp)) ?_
  refine .q .cb<|.mo rfl<|.gt rfl ?_
  refine .mo rfl<|.gt rfl ?_
  refine .q (.cast (v':=.bool false) .lss (by first|(simp;done)|(simp;omega))) ?_
  refine .q .cb<|.mo rfl<|.gt rfl ?_
  refine .mo rfl<|.gt rfl ?_
  refine .q (.cast (v':=.bool false) .gtr (by first|(simp;done)|(simp;omega))) ?_
  refine .q .cb<|.zn<|.bQ<|.kn<|.sr<|.mo rfl ?_
  refine .q .da ?_
  refine .bN rfl rfl<|.zn ?_
  refine .ret (bu _ (.one (.ei rfl rfl)) (.one [0] _) ?_)
  ·exact⟨_,rfl,rfl,rfl⟩
theorem LJ(p:Nat)(s:ByteArray)(i:Nat)(a:UInt8)(g:lH a=false)(rs:List UInt8)(d:dA s i (a::rs))(f:s.size<=1000000)(first:Bool)(R:aw):
  Spec prog 118 [pT p,.string ⟨#[a]⟩,.bool first] R [dy p s i] λu H'=>∃T',H'=[T']/\u=.bool true/\T'=dy p s (i+1):=by
 refine Spec.body func118 rfl results118 ntmps118 rfl ?_
 refine .sr<|.ag rfl<|.z<|.mo rfl ?_
 refine .cr (kJ p s i _ d f (λc l e=>by cases e;exact g) _) (λu h b=>?_)
 subst b
 refine .zs<|.block<|.sr<|.mo rfl<|.nc rfl<|.fa rfl<|.lo rfl<|.q (.cast (v':=.bool false) .not rfl) ?_
 refine .mo rfl<|.gt rfl ?_
 refine .mo rfl<|.gt rfl ?_
 refine .mo rfl<|.gt rfl ?_
 refine .cr (m2 p s i ⟨#[a]⟩ rs d f (show 1<=1000000 by decide) _) (λu j b=>?_)
 obtain⟨rfl,rfl⟩:=b
 refine .q .cb<|.az rfl<|.eQ<|.sr<|.az rfl ?_
 refine .ret (bf (aI (bu _ (.one (.tmp rfl)) (.one [0] _) ?_)))
 ·exact⟨_,rfl,rfl,rfl⟩
theorem LH(p:Nat)(s:ByteArray)(i:Nat)(a c:UInt8)(g:lH c=false)(h:c≠a)(rs:List UInt8)(d:dA s i (c::rs))(f:s.size<=1000000)(R:aw):
  Spec prog 118 [pT p,.string ⟨#[a]⟩,.bool true] R [dy p s i] λu H'=>∃T',H'=[T']/\u=.bool false/\T'=dy p s i:=by
 refine Spec.body func118 rfl results118 ntmps118 rfl ?_
 refine .sr<|.ag rfl<|.z<|.mo rfl ?_
 refine .cr (kJ p s i _ d f (λm l e=>by cases e;exact g) _) (λu j b=>?_)
 subst b
 refine .zs<|.block<|.sr<|.mo rfl<|.nc rfl<|.fa rfl<|.lo rfl<|.q (.cast (v':=.bool false) .not rfl) ?_
 refine .mo rfl<|.gt rfl ?_
 refine .mo rfl<|.gt rfl ?_
 refine .mo rfl<|.gt rfl ?_
 refine .cr (gC p s i ⟨#[a]⟩ _ d (gE (λe=>h e.symm)) f (show 1<=1000000 by decide) _) (λu k b=>?_)
 obtain⟨rfl,rfl⟩:=b
 refine .q .cb<|.az rfl<|.bQ<|.sr<|.mo rfl<|.q (.cast (v':=.bool false) .not rfl) ?_
 refine .mo rfl<|.gX<|.gX<|.gX<|.q .cb<|.az rfl<|.bQ<|.skip<|bi<|ay<|.sr<|.az rfl ?_
 refine .ret (bu _ (.one (.tmp rfl)) (.one [0] _) ?_)
 ·exact⟨_,rfl,rfl,rfl⟩
theorem LI(p:Nat)(s:ByteArray)(i:Nat)(b:UInt8)(g:44≠b)(rs:List UInt8)(c:dA s i (44::rs))(d:s.size<=1000000)(R:aw):
  Spec prog 118 [pT p,.string ⟨#[b]⟩,.bool false] R [dy p s i] λu H'=>∃T',H'=[T']/\u=.bool false/\T'=dy p s (i+1):=by
 refine Spec.body func118 rfl results118 ntmps118 rfl ?_
 refine .sr<|.ag rfl<|.z<|.mo rfl ?_
 refine .cr (kJ p s i _ c d (λj l e=>by cases e;decide) _) (λu h a=>?_)
 subst a
 refine .zs<|.block<|.sr<|.mo rfl<|.nc rfl<|.fa rfl<|.lo rfl<|.q (.cast (v':=.bool false) .not rfl) ?_
 refine .mo rfl<|.gt rfl ?_
 refine .mo rfl<|.gt rfl ?_
 refine .mo rfl<|.gt rfl ?_
 refine .cr (gC p s i ⟨#[b]⟩ _ c (gE (λe=>g e.symm)) d (show 1<=1000000 by decide) _) (λu f a=>?_)
 obtain⟨rfl,rfl⟩:=a
 refine .q .cb<|.az rfl<|.bQ<|.sr<|.mo rfl<|.q (.cast (v':=.bool true) .not rfl) ?_
 refine .mo rfl<|.gt rfl ?_
 refine .mo rfl<|.gt rfl ?_
 refine .cr (m2 p s i ⟨#[44]⟩ rs c d (by decide) _) (λu f a=>?_)
 obtain⟨rfl,rfl⟩:=a
 refine .gt rfl ?_
 refine .q .not<|.q .ca<|.az rfl<|.bQ<|.skip<|bi<|ay<|.sr<|.az rfl ?_
 refine .ret (bu _ (.one (.tmp rfl)) (.one [0] _) ?_)
 ·exact⟨_,rfl,rfl,rfl⟩
theorem RS.mC{α:Type}{R:aw}{sz:Nat}{enc:α->List Value}:RS R sz enc (sZ) ([]:List α):=(OS.nil (E:=0) (sz:=sz) (enc:=enc)).rs λp a=>(by cases a)
theorem xR(xs:List (List UInt8))(k:Nat):cP xs=cP (xs.take k)++hM xs k:=by
 cases k with
 |zero=>simp[cP,hM]
 |succ k=>
  cases xs with
  |nil=>simp[cP,hM]
  |cons x xs=>
   unfold hM
   rw[agb (Nat.succ_ne_zero k)]
   simp only[List.take_succ_cons,List.drop_succ_cons,cP,agr]
   rw[<-List.flatMap_append,agu]
theorem Lm{c:UInt8}(h:my c=true):lH c=false:=by
 have e:∀k:Fin 256,my (UInt8.ofNat k.val)=true->lH (UInt8.ofNat k.val)=false:=by decide+kernel
 have a:=e ⟨c.toNat,c.toNat_lt⟩
 simp only[UInt8.ofNat_toNat]at a
 exact a h
theorem Ll{c:UInt8}(h:my c=true):c≠93/\c≠125/\c≠44/\c≠110/\c≠58:=by
 refine⟨?_,?_,?_,?_,?_⟩<;>(intro e;subst e;revert h;decide)
def AD(s:ByteArray)(items:List (List UInt8))(cl:UInt8)(rs:List UInt8)(k i:Nat)(e:Bool)(i':Nat):Prop:=
 (e=true/\k=items.length/\i'=i+1)\/(e=false/\k<items.length/\∃y,items[k]? =some y/\i'=i+(if k=0 then 0 else 1)/\dA s i' (y++(hM items (k+1)++cl::rs)))
theorem xJ(p:Nat)(s:ByteArray)(i k:Nat)(b:List (List UInt8))(a:UInt8)(n:a=93\/a=125)(rs:List UInt8)(d:dA s i (hM b k++a::rs))(o:s.size<=1000000)(A:k<=b.length)(z:∀y∈b,∃c r,y=c::r/\my c=true)(R:aw):
  Spec prog 118 [pT p,.string ⟨#[a]⟩,.bool (decide (k=0))] R [dy p s i] λu H'=>∃T',H'=[T']/\∃e i',u=.bool e/\T'=dy p s i'/\AD s b a rs k i e i':=by
 have v:lH a=false:=by rcases n with rfl|rfl<;>decide
 have t:(44:UInt8)≠a:=by rcases n with rfl|rfl<;>decide
 rcases ags k b.length with hlt|hge
 ·obtain⟨y,l⟩:=cm hlt
  obtain⟨c,r,rfl,q⟩:=z y (aV l)
  obtain⟨B,C,D,_⟩:=Ll q
  rw[N8 l]at d
  by_cases m:k=0
  ·subst m
   simp only[if_true]at d
   have w:c≠a:=by rcases n with rfl|rfl<;>assumption
   have j:dA s i (c::(r++(hM b 1++a::rs))):=by simpa using d
   exact(LH p s i a c (Lm q) w _ j o R).mono λu H' ⟨T',f,g,h⟩=>⟨T',f,false,i,g,h,.inr ⟨rfl,hlt,_,l,rfl,by simpa using j⟩⟩
  ·simp only[m,if_false,decide_false]at d⊢
   have j:dA s i (44::(c::(r++(hM b (k+1)++a::rs)))):=by simpa using d
   exact(LI p s i a t _ j o R).mono λu H' ⟨T',f,g,h⟩=>⟨T',f,false,i+1,g,h,.inr ⟨rfl,hlt,_,l,by rw[agb m],by simpa using j.tail⟩⟩
 ·have x:k=b.length:=by omega
  rw[N7 hge]at d
  exact(LJ p s i a v rs d o _ R).mono λu H' ⟨T',f,g,h⟩=>⟨T',f,true,i+1,g,h,.inl ⟨rfl,x,rfl⟩⟩
def qo(r:List UInt8):Prop:=∀c l,r=c::l->c=44\/c=93\/c=125
theorem qo.mm{r:List UInt8}(h:qo r):sI r:=λc l e=>by
 rcases h c l e with rfl|rfl|rfl<;>decide
theorem qR{b:List (List UInt8)}{k:Nat}{a:UInt8}(d:a=93\/a=125){rs:List UInt8}:qo (hM b (k+1)++a::rs):=λc l e=>by
 unfold hM at e
 rw[agb (Nat.succ_ne_zero k)]at e
 cases hd:b.drop (k+1)with
 |nil=>
  rw[hd]at e
  simp at e
  rcases d with rfl|rfl
  ·exact .inr (.inl e.1.symm)
  ·exact .inr (.inr e.1.symm)
 |cons y ys=>
  rw[hd]at e
  simp at e
  exact .inl e.1.symm
def nv(d:Nat):Prop:=∀(p:Nat) (s:ByteArray) (i:Nat) (j:J) (rs:List UInt8) (R:aw),dA s i (pJ d j++rs)->dF d j->qo rs->s.size<=1000000->
 Spec prog 29 [pT p,iN d] R [dy p s i] λu H'=>∃T' Td,H'=[T',Td]/\∃cs,u=.agg cs.toArray/\T'=dy p s (i+(pJ d j).length)/\di (sg Td) cs j
theorem LN(d:Nat)(hd:d<=1000)(V:nv d)(p:Nat)(s:ByteArray)(i:Nat)(l:List J)(rs:List UInt8)(R:aw)(Q:dA s i (cP (l.map (pJ d))++93::rs))(hl:∀x∈l,dF d x)(hs:s.size<=1000000):
  Spec prog 74 [pT p,.int .i64 ((d+1:Nat):Int)] R [dy p s i] λu H'=>∃T' Td,H'=[T',Td]/\∃cs,u=.agg cs.toArray/\T'=dy p s (i+((cP (l.map (pJ d))).length+1))/\di (sg Td) cs (eE l):=by
 obtain⟨j,O⟩:∃j,j=l.map (pJ d):=⟨_,rfl⟩
 rw[<-O]at Q⊢
 have a9:j.length=l.length:=by rw[O];simp
 have hh:∀y∈j,∃c r,y=c::r/\my c=true:=λy n=>by
  rw[O]at n
  obtain⟨x,S,rfl⟩:=agm.1 n
  exact Nx (hl x S)
 have a3:=Q.len
 have b9:l.length<=1000000:=by
  have T:j.length<=(cP j).length:=by
   clear Q a3 a9 O
   cases j with
   |nil=>simp
   |cons y ys=>
    obtain⟨c,r,e,_⟩:=hh y (by simp)
    have h2:ys.length<=(ys.flatMap λz=>(44:UInt8)::z).length:=by
     clear hh e
     induction ys with
     |nil=>simp
     |cons z zs ih=>simp only[List.flatMap_cons,af8,aga];omega
    subst e
    simp only[cP,af8,aga]
    omega
  rw[af8]at a3
  omega
 refine Spec.body func74 rfl results74 ntmps74 rfl ?_
 refine .sr ?_
 refine .bV (λb4=>?_)
 refine .z ?_
 refine .q .da ?_
 refine .bV (λb5=>?_)
 refine .bN rfl rfl<|.zs<|.block ?_
 refine .cL [(0,_),(1,_),(4,_),(5,_)] (G:=[]) (X:=Nat×List JP×Value×(aH×aH)) (λy=>y.1<=l.length/\y.2.1.map (·.2)=l.take y.1/\OS 42 6 iE y.2.2.1 y.2.1 y.2.2.2.1/\(∀q∈y.2.1,di (sg y.2.2.2.2) q.1 q.2)) (λ_ E=>E) (λy _=>[dy p s (i+(cP (j.take y.1)).length),y.2.2.2.1,y.2.2.2.2,bl b5 [.int .i64 4,.bool false,.int .i64 0,.string ⟨#[]⟩,y.2.2.1,sZ] 42,bl b4 [.int .i64 0,.bool false,.int .i64 0,.string ⟨#[]⟩,sZ,sZ] 42]) (λy=>l.length-y.1) (0,[],sZ,([],[])) ⟨agi _,rfl,OS.nil,λq hq=>(by cases hq)⟩ kE.c.c.c.c (bp.iG.trans (aQ [4,0,0,0,0])) ?_
 rintro⟨k,L,vL,⟨To,Td⟩⟩ ⟨hk,U,M,Z⟩
 simp only at hk U M Z⊢
 have io:=M.aq
 have a8:L.length=k:=by have:=af9 List.length U;simpa[agv hk]using this
 have b1:dA s (i+(cP (j.take k)).length) (hM j k++93::rs):=by
  rw[xR j k,agr]at Q
  exact Q.gq
 refine .seq<|.sr<|.mo rfl<|.fa rfl<|.lo rfl<|.q (.fD M) ?_
 refine .q (.cast (v':=.bool (decide (k=0))) .bw (af9 Value.bool (by rw[a8,Bool.eq_iff_iff,beq_iff_eq,agp];omega))) ?_
 refine .cr (R:=R) (xJ p s _ k j 93 (.inl rfl) rs b1 hs (by omega) hh R) (λu T2 v=>?_)
 obtain⟨e,Y,rfl,rfl,hE⟩:=v
 refine .q .not<|.zn ?_
 refine .cond rfl (λT=>?_) λT=>?_
 have he:e=false:=by simpa using T
 obtain⟨_,c0,y,n,W,a6⟩:=hE.resolve_left (λh=>by rw[he]at h;exact absurd h.1 (by simp))
 obtain⟨x,S⟩:∃x,l[k]? =some x:=⟨_,bE (by omega)⟩
 have b6:y=pJ d x:=by rw[O,List.getElem?_map,S]at n;exact(Option.some.inj n).symm
 subst b6
 have a2:=hl x (aV S)
 have a4:i+(cP (j.take (k+1))).length=Y+(pJ d x).length:=by
  rw[agf,n]
  show i+(cP (j.take k++[pJ d x])).length=_
  rw[tE,af8,W]
  by_cases h0:k=0
  ·subst h0;simp[cP]
  ·have b0:¬j.take k=[]:=λe=>by
    have h9:=af9 List.length e
    rw[agl,age]at h9
    omega
   rw[agb b0,agb h0,aga]
   omega
 have b2:l.take (k+1)=l.take k++[x]:=by rw[agf,S];rfl
 refine .kn<|.block ?_
 refine bF.dt [(0,_),(1,_),(4,_),(5,_)] kE.c.c.c.c (X:=JP×Value×(aH×aH×aH)) (λy=>y.2.2.1=dy p s (i+(cP (j.take (k+1))).length)/\OS 42 6 iE y.2.1 (L++[y.1]) y.2.2.2.1/\di (sg y.2.2.2.2) y.1.1 y.1.2/\y.1.2=x) (λ_ E=>E) (λy=>[y.2.2.1,y.2.2.2.1,y.2.2.2.2,Td,bl b5 [.int .i64 4,.bool false,.int .i64 0,.string ⟨#[]⟩,y.2.1,sZ] 42,bl b4 [.int .i64 0,.bool false,.int .i64 0,.string ⟨#[]⟩,sZ,sZ] 42]) ?_ ?_
 refine .dg [5,7,9] mixed ?_
 refine .tK 0 rfl (.gA rfl) ?_
 refine .tO 2 rfl .move<|.tO 3 rfl .move ?_
 refine .hZ 4 rfl (.i64 ((d:Nat):Int) .sub ⟨by omega,by omega,by omega⟩) (by kernel_rfl) ?_
 refine RA.kR 1 5 rfl rfl (by kernel_rfl) rfl ?_ ?_
 refine .lo rfl ?_
 refine .nil (Next.sub ?_)
 refine .sT 5 rfl ?_
 refine .call [0] ((V p s Y x _ R a6 a2 (qR (.inl rfl)) hs).weaken cZ) (λu H' v=>?_)
 obtain⟨T4,K,rfl,cs,rfl,rfl,m⟩:=v
 rw[<-a4]
 have b7:bZ cs:=⟨m.cN⟩
 obtain⟨B,C,D,F,H,I,rfl⟩:∃a b c d f g,cs=[a,b,c,d,f,g]:=nh (by cases m;rfl)
 conv=>arg 8;simp only[rest,bK,agc,agd]
 refine .nil (Next.mod rfl ?_)
 refine .sT 6 rfl ?_
 refine .ez (λa0=>?_)
 refine .nil (Next.mod rfl ?_)
 refine .sT 7 rfl ?_
 refine .append M (RS.lits (xs:=[(([B,C,D,F,H,I],x):JP)]) rfl (by simp[iE]) (λy n u v=>by rw[agh]at n;subst n;exact m.cN u v)) (by simp only[agn];omega) (λA w t=>?_)
 have i5:=t.aq
 refine .nil (Next.mod rfl ?_)
 refine .tK 8 rfl (.gA rfl) ?_
 refine .sT 9 rfl ?_
 refine .dH rfl rfl ?_
 refine .nil (Next.mod rfl ?_)
 refine RA.nil (by kernel_rfl) ?_
 ·first
   |exact aG (([B,C,D,F,H,I],x),A,(_,w,K)) ⟨rfl,t,m,rfl⟩ ((((kE.d rfl).d rfl).d rfl).d rfl) (aQ [1,2,1,1,1,1])
   |exact aG (([B,C,D,F,H,I],x),A,(_,w,K)) ⟨rfl,t,m,rfl⟩ ((((kE.d rfl).d rfl).d rfl).d rfl) (aQ [0,1,0,0,0,0])
 refine .call [0] ((V p s Y x _ R a6 a2 (qR (.inl rfl)) hs).weaken cZ) (λu H' v=>?_)
 obtain⟨T4,K,rfl,cs,rfl,rfl,m⟩:=v
 rw[<-a4]
 have b7:bZ cs:=⟨m.cN⟩
 obtain⟨B,C,D,F,H,I,rfl⟩:∃a b c d f g,cs=[a,b,c,d,f,g]:=nh (by cases m;rfl)
 conv=>arg 8;simp only[rest,bK,agc,agd]
 refine .nil (Next.mod rfl ?_)
 refine RA.kR 1 6 rfl rfl (by kernel_rfl) rfl ?_ ?_
 refine .lo rfl ?_
 refine .nil (Next.mod rfl ?_)
 refine .sT 6 rfl ?_
 refine .ez (λa0=>?_)
 refine .nil (Next.mod rfl ?_)
 refine .sT 7 rfl ?_
 refine .append M (RS.lits (xs:=[(([B,C,D,F,H,I],x):JP)]) rfl (by simp[iE]) (λy n u v=>by rw[agh]at n;subst n;exact m.cN u v)) (by simp only[agn];omega) (λA w t=>?_)
 have i5:=t.aq
 refine .nil (Next.mod rfl ?_)
 refine .tK 8 rfl (.gA rfl) ?_
 refine .sT 9 rfl ?_
 refine .dH rfl rfl ?_
 refine .nil (Next.mod rfl ?_)
 refine RA.nil (by kernel_rfl) ?_
 ·first
   |exact aG (([B,C,D,F,H,I],x),A,(_,w,K)) ⟨rfl,t,m,rfl⟩ ((((kE.d rfl).d rfl).d rfl).d rfl) (aQ [1,2,1,1,1,1])
   |exact aG (([B,C,D,F,H,I],x),A,(_,w,K)) ⟨rfl,t,m,rfl⟩ ((((kE.d rfl).d rfl).d rfl).d rfl) (aQ [0,1,0,0,0,0])
 refine .ez (λa0=>?_)
 refine .nil (Next.mod rfl ?_)
 refine .sT 1 rfl ?_
 refine .lo rfl ?_
 refine .nil (Next.mod rfl ?_)
 refine .sT 7 rfl ?_
 refine .append M (RS.lits (xs:=[(([B,C,D,F,H,I],x):JP)]) rfl (by simp[iE]) (λy n u v=>by rw[agh]at n;subst n;exact m.cN u v)) (by simp only[agn];omega) (λA w t=>?_)
 have i5:=t.aq
 refine .nil (Next.mod rfl ?_)
 refine .tK 8 rfl (.gA rfl) ?_
 refine .sT 9 rfl ?_
 refine .dH rfl rfl ?_
 refine .nil (Next.mod rfl ?_)
 refine RA.nil (by kernel_rfl) ?_
 ·first
   |exact aG (([B,C,D,F,H,I],x),A,(_,w,K)) ⟨rfl,t,m,rfl⟩ ((((kE.d rfl).d rfl).d rfl).d rfl) (aQ [1,2,1,1,1,1])
   |exact aG (([B,C,D,F,H,I],x),A,(_,w,K)) ⟨rfl,t,m,rfl⟩ ((((kE.d rfl).d rfl).d rfl).d rfl) (aQ [0,1,0,0,0,0])
 intro y n
 obtain⟨r,A,⟨T4,w,K⟩⟩:=y
 obtain⟨a1,t,m,a5⟩:=n
 simp only at a1 t m a5⊢
 subst a1
 refine bi ?_
 ·exact aW (k+1,L++[r],A,(w,K++Td)) ⟨by simp only;omega,by simp only;rw[List.map_append,b2,U, <-a5];rfl,t,λq hq=>by
   rcases ago.1 hq with hq|hq
   ·exact(Z q hq).mono λb o N=>gh N
   ·rw[agh]at hq
    subst hq
    exact m.mono λb o N=>hU N⟩ (by simp only;omega) kE.c.c.c.c (bp.eu (by simp))
 have he:e=true:=by simpa using T
 obtain⟨_,b8,W⟩:=hE.resolve_right (λh=>by rw[he]at h;exact absurd h.1 (by simp))
 have b3:j.take k=j:=agk (by omega)
 rw[b3]at W
 have a7:L.map (·.2)=l:=by rw[U];exact agk (by omega)
 refine .exit<|bz<|bG<|bB<|ay<|.sr<|.q (.aP rfl)<|.bN rfl rfl<|.zn ?_
 refine .ret (bu _ (.one (.ei rfl rfl)) ((aQ [0,0,0]).trans (bp.eu (H':=[dy p s Y,To++Td]) (by simp[take,bK]))) ?_)
 ·exact⟨_,_,rfl,_,rfl,by rw[W];rfl,a7▸ .mk (l:=L) (M.sg.mono λb o N=>hU N) RS.mC λq hq=>(Z q hq).mono λb o N=>gh N⟩
theorem L3(d:Nat)(hd:d<=1000)(V:nv d)(p:Nat)(s:ByteArray)(i:Nat)(l:List J)(ks:List ByteArray)(rs:List UInt8)(R:aw)(W:dA s i (cP ((ks.zip l).map λp=>dX p.1++58::pJ d p.2)++125::rs))(hl:∀x∈l,dF d x)(c2:∀t∈ks,dm t)(c1:ks.Nodup)(c0:ks.length=l.length)(Q:s.size<=1000000):
  Spec prog 75 [pT p,.int .i64 ((d+1:Nat):Int)] R [dy p s i] λu H'=>∃T' Td,H'=[T',Td]/\∃cs,u=.agg cs.toArray/\T'=dy p s (i+((cP ((ks.zip l).map λp=>dX p.1++58::pJ d p.2)).length+1))/\di (sg Td) cs (iF ks l):=by
 obtain⟨m,U⟩:∃m,m=(ks.zip l).map (λp=>dX p.1++58::pJ d p.2):=⟨_,rfl⟩
 rw[<-U]at W⊢
 have b9:m.length=l.length:=by rw[U];simp[c0]
 have hh:∀y∈m,∃c r,y=c::r/\my c=true:=λy v=>by
  rw[U]at v
  obtain⟨x,hx,rfl⟩:=agm.1 v
  exact⟨34,_,rfl,by decide⟩
 have a8:=W.len
 have d6:l.length<=1000000:=by
  have Y:m.length<=(cP m).length:=by
   clear W a8 b9 U
   cases m with
   |nil=>simp
   |cons y ys=>
    obtain⟨c,r,e,_⟩:=hh y (by simp)
    have h2:ys.length<=(ys.flatMap λz=>(44:UInt8)::z).length:=by
     clear hh e
     induction ys with
     |nil=>simp
     |cons z zs ih=>simp only[List.flatMap_cons,af8,aga];omega
    subst e
    simp only[cP,af8,aga]
    omega
  rw[af8]at a8
  omega
 refine Spec.body func75 rfl results75 ntmps75 rfl ?_
 refine .sr ?_
 refine .bV (λb4=>?_)
 refine .z ?_
 refine .q .da ?_
 refine .bV (λb5=>?_)
 refine .bN rfl rfl<|.zs<|.block ?_
 refine .cL [(0,_),(1,_),(4,_),(5,_)] (G:=[]) (X:=Nat×List JP×Value×Value×(aH×aH×aH)) (λy=>y.1<=l.length/\y.2.1.map (·.2)=l.take y.1/\OS 42 6 iE y.2.2.1 y.2.1 y.2.2.2.2.1/\OS 9 1 dV y.2.2.2.1 (ks.take y.1) y.2.2.2.2.2.1/\(∀q∈y.2.1,di (sg y.2.2.2.2.2.2) q.1 q.2)) (λ_ E=>E) (λy _=>[dy p s (i+(cP (m.take y.1)).length),y.2.2.2.2.1,y.2.2.2.2.2.1,y.2.2.2.2.2.2,bl b5 [.int .i64 5,.bool false,.int .i64 0,.string ⟨#[]⟩,y.2.2.1,y.2.2.2.1] 42,bl b4 [.int .i64 0,.bool false,.int .i64 0,.string ⟨#[]⟩,sZ,sZ] 42]) (λy=>l.length-y.1) (0,[],sZ,sZ,([],[],[])) ⟨agi _,rfl,OS.nil,OS.nil,λq hq=>(by cases hq)⟩ kE.c.c.c.c (bp.iG.trans (bp.jT.trans (aQ [5,0,0,0,0,0]))) ?_
 rintro⟨k,L,vL,vK,⟨To,Tk,Td⟩⟩ ⟨hk,hL,O,T,hA⟩
 simp only at hk hL O T hA⊢
 have io:=O.aq
 have iK:=T.aq
 have b7:L.length=k:=by have:=af9 List.length hL;simpa[agv hk]using this
 have c7:dA s (i+(cP (m.take k)).length) (hM m k++125::rs):=by
  rw[xR m k,agr]at W
  exact W.gq
 refine .seq<|.sr<|.mo rfl<|.fa rfl<|.lo rfl<|.q (.fD O) ?_
 refine .q (.cast (v':=.bool (decide (k=0))) .bw (af9 Value.bool (by rw[b7,Bool.eq_iff_iff,beq_iff_eq,agp];omega))) ?_
 refine .cr (R:=R) (xJ p s _ k m 125 (.inr rfl) rs c7 Q (by omega) hh R) (λu T2 j=>?_)
 obtain⟨e,S,rfl,rfl,hE⟩:=j
 refine .q .not<|.zn ?_
 refine .cond rfl (λY=>?_) λY=>?_
 have he:e=false:=by simpa using Y
 obtain⟨_,d7,y,v,a0,c8⟩:=hE.resolve_left (λh=>by rw[he]at h;exact absurd h.1 (by simp))
 obtain⟨x,hx⟩:∃x,l[k]? =some x:=⟨_,bE (by omega)⟩
 obtain⟨t,ht⟩:∃t,ks[k]? =some t:=⟨_,bE (by omega)⟩
 have c6:=c2 t (aV ht)
 have d2:y=dX t++58::pJ d x:=by
  rw[U,List.getElem?_map,(List.getElem?_zip_eq_some (z:=(t,x))).2 ⟨ht,hx⟩]at v
  exact(Option.some.inj v).symm
 subst d2
 have c5:=oJ t
 have a2:dA s S (dX t++(58::(pJ d x++(hM m (k+1)++125::rs)))):=by simpa using c8
 have a3:=a2.gq
 have b1:=a3.tail
 have c4:t∉ks.take k:=λh=>by
  have Z:(ks.take (k+1)).Nodup:=List.Sublist.nodup (List.take_sublist _ _) c1
  rw[agf,ht,List.nodup_append]at Z
  exact Z.2.2 t h t (by simp) rfl
 have d0:ks.take (k+1)=ks.take k++[t]:=by rw[agf,ht];rfl
 have b8:vg (dX t++(58::(pJ d x++(hM m (k+1)++125::rs)))):=λc l e=>by
  have:c=34:=by simp[dX]at e;exact e.1.symm
  subst this;decide
 have a7:=hl x (aV hx)
 have a9:i+(cP (m.take (k+1))).length=S+(dX t).length+1+(pJ d x).length:=by
  rw[agf,v]
  show i+(cP (m.take k++[dX t++58::pJ d x])).length=_
  rw[tE,af8,a0]
  by_cases h0:k=0
  ·subst h0;simp[cP];omega
  ·have c3:¬m.take k=[]:=λe=>by
    have Z:=af9 List.length e
    rw[agl,age]at Z
    omega
   rw[agb c3,agb h0,aga,af8,aga]
   omega
 have c9:l.take (k+1)=l.take k++[x]:=by rw[agf,hx];rfl
 refine .kn<|.block<|.sr<|.mo rfl ?_
 refine .cr (kJ p s S _ a2 Q b8 R) (λu T3 j=>?_)
 subst j
 refine .z<|.mo rfl ?_
 refine .cr (xX p s S t _ a2 Q c6 R) (λu T4 j=>?_)
 obtain⟨rfl,rfl⟩:=j
 rw[<-c5]
 refine .ag rfl<|.z<|.mo rfl ?_
 refine .cr (kJ p s _ _ a3 Q (λc l e=>by cases e;decide) R) (λu A j=>?_)
 subst j
 refine .zs<|.sr<|.mo rfl ?_
 refine .cr (m2 p s _ ⟨#[58]⟩ _ a3 Q (by decide) R) (λu T6 j=>?_)
 obtain⟨rfl,rfl⟩:=j
 refine .q .not<|.mo rfl<|.gt rfl ?_
 refine .fa rfl<|.gt rfl ?_
 refine .lo rfl<|.gt rfl ?_
 refine .mo rfl<|.gt rfl ?_
 refine .aR (Pa vK (ks.take k) t _ T.rx) (λu j=>?_)
 rw[decide_eq_false c4]at j
 subst j
 refine .q .cb<|.zn<|.bQ<|.kn<|.sr<|.fa rfl<|.lo rfl<|.mo rfl ?_
 refine .jB (λd4=>?_)
 refine .append T (RS.lits (xs:=[t]) rfl (by simp[dV]) (by simp[dV,aq])) (by simp only[agn,agl];omega) (λb2 a4 a1=>?_)
 have d8:=a1.aq
 rw[<-d0]at a1
 refine .fa rfl<|.dH rfl rfl<|.zn ?_
 refine bF.dt [(0,_),(1,_),(4,_),(5,_)] kE.c.c.c.c (X:=JP×Value×(aH×aH×aH)) (λy=>y.2.2.1=dy p s (i+(cP (m.take (k+1))).length)/\OS 42 6 iE y.2.1 (L++[y.1]) y.2.2.2.1/\di (sg y.2.2.2.2) y.1.1 y.1.2/\y.1.2=x) (λ_ E=>E) (λy=>[y.2.2.1,y.2.2.2.1,y.2.2.2.2,a4,Td,bl b5 [.int .i64 5,.bool false,.int .i64 0,.string ⟨#[]⟩,y.2.1,b2] 42,bl b4 [.int .i64 0,.bool false,.int .i64 0,.string ⟨#[]⟩,sZ,sZ] 42]) ?_ ?_
 refine .dg [5,7,9] mixed ?_
 refine .tK 0 rfl (.gA rfl) ?_
 refine .tO 2 rfl .move<|.tO 3 rfl .move ?_
 refine .hZ 4 rfl (.i64 ((d:Nat):Int) .sub ⟨by omega,by omega,by omega⟩) (by kernel_rfl) ?_
 refine RA.kR 1 5 rfl rfl (by kernel_rfl) rfl ?_ ?_
 refine .lo rfl ?_
 refine .nil (Next.sub ?_)
 refine .sT 5 rfl ?_
 refine .call [1] ((V p s (S+(dX t).length+1) x _ R b1 a7 (qR (.inr rfl)) Q).weaken cZ) (λu H' j=>?_)
 obtain⟨T4,M,rfl,cs,rfl,rfl,n⟩:=j
 rw[<-a9]
 have d3:bZ cs:=⟨n.cN⟩
 obtain⟨C,D,F,H,I,K,rfl⟩:∃a b c d f g,cs=[a,b,c,d,f,g]:=nh (by cases n;rfl)
 conv=>arg 8;simp only[rest,bK,agc,agd]
 refine .nil (Next.mod rfl ?_)
 refine .sT 6 rfl ?_
 refine .ez (λa5=>?_)
 refine .nil (Next.mod rfl ?_)
 refine .sT 7 rfl ?_
 refine .append O (RS.lits (xs:=[(([C,D,F,H,I,K],x):JP)]) rfl (by simp[iE]) (λy v u j=>by rw[agh]at v;subst v;exact n.cN u j)) (by simp only[agn];omega) (λB A w=>?_)
 have i5:=w.aq
 refine .nil (Next.mod rfl ?_)
 refine .tK 8 rfl (.gA rfl) ?_
 refine .sT 9 rfl ?_
 refine .dH rfl rfl ?_
 refine .nil (Next.mod rfl ?_)
 refine RA.nil (by kernel_rfl) ?_
 ·first
   |exact aG (([C,D,F,H,I,K],x),B,(_,A,M)) ⟨rfl,w,n,rfl⟩ ((((kE.d rfl).d rfl).d rfl).d rfl) (aQ [1,3,1,2,2,2,2])
   |exact aG (([C,D,F,H,I,K],x),B,(_,A,M)) ⟨rfl,w,n,rfl⟩ ((((kE.d rfl).d rfl).d rfl).d rfl) (aQ [0,1,0,0,0,0,0])
 refine .call [1] ((V p s (S+(dX t).length+1) x _ R b1 a7 (qR (.inr rfl)) Q).weaken cZ) (λu H' j=>?_)
 obtain⟨T4,M,rfl,cs,rfl,rfl,n⟩:=j
 rw[<-a9]
 have d3:bZ cs:=⟨n.cN⟩
 obtain⟨C,D,F,H,I,K,rfl⟩:∃a b c d f g,cs=[a,b,c,d,f,g]:=nh (by cases n;rfl)
 conv=>arg 8;simp only[rest,bK,agc,agd]
 refine .nil (Next.mod rfl ?_)
 refine RA.kR 1 6 rfl rfl (by kernel_rfl) rfl ?_ ?_
 refine .lo rfl ?_
 refine .nil (Next.mod rfl ?_)
 refine .sT 6 rfl ?_
 refine .ez (λa5=>?_)
 refine .nil (Next.mod rfl ?_)
 refine .sT 7 rfl ?_
 refine .append O (RS.lits (xs:=[(([C,D,F,H,I,K],x):JP)]) rfl (by simp[iE]) (λy v u j=>by rw[agh]at v;subst v;exact n.cN u j)) (by simp only[agn];omega) (λB A w=>?_)
 have i5:=w.aq
 refine .nil (Next.mod rfl ?_)
 refine .tK 8 rfl (.gA rfl) ?_
 refine .sT 9 rfl ?_
 refine .dH rfl rfl ?_
 refine .nil (Next.mod rfl ?_)
 refine RA.nil (by kernel_rfl) ?_
 ·first
   |exact aG (([C,D,F,H,I,K],x),B,(_,A,M)) ⟨rfl,w,n,rfl⟩ ((((kE.d rfl).d rfl).d rfl).d rfl) (aQ [1,3,1,2,2,2,2])
   |exact aG (([C,D,F,H,I,K],x),B,(_,A,M)) ⟨rfl,w,n,rfl⟩ ((((kE.d rfl).d rfl).d rfl).d rfl) (aQ [0,1,0,0,0,0,0])
 refine .ez (λa5=>?_)
 refine .nil (Next.mod rfl ?_)
 refine .sT 1 rfl ?_
 refine .lo rfl ?_
 refine .nil (Next.mod rfl ?_)
 refine .sT 7 rfl ?_
 refine .append O (RS.lits (xs:=[(([C,D,F,H,I,K],x):JP)]) rfl (by simp[iE]) (λy v u j=>by rw[agh]at v;subst v;exact n.cN u j)) (by simp only[agn];omega) (λB A w=>?_)
 have i5:=w.aq
 refine .nil (Next.mod rfl ?_)
 refine .tK 8 rfl (.gA rfl) ?_
 refine .sT 9 rfl ?_
 refine .dH rfl rfl ?_
 refine .nil (Next.mod rfl ?_)
 refine RA.nil (by kernel_rfl) ?_
 ·first
   |exact aG (([C,D,F,H,I,K],x),B,(_,A,M)) ⟨rfl,w,n,rfl⟩ ((((kE.d rfl).d rfl).d rfl).d rfl) (aQ [1,3,1,2,2,2,2])
   |exact aG (([C,D,F,H,I,K],x),B,(_,A,M)) ⟨rfl,w,n,rfl⟩ ((((kE.d rfl).d rfl).d rfl).d rfl) (aQ [0,1,0,0,0,0,0])
 intro y v
 obtain⟨r,B,⟨T4,A,M⟩⟩:=y
 obtain⟨a6,w,n,b0⟩:=v
 simp only at a6 w n b0⊢
 subst a6
 refine bi ?_
 ·exact aW (k+1,L++[r],B,b2,(A,a4,M++Td)) ⟨by simp only;omega,by simp only;rw[List.map_append,c9,hL, <-b0];rfl,w,a1,λq hq=>by
   rcases ago.1 hq with hq|hq
   ·exact(hA q hq).mono λb o N=>gh N
   ·rw[agh]at hq
    subst hq
    exact n.mono λb o N=>hU N⟩ (by simp only;omega) kE.c.c.c.c ((aQ [0,0,1,0,0,0,0]).trans (bp.eu (by simp[take,bK])))
 have he:e=true:=by simpa using Y
 obtain⟨_,d5,a0⟩:=hE.resolve_right (λh=>by rw[he]at h;exact absurd h.1 (by simp))
 have d1:m.take k=m:=agk (by omega)
 rw[d1]at a0
 have b6:L.map (·.2)=l:=by rw[hL];exact agk (by omega)
 have b3:ks.take k=ks:=agk (by omega)
 refine .exit<|bz<|bG<|bB<|ay<|.sr<|.q (.aP rfl)<|.bN rfl rfl<|.zn ?_
 refine .ret (bu _ (.one (.ei rfl rfl)) ((aQ [0,0,0,0]).trans (bp.eu (H':=[dy p s S,To++(Tk++Td)]) (by simp[take,bK]))) ?_)
 ·exact⟨_,_,rfl,_,rfl,by rw[a0];rfl,b6▸ .mk (l:=L) (O.sg.mono λb o N=>hU N) (b3▸T.sg.mono λb o N=>gh (hU N)) λq hq=>(hA q hq).mono λb o N=>gh (gh N)⟩
theorem mq{c d:UInt8}(a:48<=c.toNat/\c.toNat<=57)(b:57<d.toNat\/d.toNat<48):d≠c:=λe=>by subst e;omega
theorem BK{c:UInt8}(a:48<=c.toNat/\c.toNat<=57):lH c=false:=by
 unfold lH
 have b:=mq (d:=32) a (by decide)
 have e:=mq (d:=9) a (by decide)
 have f:=mq (d:=10) a (by decide)
 have g:=mq (d:=13) a (by decide)
 simp[Ne.symm b,Ne.symm e,Ne.symm f,Ne.symm g]
theorem L9(d:Nat)(r:d<=1000)(p:Nat)(s:ByteArray)(i:Nat)(rs:List UInt8)(a:dA s i (116::(114::117::101::rs)))(c:s.size<=1000000)(R:aw):
  Spec prog 29 [pT p,.int .i64 ((d+1:Nat):Int)] R [dy p s i] λu H'=>∃T' Td,H'=[T',Td]/\∃cs,u=.agg cs.toArray/\T'=dy p s (i+4)/\di (sg Td) cs (.mk 1 true 0 ⟨#[]⟩ [] []):=by
 obtain⟨g,j⟩:=a.head
 have f:=ja g
 rw[j]at f
 have t:=a.len
 refine Spec.body func29 rfl results29 ntmps29 rfl ?_
 refine .sr ?_
 refine .bV (λn=>?_)
 refine .z<|.mo rfl ?_
 refine .cr (kJ p s i _ a c (λo l e=>by cases e;decide) R) (λu m b=>?_)
 subst b
 refine .zs<|.seq ?_
 refine .eo mixed (by kernel_rfl) ?_
 refine .mo rfl ?_
 refine .q (.cast (v':=.bool false) .bw (by first|(simp;done)|(simp;omega))) ?_
 refine .mo rfl<|.gt rfl ?_
 refine .mo rfl<|.gt rfl ?_
 refine .nc rfl<|.gt rfl ?_
 refine .fa rfl<|.gt rfl ?_
 refine .lo rfl<|.gt rfl ?_
 refine .mo rfl<|.gt rfl ?_
 refine .nc rfl<|.gt rfl ?_
 refine .fa rfl<|.gt rfl ?_
 refine .lo rfl<|.gt rfl ?_
 refine .q .fw<|.gt rfl ?_
 refine .q (.cast (v':=.bool false) .bw (by first|(simp;done)|(simp;omega))) ?_
 refine .q .cb<|.zn<|.bQ<|.kn<|.seq<|.seq ?_
 refine .eo mixed (by kernel_rfl) ?_
 refine .mo rfl<|.nc rfl<|.fa rfl<|.lo rfl<|.mo rfl ?_
 refine .nc rfl<|.fa rfl<|.lo rfl ?_
 refine .q (.cast (.fv i g) (by rw[f])) ?_
 refine .az rfl<|.block<|.sr<|.mo rfl ?_
 refine .cr (gC p s i ⟨#[110,117,108,108]⟩ _ a (gE (by decide)) c (by decide) R) (λu h b=>?_)
 obtain⟨rfl,rfl⟩:=b
 refine .az rfl<|.bQ<|.sr<|.mo rfl ?_
 refine .cr (m2 p s i ⟨#[116,114,117,101]⟩ _ a c (by decide) R) (λu h b=>?_)
 obtain⟨rfl,rfl⟩:=b
 refine .az rfl<|.eQ<|.sr ?_
 refine .q .da ?_
 refine .bN rfl rfl<|.zn ?_
 refine .ret (bf (aI (bu _ (.one (.ei rfl rfl)) ((aQ [1]).trans (bp.eu (H':=[dy p s (i+4),[]]) (by simp[take,bK]<;>rfl))) ?_)))
 ·exact⟨_,_,rfl,_,rfl,rfl,.mk (l:=[]) RS.mC RS.mC λq k=>(by cases k)⟩
theorem L4(d:Nat)(r:d<=1000)(p:Nat)(s:ByteArray)(i:Nat)(rs:List UInt8)(b:dA s i (102::(97::108::115::101::rs)))(c:s.size<=1000000)(R:aw):
  Spec prog 29 [pT p,.int .i64 ((d+1:Nat):Int)] R [dy p s i] λu H'=>∃T' Td,H'=[T',Td]/\∃cs,u=.agg cs.toArray/\T'=dy p s (i+5)/\di (sg Td) cs (.mk 1 false 0 ⟨#[]⟩ [] []):=by
 obtain⟨h,j⟩:=b.head
 have g:=ja h
 rw[j]at g
 have t:=b.len
 refine Spec.body func29 rfl results29 ntmps29 rfl ?_
 refine .sr ?_
 refine .bV (λn=>?_)
 refine .z<|.mo rfl ?_
 refine .cr (kJ p s i _ b c (λo l e=>by cases e;decide) R) (λu m a=>?_)
 subst a
 refine .zs<|.seq ?_
 refine .eo mixed (by kernel_rfl) ?_
 refine .mo rfl ?_
 refine .q (.cast (v':=.bool false) .bw (by first|(simp;done)|(simp;omega))) ?_
 refine .mo rfl<|.gt rfl ?_
 refine .mo rfl<|.gt rfl ?_
 refine .nc rfl<|.gt rfl ?_
 refine .fa rfl<|.gt rfl ?_
 refine .lo rfl<|.gt rfl ?_
 refine .mo rfl<|.gt rfl ?_
 refine .nc rfl<|.gt rfl ?_
 refine .fa rfl<|.gt rfl ?_
 refine .lo rfl<|.gt rfl ?_
 refine .q .fw<|.gt rfl ?_
 refine .q (.cast (v':=.bool false) .bw (by first|(simp;done)|(simp;omega))) ?_
 refine .q .cb<|.zn<|.bQ<|.kn<|.seq<|.seq ?_
 refine .eo mixed (by kernel_rfl) ?_
 refine .mo rfl<|.nc rfl<|.fa rfl<|.lo rfl<|.mo rfl ?_
 refine .nc rfl<|.fa rfl<|.lo rfl ?_
 refine .q (.cast (.fv i h) (by rw[g])) ?_
 refine .az rfl<|.block<|.sr<|.mo rfl ?_
 refine .cr (gC p s i ⟨#[110,117,108,108]⟩ _ b (gE (by decide)) c (by decide) R) (λu f a=>?_)
 obtain⟨rfl,rfl⟩:=a
 refine .az rfl<|.bQ<|.sr<|.mo rfl ?_
 refine .cr (gC p s i ⟨#[116,114,117,101]⟩ _ b (gE (by decide)) c (by decide) R) (λu f a=>?_)
 obtain⟨rfl,rfl⟩:=a
 refine .az rfl<|.bQ<|.sr<|.mo rfl ?_
 refine .cr (m2 p s i ⟨#[102,97,108,115,101]⟩ _ b c (by decide) R) (λu f a=>?_)
 obtain⟨rfl,rfl⟩:=a
 refine .az rfl<|.eQ<|.sr ?_
 refine .q .da ?_
 refine .bN rfl rfl<|.zn ?_
 refine .ret (bf (aI (bu _ (.one (.ei rfl rfl)) ((aQ [1]).trans (bp.eu (H':=[dy p s (i+5),[]]) (by simp[take,bK]<;>rfl))) ?_)))
 ·exact⟨_,_,rfl,_,rfl,rfl,.mk (l:=[]) RS.mC RS.mC λq k=>(by cases k)⟩
theorem L8(d:Nat)(w:d<=1000)(p:Nat)(s:ByteArray)(i:Nat)(t:ByteArray)(m:dm t)(rs:List UInt8)(b:dA s i (34::((t.data.toList++[34])++rs)))(c:s.size<=1000000)(R:aw):
  Spec prog 29 [pT p,.int .i64 ((d+1:Nat):Int)] R [dy p s i] λu H'=>∃T' Td,H'=[T',Td]/\∃cs,u=.agg cs.toArray/\T'=dy p s (i+(t.size+2))/\di (sg Td) cs (.mk 3 false 0 t [] []):=by
 obtain⟨h,j⟩:=b.head
 have g:=ja h
 rw[j]at g
 have x:=b.len
 refine Spec.body func29 rfl results29 ntmps29 rfl ?_
 refine .sr ?_
 refine .bV (λr=>?_)
 refine .z<|.mo rfl ?_
 refine .cr (kJ p s i _ b c (λv l e=>by cases e;decide) R) (λu n a=>?_)
 subst a
 refine .zs<|.seq ?_
 refine .eo mixed (by kernel_rfl) ?_
 refine .mo rfl ?_
 refine .q (.cast (v':=.bool false) .bw (by first|(simp;done)|(simp;omega))) ?_
 refine .mo rfl<|.gt rfl ?_
 refine .mo rfl<|.gt rfl ?_
 refine .nc rfl<|.gt rfl ?_
 refine .fa rfl<|.gt rfl ?_
 refine .lo rfl<|.gt rfl ?_
 refine .mo rfl<|.gt rfl ?_
 refine .nc rfl<|.gt rfl ?_
 refine .fa rfl<|.gt rfl ?_
 refine .lo rfl<|.gt rfl ?_
 refine .q .fw<|.gt rfl ?_
 refine .q (.cast (v':=.bool false) .bw (by first|(simp;done)|(simp;omega))) ?_
 refine .q .cb<|.zn<|.bQ<|.kn<|.seq<|.seq ?_
 refine .eo mixed (by kernel_rfl) ?_
 refine .mo rfl<|.nc rfl<|.fa rfl<|.lo rfl<|.mo rfl ?_
 refine .nc rfl<|.fa rfl<|.lo rfl ?_
 refine .q (.cast (.fv i h) (by rw[g])) ?_
 refine .az rfl<|.block<|.sr<|.mo rfl ?_
 refine .cr (gC p s i ⟨#[110,117,108,108]⟩ _ b (gE (by decide)) c (by decide) R) (λu f a=>?_)
 obtain⟨rfl,rfl⟩:=a
 refine .az rfl<|.bQ<|.sr<|.mo rfl ?_
 refine .cr (gC p s i ⟨#[116,114,117,101]⟩ _ b (gE (by decide)) c (by decide) R) (λu f a=>?_)
 obtain⟨rfl,rfl⟩:=a
 refine .az rfl<|.bQ<|.sr<|.mo rfl ?_
 refine .cr (gC p s i ⟨#[102,97,108,115,101]⟩ _ b (gE (by decide)) c (by decide) R) (λu f a=>?_)
 obtain⟨rfl,rfl⟩:=a
 refine .az rfl<|.bQ<|.sr<|.mo rfl ?_
 refine .q (.cast (v':=.bool true) .bw (by first|rfl|simp)) ?_
 refine .az rfl<|.eQ<|.sr<|.mo rfl ?_
 refine .cr (xX p s i t rs b c m R) (λu o a=>?_)
 obtain⟨rfl,rfl⟩:=a
 refine .q .da ?_
 refine .bN rfl rfl<|.zn ?_
 refine .ret (bf (aI (bu _ (.one (.ei rfl rfl)) ((aQ [1]).trans (bp.eu (H':=[dy p s (i+(t.size+2)),[]]) (by simp[take,bK]<;>rfl))) ?_)))
 ·exact⟨_,_,rfl,_,rfl,rfl,.mk (l:=[]) RS.mC RS.mC λq k=>(by cases k)⟩
theorem L5(d:Nat)(v:d<=1000)(p:Nat)(s:ByteArray)(i:Nat)(V:nv d)(l:List J)(w:∀x∈l,dF d x)(rs:List UInt8)(j:dA s i (91::(cP (l.map (pJ d))++93::rs)))(k:s.size<=1000000)(R:aw):
  Spec prog 29 [pT p,.int .i64 ((d+1:Nat):Int)] R [dy p s i] λu H'=>∃T' Td,H'=[T',Td]/\∃cs,u=.agg cs.toArray/\T'=dy p s (i+((cP (l.map (pJ d))).length+2))/\di (sg Td) cs (eE l):=by
 obtain⟨r,t⟩:=j.head
 have o:=ja r
 rw[t]at o
 have D:=j.len
 refine Spec.body func29 rfl results29 ntmps29 rfl ?_
 refine .sr ?_
 refine .bV (λB=>?_)
 refine .z<|.mo rfl ?_
 refine .cr (kJ p s i _ j k (λC l e=>by cases e;decide) R) (λu y h=>?_)
 subst h
 refine .zs<|.seq ?_
 refine .eo mixed (by kernel_rfl) ?_
 refine .mo rfl ?_
 refine .q (.cast (v':=.bool false) .bw (by first|(simp;done)|(simp;omega))) ?_
 refine .mo rfl<|.gt rfl ?_
 refine .mo rfl<|.gt rfl ?_
 refine .nc rfl<|.gt rfl ?_
 refine .fa rfl<|.gt rfl ?_
 refine .lo rfl<|.gt rfl ?_
 refine .mo rfl<|.gt rfl ?_
 refine .nc rfl<|.gt rfl ?_
 refine .fa rfl<|.gt rfl ?_
 refine .lo rfl<|.gt rfl ?_
 refine .q .fw<|.gt rfl ?_
 refine .q (.cast (v':=.bool false) .bw (by first|(simp;done)|(simp;omega))) ?_
 refine .q .cb<|.zn<|.bQ<|.kn<|.seq<|.seq ?_
 refine .eo mixed (by kernel_rfl) ?_
 refine .mo rfl<|.nc rfl<|.fa rfl<|.lo rfl<|.mo rfl ?_
 refine .nc rfl<|.fa rfl<|.lo rfl ?_
 refine .q (.cast (.fv i r) (by rw[o])) ?_
 refine .az rfl<|.block<|.sr<|.mo rfl ?_
 refine .cr (gC p s i ⟨#[110,117,108,108]⟩ _ j (gE (by decide)) k (by decide) R) (λu m h=>?_)
 obtain⟨rfl,rfl⟩:=h
 refine .az rfl<|.bQ<|.sr<|.mo rfl ?_
 refine .cr (gC p s i ⟨#[116,114,117,101]⟩ _ j (gE (by decide)) k (by decide) R) (λu m h=>?_)
 obtain⟨rfl,rfl⟩:=h
 refine .az rfl<|.bQ<|.sr<|.mo rfl ?_
 refine .cr (gC p s i ⟨#[102,97,108,115,101]⟩ _ j (gE (by decide)) k (by decide) R) (λu m h=>?_)
 obtain⟨rfl,rfl⟩:=h
 refine .az rfl<|.bQ<|.sr<|.mo rfl ?_
 refine .q (.cast (v':=.bool false) .bw (by first|rfl|simp)) ?_
 refine .az rfl<|.bQ<|.sr<|.mo rfl ?_
 refine .cr (m2 p s i ⟨#[91]⟩ _ j k (by decide) R) (λu m h=>?_)
 obtain⟨rfl,rfl⟩:=h
 refine .az rfl<|.eQ<|.sr<|.mo rfl<|.mo rfl ?_
 refine .call [1] ((LN d v V p s (i+1) l rs R j.tail w k).weaken cZ) (λu H' h=>?_)
 obtain⟨A,Td,rfl,cs,rfl,rfl,n⟩:=h
 have E:bZ cs:=⟨n.cN⟩
 obtain⟨F,G,H,I,K,L,rfl⟩:∃a b c d f g,cs=[a,b,c,d,f,g]:=nh (by cases n;rfl)
 conv=>arg 8;simp only[rest,bK,agc,agd]
 refine .bN rfl rfl<|.zn ?_
 refine .ret (bf (aI (bu _ (.one (.ei rfl rfl)) (aQ [0,0]) ?_)))
 ·exact⟨_,_,rfl,_,rfl,by rw[show i+1+((cP (l.map (pJ d))).length+1)=i+((cP (l.map (pJ d))).length+2) by omega];rfl,n⟩
theorem L6(d:Nat)(w:d<=1000)(p:Nat)(s:ByteArray)(i:Nat)(V:nv d)(l:List J)(ks:List ByteArray)(C:∀x∈l,dF d x)(B:∀t∈ks,dm t)(A:ks.Nodup)(y:ks.length=l.length)(rs:List UInt8)(j:dA s i (123::(cP ((ks.zip l).map λp=>dX p.1++58::pJ d p.2)++125::rs)))(k:s.size<=1000000)(R:aw):
  Spec prog 29 [pT p,.int .i64 ((d+1:Nat):Int)] R [dy p s i] λu H'=>∃T' Td,H'=[T',Td]/\∃cs,u=.agg cs.toArray/\T'=dy p s (i+((cP ((ks.zip l).map λp=>dX p.1++58::pJ d p.2)).length+2))/\di (sg Td) cs (iF ks l):=by
 obtain⟨r,v⟩:=j.head
 have o:=ja r
 rw[v]at o
 have H:=j.len
 refine Spec.body func29 rfl results29 ntmps29 rfl ?_
 refine .sr ?_
 refine .bV (λF=>?_)
 refine .z<|.mo rfl ?_
 refine .cr (kJ p s i _ j k (λG l e=>by cases e;decide) R) (λu D h=>?_)
 subst h
 refine .zs<|.seq ?_
 refine .eo mixed (by kernel_rfl) ?_
 refine .mo rfl ?_
 refine .q (.cast (v':=.bool false) .bw (by first|(simp;done)|(simp;omega))) ?_
 refine .mo rfl<|.gt rfl ?_
 refine .mo rfl<|.gt rfl ?_
 refine .nc rfl<|.gt rfl ?_
 refine .fa rfl<|.gt rfl ?_
 refine .lo rfl<|.gt rfl ?_
 refine .mo rfl<|.gt rfl ?_
 refine .nc rfl<|.gt rfl ?_
 refine .fa rfl<|.gt rfl ?_
 refine .lo rfl<|.gt rfl ?_
 refine .q .fw<|.gt rfl ?_
 refine .q (.cast (v':=.bool false) .bw (by first|(simp;done)|(simp;omega))) ?_
 refine .q .cb<|.zn<|.bQ<|.kn<|.seq<|.seq ?_
 refine .eo mixed (by kernel_rfl) ?_
 refine .mo rfl<|.nc rfl<|.fa rfl<|.lo rfl<|.mo rfl ?_
 refine .nc rfl<|.fa rfl<|.lo rfl ?_
 refine .q (.cast (.fv i r) (by rw[o])) ?_
 refine .az rfl<|.block<|.sr<|.mo rfl ?_
 refine .cr (gC p s i ⟨#[110,117,108,108]⟩ _ j (gE (by decide)) k (by decide) R) (λu m h=>?_)
 obtain⟨rfl,rfl⟩:=h
 refine .az rfl<|.bQ<|.sr<|.mo rfl ?_
 refine .cr (gC p s i ⟨#[116,114,117,101]⟩ _ j (gE (by decide)) k (by decide) R) (λu m h=>?_)
 obtain⟨rfl,rfl⟩:=h
 refine .az rfl<|.bQ<|.sr<|.mo rfl ?_
 refine .cr (gC p s i ⟨#[102,97,108,115,101]⟩ _ j (gE (by decide)) k (by decide) R) (λu m h=>?_)
 obtain⟨rfl,rfl⟩:=h
 refine .az rfl<|.bQ<|.sr<|.mo rfl ?_
 refine .q (.cast (v':=.bool false) .bw (by first|rfl|simp)) ?_
 refine .az rfl<|.bQ<|.sr<|.mo rfl ?_
 refine .cr (gC p s i ⟨#[91]⟩ _ j (gE (by decide)) k (by decide) R) (λu m h=>?_)
 obtain⟨rfl,rfl⟩:=h
 refine .az rfl<|.bQ<|.sr<|.mo rfl ?_
 refine .cr (m2 p s i ⟨#[123]⟩ _ j k (by decide) R) (λu m h=>?_)
 obtain⟨rfl,rfl⟩:=h
 refine .az rfl<|.eQ<|.sr<|.mo rfl<|.mo rfl ?_
 refine .call [1] ((L3 d w V p s (i+1) l ks rs R j.tail C B A y k).weaken cZ) (λu H' h=>?_)
 obtain⟨E,Td,rfl,cs,rfl,rfl,n⟩:=h
 have I:bZ cs:=⟨n.cN⟩
 obtain⟨K,L,M,N,O,Q,rfl⟩:∃a b c d f g,cs=[a,b,c,d,f,g]:=nh (by cases n;rfl)
 conv=>arg 8;simp only[rest,bK,agc,agd]
 refine .bN rfl rfl<|.zn ?_
 refine .ret (bf (aI (bu _ (.one (.ei rfl rfl)) (aQ [0,0]) ?_)))
 ·exact⟨_,_,rfl,_,rfl,by rw[show i+1+((cP ((ks.zip l).map λp=>dX p.1++58::pJ d p.2)).length+1)=i+((cP ((ks.zip l).map λp=>dX p.1++58::pJ d p.2)).length+2) by omega];rfl,n⟩
theorem L7(d:Nat)(D:d<=1000)(p:Nat)(s:ByteArray)(i:Nat)(n:Nat)(t:n<64)(c:UInt8)(r rs:List UInt8)(v:sI rs)(o:eR n=c::r)(g:48<=c.toNat/\c.toNat<=57)(b:dA s i (c::(r++rs)))(f:s.size<=1000000)(R:aw):
  Spec prog 29 [pT p,.int .i64 ((d+1:Nat):Int)] R [dy p s i] λu H'=>∃T' Td,H'=[T',Td]/\∃cs,u=.agg cs.toArray/\T'=dy p s (i+(eR n).length)/\di (sg Td) cs (.mk 2 false (n:Nat) ⟨#[]⟩ [] []):=by
 obtain⟨k,m⟩:=b.head
 have j:=ja k
 rw[m]at j
 have E:=b.len
 refine Spec.body func29 rfl results29 ntmps29 rfl ?_
 refine .sr ?_
 refine .bV (λA=>?_)
 refine .z<|.mo rfl ?_
 refine .cr (kJ p s i _ b f (λB l e=>by cases e;exact BK g) R) (λu x a=>?_)
 subst a
 refine .zs<|.seq ?_
 refine .eo mixed (by kernel_rfl) ?_
 refine .mo rfl ?_
 refine .q (.cast (v':=.bool false) .bw (by first|(simp;done)|(simp;omega))) ?_
 refine .mo rfl<|.gt rfl ?_
 refine .mo rfl<|.gt rfl ?_
 refine .nc rfl<|.gt rfl ?_
 refine .fa rfl<|.gt rfl ?_
 refine .lo rfl<|.gt rfl ?_
 refine .mo rfl<|.gt rfl ?_
 refine .nc rfl<|.gt rfl ?_
 refine .fa rfl<|.gt rfl ?_
 refine .lo rfl<|.gt rfl ?_
 refine .q .fw<|.gt rfl ?_
 refine .q (.cast (v':=.bool false) .bw (by first|(simp;done)|(simp;omega))) ?_
 refine .q .cb<|.zn<|.bQ<|.kn<|.seq<|.seq ?_
 refine .eo mixed (by kernel_rfl) ?_
 refine .mo rfl<|.nc rfl<|.fa rfl<|.lo rfl<|.mo rfl ?_
 refine .nc rfl<|.fa rfl<|.lo rfl ?_
 refine .q (.cast (.fv i k) (by rw[j])) ?_
 refine .az rfl<|.block<|.sr<|.mo rfl ?_
 refine .cr (gC p s i ⟨#[110,117,108,108]⟩ _ b (gE (mq g (by decide))) f (by decide) R) (λu h a=>?_)
 obtain⟨rfl,rfl⟩:=a
 refine .az rfl<|.bQ<|.sr<|.mo rfl ?_
 refine .cr (gC p s i ⟨#[116,114,117,101]⟩ _ b (gE (mq g (by decide))) f (by decide) R) (λu h a=>?_)
 obtain⟨rfl,rfl⟩:=a
 refine .az rfl<|.bQ<|.sr<|.mo rfl ?_
 refine .cr (gC p s i ⟨#[102,97,108,115,101]⟩ _ b (gE (mq g (by decide))) f (by decide) R) (λu h a=>?_)
 obtain⟨rfl,rfl⟩:=a
 refine .az rfl<|.bQ<|.sr<|.mo rfl ?_
 refine .q (.cast (v':=.bool false) .bw (by simp;first|omega|(intro C;omega))) ?_
 refine .az rfl<|.bQ<|.sr<|.mo rfl ?_
 refine .cr (gC p s i ⟨#[91]⟩ _ b (gE (mq g (by decide))) f (by decide) R) (λu h a=>?_)
 obtain⟨rfl,rfl⟩:=a
 refine .az rfl<|.bQ<|.sr<|.mo rfl ?_
 refine .cr (gC p s i ⟨#[123]⟩ _ b (gE (mq g (by decide))) f (by decide) R) (λu h a=>?_)
 obtain⟨rfl,rfl⟩:=a
 refine .az rfl<|.bQ<|.skip<|bi<|ay<|.sr<|.mo rfl ?_
 refine .cr (LO p s i n t rs (by rw[o];exact b) f v R) (λu y a=>?_)
 obtain⟨rfl,rfl⟩:=a
 refine .bN rfl rfl<|.zn ?_
 refine .ret (bu _ (.one (.ei rfl rfl)) ((aQ [1]).trans (bp.eu (H':=[dy p s (i+(eR n).length),[]]) (by simp[take,bK]<;>rfl))) ?_)
 ·exact⟨_,_,rfl,_,rfl,rfl,.mk (l:=[]) RS.mC RS.mC λq w=>(by cases w)⟩
theorem NU(d:Nat)(f:d<=1000)(V:nv d):nv (d+1):=λp s i j a R g q z o=>by
 match j,q with
 | .mk k b n t l ks,q=>
  unfold dF at q
  rcases q with⟨rfl,rfl,rfl,rfl,rfl⟩|⟨rfl,rfl,D,rfl,rfl,rfl⟩|⟨rfl,rfl,rfl,E,rfl,rfl⟩|⟨rfl,rfl,rfl,rfl,u,rfl⟩|⟨rfl,rfl,rfl,rfl,u,C,B,A⟩
  ·cases b
   ·exact L4 d f p s i a g o R
   ·exact L9 d f p s i a g o R
  ·obtain⟨m,rfl⟩:=Int.eq_ofNat_of_zero_le D.1
   have w:m<64:=by omega
   obtain⟨F,v,y⟩:=nC m w
   obtain⟨c,r,e⟩:∃c r,eR m=c::r:=by
    cases e:eR m with
    |nil=>rw[e]at v;simp at v
    |cons c r=>exact⟨c,r,rfl⟩
   have x:dA s i (eR m++a):=g
   exact L7 d f p s i m w c r a z.mm e (y c (by rw[e];simp)) (by rw[e]at x;exact x) o R
  ·have h:=L8 d f p s i t E a g o R
   rw[<-oJ t]at h
   exact h
  ·have h:=L5 d f p s i V l u a (by simpa[pJ]using g) o R
   have e:(pJ (d+1) (.mk 4 false 0 ⟨#[]⟩ l [])).length=(cP (l.map (pJ d))).length+2:=by simp[pJ]
   rw[e]
   exact h
  ·have h:=L6 d f p s i V l ks u C B A a (by simpa[pJ]using g) o R
   have e:(pJ (d+1) (.mk 5 false 0 ⟨#[]⟩ l ks)).length=(cP ((ks.zip l).map λp=>dX p.1++58::pJ d p.2)).length+2:=by simp[pJ]
   rw[e]
   exact h
theorem zk:∀d,d<=1000->nv d
 |0,_=>λp s i j b R _ a _ _=>a.elim
 |d+1,h=>NU d (by omega) (zk d (by omega))
theorem NO{c:UInt8}(h:jW c=true):c.toNat<128:=by
 unfold jW at h
 simp only[agw,agp]at h
 omega
theorem xQ{xs:List (List UInt8)}{c:UInt8}(h:c∈cP xs):c=44\/∃x∈xs,c∈x:=by
 cases xs with
 |nil=>cases h
 |cons x xs=>
  rcases ago.1 h with h|h
  ·exact .inr ⟨x,by simp,h⟩
  ·obtain⟨y,a,hc⟩:=List.mem_flatMap.1 h
   rcases agq.1 hc with hc|hc
   ·exact .inl hc
   ·exact .inr ⟨y,by simp[a],hc⟩
theorem zh{t:ByteArray}(h:dm t):∀c∈dX t,c.toNat<128:=λc hc=>by
 unfold dX at hc
 rcases agq.1 hc with hc|hc
 ·subst hc;decide
 ·rcases ago.1 hc with hc|hc
  ·exact NO (h c hc)
  ·rw[agh]at hc;subst hc;decide
theorem ul:∀{d:Nat} {j:J},dF d j->∀c∈pJ d j,c.toNat<128
 |0,_,h=>h.elim
 |d+1,.mk k b n t l ks,h=>λc hc=>by
  unfold dF at h
  rcases h with⟨rfl,rfl,rfl,rfl,rfl⟩|⟨rfl,rfl,r,rfl,rfl,rfl⟩|⟨rfl,rfl,rfl,g,rfl,rfl⟩|⟨rfl,rfl,rfl,rfl,f,rfl⟩|⟨rfl,rfl,rfl,rfl,f,m,q,o⟩
  ·have a:c∈bT b:=hc
   cases b
   ·exact(by decide:∀c∈bT false,c.toNat<128) c a
   ·exact(by decide:∀c∈bT true,c.toNat<128) c a
  ·have a:c∈eR n.toNat:=hc
   have:=(nC n.toNat (by omega)).2.2 c a
   omega
  ·exact zh g c hc
  ·have a:c∈91::(cP (l.map (pJ d))++[93]):=hc
   rcases agq.1 a with hc|hc
   ·subst hc;decide
   ·rcases ago.1 hc with hc|hc
    ·rcases xQ hc with hc|⟨x,i,hc⟩
     ·subst hc;decide
     ·obtain⟨y,e,rfl⟩:=agm.1 i
      exact ul (f y e) c hc
    ·rw[agh]at hc;subst hc;decide
  ·have a:c∈123::(cP ((ks.zip l).map λp=>dX p.1++58::pJ d p.2)++[125]):=hc
   rcases agq.1 a with hc|hc
   ·subst hc;decide
   ·rcases ago.1 hc with hc|hc
    ·rcases xQ hc with hc|⟨x,i,hc⟩
     ·subst hc;decide
     ·obtain⟨⟨t,y⟩,e,rfl⟩:=agm.1 i
      obtain⟨g,e⟩:=List.of_mem_zip e
      rcases ago.1 hc with hc|hc
      ·exact zh (m t g) c hc
      ·rcases agq.1 hc with hc|hc
       ·subst hc;decide
       ·exact ul (f y e) c hc
    ·rw[agh]at hc;subst hc;decide
theorem Be{s:ByteArray}{k:Nat}(h:k<s.size):gJ s k∈s.data.toList:=by
 rw[<-ja h]
 show s.data[k]∈s.data.toList
 exact Array.mem_toList_iff.2 (Array.getElem_mem _)
theorem LR(s:ByteArray)(j:J)(m:s.data.toList=pJ 16 j)(n:dF 16 j)(B:s.size<=65536)(R:aw):
  Spec prog 11 [.string s] R [] λu H'=>∃Td,H'=[Td]/\∃cs,u=.tuple [.agg cs.toArray,.int .i64 0].toArray/\di (sg Td) cs j:=by
 have p:kG s:=λk t=>ul n _ (m▸Be t)
 have o:dA s 0 (pJ 16 j++[]):=by rw[agt, <-m];exact dA.zero s
 have C:(pJ 16 j).length=s.size:=by rw[<-m];exact gD s
 have r:=o.gq
 refine Spec.body func11 rfl results11 ntmps11 rfl ?_
 refine .sr ?_
 refine .bV (λy=>?_)
 refine .ag rfl<|.zs<|.sr<|.mo rfl<|.q .fw ?_
 refine .q (.cast (v':=.bool false) .gtr (by first|(simp;done)|(simp;omega))) ?_
 refine .zn<|.bQ<|.kn<|.sr<|.mo rfl<|.mo rfl ?_
 refine .aR (uY s p _) (λu h=>?_)
 subst h
 refine .q .da ?_
 refine .cj rfl (λx=>?_)
 refine .ag rfl<|.zs<|.sr<|.mo rfl<|.nc rfl<|.fa rfl<|.lo rfl<|.q (.cast (v':=.bool false) .not rfl) ?_
 refine .zn<|.bQ<|.kn<|.sr<|.mo rfl ?_
 refine .call [0] ((zk 16 (by decide) _ s 0 j [] R o n (λc l e=>by cases e) (by omega)).weaken cZ) (λu H' h=>?_)
 obtain⟨v,Td,rfl,cs,rfl,rfl,i⟩:=h
 have D:bZ cs:=⟨i.cN⟩
 obtain⟨E,F,G,H,I,K,rfl⟩:∃a b c d f g,cs=[a,b,c,d,f,g]:=nh (by cases i;rfl)
 conv=>arg 8;simp only[rest,bK,agc,agd]
 refine .bV (λA=>?_)
 refine .bN rfl rfl<|.z<|.mo rfl ?_
 refine .cr (kJ _ s _ [] r (by omega) (λc l e=>by cases e) R) (λu w h=>?_)
 subst h
 refine .zs<|.sr<|.mo rfl<|.nc rfl<|.fa rfl<|.lo rfl<|.q (.cast (v':=.bool false) .not rfl) ?_
 refine .mo rfl<|.gt rfl ?_
 refine .mo rfl<|.gt rfl ?_
 refine .nc rfl<|.gt rfl ?_
 refine .fa rfl<|.gt rfl ?_
 refine .lo rfl<|.gt rfl ?_
 refine .mo rfl<|.gt rfl ?_
 refine .q .fw<|.gt rfl ?_
 refine .q (.cast (v':=.bool false) .lss (by first|(simp;done)|(simp;omega))) ?_
 refine .q .cb<|.zn<|.bQ<|.kn<|.sr<|.q (.aP rfl)<|.bN rfl rfl<|.az rfl ?_
 refine .ret (bu _ (.two (.ei rfl rfl) (.tmp rfl)) (aQ [2]) ?_)
 ·exact⟨_,rfl,_,rfl,i⟩
end Go.Proofs.YtenilfmlfldogaaGreatDoor

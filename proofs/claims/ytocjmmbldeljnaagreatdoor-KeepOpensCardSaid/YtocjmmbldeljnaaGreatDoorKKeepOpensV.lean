/- What the law 'KeepOpens' uses. No condition. -/
import Derived.Test.YtocjmmbldeljnaaGreatDoorKKeepOpensK
import Derived.Test.YtocjmmbldeljnaaGreatDoorKKeepOpensL
import Derived.Test.YtocjmmbldeljnaaGreatDoorKKeepOpensN
import Derived.Test.YtocjmmbldeljnaaGreatDoorKKeepOpensO
import Derived.Test.YtocjmmbldeljnaaGreatDoorKKeepOpensQ
import Derived.Test.YtocjmmbldeljnaaGreatDoorKKeepOpensT
import Derived.Test.YtocjmmbldeljnaaGreatDoorKKeepOpensU
set_option linter.unusedSimpArgs false
set_option linter.unusedVariables false
namespace Go.Proofs.YtocjmmbldeljnaaGreatDoor
set_option linter.defProp false
def aeX:=@trivial
def aeY:=@List.cons_append
def aeZ:=@List.nil_append
def ae0:=@List.length_append
def ae1:=@List.length_nil
def ae2:=@congrArg
def ae3:=@List.mem_singleton
def ae4:=@List.mem_replicate
def ae5:=@decide_eq_true_eq
def ae6:=@decide_eq_false_iff_not
open Tryz
set_option linter.unusedVariables false
set_option linter.unusedSimpArgs false
set_option maxRecDepth 4000
theorem NI(b:Nat)(xs:List UInt8)(T:au)(h:dJ b xs T)(i:xs.length<=1000000)(p:Option Addr)(c:Nat)(R:ao):Spec prog 70 [pT b,.slice p 0 c,.func (.func 73) #[] #[]] R [T] λu H'=>∃T',H'=[T']/\dJ b (xs++put 0) T':=by
 refine Spec.body func70 rfl results70 ntmps70 rfl ?_
 refine .sr<|.mo rfl<|.mo rfl<|.q (.eY rfl) ?_
 refine .q (.fU (a:=0) rfl (by decide)) ?_
 refine .aT (fV b xs T h 0 (by decide) (by omega) _) (λu d g=>?_)
 obtain⟨rfl,f⟩:=g
 refine .z<|.mo rfl<|.q (.eY rfl) ?_
 refine .mo rfl<|.zn<|.block ?_
 refine .loop (X:=Unit) (λ_=>True) (λ_=>[(14,.int .i64 ((0:Nat):Int)),(15,.int .i64 0)]) (λ_=>[d]) (λ_=>0) () aeX kE.c.c rH ?_
 rintro⟨⟩ _
 refine .sr<|.q .lss<|.zs ?_
 refine .cond rfl (λe=>?_) λe=>?_
 ·exfalso;simp at e
 refine .exit<|bk<|bw<|bq<|dc _ .none (.one [0] _) ?_
 ·exact⟨d,by simp[take],f⟩
theorem NK(b:Nat)(xs:List UInt8)(T:au)(h:dJ b xs T)(i:xs.length<=1000000)(p:Option Addr)(c:Nat)(R:ao):Spec prog 74 [pT b,.slice p 0 c,.func (.func 77) #[] #[]] R [T] λu H'=>∃T',H'=[T']/\dJ b (xs++put 0) T':=by
 refine Spec.body func74 rfl results74 ntmps74 rfl ?_
 refine .sr<|.mo rfl<|.mo rfl<|.q (.eY rfl) ?_
 refine .q (.fU (a:=0) rfl (by decide)) ?_
 refine .aT (fV b xs T h 0 (by decide) (by omega) _) (λu d g=>?_)
 obtain⟨rfl,f⟩:=g
 refine .z<|.mo rfl<|.q (.eY rfl) ?_
 refine .mo rfl<|.zn<|.block ?_
 refine .loop (X:=Unit) (λ_=>True) (λ_=>[(14,.int .i64 ((0:Nat):Int)),(15,.int .i64 0)]) (λ_=>[d]) (λ_=>0) () aeX kE.c.c rH ?_
 rintro⟨⟩ _
 refine .sr<|.q .lss<|.zs ?_
 refine .cond rfl (λe=>?_) λe=>?_
 ·exfalso;simp at e
 refine .exit<|bk<|bw<|bq<|dc _ .none (.one [0] _) ?_
 ·exact⟨d,by simp[take],f⟩
theorem NJ(b:Nat)(xs:List UInt8)(T:au)(h:dJ b xs T)(i:xs.length<=1000000)(p:Option Addr)(c:Nat)(R:ao):Spec prog 78 [pT b,.slice p 0 c,.func (.func 80) #[] #[]] R [T] λu H'=>∃T',H'=[T']/\dJ b (xs++put 0) T':=by
 refine Spec.body func78 rfl results78 ntmps78 rfl ?_
 refine .sr<|.mo rfl<|.mo rfl<|.q (.eY rfl) ?_
 refine .q (.fU (a:=0) rfl (by decide)) ?_
 refine .aT (fV b xs T h 0 (by decide) (by omega) _) (λu d g=>?_)
 obtain⟨rfl,f⟩:=g
 refine .z<|.mo rfl<|.q (.eY rfl) ?_
 refine .mo rfl<|.zn<|.block ?_
 refine .loop (X:=Unit) (λ_=>True) (λ_=>[(14,.int .i64 ((0:Nat):Int)),(15,.int .i64 0)]) (λ_=>[d]) (λ_=>0) () aeX kE.c.c rH ?_
 rintro⟨⟩ _
 refine .sr<|.q .lss<|.zs ?_
 refine .cond rfl (λe=>?_) λe=>?_
 ·exfalso;simp at e
 refine .exit<|bk<|bw<|bq<|dc _ .none (.one [0] _) ?_
 ·exact⟨d,by simp[take],f⟩
theorem NM(b:Nat)(xs:List UInt8)(T:au)(h:dJ b xs T)(i:xs.length<=1000000)(p:Option Addr)(c:Nat)(R:ao):Spec prog 83 [pT b,.slice p 0 c,.func (.func 85) #[] #[]] R [T] λu H'=>∃T',H'=[T']/\dJ b (xs++put 0) T':=by
 refine Spec.body func83 rfl results83 ntmps83 rfl ?_
 refine .sr<|.mo rfl<|.mo rfl<|.q (.eY rfl) ?_
 refine .q (.fU (a:=0) rfl (by decide)) ?_
 refine .aT (fV b xs T h 0 (by decide) (by omega) _) (λu d g=>?_)
 obtain⟨rfl,f⟩:=g
 refine .z<|.mo rfl<|.q (.eY rfl) ?_
 refine .mo rfl<|.zn<|.block ?_
 refine .loop (X:=Unit) (λ_=>True) (λ_=>[(14,.int .i64 ((0:Nat):Int)),(15,.int .i64 0)]) (λ_=>[d]) (λ_=>0) () aeX kE.c.c rH ?_
 rintro⟨⟩ _
 refine .sr<|.q .lss<|.zs ?_
 refine .cond rfl (λe=>?_) λe=>?_
 ·exfalso;simp at e
 refine .exit<|bk<|bw<|bq<|dc _ .none (.one [0] _) ?_
 ·exact⟨d,by simp[take],f⟩
theorem NL(b:Nat)(xs:List UInt8)(T:au)(h:dJ b xs T)(i:xs.length<=1000000)(p:Option Addr)(c:Nat)(R:ao):Spec prog 87 [pT b,.slice p 0 c,.func (.func 89) #[] #[]] R [T] λu H'=>∃T',H'=[T']/\dJ b (xs++put 0) T':=by
 refine Spec.body func87 rfl results87 ntmps87 rfl ?_
 refine .sr<|.mo rfl<|.mo rfl<|.q (.eY rfl) ?_
 refine .q (.fU (a:=0) rfl (by decide)) ?_
 refine .aT (fV b xs T h 0 (by decide) (by omega) _) (λu d g=>?_)
 obtain⟨rfl,f⟩:=g
 refine .z<|.mo rfl<|.q (.eY rfl) ?_
 refine .mo rfl<|.zn<|.block ?_
 refine .loop (X:=Unit) (λ_=>True) (λ_=>[(14,.int .i64 ((0:Nat):Int)),(15,.int .i64 0)]) (λ_=>[d]) (λ_=>0) () aeX kE.c.c rH ?_
 rintro⟨⟩ _
 refine .sr<|.q .lss<|.zs ?_
 refine .cond rfl (λe=>?_) λe=>?_
 ·exfalso;simp at e
 refine .exit<|bk<|bw<|bq<|dc _ .none (.one [0] _) ?_
 ·exact⟨d,by simp[take],f⟩
theorem NN(b:Nat)(xs:List UInt8)(T:au)(h:dJ b xs T)(i:xs.length<=1000000)(p:Option Addr)(c:Nat)(R:ao):Spec prog 91 [pT b,.slice p 0 c,.func (.func 93) #[] #[]] R [T] λu H'=>∃T',H'=[T']/\dJ b (xs++put 0) T':=by
 refine Spec.body func91 rfl results91 ntmps91 rfl ?_
 refine .sr<|.mo rfl<|.mo rfl<|.q (.eY rfl) ?_
 refine .q (.fU (a:=0) rfl (by decide)) ?_
 refine .aT (fV b xs T h 0 (by decide) (by omega) _) (λu d g=>?_)
 obtain⟨rfl,f⟩:=g
 refine .z<|.mo rfl<|.q (.eY rfl) ?_
 refine .mo rfl<|.zn<|.block ?_
 refine .loop (X:=Unit) (λ_=>True) (λ_=>[(14,.int .i64 ((0:Nat):Int)),(15,.int .i64 0)]) (λ_=>[d]) (λ_=>0) () aeX kE.c.c rH ?_
 rintro⟨⟩ _
 refine .sr<|.q .lss<|.zs ?_
 refine .cond rfl (λe=>?_) λe=>?_
 ·exfalso;simp at e
 refine .exit<|bk<|bw<|bq<|dc _ .none (.one [0] _) ?_
 ·exact⟨d,by simp[take],f⟩
theorem yq(R:ao):Spec prog 112 [] R [] λu H'=>∃T,H'=[T]/\∃b,u=pT b/\T=(bl b [.bool true,sZ,.int .i64 0] 300):=by
 refine Spec.body func112 rfl results112 ntmps112 rfl ?_
 refine .sr<|.ag rfl<|.z ?_
 refine .q .cC ?_
 refine .cc rfl (λa=>?_)
 refine .az rfl ?_
 refine .ret (aO _ (.one (.tmp rfl)) (.one [0] _) ?_)
 ·exact⟨_,rfl,_,rfl,rfl⟩
theorem yp(b:Nat)(R:ao) [pc:PC R (pT b) [.bool true,sZ,.int .i64 0]]:Spec prog 186 [pT b] R [] λu H'=>u=.bool true/\H'=[]:=by
 refine Spec.body func186 rfl results186 ntmps186 rfl ?_
 refine .sr<|.ag rfl<|.z<|.mo rfl<|.q (.jX rfl rfl) ?_
 refine .mo rfl<|.gt rfl ?_
 refine .mo rfl<|.gt rfl ?_
 refine .nc rfl<|.gt rfl ?_
 refine .fa rfl<|.gt rfl ?_
 refine .lo rfl<|.q .dh<|.az rfl ?_
 refine .ret (aW rfl ?_)
 ·exact⟨rfl,rfl⟩
theorem Pv(b:Nat)(R:ao) [pc:PC R (pT b) [.bool true,sZ,.int .i64 0]]:Spec prog 90 [pT b] R [] λu H'=>u=.int .i64 0/\H'=[]:=by
 refine Spec.body func90 rfl results90 ntmps90 rfl ?_
 refine .sr<|.ag rfl<|.zs<|.sr<|.mo rfl ?_
 refine .aH (yp b _) (λv a=>?_)
 subst a
 refine .q .not<|.zn<|.bB<|.kn<|.sr<|.mo rfl<|.nc rfl<|.fa rfl<|.lo rfl<|.az rfl ?_
 refine .ret (aW rfl ?_)
 ·exact⟨rfl,rfl⟩
theorem Pz(b:Nat)(R:ao) [pc:PC R (pT b) [.bool true,sZ,.int .i64 0]]:Spec prog 92 [pT b] R [] λu H'=>u=sZ/\H'=[]:=by
 refine Spec.body func92 rfl results92 ntmps92 rfl ?_
 refine .sr<|.ag rfl<|.zs<|.sr<|.mo rfl ?_
 refine .aH (yp b _) (λv d=>?_)
 subst d
 refine .q .not<|.zn<|.bB<|.kn<|.sr<|.ag rfl<|.zs<|.sr<|.mo rfl<|.nc rfl<|.fa rfl<|.lo rfl<|.q (.eY rfl) ?_
 refine .mo rfl<|.zn<|.block ?_
 refine .loop (X:=Unit) (λ_=>True) (λ_=>[(3,sZ),(13,.int .i64 ((0:Nat):Int)),(14,.int .i64 0)]) (λ_=>[]) (λ_=>0) () aeX kE.c.c.c rH ?_
 rintro⟨⟩ _
 refine .sr<|.q .lss<|.zs ?_
 refine .cond rfl (λa=>?_) λa=>?_
 ·exfalso;simp at a
 refine .exit<|bk<|bw<|bq<|aG<|.sr<|.mo rfl<|.az rfl ?_
 refine .ret (aW rfl ?_)
 ·exact⟨rfl,rfl⟩
theorem tN(q a b c:Nat)(R:ao) [pc:PC R (pT q) [pT a,pT b,pT c]]:Spec prog 52 [pT q] R [] λu H'=>u=.bool true/\H'=[]:=by
 refine Spec.body func52 rfl results52 ntmps52 rfl ?_
 refine .sr<|.ag rfl<|.z<|.mo rfl<|.q (.jX rfl rfl) ?_
 refine .mo rfl<|.gt rfl ?_
 refine .mo rfl<|.gt rfl ?_
 refine .nc rfl<|.gt rfl ?_
 refine .fa rfl<|.gt rfl ?_
 refine .lo rfl<|.gt rfl ?_
 refine .q (.jm rfl rfl) ?_
 refine .q .dh<|.az rfl ?_
 refine .ret (aW rfl ?_)
 ·exact⟨rfl,rfl⟩
theorem PH(q a b c:Nat)(R:ao) [pc:PC R (pT q) [pT a,pT b,pT c]]:Spec prog 35 [pT q] R [] λu H'=>u=pT a/\H'=[]:=by
 refine Spec.body func35 rfl results35 ntmps35 rfl ?_
 refine .sr<|.ag rfl<|.zs<|.sr<|.mo rfl ?_
 refine .aH (tN q a b c _) (λv d=>?_)
 subst d
 refine .q .not<|.zn<|.bB<|.kn<|.sr<|.mo rfl<|.nc rfl<|.fa rfl<|.lo rfl<|.az rfl ?_
 refine .ret (aW rfl ?_)
 ·exact⟨rfl,rfl⟩
theorem NV(R:ao):Spec prog 42 [] R [] λu H'=>∃Tq Ta Tb Tc,H'=[Tq,Ta,Tb,Tc]/\∃q a b c,u=pT q/\Tq=(bl q [pT a,pT b,pT c] 103)/\CI a [] [] [] [] 0 0 Ta/\SI b ⟨[],0,0⟩ Tb/\Tc=(bl c [.bool true,sZ,.int .i64 0] 300):=by
 refine Spec.body func42 rfl results42 ntmps42 rfl ?_
 refine .sr<|.ag rfl<|.z ?_
 refine .bM (NQ _) (λu Ta d=>?_)
 obtain⟨a,rfl,e⟩:=d
 refine .bM (yn _) (λu Tb d=>?_)
 obtain⟨b,rfl,f⟩:=d
 refine .bM (yq _) (λu Tc d=>?_)
 obtain⟨c,rfl,g⟩:=d
 refine .q .cC ?_
 refine .cc rfl (λh=>?_)
 refine .az rfl ?_
 refine .ret (aO _ (.one (.tmp rfl)) (bG [0,2,1,0]) ?_)
 ·exact⟨_,_,_,_,rfl,_,a,b,c,rfl,rfl,e,f,g⟩
def ed:eT:=⟨1,7,⟨⟨#[]⟩,⟨#[]⟩,[],[]⟩,⟨#[]⟩,⟨#[]⟩,⟨#[]⟩,⟨#[]⟩,[],⟨#[]⟩,⟨#[]⟩,[],[],[],[],[],0⟩
theorem NU(e:Int)(R:ao):Spec prog 53 [.int .i64 e] R [] λu H'=>u=.agg [.string ⟨#[]⟩,.string ⟨#[]⟩,.int .u64 0,.int .i64 e].toArray/\H'=[]:=by
 refine Spec.body func53 rfl results53 ntmps53 rfl ?_
 refine .sr ?_
 refine .cn (λa=>?_)
 refine .z<|.mo rfl ?_
 refine .q .cC ?_
 refine .bZ rfl rfl<|.zn ?_
 refine .ret (aO _ (.one (.ej rfl rfl)) (.none _) ?_)
 ·exact⟨rfl,rfl⟩
theorem NC(q a:Nat)(b c d:Value)(R:ao) [pc:PC R (pT q) [pT a,b,c,d]]:Spec prog 71 [pT q] R [] λv H'=>v=pT a/\H'=[]:=by
 refine Spec.body func71 rfl results71 ntmps71 rfl ?_
 refine .sr<|.ag rfl<|.zs<|.sr<|.mo rfl ?_
 refine .aH (po q a b c d _) (λv e=>?_)
 subst e
 refine .q .not<|.zn<|.bB<|.kn<|.sr<|.mo rfl<|.nc rfl<|.fa rfl<|.lo rfl<|.az rfl ?_
 refine .ret (aW rfl ?_)
 ·exact⟨rfl,rfl⟩
theorem xE(q a g:Nat)(b d:Value)(R:ao) [pc:PC R (pT q) [pT a,b,pT g,d]]:Spec prog 81 [pT q] R [] λv H'=>v=pT g/\H'=[]:=by
 refine Spec.body func81 rfl results81 ntmps81 rfl ?_
 refine .sr<|.ag rfl<|.zs<|.sr<|.mo rfl ?_
 refine .aH (po q a b _ d _) (λv c=>?_)
 subst c
 refine .q .not<|.zn<|.bB<|.kn<|.sr<|.mo rfl<|.nc rfl<|.fa rfl<|.lo rfl<|.az rfl ?_
 refine .ret (aW rfl ?_)
 ·exact⟨rfl,rfl⟩
theorem xr{α β:Type}{f:α->β}{l:List α}(h:(l.map f).Perm []):l=[]:=by
 have:=h.length_eq
 simpa using this
theorem NR{H:Type}{enc:TypeId×Value->H}{W:World}{f:Nat}{cs:List Value}{x:DataW H×List MemPlace}(h:DataW.trod enc prog W 0 (λ_=>true) true f 30 cs=some x):∃(w:OW) (o:eT),cs=dq w o/\fO (Rw W) w o/\(-9223372036854775808<=o.n/\o.n<=9223372036854775807)/\o.rev<cm:=by
 obtain⟨B,a⟩:=nT underlying30 h
 have hc:prog.cellsOf 30=19:=by kernel_rfl
 rw[hc]at B
 have b:prog.cellsOf 2=1:=by kernel_rfl
 have J:prog.cellsOf 3=1:=by kernel_rfl
 have K:prog.cellsOf 9=1:=by kernel_rfl
 have C:prog.cellsOf 22=1:=by kernel_rfl
 have D:prog.cellsOf 24=4:=by kernel_rfl
 have E:prog.cellsOf 25=1:=by kernel_rfl
 have F:prog.cellsOf 26=1:=by kernel_rfl
 have G:prog.cellsOf 27=1:=by kernel_rfl
 have I:prog.cellsOf 28=1:=by kernel_rfl
 match cs,B with
 |[a0,a1,a2,a3,a4,a5,a6,a7,a8,a9,a10,a11,a12,a13,a14,a15,a16,a17,a18],_=>
  obtain⟨n0,y0,d⟩:∃n y,DataW.trod enc prog W 0 (λ_=>true) true n 3 (([a0,a1,a2,a3,a4,a5,a6,a7,a8,a9,a10,a11,a12,a13,a14,a15,a16,a17,a18].drop 0).take (prog.cellsOf 3))=some y:=a 0 _ rfl
  obtain⟨n1,y1,e⟩:∃n y,DataW.trod enc prog W 0 (λ_=>true) true n 2 (([a0,a1,a2,a3,a4,a5,a6,a7,a8,a9,a10,a11,a12,a13,a14,a15,a16,a17,a18].drop 1).take (prog.cellsOf 2))=some y:=a 1 _ rfl
  obtain⟨n2,y2,q⟩:∃n y,DataW.trod enc prog W 0 (λ_=>true) true n 24 (([a0,a1,a2,a3,a4,a5,a6,a7,a8,a9,a10,a11,a12,a13,a14,a15,a16,a17,a18].drop 2).take (prog.cellsOf 24))=some y:=a 2 _ rfl
  obtain⟨n3,y3,r⟩:∃n y,DataW.trod enc prog W 0 (λ_=>true) true n 9 (([a0,a1,a2,a3,a4,a5,a6,a7,a8,a9,a10,a11,a12,a13,a14,a15,a16,a17,a18].drop 6).take (prog.cellsOf 9))=some y:=a 3 _ rfl
  obtain⟨n4,y4,s⟩:∃n y,DataW.trod enc prog W 0 (λ_=>true) true n 9 (([a0,a1,a2,a3,a4,a5,a6,a7,a8,a9,a10,a11,a12,a13,a14,a15,a16,a17,a18].drop 7).take (prog.cellsOf 9))=some y:=a 4 _ rfl
  obtain⟨n5,y5,t⟩:∃n y,DataW.trod enc prog W 0 (λ_=>true) true n 9 (([a0,a1,a2,a3,a4,a5,a6,a7,a8,a9,a10,a11,a12,a13,a14,a15,a16,a17,a18].drop 8).take (prog.cellsOf 9))=some y:=a 5 _ rfl
  obtain⟨n6,y6,u⟩:∃n y,DataW.trod enc prog W 0 (λ_=>true) true n 9 (([a0,a1,a2,a3,a4,a5,a6,a7,a8,a9,a10,a11,a12,a13,a14,a15,a16,a17,a18].drop 9).take (prog.cellsOf 9))=some y:=a 6 _ rfl
  obtain⟨n7,y7,v⟩:∃n y,DataW.trod enc prog W 0 (λ_=>true) true n 22 (([a0,a1,a2,a3,a4,a5,a6,a7,a8,a9,a10,a11,a12,a13,a14,a15,a16,a17,a18].drop 10).take (prog.cellsOf 22))=some y:=a 7 _ rfl
  obtain⟨n8,y8,z⟩:∃n y,DataW.trod enc prog W 0 (λ_=>true) true n 9 (([a0,a1,a2,a3,a4,a5,a6,a7,a8,a9,a10,a11,a12,a13,a14,a15,a16,a17,a18].drop 11).take (prog.cellsOf 9))=some y:=a 8 _ rfl
  obtain⟨n9,y9,A⟩:∃n y,DataW.trod enc prog W 0 (λ_=>true) true n 9 (([a0,a1,a2,a3,a4,a5,a6,a7,a8,a9,a10,a11,a12,a13,a14,a15,a16,a17,a18].drop 12).take (prog.cellsOf 9))=some y:=a 9 _ rfl
  obtain⟨c6,d7,g⟩:∃n y,DataW.trod enc prog W 0 (λ_=>true) true n 25 (([a0,a1,a2,a3,a4,a5,a6,a7,a8,a9,a10,a11,a12,a13,a14,a15,a16,a17,a18].drop 13).take (prog.cellsOf 25))=some y:=a 10 _ rfl
  obtain⟨c7,d8,i⟩:∃n y,DataW.trod enc prog W 0 (λ_=>true) true n 25 (([a0,a1,a2,a3,a4,a5,a6,a7,a8,a9,a10,a11,a12,a13,a14,a15,a16,a17,a18].drop 14).take (prog.cellsOf 25))=some y:=a 11 _ rfl
  obtain⟨c8,d9,j⟩:∃n y,DataW.trod enc prog W 0 (λ_=>true) true n 26 (([a0,a1,a2,a3,a4,a5,a6,a7,a8,a9,a10,a11,a12,a13,a14,a15,a16,a17,a18].drop 15).take (prog.cellsOf 26))=some y:=a 12 _ rfl
  obtain⟨d0,f0,l⟩:∃n y,DataW.trod enc prog W 0 (λ_=>true) true n 26 (([a0,a1,a2,a3,a4,a5,a6,a7,a8,a9,a10,a11,a12,a13,a14,a15,a16,a17,a18].drop 16).take (prog.cellsOf 26))=some y:=a 13 _ rfl
  obtain⟨d1,f1,m⟩:∃n y,DataW.trod enc prog W 0 (λ_=>true) true n 27 (([a0,a1,a2,a3,a4,a5,a6,a7,a8,a9,a10,a11,a12,a13,a14,a15,a16,a17,a18].drop 17).take (prog.cellsOf 27))=some y:=a 14 _ rfl
  obtain⟨c,f2,p⟩:∃n y,DataW.trod enc prog W 0 (λ_=>true) true n 28 (([a0,a1,a2,a3,a4,a5,a6,a7,a8,a9,a10,a11,a12,a13,a14,a15,a16,a17,a18].drop 18).take (prog.cellsOf 28))=some y:=a 15 _ rfl
  simp only[b,J,K,C,D,E,F,G,I,List.drop_zero,List.drop_succ_cons,List.take_succ_cons,List.take_zero]at d e q r s t u v z A g i j l m p
  obtain⟨z0,L⟩:=MG (k:=.i64) d
  obtain⟨z1,M,l1,m1⟩:=sC (k:=.i64) e
  obtain⟨r2,b,V,b5⟩:=zZ q
  obtain⟨s3,X⟩:=mx r
  obtain⟨s4,Y⟩:=mx s
  obtain⟨s5,Z⟩:=mx t
  obtain⟨s6,e6⟩:=mx u
  obtain⟨v7,l7,e7,b6⟩:=tR v
  obtain⟨s8,e8⟩:=mx z
  obtain⟨s9,e9⟩:=mx A
  obtain⟨d2,b7,N,b0⟩:=uF g
  obtain⟨d3,b8,O,b1⟩:=uF i
  obtain⟨d4,b9,Q,b2,_⟩:=yK j
  obtain⟨d5,c0,S,b3,_⟩:=yK l
  obtain⟨d6,c1,T,b4,_⟩:=zU m
  obtain⟨f3,U,c4,c5⟩:=Qh p
  obtain⟨c,rfl⟩:=Int.eq_ofNat_of_zero_le c4
  cases L;cases M;cases V;cases X;cases Y;cases Z;cases e6;cases e7;cases e8;cases e9;cases N;cases O;cases Q;cases S;cases T;cases U
  exact⟨⟨r2,_,_,_,_,_,_⟩,⟨z0,z1,b,s3,s4,s5,s6,l7,s8,s9,b7,b8,b9,c0,c1,c⟩,rfl,⟨b5,b6,b0,b1,b2,b3,b4⟩,⟨l1,m1⟩,by show c<cm;unfold cm;omega⟩
theorem NY(R:ao):Spec prog 217 [sZ] R [] λv H'=>v=.tuple [sZ,.bool true].toArray/\H'=[]:=by
 refine Spec.body func217 rfl results217 ntmps217 rfl ?_
 refine .sr<|.ag rfl<|.ag rfl<|.z<|.ag rfl<|.zs<|.sr<|.mo rfl<|.q (.eY rfl) ?_
 refine .mo rfl<|.zn<|.block ?_
 refine .loop (X:=Unit) (λ_=>True) (λ_=>[(4,sZ),(9,sZ),(10,.int .i64 ((0:Nat):Int)),(11,.int .i64 0)]) (λ_=>[]) (λ_=>0) () aeX kE.c.c.c.c rH ?_
 rintro⟨⟩ _
 refine .sr<|.q .lss<|.zs ?_
 refine .cond rfl (λa=>?_) λa=>?_
 ·exfalso;simp at a
 refine .exit<|bk<|bw<|bq<|aG<|.sr<|.mo rfl<|.ag rfl<|.az rfl ?_
 refine .ret (aO _ (.two (.tmp rfl) (.tmp rfl)) (.none _) ?_)
 ·exact⟨rfl,rfl⟩
theorem nW{m n:Nat}{r:List UInt8}{s:Option (List UInt8)}(h:(some (put 0++r)).bind (iZ m)=s.map λq=>(n,q)):n=0/\s=some r:=by
 have e:iZ m (put 0++r)=some (0,r):=((kR m).h _ _ _).2 ⟨rfl,by decide,Nat.zero_le _⟩
 rw[Option.bind_some,e]at h
 cases s with
 |none=>cases h
 |some q=>simp only[Option.map_some,Option.some.injEq,Prod.mk.injEq]at h;exact⟨h.1.symm,by rw[h.2]⟩
theorem pE{x t:Nat}{r:List UInt8}{s:Option (List UInt8)}(a:t<cm)(h:(some (put t++r)).bind gY=s.map λq=>(x,q)):x=t/\s=some r:=by
 have e:gY (put t++r)=some (t,r):=(oV.h _ _ _).2 ⟨rfl,a⟩
 rw[Option.bind_some,e]at h
 cases s with
 |none=>cases h
 |some q=>simp only[Option.map_some,Option.some.injEq,Prod.mk.injEq]at h;exact⟨h.1.symm,by rw[h.2]⟩
theorem OT(b:Nat)(r:List UInt8)(T:au)(h:de b (some (put 0++r)) T)(R:ao):Spec prog 205 [pT b,.func (.func 118) #[] #[]] R [T] λu H'=>∃T',H'=[T']/\u=sZ/\de b (some r) T':=by
 refine Spec.body func205 rfl results205 ntmps205 rfl ?_
 refine .sr<|.ag rfl<|.z<|.ag rfl<|.zs<|.sr<|.mo rfl ?_
 refine .aT (kI b _ T h 4096 (by decide) _) (λu a g=>?_)
 obtain⟨n,j,rfl,i,e,f⟩:=g
 obtain⟨rfl,rfl⟩:=nW f
 refine .mo rfl<|.zn<|.block ?_
 refine .loop (X:=Unit) (λ_=>True) (λ_=>[(0,pT b),(1,.func (.func 118) #[] #[]),(5,sZ),(7,.int .i64 ((0:Nat):Int)),(8,.int .i64 ((0:Nat):Int))]) (λ_=>[a]) (λ_=>0) () aeX kE.c.c.c.c.c rH ?_
 rintro⟨⟩ _
 refine .sr<|.q .lss<|.zs ?_
 refine .cond rfl (λd=>?_) λd=>?_
 ·exfalso;simp at d
 refine .exit<|bk<|bw<|bq<|aG<|.sr<|.mo rfl<|.az rfl ?_
 refine .ret (aO _ (.one (.tmp rfl)) (.one [0] _) ?_)
 ·exact⟨a,by simp[take],rfl,e⟩
theorem OY(b:Nat)(r:List UInt8)(T:au)(h:de b (some (put 0++r)) T)(R:ao):Spec prog 207 [pT b,.func (.func 208) #[] #[]] R [T] λu H'=>∃T',H'=[T']/\u=sZ/\de b (some r) T':=by
 refine Spec.body func207 rfl results207 ntmps207 rfl ?_
 refine .sr<|.ag rfl<|.z<|.ag rfl<|.zs<|.sr<|.mo rfl ?_
 refine .aT (kI b _ T h 4096 (by decide) _) (λu a g=>?_)
 obtain⟨n,j,rfl,i,e,f⟩:=g
 obtain⟨rfl,rfl⟩:=nW f
 refine .mo rfl<|.zn<|.block ?_
 refine .loop (X:=Unit) (λ_=>True) (λ_=>[(0,pT b),(1,.func (.func 208) #[] #[]),(5,sZ),(7,.int .i64 ((0:Nat):Int)),(8,.int .i64 ((0:Nat):Int))]) (λ_=>[a]) (λ_=>0) () aeX kE.c.c.c.c.c rH ?_
 rintro⟨⟩ _
 refine .sr<|.q .lss<|.zs ?_
 refine .cond rfl (λd=>?_) λd=>?_
 ·exfalso;simp at d
 refine .exit<|bk<|bw<|bq<|aG<|.sr<|.mo rfl<|.az rfl ?_
 refine .ret (aO _ (.one (.tmp rfl)) (.one [0] _) ?_)
 ·exact⟨a,by simp[take],rfl,e⟩
theorem OU(b:Nat)(r:List UInt8)(T:au)(h:de b (some (put 0++r)) T)(R:ao):Spec prog 209 [pT b,.func (.func 210) #[] #[]] R [T] λu H'=>∃T',H'=[T']/\u=sZ/\de b (some r) T':=by
 refine Spec.body func209 rfl results209 ntmps209 rfl ?_
 refine .sr<|.ag rfl<|.z<|.ag rfl<|.zs<|.sr<|.mo rfl ?_
 refine .aT (kI b _ T h 4096 (by decide) _) (λu a g=>?_)
 obtain⟨n,j,rfl,i,e,f⟩:=g
 obtain⟨rfl,rfl⟩:=nW f
 refine .mo rfl<|.zn<|.block ?_
 refine .loop (X:=Unit) (λ_=>True) (λ_=>[(0,pT b),(1,.func (.func 210) #[] #[]),(5,sZ),(7,.int .i64 ((0:Nat):Int)),(8,.int .i64 ((0:Nat):Int))]) (λ_=>[a]) (λ_=>0) () aeX kE.c.c.c.c.c rH ?_
 rintro⟨⟩ _
 refine .sr<|.q .lss<|.zs ?_
 refine .cond rfl (λd=>?_) λd=>?_
 ·exfalso;simp at d
 refine .exit<|bk<|bw<|bq<|aG<|.sr<|.mo rfl<|.az rfl ?_
 refine .ret (aO _ (.one (.tmp rfl)) (.one [0] _) ?_)
 ·exact⟨a,by simp[take],rfl,e⟩
theorem O0(b:Nat)(r:List UInt8)(T:au)(h:de b (some (put 0++r)) T)(R:ao):Spec prog 212 [pT b,.func (.func 213) #[] #[]] R [T] λu H'=>∃T',H'=[T']/\u=sZ/\de b (some r) T':=by
 refine Spec.body func212 rfl results212 ntmps212 rfl ?_
 refine .sr<|.ag rfl<|.z<|.ag rfl<|.zs<|.sr<|.mo rfl ?_
 refine .aT (kI b _ T h 4096 (by decide) _) (λu a g=>?_)
 obtain⟨n,j,rfl,i,e,f⟩:=g
 obtain⟨rfl,rfl⟩:=nW f
 refine .mo rfl<|.zn<|.block ?_
 refine .loop (X:=Unit) (λ_=>True) (λ_=>[(0,pT b),(1,.func (.func 213) #[] #[]),(5,sZ),(7,.int .i64 ((0:Nat):Int)),(8,.int .i64 ((0:Nat):Int))]) (λ_=>[a]) (λ_=>0) () aeX kE.c.c.c.c.c rH ?_
 rintro⟨⟩ _
 refine .sr<|.q .lss<|.zs ?_
 refine .cond rfl (λd=>?_) λd=>?_
 ·exfalso;simp at d
 refine .exit<|bk<|bw<|bq<|aG<|.sr<|.mo rfl<|.az rfl ?_
 refine .ret (aO _ (.one (.tmp rfl)) (.one [0] _) ?_)
 ·exact⟨a,by simp[take],rfl,e⟩
theorem OZ(b:Nat)(r:List UInt8)(T:au)(h:de b (some (put 0++r)) T)(R:ao):Spec prog 215 [pT b,.func (.func 216) #[] #[]] R [T] λu H'=>∃T',H'=[T']/\u=sZ/\de b (some r) T':=by
 refine Spec.body func215 rfl results215 ntmps215 rfl ?_
 refine .sr<|.ag rfl<|.z<|.ag rfl<|.zs<|.sr<|.mo rfl ?_
 refine .aT (kI b _ T h 4096 (by decide) _) (λu a g=>?_)
 obtain⟨n,j,rfl,i,e,f⟩:=g
 obtain⟨rfl,rfl⟩:=nW f
 refine .mo rfl<|.zn<|.block ?_
 refine .loop (X:=Unit) (λ_=>True) (λ_=>[(0,pT b),(1,.func (.func 216) #[] #[]),(5,sZ),(7,.int .i64 ((0:Nat):Int)),(8,.int .i64 ((0:Nat):Int))]) (λ_=>[a]) (λ_=>0) () aeX kE.c.c.c.c.c rH ?_
 rintro⟨⟩ _
 refine .sr<|.q .lss<|.zs ?_
 refine .cond rfl (λd=>?_) λd=>?_
 ·exfalso;simp at d
 refine .exit<|bk<|bw<|bq<|aG<|.sr<|.mo rfl<|.az rfl ?_
 refine .ret (aO _ (.one (.tmp rfl)) (.one [0] _) ?_)
 ·exact⟨a,by simp[take],rfl,e⟩
theorem O1(b:Nat)(r:List UInt8)(T:au)(h:de b (some (put 0++r)) T)(R:ao):Spec prog 218 [pT b,.func (.func 219) #[] #[]] R [T] λu H'=>∃T',H'=[T']/\u=sZ/\de b (some r) T':=by
 refine Spec.body func218 rfl results218 ntmps218 rfl ?_
 refine .sr<|.ag rfl<|.z<|.ag rfl<|.zs<|.sr<|.mo rfl ?_
 refine .aT (kI b _ T h 4096 (by decide) _) (λu a g=>?_)
 obtain⟨n,j,rfl,i,e,f⟩:=g
 obtain⟨rfl,rfl⟩:=nW f
 refine .mo rfl<|.zn<|.block ?_
 refine .loop (X:=Unit) (λ_=>True) (λ_=>[(0,pT b),(1,.func (.func 219) #[] #[]),(5,sZ),(7,.int .i64 ((0:Nat):Int)),(8,.int .i64 ((0:Nat):Int))]) (λ_=>[a]) (λ_=>0) () aeX kE.c.c.c.c.c rH ?_
 rintro⟨⟩ _
 refine .sr<|.q .lss<|.zs ?_
 refine .cond rfl (λd=>?_) λd=>?_
 ·exfalso;simp at d
 refine .exit<|bk<|bw<|bq<|aG<|.sr<|.mo rfl<|.az rfl ?_
 refine .ret (aO _ (.one (.tmp rfl)) (.one [0] _) ?_)
 ·exact⟨a,by simp[take],rfl,e⟩
def iB(t:Nat):List UInt8:=put t++put 0++put 0++put 0++put 0++put 0++put 0++put 0++put 0++put 0++put 0
theorem NS(t:Nat)(ht:t<=1125899906842624)(q a b c:Nat)(m n:au)(hA:CI a [] [] [] [] 0 (t:Nat) m)(hB:SI b ⟨[],0,0⟩ n)(R:ao)(hq:PC R (pT q) [pT a,pT b,pT c])(h:∀p∈m,R p.1 p.2)(rb:∀p∈n,R p.1 p.2)(hc:PC R (pT c) [.bool true,sZ,.int .i64 0]):
  Spec prog 26 [pT q] R [] λu H'=>∃T,H'=[T]/\OS 5 1 bS u (iB t) T:=by
 obtain⟨ps,vf,vr,Mf,Mr,l⟩:=hB.view (R:=R) rb
 obtain⟨g,i,j,U,r,s,rfl,hR,y,B⟩:=hA
 have pa:PC R (pT a) [pT g,pT i,pT j,iN t]:=PC.of (E:=194) (fr:=(0,0)) (h _ (List.mem_cons_self))
 have p0:=mT (x:=0) (by decide)
 have C:t<cm:=by unfold cm;omega
 have p7:=mT C
 refine Spec.body func26 rfl results26 ntmps26 rfl ?_
 refine .sr<|.ag rfl<|.zs<|.sr<|.mo rfl ?_
 refine .aH (tN q a b c _) (λv d=>?_)
 subst d
 refine .q .not<|.zn<|.bB<|.kn<|.sr ?_
 refine .bM (yS _) (λu D e=>?_)
 obtain⟨w,rfl,b0⟩:=e
 refine .ag rfl<|.z<|.mo rfl<|.mo rfl<|.nc rfl<|.fa rfl<|.lo rfl ?_
 refine .aH (xA a g _ _ _ _) (λv d=>?_)
 subst d
 refine .q (.fU (a:=t) rfl (by omega)) ?_
 refine .aT (fV w _ D b0 t C (by simp) _) (λu F e=>?_)
 obtain⟨rfl,b1⟩:=e
 refine .z<|.mo rfl<|.mo rfl<|.nc rfl<|.fa rfl<|.lo rfl ?_
 refine .aH (NC a g _ _ _ _) (λv d=>?_)
 subst d
 refine .bM (z2 g [] U hR (by simp) _ (λp f=>.inl (h p (by simp[f])))) (λu D1 e=>?_)
 obtain⟨l1,Do,Di,rfl,a0,_,c2,_⟩:=e
 obtain rfl:=xr c2
 obtain⟨V,k1,rfl,_⟩:=a0.shape
 refine .aT (NI w _ F b1 (by simp only[ae0,ae1];omega) V k1 _) (λu J b4=>?_)
 refine .z<|.mo rfl<|.mo rfl<|.nc rfl<|.fa rfl<|.lo rfl ?_
 refine .aH (xw a g i _ _ _) (λv d=>?_)
 subst d
 refine .bM (Ml i [] [] r y (by simp) (by simp) _ (λp f=>.inl (h p (by simp[f])))) (λu D2 e=>?_)
 obtain⟨l2,d0,c7,rfl,a6,_,c3,_⟩:=e
 obtain rfl:=xr c3
 obtain⟨W,k2,rfl,_⟩:=a6.shape
 refine .aT (NK w _ J b4 (by simp only[ae0,ae1];omega) W k2 _) (λu K b5=>?_)
 refine .z<|.mo rfl<|.mo rfl<|.nc rfl<|.fa rfl<|.lo rfl ?_
 refine .aH (xw a g i _ _ _) (λv d=>?_)
 subst d
 refine .bM (Mk i [] [] r y (by simp) _ (λp f=>.inl (h p (by simp[f])))) (λu D3 e=>?_)
 obtain⟨l3,d1,c8,rfl,a7,_,c4,_⟩:=e
 obtain rfl:l3=[]:=by have:=c4.length_eq;simpa[iR,dm]using this
 obtain⟨X,k3,rfl,_⟩:=a7.shape
 refine .aT (NJ w _ K b5 (by simp only[ae0,ae1];omega) X k3 _) (λu L b6=>?_)
 refine .z<|.mo rfl<|.mo rfl<|.nc rfl<|.fa rfl<|.lo rfl ?_
 refine .aH (xE a g j _ _ _) (λv d=>?_)
 subst d
 refine .aH (Qp j [] 0 s B _ (λp f=>.inl (h p (by simp[f])))) (λv d=>?_)
 subst d
 refine .q (.fU (a:=0) rfl (by decide)) ?_
 refine .aT (fV w _ L b6 0 (by decide) (by simp only[ae0,ae1];omega) _) (λu M e=>?_)
 obtain⟨rfl,b7⟩:=e
 refine .z<|.mo rfl<|.mo rfl<|.nc rfl<|.fa rfl<|.lo rfl ?_
 refine .aH (xE a g j _ _ _) (λv d=>?_)
 subst d
 refine .bM (Qq j [] 0 s B (by simp) _ (λp f=>.inl (h p (by simp[f])))) (λu D4 e=>?_)
 obtain⟨l4,d2,c9,rfl,a8,_,c5,_⟩:=e
 obtain rfl:l4=[]:=by have:=c5.length_eq;simpa[kv,cN]using this
 obtain⟨Y,k4,rfl,_⟩:=a8.shape
 refine .aT (NM w _ M b7 (by simp only[ae0,ae1];omega) Y k4 _) (λu N b8=>?_)
 refine .zs<|.cq [6,12] mixed ?_
 refine .tO 0 rfl .move<|.tO 1 rfl .move<|.tO 2 rfl (.nilCheck rfl)<|.tO 3 rfl (.fieldAddr rfl)<|.tO 4 rfl (.bo rfl)<|.tK 7 rfl .move ?_
 refine .tK 8 rfl (.pn rfl) ?_
 refine .tK 9 rfl (.dU rfl) ?_
 refine .tK 10 rfl (.bo rfl) ?_
 refine .sT 5 rfl ?_
 refine .aH (l.mono λb o k=>.inl k).head (λv d=>?_)
 subst d
 refine .nil (Next.sub ?_)
 refine .sT 6 rfl ?_
 refine .aT (fV w _ N b8 0 (by decide) (by simp only[ae0,ae1];omega) _) (λu O e=>?_)
 obtain⟨rfl,b9⟩:=e
 refine .nil (Next.mod rfl ?_)
 refine .sT 11 rfl ?_
 refine .aH (l.mono λb o k=>.inl k).Mz (λv d=>?_)
 subst d
 refine .nil (Next.mod rfl ?_)
 refine .sT 12 rfl ?_
 refine .aT (fV w _ O b9 0 (by decide) (by simp only[ae0,ae1];omega) _) (λu Q e=>?_)
 obtain⟨rfl,c0⟩:=e
 refine .nil (Next.mod rfl ?_)
 refine RA.nil (by kernel_rfl) ?_
 refine aG<|.sr<|.mo rfl<|.mo rfl<|.nc rfl<|.fa rfl<|.lo rfl ?_
 refine .bM (OB (l.mono λb o k=>.inl k) (by simp)) (λu D5 e=>?_)
 obtain⟨l5,a9,c6,_⟩:=e
 obtain rfl:l5=[]:=List.Perm.eq_nil c6
 obtain⟨Z,k5,rfl,_⟩:=a9.shape
 refine .aT (NL w _ Q c0 (by simp only[ae0,ae1];omega) Z k5 _) (λu S c1=>?_)
 refine .z<|.mo rfl<|.mo rfl<|.nc rfl<|.fa rfl<|.lo rfl ?_
 refine .aH (Pv c _) (λv d=>?_)
 subst d
 refine .q (.fU (a:=0) rfl (by decide)) ?_
 refine .aT (fV w _ S c1 0 (by decide) (by simp only[ae0,ae1];omega) _) (λu G e=>?_)
 obtain⟨rfl,b2⟩:=e
 refine .z<|.mo rfl<|.mo rfl<|.nc rfl<|.fa rfl<|.lo rfl ?_
 refine .aH (Pz c _) (λv d=>?_)
 subst d
 refine .aT (NN w _ G b2 (by simp only[ae0,ae1];omega) none 0 _) (λu H b3=>?_)
 refine .z<|.mo rfl ?_
 refine .bM (yQ w _ H b3 (by simp only[ae0,ae1];omega) _ (λp f=>.inr (by simp[f]))) (λu I A=>?_)
 have iO:=A.ay
 refine .az rfl ?_
 refine .ret (aO _ (.one (.tmp rfl)) (.one [0] _) ?_)
 ·exact⟨I,by simp[take],A⟩
theorem PA(R:ao):Spec prog 220 [sZ,iN 0] R [] λv H'=>∃T,H'=[T]/\∃b,v=.tuple [pT b,.int .i64 0].toArray/\T=(bl b [.bool true,sZ,.int .i64 0] 300):=by
 refine Spec.body func220 rfl results220 ntmps220 rfl ?_
 refine .sr<|.ag rfl<|.ag rfl<|.z ?_
 refine .bM (yq _) (λu f e=>?_)
 obtain⟨b,rfl,rfl⟩:=e
 refine .ag rfl<|.zs<|.sr<|.mo rfl<|.q .lss<|.zn ?_
 refine .cond rfl (λa=>?_) λa=>?_
 ·exfalso;simp at a
 refine .kn<|.seq<|.sr<|.mo rfl<|.q (.eY rfl) ?_
 refine .mo rfl<|.zn<|.block ?_
 refine .loop (X:=Unit) (λ_=>True) (λ_=>[(1,iN 0),(6,pT b),(12,sZ),(13,.int .i64 ((0:Nat):Int)),(14,.int .i64 0)]) (λ_=>[bl b [.bool true,sZ,.int .i64 0] 300]) (λ_=>0) () aeX kE.c.c.c.c.c rH ?_
 rintro⟨⟩ _
 refine .sr<|.q .lss<|.zs ?_
 refine .cond rfl (λd=>?_) λd=>?_
 ·exfalso;simp at d
 refine .exit<|bk<|bw<|bq<|aG<|.sr<|.mo rfl<|.mo rfl<|.nc rfl<|.fa rfl<|.ca rfl rfl<|.z<|.mo rfl<|.ag rfl<|.az rfl ?_
 refine .ret (aO _ (.two (.tmp rfl) (.tmp rfl)) (.one [0] _) ?_)
 ·exact⟨_,rfl,b,rfl,by simp[take,bT]⟩
theorem NW(t:Nat)(ht:t<=1125899906842624)(b:Nat)(T:au)(h:de b (some (iB t)) T)(R:ao):Spec prog 116 [pT b] R [T] λu H'=>∃Tq Ta Tb Tc,H'=[Tq,Ta,Tb,Tc]/\∃q a b c,u=pT q/\Tq=(bl q [pT a,pT b,pT c] 103)/\CI a [] [] [] [] 0 (t:Nat) Ta/\SI b ⟨[],0,0⟩ Tb/\Tc=(bl c [.bool true,sZ,.int .i64 0] 300):=by
 have a3:t<cm:=by unfold cm;omega
 have C:∀x:Nat,x<=1125899906842624->IntKind.i64.wrap (x:Int)=x:=λx hx=>lj (by omega) (by omega)
 have hB:iB t=put t++(put 0++(put 0++(put 0++(put 0++(put 0++(put 0++(put 0++(put 0++(put 0++(put 0++[])))))))))):=by simp[iB]
 rw[hB]at h
 refine Spec.body func116 rfl results116 ntmps116 rfl ?_
 refine .sr<|.ag rfl<|.z<|.mo rfl ?_
 refine .aT (lM b _ T h _) (λu I d=>?_)
 obtain⟨r,s1,rfl,a5,h1,Y⟩:=d
 obtain⟨rfl,rfl⟩:=pE a3 Y
 refine .q (.cast (v':=iN r) .fv (ae2 (Value.int .i64) (C r ht))) ?_
 refine .ag rfl<|.z<|.mo rfl ?_
 refine .aT (OT b _ I h1 _) (λu L d=>?_)
 obtain⟨rfl,h2⟩:=d
 refine .bM (Nf (sZ) [] _ RS.mg (λp f=>by cases f) (λp f=>by cases f)) (λu s d=>?_)
 obtain⟨m,rfl,hC⟩:∃g,u=.tuple [pT g,.int .i64 0].toArray/\RI g [] s:=by
  rcases d with⟨_,g,i,j⟩|⟨i,_⟩
  ·exact⟨g,i,j⟩
  ·exact absurd i (by decide)
 refine .mo rfl<|.q .extract<|.q .extract<|.ag rfl<|.ag rfl<|.zs<|.sr<|.mo rfl<|.q .cb<|.zn<|.bB<|.kn<|.sr<|.mo rfl ?_
 refine .aT (OY b _ L h2 _) (λu M d=>?_)
 obtain⟨rfl,h3⟩:=d
 refine .mo rfl ?_
 refine .aT (OU b _ M h3 _) (λu N d=>?_)
 obtain⟨rfl,h4⟩:=d
 refine .bM (Mt (sZ) (sZ) [] [] _ RS.mg (λp f=>by cases f) (λp f=>by cases f) RS.mg (λp f=>by cases f) (λp f=>by cases f)) (λu v d=>?_)
 obtain⟨n,rfl,hG⟩:∃g,u=.tuple [pT g,.int .i64 0].toArray/\GI g [] [] v:=by
  rcases d with⟨_,g,i,j⟩|⟨i,_⟩
  ·exact⟨g,i,j⟩
  ·exact absurd i (by simp[eE,jA,lp])
 refine .mo rfl<|.q .extract<|.q .extract<|.ag rfl<|.ag rfl<|.zs<|.sr<|.mo rfl<|.q .cb<|.zn<|.bB<|.kn<|.sr<|.mo rfl ?_
 refine .aT (lM b _ N h4 _) (λu O d=>?_)
 obtain⟨x5,s5,rfl,a7,a1,e5⟩:=d
 obtain⟨rfl,rfl⟩:=pE (by decide) e5
 refine .q (.cast (v':=.int .i64 0) .fv (ae2 (Value.int .i64) (C 0 (by omega)))) ?_
 refine .ag rfl<|.z<|.mo rfl ?_
 refine .aT (O0 b _ O a1 _) (λu Q d=>?_)
 obtain⟨rfl,h6⟩:=d
 refine .mo rfl ?_
 refine .bM (Qr (sZ) [] 0 _ RS.mg (λp f=>by cases f) (λp f=>by cases f)) (λu w d=>?_)
 obtain⟨o,rfl,hV⟩:∃g,u=.tuple [pT g,.int .i64 0].toArray/\VI g [] 0 w:=by
  rcases d with⟨_,g,i,j⟩|⟨i,_⟩
  ·exact⟨g,i,j⟩
  ·exact absurd i (by decide)
 refine .mo rfl<|.q .extract<|.q .extract<|.ag rfl<|.ag rfl<|.zs<|.sr<|.mo rfl<|.q .cb<|.zn<|.bB<|.kn<|.sr<|.mo rfl ?_
 refine .aT (lM b _ Q h6 _) (λu S d=>?_)
 obtain⟨x7,s7,rfl,a8,h7,e7⟩:=d
 obtain⟨rfl,rfl⟩:=pE (by decide) e7
 refine .mo rfl ?_
 refine .aT (lM b _ S h7 _) (λu U d=>?_)
 obtain⟨x8,s8,rfl,a9,j,e8⟩:=d
 obtain⟨rfl,rfl⟩:=pE (by decide) e8
 refine .ag rfl<|.ag rfl<|.z<|.mo rfl ?_
 refine .aT (OZ b _ U j _) (λu V d=>?_)
 obtain⟨rfl,i⟩:=d
 refine .mo rfl<|.mo rfl ?_
 refine .bM (PL (sZ) [] 0 0 _ RS.mg (λp f=>by cases f)) (λu D d=>?_)
 obtain⟨F,rfl,hS⟩:∃g,u=.tuple [pT g,.int .i64 0].toArray/\SI g ⟨[],0,0⟩ D:=by
  obtain⟨p,e,y,A⟩:=d
  rcases A with⟨_,rfl,g,rfl,B⟩|⟨B,_,_⟩
  ·exact⟨g,y,B⟩
  ·exact absurd (by simp[mX,ob]) B
 refine .mo rfl<|.q .extract<|.q .extract<|.ag rfl<|.ag rfl<|.zs<|.sr<|.mo rfl<|.q .cb<|.zn<|.bB<|.kn<|.sr<|.mo rfl ?_
 refine .aT (lM b _ V i _) (λu J d=>?_)
 obtain⟨b1,b0,rfl,a6,y,Z⟩:=d
 obtain⟨rfl,rfl⟩:=pE (by decide) Z
 refine .q (.cast (v':=iN 0) .fv (ae2 (Value.int .i64) (C 0 (by omega)))) ?_
 refine .ag rfl<|.z<|.mo rfl ?_
 refine .aT (O1 b _ J y _) (λu K d=>?_)
 obtain⟨rfl,A⟩:=d
 refine .aH (NY _) (λu d=>?_)
 subst d
 refine .mo rfl<|.q .extract<|.q .extract<|.ag rfl<|.ag rfl<|.z<|.mo rfl<|.mo rfl ?_
 refine .bM (PA _) (λu W d=>?_)
 obtain⟨E,rfl,hH⟩:=d
 refine .mo rfl<|.q .extract<|.q .extract<|.ag rfl<|.ag rfl<|.zs<|.sr<|.mo rfl<|.q .not<|.mo rfl ?_
 refine .split (t:=81) rfl (λl=>?_) (λl=>?_)
 ·simp at l
 refine .gT l<|.mo rfl<|.gT l<|.q .cb<|.q (.bg l) ?_
 refine .mo rfl ?_
 refine .split (t:=85) rfl (λk=>?_) (λk=>?_)
 ·simp at k
 refine .gT k<|.mo rfl<|.gT k ?_
 refine .aH (xV b _ K A _ (λp f=>.inr (by simp[f]))) (λu d=>?_)
 obtain⟨a4,rfl,a2⟩:=d
 obtain rfl:=a2.2 rfl
 refine .gT k<|.q .cb<|.q (.bg k) ?_
 refine .zn ?_
 refine .cond rfl (λH=>?_) λH=>?_
 ·exfalso
  simp at H
 refine .kn<|.sr<|.mo rfl<|.mo rfl<|.mo rfl<|.mo rfl ?_
 refine .call [] (NO m n o _ _) (λu H' d=>?_)
 obtain⟨q,rfl,rfl⟩:∃q,u=.tuple [pT q,.int .i64 0].toArray/\H'=[bl q [pT m,pT n,pT o,iN r] 194]:=by
  rcases d with⟨G,_⟩|⟨_,_,q,G,a0⟩
  ·omega
  ·exact⟨q,G,a0⟩
 conv=>arg 8;simp only[rest,bf,aeY,aeZ]
 refine .mo rfl<|.q .extract<|.q .extract<|.ag rfl<|.ag rfl<|.zs<|.sr<|.mo rfl<|.q .cb<|.zn<|.bB<|.kn<|.sr<|.mo rfl<|.mo rfl<|.mo rfl ?_
 refine .q .cC ?_
 refine .cc rfl (λX=>?_)
 refine .az rfl ?_
 refine .ret (aO _ (.one (.tmp rfl)) ((bG [0,0,4,3,2,1,0]).trans (bu.cu (H':=[bl X [pT q,pT F,pT E] 103,(q,.cells [pT m,pT n,pT o,iN r].toArray 194 (0,0))::(s++(v++w)),D,W]) (by simp[take,bf,bT]))) ?_)
 ·exact⟨_,_,_,_,rfl,_,q,F,E,rfl,rfl,⟨m,n,o,s,v,w,rfl,hC,hG,hV⟩,hS,hH⟩
def jf(t q:Nat)(Tq Ta Tb Tc:au):Prop:=∃a b c,Tq=(bl q [pT a,pT b,pT c] 103)/\CI a [] [] [] [] 0 (t:Nat) Ta/\SI b ⟨[],0,0⟩ Tb/\Tc=(bl c [.bool true,sZ,.int .i64 0] 300)
theorem PE{t:Nat}(b:t<=1125899906842624):(iB t).length<=1000:=by
 have a:t<cm:=by unfold cm;omega
 have d:=mT a
 have c:=mT (x:=0) (by decide)
 unfold iB
 simp only[ae0]
 omega
theorem ra(t:Nat)(k:t<=1125899906842624)(q:Nat)(g d e f:au)(h:jf t q g d e f)(R:ao)(n:∀p∈g,R p.1 p.2)(l:∀p∈d,R p.1 p.2)(m:∀p∈e,R p.1 p.2)(rc:∀p∈f,R p.1 p.2):
  Spec prog 26 [pT q] R [] λu H'=>∃T,H'=[T]/\OS 5 1 bS u (iB t) T:=by
 obtain⟨a,b,c,rfl,i,j,rfl⟩:=h
 exact NS t k q a b c d e i j R (PC.of (E:=103) (fr:=(0,0)) (n _ (ae3.2 rfl))) l m (PC.of (E:=300) (fr:=(0,0)) (rc _ (ae3.2 rfl)))
theorem PK(t:Nat)(f:t<=1125899906842624)(v:Value)(R:ao)(g:RS R 1 bS v (iB t)):Spec prog 47 [v] R [] λu H'=>∃Tq Ta Tb Tc,H'=[Tq,Ta,Tb,Tc]/\∃q,u=.tuple [pT q,.int .i64 0].toArray/\jf t q Tq Ta Tb Tc:=by
 have r:=g.ay
 have n:=PE f
 refine Spec.body func47 rfl results47 ntmps47 rfl ?_
 refine .sr<|.ag rfl<|.ag rfl<|.z<|.mo rfl ?_
 refine .bM (xZ v (iB t) _ g.rx (by omega)) (λu T e=>?_)
 obtain⟨b,rfl,k⟩:=e
 refine .call [0] (NW t f b T k _) (λu H' e=>?_)
 obtain⟨Tq,Ta,Tb,Tc,rfl,q,a,j,c,rfl,l⟩:=e
 have i:jf t q Tq Ta Tb Tc:=⟨a,j,c,l⟩
 conv=>arg 8;simp only[rest,bf,aeY,aeZ]
 refine .ag rfl<|.zs<|.sr<|.mo rfl<|.q (.nG rfl rfl) ?_
 refine .mo rfl<|.gt rfl ?_
 refine .mo rfl<|.gt rfl ?_
 refine .bM (ra t f q Tq Ta Tb Tc i _ (λp d=>.inr (by simp[d])) (λp d=>.inr (by simp[d])) (λp d=>.inr (by simp[d])) (λp d=>.inr (by simp[d]))) (λu m h=>?_)
 have o:=h.ay
 refine .gt rfl ?_
 refine .mo rfl<|.gt rfl ?_
 refine .aH (sD _ _ (iB t) (iB t) _ (h.rs λp d=>.inr (by simp[d])) g.rx) (λu e=>?_)
 rw[decide_eq_true rfl]at e
 subst e
 refine .gt rfl ?_
 refine .q .not<|.q .cd<|.zn<|.bB<|.kn<|.sr<|.mo rfl<|.ag rfl<|.az rfl ?_
 refine .ret (aO _ (.two (.tmp rfl) (.tmp rfl)) (bG [1,1,1,1]) ?_)
 ·exact⟨Tq,Ta,Tb,Tc,rfl,q,rfl,i⟩
theorem PI(t:Nat)(g:t<=1125899906842624)(q:Nat)(e b c d:au)(h:jf t q e b c d)(R:ao)(v:∀p∈e,R p.1 p.2)(r:∀p∈b,R p.1 p.2)(s:∀p∈c,R p.1 p.2)(rc:∀p∈d,R p.1 p.2):
  Spec prog 23 [pT q] R [] λu H'=>∃e b c d,H'=[e,b,c,d]/\∃q,u=pT q/\jf t q e b c d:=by
 refine Spec.body func23 rfl results23 ntmps23 rfl ?_
 refine .sr<|.ag rfl<|.z<|.mo rfl ?_
 refine .bM (ra t g q e b c d h _ (λp a=>.inl (v p a)) (λp a=>.inl (r p a)) (λp a=>.inl (s p a)) (λp a=>.inl (rc p a))) (λu x f=>?_)
 have y:=f.ay
 refine .call [] (PK t g u _ (f.rs λp a=>.inr (by simp[rest,bf,a]))) (λA w n=>?_)
 obtain⟨l,i,j,k,rfl,o,rfl,m⟩:=n
 conv=>arg 8;simp only[rest,bf,aeY,aeZ]
 refine .mo rfl<|.q .extract<|.q .extract<|.ag rfl<|.ag rfl<|.z<|.mo rfl<|.az rfl ?_
 refine .ret (aO _ (.one (.tmp rfl)) (bG [0,0,0,0]) ?_)
 ·exact⟨l,i,j,k,rfl,o,rfl,m⟩
theorem PJ(R:ao):Spec prog 42 [] R [] λu H'=>∃Tq Ta Tb Tc,H'=[Tq,Ta,Tb,Tc]/\∃q,u=pT q/\jf 0 q Tq Ta Tb Tc:=
 Spec.mono (NV R) λu H' g=>by
  obtain⟨Tq,Ta,Tb,Tc,d,q,a,b,c,e,f⟩:=g
  exact⟨Tq,Ta,Tb,Tc,d,q,e,a,b,c,f⟩
theorem M5(R:ao):Spec prog 17 [sZ] R [] λu H'=>∃Tq Ta Tb Tc,H'=[Tq,Ta,Tb,Tc]/\∃q,u=.tuple [iN 0,pT q,.int .i64 0].toArray/\jf 0 q Tq Ta Tb Tc:=by
 refine Spec.body func17 rfl results17 ntmps17 rfl ?_
 refine .sr<|.ag rfl<|.ag rfl<|.ag rfl<|.zs<|.sr<|.mo rfl<|.q (.eY rfl) ?_
 refine .q (.cast (v':=.bool true) .cG rfl) ?_
 refine .zn<|.cW<|.sr ?_
 refine .call [] (PJ _) (λi h f=>?_)
 obtain⟨d,a,b,c,rfl,g,rfl,e⟩:=f
 conv=>arg 8;simp only[rest,bf,aeY,aeZ]
 refine .ag rfl<|.ag rfl<|.az rfl ?_
 refine .ret (aR (aO _ (.three (.tmp rfl) (.tmp rfl) (.tmp rfl)) rH ?_))
 ·exact⟨d,a,b,c,rfl,g,rfl,e⟩
theorem yv(q:Nat)(f g e i:au)(h:jf 0 q f g e i)(w:OW){R':ao}(A:fO R' w ed)(R:ao):Spec prog 24 [pT q,.agg (dq w ed).toArray] R [f,g,e] λu H'=>∃Ta',H'=[f,Ta',e]/\u=.agg [.string ⟨#[]⟩,.string ⟨#[]⟩,.int .u64 0,.int .i64 0].toArray/\jf 7 q f Ta' e i:=by
 obtain⟨a,b,c,rfl,n,j,s⟩:=h
 obtain⟨G,H,I,B,C,t⟩:=j.view (R:=sg e) λp z=>z
 have F:bI (dq w ed):=⟨A.bU⟩
 refine Spec.body func24 rfl results24 ntmps24 rfl ?_
 refine .sr ?_
 refine .cc rfl (λD=>?_)
 refine .cn (λE=>?_)
 refine .zs<|.sr<|.mo rfl ?_
 refine .aH (tN q a b c _) (λv d=>?_)
 subst d
 refine .q .not<|.zn<|.bB<|.kn<|.seq<|.cq [] mixed ?_
 refine .tO 0 rfl .move<|.tO 1 rfl (.nilCheck rfl)<|.tO 2 rfl (.fieldAddr rfl)<|.tO 3 rfl (.bo rfl)<|.tO 4 rfl .move<|.tO 5 rfl (.nilCheck rfl)<|.tO 6 rfl (.fieldAddr rfl)<|.tO 7 rfl (.bo rfl) ?_
 refine .sT 8 rfl ?_
 refine .aH (t.mono λb o x=>.inr (by have y:(b,o)∈e:=x;simp[y])).head (λv d=>?_)
 subst d
 refine .nil (Next.sub ?_)
 refine .tO 9 rfl .assign<|.tO 10 rfl .assign ?_
 refine RA.nil (by kernel_rfl) ?_
 refine aG<|.seq<|.sr<|.fa rfl<|.lo rfl<|.zn<|.block<|.sr<|.q (.cast (v':=.bool true) .cG rfl) ?_
 refine .az rfl<|.cW<|.sr<|.mo rfl<|.fa rfl<|.lo rfl ?_
 refine .aT (N7 a [] [] [] [] 0 0 g n (by decide) (by decide) 7 _) (λv l d=>?_)
 obtain⟨rfl,_,k⟩:=d
 have m:jZ 7 0=0:=by decide
 rw[m]at k⊢
 obtain⟨_,r⟩:=k rfl
 refine .aH (NU _ _) (λv d=>?_)
 subst d
 refine .bZ rfl rfl<|.zn ?_
 refine .ret (bi (aR (aO _ (.one (.ej rfl rfl)) (bG [2,2,2]) ?_)))
 ·exact⟨l,rfl,rfl,a,b,c,rfl,r,j,s⟩
theorem xB:lL (fG ed)=some (ed,[]):=(z5.h _ _ []).2 ⟨by simp,by
 constructor<;>first|decide|(simp[ed,bP.f31];decide)|simp[ed,bP.f31]⟩
theorem M4(q:Nat)(d j b f:au)(h:jf 0 q d j b f)(v:Value)(a:List mC)(R:ao)(p:RS R 1 rX v a)(I:∀x∈a,ry R x/\x.2=fG ed)(V:a.length<=1):
  Spec prog 19 [pT q,v] R [d,j,b] λu H'=>∃Ta',H'=[d,Ta',b]/\u=.int .i64 0/\jf (7*a.length) q d Ta' b f:=by
 have Y:=p.ay
 refine Spec.body func19 rfl results19 ntmps19 rfl ?_
 refine .sr<|.ag rfl<|.zs<|.sr<|.mo rfl<|.q (.cv p) ?_
 refine .mo rfl<|.zn<|.block ?_
 refine .ik [(0,_),(9,_),(10,_)] (X:=Nat×au) (λy=>y.1<=a.length/\jf (7*y.1) q d y.2 b f) (λy E=>(11,iN y.1)::E) (G:=[]) (λy G=>d::y.2::b::G) (λy=>a.length-y.1) (0,j) ⟨Nat.zero_le _,h⟩ kE.c.c.c.c rH ?_
 rintro⟨k,r⟩ ⟨M,i⟩
 simp only at M i⊢
 refine .sr<|.q .lss<|.zs ?_
 refine .cond rfl (λl=>?_) λl=>?_
 have t:k<a.length:=by have m:=bp l;omega
 have N:k=0:=by omega
 subst N
 obtain⟨x,A⟩:=dM t
 obtain⟨C,B⟩:=I x (bD A)
 have Q:One x.1:=RS.ay C
 obtain⟨D,xl⟩:=x
 simp only at B Q
 subst B
 have O:RS R 1 bS D (fG ed):=C
 refine .kn<|.seq<|.block<|.sr ?_
 refine .cB 0 p A (λZ=>?_)
 refine .lo rfl<|.ag rfl<|.z<|.mo rfl ?_
 refine .bM (Ad D (fG ed) _ O.rx (by decide+kernel)) (λu T n=>?_)
 obtain⟨w,o,e,rfl,s,J⟩:=n
 have L:e=0/\o=ed:=by
  rcases J with⟨m,g⟩|⟨_,_,g⟩
  ·rw[xB]at g
   exact⟨m,(ae2 Prod.fst (Option.some.inj g)).symm⟩
  ·exact absurd xB (g _)
 obtain⟨rfl,rfl⟩:=L
 have W:bI (dq w ed):=⟨s.bU⟩
 refine .mo rfl<|.q .extract<|.q .extract ?_
 refine .cn (λU=>?_)
 refine .bZ rfl rfl<|.ag rfl<|.zs<|.sr<|.mo rfl<|.q .cb<|.zn<|.bB<|.kn<|.region<|.mo rfl<|.q (.bj rfl) ?_
 refine .call [2,2,2] (yv q d r b f i w s _) (λu7 S n=>?_)
 obtain⟨F,rfl,rfl,H⟩:=n
 refine .nil<|bz<|aG<|.region ?_
 refine .ia (0+1) .add ?_
 refine .mo rfl<|.nil ?_
 ·exact br (1,F) ⟨t,H⟩ (by simp only;omega) kE.c.c.c.c (bG [0,0,0])
 have K:k=a.length:=by have m:=ba l;omega
 rw[K]at i
 refine .exit<|bk<|bw<|bq<|aG<|.sr<|.az rfl ?_
 refine .ret (aO _ (.one (.tmp rfl)) rH ?_)
 ·exact⟨r,rfl,rfl,i⟩
section
def me(s l q:Nat):List Value:=[pT s,pT l,pT q,.int .i64 0]
variable{d:Nat}{D:Dk}{T:au}
theorem sJ(h:DI d D T)(w:D.now=[])(r:∀s∈D.fs,s.length=64)(sz:Nat)(K:1<=sz)(L:2*sz<D.fs.length)(E:D.fs.length<2^40)(he:fh D.fs<4294967295)(f:∀i,i<=1->∀x,D.fs[i*sz]? =some x->dV x=none)(N:∀j,ng D.fs D.fs.length (2*sz+j) (0+j))(W:∀b∈fI D.fs D.fs.length (D.fs.length-2*sz) (2*sz) 0,b=fG ed)(a4:(fI D.fs D.fs.length (D.fs.length-2*sz) (2*sz) 0).length<=1)(R:ao)(g:∀p∈T,R p.1 p.2)(F:PC R (pT 1) (wv eW)):
  Spec prog 6 [pT d,iN sz] R [] λu H'=>∃(k s l q m:Nat) (Tq Ta Tb Tc:au),m=(fI D.fs D.fs.length (D.fs.length-2*sz) (2*sz) 0).length/\H'=[bl k (me s l q) 44,bl s (la d sz (fh D.fs+1)) 85,bl l (gh d ⟨2*sz,D.fs.length,2*sz+m,fh D.fs+1,m⟩) 94,Tq,Ta,Tb,Tc]/\u=.tuple [pT k,.int .i64 0].toArray/\jf (7*m) q Tq Ta Tb Tc:=by
 refine Spec.body func6 rfl results6 ntmps6 rfl ?_
 refine .sr<|.ag rfl<|.ag rfl<|.z<|.mo rfl ?_
 refine .aH (ma h _ λp c=>.inl (g p c)) (λu a=>?_)
 subst a
 refine .ag rfl<|.zs<|.block<|.sr<|.mo rfl<|.q .cG<|.az rfl ?_
 refine .cond rfl (λy=>?_) λy=>?_
 ·exfalso
  have v:=eq_of_beq y
  omega
 refine .sr<|.mo rfl<|.q .lss<|.mo rfl ?_
 refine .split (t:=24) rfl (λe=>?_) (λe=>?_)
 ·exfalso
  have v:=bp e
  omega
 refine .gT e<|.mo rfl<|.gT e<|.mo rfl<|.gT e ?_
 refine .ia (D.fs.length-1) .sub ?_
 refine .gT e ?_
 refine .q (.i64 (((D.fs.length-1)/2:Nat):Int) .quo ⟨rfl,by omega,by omega⟩) ?_
 refine .gT e<|.q .gtr<|.q (.bg e) ?_
 refine .az rfl ?_
 refine .cond rfl (λA=>?_) λA=>?_
 ·exfalso
  have v:=bp A
  omega
 refine .skip<|bz<|aG<|.sr<|.mo rfl<|.mo rfl ?_
 refine .aH (MQ h w r (by omega) (by omega) _ λp c=>.inl (g p c)) (λu a=>?_)
 subst a
 refine .mo rfl<|.q .extract<|.q .extract<|.ag rfl<|.ag rfl<|.zs<|.block<|.sr<|.mo rfl<|.q .cb<|.az rfl<|.bB<|.sr<|.mo rfl<|.q .geq<|.az rfl ?_
 refine .cond rfl (λB=>?_) λB=>?_
 ·exfalso
  have v:=bp B
  omega
 refine .skip<|bz<|aG<|.sr<|.mo rfl<|.mo rfl<|.mo rfl ?_
 refine .ia (fh D.fs+1) .add ?_
 refine .call [] (Pm h w r sz (fh D.fs+1) K (by omega) E (by omega) f _ (λp c=>.inl (g p c)) (F.mono λb o f=>.inl f)) (λu Y a=>?_)
 obtain⟨s,rfl,rfl⟩:=a
 conv=>arg 8;simp only[rest,bf,aeY,aeZ]
 refine .mo rfl<|.q .extract<|.q .extract<|.q .extract<|.ag rfl<|.ag rfl<|.ag rfl<|.zs<|.sr<|.mo rfl<|.q .cb<|.zn<|.bB<|.kn<|.sr<|.mo rfl ?_
 refine .call [] (M5 _) (λu Z a=>?_)
 obtain⟨Tq,Ta,Tb,Tc,rfl,q,rfl,O⟩:=a
 conv=>arg 8;simp only[rest,bf,aeY,aeZ]
 refine .mo rfl<|.q .extract<|.q .extract<|.q .extract<|.ag rfl<|.ag rfl<|.ag rfl<|.zs<|.sr<|.mo rfl<|.q .cb<|.zn<|.bB<|.kn<|.sr<|.mo rfl<|.mo rfl ?_
 refine .ia (2*sz) .mul ?_
 refine .mo rfl<|.mo rfl ?_
 refine .ia (fh D.fs+1) .add ?_
 refine .mo rfl ?_
 refine .call [] (QA h w r (2*sz) D.fs.length (fh D.fs+1) 0 L (Nat.le_refl _) E (by omega) (by omega) N _ (λp c=>.inl (g p c)) (F.mono λb o f=>.inl f)) (λu a0 a=>?_)
 obtain⟨l,To,J,X,n,rfl,rfl,C,V,G⟩:=a
 have a5:=C.ay
 have U:n.length=(fI D.fs D.fs.length (D.fs.length-2*sz) (2*sz) 0).length:=by rw[<-G,List.length_map]
 conv=>arg 8;simp only[rest,bf,aeY,aeZ]
 refine .mo rfl<|.q .extract<|.q .extract<|.q .extract<|.ag rfl<|.ag rfl<|.ag rfl<|.zs<|.sr<|.mo rfl<|.q .cb<|.zn<|.bB<|.kn<|.seq<|.sr<|.mo rfl<|.mo rfl ?_
 refine .call [3,3,3] (M4 q Tq Ta Tb Tc O X n _ (C.rs λp c=>.inr (by simp[rest,bf,c])) (λx H=>⟨(V x H).mono λb o f=>.inr (by have S:(b,o)∈J:=f;simp[rest,bf,S]),W _ (by rw[<-G];exact List.mem_map_of_mem H)⟩) (by omega)) (λu a3 a=>?_)
 obtain⟨I,rfl,rfl,Q⟩:=a
 conv=>arg 8;simp only[rest,bf,aeY,aeZ]
 refine .ag rfl<|.z<|.mo rfl<|.q .cb<|.zn<|.bB<|.kn<|.sr<|.mo rfl<|.mo rfl<|.mo rfl ?_
 refine .q .cC ?_
 refine .cc rfl (λM=>?_)
 refine .ag rfl<|.az rfl ?_
 refine .ret (aO _ (.two (.tmp rfl) (.tmp rfl)) (bG [0,7,3,0,0,0,2]) ?_)
 ·refine⟨M,s,l,q,n.length,Tq,I,Tb,Tc,U,?_,rfl,Q⟩
  simp only[Nat.zero_add]
  rfl
theorem MT(h:DI d D T)(l:0<D.fs.length)(k:D.fs.length<2^40)(sz:Int)(m:sz<1\/(D.fs.length:Int)<=2*sz)(R:ao)(g:∀p∈T,R p.1 p.2):
  Spec prog 6 [pT d,.int .i64 sz] R [] λu H'=>u=.tuple [.pointer none,.int .i64 2].toArray/\H'=[]:=by
 refine Spec.body func6 rfl results6 ntmps6 rfl ?_
 refine .sr<|.ag rfl<|.ag rfl<|.z<|.mo rfl ?_
 refine .aH (ma h _ λp f=>.inl (g p f)) (λu i=>?_)
 subst i
 refine .ag rfl<|.zs<|.block<|.sr<|.mo rfl<|.q .cG<|.az rfl ?_
 refine .cond rfl (λb=>?_) λb=>?_
 ·exfalso
  have e:=eq_of_beq b
  omega
 refine .sr<|.mo rfl<|.q .lss<|.mo rfl ?_
 refine .split (t:=24) rfl (λa=>?_) (λa=>?_)
 refine .gF a<|.gF a<|.gF a<|.gF a<|.gF a<|.q (.bA a) ?_
 refine .az rfl<|.cW<|.sr<|.ag rfl<|.az rfl ?_
 refine .ret (bi (aR (aO _ (.two (.tmp rfl) (.tmp rfl)) (.none _) ?_)))
 ·exact⟨rfl,rfl⟩
 refine .gT a<|.mo rfl<|.gT a<|.mo rfl<|.gT a ?_
 refine .ia (D.fs.length-1) .sub ?_
 refine .gT a ?_
 refine .q (.i64 (((D.fs.length-1)/2:Nat):Int) .quo ⟨rfl,by omega,by omega⟩) ?_
 refine .gT a<|.q .gtr<|.q (.bg a) ?_
 refine .az rfl ?_
 refine .cond rfl (λc=>?_) λc=>?_
 refine .sr<|.ag rfl<|.az rfl ?_
 refine .ret (bi (aR (aO _ (.two (.tmp rfl) (.tmp rfl)) (.none _) ?_)))
 ·exact⟨rfl,rfl⟩
 ·exfalso
  have e:=ba c
  have j:=ba a
  omega
theorem MU(sz:Int)(R:ao):Spec prog 6 [.pointer none,.int .i64 sz] R [] λu H'=>u=.tuple [.pointer none,.int .i64 1].toArray/\H'=[]:=by
 refine Spec.body func6 rfl results6 ntmps6 rfl ?_
 refine .sr<|.ag rfl<|.ag rfl<|.z<|.mo rfl ?_
 refine .aH (MO _) (λu a=>?_)
 subst a
 refine .ag rfl<|.zs<|.block<|.sr<|.mo rfl<|.q .cG<|.az rfl<|.cW<|.sr<|.ag rfl<|.az rfl ?_
 refine .ret (bi (aR (aO _ (.two (.tmp rfl) (.tmp rfl)) (.none _) ?_)))
 ·exact⟨rfl,rfl⟩
end
section
variable{d:Nat}{D:Dk}{T:au}
theorem qq(k s l q:Nat)(R:ao)(a:PC R (pT k) (me s l q)):Spec prog 20 [pT k] R [] λu H'=>u=.bool true/\H'=[]:=by
 refine Spec.body func20 rfl results20 ntmps20 rfl ?_
 refine .sr<|.ag rfl<|.z<|.mo rfl<|.q (.jX rfl rfl) ?_
 refine .mo rfl<|.gt rfl ?_
 refine .mo rfl<|.gt rfl ?_
 refine .nc rfl<|.gt rfl ?_
 refine .fa rfl<|.gt rfl ?_
 refine .lo rfl<|.gt rfl ?_
 refine .q (.jm rfl rfl) ?_
 refine .q .dh<|.az rfl ?_
 refine .ret (aW rfl ?_)
 ·exact⟨rfl,rfl⟩
theorem M2(k s l q:Nat)(R:ao)(d:PC R (pT k) (me s l q)):Spec prog 11 [pT k] R [] λu H'=>u=pT q/\H'=[]:=by
 refine Spec.body func11 rfl results11 ntmps11 rfl ?_
 refine .sr<|.ag rfl<|.zs<|.sr<|.mo rfl ?_
 refine .aH (qq k s l q _ (d.mono λb o a=>.inl a)) (λu c=>?_)
 subst c
 refine .q .not<|.zn<|.bB<|.kn<|.sr<|.mo rfl<|.nc rfl<|.fa rfl<|.lo rfl<|.az rfl ?_
 refine .ret (aW rfl ?_)
 ·exact⟨rfl,rfl⟩
theorem MZ(k s l q:Nat)(L:Lg)(e:L.at_<=L.hi)(a:L.hi<2^40)(R:ao)(f:PC R (pT k) (me s l q))(g:PC R (pT l) (gh d L)):Spec prog 7 [pT k] R [] λu H'=>u=.int .i64 ((L.hi-L.at_:Nat):Int)/\H'=[]:=by
 refine Spec.body func7 rfl results7 ntmps7 rfl ?_
 refine .sr<|.ag rfl<|.zs<|.sr<|.mo rfl ?_
 refine .aH (qq k s l q _ (f.mono λb o a=>.inl a)) (λu c=>?_)
 subst c
 refine .q .not<|.zn<|.bB<|.kn<|.sr<|.mo rfl<|.nc rfl<|.fa rfl<|.lo rfl ?_
 refine .aH (yY (d:=d) l L e a _ (g.mono λb o a=>.inl a)) (λu c=>?_)
 subst c
 refine .az rfl ?_
 refine .ret (aW rfl ?_)
 ·exact⟨rfl,rfl⟩
theorem Pk(s sz a:Nat)(R:ao)(ps:PC R (pT s) (la d sz a)):Spec prog 51 [pT s] R [] λu H'=>u=.bool true/\H'=[]:=by
 refine Spec.body func51 rfl results51 ntmps51 rfl ?_
 refine .sr<|.ag rfl<|.z<|.mo rfl<|.q (.jX rfl rfl) ?_
 refine .mo rfl<|.gt rfl ?_
 refine .mo rfl<|.gt rfl ?_
 refine .nc rfl<|.gt rfl ?_
 refine .fa rfl<|.gt rfl ?_
 refine .lo rfl<|.gt rfl ?_
 refine .q (.jm rfl rfl) ?_
 refine .q .dh<|.az rfl ?_
 refine .ret (aW rfl ?_)
 ·exact⟨rfl,rfl⟩
theorem Pj(s sz a:Nat)(R:ao)(ps:PC R (pT s) (la d sz a)):Spec prog 22 [pT s] R [] λu H'=>u=.int .i64 0/\H'=[]:=by
 refine Spec.body func22 rfl results22 ntmps22 rfl ?_
 refine .sr<|.ag rfl<|.zs<|.sr<|.mo rfl ?_
 refine .aH (Pk (d:=d) s sz a _ (ps.mono λb o c=>.inl c)) (λu e=>?_)
 subst e
 refine .q .not<|.zn<|.bB<|.kn<|.sr<|.mo rfl<|.nc rfl<|.fa rfl<|.lo rfl<|.az rfl ?_
 refine .ret (aW rfl ?_)
 ·exact⟨rfl,rfl⟩
theorem MX(k s l q sz e:Nat)(R:ao)(f:PC R (pT k) (me s l q))(ps:PC R (pT s) (la d sz e)):Spec prog 8 [pT k] R [] λu H'=>u=.int .i64 0/\H'=[]:=by
 refine Spec.body func8 rfl results8 ntmps8 rfl ?_
 refine .sr<|.ag rfl<|.zs<|.sr<|.mo rfl ?_
 refine .aH (qq k s l q _ (f.mono λb o a=>.inl a)) (λu c=>?_)
 subst c
 refine .q .not<|.zn<|.bB<|.kn<|.sr<|.mo rfl<|.nc rfl<|.fa rfl<|.lo rfl ?_
 refine .aH (Pj (d:=d) s sz e _ (ps.mono λb o a=>.inl a)) (λu c=>?_)
 subst c
 refine .az rfl ?_
 refine .ret (aW rfl ?_)
 ·exact⟨rfl,rfl⟩
theorem M3(p:Value) [One p](R:ao):Spec prog 32 [p,.int .i64 0] R [] λu H'=>u=.int .i64 0/\H'=[]:=by
 refine Spec.body func32 rfl results32 ntmps32 rfl ?_
 refine .sr<|.ag rfl<|.zs<|.sr<|.mo rfl<|.q (.cast (v':=.bool false) .cG rfl) ?_
 refine .zn<|.bB<|.kn<|.sr<|.mo rfl<|.az rfl ?_
 refine .ret (aW rfl ?_)
 ·exact⟨rfl,rfl⟩
theorem sV:(fG ed).length<=38:=by decide+kernel
theorem MY(h:DI d D T)(j:D.fD=0)(n:D.dead=false)(B:D.ws=[])(k s l q:Nat)(L:Lg)(v:L.at_<L.hi)(i:L.hi<=D.fs.length)(m:D.fs.length<2^40)(r:L.ep<=4294967295)(y:L.nx<=4294967295)(w:OW)(R:ao)(ho:fO R w ed)(I:PC R (pT k) (me s l q))(t:PC R (pT 1) (wv eW)):
  Spec prog 27 [pT k,.agg (dq w ed).toArray] R [bl l (gh d L) 94,T] λu H'=>∃T',H'=[bl l (gh d {L with at_:=L.at_+1,nx:=L.nx+1}) 94,T']/\u=.int .i64 0/\DI d (D.wr (L.at_:Nat) (ff ⟨L.ep,L.nx,0,1,fG ed⟩)).nJ T':=by
 have H:bI (dq w ed):=⟨ho.bU⟩
 have x:=sV
 refine Spec.body func27 rfl results27 ntmps27 rfl ?_
 refine .sr ?_
 refine .cc rfl (λF=>?_)
 refine .ag rfl<|.z<|.q (.bj rfl) ?_
 refine .bM (An w ed _ (ho.mono λb o a=>.inl a) (by decide) (by omega)) (λu E e=>?_)
 have G:=e.ay
 refine .ag rfl<|.z<|.mo rfl<|.nc rfl<|.fa rfl<|.lo rfl<|.mo rfl ?_
 refine .call [2,2] (Qt h j n B l L v i m r y u (fG ed) x _ (e.rs λp A=>.inr (by simp[rest,bf,A])) (t.mono λb o a=>.inl a)) (λJ C c=>?_)
 obtain⟨f,rfl,rfl,g⟩:=c
 conv=>arg 8;simp only[rest,bf,aeY,aeZ]
 refine .ag rfl<|.zs<|.sr<|.mo rfl<|.q (.cast (v':=.bool true) .cb rfl) ?_
 refine .zn<|.cW<|.sr<|.mo rfl<|.mo rfl ?_
 refine .aH (M3 _ _) (λu c=>?_)
 subst c
 refine .az rfl ?_
 refine .ret (aR (aO _ (.one (.tmp rfl)) (bG [0,0]) ?_))
 ·exact⟨f,rfl,rfl,g⟩
end
section
variable{d:Nat}{D:Dk}{T:au}
theorem PF:decide (iB 7=iB 0)=false:=decide_eq_false λh=>by
 have a:=ae2 List.head? h
 simp[iB,mU]at a
theorem MV(h:DI d D T)(N:D.fD=0)(Q:D.dead=false)(X:D.ws=[])(k s l q:Nat)(i e f g:au)(x:jf 0 q i e f g)(L:Lg)(V:L.at_<L.hi)(J:L.hi<=D.fs.length)(O:D.fs.length<2^40)(S:L.ep<=4294967295)(W:L.nx<=4294967295)(w:OW)(R:ao)(ho:fO R w ed)(C:∀p∈i,R p.1 p.2)(A:∀p∈e,R p.1 p.2)(B:∀p∈f,R p.1 p.2)(rc:∀p∈g,R p.1 p.2)(U:PC R (pT 1) (wv eW)):
  Spec prog 9 [pT k,.agg (dq w ed).toArray] R [bl k (me s l q) 44,bl l (gh d L) 94,T] λu H'=>∃T',H'=[T']/\u=.agg [.string ⟨#[]⟩,.string ⟨#[]⟩,.int .u64 0,.int .i64 0].toArray/\DI d (D.wr (L.at_:Nat) (ff ⟨L.ep,L.nx,0,1,fG ed⟩)).nJ T':=by
 have io:bI (dq w ed):=⟨ho.bU⟩
 refine Spec.body func9 rfl results9 ntmps9 rfl ?_
 refine .sr ?_
 refine .cc rfl (λb3=>?_)
 refine .cn (λb4=>?_)
 refine .zs<|.block<|.sr<|.mo rfl ?_
 refine .aH (qq k s l q _ (PC.of (E:=44) (fr:=(0,0)) (.inr (by simp)))) (λu c=>?_)
 subst c
 refine .q .not<|.az rfl<|.bB<|.sr<|.mo rfl<|.nc rfl<|.fa rfl<|.lo rfl<|.q .cb<|.az rfl ?_
 refine .bB<|.skip<|bz<|aG<|.sr<|.mo rfl ?_
 refine .nc rfl<|.fa rfl<|.lo rfl ?_
 refine .call [] (PI 0 (by omega) q i e f g x _ (λp a=>.inl (C p a)) (λp a=>.inl (A p a)) (λp a=>.inl (B p a)) (λp a=>.inl (rc p a))) (λu Y c=>?_)
 obtain⟨r,G,m,n,rfl,y,rfl,K⟩:=c
 conv=>arg 8;simp only[rest,bf,aeY,aeZ]
 refine .ag rfl<|.z<|.mo rfl<|.q (.bj rfl) ?_
 refine .call [0,0,0] (yv y r G m n K w ho _) (λu Z c=>?_)
 obtain⟨H,rfl,rfl,M⟩:=c
 conv=>arg 8;simp only[rest,bf,aeY,aeZ]
 refine .cn (λb6=>?_)
 refine .bZ rfl rfl<|.zs<|.seq<|.cq [7] mixed ?_
 refine .tO 0 rfl .move<|.tO 2 rfl .move<|.tO 3 rfl (.nilCheck rfl)<|.tO 4 rfl (.fieldAddr rfl)<|.tO 5 rfl (.bo rfl) ?_
 refine .sT 1 rfl ?_
 refine .bM (ra 7 (by omega) y r H m n M _ (λp a=>.inr (by simp[a])) (λp a=>.inr (by simp[a])) (λp a=>.inr (by simp[a])) (λp a=>.inr (by simp[a]))) (λu a0 t=>?_)
 have a2:=t.ay
 refine .nil (Next.sub ?_)
 refine .sT 6 rfl ?_
 refine .bM (ra 0 (by omega) q i e f g x _ (λp a=>.inl (C p a)) (λp a=>.inl (A p a)) (λp a=>.inl (B p a)) (λp a=>.inl (rc p a))) (λu a1 v=>?_)
 have a3:=v.ay
 refine .nil (Next.sub ?_)
 refine .sT 7 rfl ?_
 refine .aH (sD _ _ (iB 7) (iB 0) _ (t.rs λp a=>.inr (by simp[a])) (v.rs λp a=>.inr (by simp[a]))) (λu c=>?_)
 rw[PF]at c
 subst c
 refine .nil (Next.mod rfl ?_)
 refine RA.nil (by kernel_rfl) ?_
 refine aG<|.bB<|.kn<|.seq<|.sr<|.mo rfl<|.q (.bj rfl) ?_
 refine .call [10,10] (MY h N Q X k s l q L V J O S W w _ (ho.mono λb o j=>.inl j) (PC.of (E:=44) (fr:=(0,0)) (.inr (by simp[rest,bf]))) (U.mono λb o j=>.inl j)) (λu9 H9 c=>?_)
 obtain⟨F,rfl,rfl,I⟩:=c
 conv=>arg 8;simp only[rest,bf,aeY,aeZ]
 refine .ag rfl<|.z<|.mo rfl<|.q .cb<|.zn<|.bB<|.kn<|.sr<|.mo rfl<|.mo rfl<|.nc rfl<|.fa rfl<|.ca rfl rfl<|.z<|.q (.bj rfl)<|.bZ rfl rfl<|.zn ?_
 refine .ret (aO _ (.one (.ej rfl rfl)) (.one [1] _) ?_)
 ·exact⟨F,by simp[take,bf],rfl,I⟩
end
theorem xT:dV (eM 64)=none:=by
 unfold dV
 rw[if_neg (by decide+kernel),if_neg (by decide+kernel),if_neg (by decide+kernel)]
theorem uD{n i:Nat}{x:List UInt8}(h:(List.replicate n (eM 64))[i]? =some x):x=eM 64:=by
 rw[List.getElem?_replicate]at h
 split at h
 ·exact(Option.some.inj h).symm
 ·cases h
theorem xH{a:List (List UInt8)}{hi i b c:Nat}(h:∀x,a[i]? =some x->dV x=none):iX a hi i b c=none:=by
 unfold iX
 split
 ·rfl
 ·cases h2:a[i]? with
  |none=>rfl
  |some x=>simp[h x h2]
theorem tw{a:List (List UInt8)}{hi i b:Nat}(h:∀x,a[i]? =some x->dV x=none):recAt a hi i b=none:=by
 unfold recAt;rw[xH h];rfl
theorem sU{a:List (List UInt8)}{hi i c:Nat}(h:∀x,a[i]? =some x->dV x=none):ng a hi i c:=λp b=>by
 rw[xH h]at b;cases b
theorem NB:qD (eM 64)=0:=by decide+kernel
theorem qC(n:Nat):fh (List.replicate n (eM 64))=0:=by
 induction n with
 |zero=>rfl
 |succ n ih=>
  unfold fh at ih⊢
  rw[List.replicate_succ,List.foldl_cons,NB]
  exact ih
def p1:Pt:=⟨1,0,0,1,fG ed⟩
def eV:List (List UInt8):=(List.replicate 40 (eM 64)).set 16 (ff p1)
theorem oY:eV.length=40:=by simp[eV]
theorem Ma:∀s∈eV,s.length=64:=λs a=>by
 rcases List.mem_or_eq_of_mem_set a with h|h
 ·rw[(ae4.1 h).2];rfl
 ·rw[h];exact sL sV
theorem su{i:Nat}{x:List UInt8}(hi:i≠16)(h:eV[i]? =some x):dV x=none:=by
 unfold eV at h
 rw[List.getElem?_set_ne (by omega)]at h
 rw[uD h];exact xT
theorem Mc:fh eV=1:=by decide+kernel
theorem Oo:dV (ff p1)=some p1:=by
 have e:dB (ff p1)=p1:=by
  have h:∀a b:Pt,a.ep=b.ep->a.sq=b.sq->a.ix=b.ix->a.tt=b.tt->a.d=b.d->a=b:=by
   rintro⟨⟩ ⟨⟩ c f g i j;simp_all
  exact h _ _ (by decide+kernel) (by decide+kernel) (by decide+kernel) (by decide+kernel) (by decide+kernel)
 have k:(ff p1).length=64:=sL sV
 unfold dV
 rw[if_neg (by omega),if_neg (by decide+kernel),e,if_pos ⟨by decide+kernel,rfl⟩]
theorem wS:kU [p1]=some (fG ed):=by decide+kernel
theorem xG:iX eV 40 16 0 0=some p1:=by
 have h:eV[16]? =some (ff p1):=by unfold eV;rw[List.getElem?_set_self (by simp)]
 unfold iX
 rw[if_neg (by decide),h]
 show((dV (ff p1)).bind _)=_
 rw[Oo];rfl
theorem Oq:recAt eV 40 16 0=some (fG ed):=by unfold recAt;rw[xG];exact wS
theorem Md(j:Nat):ng eV 40 (16+j) (0+j):=by
 rcases Nat.eq_zero_or_pos j with rfl|h
 ·intro p b
  have a:iX eV 40 16 0 0=some p:=b
  rw[xG]at a
  obtain rfl:=Option.some.inj a
  exact⟨rfl,_,wS⟩
 ·exact sU λx c=>su (by omega) c
theorem Mb:fI eV 40 24 16 0=[fG ed]:=by
 have a:fI eV 40 23 17 1=[]:=qv (tw λx c=>su (by omega) c)
 show(match recAt eV 40 16 0 with|none=>[]|some b=>b::fI eV 40 23 17 1)=_
 rw[Oq,a]
def jN(R:ao)(p:Value):Prop:=p=.pointer none\/∃q,p=pT q/\R q (.cells [.pointer none,.pointer none,.pointer none,.int .i64 0].toArray 44 (0,0))
theorem jN.rx{R:ao}{H:aF}{p:Value}(h:jN R p):jN (Rx R H) p:=h.imp id λ⟨q,a,b⟩=>⟨q,a,.inl b⟩
theorem jN.one{R:ao}{p:Value}(h:jN R p):One p:=⟨by rcases h with rfl|⟨q,rfl,_⟩<;>rfl⟩
theorem QP(R:ao):Spec prog 20 [.pointer none] R [] λv H'=>v=.bool false/\H'=[]:=by
 refine Spec.body func20 rfl results20 ntmps20 rfl ?_
 refine .sr<|.ag rfl<|.z<|.mo rfl<|.q (.jm rfl rfl) ?_
 refine .mo rfl<|.gX<|.gX<|.gX<|.gX<|.gX<|.q .cd<|.az rfl ?_
 refine .ret (aW rfl ?_)
 ·exact⟨rfl,rfl⟩
theorem QQ(q:Nat)(R:ao) [pc:PC R (pT q) [.pointer none,.pointer none,.pointer none,.int .i64 0]]:Spec prog 20 [pT q] R [] λv H'=>v=.bool false/\H'=[]:=by
 refine Spec.body func20 rfl results20 ntmps20 rfl ?_
 refine .sr<|.ag rfl<|.z<|.mo rfl<|.q (.jm rfl rfl) ?_
 refine .mo rfl<|.gt rfl ?_
 refine .mo rfl<|.gt rfl ?_
 refine .nc rfl<|.gt rfl ?_
 refine .fa rfl<|.gt rfl ?_
 refine .lo rfl<|.gt rfl ?_
 refine .q (.jm rfl rfl) ?_
 refine .q .dh<|.az rfl ?_
 refine .ret (aW rfl ?_)
 ·exact⟨rfl,rfl⟩
theorem pU(p:Value)(R:ao)(h:jN R p):Spec prog 20 [p] R [] λv H'=>v=.bool false/\H'=[]:=by
 rcases h with rfl|⟨q,rfl,a⟩
 ·exact QP R
 ·have b:=PC.of a
  exact QQ q R
theorem QS(p:Value)(R:ao)(h:jN R p):Spec prog 11 [p] R [] λv H'=>v=.pointer none/\H'=[]:=by
 have b:=h.one
 refine Spec.body func11 rfl results11 ntmps11 rfl ?_
 refine .sr<|.ag rfl<|.zs<|.sr<|.mo rfl ?_
 refine .aH (pU p _ h.rx) (λv a=>?_)
 subst a
 refine .q .not<|.zn<|.cW<|.sr<|.az rfl ?_
 refine .ret (aR (aW rfl ?_))
 ·exact⟨rfl,rfl⟩
theorem QR(p:Value)(R:ao)(h:jN R p):Spec prog 7 [p] R [] λv H'=>v=.int .i64 0/\H'=[]:=by
 have b:=h.one
 refine Spec.body func7 rfl results7 ntmps7 rfl ?_
 refine .sr<|.ag rfl<|.zs<|.sr<|.mo rfl ?_
 refine .aH (pU p _ h.rx) (λv a=>?_)
 subst a
 refine .q .not<|.zn<|.cW<|.sr<|.az rfl ?_
 refine .ret (aR (aW rfl ?_))
 ·exact⟨rfl,rfl⟩
theorem QO(p:Value)(R:ao)(h:jN R p):Spec prog 8 [p] R [] λv H'=>v=.int .i64 0/\H'=[]:=by
 have b:=h.one
 refine Spec.body func8 rfl results8 ntmps8 rfl ?_
 refine .sr<|.ag rfl<|.zs<|.sr<|.mo rfl ?_
 refine .aH (pU p _ h.rx) (λv a=>?_)
 subst a
 refine .q .not<|.zn<|.cW<|.sr<|.az rfl ?_
 refine .ret (aR (aW rfl ?_))
 ·exact⟨rfl,rfl⟩
theorem QM(p:Value)(R:ao)(h:jN R p):Spec prog 12 [p] R [] λv H'=>v=.int .i64 1/\H'=[]:=by
 have b:=h.one
 refine Spec.body func12 rfl results12 ntmps12 rfl ?_
 refine .sr<|.ag rfl<|.zs<|.block<|.sr<|.mo rfl ?_
 refine .aH (pU p _ h.rx) (λv a=>?_)
 subst a
 refine .q .not<|.az rfl<|.cW<|.sr<|.az rfl ?_
 refine .ret (bi (aR (aW rfl ?_)))
 ·exact⟨rfl,rfl⟩
theorem QN(p:Value)(w:OW)(o:eT)(R:ao)(h:jN R p)(ho:fO R w o):Spec prog 9 [p,.agg (dq w o).toArray] R [] λv H'=>v=.agg [.string ⟨#[]⟩,.string ⟨#[]⟩,.int .u64 0,.int .i64 1].toArray/\H'=[]:=by
 have d:=h.one
 have e:bI (dq w o):=⟨ho.bU⟩
 refine Spec.body func9 rfl results9 ntmps9 rfl ?_
 refine .sr ?_
 refine .cc rfl (λb=>?_)
 refine .cn (λc=>?_)
 refine .zs<|.block<|.sr<|.mo rfl ?_
 refine .aH (pU p _ h.rx) (λv a=>?_)
 subst a
 refine .q .not<|.az rfl<|.cW<|.sr ?_
 refine .q .cC ?_
 refine .bZ rfl rfl<|.zn ?_
 refine .ret (bi (aR (aO _ (.one (.ej rfl rfl)) (.none _) ?_)))
 ·exact⟨rfl,rfl⟩
def D1:Dk:=⟨eV,[],[],0,false⟩
theorem zd:((Dk.blank 40).wr ((2*8+0:Nat):Int) (ff ⟨fh (Dk.blank 40).fs+1,0,0,1,fG ed⟩)).nJ=D1:=by
 rw[show fh (Dk.blank 40).fs=0 from qC 40];rfl
theorem nh{n i:Nat}:∀x,(Dk.blank n).fs[i]? =some x->dV x=none:=λx a=>by rw[uD a];exact xT
theorem MW(R:ao)(n:PC R (pT 1) (wv eW)):Spec prog 13 [] R [] λu H'=>u=.bool true/\H'=[]:=by
 have a6:(Dk.blank 40).fs.length=40:=by simp[Dk.blank]
 have r:fI (Dk.blank 40).fs (Dk.blank 40).fs.length ((Dk.blank 40).fs.length-2*8) (2*8) 0=[]:=qv (tw nh)
 have t:fI D1.fs D1.fs.length (D1.fs.length-2*8) (2*8) 0=[fG ed]:=by
  show fI eV eV.length (eV.length-16) 16 0=_
  rw[oY];exact Mb
 refine Spec.body func13 rfl results13 ntmps13 rfl ?_
 refine .sr<|.ag rfl<|.z ?_
 refine .bM (wY 40 (by omega) (by omega) _) (λu T g=>?_)
 obtain⟨d,rfl,A⟩:=g
 refine .mo rfl<|.q .extract<|.q .extract<|.ag rfl<|.ag rfl<|.z<|.mo rfl ?_
 refine .call [] (sJ A rfl (λs hs=>by rw[(ae4.1 hs).2];rfl) 8 (by omega) (by omega) (by omega) (by rw[show fh (Dk.blank 40).fs=0 from qC 40];omega) (λi _=>nh) (λj=>sU nh) (by rw[r];intro b f;cases f) (by rw[r];simp) _ (λp e=>.inr (by simp[rest,bf,e])) (n.mono λb o f=>.inl f)) (λu H2 g=>?_)
 obtain⟨k,s,l,q,m,K,G,I,J,B,rfl,rfl,W⟩:=g
 rw[r]at B
 obtain rfl:m=0:=B
 conv=>arg 8;simp only[rest,bf,aeY,aeZ]
 refine .mo rfl<|.q .extract<|.q .extract<|.ag rfl<|.ag rfl<|.zs<|.sr<|.mo rfl<|.q (.cast (v':=.bool false) .cb rfl) ?_
 refine .mo rfl<|.gt rfl ?_
 refine .mo rfl<|.gt rfl ?_
 refine .q (.cC (out:=dq mi ed) rfl rfl) ?_
 refine .gt rfl ?_
 refine .call [0,1,5] (MV A rfl rfl rfl k s l q K G I J W _ (by show 2*8+0<(Dk.blank 40).fs.length;omega) (Nat.le_refl _) (by omega) (by show fh (Dk.blank 40).fs+1<=_;rw[show fh (Dk.blank 40).fs=0 from qC 40];omega) (Nat.zero_le _) mi _ ⟨⟨rfl,rfl,RS.il,RS.il⟩,RS.il,RS.il,RS.il,RS.il,RS.il,RS.il⟩ (λp e=>.inr (by simp[rest,bf,e])) (λp e=>.inr (by simp[rest,bf,e])) (λp e=>.inr (by simp[rest,bf,e])) (λp e=>.inr (by simp[rest,bf,e])) (n.mono λb o f=>.inl f)) (λu H3 g=>?_)
 obtain⟨D,rfl,rfl,Q⟩:=g
 have S:DI d D1 D:=zd▸Q
 conv=>arg 8;simp only[rest,bf,aeY,aeZ]
 refine .gt rfl ?_
 refine .q (.LU underlying46 rfl rfl r0 rfl) ?_
 refine .gt rfl ?_
 refine .q (.cast (v':=.bool false) .cb rfl) ?_
 refine .q .cd<|.zn<|.bB<|.kn<|.sr<|.mo rfl ?_
 refine .aT (MJ S rfl (by show 0<eV.length;rw[oY];omega) _) (λu F g=>?_)
 obtain⟨rfl,U⟩:=g
 have V:DI d D1 F:=U
 refine .z<|.mo rfl ?_
 refine .call [] (sJ V rfl Ma 8 (by omega) (by show 2*8<eV.length;rw[oY];omega) (by show eV.length<_;rw[oY];omega) (by show fh eV<_;rw[Mc];omega) (λi hi x hx=>su (i:=i*8) (by omega) hx) (λj=>by show ng eV eV.length (16+j) (0+j);rw[oY];exact Md j) (by rw[t];intro b f;exact ae3.1 f) (by rw[t];simp) _ (λp e=>.inr (by simp[rest,bf,e])) (n.mono λb o f=>.inl f)) (λu H6 g=>?_)
 obtain⟨k6,s6,l6,w,m6,L,H,a0,a2,C,rfl,rfl,X⟩:=g
 rw[t]at C
 obtain rfl:m6=1:=C
 conv=>arg 8;simp only[rest,bf,aeY,aeZ]
 obtain⟨a,b,c,Z,O,hB,a5⟩:=X
 obtain⟨y,M,N,a1,a3,a4,Y,_⟩:=id O
 have a7:PS H (pT a) [pT y,pT M,pT N,.int .i64 (7*1:Nat)]:=PS.of (E:=194) (fr:=(0,0)) (by rw[Y];simp)
 have a8:PS L (pT w) [pT a,pT b,pT c]:=PS.of (E:=103) (fr:=(0,0)) (by rw[Z];simp)
 refine .mo rfl<|.q .extract<|.q .extract<|.ag rfl<|.ag rfl<|.z<|.mo rfl<|.q (.cast (v':=.bool true) .cG rfl) ?_
 refine .mo rfl<|.gt rfl ?_
 refine .mo rfl<|.gt rfl ?_
 refine .aH (M2 k6 s6 l6 w _ (PC.of (E:=44) (fr:=(0,0)) (.inr (by simp)))) (λv h=>?_)
 subst h
 refine .gt rfl ?_
 refine .aH (PH w a b c _) (λv h=>?_)
 subst h
 refine .gt rfl ?_
 refine .aH (xA a y _ _ _ _) (λv h=>?_)
 subst h
 refine .gt rfl ?_
 refine .q (.cast (v':=.bool true) .cG rfl) ?_
 refine .q .dh<|.az rfl ?_
 refine .ret (aW rfl ?_)
 ·exact⟨rfl,rfl⟩
def mA(n a b:Int):Int:=if n<a then a else if b<n then b else n
theorem M9(n a b:Int)(R:ao):Spec prog 4 [.int .i64 n,.int .i64 a,.int .i64 b] R [] λu H'=>u=.int .i64 (mA n a b)/\H'=[]:=by
 have c:mA n a b=if n<a then a else if b<n then b else n:=rfl
 generalize mA n a b=w at *
 refine Spec.body func4 rfl results4 ntmps4 rfl ?_
 refine .sr<|.ag rfl<|.zs<|.sr<|.mo rfl<|.mo rfl<|.q .lss<|.zn ?_
 refine .cond rfl (λd=>?_) λd=>?_
 rw[if_pos (bp d)]at c
 subst c
 refine .sr<|.mo rfl<|.az rfl ?_
 refine .ret (aR (aW rfl ?_))
 ·exact⟨rfl,rfl⟩
 rw[if_neg (ba d)]at c
 refine .kn<|.seq<|.sr<|.mo rfl<|.mo rfl<|.q .gtr<|.zn ?_
 refine .cond rfl (λe=>?_) λe=>?_
 rw[if_pos (bp e)]at c
 subst c
 refine .sr<|.mo rfl<|.az rfl ?_
 refine .ret (aR (aW rfl ?_))
 ·exact⟨rfl,rfl⟩
 rw[if_neg (ba e)]at c
 subst c
 refine .kn<|.sr<|.mo rfl<|.az rfl ?_
 refine .ret (aW rfl ?_)
 ·exact⟨rfl,rfl⟩
theorem Qx(n:Int):∃N:Nat,mA n 1 40=(N:Nat)/\1<=N/\N<=40:=by
 have h:1<=mA n 1 40/\mA n 1 40<=40:=by unfold mA;split<;>(try split)<;>omega
 exact⟨(mA n 1 40).toNat,by omega,by omega,by omega⟩
def zh(d N:Nat)(size:Int)(u:Value)(T:au):Prop:=∃(p:Option Addr) (e:Int),u=.tuple [.pointer p,.int .i64 e].toArray/\
 (((size<1\/(N:Int)<=2*size)/\p=none/\e=2)\/∃(sz k s l q:Nat),size=sz/\1<=sz/\2*sz<N/\p=some ⟨k,0,none⟩/\e=0/\PC (sg T) (pT k) (me s l q)/\PC (sg T) (pT s) (la d sz 1)/\PC (sg T) (pT l) (gh d ⟨2*sz,N,2*sz,1,0⟩))
theorem MR(d N:Nat)(T:au)(h:DI d (Dk.blank N) T)(F:1<=N)(G:N<=40)(a:Int)(R:ao)(n:∀p∈T,R p.1 p.2)(w:PC R (pT 1) (wv eW)):Spec prog 6 [pT d,.int .i64 a] R [] λu H'=>∃T',H'=[T']/\zh d N a u T':=by
 have f:(Dk.blank N).fs.length=N:=by simp[Dk.blank]
 have x:fh (Dk.blank N).fs=0:=qC N
 refine Spec.flat ?_
 by_cases o:a<1\/(N:Int)<=2*a
 ·refine Spec.mono (MT h (by omega) (by omega) a (by rw[f];exact o) R n) λu H' ⟨r,t⟩=>?_
  subst r;subst t
  exact⟨[],[],rfl,by simp,[],rfl,none,2,rfl,.inl ⟨o,rfl,rfl⟩⟩
 ·obtain⟨c,rfl⟩:=Int.eq_ofNat_of_zero_le (show 0<=a by omega)
  have e:fI (Dk.blank N).fs (Dk.blank N).fs.length ((Dk.blank N).fs.length-2*c) (2*c) 0=[]:=qv (tw nh)
  refine Spec.mono (sJ h rfl (λs y=>by rw[(ae4.1 y).2];rfl) c (by omega) (by omega) (by omega) (by omega) (λi _=>nh) (λj=>sU nh) (by rw[e];intro b v;cases v) (by rw[e];simp) R n w) λu H' z=>?_
  obtain⟨k,s,l,q,m,D,A,B,C,g,rfl,rfl,H⟩:=z
  rw[e]at g
  obtain rfl:m=0:=g
  rw[f,x]
  exact⟨_,_,rfl,List.Perm.refl _,_,rfl,some ⟨k,0,none⟩,0,rfl,.inr ⟨c,k,s,l,q,rfl,by omega,by omega,rfl,rfl,PC.of (E:=44) (fr:=(0,0)) (by simp[sg]),PC.of (E:=85) (fr:=(0,0)) (by simp[sg]),PC.of (E:=94) (fr:=(0,0)) (by simp[sg])⟩⟩
theorem ML(n B:Int)(w:OW)(o:eT)(R:ao)(h:fO R w o)(hg:PC R (pT 1) (wv eW)):Spec prog 3 [.int .i64 n,.int .i64 B,.agg (dq w o).toArray] R [] λv H'=>v=.bool true/\H'=[]:=by
 have i0:bI (dq w o):=⟨h.bU⟩
 have hk:dw [.s,.s,.i .u64,.i .i64] [.string ⟨#[]⟩,.string ⟨#[]⟩,.int .u64 0,.int .i64 1]:=⟨aeX,aeX,rfl,rfl,aeX⟩
 obtain⟨N,hN,a0,a3⟩:=Qx n
 refine Spec.body func3 rfl results3 ntmps3 rfl ?_
 refine .sr ?_
 refine .cc rfl (λV=>?_)
 refine .ag rfl<|.z<|.mo rfl ?_
 refine .aH (M9 n 1 40 _) (λu f=>?_)
 rw[hN]at f
 subst f
 refine .ag rfl<|.z<|.mo rfl ?_
 refine .bM (wY N (by omega) (by omega) _) (λu T2 f=>?_)
 obtain⟨d,rfl,hD⟩:=f
 refine .mo rfl<|.q .extract<|.q .extract<|.ag rfl<|.ag rfl<|.z<|.mo rfl<|.mo rfl ?_
 refine .bM (MR d N T2 hD a0 a3 B _ (λp M=>.inr (by simp[M])) (hg.mono λb o a=>.inl a)) (λu O f=>?_)
 obtain⟨p,e,rfl,L⟩:=f
 refine .mo rfl<|.q .extract<|.q .extract<|.ag rfl<|.ag rfl<|.z<|.mo rfl ?_
 refine .aH (MU B _) (λu f=>?_)
 subst f
 refine .mo rfl<|.q .extract<|.q .extract<|.ag rfl<|.ag rfl<|.zs<|.sr<|.mo rfl<|.q (.jm rfl rfl) ?_
 refine .mo rfl<|.gt rfl ?_
 refine .mo rfl<|.gt rfl ?_
 refine .q (.cast (v':=.bool false) .cb rfl) ?_
 refine .q .cd<|.zn<|.bB<|.kn<|.seq ?_
 refine bF.oW [(5,_)] kE.c (X:=Unit) (λ_=>True) (λ_ E=>E) (λ_=>[bl V (dq w o) 30]) ?_ ?_
 refine .sr<|.mo rfl<|.q .lss<|.mo rfl ?_
 refine .split (t:=41) rfl (λm=>?_) (λm=>?_)
 refine .gF m<|.gF m<|.gF m<|.q (.bA m) ?_
 refine .mo rfl<|.gX<|.gX<|.gX<|.gX<|.q .dh<|.zn<|.cW ?_
 have Z:B<1\/(N:Int)<=2*B:=by simp only[ae5,ae6]at *;omega
 obtain⟨rfl,rfl⟩:p=none/\e=2:=by
  rcases L with⟨_,j,A⟩|⟨C,_,_,_,_,j,_,A,_⟩
  ·exact⟨j,A⟩
  ·omega
 refine .sr<|.mo rfl<|.q (.jm rfl rfl) ?_
 refine .mo rfl<|.gt rfl ?_
 refine .mo rfl<|.gt rfl ?_
 refine .q (.cast (v':=.bool false) .cb rfl) ?_
 refine .q .cd<|.zn<|.bB<|.skip ?_
 ·exact aN () aeX kE.c (bu.drop [0,0] _)
 refine .gT m<|.mo rfl<|.gT m<|.mo rfl<|.gT m<|.q .geq<|.q (.bg m) ?_
 refine .mo rfl ?_
 refine .split (t:=46) rfl (λg=>?_) (λg=>?_)
 refine .gF g<|.gF g<|.gF g<|.gF g<|.q (.bA g) ?_
 refine .zn<|.cW ?_
 have Z:B<1\/(N:Int)<=2*B:=by simp only[ae5,ae6]at *;omega
 obtain⟨rfl,rfl⟩:p=none/\e=2:=by
  rcases L with⟨_,j,A⟩|⟨C,_,_,_,_,j,_,A,_⟩
  ·exact⟨j,A⟩
  ·omega
 refine .sr<|.mo rfl<|.q (.jm rfl rfl) ?_
 refine .mo rfl<|.gt rfl ?_
 refine .mo rfl<|.gt rfl ?_
 refine .q (.cast (v':=.bool false) .cb rfl) ?_
 refine .q .cd<|.zn<|.bB<|.skip ?_
 ·exact aN () aeX kE.c (bu.drop [0,0] _)
 refine .gT g<|.mo rfl<|.gT g ?_
 refine .q (.i64 (2*B) .mul ⟨rfl,by have j:=ba g;have A:=ba m;omega,by have j:=ba g;omega⟩) ?_
 refine .gT g<|.mo rfl<|.gT g<|.q .geq<|.q (.bg g) ?_
 refine .zn ?_
 refine .cond rfl (λJ=>?_) λJ=>?_
 have Z:B<1\/(N:Int)<=2*B:=by simp only[ae5,ae6]at *;omega
 obtain⟨rfl,rfl⟩:p=none/\e=2:=by
  rcases L with⟨_,j,A⟩|⟨C,_,_,_,_,j,_,A,_⟩
  ·exact⟨j,A⟩
  ·omega
 refine .sr<|.mo rfl<|.q (.jm rfl rfl) ?_
 refine .mo rfl<|.gt rfl ?_
 refine .mo rfl<|.gt rfl ?_
 refine .q (.cast (v':=.bool false) .cb rfl) ?_
 refine .q .cd<|.zn<|.bB<|.skip ?_
 ·exact aN () aeX kE.c (bu.drop [0,0] _)
 obtain⟨C,k,s,l,q,rfl,a1,a2,rfl,rfl,pk,ps,pl⟩:=L.resolve_left λj=>by
  have A:=ba J
  have h7:=ba m
  have Y:=j.1
  omega
 have K:∀(b:Nat) (x:Obj) (H:aF),O∈H->sg O b x->Rx R H b x:=λb x H S a=>.inr (List.mem_flatten.2 ⟨O,S,a⟩)
 refine .sr<|.mo rfl<|.q (.cast (v':=.bool false) .cb rfl) ?_
 refine .mo rfl<|.gt rfl ?_
 refine .mo rfl<|.gt rfl ?_
 refine .aH (MZ (d:=d) k s l q ⟨2*C,N,2*C,1,0⟩ (by show 2*C<=N;omega) (by show N<2^40;omega) _ (pk.mono λb x a=>K b x _ (by simp) a) (pl.mono λb x a=>K b x _ (by simp) a)) (λu f=>?_)
 subst f
 refine .gt rfl ?_
 refine .mo rfl<|.gt rfl ?_
 refine .mo rfl<|.gt rfl ?_
 refine .ia (2*C) .mul ?_
 refine .gt rfl ?_
 refine .ia (N-2*C) .sub ?_
 refine .gt rfl ?_
 refine .q (.cast (v':=.bool false) .cb (ae2 Value.bool (by simp))) ?_
 refine .q .cd<|.mo rfl<|.gt rfl ?_
 refine .mo rfl<|.gt rfl ?_
 refine .aH (MX (d:=d) k s l q C 1 _ (pk.mono λb x a=>K b x _ (by simp) a) (ps.mono λb x a=>K b x _ (by simp) a)) (λu f=>?_)
 subst f
 refine .gt rfl ?_
 refine .q (.cast (v':=.bool false) .cb rfl) ?_
 refine .q .cd<|.zn<|.bB<|.skip ?_
 ·exact aN () aeX kE.c (bu.drop [0,0] _)
 intro y hy
 refine aG<|.seq<|.sr<|.az rfl<|.block ?_
 refine .ik [(5,_)] (X:=Nat) (λk=>k<=2) (λk E=>(13,iN k)::E) (λ_ G=>G) (λk=>2-k) 0 (by omega) kE.c.c rH ?_
 intro k a5
 refine .seq<|.sr<|.mo rfl<|.q .lss<|.zn ?_
 refine .cond rfl (λQ=>?_) λQ=>?_
 refine .kn<|.seq<|.block<|.sr<|.ag rfl<|.zs ?_
 refine bF.oW [(5,_),(13,_)] kE.c.c (X:=Value×au) (λy=>One y.1/\(y.1=.pointer none\/∃q,y.1=pT q/\(q,.cells [.pointer none,.pointer none,.pointer none,.int .i64 0].toArray 44 (0,0))∈y.2)) (λy E=>(14,y.1)::E) (λy=>[y.2,bl V (dq w o) 30]) ?_ ?_
 refine .sr<|.mo rfl<|.q .cG<|.zn ?_
 refine .cond rfl (λY=>?_) λY=>?_
 refine .region ?_
 refine .q .cC ?_
 refine .cc rfl (λD=>?_)
 refine .ag rfl<|.nil ?_
 ·first
   |exact aN (pT D,bl D [.pointer none,.pointer none,.pointer none,.int .i64 0] 44) ⟨⟨rfl⟩,.inr ⟨D,rfl,by simp⟩⟩ kE.c.c.c rH
   |exact aN (.pointer none,[]) ⟨⟨rfl⟩,.inl rfl⟩ kE.c.c.c (bu.cu (by simp))
 refine .skip ?_
 ·first
   |exact aN (pT D,bl D [.pointer none,.pointer none,.pointer none,.int .i64 0] 44) ⟨⟨rfl⟩,.inr ⟨D,rfl,by simp⟩⟩ kE.c.c.c rH
   |exact aN (.pointer none,[]) ⟨⟨rfl⟩,.inl rfl⟩ kE.c.c.c (bu.cu (by simp))
 intro y hy
 obtain⟨F,U⟩:=y
 obtain⟨i2,M⟩:=hy
 simp only at i2 M⊢
 have I:∀(T:ao) (H':aF),U∈H'->jN (Rx T H') F:=λT H' S=>M.imp id λ⟨q,h1,J⟩=>⟨q,h1,.inr (List.mem_flatten.2 ⟨U,S,J⟩)⟩
 refine aG<|.sr<|.mo rfl<|.q (.bj rfl) ?_
 refine .bM (Ns w o _ (h.mono λb o a=>.inl a)) (λu T5 f=>?_)
 obtain⟨w3,rfl,W⟩:=f
 have i3:bI (dq w3 o.ga):=⟨W.bU⟩
 refine .aH (QN F w3 o.ga _ (I _ _ (by simp)) (W.mono λb x a=>.inr (by have a4:(b,x)∈T5:=a;simp[a4]))) (λv r=>?_)
 subst r
 refine .q .cC ?_
 refine .q (.cast (v':=.bool false) (.xo rfl rfl hk hk) (by simp[ek,ls,bT])) ?_
 refine .mo rfl<|.gt rfl ?_
 refine .mo rfl<|.gt rfl ?_
 refine .aH (QS F _ (I _ _ (by simp))) (λv r=>?_)
 subst r
 refine .gt rfl ?_
 refine .q (.jm rfl rfl) ?_
 refine .q .cd<|.mo rfl<|.gt rfl ?_
 refine .mo rfl<|.gt rfl ?_
 refine .aH (QM F _ (I _ _ (by simp))) (λv r=>?_)
 subst r
 refine .gt rfl ?_
 refine .q (.cast (v':=.bool false) .cb rfl) ?_
 refine .q .cd<|.mo rfl<|.gt rfl ?_
 refine .mo rfl<|.gt rfl ?_
 refine .aH (QR F _ (I _ _ (by simp))) (λv r=>?_)
 subst r
 refine .gt rfl ?_
 refine .mo rfl<|.gt rfl ?_
 refine .aH (QO F _ (I _ _ (by simp))) (λv r=>?_)
 subst r
 refine .gt rfl ?_
 refine .q (.i64 0 .add ⟨rfl,by omega,by omega⟩) ?_
 refine .gt rfl ?_
 refine .q (.cast (v':=.bool false) .cb rfl) ?_
 refine .q .cd<|.zn<|.bB<|.skip<|bz<|aG<|.region<|.mo rfl ?_
 refine .ia (k+1) .add ?_
 refine .ag rfl<|.nil ?_
 ·exact br (k+1) (by simp at Q;omega) (by simp at Q;omega) kE.c.c (bG [2])
 refine .exit<|bk<|bw<|bq<|aG<|.sr ?_
 refine .aH (MW _ (hg.mono λb o a=>.inl a)) (λv r=>?_)
 subst r
 refine .az rfl ?_
 refine .ret (aW rfl ?_)
 ·exact⟨rfl,rfl⟩
end Go.Proofs.YtocjmmbldeljnaaGreatDoor

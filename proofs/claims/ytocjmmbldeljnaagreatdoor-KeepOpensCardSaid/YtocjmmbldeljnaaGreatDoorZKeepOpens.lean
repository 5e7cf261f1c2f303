/-
  THE LAW 'KeepOpens': on which disks, with which sizes, there is a state, and what is answered where there is none: doorwardlaw32.KeepOpens answers true, and what it is given reads as it did. No condition.
-/
import Derived.Test.YtocjmmbldeljnaaGreatDoorKKeepOpensS
import Derived.Test.YtocjmmbldeljnaaGreatDoorKKeepOpensV
import Derived.Test.YtocjmmbldeljnaaGreatDoorKKeepOpensW
import Derived.Test.YtocjmmbldeljnaaGreatDoorRows
import Derived.Test.YtocjmmbldeljnaaGreatDoorTie
import Derived.Test.YtocjmmbldeljnaaGreatDoorCards
import Derived.SevenTiedAt
import Derived.LaidMore
import Derived.Lay
import Derived.Stop.Joined
import Derived.WalkKit
import Derived.ProofKit
import Derived.OpenShut
import Derived.Carry
import Derived.ChangeMaps5
set_option linter.unusedVariables false
set_option maxRecDepth 4000
namespace Go.Proofs.YtocjmmbldeljnaaGreatDoor
open Go.ChangeShapes Go.WideShapes Go.ChangeAt Go.RowKit Go.ChangeMaps
namespace KeepOpens
theorem Aa(H:Type)(enc:TypeId×Value→H)(W:World)(base:Nat)(args:Array Value)(ds gs:List (DataW H))(before:List MemPlace)(hL:laidMetH Tryz.prog kS W)
    (hval:∀(j:Nat) t v,Tryz.f3.params[j]? =some t→args[j]? =some v→Value.okWide Tryz.prog W .any base t v)
    (hW:DataW.Whole enc Tryz.prog Tryz.f3.params.toList Rows.keepOpensSpec.vars false W args.toList ds gs before):
    Calls Tryz.prog 3 args W fun e W'=>∃v,e=.returned v∧Rows.keepOpensSpec.post enc Tryz.prog Tryz.f3 false true false false W args v W':=by
  have hW':=hW
  obtain⟨p,q,hA0,hV,rfl,hfz,hnd⟩:=hW
  have hA:DataW.TrodAll enc Tryz.prog W 0 (fun _=>true) true Tryz.f3.params.toList args.toList ds p:=hA0
  rw[Tryz.params3]at hA hval
  obtain⟨v0,v1,v2,d0,d1,d2,p0,p1,p2,rfl,rfl,rfl,h0,h1,h2⟩:=trodAll_three hA
  obtain⟨z0,rfl,m0,M0,w0⟩:=open_int Tryz.underlying3 (hval 0 _ v0 rfl rfl) h0
  obtain⟨z1,rfl,m1,M1,w1⟩:=open_int Tryz.underlying3 (hval 1 _ v1 rfl rfl) h1
  obtain⟨cs,rfl,f2,h2⟩:=zP Tryz.underlying30 (hval 2 _ v2 rfl rfl) h2
  obtain⟨w,o,rfl,ho,hn,hr⟩:=NR h2
  have hg:=QD hL
  have hs:Spec Tryz.prog 3 [.int .i64 z0,.int .i64 z1,.agg (dq w o).toArray] (Rw W) [] fun v H'=>v=.bool true∧H'=[]:=
    ML z0 z1 w o _ ho hg
  refine(hs W ⟨by simp,by simp⟩ (fun b o hb=>⟨hb,by simp⟩)).mono fun e W' ⟨v,H',he,⟨hv,hH⟩,_,hf⟩=>?_
  subst he;subst hv;subst hH
  obtain⟨rfl,rfl⟩:=trodVars_none hV
  exact⟨_,rfl,Od kids full (by rw[Tryz.params3];decide+kernel) hW' rfl rfl rfl (fun _ _ _=>trodAll_cons_mk (shut_bool Tryz.underlying4 _) trodAll_mk0) hf⟩
set_option maxRecDepth 100000 in
theorem lifted(os:Os)(started:os.Started)(H:Type)(enc:TypeId×Value→H):
    ReturnsInHanded {} Tryz.checked os 3 .any (fun w args=>(Rows.keepOpensSpec.pre enc Tryz.prog Tryz.f3 [] false w args∧laidMetH Tryz.prog kS w)∧sizedMet enc Tryz.prog Tryz.f3 (OpenSpec.ofChange Rows.keepOpensSpec) false w args)
      (Rows.keepOpensSpec.post enc Tryz.prog Tryz.f3 false true false false):=by
  refine returnsInHanded_of_change_and (C:=Tryz.checked) (X:=fun w _=>laidMetH Tryz.prog kS w) (fun _ _ _ hh h=>h.of_heap hh) own started (by kernel_rfl) Tryz.func3
    (ChangeSpec.witness_shaped (enc:=enc) (C:=Tryz.checked) (os:=os) (X:=fun w _=>laidMetH Tryz.prog kS w) false (World.laidAll Tryz.prog os kS) #[.int .i64 0,.int .i64 0,.agg #[.int .i64 0,.int .i64 0,.string ⟨#[]⟩,.string ⟨#[]⟩,.slice none 0 0,.slice none 0 0,.string ⟨#[]⟩,.string ⟨#[]⟩,.string ⟨#[]⟩,.string ⟨#[]⟩,.slice none 0 0,.string ⟨#[]⟩,.string ⟨#[]⟩,.slice none 0 0,.slice none 0 0,.slice none 0 0,.slice none 0 0,.slice none 0 0,.int .u64 0]] 8 (World.laidAll_os _ _ _) (World.shaped_of_ZipB (by kernel_rfl) (by kernel_rfl)) (by kernel_rfl) (by kernel_rfl) (by kernel_rfl) (Ae os _)) ?_
  intro W base args ds gs before hval hW _ _ hL _
  exact Aa H enc W base args ds gs before hL hval hW
theorem LG:(Rows.keepOpensRow.inPlace==Program.inPlace Tryz.pinned.checked.prog 3)=true:=by kernel_rfl
theorem LH:(Rows.keepOpensRow.unfollowed==Program.unfollowed Tryz.pinned.checked.prog 3)=true:=by kernel_rfl
theorem LI:(Rows.keepOpensRow.recurses==Program.recurses Tryz.pinned.checked.prog 3)=true:=by kernel_rfl
theorem LJ:(Rows.keepOpensRow.named==Program.varsNamed Tryz.pinned.checked.prog 3)=true:=by kernel_rfl
theorem vY:Program.funcNamed Tryz.pinned.checked.prog Rows.keepOpensRow.func=some 3:=by kernel_rfl
theorem LK:laidOutB Tryz.pinned.checked.prog=true:=by kernel_rfl
theorem LL:mapsRowed Tryz.pinned.checked.prog=true:=by kernel_rfl
theorem LM:Program.stopsHeard Tryz.pinned.checked.prog=true:=by kernel_rfl
theorem LN:Program.mayEnter Tryz.pinned.checked.prog=true:=by kernel_rfl
theorem LO:(Rows.keepOpensRow.lifted==Program.liftsFinal Tryz.pinned.checked.prog)=true:=by kernel_rfl
theorem LP:(Program.make Tryz.pinned.checked.prog==some Rows.keepOpensRow.make)=true:=by kernel_rfl
theorem facts:joinedFacts Tryz.pinned.checked.prog 3 Tryz.f3 Rows.keepOpensSpec Rows.keepOpensRow=true:=by
  unfold joinedFacts
  rw[LG,LH,LI,LJ,LK,LL,LM,LN,LO,LP]
  kernel_rfl
theorem Of:Rows.KeepOpensSaid:=
  OpenClaim.holds_of_wide 3 Tryz.f3 rfl rfl rfl rfl rfl rfl rfl ⟨rfl,rfl,rfl,rfl,rfl⟩ rfl rfl rfl rfl rfl vY Tryz.func3 facts
    (of_decide_eq_true (by kernel_rfl)) (by unfold Func.isWrapper;first|(rw[if_pos (by decide+kernel)];kernel_rfl)|(rw[if_neg (by decide+kernel)];exact⟨rfl,rfl⟩))
    (fun os started H enc _=>lifted os started H enc)
theorem zH:OpenClaim.wfByText (OpenSpec.ofChange Rows.keepOpensSpec) Rows.keepOpensRow=true:=by kernel_rfl
theorem zI:Tryz.pinned.checked.prog.mainIs=some (true,("5d90ace1d3a648e3423ae1b9e3c566e98c7a5179f2993ed88d207a070ae418ec":String).toList):=by kernel_rfl
theorem zJ:true=Program.looks Tryz.pinned.checked.prog []:=by kernel_rfl
theorem zK:([3,3,30].all fun u=> !Program.wantsStandIn Tryz.prog u)=true:=by kernel_rfl
theorem Mv{P:Program}(h:P.funcs.any Func.goes=false)(f:FuncId):P.goes f=false:=by
  unfold Program.goes
  rw[h,Bool.and_false,Bool.or_false,List.any_eq_false]
  intro g _
  cases hg:P.funcs[g]? with
  |none=>simp
  |some fn=>
   have hm:fn∈P.funcs:=Array.mem_of_getElem? hg
   have:=Array.any_eq_false'.1 h fn hm
   simpa using this
theorem Mu{P:Program}{c:OpenClaim}(h:P.funcs.any Func.goes=false)(hs:c.start=.entering):false=c.goesBy P:=by
  unfold OpenClaim.goesBy Program.goesAt Program.goesFrom
  rw[hs,Bool.or_false]
  cases P.funcNamed c.func with
  |none=>rfl
  |some f=>simp[Mv h f]
theorem zL:false=OpenClaim.goesBy Rows.keepOpensRow Tryz.pinned.checked.prog:=Mu (by kernel_rfl) rfl
theorem zM:Rows.KeepOpensCardSaid:=
  Claim7.holds_tied_plain_at .later [] [.data,.data] true (true,"5d90ace1d3a648e3423ae1b9e3c566e98c7a5179f2993ed88d207a070ae418ec") true
    Of (fun _ h=>by cases h) zH (fun _ h=>by cases h) keepOpens_row_tie rfl ⟨rfl,rfl⟩ zI rfl
    (fun f fn hf hfn=>by
      obtain rfl:f=3:=Option.some.inj (vY.symm.trans hf)|>.symm
      obtain rfl:fn=Tryz.f3:=(Option.some.inj (Tryz.func3.symm.trans hfn)).symm
      exact⟨zJ,fun j t ht=>by
        rw[Tryz.params3]at ht
        have hm:t∈[3,3,30]:=by simpa using Array.mem_of_getElem? ht
        exact(show Program.wantsStandIn Tryz.prog t=false by simpa using List.all_eq_true.1 zK t hm)⟩)
    zL
end KeepOpens
theorem keepOpensProved:Rows.KeepOpensCardSaid:=KeepOpens.zM
#print axioms keepOpensProved
end Go.Proofs.YtocjmmbldeljnaaGreatDoor

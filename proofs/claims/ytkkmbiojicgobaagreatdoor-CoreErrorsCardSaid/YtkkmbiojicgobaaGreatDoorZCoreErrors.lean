/-
  THE LAW 'CoreErrors': a call that answers an error changes nothing but that tokens are cut, and none comes by it: doorwardlaw30.CoreErrors answers true for any calls, and what it is given reads as it did. No condition.
-/
import Derived.Test.YtkkmbiojicgobaaGreatDoorKCoreErrorsT
import Derived.Test.YtkkmbiojicgobaaGreatDoorKCoreErrorsYB
import Derived.Test.YtkkmbiojicgobaaGreatDoorKCoreErrorsYC
import Derived.Test.YtkkmbiojicgobaaGreatDoorRows
import Derived.Test.YtkkmbiojicgobaaGreatDoorTie
import Derived.Test.YtkkmbiojicgobaaGreatDoorCards
import Derived.SevenTiedAt
import Derived.LaidMore
import Derived.Stop.Joined
import Derived.WalkKit
import Derived.ProofKit
import Derived.OpenShut
import Derived.Carry
import Derived.ChangeMaps5
set_option linter.unusedVariables false
set_option maxRecDepth 4000
namespace Go.Proofs.YtkkmbiojicgobaaGreatDoor
open Go.ChangeShapes Go.WideShapes Go.ChangeAt Go.RowKit Go.ChangeMaps
namespace CoreErrors
theorem Ai(H:Type)(enc:TypeId×Value→H)(W:World)(base:Nat)(args:Array Value)(ds gs:List (DataW H))(before:List MemPlace)(hL:laidMetH Tryz.prog m3 W)
    (hval:∀(j:Nat) t v,Tryz.f3.params[j]? =some t→args[j]? =some v→Value.okWide Tryz.prog W .any base t v)
    (hW:DataW.Whole enc Tryz.prog Tryz.f3.params.toList Rows.coreErrorsSpec.vars false W args.toList ds gs before):
    Calls Tryz.prog 3 args W fun e W'=>∃v,e=.returned v∧Rows.coreErrorsSpec.post enc Tryz.prog Tryz.f3 false true false false W args v W':=by
  have hW':=hW
  obtain⟨p,q,hA0,hV,rfl,hfz,hnd⟩:=hW
  have hA:DataW.TrodAll enc Tryz.prog W 0 (fun _=>true) true Tryz.f3.params.toList args.toList ds p:=hA0
  rw[Tryz.params3]at hA hval
  obtain⟨v0,v1,d0,d1,p0,p1,rfl,rfl,rfl,h0,h1⟩:=trodAll_two hA
  obtain⟨f0,h0⟩:=ND Tryz.underlying22 (hval 0 _ v0 rfl rfl) h0
  obtain⟨vd,ds,e0,hS,hD⟩:=RS.sq (sz:=16) (en:=uP) (D:=fun d:OD=>OR (Rw W) d.1 d.2) Tryz.underlying22 (by kernel_rfl) (by omega) h0 fun m cs x hx=>by
    obtain⟨w,c,rfl,hd⟩:=wF hx
    exact⟨rfl,hd.bG,(w,c),rfl,hd⟩
  cases e0
  obtain⟨cs,rfl,f1,h1⟩:=zX Tryz.underlying29 (hval 1 _ v1 rfl rfl) h1
  obtain⟨w,x,rfl,hx⟩:=wF h1
  have hg:=O6 hL
  have hs:Spec Tryz.prog 3 [v0,.agg (fW w x).toArray] (Rw W) [] fun v H'=>v=.bool true∧H'=[]:=
    Lo v0 ds w x _ hS hD hx hg
  refine(hs W ⟨by simp,by simp⟩ (fun b o hb=>⟨hb,by simp⟩)).mono fun e W' ⟨v,H',he,⟨hv,hH⟩,_,hf⟩=>?_
  subst he;subst hv;subst hH
  obtain⟨rfl,rfl⟩:=trodVars_none hV
  exact⟨_,rfl,LY kids full (by rw[Tryz.params3];decide+kernel) hW' rfl rfl rfl (fun _ _ _=>trodAll_cons_mk (shut_bool Tryz.underlying4 _) trodAll_mk0) hf⟩
set_option maxRecDepth 100000 in
theorem lifted(os:Os)(started:os.Started)(H:Type)(enc:TypeId×Value→H):
    ReturnsInHanded {} Tryz.checked os 3 .any (fun w args=>(Rows.coreErrorsSpec.pre enc Tryz.prog Tryz.f3 [] false w args∧laidMetH Tryz.prog m3 w)∧sizedMet enc Tryz.prog Tryz.f3 (OpenSpec.ofChange Rows.coreErrorsSpec) false w args)
      (Rows.coreErrorsSpec.post enc Tryz.prog Tryz.f3 false true false false):=by
  refine returnsInHanded_of_change_and (C:=Tryz.checked) (X:=fun w _=>laidMetH Tryz.prog m3 w) (fun _ _ _ hh h=>h.of_heap hh) own started (by kernel_rfl) Tryz.func3
    (ChangeSpec.witness_shaped (enc:=enc) (C:=Tryz.checked) (os:=os) (X:=fun w _=>laidMetH Tryz.prog m3 w) false (World.doorLaid Tryz.prog 400 os) #[.slice none 0 0,.agg #[.int .i64 0,.int .i64 0,.string ⟨#[]⟩,.string ⟨#[]⟩,.slice none 0 0,.slice none 0 0,.string ⟨#[]⟩,.string ⟨#[]⟩,.string ⟨#[]⟩,.string ⟨#[]⟩,.slice none 0 0,.string ⟨#[]⟩,.string ⟨#[]⟩,.slice none 0 0,.slice none 0 0,.int .u64 0]] 8 rfl (World.shaped_of_RefB (by kernel_rfl) (by kernel_rfl)) (by kernel_rfl) (by kernel_rfl) (by kernel_rfl) (At os _)) ?_
  intro W base args ds gs before hval hW _ _ hL _
  exact Ai H enc W base args ds gs before hL hval hW
theorem J2:(Rows.coreErrorsRow.inPlace==Program.inPlace Tryz.pinned.checked.prog 3)=true:=by kernel_rfl
theorem J3:(Rows.coreErrorsRow.unfollowed==Program.unfollowed Tryz.pinned.checked.prog 3)=true:=by kernel_rfl
theorem J4:(Rows.coreErrorsRow.recurses==Program.recurses Tryz.pinned.checked.prog 3)=true:=by kernel_rfl
theorem J5:(Rows.coreErrorsRow.named==Program.varsNamed Tryz.pinned.checked.prog 3)=true:=by kernel_rfl
theorem vb:Program.funcNamed Tryz.pinned.checked.prog Rows.coreErrorsRow.func=some 3:=by kernel_rfl
theorem J6:laidOutB Tryz.pinned.checked.prog=true:=by kernel_rfl
theorem J7:mapsRowed Tryz.pinned.checked.prog=true:=by kernel_rfl
theorem J8:Program.stopsHeard Tryz.pinned.checked.prog=true:=by kernel_rfl
theorem J9:Program.mayEnter Tryz.pinned.checked.prog=true:=by kernel_rfl
theorem Ka:(Rows.coreErrorsRow.lifted==Program.liftsFinal Tryz.pinned.checked.prog)=true:=by kernel_rfl
theorem Kb:(Program.make Tryz.pinned.checked.prog==some Rows.coreErrorsRow.make)=true:=by kernel_rfl
theorem facts:joinedFacts Tryz.pinned.checked.prog 3 Tryz.f3 Rows.coreErrorsSpec Rows.coreErrorsRow=true:=by
  unfold joinedFacts
  rw[J2,J3,J4,J5,J6,J7,J8,J9,Ka,Kb]
  kernel_rfl
theorem L7:Rows.CoreErrorsSaid:=
  OpenClaim.holds_of_wide 3 Tryz.f3 rfl rfl rfl rfl rfl rfl rfl ⟨rfl,rfl,rfl,rfl,rfl⟩ rfl rfl rfl rfl rfl vb Tryz.func3 facts
    (of_decide_eq_true (by kernel_rfl)) (by unfold Func.isWrapper;first|(rw[if_pos (by decide+kernel)];kernel_rfl)|(rw[if_neg (by decide+kernel)];exact⟨rfl,rfl⟩))
    (fun os started H enc _=>lifted os started H enc)
theorem zO:OpenClaim.wfByText (OpenSpec.ofChange Rows.coreErrorsSpec) Rows.coreErrorsRow=true:=by kernel_rfl
theorem zP:Tryz.pinned.checked.prog.mainIs=some (true,("d939dd8eaf01f64cf308dff58bfc43f83e7106e63041e4541cc197dd54073a4a":String).toList):=by kernel_rfl
theorem zQ:true=Program.looks Tryz.pinned.checked.prog []:=by kernel_rfl
theorem zR:([22,29].all fun u=> !Program.wantsStandIn Tryz.prog u)=true:=by kernel_rfl
theorem KE{P:Program}(h:P.funcs.any Func.goes=false)(f:FuncId):P.goes f=false:=by
  unfold Program.goes
  rw[h,Bool.and_false,Bool.or_false,List.any_eq_false]
  intro g _
  cases hg:P.funcs[g]? with
  |none=>simp
  |some fn=>
   have hm:fn∈P.funcs:=Array.mem_of_getElem? hg
   have:=Array.any_eq_false'.1 h fn hm
   simpa using this
theorem KC{P:Program}{c:OpenClaim}(h:P.funcs.any Func.goes=false)(hs:c.start=.entering):false=c.goesBy P:=by
  unfold OpenClaim.goesBy Program.goesAt Program.goesFrom
  rw[hs,Bool.or_false]
  cases P.funcNamed c.func with
  |none=>rfl
  |some f=>simp[KE h f]
theorem zS:false=OpenClaim.goesBy Rows.coreErrorsRow Tryz.pinned.checked.prog:=KC (by kernel_rfl) rfl
theorem zT:Rows.CoreErrorsCardSaid:=
  Claim7.holds_tied_plain_at .later [] [.data] true (true,"d939dd8eaf01f64cf308dff58bfc43f83e7106e63041e4541cc197dd54073a4a") true
    L7 (fun _ h=>by cases h) zO (fun _ h=>by cases h) coreErrors_row_tie rfl ⟨rfl,rfl⟩ zP rfl
    (fun f fn hf hfn=>by
      obtain rfl:f=3:=Option.some.inj (vb.symm.trans hf)|>.symm
      obtain rfl:fn=Tryz.f3:=(Option.some.inj (Tryz.func3.symm.trans hfn)).symm
      exact⟨zQ,fun j t ht=>by
        rw[Tryz.params3]at ht
        have hm:t∈[22,29]:=by simpa using Array.mem_of_getElem? ht
        exact(show Program.wantsStandIn Tryz.prog t=false by simpa using List.all_eq_true.1 zR t hm)⟩)
    zS
end CoreErrors
theorem coreErrorsProved:Rows.CoreErrorsCardSaid:=CoreErrors.zT
#print axioms coreErrorsProved
end Go.Proofs.YtkkmbiojicgobaaGreatDoor

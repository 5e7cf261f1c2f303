/-
  THE LAW 'CorePlays': each of the first thirty calls is answered as the document's core answers it, behind each both cores have the same, and what is looked for is found alike: doorwardlaw30.CorePlays answers true for any calls, and what it is given reads as it did. No condition.
-/
import Derived.Test.YtkkmbiojicgobaaGreatDoorKCorePlaysT
import Derived.Test.YtkkmbiojicgobaaGreatDoorKCorePlaysYB
import Derived.Test.YtkkmbiojicgobaaGreatDoorKCorePlaysYC
import Derived.Test.YtkkmbiojicgobaaGreatDoorRows
import Derived.Test.YtkkmbiojicgobaaGreatDoorTie
import Derived.Test.YtkkmbiojicgobaaGreatDoorCards
import Derived.SevenTiedAt
import Derived.LaidMore
import Derived.Stop.Joined
import Derived.WalkKit
import Derived.ProofKit
import Derived.OpenShut
import Derived.Carry
import Derived.ChangeMaps5
set_option linter.unusedVariables false
set_option maxRecDepth 4000
namespace Go.Proofs.YtkkmbiojicgobaaGreatDoor
open Go.ChangeShapes Go.WideShapes Go.ChangeAt Go.RowKit Go.ChangeMaps
namespace CorePlays
theorem zY(H:Type)(enc:TypeId×Value→H)(W:World)(base:Nat)(args:Array Value)(ds gs:List (DataW H))(before:List MemPlace)(hL:laidMetH Tryz.prog mW W)
    (hval:∀(j:Nat) t v,Tryz.f4.params[j]? =some t→args[j]? =some v→Value.okWide Tryz.prog W .any base t v)
    (hW:DataW.Whole enc Tryz.prog Tryz.f4.params.toList Rows.corePlaysSpec.vars false W args.toList ds gs before):
    Calls Tryz.prog 4 args W fun e W'=>∃v,e=.returned v∧Rows.corePlaysSpec.post enc Tryz.prog Tryz.f4 false true false false W args v W':=by
  have hW':=hW
  obtain⟨p,q,hA0,hV,rfl,hfz,hnd⟩:=hW
  have hA:DataW.TrodAll enc Tryz.prog W 0 (fun _=>true) true Tryz.f4.params.toList args.toList ds p:=hA0
  rw[Tryz.params4]at hA hval
  obtain⟨v0,d0,rfl,rfl,h0⟩:=trodAll_one hA
  obtain⟨f0,h0⟩:=Nn Tryz.underlying22 (hval 0 _ v0 rfl rfl) h0
  obtain⟨vd,ds,e0,hS,hD⟩:=RS.se (sz:=16) (en:=uH) (D:=fun d:OD=>OR (Rw W) d.1 d.2) Tryz.underlying22 (by kernel_rfl) (by omega) h0 fun m cs x hx=>by
    obtain⟨w,c,rfl,hd⟩:=K3 hx
    exact⟨rfl,hd.bD,(w,c),rfl,hd⟩
  cases e0
  have hg:=OK hL
  have hs:Spec Tryz.prog 4 [v0] (Rw W) [] fun v H'=>v=.bool true∧H'=[]:=
    Lf v0 ds _ hS hD hg
  refine(hs W ⟨by simp,by simp⟩ (fun b o hb=>⟨hb,by simp⟩)).mono fun e W' ⟨v,H',he,⟨hv,hH⟩,_,hf⟩=>?_
  subst he;subst hv;subst hH
  obtain⟨rfl,rfl⟩:=trodVars_none hV
  exact⟨_,rfl,LJ kids full (by rw[Tryz.params4];decide+kernel) hW' rfl rfl rfl (fun _ _ _=>trodAll_cons_mk (shut_bool Tryz.underlying4 _) trodAll_mk0) hf⟩
set_option maxRecDepth 100000 in
theorem lifted(os:Os)(started:os.Started)(H:Type)(enc:TypeId×Value→H):
    ReturnsInHanded {} Tryz.checked os 4 .any (fun w args=>(Rows.corePlaysSpec.pre enc Tryz.prog Tryz.f4 [] false w args∧laidMetH Tryz.prog mW w)∧sizedMet enc Tryz.prog Tryz.f4 (OpenSpec.ofChange Rows.corePlaysSpec) false w args)
      (Rows.corePlaysSpec.post enc Tryz.prog Tryz.f4 false true false false):=by
  refine returnsInHanded_of_change_and (C:=Tryz.checked) (X:=fun w _=>laidMetH Tryz.prog mW w) (fun _ _ _ hh h=>h.of_heap hh) own started (by kernel_rfl) Tryz.func4
    (ChangeSpec.witness_shaped (enc:=enc) (C:=Tryz.checked) (os:=os) (X:=fun w _=>laidMetH Tryz.prog mW w) false (World.doorLaid Tryz.prog 400 os) #[.slice none 0 0] 8 rfl (World.shaped_of_RefB (by kernel_rfl) (by kernel_rfl)) (by kernel_rfl) (by kernel_rfl) (by kernel_rfl) (Af os _)) ?_
  intro W base args ds gs before hval hW _ _ hL _
  exact zY H enc W base args ds gs before hL hval hW
theorem JL:(Rows.corePlaysRow.inPlace==Program.inPlace Tryz.pinned.checked.prog 4)=true:=by kernel_rfl
theorem JM:(Rows.corePlaysRow.unfollowed==Program.unfollowed Tryz.pinned.checked.prog 4)=true:=by kernel_rfl
theorem JN:(Rows.corePlaysRow.recurses==Program.recurses Tryz.pinned.checked.prog 4)=true:=by kernel_rfl
theorem JO:(Rows.corePlaysRow.named==Program.varsNamed Tryz.pinned.checked.prog 4)=true:=by kernel_rfl
theorem uW:Program.funcNamed Tryz.pinned.checked.prog Rows.corePlaysRow.func=some 4:=by kernel_rfl
theorem JP:laidOutB Tryz.pinned.checked.prog=true:=by kernel_rfl
theorem JQ:mapsRowed Tryz.pinned.checked.prog=true:=by kernel_rfl
theorem JR:Program.stopsHeard Tryz.pinned.checked.prog=true:=by kernel_rfl
theorem JS:Program.mayEnter Tryz.pinned.checked.prog=true:=by kernel_rfl
theorem JT:(Rows.corePlaysRow.lifted==Program.liftsFinal Tryz.pinned.checked.prog)=true:=by kernel_rfl
theorem JU:(Program.make Tryz.pinned.checked.prog==some Rows.corePlaysRow.make)=true:=by kernel_rfl
theorem facts:joinedFacts Tryz.pinned.checked.prog 4 Tryz.f4 Rows.corePlaysSpec Rows.corePlaysRow=true:=by
  unfold joinedFacts
  rw[JL,JM,JN,JO,JP,JQ,JR,JS,JT,JU]
  kernel_rfl
theorem LN:Rows.CorePlaysSaid:=
  OpenClaim.holds_of_wide 4 Tryz.f4 rfl rfl rfl rfl rfl rfl rfl ⟨rfl,rfl,rfl,rfl,rfl⟩ rfl rfl rfl rfl rfl uW Tryz.func4 facts
    (of_decide_eq_true (by kernel_rfl)) (by unfold Func.isWrapper;first|(rw[if_pos (by decide+kernel)];kernel_rfl)|(rw[if_neg (by decide+kernel)];exact⟨rfl,rfl⟩))
    (fun os started H enc _=>lifted os started H enc)
theorem zC:OpenClaim.wfByText (OpenSpec.ofChange Rows.corePlaysSpec) Rows.corePlaysRow=true:=by kernel_rfl
theorem zD:Tryz.pinned.checked.prog.mainIs=some (true,("d939dd8eaf01f64cf308dff58bfc43f83e7106e63041e4541cc197dd54073a4a":String).toList):=by kernel_rfl
theorem zE:true=Program.looks Tryz.pinned.checked.prog []:=by kernel_rfl
theorem zF:([22].all fun u=> !Program.wantsStandIn Tryz.prog u)=true:=by kernel_rfl
theorem Km{P:Program}(h:P.funcs.any Func.goes=false)(f:FuncId):P.goes f=false:=by
  unfold Program.goes
  rw[h,Bool.and_false,Bool.or_false,List.any_eq_false]
  intro g _
  cases hg:P.funcs[g]? with
  |none=>simp
  |some fn=>
   have hm:fn∈P.funcs:=Array.mem_of_getElem? hg
   have:=Array.any_eq_false'.1 h fn hm
   simpa using this
theorem Kl{P:Program}{c:OpenClaim}(h:P.funcs.any Func.goes=false)(hs:c.start=.entering):false=c.goesBy P:=by
  unfold OpenClaim.goesBy Program.goesAt Program.goesFrom
  rw[hs,Bool.or_false]
  cases P.funcNamed c.func with
  |none=>rfl
  |some f=>simp[Km h f]
theorem zG:false=OpenClaim.goesBy Rows.corePlaysRow Tryz.pinned.checked.prog:=Kl (by kernel_rfl) rfl
theorem zH:Rows.CorePlaysCardSaid:=
  Claim7.holds_tied_plain_at .later [] [.data] true (true,"d939dd8eaf01f64cf308dff58bfc43f83e7106e63041e4541cc197dd54073a4a") true
    LN (fun _ h=>by cases h) zC (fun _ h=>by cases h) corePlays_row_tie rfl ⟨rfl,rfl⟩ zD rfl
    (fun f fn hf hfn=>by
      obtain rfl:f=4:=Option.some.inj (uW.symm.trans hf)|>.symm
      obtain rfl:fn=Tryz.f4:=(Option.some.inj (Tryz.func4.symm.trans hfn)).symm
      exact⟨zE,fun j t ht=>by
        rw[Tryz.params4]at ht
        have hm:t∈[22]:=by simpa using Array.mem_of_getElem? ht
        exact(show Program.wantsStandIn Tryz.prog t=false by simpa using List.all_eq_true.1 zF t hm)⟩)
    zG
end CorePlays
theorem corePlaysProved:Rows.CorePlaysCardSaid:=CorePlays.zH
#print axioms corePlaysProved
end Go.Proofs.YtkkmbiojicgobaaGreatDoor

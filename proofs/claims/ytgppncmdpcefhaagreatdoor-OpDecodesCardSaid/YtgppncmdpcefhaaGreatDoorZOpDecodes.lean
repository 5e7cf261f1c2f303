/-
  THE LAW 'OpDecodes': bytes are an op's just where they are what it is encoded as, by the program and by the document; else there is none and the answer is ErrForm: doorwardlaw31.OpDecodes answers true, and what it is given reads as it did. No condition.
-/
import Derived.Test.YtgppncmdpcefhaaGreatDoorKOpDecodesT
import Derived.Test.YtgppncmdpcefhaaGreatDoorKOpDecodesW
import Derived.Test.YtgppncmdpcefhaaGreatDoorKOpDecodesYA
import Derived.Test.YtgppncmdpcefhaaGreatDoorRows
import Derived.Test.YtgppncmdpcefhaaGreatDoorTie
import Derived.Test.YtgppncmdpcefhaaGreatDoorCards
import Derived.SevenTiedAt
import Derived.LaidMore
import Derived.Stop.Joined
import Derived.WalkKit
import Derived.ProofKit
import Derived.OpenShut
import Derived.Carry
import Derived.ChangeMaps5
set_option linter.unusedVariables false
set_option maxRecDepth 4000
namespace Go.Proofs.YtgppncmdpcefhaaGreatDoor
open Go.ChangeShapes Go.WideShapes Go.ChangeAt Go.RowKit Go.ChangeMaps
namespace OpDecodes
theorem qB(H:Type)(enc:TypeId×Value→H)(W:World)(base:Nat)(args:Array Value)(ds gs:List (DataW H))(before:List MemPlace)(hL:laidMetH Tryz.prog iT W)
    (hval:∀(j:Nat) t v,Tryz.f4.params[j]? =some t→args[j]? =some v→Value.okWide Tryz.prog W .any base t v)
    (hW:DataW.Whole enc Tryz.prog Tryz.f4.params.toList Rows.opDecodesSpec.vars false W args.toList ds gs before):
    Calls Tryz.prog 4 args W fun e W'=>∃v,e=.returned v∧Rows.opDecodesSpec.post enc Tryz.prog Tryz.f4 false true false false W args v W':=by
  have hW':=hW
  obtain⟨p,q,hA0,hV,rfl,hfz,hnd⟩:=hW
  have hA:DataW.TrodAll enc Tryz.prog W 0 (fun _=>true) true Tryz.f4.params.toList args.toList ds p:=hA0
  rw[Tryz.params4]at hA hval
  obtain⟨v0,d0,rfl,rfl,h0⟩:=trodAll_one hA
  obtain⟨f0,h0⟩:=B4 Tryz.underlying25 (hval 0 _ v0 rfl rfl) h0
  obtain⟨va,la,e0,hA⟩:=qc h0
  cases e0
  have hg:=CT hL
  have hs:Spec Tryz.prog 4 [v0] (Rw W) [] fun v H'=>v=.bool true∧H'=[]:=
    Ba Be v0 la _ hA
  refine(hs W ⟨by simp,by simp⟩ (fun b o hb=>⟨hb,by simp⟩)).mono fun e W' ⟨v,H',he,⟨hv,hH⟩,_,hf⟩=>?_
  subst he;subst hv;subst hH
  obtain⟨rfl,rfl⟩:=trodVars_none hV
  exact⟨_,rfl,Bp kids full (by rw[Tryz.params4];decide+kernel) hW' rfl rfl rfl (fun _ _ _=>trodAll_cons_mk (shut_bool Tryz.underlying4 _) trodAll_mk0) hf⟩
set_option maxRecDepth 100000 in
theorem lifted(os:Os)(started:os.Started)(H:Type)(enc:TypeId×Value→H):
    ReturnsInHanded {} Tryz.checked os 4 .any (fun w args=>(Rows.opDecodesSpec.pre enc Tryz.prog Tryz.f4 [] false w args∧laidMetH Tryz.prog iT w)∧sizedMet enc Tryz.prog Tryz.f4 (OpenSpec.ofChange Rows.opDecodesSpec) false w args)
      (Rows.opDecodesSpec.post enc Tryz.prog Tryz.f4 false true false false):=by
  refine returnsInHanded_of_change_and (C:=Tryz.checked) (X:=fun w _=>laidMetH Tryz.prog iT w) (fun _ _ _ hh h=>h.of_heap hh) own started (by kernel_rfl) Tryz.func4
    (ChangeSpec.witness_shaped (enc:=enc) (C:=Tryz.checked) (os:=os) (X:=fun w _=>laidMetH Tryz.prog iT w) false (World.doorLaid Tryz.prog 400 os) #[.slice none 0 0] 8 rfl (World.shaped_of_RefB (by kernel_rfl) (by kernel_rfl)) (by kernel_rfl) (by kernel_rfl) (by kernel_rfl) (qI os _)) ?_
  intro W base args ds gs before hval hW _ _ hL _
  exact qB H enc W base args ds gs before hL hval hW
theorem z3:(Rows.opDecodesRow.inPlace==Program.inPlace Tryz.pinned.checked.prog 4)=true:=by kernel_rfl
theorem z5:(Rows.opDecodesRow.unfollowed==Program.unfollowed Tryz.pinned.checked.prog 4)=true:=by kernel_rfl
theorem z7:(Rows.opDecodesRow.recurses==Program.recurses Tryz.pinned.checked.prog 4)=true:=by kernel_rfl
theorem z9:(Rows.opDecodesRow.named==Program.varsNamed Tryz.pinned.checked.prog 4)=true:=by kernel_rfl
theorem nU:Program.funcNamed Tryz.pinned.checked.prog Rows.opDecodesRow.func=some 4:=by kernel_rfl
theorem Aa:laidOutB Tryz.pinned.checked.prog=true:=by kernel_rfl
theorem Ab:mapsRowed Tryz.pinned.checked.prog=true:=by kernel_rfl
theorem Ac:Program.stopsHeard Tryz.pinned.checked.prog=true:=by kernel_rfl
theorem Ad:Program.mayEnter Tryz.pinned.checked.prog=true:=by kernel_rfl
theorem Ae:(Rows.opDecodesRow.lifted==Program.liftsFinal Tryz.pinned.checked.prog)=true:=by kernel_rfl
theorem Af:(Program.make Tryz.pinned.checked.prog==some Rows.opDecodesRow.make)=true:=by kernel_rfl
theorem facts:joinedFacts Tryz.pinned.checked.prog 4 Tryz.f4 Rows.opDecodesSpec Rows.opDecodesRow=true:=by
  unfold joinedFacts
  rw[z3,z5,z7,z9,Aa,Ab,Ac,Ad,Ae,Af]
  kernel_rfl
theorem Bq:Rows.OpDecodesSaid:=
  OpenClaim.holds_of_wide 4 Tryz.f4 rfl rfl rfl rfl rfl rfl rfl ⟨rfl,rfl,rfl,rfl,rfl⟩ rfl rfl rfl rfl rfl nU Tryz.func4 facts
    (of_decide_eq_true (by kernel_rfl)) (by unfold Func.isWrapper;first|(rw[if_pos (by decide+kernel)];kernel_rfl)|(rw[if_neg (by decide+kernel)];exact⟨rfl,rfl⟩))
    (fun os started H enc _=>lifted os started H enc)
theorem qi:OpenClaim.wfByText (OpenSpec.ofChange Rows.opDecodesSpec) Rows.opDecodesRow=true:=by kernel_rfl
theorem qj:Tryz.pinned.checked.prog.mainIs=some (true,("1fd54734456b37019f31bef36547880c3a5dab6b243fa9d79111ed9af1b37106":String).toList):=by kernel_rfl
theorem qk:true=Program.looks Tryz.pinned.checked.prog []:=by kernel_rfl
theorem ql:([25].all fun u=> !Program.wantsStandIn Tryz.prog u)=true:=by kernel_rfl
theorem AF{P:Program}(h:P.funcs.any Func.goes=false)(f:FuncId):P.goes f=false:=by
  unfold Program.goes
  rw[h,Bool.and_false,Bool.or_false,List.any_eq_false]
  intro g _
  cases hg:P.funcs[g]? with
  |none=>simp
  |some fn=>
   have hm:fn∈P.funcs:=Array.mem_of_getElem? hg
   have:=Array.any_eq_false'.1 h fn hm
   simpa using this
theorem AE{P:Program}{c:OpenClaim}(h:P.funcs.any Func.goes=false)(hs:c.start=.entering):false=c.goesBy P:=by
  unfold OpenClaim.goesBy Program.goesAt Program.goesFrom
  rw[hs,Bool.or_false]
  cases P.funcNamed c.func with
  |none=>rfl
  |some f=>simp[AF h f]
theorem qm:false=OpenClaim.goesBy Rows.opDecodesRow Tryz.pinned.checked.prog:=AE (by kernel_rfl) rfl
theorem qn:Rows.OpDecodesCardSaid:=
  Claim7.holds_tied_plain_at .later [] [.data] true (true,"1fd54734456b37019f31bef36547880c3a5dab6b243fa9d79111ed9af1b37106") true
    Bq (fun _ h=>by cases h) qi (fun _ h=>by cases h) opDecodes_row_tie rfl ⟨rfl,rfl⟩ qj rfl
    (fun f fn hf hfn=>by
      obtain rfl:f=4:=Option.some.inj (nU.symm.trans hf)|>.symm
      obtain rfl:fn=Tryz.f4:=(Option.some.inj (Tryz.func4.symm.trans hfn)).symm
      exact⟨qk,fun j t ht=>by
        rw[Tryz.params4]at ht
        have hm:t∈[25]:=by simpa using Array.mem_of_getElem? ht
        exact(show Program.wantsStandIn Tryz.prog t=false by simpa using List.all_eq_true.1 ql t hm)⟩)
    qm
end OpDecodes
theorem opDecodesProved:Rows.OpDecodesCardSaid:=OpDecodes.qn
#print axioms opDecodesProved
end Go.Proofs.YtgppncmdpcefhaaGreatDoor

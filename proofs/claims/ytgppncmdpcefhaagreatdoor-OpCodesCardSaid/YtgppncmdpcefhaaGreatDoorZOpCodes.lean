/-
  THE LAW 'OpCodes': whatever op it is given (its kind's low byte taken), the program encodes it as the document does, reads it back, and what was read is encoded as the same bytes: doorwardlaw31.OpCodes answers true, and what it is given reads as it did. No condition.
-/
import Derived.Test.YtgppncmdpcefhaaGreatDoorKOpCodesT
import Derived.Test.YtgppncmdpcefhaaGreatDoorKOpCodesW
import Derived.Test.YtgppncmdpcefhaaGreatDoorKOpCodesYA
import Derived.Test.YtgppncmdpcefhaaGreatDoorRows
import Derived.Test.YtgppncmdpcefhaaGreatDoorTie
import Derived.Test.YtgppncmdpcefhaaGreatDoorCards
import Derived.SevenTiedAt
import Derived.LaidMore
import Derived.Stop.Joined
import Derived.WalkKit
import Derived.ProofKit
import Derived.OpenShut
import Derived.Carry
import Derived.ChangeMaps5
set_option linter.unusedVariables false
set_option maxRecDepth 4000
namespace Go.Proofs.YtgppncmdpcefhaaGreatDoor
open Go.ChangeShapes Go.WideShapes Go.ChangeAt Go.RowKit Go.ChangeMaps
namespace OpCodes
theorem rY(H:Type)(enc:TypeId×Value→H)(W:World)(base:Nat)(args:Array Value)(ds gs:List (DataW H))(before:List MemPlace)(hL:laidMetH Tryz.prog jq W)
    (hval:∀(j:Nat) t v,Tryz.f3.params[j]? =some t→args[j]? =some v→Value.okWide Tryz.prog W .any base t v)
    (hW:DataW.Whole enc Tryz.prog Tryz.f3.params.toList Rows.opCodesSpec.vars false W args.toList ds gs before):
    Calls Tryz.prog 3 args W fun e W'=>∃v,e=.returned v∧Rows.opCodesSpec.post enc Tryz.prog Tryz.f3 false true false false W args v W':=by
  have hW':=hW
  obtain⟨p,q,hA0,hV,rfl,hfz,hnd⟩:=hW
  have hA:DataW.TrodAll enc Tryz.prog W 0 (fun _=>true) true Tryz.f3.params.toList args.toList ds p:=hA0
  rw[Tryz.params3]at hA hval
  obtain⟨v0,d0,rfl,rfl,h0⟩:=trodAll_one hA
  obtain⟨cs,rfl,f0,h0⟩:=rJ Tryz.underlying30 (hval 0 _ v0 rfl rfl) h0
  obtain⟨w,o,rfl,ho,hn,hr⟩:=C5 h0
  have hg:=EY hL
  have hs:Spec Tryz.prog 3 [.agg (cI w o).toArray] (Rw W) [] fun v H'=>v=.bool true∧H'=[]:=
    C6 Da w o _ ho hn hr
  refine(hs W ⟨by simp,by simp⟩ (fun b o hb=>⟨hb,by simp⟩)).mono fun e W' ⟨v,H',he,⟨hv,hH⟩,_,hf⟩=>?_
  subst he;subst hv;subst hH
  obtain⟨rfl,rfl⟩:=trodVars_none hV
  exact⟨_,rfl,Dq kids full (by rw[Tryz.params3];decide+kernel) hW' rfl rfl rfl (fun _ _ _=>trodAll_cons_mk (shut_bool Tryz.underlying4 _) trodAll_mk0) hf⟩
set_option maxRecDepth 100000 in
theorem lifted(os:Os)(started:os.Started)(H:Type)(enc:TypeId×Value→H):
    ReturnsInHanded {} Tryz.checked os 3 .any (fun w args=>(Rows.opCodesSpec.pre enc Tryz.prog Tryz.f3 [] false w args∧laidMetH Tryz.prog jq w)∧sizedMet enc Tryz.prog Tryz.f3 (OpenSpec.ofChange Rows.opCodesSpec) false w args)
      (Rows.opCodesSpec.post enc Tryz.prog Tryz.f3 false true false false):=by
  refine returnsInHanded_of_change_and (C:=Tryz.checked) (X:=fun w _=>laidMetH Tryz.prog jq w) (fun _ _ _ hh h=>h.of_heap hh) own started (by kernel_rfl) Tryz.func3
    (ChangeSpec.witness_shaped (enc:=enc) (C:=Tryz.checked) (os:=os) (X:=fun w _=>laidMetH Tryz.prog jq w) false (World.doorLaid Tryz.prog 400 os) #[.agg #[.int .i64 0,.int .i64 0,.string ⟨#[]⟩,.string ⟨#[]⟩,.slice none 0 0,.slice none 0 0,.string ⟨#[]⟩,.string ⟨#[]⟩,.string ⟨#[]⟩,.string ⟨#[]⟩,.slice none 0 0,.string ⟨#[]⟩,.string ⟨#[]⟩,.slice none 0 0,.slice none 0 0,.slice none 0 0,.slice none 0 0,.slice none 0 0,.int .u64 0]] 8 rfl (World.shaped_of_RefB (by kernel_rfl) (by kernel_rfl)) (by kernel_rfl) (by kernel_rfl) (by kernel_rfl) (r9 os _)) ?_
  intro W base args ds gs before hval hW _ _ hL _
  exact rY H enc W base args ds gs before hL hval hW
theorem BW:(Rows.opCodesRow.inPlace==Program.inPlace Tryz.pinned.checked.prog 3)=true:=by kernel_rfl
theorem BX:(Rows.opCodesRow.unfollowed==Program.unfollowed Tryz.pinned.checked.prog 3)=true:=by kernel_rfl
theorem BY:(Rows.opCodesRow.recurses==Program.recurses Tryz.pinned.checked.prog 3)=true:=by kernel_rfl
theorem BZ:(Rows.opCodesRow.named==Program.varsNamed Tryz.pinned.checked.prog 3)=true:=by kernel_rfl
theorem oR:Program.funcNamed Tryz.pinned.checked.prog Rows.opCodesRow.func=some 3:=by kernel_rfl
theorem B0:laidOutB Tryz.pinned.checked.prog=true:=by kernel_rfl
theorem B1:mapsRowed Tryz.pinned.checked.prog=true:=by kernel_rfl
theorem B2:Program.stopsHeard Tryz.pinned.checked.prog=true:=by kernel_rfl
theorem B3:Program.mayEnter Tryz.pinned.checked.prog=true:=by kernel_rfl
theorem B4:(Rows.opCodesRow.lifted==Program.liftsFinal Tryz.pinned.checked.prog)=true:=by kernel_rfl
theorem B5:(Program.make Tryz.pinned.checked.prog==some Rows.opCodesRow.make)=true:=by kernel_rfl
theorem facts:joinedFacts Tryz.pinned.checked.prog 3 Tryz.f3 Rows.opCodesSpec Rows.opCodesRow=true:=by
  unfold joinedFacts
  rw[BW,BX,BY,BZ,B0,B1,B2,B3,B4,B5]
  kernel_rfl
theorem Dr:Rows.OpCodesSaid:=
  OpenClaim.holds_of_wide 3 Tryz.f3 rfl rfl rfl rfl rfl rfl rfl ⟨rfl,rfl,rfl,rfl,rfl⟩ rfl rfl rfl rfl rfl oR Tryz.func3 facts
    (of_decide_eq_true (by kernel_rfl)) (by unfold Func.isWrapper;first|(rw[if_pos (by decide+kernel)];kernel_rfl)|(rw[if_neg (by decide+kernel)];exact⟨rfl,rfl⟩))
    (fun os started H enc _=>lifted os started H enc)
theorem rA:OpenClaim.wfByText (OpenSpec.ofChange Rows.opCodesSpec) Rows.opCodesRow=true:=by kernel_rfl
theorem rB:Tryz.pinned.checked.prog.mainIs=some (true,("1fd54734456b37019f31bef36547880c3a5dab6b243fa9d79111ed9af1b37106":String).toList):=by kernel_rfl
theorem rC:true=Program.looks Tryz.pinned.checked.prog []:=by kernel_rfl
theorem rD:([30].all fun u=> !Program.wantsStandIn Tryz.prog u)=true:=by kernel_rfl
theorem Cv{P:Program}(h:P.funcs.any Func.goes=false)(f:FuncId):P.goes f=false:=by
  unfold Program.goes
  rw[h,Bool.and_false,Bool.or_false,List.any_eq_false]
  intro g _
  cases hg:P.funcs[g]? with
  |none=>simp
  |some fn=>
   have hm:fn∈P.funcs:=Array.mem_of_getElem? hg
   have:=Array.any_eq_false'.1 h fn hm
   simpa using this
theorem Cu{P:Program}{c:OpenClaim}(h:P.funcs.any Func.goes=false)(hs:c.start=.entering):false=c.goesBy P:=by
  unfold OpenClaim.goesBy Program.goesAt Program.goesFrom
  rw[hs,Bool.or_false]
  cases P.funcNamed c.func with
  |none=>rfl
  |some f=>simp[Cv h f]
theorem rE:false=OpenClaim.goesBy Rows.opCodesRow Tryz.pinned.checked.prog:=Cu (by kernel_rfl) rfl
theorem rF:Rows.OpCodesCardSaid:=
  Claim7.holds_tied_plain_at .later [] [.data] true (true,"1fd54734456b37019f31bef36547880c3a5dab6b243fa9d79111ed9af1b37106") true
    Dr (fun _ h=>by cases h) rA (fun _ h=>by cases h) opCodes_row_tie rfl ⟨rfl,rfl⟩ rB rfl
    (fun f fn hf hfn=>by
      obtain rfl:f=3:=Option.some.inj (oR.symm.trans hf)|>.symm
      obtain rfl:fn=Tryz.f3:=(Option.some.inj (Tryz.func3.symm.trans hfn)).symm
      exact⟨rC,fun j t ht=>by
        rw[Tryz.params3]at ht
        have hm:t∈[30]:=by simpa using Array.mem_of_getElem? ht
        exact(show Program.wantsStandIn Tryz.prog t=false by simpa using List.all_eq_true.1 rD t hm)⟩)
    rE
end OpCodes
theorem opCodesProved:Rows.OpCodesCardSaid:=OpCodes.rF
#print axioms opCodesProved
end Go.Proofs.YtgppncmdpcefhaaGreatDoor

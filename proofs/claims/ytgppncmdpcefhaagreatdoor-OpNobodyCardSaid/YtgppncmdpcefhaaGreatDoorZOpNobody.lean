/-
  THE LAW 'OpNobody': a state that no call made answers ErrNil to any op, has no core, no store, no history, no bytes and no clone: doorwardlaw31.OpNobody answers true, and what it is given reads as it did. No condition.
-/
import Derived.Test.YtgppncmdpcefhaaGreatDoorKOpNobodyU
import Derived.Test.YtgppncmdpcefhaaGreatDoorKOpNobodyYA
import Derived.Test.YtgppncmdpcefhaaGreatDoorKOpNobodyYB
import Derived.Test.YtgppncmdpcefhaaGreatDoorRows
import Derived.Test.YtgppncmdpcefhaaGreatDoorTie
import Derived.Test.YtgppncmdpcefhaaGreatDoorCards
import Derived.SevenTiedAt
import Derived.LaidMore
import Derived.Stop.Joined
import Derived.WalkKit
import Derived.ProofKit
import Derived.OpenShut
import Derived.Carry
import Derived.ChangeMaps5
set_option linter.unusedVariables false
set_option maxRecDepth 4000
namespace Go.Proofs.YtgppncmdpcefhaaGreatDoor
open Go.ChangeShapes Go.WideShapes Go.ChangeAt Go.RowKit Go.ChangeMaps
namespace OpNobody
theorem um(H:Type)(enc:TypeId×Value→H)(W:World)(base:Nat)(args:Array Value)(ds gs:List (DataW H))(before:List MemPlace)(hL:laidMetH Tryz.prog ke W)
    (hval:∀(j:Nat) t v,Tryz.f5.params[j]? =some t→args[j]? =some v→Value.okWide Tryz.prog W .any base t v)
    (hW:DataW.Whole enc Tryz.prog Tryz.f5.params.toList Rows.opNobodySpec.vars false W args.toList ds gs before):
    Calls Tryz.prog 5 args W fun e W'=>∃v,e=.returned v∧Rows.opNobodySpec.post enc Tryz.prog Tryz.f5 false true false false W args v W':=by
  have hW':=hW
  obtain⟨p,q,hA0,hV,rfl,hfz,hnd⟩:=hW
  have hA:DataW.TrodAll enc Tryz.prog W 0 (fun _=>true) true Tryz.f5.params.toList args.toList ds p:=hA0
  rw[Tryz.params5]at hA hval
  obtain⟨v0,d0,rfl,rfl,h0⟩:=trodAll_one hA
  obtain⟨cs,rfl,f0,h0⟩:=tS Tryz.underlying30 (hval 0 _ v0 rfl rfl) h0
  obtain⟨w,o,rfl,ho,hn,hr⟩:=Fq h0
  have hg:=HB hL
  have hs:Spec Tryz.prog 5 [.agg (dZ w o).toArray] (Rw W) [] fun v H'=>v=.bool true∧H'=[]:=
    Fw w o _ ho
  refine(hs W ⟨by simp,by simp⟩ (fun b o hb=>⟨hb,by simp⟩)).mono fun e W' ⟨v,H',he,⟨hv,hH⟩,_,hf⟩=>?_
  subst he;subst hv;subst hH
  obtain⟨rfl,rfl⟩:=trodVars_none hV
  exact⟨_,rfl,FN kids full (by rw[Tryz.params5];decide+kernel) hW' rfl rfl rfl (fun _ _ _=>trodAll_cons_mk (shut_bool Tryz.underlying4 _) trodAll_mk0) hf⟩
set_option maxRecDepth 100000 in
theorem lifted(os:Os)(started:os.Started)(H:Type)(enc:TypeId×Value→H):
    ReturnsInHanded {} Tryz.checked os 5 .any (fun w args=>(Rows.opNobodySpec.pre enc Tryz.prog Tryz.f5 [] false w args∧laidMetH Tryz.prog ke w)∧sizedMet enc Tryz.prog Tryz.f5 (OpenSpec.ofChange Rows.opNobodySpec) false w args)
      (Rows.opNobodySpec.post enc Tryz.prog Tryz.f5 false true false false):=by
  refine returnsInHanded_of_change_and (C:=Tryz.checked) (X:=fun w _=>laidMetH Tryz.prog ke w) (fun _ _ _ hh h=>h.of_heap hh) own started (by kernel_rfl) Tryz.func5
    (ChangeSpec.witness_shaped (enc:=enc) (C:=Tryz.checked) (os:=os) (X:=fun w _=>laidMetH Tryz.prog ke w) false (World.doorLaid Tryz.prog 400 os) #[.agg #[.int .i64 0,.int .i64 0,.string ⟨#[]⟩,.string ⟨#[]⟩,.slice none 0 0,.slice none 0 0,.string ⟨#[]⟩,.string ⟨#[]⟩,.string ⟨#[]⟩,.string ⟨#[]⟩,.slice none 0 0,.string ⟨#[]⟩,.string ⟨#[]⟩,.slice none 0 0,.slice none 0 0,.slice none 0 0,.slice none 0 0,.slice none 0 0,.int .u64 0]] 8 rfl (World.shaped_of_RefB (by kernel_rfl) (by kernel_rfl)) (by kernel_rfl) (by kernel_rfl) (by kernel_rfl) (ur os _)) ?_
  intro W base args ds gs before hval hW _ _ hL _
  exact um H enc W base args ds gs before hL hval hW
theorem DZ:(Rows.opNobodyRow.inPlace==Program.inPlace Tryz.pinned.checked.prog 5)=true:=by kernel_rfl
theorem D0:(Rows.opNobodyRow.unfollowed==Program.unfollowed Tryz.pinned.checked.prog 5)=true:=by kernel_rfl
theorem D6:(Rows.opNobodyRow.recurses==Program.recurses Tryz.pinned.checked.prog 5)=true:=by kernel_rfl
theorem D7:(Rows.opNobodyRow.named==Program.varsNamed Tryz.pinned.checked.prog 5)=true:=by kernel_rfl
theorem qv:Program.funcNamed Tryz.pinned.checked.prog Rows.opNobodyRow.func=some 5:=by kernel_rfl
theorem D8:laidOutB Tryz.pinned.checked.prog=true:=by kernel_rfl
theorem D9:mapsRowed Tryz.pinned.checked.prog=true:=by kernel_rfl
theorem Ea:Program.stopsHeard Tryz.pinned.checked.prog=true:=by kernel_rfl
theorem Eb:Program.mayEnter Tryz.pinned.checked.prog=true:=by kernel_rfl
theorem Ec:(Rows.opNobodyRow.lifted==Program.liftsFinal Tryz.pinned.checked.prog)=true:=by kernel_rfl
theorem Ed:(Program.make Tryz.pinned.checked.prog==some Rows.opNobodyRow.make)=true:=by kernel_rfl
theorem facts:joinedFacts Tryz.pinned.checked.prog 5 Tryz.f5 Rows.opNobodySpec Rows.opNobodyRow=true:=by
  unfold joinedFacts
  rw[DZ,D0,D6,D7,D8,D9,Ea,Eb,Ec,Ed]
  kernel_rfl
theorem FP:Rows.OpNobodySaid:=
  OpenClaim.holds_of_wide 5 Tryz.f5 rfl rfl rfl rfl rfl rfl rfl ⟨rfl,rfl,rfl,rfl,rfl⟩ rfl rfl rfl rfl rfl qv Tryz.func5 facts
    (of_decide_eq_true (by kernel_rfl)) (by unfold Func.isWrapper;first|(rw[if_pos (by decide+kernel)];kernel_rfl)|(rw[if_neg (by decide+kernel)];exact⟨rfl,rfl⟩))
    (fun os started H enc _=>lifted os started H enc)
theorem tI:OpenClaim.wfByText (OpenSpec.ofChange Rows.opNobodySpec) Rows.opNobodyRow=true:=by kernel_rfl
theorem tJ:Tryz.pinned.checked.prog.mainIs=some (true,("1fd54734456b37019f31bef36547880c3a5dab6b243fa9d79111ed9af1b37106":String).toList):=by kernel_rfl
theorem tL:true=Program.looks Tryz.pinned.checked.prog []:=by kernel_rfl
theorem tM:([30].all fun u=> !Program.wantsStandIn Tryz.prog u)=true:=by kernel_rfl
theorem EE{P:Program}(h:P.funcs.any Func.goes=false)(f:FuncId):P.goes f=false:=by
  unfold Program.goes
  rw[h,Bool.and_false,Bool.or_false,List.any_eq_false]
  intro g _
  cases hg:P.funcs[g]? with
  |none=>simp
  |some fn=>
   have hm:fn∈P.funcs:=Array.mem_of_getElem? hg
   have:=Array.any_eq_false'.1 h fn hm
   simpa using this
theorem ED{P:Program}{c:OpenClaim}(h:P.funcs.any Func.goes=false)(hs:c.start=.entering):false=c.goesBy P:=by
  unfold OpenClaim.goesBy Program.goesAt Program.goesFrom
  rw[hs,Bool.or_false]
  cases P.funcNamed c.func with
  |none=>rfl
  |some f=>simp[EE h f]
theorem tN:false=OpenClaim.goesBy Rows.opNobodyRow Tryz.pinned.checked.prog:=ED (by kernel_rfl) rfl
theorem tP:Rows.OpNobodyCardSaid:=
  Claim7.holds_tied_plain_at .later [] [.data] true (true,"1fd54734456b37019f31bef36547880c3a5dab6b243fa9d79111ed9af1b37106") true
    FP (fun _ h=>by cases h) tI (fun _ h=>by cases h) opNobody_row_tie rfl ⟨rfl,rfl⟩ tJ rfl
    (fun f fn hf hfn=>by
      obtain rfl:f=5:=Option.some.inj (qv.symm.trans hf)|>.symm
      obtain rfl:fn=Tryz.f5:=(Option.some.inj (Tryz.func5.symm.trans hfn)).symm
      exact⟨tL,fun j t ht=>by
        rw[Tryz.params5]at ht
        have hm:t∈[30]:=by simpa using Array.mem_of_getElem? ht
        exact(show Program.wantsStandIn Tryz.prog t=false by simpa using List.all_eq_true.1 tM t hm)⟩)
    tN
end OpNobody
theorem opNobodyProved:Rows.OpNobodyCardSaid:=OpNobody.tP
#print axioms opNobodyProved
end Go.Proofs.YtgppncmdpcefhaaGreatDoor

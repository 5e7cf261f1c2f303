/-
  THE LAW 'ExpandRight': what any object's relation in any world is made of is a right value; where its text is no longer than a text may be, that text reads back as it: doorwardlaw22.ExpandRight answers true, and what it is given reads as it did. No condition.
-/
import Derived.Test.YtenilfmlfldogaaGreatDoorKExpandRightL
import Derived.Test.YtenilfmlfldogaaGreatDoorKExpandRightR
import Derived.Test.YtenilfmlfldogaaGreatDoorKExpandRightS
import Derived.Test.YtenilfmlfldogaaGreatDoorKExpandRightT
import Derived.Test.YtenilfmlfldogaaGreatDoorRows
import Derived.Test.YtenilfmlfldogaaGreatDoorTie
import Derived.Test.YtenilfmlfldogaaGreatDoorCards
import Derived.SevenTiedAt
import Derived.LaidMore
import Derived.Lay
import Derived.Stop.Joined
import Derived.WalkKit
import Derived.ProofKit
import Derived.OpenShut
import Derived.Carry
import Derived.ChangeMaps5
import Derived.SizedLaws
set_option linter.unusedVariables false
set_option maxRecDepth 4000
namespace Go.Proofs.YtenilfmlfldogaaGreatDoor
open Go.ChangeShapes Go.WideShapes Go.ChangeAt Go.RowKit Go.ChangeMaps
namespace ExpandRight
theorem BF(H:Type)(enc:TypeId×Value→H)(W:World)(base:Nat)(args:Array Value)(ds gs:List (DataW H))(before:List MemPlace)(hz:(DataW.weightsEach Tryz.prog (Tryz.f3.params.toList++Rows.expandRightSpec.plain.varTypes Tryz.prog) (ds++gs)).all (· ≤reachBytes)=true)(hL:laidMetH Tryz.prog lJ W)
    (hval:∀(j:Nat) t v,Tryz.f3.params[j]? =some t→args[j]? =some v→Value.okWide Tryz.prog W .any base t v)
    (hW:DataW.Whole enc Tryz.prog Tryz.f3.params.toList Rows.expandRightSpec.vars false W args.toList ds gs before):
    Calls Tryz.prog 3 args W fun e W'=>∃v,e=.returned v∧Rows.expandRightSpec.post enc Tryz.prog Tryz.f3 false true false false W args v W':=by
  have hW':=hW
  obtain⟨p,q,hA0,hV,rfl,hfz,hnd⟩:=hW
  have hA:DataW.TrodAll enc Tryz.prog W 0 (fun _=>true) true Tryz.f3.params.toList args.toList ds p:=hA0
  rw[Tryz.params3]at hA hval hz
  obtain⟨v0,v1,v2,d0,d1,d2,p0,p1,p2,rfl,rfl,rfl,h0,h1,h2⟩:=trodAll_three hA
  have hzj:=fun (j:Nat) (t:TypeId) (d:DataW H) ht hd n hn=>(by simpa using List.all_eq_true.1 hz n (DataW.weights_mem_each (j:=j) (t:=t) (d:=d) ht hd n hn):n≤reachBytes)
  obtain⟨cs0,rfl,f0,h0⟩:=wq Tryz.underlying28 (hval 0 _ v0 rfl rfl) h0
  obtain⟨w,rfl,hw⟩:=Qo h0
  obtain⟨cs1,rfl,f1,h1⟩:=wq Tryz.underlying30 (hval 1 _ v1 rfl rfl) h1
  obtain⟨o1,o2,rfl,q1,q2⟩:=N2 h1 (hzj 1 _ d1 rfl rfl)
  obtain⟨rl,rfl,rfl,rfl,_⟩:=open_string Tryz.underlying9 (hval 2 _ v2 rfl rfl) h2
  have q3:=PL (hzj 2 _ _ rfl rfl)
  have hg:=Qn hL
  have hs:Spec Tryz.prog 3 [.agg w.enc.toArray,.agg [.string o1,.string o2].toArray,.string rl] (Rw W) [] fun v H'=>v=.bool true∧H'=[]:=
    B0 w _ hw ⟨o1,o2,rl⟩ ⟨q1,q2,q3⟩
  refine(hs W ⟨by simp,by simp⟩ (fun b o hb=>⟨hb,by simp⟩)).mono fun e W' ⟨v,H',he,⟨hv,hH⟩,_,hf⟩=>?_
  subst he;subst hv;subst hH
  obtain⟨rfl,rfl⟩:=trodVars_none hV
  exact⟨_,rfl,NQ kids full (by rw[Tryz.params3];decide+kernel) hW' rfl rfl rfl (fun _ _ _=>trodAll_cons_mk (shut_bool Tryz.underlying4 _) trodAll_mk0) hf⟩
set_option maxRecDepth 100000 in
theorem lifted(os:Os)(started:os.Started)(H:Type)(enc:TypeId×Value→H):
    ReturnsInHanded {} Tryz.checked os 3 .any (fun w args=>(Rows.expandRightSpec.pre enc Tryz.prog Tryz.f3 [] false w args∧laidMetH Tryz.prog lJ w)∧sizedMet enc Tryz.prog Tryz.f3 (OpenSpec.ofChange Rows.expandRightSpec) false w args)
      (Rows.expandRightSpec.post enc Tryz.prog Tryz.f3 false true false false):=by
  refine returnsInHanded_of_change_and (C:=Tryz.checked) (X:=fun w _=>laidMetH Tryz.prog lJ w) (fun _ _ _ hh h=>h.of_heap hh) own started (by kernel_rfl) Tryz.func3
    (ChangeSpec.witness_shaped (enc:=enc) (C:=Tryz.checked) (os:=os) (X:=fun w _=>laidMetH Tryz.prog lJ w) false (World.laidAll Tryz.prog os lJ) #[.agg #[.slice none 0 0,.slice none 0 0,.slice none 0 0],.agg #[.string ⟨#[]⟩,.string ⟨#[]⟩],.string ⟨#[]⟩] 8 (World.laidAll_os _ _ _) (World.shaped_of_ZipB (by kernel_rfl) (by kernel_rfl)) (by kernel_rfl) (by kernel_rfl) (by kernel_rfl) (BQ os _)) ?_
  intro W base args ds gs before hval hW _ hz hL _
  exact BF H enc W base args ds gs before hz hL hval hW
theorem KK:(Rows.expandRightRow.inPlace==Program.inPlace Tryz.pinned.checked.prog 3)=true:=by kernel_rfl
theorem KL:(Rows.expandRightRow.unfollowed==Program.unfollowed Tryz.pinned.checked.prog 3)=true:=by kernel_rfl
theorem KM:(Rows.expandRightRow.recurses==Program.recurses Tryz.pinned.checked.prog 3)=true:=by kernel_rfl
theorem KN:(Rows.expandRightRow.named==Program.varsNamed Tryz.pinned.checked.prog 3)=true:=by kernel_rfl
theorem xe:Program.funcNamed Tryz.pinned.checked.prog Rows.expandRightRow.func=some 3:=by kernel_rfl
theorem KO:laidOutB Tryz.pinned.checked.prog=true:=by kernel_rfl
theorem KP:mapsRowed Tryz.pinned.checked.prog=true:=by kernel_rfl
theorem KQ:Program.stopsHeard Tryz.pinned.checked.prog=true:=by kernel_rfl
theorem KR:Program.mayEnter Tryz.pinned.checked.prog=true:=by kernel_rfl
theorem KS:(Rows.expandRightRow.lifted==Program.liftsFinal Tryz.pinned.checked.prog)=true:=by kernel_rfl
theorem KT:(Program.make Tryz.pinned.checked.prog==some Rows.expandRightRow.make)=true:=by kernel_rfl
theorem facts:joinedFacts Tryz.pinned.checked.prog 3 Tryz.f3 Rows.expandRightSpec Rows.expandRightRow=true:=by
  unfold joinedFacts
  rw[KK,KL,KM,KN,KO,KP,KQ,KR,KS,KT]
  kernel_rfl
theorem NR:Rows.ExpandRightSaid:=
  OpenClaim.holds_of_wide 3 Tryz.f3 rfl rfl rfl rfl rfl rfl rfl ⟨rfl,rfl,rfl,rfl,rfl⟩ rfl rfl rfl rfl rfl xe Tryz.func3 facts
    (of_decide_eq_true (by kernel_rfl)) (by unfold Func.isWrapper;first|(rw[if_pos (by decide+kernel)];kernel_rfl)|(rw[if_neg (by decide+kernel)];exact⟨rfl,rfl⟩))
    (fun os started H enc _=>lifted os started H enc)
theorem Bk:OpenClaim.wfByText (OpenSpec.ofChange Rows.expandRightSpec) Rows.expandRightRow=true:=by kernel_rfl
theorem Bl:Tryz.pinned.checked.prog.mainIs=some (true,("4191982532499f0313321047540f3796857839c420ebc1f2e4319d527ab3adf7":String).toList):=by kernel_rfl
theorem Bm:true=Program.looks Tryz.pinned.checked.prog []:=by kernel_rfl
theorem Bn:([28,30,9].all fun u=> !Program.wantsStandIn Tryz.prog u)=true:=by kernel_rfl
theorem Lh{P:Program}(h:P.funcs.any Func.goes=false)(f:FuncId):P.goes f=false:=by
  unfold Program.goes
  rw[h,Bool.and_false,Bool.or_false,List.any_eq_false]
  intro g _
  cases hg:P.funcs[g]? with
  |none=>simp
  |some fn=>
   have hm:fn∈P.funcs:=Array.mem_of_getElem? hg
   have:=Array.any_eq_false'.1 h fn hm
   simpa using this
theorem Lg{P:Program}{c:OpenClaim}(h:P.funcs.any Func.goes=false)(hs:c.start=.entering):false=c.goesBy P:=by
  unfold OpenClaim.goesBy Program.goesAt Program.goesFrom
  rw[hs,Bool.or_false]
  cases P.funcNamed c.func with
  |none=>rfl
  |some f=>simp[Lh h f]
theorem Bo:false=OpenClaim.goesBy Rows.expandRightRow Tryz.pinned.checked.prog:=Lg (by kernel_rfl) rfl
theorem Bp:Rows.ExpandRightCardSaid:=
  Claim7.holds_tied_plain_at .later [] [.data,.data,.data,.data,.sentinel,.sentinel,.pinned] true (true,"4191982532499f0313321047540f3796857839c420ebc1f2e4319d527ab3adf7") true
    NR (fun _ h=>by cases h) Bk (fun _ h=>by cases h) expandRight_row_tie rfl ⟨rfl,rfl⟩ Bl rfl
    (fun f fn hf hfn=>by
      obtain rfl:f=3:=Option.some.inj (xe.symm.trans hf)|>.symm
      obtain rfl:fn=Tryz.f3:=(Option.some.inj (Tryz.func3.symm.trans hfn)).symm
      exact⟨Bm,fun j t ht=>by
        rw[Tryz.params3]at ht
        have hm:t∈[28,30,9]:=by simpa using Array.mem_of_getElem? ht
        exact(show Program.wantsStandIn Tryz.prog t=false by simpa using List.all_eq_true.1 Bn t hm)⟩)
    Bo
end ExpandRight
theorem expandRightProved:Rows.ExpandRightCardSaid:=ExpandRight.Bp
#print axioms expandRightProved
end Go.Proofs.YtenilfmlfldogaaGreatDoor

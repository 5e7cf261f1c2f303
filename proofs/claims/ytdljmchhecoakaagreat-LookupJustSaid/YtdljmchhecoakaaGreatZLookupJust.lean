/-
  THE LAW 'LookupJust': a user belongs to an object's relation just where the object is told: doorwardlaw23.LookupJust answers true, and what it is given reads as it did. No condition.
-/
import Derived.Test.YtdljmchhecoakaaGreatKLookupJustO
import Derived.Test.YtdljmchhecoakaaGreatKLookupJustT
import Derived.Test.YtdljmchhecoakaaGreatRows
import Derived.WalkKit
import Derived.ProofKit
import Derived.OpenShut
import Derived.Carry
import Derived.ChangeMaps5
set_option linter.unusedVariables false
set_option maxRecDepth 4000
namespace Go.Proofs.YtdljmchhecoakaaGreat
open Go.ChangeShapes Go.WideShapes Go.ChangeAt Go.RowKit Go.ChangeMaps
namespace LookupJust
theorem CU(H:Type)(enc:TypeId×Value→H)(W:World)(base:Nat)(args:Array Value)(ds gs:List (DataW H))(before:List MemPlace)
    (hval:∀(j:Nat) t v,Tryz.f13.params[j]? =some t→args[j]? =some v→Value.okWide Tryz.prog W .any base t v)
    (hW:DataW.Whole enc Tryz.prog Tryz.f13.params.toList Rows.lookupJustSpec.vars false W args.toList ds gs before):
    Calls Tryz.prog 13 args W fun e W'=>∃v,e=.returned v∧Rows.lookupJustSpec.post enc Tryz.prog Tryz.f13 false true false false W args v W':=by
  have hW':=hW
  obtain⟨p,q,hA0,hV,rfl,hfz,hnd⟩:=hW
  have hA:DataW.TrodAll enc Tryz.prog W 0 (fun _=>true) true Tryz.f13.params.toList args.toList ds p:=hA0
  rw[Tryz.params13]at hA hval
  obtain⟨v0,v1,v2,v3,d0,d1,d2,d3,p0,p1,p2,p3,rfl,rfl,rfl,h0,h1,h2,h3⟩:=trodAll_four hA
  obtain⟨cs0,rfl,f0,h0⟩:=xl Tryz.underlying28 (hval 0 _ v0 rfl rfl) h0
  obtain⟨w,rfl,hw⟩:=RE h0
  obtain⟨cs1,rfl,f1,h1⟩:=xl Tryz.underlying44 (hval 1 _ v1 rfl rfl) h1
  obtain⟨o1,o2,rfl,_,_⟩:=qL h1
  obtain⟨rl,rfl,rfl,rfl,_⟩:=open_string Tryz.underlying9 (hval 2 _ v2 rfl rfl) h2
  obtain⟨us,rfl,rfl,rfl,f3⟩:=open_string Tryz.underlying9 (hval 3 _ v3 rfl rfl) h3
  have hs:Spec Tryz.prog 13 [.agg w.enc.toArray,.agg [.string o1,.string o2].toArray,.string rl,.string us] (Rw W) [] fun v H'=>v=.bool true∧H'=[]:=
    NC w _ hw ⟨o1,o2,rl⟩ us (Nat.le_trans f3 (by decide))
  refine(hs W ⟨by simp,by simp⟩ (fun b o hb=>⟨hb,by simp⟩)).mono fun e W' ⟨v,H',he,⟨hv,hH⟩,_,hf⟩=>?_
  subst he;subst hv;subst hH
  obtain⟨rfl,rfl⟩:=trodVars_none hV
  exact⟨_,rfl,OV kids full (by rw[Tryz.params13];decide+kernel) hW' rfl rfl rfl (fun _ _ _=>trodAll_cons_mk (shut_bool Tryz.underlying4 _) trodAll_mk0) hf⟩
set_option maxRecDepth 100000 in
theorem lifted(os:Os)(started:os.Started)(H:Type)(enc:TypeId×Value→H):
    ReturnsInHanded {} Tryz.checked os 13 .any (Rows.lookupJustSpec.pre6 enc Tryz.prog Tryz.f13 Rows.lookupJustRow.domain false) (Rows.lookupJustSpec.post enc Tryz.prog Tryz.f13 false true false false):=by
  refine returnsInHanded_of_change (C:=Tryz.checked) own started (by kernel_rfl) Tryz.func13
    (ChangeSpec.witness6 (enc:=enc) (C:=Tryz.checked) false ⟨#[],#[.agg #[.slice none 0 0,.slice none 0 0,.slice none 0 0],.agg #[.string ⟨#[]⟩,.string ⟨#[]⟩],.string ⟨#[]⟩,.string ⟨#[]⟩],[]⟩ 8 (by kernel_rfl) (by kernel_rfl) (by kernel_rfl) (by kernel_rfl)) ?_
  intro W base args ds gs before hval hW _ _
  exact CU H enc W base args ds gs before hval hW
theorem Mi:(Rows.lookupJustRow.inPlace==Program.inPlace Tryz.pinned.checked.prog 13)=true:=by kernel_rfl
theorem Mj:(Rows.lookupJustRow.unfollowed==Program.unfollowed Tryz.pinned.checked.prog 13)=true:=by kernel_rfl
theorem Mk:(Rows.lookupJustRow.recurses==Program.recurses Tryz.pinned.checked.prog 13)=true:=by kernel_rfl
theorem Ml:(Rows.lookupJustRow.named==Program.varsNamed Tryz.pinned.checked.prog 13)=true:=by kernel_rfl
theorem Mm:Program.funcNamed Tryz.pinned.checked.prog Rows.lookupJustRow.func=some 13:=by kernel_rfl
theorem Mn:laidOutB Tryz.pinned.checked.prog=true:=by kernel_rfl
theorem Mo:mapsRowed Tryz.pinned.checked.prog=true:=by kernel_rfl
theorem Mp:Program.stopsHeard Tryz.pinned.checked.prog=true:=by kernel_rfl
theorem Mq:Program.mayEnter Tryz.pinned.checked.prog=true:=by kernel_rfl
theorem Mt:(Rows.lookupJustRow.lifted==Program.liftsFinal Tryz.pinned.checked.prog)=true:=by kernel_rfl
theorem Mu:(Program.make Tryz.pinned.checked.prog==some Rows.lookupJustRow.make)=true:=by kernel_rfl
theorem facts:joinedFacts Tryz.pinned.checked.prog 13 Tryz.f13 Rows.lookupJustSpec Rows.lookupJustRow=true:=by
  unfold joinedFacts
  rw[Mi,Mj,Mk,Ml,Mn,Mo,Mp,Mq,Mt,Mu]
  kernel_rfl
theorem OW:Rows.LookupJustSaid:=
  OpenClaim.holds_of_wide 13 Tryz.f13 rfl rfl rfl rfl rfl rfl rfl ⟨rfl,rfl,rfl,rfl,rfl⟩ rfl rfl rfl rfl rfl Mm Tryz.func13 facts
    (of_decide_eq_true (by kernel_rfl)) (by unfold Func.isWrapper;first|(rw[if_pos (by decide+kernel)];kernel_rfl)|(rw[if_neg (by decide+kernel)];exact⟨rfl,rfl⟩))
    (fun os started H enc _=>lifted os started H enc)
end LookupJust
theorem lookupJustProved:Rows.LookupJustSaid:=LookupJust.OW
#print axioms lookupJustProved
end Go.Proofs.YtdljmchhecoakaaGreat

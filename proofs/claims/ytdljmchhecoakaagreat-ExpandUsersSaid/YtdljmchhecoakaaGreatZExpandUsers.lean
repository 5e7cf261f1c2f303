/-
  THE LAW 'ExpandUsers': who all belong to any object's relation in any world, by name: doorwardlaw22.ExpandUsers answers true, and what it is given reads as it did. No condition.
-/
import Derived.Test.YtdljmchhecoakaaGreatKExpAO
import Derived.Test.YtdljmchhecoakaaGreatKExpAT
import Derived.Test.YtdljmchhecoakaaGreatRows
import Derived.WalkKit
import Derived.ProofKit
import Derived.OpenShut
import Derived.Carry
import Derived.ChangeMaps5
set_option linter.unusedVariables false
set_option maxRecDepth 4000
namespace Go.Proofs.YtdljmchhecoakaaGreat
open Go.ChangeShapes Go.WideShapes Go.ChangeAt Go.RowKit Go.ChangeMaps
namespace ExpandUsers
theorem ud(H:Type)(enc:TypeId×Value→H)(W:World)(base:Nat)(args:Array Value)(ds gs:List (DataW H))(before:List MemPlace)
    (hval:∀(j:Nat) t v,Tryz.f10.params[j]? =some t→args[j]? =some v→Value.okWide Tryz.prog W .any base t v)
    (hW:DataW.Whole enc Tryz.prog Tryz.f10.params.toList Rows.expandUsersSpec.vars false W args.toList ds gs before):
    Calls Tryz.prog 10 args W fun e W'=>∃v,e=.returned v∧Rows.expandUsersSpec.post enc Tryz.prog Tryz.f10 false true false false W args v W':=by
  have hW':=hW
  obtain⟨p,q,hA0,hV,rfl,hfz,hnd⟩:=hW
  have hA:DataW.TrodAll enc Tryz.prog W 0 (fun _=>true) true Tryz.f10.params.toList args.toList ds p:=hA0
  rw[Tryz.params10]at hA hval
  obtain⟨v0,v1,v2,v3,d0,d1,d2,d3,p0,p1,p2,p3,rfl,rfl,rfl,h0,h1,h2,h3⟩:=trodAll_four hA
  obtain⟨cs0,rfl,f0,h0⟩:=rO Tryz.underlying28 (hval 0 _ v0 rfl rfl) h0
  obtain⟨w,rfl,hw⟩:=Ca h0
  obtain⟨cs1,rfl,f1,h1⟩:=rO Tryz.underlying44 (hval 1 _ v1 rfl rfl) h1
  obtain⟨o1,o2,rfl,_,_⟩:=pM h1
  obtain⟨rl,rfl,rfl,rfl,_⟩:=open_string Tryz.underlying9 (hval 2 _ v2 rfl rfl) h2
  obtain⟨z3,rfl,m3,M3,w3⟩:=open_int Tryz.underlying3 (hval 3 _ v3 rfl rfl) h3
  have hs:Spec Tryz.prog 10 [.agg w.enc.toArray,.agg [.string o1,.string o2].toArray,.string rl,.int .i64 z3] (Rw W) [] fun v H'=>v=.bool true∧H'=[]:=
    DA w _ hw ⟨o1,o2,rl⟩ z3 (wf_i64 w3)
  refine(hs W ⟨by simp,by simp⟩ (fun b o hb=>⟨hb,by simp⟩)).mono fun e W' ⟨v,H',he,⟨hv,hH⟩,_,hf⟩=>?_
  subst he;subst hv;subst hH
  obtain⟨rfl,rfl⟩:=trodVars_none hV
  exact⟨_,rfl,AS kids full (by rw[Tryz.params10];decide+kernel) hW' rfl rfl rfl (fun _ _ _=>trodAll_cons_mk (shut_bool Tryz.underlying4 _) trodAll_mk0) hf⟩
set_option maxRecDepth 100000 in
theorem lifted(os:Os)(started:os.Started)(H:Type)(enc:TypeId×Value→H):
    ReturnsInHanded {} Tryz.checked os 10 .any (Rows.expandUsersSpec.pre6 enc Tryz.prog Tryz.f10 Rows.expandUsersRow.domain false) (Rows.expandUsersSpec.post enc Tryz.prog Tryz.f10 false true false false):=by
  refine returnsInHanded_of_change (C:=Tryz.checked) own started (by kernel_rfl) Tryz.func10
    (ChangeSpec.witness6 (enc:=enc) (C:=Tryz.checked) false ⟨#[],#[.agg #[.slice none 0 0,.slice none 0 0,.slice none 0 0],.agg #[.string ⟨#[]⟩,.string ⟨#[]⟩],.string ⟨#[]⟩,.int .i64 0],[]⟩ 8 (by kernel_rfl) (by kernel_rfl) (by kernel_rfl) (by kernel_rfl)) ?_
  intro W base args ds gs before hval hW _ _
  exact ud H enc W base args ds gs before hval hW
theorem uu:(Rows.expandUsersRow.inPlace==Program.inPlace Tryz.pinned.checked.prog 10)=true:=by kernel_rfl
theorem uv:(Rows.expandUsersRow.unfollowed==Program.unfollowed Tryz.pinned.checked.prog 10)=true:=by kernel_rfl
theorem uw:(Rows.expandUsersRow.recurses==Program.recurses Tryz.pinned.checked.prog 10)=true:=by kernel_rfl
theorem ux:(Rows.expandUsersRow.named==Program.varsNamed Tryz.pinned.checked.prog 10)=true:=by kernel_rfl
theorem uy:Program.funcNamed Tryz.pinned.checked.prog Rows.expandUsersRow.func=some 10:=by kernel_rfl
theorem uz:laidOutB Tryz.pinned.checked.prog=true:=by kernel_rfl
theorem uA:mapsRowed Tryz.pinned.checked.prog=true:=by kernel_rfl
theorem uB:Program.stopsHeard Tryz.pinned.checked.prog=true:=by kernel_rfl
theorem uC:Program.mayEnter Tryz.pinned.checked.prog=true:=by kernel_rfl
theorem uD:(Rows.expandUsersRow.lifted==Program.liftsFinal Tryz.pinned.checked.prog)=true:=by kernel_rfl
theorem uE:(Program.make Tryz.pinned.checked.prog==some Rows.expandUsersRow.make)=true:=by kernel_rfl
theorem facts:joinedFacts Tryz.pinned.checked.prog 10 Tryz.f10 Rows.expandUsersSpec Rows.expandUsersRow=true:=by
  unfold joinedFacts
  rw[uu,uv,uw,ux,uz,uA,uB,uC,uD,uE]
  kernel_rfl
theorem wo:Rows.ExpandUsersSaid:=
  OpenClaim.holds_of_wide 10 Tryz.f10 rfl rfl rfl rfl rfl rfl rfl ⟨rfl,rfl,rfl,rfl,rfl⟩ rfl rfl rfl rfl rfl uy Tryz.func10 facts
    (of_decide_eq_true (by kernel_rfl)) (by unfold Func.isWrapper;first|(rw[if_pos (by decide+kernel)];kernel_rfl)|(rw[if_neg (by decide+kernel)];exact⟨rfl,rfl⟩))
    (fun os started H enc _=>lifted os started H enc)
end ExpandUsers
theorem expandUsersProved:Rows.ExpandUsersSaid:=ExpandUsers.wo
#print axioms expandUsersProved
end Go.Proofs.YtdljmchhecoakaaGreat

/-
  THE LAW 'SolveRounds': without the document's answer, around in a ring of relations: doorwardlaw21.SolveRounds answers true, and what it is given reads as it did. No condition.
-/
import Derived.Test.YtdljmchhecoakaaGreatKSolveRoundsL
import Derived.Test.YtdljmchhecoakaaGreatKSolveRoundsQ
import Derived.Test.YtdljmchhecoakaaGreatRows
import Derived.WalkKit
import Derived.ProofKit
import Derived.OpenShut
import Derived.Carry
import Derived.ChangeMaps5
set_option linter.unusedVariables false
set_option maxRecDepth 4000
namespace Go.Proofs.YtdljmchhecoakaaGreat
open Go.ChangeShapes Go.WideShapes Go.ChangeAt Go.RowKit Go.ChangeMaps
namespace SolveRounds
theorem Bu(H:Type)(enc:TypeId×Value→H)(W:World)(base:Nat)(args:Array Value)(ds gs:List (DataW H))(before:List MemPlace)
    (hval:∀(j:Nat) t v,Tryz.f9.params[j]? =some t→args[j]? =some v→Value.okWide Tryz.prog W .any base t v)
    (hW:DataW.Whole enc Tryz.prog Tryz.f9.params.toList Rows.solveRoundsSpec.vars false W args.toList ds gs before):
    Calls Tryz.prog 9 args W fun e W'=>∃v,e=.returned v∧Rows.solveRoundsSpec.post enc Tryz.prog Tryz.f9 false true false false W args v W':=by
  have hW':=hW
  obtain⟨p,q,hA0,hV,rfl,hfz,hnd⟩:=hW
  have hA:DataW.TrodAll enc Tryz.prog W 0 (fun _=>true) true Tryz.f9.params.toList args.toList ds p:=hA0
  rw[Tryz.params9]at hA hval
  obtain⟨v0,v1,d0,d1,p0,p1,rfl,rfl,rfl,h0,h1⟩:=trodAll_two hA
  obtain⟨z0,rfl,m0,M0,w0⟩:=open_int Tryz.underlying3 (hval 0 _ v0 rfl rfl) h0
  obtain⟨z1,rfl,m1,M1,w1⟩:=open_int Tryz.underlying3 (hval 1 _ v1 rfl rfl) h1
  have hs:Spec Tryz.prog 9 [.int .i64 z0,.int .i64 z1] (Rw W) [] fun v H'=>v=.bool true∧H'=[]:=
    Ml z0 z1 _
  refine(hs W ⟨by simp,by simp⟩ (fun b o hb=>⟨hb,by simp⟩)).mono fun e W' ⟨v,H',he,⟨hv,hH⟩,_,hf⟩=>?_
  subst he;subst hv;subst hH
  obtain⟨rfl,rfl⟩:=trodVars_none hV
  exact⟨_,rfl,Li kids full (by rw[Tryz.params9];decide+kernel) hW' rfl rfl rfl (fun _ _ _=>trodAll_cons_mk (shut_bool Tryz.underlying4 _) trodAll_mk0) hf⟩
set_option maxRecDepth 100000 in
theorem lifted(os:Os)(started:os.Started)(H:Type)(enc:TypeId×Value→H):
    ReturnsInHanded {} Tryz.checked os 9 .any (Rows.solveRoundsSpec.pre6 enc Tryz.prog Tryz.f9 Rows.solveRoundsRow.domain false) (Rows.solveRoundsSpec.post enc Tryz.prog Tryz.f9 false true false false):=by
  refine returnsInHanded_of_change (C:=Tryz.checked) own started (by kernel_rfl) Tryz.func9
    (ChangeSpec.witness6 (enc:=enc) (C:=Tryz.checked) false ⟨#[],#[.int .i64 0,.int .i64 0],[]⟩ 8 (by kernel_rfl) (by kernel_rfl) (by kernel_rfl) (by kernel_rfl)) ?_
  intro W base args ds gs before hval hW _ _
  exact Bu H enc W base args ds gs before hval hW
theorem Js:(Rows.solveRoundsRow.inPlace==Program.inPlace Tryz.pinned.checked.prog 9)=true:=by kernel_rfl
theorem Jt:(Rows.solveRoundsRow.unfollowed==Program.unfollowed Tryz.pinned.checked.prog 9)=true:=by kernel_rfl
theorem Ju:(Rows.solveRoundsRow.recurses==Program.recurses Tryz.pinned.checked.prog 9)=true:=by kernel_rfl
theorem Jv:(Rows.solveRoundsRow.named==Program.varsNamed Tryz.pinned.checked.prog 9)=true:=by kernel_rfl
theorem Jw:Program.funcNamed Tryz.pinned.checked.prog Rows.solveRoundsRow.func=some 9:=by kernel_rfl
theorem Jx:laidOutB Tryz.pinned.checked.prog=true:=by kernel_rfl
theorem Jy:mapsRowed Tryz.pinned.checked.prog=true:=by kernel_rfl
theorem Jz:Program.stopsHeard Tryz.pinned.checked.prog=true:=by kernel_rfl
theorem JA:Program.mayEnter Tryz.pinned.checked.prog=true:=by kernel_rfl
theorem JB:(Rows.solveRoundsRow.lifted==Program.liftsFinal Tryz.pinned.checked.prog)=true:=by kernel_rfl
theorem JC:(Program.make Tryz.pinned.checked.prog==some Rows.solveRoundsRow.make)=true:=by kernel_rfl
theorem facts:joinedFacts Tryz.pinned.checked.prog 9 Tryz.f9 Rows.solveRoundsSpec Rows.solveRoundsRow=true:=by
  unfold joinedFacts
  rw[Js,Jt,Ju,Jv,Jx,Jy,Jz,JA,JB,JC]
  kernel_rfl
theorem Lj:Rows.SolveRoundsSaid:=
  OpenClaim.holds_of_wide 9 Tryz.f9 rfl rfl rfl rfl rfl rfl rfl ⟨rfl,rfl,rfl,rfl,rfl⟩ rfl rfl rfl rfl rfl Jw Tryz.func9 facts
    (of_decide_eq_true (by kernel_rfl)) (by unfold Func.isWrapper;first|(rw[if_pos (by decide+kernel)];kernel_rfl)|(rw[if_neg (by decide+kernel)];exact⟨rfl,rfl⟩))
    (fun os started H enc _=>lifted os started H enc)
end SolveRounds
theorem solveRoundsProved:Rows.SolveRoundsSaid:=SolveRounds.Lj
#print axioms solveRoundsProved
end Go.Proofs.YtdljmchhecoakaaGreat

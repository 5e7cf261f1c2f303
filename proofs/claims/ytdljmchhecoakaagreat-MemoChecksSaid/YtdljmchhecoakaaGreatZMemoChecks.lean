/-
  THE LAW 'MemoChecks': whatever is asked, written, put in force, let go, a memo's Check tells what solve.Check tells with a budget that is enough, or its error: doorwardlaw24.MemoChecks answers true, and what it is given reads as it did. No condition.
-/
import Derived.Test.YtdljmchhecoakaaGreatKMemoChecksM
import Derived.Test.YtdljmchhecoakaaGreatKMemoChecksR
import Derived.Test.YtdljmchhecoakaaGreatRows
import Derived.WalkKit
import Derived.ProofKit
import Derived.OpenShut
import Derived.Carry
import Derived.ChangeMaps5
set_option linter.unusedVariables false
set_option maxRecDepth 4000
namespace Go.Proofs.YtdljmchhecoakaaGreat
open Go.ChangeShapes Go.WideShapes Go.ChangeAt Go.RowKit Go.ChangeMaps
namespace MemoChecks
theorem CC(H:Type)(enc:TypeId×Value→H)(W:World)(base:Nat)(args:Array Value)(ds gs:List (DataW H))(before:List MemPlace)
    (hval:∀(j:Nat) t v,Tryz.f3.params[j]? =some t→args[j]? =some v→Value.okWide Tryz.prog W .any base t v)
    (hW:DataW.Whole enc Tryz.prog Tryz.f3.params.toList Rows.memoChecksSpec.vars false W args.toList ds gs before):
    Calls Tryz.prog 3 args W fun e W'=>∃v,e=.returned v∧Rows.memoChecksSpec.post enc Tryz.prog Tryz.f3 false true false false W args v W':=by
  have hW':=hW
  obtain⟨p,q,hA0,hV,rfl,hfz,hnd⟩:=hW
  have hA:DataW.TrodAll enc Tryz.prog W 0 (fun _=>true) true Tryz.f3.params.toList args.toList ds p:=hA0
  rw[Tryz.params3]at hA hval
  obtain⟨v0,v1,v2,d0,d1,d2,p0,p1,p2,rfl,rfl,rfl,h0,h1,h2⟩:=trodAll_three hA
  obtain⟨cs0,rfl,f0,h0⟩:=Cp Tryz.underlying28 (hval 0 _ v0 rfl rfl) h0
  obtain⟨w,rfl,hw⟩:=Rj h0
  obtain⟨z1,rfl,m1,M1,w1⟩:=open_int Tryz.underlying3 (hval 1 _ v1 rfl rfl) h1
  obtain⟨f2,h2⟩:=Qg Tryz.underlying29 (hval 2 _ v2 rfl rfl) h2
  obtain⟨vl,aks,e2,hS2,hA2⟩:=BZ h2
  cases e2
  have hs:Spec Tryz.prog 3 [.agg w.enc.toArray,.int .i64 z1,v2] (Rw W) [] fun v H'=>v=.bool true∧H'=[]:=
    Nt w z1 v2 aks _ hw hS2 hA2
  refine(hs W ⟨by simp,by simp⟩ (fun b o hb=>⟨hb,by simp⟩)).mono fun e W' ⟨v,H',he,⟨hv,hH⟩,_,hf⟩=>?_
  subst he;subst hv;subst hH
  obtain⟨rfl,rfl⟩:=trodVars_none hV
  exact⟨_,rfl,Oy kids full (by rw[Tryz.params3];decide+kernel) hW' rfl rfl rfl (fun _ _ _=>trodAll_cons_mk (shut_bool Tryz.underlying4 _) trodAll_mk0) hf⟩
set_option maxRecDepth 100000 in
theorem lifted(os:Os)(started:os.Started)(H:Type)(enc:TypeId×Value→H):
    ReturnsInHanded {} Tryz.checked os 3 .any (Rows.memoChecksSpec.pre6 enc Tryz.prog Tryz.f3 Rows.memoChecksRow.domain false) (Rows.memoChecksSpec.post enc Tryz.prog Tryz.f3 false true false false):=by
  refine returnsInHanded_of_change (C:=Tryz.checked) own started (by kernel_rfl) Tryz.func3
    (ChangeSpec.witness6 (enc:=enc) (C:=Tryz.checked) false ⟨#[],#[.agg #[.slice none 0 0,.slice none 0 0,.slice none 0 0],.int .i64 0,.slice none 0 0],[]⟩ 8 (by kernel_rfl) (by kernel_rfl) (by kernel_rfl) (by kernel_rfl)) ?_
  intro W base args ds gs before hval hW _ _
  exact CC H enc W base args ds gs before hval hW
theorem LO:(Rows.memoChecksRow.inPlace==Program.inPlace Tryz.pinned.checked.prog 3)=true:=by kernel_rfl
theorem LP:(Rows.memoChecksRow.unfollowed==Program.unfollowed Tryz.pinned.checked.prog 3)=true:=by kernel_rfl
theorem LQ:(Rows.memoChecksRow.recurses==Program.recurses Tryz.pinned.checked.prog 3)=true:=by kernel_rfl
theorem LR:(Rows.memoChecksRow.named==Program.varsNamed Tryz.pinned.checked.prog 3)=true:=by kernel_rfl
theorem LS:Program.funcNamed Tryz.pinned.checked.prog Rows.memoChecksRow.func=some 3:=by kernel_rfl
theorem LU:laidOutB Tryz.pinned.checked.prog=true:=by kernel_rfl
theorem LV:mapsRowed Tryz.pinned.checked.prog=true:=by kernel_rfl
theorem LW:Program.stopsHeard Tryz.pinned.checked.prog=true:=by kernel_rfl
theorem LX:Program.mayEnter Tryz.pinned.checked.prog=true:=by kernel_rfl
theorem LY:(Rows.memoChecksRow.lifted==Program.liftsFinal Tryz.pinned.checked.prog)=true:=by kernel_rfl
theorem LZ:(Program.make Tryz.pinned.checked.prog==some Rows.memoChecksRow.make)=true:=by kernel_rfl
theorem facts:joinedFacts Tryz.pinned.checked.prog 3 Tryz.f3 Rows.memoChecksSpec Rows.memoChecksRow=true:=by
  unfold joinedFacts
  rw[LO,LP,LQ,LR,LU,LV,LW,LX,LY,LZ]
  kernel_rfl
theorem Oz:Rows.MemoChecksSaid:=
  OpenClaim.holds_of_wide 3 Tryz.f3 rfl rfl rfl rfl rfl rfl rfl ⟨rfl,rfl,rfl,rfl,rfl⟩ rfl rfl rfl rfl rfl LS Tryz.func3 facts
    (of_decide_eq_true (by kernel_rfl)) (by unfold Func.isWrapper;first|(rw[if_pos (by decide+kernel)];kernel_rfl)|(rw[if_neg (by decide+kernel)];exact⟨rfl,rfl⟩))
    (fun os started H enc _=>lifted os started H enc)
end MemoChecks
theorem memoChecksProved:Rows.MemoChecksSaid:=MemoChecks.Oz
#print axioms memoChecksProved
end Go.Proofs.YtdljmchhecoakaaGreat

/-
  THE LAW 'ReachFinds': what is reached from any place in any world is what the document tells, or why that is not told: doorwardlaw20.ReachFinds answers true, and what it is given reads as it did. No condition.
-/
import Derived.Test.YtdljmchhecoakaaGreatKReachFindsM
import Derived.Test.YtdljmchhecoakaaGreatKReachFindsR
import Derived.Test.YtdljmchhecoakaaGreatRows
import Derived.WalkKit
import Derived.ProofKit
import Derived.OpenShut
import Derived.Carry
import Derived.ChangeMaps5
set_option linter.unusedVariables false
set_option maxRecDepth 4000
namespace Go.Proofs.YtdljmchhecoakaaGreat
open Go.ChangeShapes Go.WideShapes Go.ChangeAt Go.RowKit Go.ChangeMaps
namespace ReachFinds
theorem AW(H:Type)(enc:TypeId×Value→H)(W:World)(base:Nat)(args:Array Value)(ds gs:List (DataW H))(before:List MemPlace)
    (hval:∀(j:Nat) t v,Tryz.f4.params[j]? =some t→args[j]? =some v→Value.okWide Tryz.prog W .any base t v)
    (hW:DataW.Whole enc Tryz.prog Tryz.f4.params.toList Rows.reachFindsSpec.vars false W args.toList ds gs before):
    Calls Tryz.prog 4 args W fun e W'=>∃v,e=.returned v∧Rows.reachFindsSpec.post enc Tryz.prog Tryz.f4 false true false false W args v W':=by
  have hW':=hW
  obtain⟨p,q,hA0,hV,rfl,hfz,hnd⟩:=hW
  have hA:DataW.TrodAll enc Tryz.prog W 0 (fun _=>true) true Tryz.f4.params.toList args.toList ds p:=hA0
  rw[Tryz.params4]at hA hval
  obtain⟨v0,v1,v2,v3,v4,d0,d1,d2,d3,d4,p0,p1,p2,p3,p4,rfl,rfl,rfl,h0,h1,h2,h3,h4⟩:=Oc hA
  obtain⟨cs0,rfl,f0,h0⟩:=vN Tryz.underlying28 (hval 0 _ v0 rfl rfl) h0
  obtain⟨w,rfl,hw⟩:=Oo h0
  obtain⟨cs1,rfl,f1,h1⟩:=vN Tryz.underlying44 (hval 1 _ v1 rfl rfl) h1
  obtain⟨o1,o2,rfl,_,_⟩:=pz h1
  obtain⟨rl,rfl,rfl,rfl,_⟩:=open_string Tryz.underlying9 (hval 2 _ v2 rfl rfl) h2
  obtain⟨z3,rfl,m3,M3,w3⟩:=open_int Tryz.underlying45 (hval 3 _ v3 rfl rfl) h3
  obtain⟨z4,rfl,m4,M4,w4⟩:=open_int Tryz.underlying3 (hval 4 _ v4 rfl rfl) h4
  have hs:Spec Tryz.prog 4 [.agg w.enc.toArray,.agg [.string o1,.string o2].toArray,.string rl,.int .u64 z3,.int .i64 z4] (Rw W) [] fun v H'=>v=.bool true∧H'=[]:=
    LY w _ hw ⟨o1,o2,rl⟩ z3 (wf_u64 w3) z4 (wf_i64 w4)
  refine(hs W ⟨by simp,by simp⟩ (fun b o hb=>⟨hb,by simp⟩)).mono fun e W' ⟨v,H',he,⟨hv,hH⟩,_,hf⟩=>?_
  subst he;subst hv;subst hH
  obtain⟨rfl,rfl⟩:=trodVars_none hV
  exact⟨_,rfl,LN kids full (by rw[Tryz.params4];decide+kernel) hW' rfl rfl rfl (fun _ _ _=>trodAll_cons_mk (shut_bool Tryz.underlying4 _) trodAll_mk0) hf⟩
set_option maxRecDepth 100000 in
theorem lifted(os:Os)(started:os.Started)(H:Type)(enc:TypeId×Value→H):
    ReturnsInHanded {} Tryz.checked os 4 .any (Rows.reachFindsSpec.pre6 enc Tryz.prog Tryz.f4 Rows.reachFindsRow.domain false) (Rows.reachFindsSpec.post enc Tryz.prog Tryz.f4 false true false false):=by
  refine returnsInHanded_of_change (C:=Tryz.checked) own started (by kernel_rfl) Tryz.func4
    (ChangeSpec.witness6 (enc:=enc) (C:=Tryz.checked) false ⟨#[],#[.agg #[.slice none 0 0,.slice none 0 0,.slice none 0 0],.agg #[.string ⟨#[]⟩,.string ⟨#[]⟩],.string ⟨#[]⟩,.int .u64 0,.int .i64 0],[]⟩ 8 (by kernel_rfl) (by kernel_rfl) (by kernel_rfl) (by kernel_rfl)) ?_
  intro W base args ds gs before hval hW _ _
  exact AW H enc W base args ds gs before hval hW
theorem JL:(Rows.reachFindsRow.inPlace==Program.inPlace Tryz.pinned.checked.prog 4)=true:=by kernel_rfl
theorem JM:(Rows.reachFindsRow.unfollowed==Program.unfollowed Tryz.pinned.checked.prog 4)=true:=by kernel_rfl
theorem JN:(Rows.reachFindsRow.recurses==Program.recurses Tryz.pinned.checked.prog 4)=true:=by kernel_rfl
theorem JO:(Rows.reachFindsRow.named==Program.varsNamed Tryz.pinned.checked.prog 4)=true:=by kernel_rfl
theorem JP:Program.funcNamed Tryz.pinned.checked.prog Rows.reachFindsRow.func=some 4:=by kernel_rfl
theorem JQ:laidOutB Tryz.pinned.checked.prog=true:=by kernel_rfl
theorem JR:mapsRowed Tryz.pinned.checked.prog=true:=by kernel_rfl
theorem JS:Program.stopsHeard Tryz.pinned.checked.prog=true:=by kernel_rfl
theorem JT:Program.mayEnter Tryz.pinned.checked.prog=true:=by kernel_rfl
theorem JU:(Rows.reachFindsRow.lifted==Program.liftsFinal Tryz.pinned.checked.prog)=true:=by kernel_rfl
theorem JV:(Program.make Tryz.pinned.checked.prog==some Rows.reachFindsRow.make)=true:=by kernel_rfl
theorem facts:joinedFacts Tryz.pinned.checked.prog 4 Tryz.f4 Rows.reachFindsSpec Rows.reachFindsRow=true:=by
  unfold joinedFacts
  rw[JL,JM,JN,JO,JQ,JR,JS,JT,JU,JV]
  kernel_rfl
theorem LO:Rows.ReachFindsSaid:=
  OpenClaim.holds_of_wide 4 Tryz.f4 rfl rfl rfl rfl rfl rfl rfl ⟨rfl,rfl,rfl,rfl,rfl⟩ rfl rfl rfl rfl rfl JP Tryz.func4 facts
    (of_decide_eq_true (by kernel_rfl)) (by unfold Func.isWrapper;first|(rw[if_pos (by decide+kernel)];kernel_rfl)|(rw[if_neg (by decide+kernel)];exact⟨rfl,rfl⟩))
    (fun os started H enc _=>lifted os started H enc)
end ReachFinds
theorem reachFindsProved:Rows.ReachFindsSaid:=ReachFinds.LO
#print axioms reachFindsProved
end Go.Proofs.YtdljmchhecoakaaGreat

/-
  THE LAW 'LookupFinds': to which objects of any namespace any user belongs by any relation, or why that is not told: doorwardlaw23.LookupFinds answers true, and what it is given reads as it did. No condition.
-/
import Derived.Test.YtdljmchhecoakaaGreatKLookupFindsO
import Derived.Test.YtdljmchhecoakaaGreatKLookupFindsU
import Derived.Test.YtdljmchhecoakaaGreatRows
import Derived.WalkKit
import Derived.ProofKit
import Derived.OpenShut
import Derived.Carry
import Derived.ChangeMaps5
set_option linter.unusedVariables false
set_option maxRecDepth 4000
namespace Go.Proofs.YtdljmchhecoakaaGreat
open Go.ChangeShapes Go.WideShapes Go.ChangeAt Go.RowKit Go.ChangeMaps
namespace LookupFinds
theorem Ek(H:Type)(enc:TypeId×Value→H)(W:World)(base:Nat)(args:Array Value)(ds gs:List (DataW H))(before:List MemPlace)
    (hval:∀(j:Nat) t v,Tryz.f12.params[j]? =some t→args[j]? =some v→Value.okWide Tryz.prog W .any base t v)
    (hW:DataW.Whole enc Tryz.prog Tryz.f12.params.toList Rows.lookupFindsSpec.vars false W args.toList ds gs before):
    Calls Tryz.prog 12 args W fun e W'=>∃v,e=.returned v∧Rows.lookupFindsSpec.post enc Tryz.prog Tryz.f12 false true false false W args v W':=by
  have hW':=hW
  obtain⟨p,q,hA0,hV,rfl,hfz,hnd⟩:=hW
  have hA:DataW.TrodAll enc Tryz.prog W 0 (fun _=>true) true Tryz.f12.params.toList args.toList ds p:=hA0
  rw[Tryz.params12]at hA hval
  obtain⟨v0,v1,v2,v3,v4,v5,d0,d1,d2,d3,d4,d5,p0,p1,p2,p3,p4,p5,rfl,rfl,rfl,h0,h1,h2,h3,h4,h5⟩:=Uh hA
  obtain⟨cs0,rfl,f0,h0⟩:=DZ Tryz.underlying28 (hval 0 _ v0 rfl rfl) h0
  obtain⟨w,rfl,hw⟩:=Ut h0
  obtain⟨nm,rfl,rfl,rfl,_⟩:=open_string Tryz.underlying9 (hval 1 _ v1 rfl rfl) h1
  obtain⟨rl,rfl,rfl,rfl,_⟩:=open_string Tryz.underlying9 (hval 2 _ v2 rfl rfl) h2
  obtain⟨us,rfl,rfl,rfl,f3⟩:=open_string Tryz.underlying9 (hval 3 _ v3 rfl rfl) h3
  obtain⟨z4,rfl,m4,M4,w4⟩:=open_int Tryz.underlying45 (hval 4 _ v4 rfl rfl) h4
  obtain⟨z5,rfl,m5,M5,w5⟩:=open_int Tryz.underlying3 (hval 5 _ v5 rfl rfl) h5
  have hs:Spec Tryz.prog 12 [.agg w.enc.toArray,.string nm,.string rl,.string us,.int .u64 z4,.int .i64 z5] (Rw W) [] fun v H'=>v=.bool true∧H'=[]:=
    PD w _ hw nm rl us z4 (wf_u64 w4) z5 (wf_i64 w5)
  refine(hs W ⟨by simp,by simp⟩ (fun b o hb=>⟨hb,by simp⟩)).mono fun e W' ⟨v,H',he,⟨hv,hH⟩,_,hf⟩=>?_
  subst he;subst hv;subst hH
  obtain⟨rfl,rfl⟩:=trodVars_none hV
  exact⟨_,rfl,QQ kids full (by rw[Tryz.params12];decide+kernel) hW' rfl rfl rfl (fun _ _ _=>trodAll_cons_mk (shut_bool Tryz.underlying4 _) trodAll_mk0) hf⟩
set_option maxRecDepth 100000 in
theorem lifted(os:Os)(started:os.Started)(H:Type)(enc:TypeId×Value→H):
    ReturnsInHanded {} Tryz.checked os 12 .any (Rows.lookupFindsSpec.pre6 enc Tryz.prog Tryz.f12 Rows.lookupFindsRow.domain false) (Rows.lookupFindsSpec.post enc Tryz.prog Tryz.f12 false true false false):=by
  refine returnsInHanded_of_change (C:=Tryz.checked) own started (by kernel_rfl) Tryz.func12
    (ChangeSpec.witness6 (enc:=enc) (C:=Tryz.checked) false ⟨#[],#[.agg #[.slice none 0 0,.slice none 0 0,.slice none 0 0],.string ⟨#[]⟩,.string ⟨#[]⟩,.string ⟨#[]⟩,.int .u64 0,.int .i64 0],[]⟩ 8 (by kernel_rfl) (by kernel_rfl) (by kernel_rfl) (by kernel_rfl)) ?_
  intro W base args ds gs before hval hW _ _
  exact Ek H enc W base args ds gs before hval hW
theorem Ot:(Rows.lookupFindsRow.inPlace==Program.inPlace Tryz.pinned.checked.prog 12)=true:=by kernel_rfl
theorem Ou:(Rows.lookupFindsRow.unfollowed==Program.unfollowed Tryz.pinned.checked.prog 12)=true:=by kernel_rfl
theorem Ov:(Rows.lookupFindsRow.recurses==Program.recurses Tryz.pinned.checked.prog 12)=true:=by kernel_rfl
theorem Ow:(Rows.lookupFindsRow.named==Program.varsNamed Tryz.pinned.checked.prog 12)=true:=by kernel_rfl
theorem Ox:Program.funcNamed Tryz.pinned.checked.prog Rows.lookupFindsRow.func=some 12:=by kernel_rfl
theorem Oy:laidOutB Tryz.pinned.checked.prog=true:=by kernel_rfl
theorem Oz:mapsRowed Tryz.pinned.checked.prog=true:=by kernel_rfl
theorem OA:Program.stopsHeard Tryz.pinned.checked.prog=true:=by kernel_rfl
theorem OB:Program.mayEnter Tryz.pinned.checked.prog=true:=by kernel_rfl
theorem OC:(Rows.lookupFindsRow.lifted==Program.liftsFinal Tryz.pinned.checked.prog)=true:=by kernel_rfl
theorem OD:(Program.make Tryz.pinned.checked.prog==some Rows.lookupFindsRow.make)=true:=by kernel_rfl
theorem facts:joinedFacts Tryz.pinned.checked.prog 12 Tryz.f12 Rows.lookupFindsSpec Rows.lookupFindsRow=true:=by
  unfold joinedFacts
  rw[Ot,Ou,Ov,Ow,Oy,Oz,OA,OB,OC,OD]
  kernel_rfl
theorem QR:Rows.LookupFindsSaid:=
  OpenClaim.holds_of_wide 12 Tryz.f12 rfl rfl rfl rfl rfl rfl rfl ⟨rfl,rfl,rfl,rfl,rfl⟩ rfl rfl rfl rfl rfl Ox Tryz.func12 facts
    (of_decide_eq_true (by kernel_rfl)) (by unfold Func.isWrapper;first|(rw[if_pos (by decide+kernel)];kernel_rfl)|(rw[if_neg (by decide+kernel)];exact⟨rfl,rfl⟩))
    (fun os started H enc _=>lifted os started H enc)
end LookupFinds
theorem lookupFindsProved:Rows.LookupFindsSaid:=LookupFinds.QR
#print axioms lookupFindsProved
end Go.Proofs.YtdljmchhecoakaaGreat

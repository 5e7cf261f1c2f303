/- What the law 'GrantNobody' uses of this prover's engine, facts and walks. No condition. -/
import Derived.Test.YtpmhgpjcladbkaaGreatDoorKGrantNobodyH
import Derived.Test.YtpmhgpjcladbkaaGreatDoorKGrantNobodyJ
import Derived.Test.YtpmhgpjcladbkaaGreatDoorKGrantNobodyL
set_option linter.unusedVariables false
set_option maxRecDepth 4000
namespace Go.Proofs.YtpmhgpjcladbkaaGreatDoor
def sameG (t u : Cod) : Bool := decide (t.text = u.text) && decide (t.client = u.client) && decide (t.user = u.user) && decide (t.uri = u.uri) && decide (t.scopes = u.scopes) && decide (t.chall = u.chall) && (t.expires == u.expires) && (t.family == u.family) && (t.used == u.used)
theorem sameG_iff {t u : Cod} : sameG t u = true ↔ t = u := by
  obtain ⟨a1, a2, a3, a4, a5, a6, a7, a8, a9⟩ := t
  obtain ⟨b1, b2, b3, b4, b5, b6, b7, b8, b9⟩ := u
  simp [sameG, and_assoc]
theorem sameG_self (t : Cod) : sameG t t = true := sameG_iff.2 rfl
theorem sameG_spec (w w' : Value) (t u : Cod) (R : Rds) (h : CodR R (w, t)) (h' : CodR R (w', u)) : Spec Tryz.prog 23 [.agg (encG (w, t)).toArray, .agg (encG (w', u)).toArray] R [] fun v H' => v = .bool (sameG t u) ∧ H' = [] := by
  have i1 : Ones (encG (w, t)) := ⟨h.ones⟩
  have i2 : Ones (encG (w', u)) := ⟨h'.ones⟩
  have hs : RS R 1 encS w t.scopes := h
  have hs' : RS R 1 encS w' u.scopes := h'
  have j1 := hs.oneCell
  have j2 := hs'.oneCell
  obtain ⟨a1, a2, a3, a4, a5, a6, a7, a8, a9⟩ := t
  obtain ⟨b1, b2, b3, b4, b5, b6, b7, b8, b9⟩ := u
  simp only at hs hs'
  refine Spec.body Tryz.func23 rfl Tryz.results23 Tryz.ntmps23 rfl ?_
  refine .seq (.region ?_)
  refine TriOps.boxA rfl (fun b2 => ?_)
  refine TriOps.boxA rfl (fun b3 => ?_)
  refine .q .assign ?_
  refine .nil (seqQ_n ?_)
  refine .seq (.region ?_)
  refine .q (.fieldAddr rfl) ?_
  refine .q (.load1 rfl) ?_
  refine .q (.fieldAddr rfl) ?_
  refine .q (.load1 rfl) ?_
  refine .q .eqS ?_
  refine .q .move ?_
  refine TriOps.split (t := 10) rfl (fun g1_5 => ?_) (fun g1_5 => ?_)
  refine TriOps.gT g1_5 ?_
  refine .q (.fieldAddr rfl) ?_
  refine TriOps.gT g1_5 ?_
  refine .q (.load1 rfl) ?_
  refine TriOps.gT g1_5 ?_
  refine .q (.fieldAddr rfl) ?_
  refine TriOps.gT g1_5 ?_
  refine .q (.load1 rfl) ?_
  refine TriOps.gT g1_5 ?_
  refine .q .eqS ?_
  refine .q (.pickTh g1_5) ?_
  refine .q .move ?_
  refine TriOps.split (t := 17) rfl (fun g1_12 => ?_) (fun g1_12 => ?_)
  refine TriOps.gT g1_12 ?_
  refine .q (.fieldAddr rfl) ?_
  refine TriOps.gT g1_12 ?_
  refine .q (.load1 rfl) ?_
  refine TriOps.gT g1_12 ?_
  refine .q (.fieldAddr rfl) ?_
  refine TriOps.gT g1_12 ?_
  refine .q (.load1 rfl) ?_
  refine TriOps.gT g1_12 ?_
  refine .q .eqS ?_
  refine .q (.pickTh g1_12) ?_
  refine .q .move ?_
  refine TriOps.split (t := 24) rfl (fun g1_19 => ?_) (fun g1_19 => ?_)
  refine TriOps.gT g1_19 ?_
  refine .q (.fieldAddr rfl) ?_
  refine TriOps.gT g1_19 ?_
  refine .q (.load1 rfl) ?_
  refine TriOps.gT g1_19 ?_
  refine .q (.fieldAddr rfl) ?_
  refine TriOps.gT g1_19 ?_
  refine .q (.load1 rfl) ?_
  refine TriOps.gT g1_19 ?_
  refine .q .eqS ?_
  refine .q (.pickTh g1_19) ?_
  refine .q .move ?_
  refine TriOps.split (t := 31) rfl (fun g1_26 => ?_) (fun g1_26 => ?_)
  refine TriOps.gT g1_26 ?_
  refine .q (.fieldAddr rfl) ?_
  refine TriOps.gT g1_26 ?_
  refine .q (.load1 rfl) ?_
  refine TriOps.gT g1_26 ?_
  refine .q (.fieldAddr rfl) ?_
  refine TriOps.gT g1_26 ?_
  refine .q (.load1 rfl) ?_
  refine TriOps.gT g1_26 ?_
  refine TriOps.callR (sameTexts_spec w w' a5 b5 _ hs.rx hs'.rx) (fun v hv => ?_)
  subst hv
  refine .q (.pickTh g1_26) ?_
  refine .q .move ?_
  refine TriOps.split (t := 38) rfl (fun g1_33 => ?_) (fun g1_33 => ?_)
  refine TriOps.gT g1_33 ?_
  refine .q (.fieldAddr rfl) ?_
  refine TriOps.gT g1_33 ?_
  refine .q (.load1 rfl) ?_
  refine TriOps.gT g1_33 ?_
  refine .q (.fieldAddr rfl) ?_
  refine TriOps.gT g1_33 ?_
  refine .q (.load1 rfl) ?_
  refine TriOps.gT g1_33 ?_
  refine .q .eqS ?_
  refine .q (.pickTh g1_33) ?_
  refine .q .move ?_
  refine TriOps.split (t := 45) rfl (fun g1_40 => ?_) (fun g1_40 => ?_)
  refine TriOps.gT g1_40 ?_
  refine .q (.fieldAddr rfl) ?_
  refine TriOps.gT g1_40 ?_
  refine .q (.load1 rfl) ?_
  refine TriOps.gT g1_40 ?_
  refine .q (.fieldAddr rfl) ?_
  refine TriOps.gT g1_40 ?_
  refine .q (.load1 rfl) ?_
  refine TriOps.gT g1_40 ?_
  refine .q .eqI ?_
  refine .q (.pickTh g1_40) ?_
  refine .q .move ?_
  refine TriOps.split (t := 52) rfl (fun g1_47 => ?_) (fun g1_47 => ?_)
  refine TriOps.gT g1_47 ?_
  refine .q (.fieldAddr rfl) ?_
  refine TriOps.gT g1_47 ?_
  refine .q (.load1 rfl) ?_
  refine TriOps.gT g1_47 ?_
  refine .q (.fieldAddr rfl) ?_
  refine TriOps.gT g1_47 ?_
  refine .q (.load1 rfl) ?_
  refine TriOps.gT g1_47 ?_
  refine .q .eqI ?_
  refine .q (.pickTh g1_47) ?_
  refine .q .move ?_
  refine TriOps.split (t := 59) rfl (fun g1_54 => ?_) (fun g1_54 => ?_)
  refine TriOps.gT g1_54 ?_
  refine .q (.fieldAddr rfl) ?_
  refine TriOps.gT g1_54 ?_
  refine .q (.load1 rfl) ?_
  refine TriOps.gT g1_54 ?_
  refine .q (.fieldAddr rfl) ?_
  refine TriOps.gT g1_54 ?_
  refine .q (.load1 rfl) ?_
  refine TriOps.gT g1_54 ?_
  refine .q .eqB ?_
  refine .q (.pickTh g1_54) ?_
  refine .q .assign ?_
  refine .nil (seqQ_n ?_)
  refine .ret (retQ_r _ (.one (.tmp rfl)) (.none _) ?_)
  · refine ⟨congrArg _ ?_, rfl⟩
    simp_all [sameG]
  refine TriOps.gF g1_54 ?_
  refine TriOps.gF g1_54 ?_
  refine TriOps.gF g1_54 ?_
  refine TriOps.gF g1_54 ?_
  refine TriOps.gF g1_54 ?_
  refine .q (.pickFh g1_54) ?_
  refine .q .assign ?_
  refine .nil (seqQ_n ?_)
  refine .ret (retQ_r _ (.one (.tmp rfl)) (.none _) ?_)
  · refine ⟨congrArg _ ?_, rfl⟩
    simp_all [sameG]
  refine TriOps.gF g1_47 ?_
  refine TriOps.gF g1_47 ?_
  refine TriOps.gF g1_47 ?_
  refine TriOps.gF g1_47 ?_
  refine TriOps.gF g1_47 ?_
  refine .q (.pickFh g1_47) ?_
  refine .q .move ?_
  refine TriOps.gf rfl rfl ?_
  refine TriOps.gf rfl rfl ?_
  refine TriOps.gf rfl rfl ?_
  refine TriOps.gf rfl rfl ?_
  refine TriOps.gf rfl rfl ?_
  refine .q .pickF ?_
  refine .q .assign ?_
  refine .nil (seqQ_n ?_)
  refine .ret (retQ_r _ (.one (.tmp rfl)) (.none _) ?_)
  · refine ⟨congrArg _ ?_, rfl⟩
    simp_all [sameG]
  refine TriOps.gF g1_40 ?_
  refine TriOps.gF g1_40 ?_
  refine TriOps.gF g1_40 ?_
  refine TriOps.gF g1_40 ?_
  refine TriOps.gF g1_40 ?_
  refine .q (.pickFh g1_40) ?_
  refine .q .move ?_
  refine TriOps.gf rfl rfl ?_
  refine TriOps.gf rfl rfl ?_
  refine TriOps.gf rfl rfl ?_
  refine TriOps.gf rfl rfl ?_
  refine TriOps.gf rfl rfl ?_
  refine .q .pickF ?_
  refine .q .move ?_
  refine TriOps.gf rfl rfl ?_
  refine TriOps.gf rfl rfl ?_
  refine TriOps.gf rfl rfl ?_
  refine TriOps.gf rfl rfl ?_
  refine TriOps.gf rfl rfl ?_
  refine .q .pickF ?_
  refine .q .assign ?_
  refine .nil (seqQ_n ?_)
  refine .ret (retQ_r _ (.one (.tmp rfl)) (.none _) ?_)
  · refine ⟨congrArg _ ?_, rfl⟩
    simp_all [sameG]
  refine TriOps.gF g1_33 ?_
  refine TriOps.gF g1_33 ?_
  refine TriOps.gF g1_33 ?_
  refine TriOps.gF g1_33 ?_
  refine TriOps.gF g1_33 ?_
  refine .q (.pickFh g1_33) ?_
  refine .q .move ?_
  refine TriOps.gf rfl rfl ?_
  refine TriOps.gf rfl rfl ?_
  refine TriOps.gf rfl rfl ?_
  refine TriOps.gf rfl rfl ?_
  refine TriOps.gf rfl rfl ?_
  refine .q .pickF ?_
  refine .q .move ?_
  refine TriOps.gf rfl rfl ?_
  refine TriOps.gf rfl rfl ?_
  refine TriOps.gf rfl rfl ?_
  refine TriOps.gf rfl rfl ?_
  refine TriOps.gf rfl rfl ?_
  refine .q .pickF ?_
  refine .q .move ?_
  refine TriOps.gf rfl rfl ?_
  refine TriOps.gf rfl rfl ?_
  refine TriOps.gf rfl rfl ?_
  refine TriOps.gf rfl rfl ?_
  refine TriOps.gf rfl rfl ?_
  refine .q .pickF ?_
  refine .q .assign ?_
  refine .nil (seqQ_n ?_)
  refine .ret (retQ_r _ (.one (.tmp rfl)) (.none _) ?_)
  · refine ⟨congrArg _ ?_, rfl⟩
    simp_all [sameG]
  refine TriOps.gF g1_26 ?_
  refine TriOps.gF g1_26 ?_
  refine TriOps.gF g1_26 ?_
  refine TriOps.gF g1_26 ?_
  refine TriOps.gF g1_26 ?_
  refine .q (.pickFh g1_26) ?_
  refine .q .move ?_
  refine TriOps.gf rfl rfl ?_
  refine TriOps.gf rfl rfl ?_
  refine TriOps.gf rfl rfl ?_
  refine TriOps.gf rfl rfl ?_
  refine TriOps.gf rfl rfl ?_
  refine .q .pickF ?_
  refine .q .move ?_
  refine TriOps.gf rfl rfl ?_
  refine TriOps.gf rfl rfl ?_
  refine TriOps.gf rfl rfl ?_
  refine TriOps.gf rfl rfl ?_
  refine TriOps.gf rfl rfl ?_
  refine .q .pickF ?_
  refine .q .move ?_
  refine TriOps.gf rfl rfl ?_
  refine TriOps.gf rfl rfl ?_
  refine TriOps.gf rfl rfl ?_
  refine TriOps.gf rfl rfl ?_
  refine TriOps.gf rfl rfl ?_
  refine .q .pickF ?_
  refine .q .move ?_
  refine TriOps.gf rfl rfl ?_
  refine TriOps.gf rfl rfl ?_
  refine TriOps.gf rfl rfl ?_
  refine TriOps.gf rfl rfl ?_
  refine TriOps.gf rfl rfl ?_
  refine .q .pickF ?_
  refine .q .assign ?_
  refine .nil (seqQ_n ?_)
  refine .ret (retQ_r _ (.one (.tmp rfl)) (.none _) ?_)
  · refine ⟨congrArg _ ?_, rfl⟩
    simp_all [sameG]
  refine TriOps.gF g1_19 ?_
  refine TriOps.gF g1_19 ?_
  refine TriOps.gF g1_19 ?_
  refine TriOps.gF g1_19 ?_
  refine TriOps.gF g1_19 ?_
  refine .q (.pickFh g1_19) ?_
  refine .q .move ?_
  refine TriOps.gf rfl rfl ?_
  refine TriOps.gf rfl rfl ?_
  refine TriOps.gf rfl rfl ?_
  refine TriOps.gf rfl rfl ?_
  refine TriOps.gf rfl rfl ?_
  refine .q .pickF ?_
  refine .q .move ?_
  refine TriOps.gf rfl rfl ?_
  refine TriOps.gf rfl rfl ?_
  refine TriOps.gf rfl rfl ?_
  refine TriOps.gf rfl rfl ?_
  refine TriOps.gf rfl rfl ?_
  refine .q .pickF ?_
  refine .q .move ?_
  refine TriOps.gf rfl rfl ?_
  refine TriOps.gf rfl rfl ?_
  refine TriOps.gf rfl rfl ?_
  refine TriOps.gf rfl rfl ?_
  refine TriOps.gf rfl rfl ?_
  refine .q .pickF ?_
  refine .q .move ?_
  refine TriOps.gf rfl rfl ?_
  refine TriOps.gf rfl rfl ?_
  refine TriOps.gf rfl rfl ?_
  refine TriOps.gf rfl rfl ?_
  refine TriOps.gf rfl rfl ?_
  refine .q .pickF ?_
  refine .q .move ?_
  refine TriOps.gf rfl rfl ?_
  refine TriOps.gf rfl rfl ?_
  refine TriOps.gf rfl rfl ?_
  refine TriOps.gf rfl rfl ?_
  refine TriOps.gf rfl rfl ?_
  refine .q .pickF ?_
  refine .q .assign ?_
  refine .nil (seqQ_n ?_)
  refine .ret (retQ_r _ (.one (.tmp rfl)) (.none _) ?_)
  · refine ⟨congrArg _ ?_, rfl⟩
    simp_all [sameG]
  refine TriOps.gF g1_12 ?_
  refine TriOps.gF g1_12 ?_
  refine TriOps.gF g1_12 ?_
  refine TriOps.gF g1_12 ?_
  refine TriOps.gF g1_12 ?_
  refine .q (.pickFh g1_12) ?_
  refine .q .move ?_
  refine TriOps.gf rfl rfl ?_
  refine TriOps.gf rfl rfl ?_
  refine TriOps.gf rfl rfl ?_
  refine TriOps.gf rfl rfl ?_
  refine TriOps.gf rfl rfl ?_
  refine .q .pickF ?_
  refine .q .move ?_
  refine TriOps.gf rfl rfl ?_
  refine TriOps.gf rfl rfl ?_
  refine TriOps.gf rfl rfl ?_
  refine TriOps.gf rfl rfl ?_
  refine TriOps.gf rfl rfl ?_
  refine .q .pickF ?_
  refine .q .move ?_
  refine TriOps.gf rfl rfl ?_
  refine TriOps.gf rfl rfl ?_
  refine TriOps.gf rfl rfl ?_
  refine TriOps.gf rfl rfl ?_
  refine TriOps.gf rfl rfl ?_
  refine .q .pickF ?_
  refine .q .move ?_
  refine TriOps.gf rfl rfl ?_
  refine TriOps.gf rfl rfl ?_
  refine TriOps.gf rfl rfl ?_
  refine TriOps.gf rfl rfl ?_
  refine TriOps.gf rfl rfl ?_
  refine .q .pickF ?_
  refine .q .move ?_
  refine TriOps.gf rfl rfl ?_
  refine TriOps.gf rfl rfl ?_
  refine TriOps.gf rfl rfl ?_
  refine TriOps.gf rfl rfl ?_
  refine TriOps.gf rfl rfl ?_
  refine .q .pickF ?_
  refine .q .move ?_
  refine TriOps.gf rfl rfl ?_
  refine TriOps.gf rfl rfl ?_
  refine TriOps.gf rfl rfl ?_
  refine TriOps.gf rfl rfl ?_
  refine TriOps.gf rfl rfl ?_
  refine .q .pickF ?_
  refine .q .assign ?_
  refine .nil (seqQ_n ?_)
  refine .ret (retQ_r _ (.one (.tmp rfl)) (.none _) ?_)
  · refine ⟨congrArg _ ?_, rfl⟩
    simp_all [sameG]
  refine TriOps.gF g1_5 ?_
  refine TriOps.gF g1_5 ?_
  refine TriOps.gF g1_5 ?_
  refine TriOps.gF g1_5 ?_
  refine TriOps.gF g1_5 ?_
  refine .q (.pickFh g1_5) ?_
  refine .q .move ?_
  refine TriOps.gf rfl rfl ?_
  refine TriOps.gf rfl rfl ?_
  refine TriOps.gf rfl rfl ?_
  refine TriOps.gf rfl rfl ?_
  refine TriOps.gf rfl rfl ?_
  refine .q .pickF ?_
  refine .q .move ?_
  refine TriOps.gf rfl rfl ?_
  refine TriOps.gf rfl rfl ?_
  refine TriOps.gf rfl rfl ?_
  refine TriOps.gf rfl rfl ?_
  refine TriOps.gf rfl rfl ?_
  refine .q .pickF ?_
  refine .q .move ?_
  refine TriOps.gf rfl rfl ?_
  refine TriOps.gf rfl rfl ?_
  refine TriOps.gf rfl rfl ?_
  refine TriOps.gf rfl rfl ?_
  refine TriOps.gf rfl rfl ?_
  refine .q .pickF ?_
  refine .q .move ?_
  refine TriOps.gf rfl rfl ?_
  refine TriOps.gf rfl rfl ?_
  refine TriOps.gf rfl rfl ?_
  refine TriOps.gf rfl rfl ?_
  refine TriOps.gf rfl rfl ?_
  refine .q .pickF ?_
  refine .q .move ?_
  refine TriOps.gf rfl rfl ?_
  refine TriOps.gf rfl rfl ?_
  refine TriOps.gf rfl rfl ?_
  refine TriOps.gf rfl rfl ?_
  refine TriOps.gf rfl rfl ?_
  refine .q .pickF ?_
  refine .q .move ?_
  refine TriOps.gf rfl rfl ?_
  refine TriOps.gf rfl rfl ?_
  refine TriOps.gf rfl rfl ?_
  refine TriOps.gf rfl rfl ?_
  refine TriOps.gf rfl rfl ?_
  refine .q .pickF ?_
  refine .q .move ?_
  refine TriOps.gf rfl rfl ?_
  refine TriOps.gf rfl rfl ?_
  refine TriOps.gf rfl rfl ?_
  refine TriOps.gf rfl rfl ?_
  refine TriOps.gf rfl rfl ?_
  refine .q .pickF ?_
  refine .q .assign ?_
  refine .nil (seqQ_n ?_)
  refine .ret (retQ_r _ (.one (.tmp rfl)) (.none _) ?_)
  · refine ⟨congrArg _ ?_, rfl⟩
    simp_all [sameG]
def Cod.short (t : Cod) : Cod := ⟨Go.Proofs.YtpmhgpjcladbkaaGreatDoor.short t.text 40, Go.Proofs.YtpmhgpjcladbkaaGreatDoor.short t.client 40, Go.Proofs.YtpmhgpjcladbkaaGreatDoor.short t.user 40, Go.Proofs.YtpmhgpjcladbkaaGreatDoor.short t.uri 60, texts t.scopes 5 20, Go.Proofs.YtpmhgpjcladbkaaGreatDoor.short t.chall 60, t.expires, t.family, t.used⟩
theorem gshort_spec (w : Value) (t : Cod) (R : Rds) (h : CodR R (w, t)) : Spec Tryz.prog 14 [.agg (encG (w, t)).toArray] R [] fun v H' => ∃ T, H' = [T] ∧ ∃ w', v = .agg (encG (w', t.short)).toArray ∧ CodR (sg0 T) (w', t.short) := by
  have i1 : Ones (encG (w, t)) := ⟨h.ones⟩
  have hs : RS R 1 encS w t.scopes := h
  have j1 := hs.oneCell
  obtain ⟨a1, a2, a3, a4, a5, a6, a7, a8, a9⟩ := t
  simp only at hs
  refine Spec.body Tryz.func14 rfl Tryz.results14 Tryz.ntmps14 rfl ?_
  refine .seq (.region ?_)
  refine TriOps.boxA rfl (fun b1 => ?_)
  refine TriOps.allocA (fun b2 => ?_)
  refine .nil (seqQ_n ?_)
  refine .seq ?_
  refine .region_all [16, 18, 20, 22, 24] mixed ?_
  refine .takeO 0 rfl (.fieldAddr rfl) (by kernel_rfl) ?_
  refine .takeO 1 rfl (.load1 rfl) (by kernel_rfl) ?_
  refine .takeO 3 rfl (.fieldAddr rfl) (by kernel_rfl) ?_
  refine .takeO 4 rfl (.load1 rfl) (by kernel_rfl) ?_
  refine .takeO 6 rfl (.fieldAddr rfl) (by kernel_rfl) ?_
  refine .takeO 7 rfl (.load1 rfl) (by kernel_rfl) ?_
  refine .takeO 9 rfl (.fieldAddr rfl) (by kernel_rfl) ?_
  refine .takeO 10 rfl (.load1 rfl) (by kernel_rfl) ?_
  refine .takeO 12 rfl (.fieldAddr rfl) (by kernel_rfl) ?_
  refine .takeO 13 rfl (.load1 rfl) (by kernel_rfl) ?_
  refine RA.step 2 rfl (by kernel_rfl) rfl ?_
  refine TriOps.callR (short_spec a1 40 _) (fun u hu => ?_)
  subst hu
  refine .nil (Next.sub ?_)
  refine .takeO 15 rfl (.fieldAddr rfl) (by kernel_rfl) ?_
  refine RA.step 5 rfl (by kernel_rfl) rfl ?_
  refine TriOps.callR (short_spec a2 40 _) (fun u hu => ?_)
  subst hu
  refine .nil (Next.sub ?_)
  refine RA.step 8 rfl (by kernel_rfl) rfl ?_
  refine TriOps.callR (short_spec a3 40 _) (fun u hu => ?_)
  subst hu
  refine .nil (Next.sub ?_)
  refine RA.step 11 rfl (by kernel_rfl) rfl ?_
  refine TriOps.callR (short_spec a4 60 _) (fun u hu => ?_)
  subst hu
  refine .nil (Next.sub ?_)
  refine RA.step 14 rfl (by kernel_rfl) rfl ?_
  refine TriOps.callR (short_spec a6 60 _) (fun u hu => ?_)
  subst hu
  refine .nil (Next.sub ?_)
  refine RA.step 16 rfl (by kernel_rfl) rfl ?_
  refine TriOps.store1 rfl rfl ?_
  refine .nil (Next.mod rfl ?_)
  refine .take 17 rfl (.fieldAddrA rfl) (by kernel_rfl) ?_
  refine RA.step 18 rfl (by kernel_rfl) rfl ?_
  refine TriOps.store1 rfl rfl ?_
  refine .nil (Next.mod rfl ?_)
  refine .take 19 rfl (.fieldAddrA rfl) (by kernel_rfl) ?_
  refine RA.step 20 rfl (by kernel_rfl) rfl ?_
  refine TriOps.store1 rfl rfl ?_
  refine .nil (Next.mod rfl ?_)
  refine .take 21 rfl (.fieldAddrA rfl) (by kernel_rfl) ?_
  refine RA.step 22 rfl (by kernel_rfl) rfl ?_
  refine TriOps.store1 rfl rfl ?_
  refine .nil (Next.mod rfl ?_)
  refine .take 23 rfl (.fieldAddrA rfl) (by kernel_rfl) ?_
  refine RA.step 24 rfl (by kernel_rfl) rfl ?_
  refine TriOps.store1 rfl rfl ?_
  refine .nil (Next.mod rfl ?_)
  refine RA.nil (by kernel_rfl) ?_
  refine seqQ_n ?_
  refine .seq (.region ?_)
  refine .q (.fieldAddr rfl) ?_
  refine .q (.load1 rfl) ?_
  refine TriOps.callN (texts_spec w a5 5 20 (by omega) _ hs.rx) (fun v1 T1 hO1 => ?_)
  have j2 := hO1.oneCell
  refine .q (.fieldAddr rfl) ?_
  refine TriOps.store1 rfl rfl ?_
  refine .nil (seqQ_n ?_)
  refine .seq (.region ?_)
  refine .q (.loadA rfl) ?_
  refine TriOps.storeA rfl rfl ?_
  refine .nil (seqQ_n ?_)
  refine .ret (retQ_r _ (.one (.cellA rfl rfl)) (.one [0] _) ?_)
  · exact ⟨T1, by simp [take], v1, rfl, hO1.sg0⟩
theorem gmine_spec (w : Value) (t : Cod) (R : Rds) (h : CodR R (w, t)) : Spec Tryz.prog 13 [.agg (encG (w, t)).toArray] R [] fun v H' => ∃ T, H' = [T] ∧ ∃ w', v = .agg (encG (w', t.short)).toArray ∧ CodR (sg0 T) (w', t.short) := by
  have i1 : Ones (encG (w, t)) := ⟨h.ones⟩
  refine Spec.body Tryz.func13 rfl Tryz.results13 Tryz.ntmps13 rfl ?_
  refine .seq (.region ?_)
  refine TriOps.boxA rfl (fun b1 => ?_)
  refine TriOps.allocA (fun b2 => ?_)
  refine .nil (seqQ_n ?_)
  refine .seq (.region ?_)
  refine .q (.loadA rfl) ?_
  refine TriOps.callN (gshort_spec w t _ (h.mono fun b o hb => .inl hb)) (fun v T1 hv => ?_)
  obtain ⟨w1, rfl, hc1⟩ := hv
  have hv1 : RS (sg0 T1) 1 encS w1 t.short.scopes := hc1
  obtain ⟨p1, k1, rfl⟩ := hv1.val
  have i2 := (⟨hc1.ones⟩ : Ones (encG (_, t.short)))
  refine TriOps.storeA rfl rfl ?_
  refine .nil (seqQ_n ?_)
  refine .seq (.region ?_)
  refine .q (.fieldAddr rfl) ?_
  refine .q (.load1 rfl) ?_
  refine .q (.fieldAddr rfl) ?_
  refine .q (.load1 rfl) ?_
  refine .q (.fieldAddr rfl) ?_
  refine .q (.load1 rfl) ?_
  refine .q (.fieldAddr rfl) ?_
  refine .q (.load1 rfl) ?_
  refine .q (.fieldAddr rfl) ?_
  refine .q (.load1 rfl) ?_
  refine .q (.fieldAddr rfl) ?_
  refine .q (.load1 rfl) ?_
  refine .q (.fieldAddr rfl) ?_
  refine .q (.load1 rfl) ?_
  refine .q (.fieldAddr rfl) ?_
  refine .q (.load1 rfl) ?_
  refine .q (.fieldAddr rfl) ?_
  refine .q (.load1 rfl) ?_
  refine .q .bld ?_
  refine TriOps.storeA rfl rfl ?_
  refine .nil (seqQ_n ?_)
  refine .ret (retQ_r _ (.one (.cellA rfl rfl)) (.one [0] _) ?_)
  · exact ⟨T1, by simp [take], _, rfl, hc1⟩
theorem gplain_spec (w : Value) (t : Cod) (R : Rds) {R' : Rds} (h : CodR R' (w, t)) : Spec Tryz.prog 24 [.agg (encG (w, t)).toArray] R [] fun v H' => v = .agg (encG (w, t)).toArray ∧ H' = [] := by
  have i1 : Ones (encG (w, t)) := ⟨h.ones⟩
  have hv1 : RS R' 1 encS w t.scopes := h
  obtain ⟨p1, k1, rfl⟩ := hv1.val
  refine Spec.body Tryz.func24 rfl Tryz.results24 Tryz.ntmps24 rfl ?_
  refine .seq (.region ?_)
  refine TriOps.boxA rfl (fun b1 => ?_)
  refine TriOps.allocA (fun b2 => ?_)
  refine .nil (seqQ_n ?_)
  refine .seq (.region ?_)
  refine .q (.fieldAddr rfl) ?_
  refine .q (.load1 rfl) ?_
  refine .q (.fieldAddr rfl) ?_
  refine .q (.load1 rfl) ?_
  refine .q (.fieldAddr rfl) ?_
  refine .q (.load1 rfl) ?_
  refine .q (.fieldAddr rfl) ?_
  refine .q (.load1 rfl) ?_
  refine .q (.fieldAddr rfl) ?_
  refine .q (.load1 rfl) ?_
  refine .q (.fieldAddr rfl) ?_
  refine .q (.load1 rfl) ?_
  refine .q (.fieldAddr rfl) ?_
  refine .q (.load1 rfl) ?_
  refine .q (.fieldAddr rfl) ?_
  refine .q (.load1 rfl) ?_
  refine .q (.fieldAddr rfl) ?_
  refine .q (.load1 rfl) ?_
  refine .q .bld ?_
  refine TriOps.storeA rfl rfl ?_
  refine .nil (seqQ_n ?_)
  refine .ret (retQ_r _ (.one (.cellA rfl rfl)) (.none _) ?_)
  · exact ⟨rfl, rfl⟩
def gword : ByteArray := ⟨#[100, 66, 106, 102, 116, 74, 101, 90, 52, 67, 86, 80, 45, 109, 66, 57, 50, 75, 50, 55, 117, 104, 98, 85, 74, 85, 49, 112, 49, 114, 95, 119, 87, 49, 103, 70, 87, 70, 79, 69, 106, 88, 107]⟩
theorem gword_ver : isVer gword = true := by decide +kernel
def glive : Cod := ⟨⟨#[116]⟩, ⟨#[]⟩, ⟨#[]⟩, ⟨#[]⟩, [], chal gword, 9, 0, false⟩
theorem glive_issue : gissue [] glive = (0, [(⟨#[116]⟩, glive)]) := rfl
theorem glive_redeem : gredeem [(⟨#[116]⟩, glive)] ⟨#[116]⟩ ⟨#[]⟩ ⟨#[]⟩ gword 8 = (glive.mark, 0, kset ⟨#[116]⟩ glive.mark [(⟨#[116]⟩, glive)]) := by
  unfold gredeem
  rw [show mget (⟨#[116]⟩ : ByteArray) [(⟨#[116]⟩, glive)] = some glive by simp [mget]]
  simp only
  rw [if_neg (by simp [glive]), if_neg (by simp [glive]), if_neg]
  simp [glive, pmatch, gword_ver]
theorem glives_spec (R : Rds) (hg : PC R (.pointer (some ⟨1, 0, none⟩)) (wv ks)) : Spec Tryz.prog 17 [] R [] fun v H' => v = .bool true ∧ H' = [] := by
  refine Spec.body Tryz.func17 rfl Tryz.results17 Tryz.ntmps17 rfl ?_
  refine .seq (.region ?_)
  refine .q .assign ?_
  refine .nil (seqQ_n ?_)
  refine .seq (.region ?_)
  refine TriOps.callN (gnew_spec _) (fun u T0 hu => ?_)
  obtain ⟨g, rfl, hb⟩ := hu
  refine .q .assign ?_
  refine .nil (seqQ_n ?_)
  refine .seq ?_
  refine .seq (.region ?_)
  refine .q .move ?_
  refine .q (.eqNilA rfl rfl) ?_
  refine .q .move ?_
  refine TriOps.gt rfl ?_
  refine .q .move ?_
  refine TriOps.gt rfl ?_
  refine TriOps.callR (rchallenge_spec gword (by decide) _) (fun v hv => ?_)
  subst hv
  refine TriOps.gt rfl ?_
  refine .q .bld ?_
  refine TriOps.gt rfl ?_
  refine TriOps.callM (gissue_spec g [] [] T0 hb (.slice none 0 0) glive _ RS.nil' (by simp [Cod.few, glive])) (fun v T1 hv => ?_)
  obtain ⟨rfl, hb1⟩ := hv
  rw [glive_issue] at hb1 ⊢
  refine TriOps.gt rfl ?_
  refine .q .neI ?_
  refine .q .pickF ?_
  refine .nil (seqQ_n ?_)
  refine .cond rfl (fun h1 => ?_) (fun h1 => ?_)
  · simp at h1
  refine .skip ?_
  refine seqQ_n ?_
  refine .seq (.region ?_)
  refine .q .move ?_
  refine TriOps.call [0] (gredeem_spec g [] _ T1 hb1 ⟨#[116]⟩ ⟨#[]⟩ ⟨#[]⟩ gword 8 (by decide) _ hg.rx) (fun v H' hv => ?_)
  obtain ⟨T2, Tn, rfl, w2, rfl, hc2, hb2⟩ := hv
  rw [glive_redeem] at hc2 hb2 ⊢
  have i2 := (⟨hc2.ones⟩ : Ones (encG (w2, _)))
  refine .q .move ?_
  refine .q .extract ?_
  refine .q .extract ?_
  refine TriOps.allocA (fun b2 => ?_)
  refine TriOps.storeA rfl rfl ?_
  refine .q .assign ?_
  refine .nil (seqQ_n ?_)
  refine .seq (.region ?_)
  refine .q .move ?_
  refine .q .eqI ?_
  refine .q .move ?_
  refine TriOps.split (t := 21) rfl (fun g5_2 => ?_) (fun g5_2 => ?_)
  refine TriOps.gT g5_2 ?_
  refine .q (.fieldAddr rfl) ?_
  refine TriOps.gT g5_2 ?_
  refine .q (.load1 rfl) ?_
  refine .q (.pickTh g5_2) ?_
  refine .q .assign ?_
  refine .nil (seqQ_n ?_)
  refine .ret (retQ_r _ (.one (.tmp rfl)) (.none _) ?_)
  · skip
    first
      | exact ⟨rfl, rfl⟩
      | (exfalso; revert g5_2; decide)
  refine TriOps.gF g5_2 ?_
  refine TriOps.gF g5_2 ?_
  refine .q (.pickFh g5_2) ?_
  refine .q .assign ?_
  refine .nil (seqQ_n ?_)
  refine .ret (retQ_r _ (.one (.tmp rfl)) (.none _) ?_)
  · skip
    first
      | exact ⟨rfl, rfl⟩
      | (exfalso; revert g5_2; decide)
/-- A call of the law. -/
structure GDo where
  kind : Int
  user : ByteArray
  client : ByteArray
  vs : Value
  scopes : List ByteArray
  code : GP
  text : ByteArray
  uri : ByteArray
  ver : ByteArray
  now : Int
def GDo.enc (d : GDo) : List Value := [.int .i64 d.kind, .string d.user, .string d.client, d.vs, .string d.code.2.text, .string d.code.2.client, .string d.code.2.user, .string d.code.2.uri, d.code.1, .string d.code.2.chall, .int .i64 d.code.2.expires, .int .i64 d.code.2.family, .bool d.code.2.used, .string d.text, .string d.uri, .string d.ver, .int .i64 d.now]
def GDo.is (d : GDo) (R : Rds) : Prop := RS R 1 encS d.vs d.scopes ∧ CodR R d.code ∧ d.ver.size ≤ 9223372036854775807
theorem GDo.ones {d : GDo} {R : Rds} (h : d.is R) : ∀ u ∈ d.enc, oneCell u = true := by
  have h1 := h.1.oneCell.h
  have h2 := h.2.1.oneCell.h
  intro u hu
  simp only [GDo.enc, List.mem_cons, List.not_mem_nil, or_false] at hu
  rcases hu with rfl | rfl | rfl | rfl | rfl | rfl | rfl | rfl | rfl | rfl | rfl | rfl | rfl | rfl | rfl | rfl | rfl <;> first | rfl | assumption
theorem gcod_of {H : Type} {enc : TypeId × Value → H} {W : World} {f : Nat} {cs : List Value} {x : DataW H × List MemPlace} (h : DataW.trod enc Tryz.prog W 0 (fun _ => true) true f 35 cs = some x) : ∃ p : GP, cs = encG p ∧ CodR (Rw W) p := by
  obtain ⟨hl, hp⟩ := parts_of Tryz.underlying35 h
  have hc : Tryz.prog.cellsOf 35 = 9 := by kernel_rfl
  rw [hc] at hl
  have c2 : Tryz.prog.cellsOf 2 = 1 := by kernel_rfl
  have c3 : Tryz.prog.cellsOf 3 = 1 := by kernel_rfl
  have c4 : Tryz.prog.cellsOf 4 = 1 := by kernel_rfl
  have c9 : Tryz.prog.cellsOf 9 = 1 := by kernel_rfl
  have c26 : Tryz.prog.cellsOf 26 = 1 := by kernel_rfl
  match cs, hl with
  | [a0, a1, a2, a3, a4, a5, a6, a7, a8], _ =>
    obtain ⟨n0, y0, h0⟩ : ∃ n y, DataW.trod enc Tryz.prog W 0 (fun _ => true) true n 9 (([a0, a1, a2, a3, a4, a5, a6, a7, a8].drop 0).take (Tryz.prog.cellsOf 9)) = some y := hp 0 _ rfl
    obtain ⟨n1, y1, h1⟩ : ∃ n y, DataW.trod enc Tryz.prog W 0 (fun _ => true) true n 9 (([a0, a1, a2, a3, a4, a5, a6, a7, a8].drop 1).take (Tryz.prog.cellsOf 9)) = some y := hp 1 _ rfl
    obtain ⟨n2, y2, h2⟩ : ∃ n y, DataW.trod enc Tryz.prog W 0 (fun _ => true) true n 9 (([a0, a1, a2, a3, a4, a5, a6, a7, a8].drop 2).take (Tryz.prog.cellsOf 9)) = some y := hp 2 _ rfl
    obtain ⟨n3, y3, h3⟩ : ∃ n y, DataW.trod enc Tryz.prog W 0 (fun _ => true) true n 9 (([a0, a1, a2, a3, a4, a5, a6, a7, a8].drop 3).take (Tryz.prog.cellsOf 9)) = some y := hp 3 _ rfl
    obtain ⟨n4, y4, h4⟩ : ∃ n y, DataW.trod enc Tryz.prog W 0 (fun _ => true) true n 26 (([a0, a1, a2, a3, a4, a5, a6, a7, a8].drop 4).take (Tryz.prog.cellsOf 26)) = some y := hp 4 _ rfl
    obtain ⟨n5, y5, h5⟩ : ∃ n y, DataW.trod enc Tryz.prog W 0 (fun _ => true) true n 9 (([a0, a1, a2, a3, a4, a5, a6, a7, a8].drop 5).take (Tryz.prog.cellsOf 9)) = some y := hp 5 _ rfl
    obtain ⟨n6, y6, h6⟩ : ∃ n y, DataW.trod enc Tryz.prog W 0 (fun _ => true) true n 2 (([a0, a1, a2, a3, a4, a5, a6, a7, a8].drop 6).take (Tryz.prog.cellsOf 2)) = some y := hp 6 _ rfl
    obtain ⟨n7, y7, h7⟩ : ∃ n y, DataW.trod enc Tryz.prog W 0 (fun _ => true) true n 3 (([a0, a1, a2, a3, a4, a5, a6, a7, a8].drop 7).take (Tryz.prog.cellsOf 3)) = some y := hp 7 _ rfl
    obtain ⟨n8, y8, h8⟩ : ∃ n y, DataW.trod enc Tryz.prog W 0 (fun _ => true) true n 4 (([a0, a1, a2, a3, a4, a5, a6, a7, a8].drop 8).take (Tryz.prog.cellsOf 4)) = some y := hp 8 _ rfl
    simp only [c2, c3, c4, c9, c26, List.drop_zero, List.drop_succ_cons, List.take_succ_cons, List.take_zero] at h0 h1 h2 h3 h4 h5 h6 h7 h8
    obtain ⟨s0, e0⟩ := str_of h0
    obtain ⟨s1, e1⟩ := str_of h1
    obtain ⟨s2, e2⟩ := str_of h2
    obtain ⟨s3, e3⟩ := str_of h3
    obtain ⟨v4, l4, e4, r4⟩ := strs_of h4
    obtain ⟨s5, e5⟩ := str_of h5
    obtain ⟨z6, e6⟩ := int_of (k := .i64) h6
    obtain ⟨z7, e7⟩ := int_of (k := .i64) h7
    obtain ⟨b8, e8⟩ := bool_of h8
    cases e0; cases e1; cases e2; cases e3; cases e4; cases e5; cases e6; cases e7; cases e8
    exact ⟨(_, ⟨s0, s1, s2, s3, l4, s5, z6, z7, b8⟩), rfl, r4⟩
theorem gdo_of {H : Type} {enc : TypeId × Value → H} {W : World} {f : Nat} {cs : List Value} {x : DataW H × List MemPlace} (h : DataW.trod enc Tryz.prog W 0 (fun _ => true) true f 48 cs = some x) : ∃ d : GDo, cs = d.enc ∧ d.is (Rw W) := by
  obtain ⟨hl, hp⟩ := parts_of Tryz.underlying48 h
  have hc : Tryz.prog.cellsOf 48 = 17 := by kernel_rfl
  rw [hc] at hl
  have c2 : Tryz.prog.cellsOf 2 = 1 := by kernel_rfl
  have c3 : Tryz.prog.cellsOf 3 = 1 := by kernel_rfl
  have c9 : Tryz.prog.cellsOf 9 = 1 := by kernel_rfl
  have c26 : Tryz.prog.cellsOf 26 = 1 := by kernel_rfl
  have c35 : Tryz.prog.cellsOf 35 = 9 := by kernel_rfl
  match cs, hl with
  | [a0, a1, a2, a3, a4, a5, a6, a7, a8, a9, a10, a11, a12, a13, a14, a15, a16], _ =>
    obtain ⟨n0, y0, h0⟩ : ∃ n y, DataW.trod enc Tryz.prog W 0 (fun _ => true) true n 3 (([a0, a1, a2, a3, a4, a5, a6, a7, a8, a9, a10, a11, a12, a13, a14, a15, a16].drop 0).take (Tryz.prog.cellsOf 3)) = some y := hp 0 _ rfl
    obtain ⟨n1, y1, h1⟩ : ∃ n y, DataW.trod enc Tryz.prog W 0 (fun _ => true) true n 9 (([a0, a1, a2, a3, a4, a5, a6, a7, a8, a9, a10, a11, a12, a13, a14, a15, a16].drop 1).take (Tryz.prog.cellsOf 9)) = some y := hp 1 _ rfl
    obtain ⟨n2, y2, h2⟩ : ∃ n y, DataW.trod enc Tryz.prog W 0 (fun _ => true) true n 9 (([a0, a1, a2, a3, a4, a5, a6, a7, a8, a9, a10, a11, a12, a13, a14, a15, a16].drop 2).take (Tryz.prog.cellsOf 9)) = some y := hp 2 _ rfl
    obtain ⟨n3, y3, h3⟩ : ∃ n y, DataW.trod enc Tryz.prog W 0 (fun _ => true) true n 26 (([a0, a1, a2, a3, a4, a5, a6, a7, a8, a9, a10, a11, a12, a13, a14, a15, a16].drop 3).take (Tryz.prog.cellsOf 26)) = some y := hp 3 _ rfl
    obtain ⟨n4, y4, h4⟩ : ∃ n y, DataW.trod enc Tryz.prog W 0 (fun _ => true) true n 35 (([a0, a1, a2, a3, a4, a5, a6, a7, a8, a9, a10, a11, a12, a13, a14, a15, a16].drop 4).take (Tryz.prog.cellsOf 35)) = some y := hp 4 _ rfl
    obtain ⟨n5, y5, h5⟩ : ∃ n y, DataW.trod enc Tryz.prog W 0 (fun _ => true) true n 9 (([a0, a1, a2, a3, a4, a5, a6, a7, a8, a9, a10, a11, a12, a13, a14, a15, a16].drop 13).take (Tryz.prog.cellsOf 9)) = some y := hp 5 _ rfl
    obtain ⟨n6, y6, h6⟩ : ∃ n y, DataW.trod enc Tryz.prog W 0 (fun _ => true) true n 9 (([a0, a1, a2, a3, a4, a5, a6, a7, a8, a9, a10, a11, a12, a13, a14, a15, a16].drop 14).take (Tryz.prog.cellsOf 9)) = some y := hp 6 _ rfl
    obtain ⟨n7, y7, h7⟩ : ∃ n y, DataW.trod enc Tryz.prog W 0 (fun _ => true) true n 9 (([a0, a1, a2, a3, a4, a5, a6, a7, a8, a9, a10, a11, a12, a13, a14, a15, a16].drop 15).take (Tryz.prog.cellsOf 9)) = some y := hp 7 _ rfl
    obtain ⟨n8, y8, h8⟩ : ∃ n y, DataW.trod enc Tryz.prog W 0 (fun _ => true) true n 2 (([a0, a1, a2, a3, a4, a5, a6, a7, a8, a9, a10, a11, a12, a13, a14, a15, a16].drop 16).take (Tryz.prog.cellsOf 2)) = some y := hp 8 _ rfl
    simp only [c2, c3, c9, c26, c35, List.drop_zero, List.drop_succ_cons, List.take_succ_cons, List.take_zero] at h0 h1 h2 h3 h4 h5 h6 h7 h8
    obtain ⟨z0, e0⟩ := int_of (k := .i64) h0
    obtain ⟨s1, e1⟩ := str_of h1
    obtain ⟨s2, e2⟩ := str_of h2
    obtain ⟨v3, l3, e3, r3⟩ := strs_of h3
    obtain ⟨p4, e4, r4⟩ := gcod_of h4
    obtain ⟨s5, e5⟩ := str_of h5
    obtain ⟨s6, e6⟩ := str_of h6
    obtain ⟨s7, e7, q7⟩ := str_fit h7
    obtain ⟨z8, e8⟩ := int_of (k := .i64) h8
    cases e0; cases e1; cases e2; cases e3; cases e5; cases e6; cases e7; cases e8
    obtain ⟨w4, t4⟩ := p4
    simp only [encG, List.cons.injEq, and_true] at e4
    obtain ⟨rfl, rfl, rfl, rfl, rfl, rfl, rfl, rfl, rfl⟩ := e4
    exact ⟨⟨z0, s1, s2, _, l3, (_, t4), s5, s6, s7, z8⟩, rfl, r3, r4, q7⟩
end Go.Proofs.YtpmhgpjcladbkaaGreatDoor
set_option linter.unusedVariables false
set_option maxRecDepth 4000
namespace Go.Proofs.YtpmhgpjcladbkaaGreatDoor
def DeadG (R : Rds) (p : Value) : Prop := p = .pointer none ∨ ∃ q, p = .pointer (some ⟨q, 0, none⟩) ∧ R q (.cells [.map none, .map none, .pointer none].toArray 53 (0, 0))
theorem DeadG.rx {R : Rds} {H : Segs} {p : Value} (h : DeadG R p) : DeadG (Rx R H) p := h.imp id fun ⟨q, h1, h2⟩ => ⟨q, h1, .inl h2⟩
theorem gdok_nil (R : Rds) : Spec Tryz.prog 58 [.pointer none] R [] fun v H' => v = .bool false ∧ H' = [] := by
  refine Spec.body Tryz.func58 rfl Tryz.results58 Tryz.ntmps58 rfl ?_
  refine .seq (.region ?_)
  refine .q .assign ?_
  refine .nil (seqQ_n ?_)
  refine .seq (.region ?_)
  refine .q .move ?_
  refine .q (.neNilA rfl rfl) ?_
  refine .q .move ?_
  refine TriOps.gf rfl rfl ?_
  refine TriOps.gf rfl rfl ?_
  refine TriOps.gf rfl rfl ?_
  refine TriOps.gf rfl rfl ?_
  refine TriOps.gf rfl rfl ?_
  refine .q .pickF ?_
  refine .q .assign ?_
  refine .nil (seqQ_n ?_)
  refine .ret (retQ_r _ (.one (.tmp rfl)) (.none _) ?_)
  · exact ⟨rfl, rfl⟩
theorem gdok_zero (q : Nat) (R : Rds) [pc : PC R (.pointer (some ⟨q, 0, none⟩)) [.map none, .map none, .pointer none]] : Spec Tryz.prog 58 [.pointer (some ⟨q, 0, none⟩)] R [] fun v H' => v = .bool false ∧ H' = [] := by
  refine Spec.body Tryz.func58 rfl Tryz.results58 Tryz.ntmps58 rfl ?_
  refine .seq (.region ?_)
  refine .q .assign ?_
  refine .nil (seqQ_n ?_)
  refine .seq (.region ?_)
  refine .q .move ?_
  refine .q (.neNilP rfl rfl) ?_
  refine .q .move ?_
  refine TriOps.gt rfl ?_
  refine .q .move ?_
  refine TriOps.gt rfl ?_
  refine .q (.nilCheck rfl) ?_
  refine TriOps.gt rfl ?_
  refine .q (.fieldAddr rfl) ?_
  refine TriOps.gt rfl ?_
  refine .q (.load1 rfl) ?_
  refine TriOps.gt rfl ?_
  refine .q (.neNilM rfl rfl) ?_
  refine .q .pickT ?_
  refine .q .assign ?_
  refine .nil (seqQ_n ?_)
  refine .ret (retQ_r _ (.one (.tmp rfl)) (.none _) ?_)
  · exact ⟨rfl, rfl⟩
theorem gdok_spec (p : Value) (R : Rds) (h : DeadG R p) : Spec Tryz.prog 58 [p] R [] fun v H' => v = .bool false ∧ H' = [] := by
  rcases h with rfl | ⟨q, rfl, hq⟩
  · exact gdok_nil R
  · have pc := PC.of hq
    exact gdok_zero q R
theorem gdConsent_spec (p : Value) (user client : ByteArray) (vs : Value) (R : Rds) (h : DeadG R p) : Spec Tryz.prog 19 [p, .string user, .string client, vs] R [] fun v H' => v = .tuple #[] ∧ H' = [] := by
  refine Spec.body Tryz.func19 rfl Tryz.results19 Tryz.ntmps19 rfl ?_
  refine .seq ?_
  refine .seq (.region ?_)
  refine .q .move ?_
  refine TriOps.callR (gdok_spec p _ h.rx) (fun v hv => ?_)
  subst hv
  refine .q .not ?_
  refine .nil (seqQ_n ?_)
  refine .condT ?_
  refine .ret (seqQ_r (retQ_r _ .none (.none _) ?_))
  · exact ⟨rfl, rfl⟩
theorem gdSweep_spec (p : Value) (now : Int) (R : Rds) (h : DeadG R p) : Spec Tryz.prog 20 [p, .int .i64 now] R [] fun v H' => v = .tuple #[] ∧ H' = [] := by
  refine Spec.body Tryz.func20 rfl Tryz.results20 Tryz.ntmps20 rfl ?_
  refine .seq ?_
  refine .seq (.region ?_)
  refine .q .move ?_
  refine TriOps.callR (gdok_spec p _ h.rx) (fun v hv => ?_)
  subst hv
  refine .q .not ?_
  refine .nil (seqQ_n ?_)
  refine .condT ?_
  refine .ret (seqQ_r (retQ_r _ .none (.none _) ?_))
  · exact ⟨rfl, rfl⟩
theorem gdDrop_spec (p : Value) (client user : ByteArray) (R : Rds) (h : DeadG R p) : Spec Tryz.prog 21 [p, .string client, .string user] R [] fun v H' => v = .tuple #[] ∧ H' = [] := by
  refine Spec.body Tryz.func21 rfl Tryz.results21 Tryz.ntmps21 rfl ?_
  refine .seq (.region ?_)
  refine TriOps.box1 rfl (fun b4 => ?_)
  refine TriOps.box1 rfl (fun b5 => ?_)
  refine .nil (seqQ_n ?_)
  refine .seq ?_
  refine .seq (.region ?_)
  refine .q .move ?_
  refine TriOps.callR (gdok_spec p _ h.rx) (fun v hv => ?_)
  subst hv
  refine .q .not ?_
  refine .nil (seqQ_n ?_)
  refine .condT ?_
  refine .ret (seqQ_r (retQ_r _ .none (.none _) ?_))
  · exact ⟨rfl, rfl⟩
theorem gdRedeem_spec (p : Value) (k client uri ver : ByteArray) (now : Int) (R : Rds) (h : DeadG R p) : Spec Tryz.prog 22 [p, .string k, .string client, .string uri, .string ver, .int .i64 now] R [] fun v H' => v = .tuple [.agg (encG gz).toArray, .int .i64 1].toArray ∧ H' = [] := by
  refine Spec.body Tryz.func22 rfl Tryz.results22 Tryz.ntmps22 rfl ?_
  refine .seq (.region ?_)
  refine TriOps.allocA (fun b12 => ?_)
  refine .q .assign ?_
  refine .nil (seqQ_n ?_)
  refine .seq ?_
  refine .seq (.region ?_)
  refine .q .move ?_
  refine TriOps.callR (gdok_spec p _ h.rx) (fun v hv => ?_)
  subst hv
  refine .q .not ?_
  refine .nil (seqQ_n ?_)
  refine .condT ?_
  refine .seq (.region ?_)
  refine .q .bld ?_
  refine TriOps.storeA rfl rfl ?_
  refine .q .assign ?_
  refine .nil (seqQ_n ?_)
  refine .ret (seqQ_r (retQ_r _ (.two (.cellA rfl rfl) (.tmp rfl)) (.none _) ?_))
  · exact ⟨rfl, rfl⟩
theorem gdIssue_spec (p : Value) (w : Value) (t : Cod) (hw : One w) (R : Rds) (h : DeadG R p) : Spec Tryz.prog 25 [p, .agg (encG (w, t)).toArray] R [] fun v H' => v = .int .i64 1 ∧ H' = [] := by
  have io := encG_ones (t := t) hw
  refine Spec.body Tryz.func25 rfl Tryz.results25 Tryz.ntmps25 rfl ?_
  refine .seq (.region ?_)
  refine TriOps.boxA rfl (fun b3 => ?_)
  refine .q .assign ?_
  refine .nil (seqQ_n ?_)
  refine .seq ?_
  refine .seq (.region ?_)
  refine .q .move ?_
  refine TriOps.callR (gdok_spec p _ h.rx) (fun v hv => ?_)
  subst hv
  refine .q .not ?_
  refine .nil (seqQ_n ?_)
  refine .condT ?_
  refine .seq (.region ?_)
  refine .q .assign ?_
  refine .nil (seqQ_n ?_)
  refine .ret (seqQ_r (retQ_r _ (.one (.tmp rfl)) (.none _) ?_))
  · exact ⟨rfl, rfl⟩
theorem gdWithdraw_spec (p : Value) (user client : ByteArray) (R : Rds) (h : DeadG R p) : Spec Tryz.prog 26 [p, .string user, .string client] R [] fun v H' => v = .bool false ∧ H' = [] := by
  refine Spec.body Tryz.func26 rfl Tryz.results26 Tryz.ntmps26 rfl ?_
  refine .seq (.region ?_)
  refine .q .assign ?_
  refine .nil (seqQ_n ?_)
  refine .seq ?_
  refine .seq (.region ?_)
  refine .q .move ?_
  refine TriOps.callR (gdok_spec p _ h.rx) (fun v hv => ?_)
  subst hv
  refine .q .not ?_
  refine .nil (seqQ_n ?_)
  refine .condT ?_
  refine .seq (.region ?_)
  refine .q .assign ?_
  refine .nil (seqQ_n ?_)
  refine .ret (seqQ_r (retQ_r _ (.one (.tmp rfl)) (.none _) ?_))
  · exact ⟨rfl, rfl⟩
theorem gdScopes_spec (p : Value) (user client : ByteArray) (R : Rds) (h : DeadG R p) : Spec Tryz.prog 27 [p, .string user, .string client] R [] fun v H' => v = .slice none 0 0 ∧ H' = [] := by
  refine Spec.body Tryz.func27 rfl Tryz.results27 Tryz.ntmps27 rfl ?_
  refine .seq (.region ?_)
  refine .q .assign ?_
  refine .nil (seqQ_n ?_)
  refine .seq ?_
  refine .seq (.region ?_)
  refine .q .move ?_
  refine TriOps.callR (gdok_spec p _ h.rx) (fun v hv => ?_)
  subst hv
  refine .q .not ?_
  refine .nil (seqQ_n ?_)
  refine .condT ?_
  refine .seq (.region ?_)
  refine .q .assign ?_
  refine .nil (seqQ_n ?_)
  refine .ret (seqQ_r (retQ_r _ (.one (.tmp rfl)) (.none _) ?_))
  · exact ⟨rfl, rfl⟩
theorem gdConsents_spec (p : Value) (R : Rds) (h : DeadG R p) : Spec Tryz.prog 28 [p] R [] fun v H' => v = .slice none 0 0 ∧ H' = [] := by
  refine Spec.body Tryz.func28 rfl Tryz.results28 Tryz.ntmps28 rfl ?_
  refine .seq (.region ?_)
  refine .q .assign ?_
  refine .nil (seqQ_n ?_)
  refine .seq ?_
  refine .seq (.region ?_)
  refine .q .move ?_
  refine TriOps.callR (gdok_spec p _ h.rx) (fun v hv => ?_)
  subst hv
  refine .q .not ?_
  refine .nil (seqQ_n ?_)
  refine .condT ?_
  refine .seq (.region ?_)
  refine .q .assign ?_
  refine .nil (seqQ_n ?_)
  refine .ret (seqQ_r (retQ_r _ (.one (.tmp rfl)) (.none _) ?_))
  · exact ⟨rfl, rfl⟩
theorem gdCodes_spec (p : Value) (R : Rds) (h : DeadG R p) : Spec Tryz.prog 29 [p] R [] fun v H' => v = .slice none 0 0 ∧ H' = [] := by
  refine Spec.body Tryz.func29 rfl Tryz.results29 Tryz.ntmps29 rfl ?_
  refine .seq (.region ?_)
  refine .q .assign ?_
  refine .nil (seqQ_n ?_)
  refine .seq ?_
  refine .seq (.region ?_)
  refine .q .move ?_
  refine TriOps.callR (gdok_spec p _ h.rx) (fun v hv => ?_)
  subst hv
  refine .q .not ?_
  refine .nil (seqQ_n ?_)
  refine .condT ?_
  refine .seq (.region ?_)
  refine .q .assign ?_
  refine .nil (seqQ_n ?_)
  refine .ret (seqQ_r (retQ_r _ (.one (.tmp rfl)) (.none _) ?_))
  · exact ⟨rfl, rfl⟩
theorem gnobody_spec (d : GDo) (R : Rds) (hd0 : d.is R) (hg : PC R (.pointer (some ⟨1, 0, none⟩)) (wv ks)) : Spec Tryz.prog 4 [.agg d.enc.toArray] R [] fun v H' => v = .bool true ∧ H' = [] := by
  obtain ⟨hds, hdc, hdv⟩ := hd0
  have i0 : Ones d.enc := ⟨GDo.ones ⟨hds, hdc, hdv⟩⟩
  have it : Ones (encG d.code) := ⟨hdc.ones⟩
  have i1 : Ones (encG gz) := ⟨(CodR.zero (fun _ _ => False)).ones⟩
  have is := hds.oneCell
  refine Spec.body Tryz.func4 rfl Tryz.results4 Tryz.ntmps4 rfl ?_
  refine .seq (.region ?_)
  refine TriOps.boxA rfl (fun b1 => ?_)
  refine .q .assign ?_
  refine .nil (seqQ_n ?_)
  refine .seq ?_
  refine .seq (.region ?_)
  refine .q .assign ?_
  refine .nil (seqQ_n ?_)
  refine .block ?_
  refine .loop (X := Nat) (fun k => k ≤ 2) (fun k => [(1, .pointer (some ⟨b1, 0, none⟩)), (3, .int .i64 (k : Nat))]) (fun _ => [[(b1, .cells d.enc.toArray 48 (0, 0))]]) (fun k => 2 - k) 0 (by omega) (((EnvLe.nil _).cons rfl).cons rfl) (HLe.refl _) ?_
  intro k hk
  refine .seq ?_
  refine .seq (.region ?_)
  refine .q .move ?_
  refine .q .lss ?_
  refine .nil (seqQ_n ?_)
  refine .cond rfl (fun h1 => ?_) (fun h1 => ?_)
  refine .skip ?_
  refine seqQ_n ?_
  refine .seq ?_
  refine .block ?_
  refine .seq (.region ?_)
  refine .q .assign ?_
  refine .nil (seqQ_n ?_)
  refine .seq ?_
  refine Tri.cut (X := Value × Seg) (fun y => One y.1 ∧ (y.1 = .pointer none ∨ ∃ q, y.1 = .pointer (some ⟨q, 0, none⟩) ∧ (q, .cells [.map none, .map none, .pointer none].toArray 53 (0, 0)) ∈ y.2)) (fun y => [(1, .pointer (some ⟨b1, 0, none⟩)), (3, .int .i64 (k : Nat)), (4, y.1)]) (fun y => [y.2, [(b1, .cells d.enc.toArray 48 (0, 0))]]) ?_ ?_
  refine .seq (.region ?_)
  refine .q .move ?_
  refine .q .eqI ?_
  refine .nil (seqQ_n ?_)
  refine .cond rfl (fun h2 => ?_) (fun h2 => ?_)
  refine .region ?_
  refine .q .bld ?_
  refine TriOps.boxA rfl (fun b14 => ?_)
  refine .q .assign ?_
  refine .nil ?_
  · first
      | exact joinQ_n (.pointer (some ⟨b14, 0, none⟩), [(b14, .cells [.map none, .map none, .pointer none].toArray 53 (0, 0))]) ⟨⟨rfl⟩, .inr ⟨b14, rfl, by simp⟩⟩ ((((EnvLe.nil _).cons rfl).cons rfl).cons rfl) (HLe.refl _)
      | exact joinQ_n (.pointer none, []) ⟨⟨rfl⟩, .inl rfl⟩ ((((EnvLe.nil _).cons rfl).cons rfl).cons rfl) (HLe.ofPerm (by simp))
  refine .skip ?_
  · first
      | exact joinQ_n (.pointer (some ⟨b14, 0, none⟩), [(b14, .cells [.map none, .map none, .pointer none].toArray 53 (0, 0))]) ⟨⟨rfl⟩, .inr ⟨b14, rfl, by simp⟩⟩ ((((EnvLe.nil _).cons rfl).cons rfl).cons rfl) (HLe.refl _)
      | exact joinQ_n (.pointer none, []) ⟨⟨rfl⟩, .inl rfl⟩ ((((EnvLe.nil _).cons rfl).cons rfl).cons rfl) (HLe.ofPerm (by simp))
  intro y hy
  obtain ⟨p, T⟩ := y
  obtain ⟨i2, hp⟩ := hy
  simp only at i2 hp ⊢
  have hd : ∀ (R' : Rds) (H' : Segs), T ∈ H' → DeadG (Rx R' H') p := fun R' H' hT => hp.imp id fun ⟨q, h1, h2⟩ => ⟨q, h1, .inr (List.mem_flatten.2 ⟨T, hT, h2⟩)⟩
  refine seqQ_n ?_
  refine .seq (.region ?_)
  refine .q .move ?_
  refine .q (.fieldAddr rfl) ?_
  refine .q (.load1 rfl) ?_
  refine .q (.fieldAddr rfl) ?_
  refine .q (.load1 rfl) ?_
  refine .q (.fieldAddr rfl) ?_
  refine .q (.load1 rfl) ?_
  refine TriOps.callR (gdConsent_spec p d.user d.client d.vs _ (hd _ _ (by simp))) (fun v hv => ?_)
  refine .nil (seqQ_n ?_)
  refine .seq (.region ?_)
  refine .q .move ?_
  refine .q (.fieldAddr rfl) ?_
  refine .q (.load1 rfl) ?_
  refine TriOps.callR (gdSweep_spec p d.now _ (hd _ _ (by simp))) (fun v hv => ?_)
  refine .nil (seqQ_n ?_)
  refine .seq (.region ?_)
  refine .q .move ?_
  refine .q (.fieldAddr rfl) ?_
  refine .q (.load1 rfl) ?_
  refine .q (.fieldAddr rfl) ?_
  refine .q (.load1 rfl) ?_
  refine TriOps.callR (gdDrop_spec p d.client d.user _ (hd _ _ (by simp))) (fun v hv => ?_)
  refine .nil (seqQ_n ?_)
  refine .seq (.region ?_)
  refine .q .move ?_
  refine .q (.fieldAddr rfl) ?_
  refine .q (.load1 rfl) ?_
  refine .q (.fieldAddr rfl) ?_
  refine .q (.load1 rfl) ?_
  refine .q (.fieldAddr rfl) ?_
  refine .q (.load1 rfl) ?_
  refine .q (.fieldAddr rfl) ?_
  refine .q (.load1 rfl) ?_
  refine .q (.fieldAddr rfl) ?_
  refine .q (.load1 rfl) ?_
  refine TriOps.callR (gdRedeem_spec p d.text d.client d.uri d.ver d.now _ (hd _ _ (by simp))) (fun v hv => ?_)
  subst hv
  refine .q .move ?_
  refine .q .extract ?_
  refine .q .extract ?_
  refine TriOps.allocA (fun b5 => ?_)
  refine TriOps.storeA rfl rfl ?_
  refine .q .assign ?_
  refine .nil (seqQ_n ?_)
  refine .seq (.region ?_)
  refine .q .move ?_
  refine .q .neI ?_
  refine .q .move ?_
  refine TriOps.split (t := 50) rfl (fun g11_2 => ?_) (fun g11_2 => ?_)
  · simp at g11_2
  refine TriOps.gT g11_2 ?_
  refine .q (.loadA rfl) ?_
  refine TriOps.gT g11_2 ?_
  refine TriOps.callR (gplain_spec _ Cod.zero _ (CodR.zero (fun _ _ => False))) (fun v hv => ?_)
  subst hv
  refine TriOps.gT g11_2 ?_
  refine .q .bld ?_
  refine TriOps.gT g11_2 ?_
  refine TriOps.callR (sameG_spec _ _ Cod.zero Cod.zero _ (CodR.zero _) (CodR.zero _)) (fun v hv => ?_)
  rw [sameG_self] at hv
  subst hv
  refine TriOps.gT g11_2 ?_
  refine .q .not ?_
  refine .q (.pickFh g11_2) ?_
  refine .q .move ?_
  refine TriOps.split (t := 57) rfl (fun g11_9 => ?_) (fun g11_9 => ?_)
  · simp at g11_9
  refine TriOps.gT g11_9 ?_
  refine .q .move ?_
  refine TriOps.gT g11_9 ?_
  refine .q (.fieldAddr rfl) ?_
  refine TriOps.gT g11_9 ?_
  refine .q (.loadT rfl) ?_
  refine TriOps.gT g11_9 ?_
  refine TriOps.callN (gmine_spec d.code.1 d.code.2 _ (hdc.mono fun b o hb => .inl hb)) (fun v T1 hv => ?_)
  obtain ⟨w1, rfl, hc1⟩ := hv
  refine TriOps.gT g11_9 ?_
  refine TriOps.callR (gdIssue_spec p w1 d.code.2.short hc1.oneCell _ (hd _ _ (by simp))) (fun v hv => ?_)
  subst hv
  refine TriOps.gT g11_9 ?_
  refine .q .neI ?_
  refine .q (.pickFh g11_9) ?_
  refine .q .move ?_
  refine TriOps.split (t := 65) rfl (fun g11_17 => ?_) (fun g11_17 => ?_)
  · simp at g11_17
  refine TriOps.gT g11_17 ?_
  refine .q .move ?_
  refine TriOps.gT g11_17 ?_
  refine .q (.fieldAddr rfl) ?_
  refine TriOps.gT g11_17 ?_
  refine .q (.load1 rfl) ?_
  refine TriOps.gT g11_17 ?_
  refine .q (.fieldAddr rfl) ?_
  refine TriOps.gT g11_17 ?_
  refine .q (.load1 rfl) ?_
  refine TriOps.gT g11_17 ?_
  refine TriOps.callR (gdWithdraw_spec p d.user d.client _ (hd _ _ (by simp))) (fun v hv => ?_)
  subst hv
  refine .q (.pickFh g11_17) ?_
  refine .q .move ?_
  refine TriOps.split (t := 73) rfl (fun g11_25 => ?_) (fun g11_25 => ?_)
  · simp at g11_25
  refine TriOps.gT g11_25 ?_
  refine .q .move ?_
  refine TriOps.gT g11_25 ?_
  refine .q (.fieldAddr rfl) ?_
  refine TriOps.gT g11_25 ?_
  refine .q (.load1 rfl) ?_
  refine TriOps.gT g11_25 ?_
  refine .q (.fieldAddr rfl) ?_
  refine TriOps.gT g11_25 ?_
  refine .q (.load1 rfl) ?_
  refine TriOps.gT g11_25 ?_
  refine TriOps.callR (gdScopes_spec p d.user d.client _ (hd _ _ (by simp))) (fun v hv => ?_)
  subst hv
  refine TriOps.gT g11_25 ?_
  refine .q (.lenV rfl) ?_
  refine TriOps.gT g11_25 ?_
  refine .q .move ?_
  refine TriOps.gT g11_25 ?_
  refine TriOps.callR (gdConsents_spec p _ (hd _ _ (by simp))) (fun v hv => ?_)
  subst hv
  refine TriOps.gT g11_25 ?_
  refine .q (.lenV rfl) ?_
  refine TriOps.gT g11_25 ?_
  refine .q (.i64 0 .add ⟨by omega, by omega, by omega⟩) ?_
  refine TriOps.gT g11_25 ?_
  refine .q .move ?_
  refine TriOps.gT g11_25 ?_
  refine TriOps.callR (gdCodes_spec p _ (hd _ _ (by simp))) (fun v hv => ?_)
  subst hv
  refine TriOps.gT g11_25 ?_
  refine .q (.lenV rfl) ?_
  refine TriOps.gT g11_25 ?_
  refine .q (.i64 0 .add ⟨by omega, by omega, by omega⟩) ?_
  refine TriOps.gT g11_25 ?_
  refine .q .gtr ?_
  refine .q (.pickFh g11_25) ?_
  refine .nil (seqQ_n ?_)
  refine .cond rfl (fun h3 => ?_) (fun h3 => ?_)
  · simp at h3
  refine .skip ?_
  refine blkQ_n (seqQ_n ?_)
  refine .region ?_
  refine .q .move ?_
  refine .q (.inc (n := k) (by omega)) ?_
  refine .q .assign ?_
  refine .nil ?_
  · exact loopQ_i (k + 1) (by simp at h1; omega) (by simp at h1; omega) (((EnvLe.nil _).cons rfl).cons rfl) (HLe.pick [3] _)
  refine .exit (seqQ_x (loopQ_x (blkQ_x ?_)))
  refine seqQ_n ?_
  refine .seq (.region ?_)
  refine TriOps.callR (glives_spec _ hg.rx) (fun v3 hv => ?_)
  subst hv
  refine .q .assign ?_
  refine .nil (seqQ_n ?_)
  refine .ret (retQ_r _ (.one (.tmp rfl)) (.none _) ?_)
  · exact ⟨rfl, rfl⟩
end Go.Proofs.YtpmhgpjcladbkaaGreatDoor

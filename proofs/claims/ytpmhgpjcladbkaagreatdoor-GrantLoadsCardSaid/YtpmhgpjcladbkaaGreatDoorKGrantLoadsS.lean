/- What the law 'GrantLoads' uses of this prover's engine, facts and walks. No condition. -/
import Derived.Test.YtpmhgpjcladbkaaGreatDoorKGrantLoadsH
import Derived.Test.YtpmhgpjcladbkaaGreatDoorKGrantLoadsP
import Derived.Test.YtpmhgpjcladbkaaGreatDoorKGrantLoadsR
set_option linter.unusedVariables false
set_option maxRecDepth 4000
namespace Go.Proofs.YtpmhgpjcladbkaaGreatDoor
def sameG (t u : Cod) : Bool := decide (t.text = u.text) && decide (t.client = u.client) && decide (t.user = u.user) && decide (t.uri = u.uri) && decide (t.scopes = u.scopes) && decide (t.chall = u.chall) && (t.expires == u.expires) && (t.family == u.family) && (t.used == u.used)
theorem sameG_iff {t u : Cod} : sameG t u = true ↔ t = u := by
  obtain ⟨a1, a2, a3, a4, a5, a6, a7, a8, a9⟩ := t
  obtain ⟨b1, b2, b3, b4, b5, b6, b7, b8, b9⟩ := u
  simp [sameG, and_assoc]
theorem sameG_self (t : Cod) : sameG t t = true := sameG_iff.2 rfl
theorem sameG_spec (w w' : Value) (t u : Cod) (R : Rds) (h : CodR R (w, t)) (h' : CodR R (w', u)) : Spec Tryz.prog 23 [.agg (encG (w, t)).toArray, .agg (encG (w', u)).toArray] R [] fun v H' => v = .bool (sameG t u) ∧ H' = [] := by
  have i1 : Ones (encG (w, t)) := ⟨h.ones⟩
  have i2 : Ones (encG (w', u)) := ⟨h'.ones⟩
  have hs : RS R 1 encS w t.scopes := h
  have hs' : RS R 1 encS w' u.scopes := h'
  have j1 := hs.oneCell
  have j2 := hs'.oneCell
  obtain ⟨a1, a2, a3, a4, a5, a6, a7, a8, a9⟩ := t
  obtain ⟨b1, b2, b3, b4, b5, b6, b7, b8, b9⟩ := u
  simp only at hs hs'
  refine Spec.body Tryz.func23 rfl Tryz.results23 Tryz.ntmps23 rfl ?_
  refine .seq (.region ?_)
  refine TriOps.boxA rfl (fun b2 => ?_)
  refine TriOps.boxA rfl (fun b3 => ?_)
  refine .q .assign ?_
  refine .nil (seqQ_n ?_)
  refine .seq (.region ?_)
  refine .q (.fieldAddr rfl) ?_
  refine .q (.load1 rfl) ?_
  refine .q (.fieldAddr rfl) ?_
  refine .q (.load1 rfl) ?_
  refine .q .eqS ?_
  refine .q .move ?_
  refine TriOps.split (t := 10) rfl (fun g1_5 => ?_) (fun g1_5 => ?_)
  refine TriOps.gT g1_5 ?_
  refine .q (.fieldAddr rfl) ?_
  refine TriOps.gT g1_5 ?_
  refine .q (.load1 rfl) ?_
  refine TriOps.gT g1_5 ?_
  refine .q (.fieldAddr rfl) ?_
  refine TriOps.gT g1_5 ?_
  refine .q (.load1 rfl) ?_
  refine TriOps.gT g1_5 ?_
  refine .q .eqS ?_
  refine .q (.pickTh g1_5) ?_
  refine .q .move ?_
  refine TriOps.split (t := 17) rfl (fun g1_12 => ?_) (fun g1_12 => ?_)
  refine TriOps.gT g1_12 ?_
  refine .q (.fieldAddr rfl) ?_
  refine TriOps.gT g1_12 ?_
  refine .q (.load1 rfl) ?_
  refine TriOps.gT g1_12 ?_
  refine .q (.fieldAddr rfl) ?_
  refine TriOps.gT g1_12 ?_
  refine .q (.load1 rfl) ?_
  refine TriOps.gT g1_12 ?_
  refine .q .eqS ?_
  refine .q (.pickTh g1_12) ?_
  refine .q .move ?_
  refine TriOps.split (t := 24) rfl (fun g1_19 => ?_) (fun g1_19 => ?_)
  refine TriOps.gT g1_19 ?_
  refine .q (.fieldAddr rfl) ?_
  refine TriOps.gT g1_19 ?_
  refine .q (.load1 rfl) ?_
  refine TriOps.gT g1_19 ?_
  refine .q (.fieldAddr rfl) ?_
  refine TriOps.gT g1_19 ?_
  refine .q (.load1 rfl) ?_
  refine TriOps.gT g1_19 ?_
  refine .q .eqS ?_
  refine .q (.pickTh g1_19) ?_
  refine .q .move ?_
  refine TriOps.split (t := 31) rfl (fun g1_26 => ?_) (fun g1_26 => ?_)
  refine TriOps.gT g1_26 ?_
  refine .q (.fieldAddr rfl) ?_
  refine TriOps.gT g1_26 ?_
  refine .q (.load1 rfl) ?_
  refine TriOps.gT g1_26 ?_
  refine .q (.fieldAddr rfl) ?_
  refine TriOps.gT g1_26 ?_
  refine .q (.load1 rfl) ?_
  refine TriOps.gT g1_26 ?_
  refine TriOps.callR (sameTexts_spec w w' a5 b5 _ hs.rx hs'.rx) (fun v hv => ?_)
  subst hv
  refine .q (.pickTh g1_26) ?_
  refine .q .move ?_
  refine TriOps.split (t := 38) rfl (fun g1_33 => ?_) (fun g1_33 => ?_)
  refine TriOps.gT g1_33 ?_
  refine .q (.fieldAddr rfl) ?_
  refine TriOps.gT g1_33 ?_
  refine .q (.load1 rfl) ?_
  refine TriOps.gT g1_33 ?_
  refine .q (.fieldAddr rfl) ?_
  refine TriOps.gT g1_33 ?_
  refine .q (.load1 rfl) ?_
  refine TriOps.gT g1_33 ?_
  refine .q .eqS ?_
  refine .q (.pickTh g1_33) ?_
  refine .q .move ?_
  refine TriOps.split (t := 45) rfl (fun g1_40 => ?_) (fun g1_40 => ?_)
  refine TriOps.gT g1_40 ?_
  refine .q (.fieldAddr rfl) ?_
  refine TriOps.gT g1_40 ?_
  refine .q (.load1 rfl) ?_
  refine TriOps.gT g1_40 ?_
  refine .q (.fieldAddr rfl) ?_
  refine TriOps.gT g1_40 ?_
  refine .q (.load1 rfl) ?_
  refine TriOps.gT g1_40 ?_
  refine .q .eqI ?_
  refine .q (.pickTh g1_40) ?_
  refine .q .move ?_
  refine TriOps.split (t := 52) rfl (fun g1_47 => ?_) (fun g1_47 => ?_)
  refine TriOps.gT g1_47 ?_
  refine .q (.fieldAddr rfl) ?_
  refine TriOps.gT g1_47 ?_
  refine .q (.load1 rfl) ?_
  refine TriOps.gT g1_47 ?_
  refine .q (.fieldAddr rfl) ?_
  refine TriOps.gT g1_47 ?_
  refine .q (.load1 rfl) ?_
  refine TriOps.gT g1_47 ?_
  refine .q .eqI ?_
  refine .q (.pickTh g1_47) ?_
  refine .q .move ?_
  refine TriOps.split (t := 59) rfl (fun g1_54 => ?_) (fun g1_54 => ?_)
  refine TriOps.gT g1_54 ?_
  refine .q (.fieldAddr rfl) ?_
  refine TriOps.gT g1_54 ?_
  refine .q (.load1 rfl) ?_
  refine TriOps.gT g1_54 ?_
  refine .q (.fieldAddr rfl) ?_
  refine TriOps.gT g1_54 ?_
  refine .q (.load1 rfl) ?_
  refine TriOps.gT g1_54 ?_
  refine .q .eqB ?_
  refine .q (.pickTh g1_54) ?_
  refine .q .assign ?_
  refine .nil (seqQ_n ?_)
  refine .ret (retQ_r _ (.one (.tmp rfl)) (.none _) ?_)
  · refine ⟨congrArg _ ?_, rfl⟩
    simp_all [sameG]
  refine TriOps.gF g1_54 ?_
  refine TriOps.gF g1_54 ?_
  refine TriOps.gF g1_54 ?_
  refine TriOps.gF g1_54 ?_
  refine TriOps.gF g1_54 ?_
  refine .q (.pickFh g1_54) ?_
  refine .q .assign ?_
  refine .nil (seqQ_n ?_)
  refine .ret (retQ_r _ (.one (.tmp rfl)) (.none _) ?_)
  · refine ⟨congrArg _ ?_, rfl⟩
    simp_all [sameG]
  refine TriOps.gF g1_47 ?_
  refine TriOps.gF g1_47 ?_
  refine TriOps.gF g1_47 ?_
  refine TriOps.gF g1_47 ?_
  refine TriOps.gF g1_47 ?_
  refine .q (.pickFh g1_47) ?_
  refine .q .move ?_
  refine TriOps.gf rfl rfl ?_
  refine TriOps.gf rfl rfl ?_
  refine TriOps.gf rfl rfl ?_
  refine TriOps.gf rfl rfl ?_
  refine TriOps.gf rfl rfl ?_
  refine .q .pickF ?_
  refine .q .assign ?_
  refine .nil (seqQ_n ?_)
  refine .ret (retQ_r _ (.one (.tmp rfl)) (.none _) ?_)
  · refine ⟨congrArg _ ?_, rfl⟩
    simp_all [sameG]
  refine TriOps.gF g1_40 ?_
  refine TriOps.gF g1_40 ?_
  refine TriOps.gF g1_40 ?_
  refine TriOps.gF g1_40 ?_
  refine TriOps.gF g1_40 ?_
  refine .q (.pickFh g1_40) ?_
  refine .q .move ?_
  refine TriOps.gf rfl rfl ?_
  refine TriOps.gf rfl rfl ?_
  refine TriOps.gf rfl rfl ?_
  refine TriOps.gf rfl rfl ?_
  refine TriOps.gf rfl rfl ?_
  refine .q .pickF ?_
  refine .q .move ?_
  refine TriOps.gf rfl rfl ?_
  refine TriOps.gf rfl rfl ?_
  refine TriOps.gf rfl rfl ?_
  refine TriOps.gf rfl rfl ?_
  refine TriOps.gf rfl rfl ?_
  refine .q .pickF ?_
  refine .q .assign ?_
  refine .nil (seqQ_n ?_)
  refine .ret (retQ_r _ (.one (.tmp rfl)) (.none _) ?_)
  · refine ⟨congrArg _ ?_, rfl⟩
    simp_all [sameG]
  refine TriOps.gF g1_33 ?_
  refine TriOps.gF g1_33 ?_
  refine TriOps.gF g1_33 ?_
  refine TriOps.gF g1_33 ?_
  refine TriOps.gF g1_33 ?_
  refine .q (.pickFh g1_33) ?_
  refine .q .move ?_
  refine TriOps.gf rfl rfl ?_
  refine TriOps.gf rfl rfl ?_
  refine TriOps.gf rfl rfl ?_
  refine TriOps.gf rfl rfl ?_
  refine TriOps.gf rfl rfl ?_
  refine .q .pickF ?_
  refine .q .move ?_
  refine TriOps.gf rfl rfl ?_
  refine TriOps.gf rfl rfl ?_
  refine TriOps.gf rfl rfl ?_
  refine TriOps.gf rfl rfl ?_
  refine TriOps.gf rfl rfl ?_
  refine .q .pickF ?_
  refine .q .move ?_
  refine TriOps.gf rfl rfl ?_
  refine TriOps.gf rfl rfl ?_
  refine TriOps.gf rfl rfl ?_
  refine TriOps.gf rfl rfl ?_
  refine TriOps.gf rfl rfl ?_
  refine .q .pickF ?_
  refine .q .assign ?_
  refine .nil (seqQ_n ?_)
  refine .ret (retQ_r _ (.one (.tmp rfl)) (.none _) ?_)
  · refine ⟨congrArg _ ?_, rfl⟩
    simp_all [sameG]
  refine TriOps.gF g1_26 ?_
  refine TriOps.gF g1_26 ?_
  refine TriOps.gF g1_26 ?_
  refine TriOps.gF g1_26 ?_
  refine TriOps.gF g1_26 ?_
  refine .q (.pickFh g1_26) ?_
  refine .q .move ?_
  refine TriOps.gf rfl rfl ?_
  refine TriOps.gf rfl rfl ?_
  refine TriOps.gf rfl rfl ?_
  refine TriOps.gf rfl rfl ?_
  refine TriOps.gf rfl rfl ?_
  refine .q .pickF ?_
  refine .q .move ?_
  refine TriOps.gf rfl rfl ?_
  refine TriOps.gf rfl rfl ?_
  refine TriOps.gf rfl rfl ?_
  refine TriOps.gf rfl rfl ?_
  refine TriOps.gf rfl rfl ?_
  refine .q .pickF ?_
  refine .q .move ?_
  refine TriOps.gf rfl rfl ?_
  refine TriOps.gf rfl rfl ?_
  refine TriOps.gf rfl rfl ?_
  refine TriOps.gf rfl rfl ?_
  refine TriOps.gf rfl rfl ?_
  refine .q .pickF ?_
  refine .q .move ?_
  refine TriOps.gf rfl rfl ?_
  refine TriOps.gf rfl rfl ?_
  refine TriOps.gf rfl rfl ?_
  refine TriOps.gf rfl rfl ?_
  refine TriOps.gf rfl rfl ?_
  refine .q .pickF ?_
  refine .q .assign ?_
  refine .nil (seqQ_n ?_)
  refine .ret (retQ_r _ (.one (.tmp rfl)) (.none _) ?_)
  · refine ⟨congrArg _ ?_, rfl⟩
    simp_all [sameG]
  refine TriOps.gF g1_19 ?_
  refine TriOps.gF g1_19 ?_
  refine TriOps.gF g1_19 ?_
  refine TriOps.gF g1_19 ?_
  refine TriOps.gF g1_19 ?_
  refine .q (.pickFh g1_19) ?_
  refine .q .move ?_
  refine TriOps.gf rfl rfl ?_
  refine TriOps.gf rfl rfl ?_
  refine TriOps.gf rfl rfl ?_
  refine TriOps.gf rfl rfl ?_
  refine TriOps.gf rfl rfl ?_
  refine .q .pickF ?_
  refine .q .move ?_
  refine TriOps.gf rfl rfl ?_
  refine TriOps.gf rfl rfl ?_
  refine TriOps.gf rfl rfl ?_
  refine TriOps.gf rfl rfl ?_
  refine TriOps.gf rfl rfl ?_
  refine .q .pickF ?_
  refine .q .move ?_
  refine TriOps.gf rfl rfl ?_
  refine TriOps.gf rfl rfl ?_
  refine TriOps.gf rfl rfl ?_
  refine TriOps.gf rfl rfl ?_
  refine TriOps.gf rfl rfl ?_
  refine .q .pickF ?_
  refine .q .move ?_
  refine TriOps.gf rfl rfl ?_
  refine TriOps.gf rfl rfl ?_
  refine TriOps.gf rfl rfl ?_
  refine TriOps.gf rfl rfl ?_
  refine TriOps.gf rfl rfl ?_
  refine .q .pickF ?_
  refine .q .move ?_
  refine TriOps.gf rfl rfl ?_
  refine TriOps.gf rfl rfl ?_
  refine TriOps.gf rfl rfl ?_
  refine TriOps.gf rfl rfl ?_
  refine TriOps.gf rfl rfl ?_
  refine .q .pickF ?_
  refine .q .assign ?_
  refine .nil (seqQ_n ?_)
  refine .ret (retQ_r _ (.one (.tmp rfl)) (.none _) ?_)
  · refine ⟨congrArg _ ?_, rfl⟩
    simp_all [sameG]
  refine TriOps.gF g1_12 ?_
  refine TriOps.gF g1_12 ?_
  refine TriOps.gF g1_12 ?_
  refine TriOps.gF g1_12 ?_
  refine TriOps.gF g1_12 ?_
  refine .q (.pickFh g1_12) ?_
  refine .q .move ?_
  refine TriOps.gf rfl rfl ?_
  refine TriOps.gf rfl rfl ?_
  refine TriOps.gf rfl rfl ?_
  refine TriOps.gf rfl rfl ?_
  refine TriOps.gf rfl rfl ?_
  refine .q .pickF ?_
  refine .q .move ?_
  refine TriOps.gf rfl rfl ?_
  refine TriOps.gf rfl rfl ?_
  refine TriOps.gf rfl rfl ?_
  refine TriOps.gf rfl rfl ?_
  refine TriOps.gf rfl rfl ?_
  refine .q .pickF ?_
  refine .q .move ?_
  refine TriOps.gf rfl rfl ?_
  refine TriOps.gf rfl rfl ?_
  refine TriOps.gf rfl rfl ?_
  refine TriOps.gf rfl rfl ?_
  refine TriOps.gf rfl rfl ?_
  refine .q .pickF ?_
  refine .q .move ?_
  refine TriOps.gf rfl rfl ?_
  refine TriOps.gf rfl rfl ?_
  refine TriOps.gf rfl rfl ?_
  refine TriOps.gf rfl rfl ?_
  refine TriOps.gf rfl rfl ?_
  refine .q .pickF ?_
  refine .q .move ?_
  refine TriOps.gf rfl rfl ?_
  refine TriOps.gf rfl rfl ?_
  refine TriOps.gf rfl rfl ?_
  refine TriOps.gf rfl rfl ?_
  refine TriOps.gf rfl rfl ?_
  refine .q .pickF ?_
  refine .q .move ?_
  refine TriOps.gf rfl rfl ?_
  refine TriOps.gf rfl rfl ?_
  refine TriOps.gf rfl rfl ?_
  refine TriOps.gf rfl rfl ?_
  refine TriOps.gf rfl rfl ?_
  refine .q .pickF ?_
  refine .q .assign ?_
  refine .nil (seqQ_n ?_)
  refine .ret (retQ_r _ (.one (.tmp rfl)) (.none _) ?_)
  · refine ⟨congrArg _ ?_, rfl⟩
    simp_all [sameG]
  refine TriOps.gF g1_5 ?_
  refine TriOps.gF g1_5 ?_
  refine TriOps.gF g1_5 ?_
  refine TriOps.gF g1_5 ?_
  refine TriOps.gF g1_5 ?_
  refine .q (.pickFh g1_5) ?_
  refine .q .move ?_
  refine TriOps.gf rfl rfl ?_
  refine TriOps.gf rfl rfl ?_
  refine TriOps.gf rfl rfl ?_
  refine TriOps.gf rfl rfl ?_
  refine TriOps.gf rfl rfl ?_
  refine .q .pickF ?_
  refine .q .move ?_
  refine TriOps.gf rfl rfl ?_
  refine TriOps.gf rfl rfl ?_
  refine TriOps.gf rfl rfl ?_
  refine TriOps.gf rfl rfl ?_
  refine TriOps.gf rfl rfl ?_
  refine .q .pickF ?_
  refine .q .move ?_
  refine TriOps.gf rfl rfl ?_
  refine TriOps.gf rfl rfl ?_
  refine TriOps.gf rfl rfl ?_
  refine TriOps.gf rfl rfl ?_
  refine TriOps.gf rfl rfl ?_
  refine .q .pickF ?_
  refine .q .move ?_
  refine TriOps.gf rfl rfl ?_
  refine TriOps.gf rfl rfl ?_
  refine TriOps.gf rfl rfl ?_
  refine TriOps.gf rfl rfl ?_
  refine TriOps.gf rfl rfl ?_
  refine .q .pickF ?_
  refine .q .move ?_
  refine TriOps.gf rfl rfl ?_
  refine TriOps.gf rfl rfl ?_
  refine TriOps.gf rfl rfl ?_
  refine TriOps.gf rfl rfl ?_
  refine TriOps.gf rfl rfl ?_
  refine .q .pickF ?_
  refine .q .move ?_
  refine TriOps.gf rfl rfl ?_
  refine TriOps.gf rfl rfl ?_
  refine TriOps.gf rfl rfl ?_
  refine TriOps.gf rfl rfl ?_
  refine TriOps.gf rfl rfl ?_
  refine .q .pickF ?_
  refine .q .move ?_
  refine TriOps.gf rfl rfl ?_
  refine TriOps.gf rfl rfl ?_
  refine TriOps.gf rfl rfl ?_
  refine TriOps.gf rfl rfl ?_
  refine TriOps.gf rfl rfl ?_
  refine .q .pickF ?_
  refine .q .assign ?_
  refine .nil (seqQ_n ?_)
  refine .ret (retQ_r _ (.one (.tmp rfl)) (.none _) ?_)
  · refine ⟨congrArg _ ?_, rfl⟩
    simp_all [sameG]
def Cod.short (t : Cod) : Cod := ⟨Go.Proofs.YtpmhgpjcladbkaaGreatDoor.short t.text 40, Go.Proofs.YtpmhgpjcladbkaaGreatDoor.short t.client 40, Go.Proofs.YtpmhgpjcladbkaaGreatDoor.short t.user 40, Go.Proofs.YtpmhgpjcladbkaaGreatDoor.short t.uri 60, texts t.scopes 5 20, Go.Proofs.YtpmhgpjcladbkaaGreatDoor.short t.chall 60, t.expires, t.family, t.used⟩
theorem Cod.short_few (t : Cod) : t.short.few := by
  unfold Cod.few Cod.short texts
  simp; omega
theorem gshort_spec (w : Value) (t : Cod) (R : Rds) (h : CodR R (w, t)) : Spec Tryz.prog 14 [.agg (encG (w, t)).toArray] R [] fun v H' => ∃ T, H' = [T] ∧ ∃ w', v = .agg (encG (w', t.short)).toArray ∧ CodR (sg0 T) (w', t.short) := by
  have i1 : Ones (encG (w, t)) := ⟨h.ones⟩
  have hs : RS R 1 encS w t.scopes := h
  have j1 := hs.oneCell
  obtain ⟨a1, a2, a3, a4, a5, a6, a7, a8, a9⟩ := t
  simp only at hs
  refine Spec.body Tryz.func14 rfl Tryz.results14 Tryz.ntmps14 rfl ?_
  refine .seq (.region ?_)
  refine TriOps.boxA rfl (fun b1 => ?_)
  refine TriOps.allocA (fun b2 => ?_)
  refine .nil (seqQ_n ?_)
  refine .seq ?_
  refine .region_all [16, 18, 20, 22, 24] mixed ?_
  refine .takeO 0 rfl (.fieldAddr rfl) (by kernel_rfl) ?_
  refine .takeO 1 rfl (.load1 rfl) (by kernel_rfl) ?_
  refine .takeO 3 rfl (.fieldAddr rfl) (by kernel_rfl) ?_
  refine .takeO 4 rfl (.load1 rfl) (by kernel_rfl) ?_
  refine .takeO 6 rfl (.fieldAddr rfl) (by kernel_rfl) ?_
  refine .takeO 7 rfl (.load1 rfl) (by kernel_rfl) ?_
  refine .takeO 9 rfl (.fieldAddr rfl) (by kernel_rfl) ?_
  refine .takeO 10 rfl (.load1 rfl) (by kernel_rfl) ?_
  refine .takeO 12 rfl (.fieldAddr rfl) (by kernel_rfl) ?_
  refine .takeO 13 rfl (.load1 rfl) (by kernel_rfl) ?_
  refine RA.step 2 rfl (by kernel_rfl) rfl ?_
  refine TriOps.callR (short_spec a1 40 _) (fun u hu => ?_)
  subst hu
  refine .nil (Next.sub ?_)
  refine .takeO 15 rfl (.fieldAddr rfl) (by kernel_rfl) ?_
  refine RA.step 5 rfl (by kernel_rfl) rfl ?_
  refine TriOps.callR (short_spec a2 40 _) (fun u hu => ?_)
  subst hu
  refine .nil (Next.sub ?_)
  refine RA.step 8 rfl (by kernel_rfl) rfl ?_
  refine TriOps.callR (short_spec a3 40 _) (fun u hu => ?_)
  subst hu
  refine .nil (Next.sub ?_)
  refine RA.step 11 rfl (by kernel_rfl) rfl ?_
  refine TriOps.callR (short_spec a4 60 _) (fun u hu => ?_)
  subst hu
  refine .nil (Next.sub ?_)
  refine RA.step 14 rfl (by kernel_rfl) rfl ?_
  refine TriOps.callR (short_spec a6 60 _) (fun u hu => ?_)
  subst hu
  refine .nil (Next.sub ?_)
  refine RA.step 16 rfl (by kernel_rfl) rfl ?_
  refine TriOps.store1 rfl rfl ?_
  refine .nil (Next.mod rfl ?_)
  refine .take 17 rfl (.fieldAddrA rfl) (by kernel_rfl) ?_
  refine RA.step 18 rfl (by kernel_rfl) rfl ?_
  refine TriOps.store1 rfl rfl ?_
  refine .nil (Next.mod rfl ?_)
  refine .take 19 rfl (.fieldAddrA rfl) (by kernel_rfl) ?_
  refine RA.step 20 rfl (by kernel_rfl) rfl ?_
  refine TriOps.store1 rfl rfl ?_
  refine .nil (Next.mod rfl ?_)
  refine .take 21 rfl (.fieldAddrA rfl) (by kernel_rfl) ?_
  refine RA.step 22 rfl (by kernel_rfl) rfl ?_
  refine TriOps.store1 rfl rfl ?_
  refine .nil (Next.mod rfl ?_)
  refine .take 23 rfl (.fieldAddrA rfl) (by kernel_rfl) ?_
  refine RA.step 24 rfl (by kernel_rfl) rfl ?_
  refine TriOps.store1 rfl rfl ?_
  refine .nil (Next.mod rfl ?_)
  refine RA.nil (by kernel_rfl) ?_
  refine seqQ_n ?_
  refine .seq (.region ?_)
  refine .q (.fieldAddr rfl) ?_
  refine .q (.load1 rfl) ?_
  refine TriOps.callN (texts_spec w a5 5 20 (by omega) _ hs.rx) (fun v1 T1 hO1 => ?_)
  have j2 := hO1.oneCell
  refine .q (.fieldAddr rfl) ?_
  refine TriOps.store1 rfl rfl ?_
  refine .nil (seqQ_n ?_)
  refine .seq (.region ?_)
  refine .q (.loadA rfl) ?_
  refine TriOps.storeA rfl rfl ?_
  refine .nil (seqQ_n ?_)
  refine .ret (retQ_r _ (.one (.cellA rfl rfl)) (.one [0] _) ?_)
  · exact ⟨T1, by simp [take], v1, rfl, hO1.sg0⟩
theorem gmine_spec (w : Value) (t : Cod) (R : Rds) (h : CodR R (w, t)) : Spec Tryz.prog 13 [.agg (encG (w, t)).toArray] R [] fun v H' => ∃ T, H' = [T] ∧ ∃ w', v = .agg (encG (w', t.short)).toArray ∧ CodR (sg0 T) (w', t.short) := by
  have i1 : Ones (encG (w, t)) := ⟨h.ones⟩
  refine Spec.body Tryz.func13 rfl Tryz.results13 Tryz.ntmps13 rfl ?_
  refine .seq (.region ?_)
  refine TriOps.boxA rfl (fun b1 => ?_)
  refine TriOps.allocA (fun b2 => ?_)
  refine .nil (seqQ_n ?_)
  refine .seq (.region ?_)
  refine .q (.loadA rfl) ?_
  refine TriOps.callN (gshort_spec w t _ (h.mono fun b o hb => .inl hb)) (fun v T1 hv => ?_)
  obtain ⟨w1, rfl, hc1⟩ := hv
  have hv1 : RS (sg0 T1) 1 encS w1 t.short.scopes := hc1
  obtain ⟨p1, k1, rfl⟩ := hv1.val
  have i2 := (⟨hc1.ones⟩ : Ones (encG (_, t.short)))
  refine TriOps.storeA rfl rfl ?_
  refine .nil (seqQ_n ?_)
  refine .seq (.region ?_)
  refine .q (.fieldAddr rfl) ?_
  refine .q (.load1 rfl) ?_
  refine .q (.fieldAddr rfl) ?_
  refine .q (.load1 rfl) ?_
  refine .q (.fieldAddr rfl) ?_
  refine .q (.load1 rfl) ?_
  refine .q (.fieldAddr rfl) ?_
  refine .q (.load1 rfl) ?_
  refine .q (.fieldAddr rfl) ?_
  refine .q (.load1 rfl) ?_
  refine .q (.fieldAddr rfl) ?_
  refine .q (.load1 rfl) ?_
  refine .q (.fieldAddr rfl) ?_
  refine .q (.load1 rfl) ?_
  refine .q (.fieldAddr rfl) ?_
  refine .q (.load1 rfl) ?_
  refine .q (.fieldAddr rfl) ?_
  refine .q (.load1 rfl) ?_
  refine .q .bld ?_
  refine TriOps.storeA rfl rfl ?_
  refine .nil (seqQ_n ?_)
  refine .ret (retQ_r _ (.one (.cellA rfl rfl)) (.one [0] _) ?_)
  · exact ⟨T1, by simp [take], _, rfl, hc1⟩
theorem gplain_spec (w : Value) (t : Cod) (R : Rds) {R' : Rds} (h : CodR R' (w, t)) : Spec Tryz.prog 24 [.agg (encG (w, t)).toArray] R [] fun v H' => v = .agg (encG (w, t)).toArray ∧ H' = [] := by
  have i1 : Ones (encG (w, t)) := ⟨h.ones⟩
  have hv1 : RS R' 1 encS w t.scopes := h
  obtain ⟨p1, k1, rfl⟩ := hv1.val
  refine Spec.body Tryz.func24 rfl Tryz.results24 Tryz.ntmps24 rfl ?_
  refine .seq (.region ?_)
  refine TriOps.boxA rfl (fun b1 => ?_)
  refine TriOps.allocA (fun b2 => ?_)
  refine .nil (seqQ_n ?_)
  refine .seq (.region ?_)
  refine .q (.fieldAddr rfl) ?_
  refine .q (.load1 rfl) ?_
  refine .q (.fieldAddr rfl) ?_
  refine .q (.load1 rfl) ?_
  refine .q (.fieldAddr rfl) ?_
  refine .q (.load1 rfl) ?_
  refine .q (.fieldAddr rfl) ?_
  refine .q (.load1 rfl) ?_
  refine .q (.fieldAddr rfl) ?_
  refine .q (.load1 rfl) ?_
  refine .q (.fieldAddr rfl) ?_
  refine .q (.load1 rfl) ?_
  refine .q (.fieldAddr rfl) ?_
  refine .q (.load1 rfl) ?_
  refine .q (.fieldAddr rfl) ?_
  refine .q (.load1 rfl) ?_
  refine .q (.fieldAddr rfl) ?_
  refine .q (.load1 rfl) ?_
  refine .q .bld ?_
  refine TriOps.storeA rfl rfl ?_
  refine .nil (seqQ_n ?_)
  refine .ret (retQ_r _ (.one (.cellA rfl rfl)) (.none _) ?_)
  · exact ⟨rfl, rfl⟩
def gword : ByteArray := ⟨#[100, 66, 106, 102, 116, 74, 101, 90, 52, 67, 86, 80, 45, 109, 66, 57, 50, 75, 50, 55, 117, 104, 98, 85, 74, 85, 49, 112, 49, 114, 95, 119, 87, 49, 103, 70, 87, 70, 79, 69, 106, 88, 107]⟩
theorem gword_ver : isVer gword = true := by decide +kernel
def glive : Cod := ⟨⟨#[116]⟩, ⟨#[]⟩, ⟨#[]⟩, ⟨#[]⟩, [], chal gword, 9, 0, false⟩
theorem glive_issue : gissue [] glive = (0, [(⟨#[116]⟩, glive)]) := rfl
theorem glive_redeem : gredeem [(⟨#[116]⟩, glive)] ⟨#[116]⟩ ⟨#[]⟩ ⟨#[]⟩ gword 8 = (glive.mark, 0, kset ⟨#[116]⟩ glive.mark [(⟨#[116]⟩, glive)]) := by
  unfold gredeem
  rw [show mget (⟨#[116]⟩ : ByteArray) [(⟨#[116]⟩, glive)] = some glive by simp [mget]]
  simp only
  rw [if_neg (by simp [glive]), if_neg (by simp [glive]), if_neg]
  simp [glive, pmatch, gword_ver]
theorem glives_spec (R : Rds) (hg : PC R (.pointer (some ⟨1, 0, none⟩)) (wv ks)) : Spec Tryz.prog 17 [] R [] fun v H' => v = .bool true ∧ H' = [] := by
  refine Spec.body Tryz.func17 rfl Tryz.results17 Tryz.ntmps17 rfl ?_
  refine .seq (.region ?_)
  refine .q .assign ?_
  refine .nil (seqQ_n ?_)
  refine .seq (.region ?_)
  refine TriOps.callN (gnew_spec _) (fun u T0 hu => ?_)
  obtain ⟨g, rfl, hb⟩ := hu
  refine .q .assign ?_
  refine .nil (seqQ_n ?_)
  refine .seq ?_
  refine .seq (.region ?_)
  refine .q .move ?_
  refine .q (.eqNilA rfl rfl) ?_
  refine .q .move ?_
  refine TriOps.gt rfl ?_
  refine .q .move ?_
  refine TriOps.gt rfl ?_
  refine TriOps.callR (rchallenge_spec gword (by decide) _) (fun v hv => ?_)
  subst hv
  refine TriOps.gt rfl ?_
  refine .q .bld ?_
  refine TriOps.gt rfl ?_
  refine TriOps.callM (gissue_spec g [] [] T0 hb (.slice none 0 0) glive _ RS.nil' (by simp [Cod.few, glive])) (fun v T1 hv => ?_)
  obtain ⟨rfl, hb1⟩ := hv
  rw [glive_issue] at hb1 ⊢
  refine TriOps.gt rfl ?_
  refine .q .neI ?_
  refine .q .pickF ?_
  refine .nil (seqQ_n ?_)
  refine .cond rfl (fun h1 => ?_) (fun h1 => ?_)
  · simp at h1
  refine .skip ?_
  refine seqQ_n ?_
  refine .seq (.region ?_)
  refine .q .move ?_
  refine TriOps.call [0] (gredeem_spec g [] _ T1 hb1 ⟨#[116]⟩ ⟨#[]⟩ ⟨#[]⟩ gword 8 (by decide) _ hg.rx) (fun v H' hv => ?_)
  obtain ⟨T2, Tn, rfl, w2, rfl, hc2, hb2⟩ := hv
  rw [glive_redeem] at hc2 hb2 ⊢
  have i2 := (⟨hc2.ones⟩ : Ones (encG (w2, _)))
  refine .q .move ?_
  refine .q .extract ?_
  refine .q .extract ?_
  refine TriOps.allocA (fun b2 => ?_)
  refine TriOps.storeA rfl rfl ?_
  refine .q .assign ?_
  refine .nil (seqQ_n ?_)
  refine .seq (.region ?_)
  refine .q .move ?_
  refine .q .eqI ?_
  refine .q .move ?_
  refine TriOps.split (t := 21) rfl (fun g5_2 => ?_) (fun g5_2 => ?_)
  refine TriOps.gT g5_2 ?_
  refine .q (.fieldAddr rfl) ?_
  refine TriOps.gT g5_2 ?_
  refine .q (.load1 rfl) ?_
  refine .q (.pickTh g5_2) ?_
  refine .q .assign ?_
  refine .nil (seqQ_n ?_)
  refine .ret (retQ_r _ (.one (.tmp rfl)) (.none _) ?_)
  · skip
    first
      | exact ⟨rfl, rfl⟩
      | (exfalso; revert g5_2; decide)
  refine TriOps.gF g5_2 ?_
  refine TriOps.gF g5_2 ?_
  refine .q (.pickFh g5_2) ?_
  refine .q .assign ?_
  refine .nil (seqQ_n ?_)
  refine .ret (retQ_r _ (.one (.tmp rfl)) (.none _) ?_)
  · skip
    first
      | exact ⟨rfl, rfl⟩
      | (exfalso; revert g5_2; decide)
theorem gcod_of {H : Type} {enc : TypeId × Value → H} {W : World} {f : Nat} {cs : List Value} {x : DataW H × List MemPlace} (h : DataW.trod enc Tryz.prog W 0 (fun _ => true) true f 35 cs = some x) : ∃ p : GP, cs = encG p ∧ CodR (Rw W) p := by
  obtain ⟨hl, hp⟩ := parts_of Tryz.underlying35 h
  have hc : Tryz.prog.cellsOf 35 = 9 := by kernel_rfl
  rw [hc] at hl
  have c2 : Tryz.prog.cellsOf 2 = 1 := by kernel_rfl
  have c3 : Tryz.prog.cellsOf 3 = 1 := by kernel_rfl
  have c4 : Tryz.prog.cellsOf 4 = 1 := by kernel_rfl
  have c9 : Tryz.prog.cellsOf 9 = 1 := by kernel_rfl
  have c26 : Tryz.prog.cellsOf 26 = 1 := by kernel_rfl
  match cs, hl with
  | [a0, a1, a2, a3, a4, a5, a6, a7, a8], _ =>
    obtain ⟨n0, y0, h0⟩ : ∃ n y, DataW.trod enc Tryz.prog W 0 (fun _ => true) true n 9 (([a0, a1, a2, a3, a4, a5, a6, a7, a8].drop 0).take (Tryz.prog.cellsOf 9)) = some y := hp 0 _ rfl
    obtain ⟨n1, y1, h1⟩ : ∃ n y, DataW.trod enc Tryz.prog W 0 (fun _ => true) true n 9 (([a0, a1, a2, a3, a4, a5, a6, a7, a8].drop 1).take (Tryz.prog.cellsOf 9)) = some y := hp 1 _ rfl
    obtain ⟨n2, y2, h2⟩ : ∃ n y, DataW.trod enc Tryz.prog W 0 (fun _ => true) true n 9 (([a0, a1, a2, a3, a4, a5, a6, a7, a8].drop 2).take (Tryz.prog.cellsOf 9)) = some y := hp 2 _ rfl
    obtain ⟨n3, y3, h3⟩ : ∃ n y, DataW.trod enc Tryz.prog W 0 (fun _ => true) true n 9 (([a0, a1, a2, a3, a4, a5, a6, a7, a8].drop 3).take (Tryz.prog.cellsOf 9)) = some y := hp 3 _ rfl
    obtain ⟨n4, y4, h4⟩ : ∃ n y, DataW.trod enc Tryz.prog W 0 (fun _ => true) true n 26 (([a0, a1, a2, a3, a4, a5, a6, a7, a8].drop 4).take (Tryz.prog.cellsOf 26)) = some y := hp 4 _ rfl
    obtain ⟨n5, y5, h5⟩ : ∃ n y, DataW.trod enc Tryz.prog W 0 (fun _ => true) true n 9 (([a0, a1, a2, a3, a4, a5, a6, a7, a8].drop 5).take (Tryz.prog.cellsOf 9)) = some y := hp 5 _ rfl
    obtain ⟨n6, y6, h6⟩ : ∃ n y, DataW.trod enc Tryz.prog W 0 (fun _ => true) true n 2 (([a0, a1, a2, a3, a4, a5, a6, a7, a8].drop 6).take (Tryz.prog.cellsOf 2)) = some y := hp 6 _ rfl
    obtain ⟨n7, y7, h7⟩ : ∃ n y, DataW.trod enc Tryz.prog W 0 (fun _ => true) true n 3 (([a0, a1, a2, a3, a4, a5, a6, a7, a8].drop 7).take (Tryz.prog.cellsOf 3)) = some y := hp 7 _ rfl
    obtain ⟨n8, y8, h8⟩ : ∃ n y, DataW.trod enc Tryz.prog W 0 (fun _ => true) true n 4 (([a0, a1, a2, a3, a4, a5, a6, a7, a8].drop 8).take (Tryz.prog.cellsOf 4)) = some y := hp 8 _ rfl
    simp only [c2, c3, c4, c9, c26, List.drop_zero, List.drop_succ_cons, List.take_succ_cons, List.take_zero] at h0 h1 h2 h3 h4 h5 h6 h7 h8
    obtain ⟨s0, e0⟩ := str_of h0
    obtain ⟨s1, e1⟩ := str_of h1
    obtain ⟨s2, e2⟩ := str_of h2
    obtain ⟨s3, e3⟩ := str_of h3
    obtain ⟨v4, l4, e4, r4⟩ := strs_of h4
    obtain ⟨s5, e5⟩ := str_of h5
    obtain ⟨z6, e6⟩ := int_of (k := .i64) h6
    obtain ⟨z7, e7⟩ := int_of (k := .i64) h7
    obtain ⟨b8, e8⟩ := bool_of h8
    cases e0; cases e1; cases e2; cases e3; cases e4; cases e5; cases e6; cases e7; cases e8
    exact ⟨(_, ⟨s0, s1, s2, s3, l4, s5, z6, z7, b8⟩), rfl, r4⟩
end Go.Proofs.YtpmhgpjcladbkaaGreatDoor

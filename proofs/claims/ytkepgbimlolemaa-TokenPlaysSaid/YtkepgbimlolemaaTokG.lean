/- Tokens: what the law hands over: mine, plain, Short; whether two are the same; a vault that lives. No condition. -/
import Derived.Test.YtkepgbimlolemaaTokD
import Derived.Test.YtkepgbimlolemaaSame
set_option linter.unusedVariables false
set_option maxRecDepth 4000
namespace Go.Proofs.Ytkepgbimlolemaa
def sameT (t u : Tok) : Bool := decide (t.text = u.text) && (t.kind == u.kind) && decide (t.client = u.client) && decide (t.user = u.user) && decide (t.scopes = u.scopes) && (t.family == u.family) && (t.expires == u.expires) && (t.rev == u.rev) && (t.used == u.used)
theorem sameT_iff {t u : Tok} : sameT t u = true ↔ t = u := by
  obtain ⟨a1, a2, a3, a4, a5, a6, a7, a8, a9⟩ := t
  obtain ⟨b1, b2, b3, b4, b5, b6, b7, b8, b9⟩ := u
  simp [sameT, and_assoc]
theorem sameT_self (t : Tok) : sameT t t = true := sameT_iff.2 rfl
theorem sameT_spec (w w' : Value) (t u : Tok) (R : Rds) (h : TokR R (w, t)) (h' : TokR R (w', u)) : Spec Try.prog 25 [.agg (encT (w, t)).toArray, .agg (encT (w', u)).toArray] R [] fun v H' => v = .bool (sameT t u) ∧ H' = [] := by
  have i1 : Ones (encT (w, t)) := ⟨h.ones⟩
  have i2 : Ones (encT (w', u)) := ⟨h'.ones⟩
  have hs : RS R 1 encS w t.scopes := h
  have hs' : RS R 1 encS w' u.scopes := h'
  have j1 := hs.oneCell
  have j2 := hs'.oneCell
  obtain ⟨a1, a2, a3, a4, a5, a6, a7, a8, a9⟩ := t
  obtain ⟨b1, b2, b3, b4, b5, b6, b7, b8, b9⟩ := u
  simp only at hs hs'
  refine Spec.body Try.func25 rfl Try.results25 Try.ntmps25 rfl ?_
  refine .seq ?_
  refine .region ?_
  refine TriOps.boxA rfl (fun b2 => ?_)
  refine TriOps.boxA rfl (fun b3 => ?_)
  refine TriOps.q .assign ?_
  refine .nil ?_
  refine seqQ_n ?_
  refine .seq ?_
  refine .region ?_
  refine TriOps.q (.fieldAddr rfl) ?_
  refine TriOps.q (.load1 rfl) ?_
  refine TriOps.q (.fieldAddr rfl) ?_
  refine TriOps.q (.load1 rfl) ?_
  refine TriOps.q .eqS ?_
  refine TriOps.q .move ?_
  refine TriOps.split (t := 10) rfl (fun g1_5 => ?_) (fun g1_5 => ?_)
  · skip
    refine TriOps.gT g1_5 ?_
    refine TriOps.q (.fieldAddr rfl) ?_
    refine TriOps.gT g1_5 ?_
    refine TriOps.q (.load1 rfl) ?_
    refine TriOps.gT g1_5 ?_
    refine TriOps.q (.fieldAddr rfl) ?_
    refine TriOps.gT g1_5 ?_
    refine TriOps.q (.load1 rfl) ?_
    refine TriOps.gT g1_5 ?_
    refine TriOps.q .eqI ?_
    refine TriOps.q (.pickTh g1_5) ?_
    refine TriOps.q .move ?_
    refine TriOps.split (t := 17) rfl (fun g1_12 => ?_) (fun g1_12 => ?_)
    · skip
      refine TriOps.gT g1_12 ?_
      refine TriOps.q (.fieldAddr rfl) ?_
      refine TriOps.gT g1_12 ?_
      refine TriOps.q (.load1 rfl) ?_
      refine TriOps.gT g1_12 ?_
      refine TriOps.q (.fieldAddr rfl) ?_
      refine TriOps.gT g1_12 ?_
      refine TriOps.q (.load1 rfl) ?_
      refine TriOps.gT g1_12 ?_
      refine TriOps.q .eqS ?_
      refine TriOps.q (.pickTh g1_12) ?_
      refine TriOps.q .move ?_
      refine TriOps.split (t := 24) rfl (fun g1_19 => ?_) (fun g1_19 => ?_)
      · skip
        refine TriOps.gT g1_19 ?_
        refine TriOps.q (.fieldAddr rfl) ?_
        refine TriOps.gT g1_19 ?_
        refine TriOps.q (.load1 rfl) ?_
        refine TriOps.gT g1_19 ?_
        refine TriOps.q (.fieldAddr rfl) ?_
        refine TriOps.gT g1_19 ?_
        refine TriOps.q (.load1 rfl) ?_
        refine TriOps.gT g1_19 ?_
        refine TriOps.q .eqS ?_
        refine TriOps.q (.pickTh g1_19) ?_
        refine TriOps.q .move ?_
        refine TriOps.split (t := 31) rfl (fun g1_26 => ?_) (fun g1_26 => ?_)
        · skip
          refine TriOps.gT g1_26 ?_
          refine TriOps.q (.fieldAddr rfl) ?_
          refine TriOps.gT g1_26 ?_
          refine TriOps.q (.load1 rfl) ?_
          refine TriOps.gT g1_26 ?_
          refine TriOps.q (.fieldAddr rfl) ?_
          refine TriOps.gT g1_26 ?_
          refine TriOps.q (.load1 rfl) ?_
          refine TriOps.gT g1_26 ?_
          refine TriOps.callR (sameTexts_spec w w' a5 b5 _ hs.rx hs'.rx) (fun v hv => ?_)
          subst hv
          refine TriOps.q (.pickTh g1_26) ?_
          refine TriOps.q .move ?_
          refine TriOps.split (t := 38) rfl (fun g1_33 => ?_) (fun g1_33 => ?_)
          · skip
            refine TriOps.gT g1_33 ?_
            refine TriOps.q (.fieldAddr rfl) ?_
            refine TriOps.gT g1_33 ?_
            refine TriOps.q (.load1 rfl) ?_
            refine TriOps.gT g1_33 ?_
            refine TriOps.q (.fieldAddr rfl) ?_
            refine TriOps.gT g1_33 ?_
            refine TriOps.q (.load1 rfl) ?_
            refine TriOps.gT g1_33 ?_
            refine TriOps.q .eqI ?_
            refine TriOps.q (.pickTh g1_33) ?_
            refine TriOps.q .move ?_
            refine TriOps.split (t := 45) rfl (fun g1_40 => ?_) (fun g1_40 => ?_)
            · skip
              refine TriOps.gT g1_40 ?_
              refine TriOps.q (.fieldAddr rfl) ?_
              refine TriOps.gT g1_40 ?_
              refine TriOps.q (.load1 rfl) ?_
              refine TriOps.gT g1_40 ?_
              refine TriOps.q (.fieldAddr rfl) ?_
              refine TriOps.gT g1_40 ?_
              refine TriOps.q (.load1 rfl) ?_
              refine TriOps.gT g1_40 ?_
              refine TriOps.q .eqI ?_
              refine TriOps.q (.pickTh g1_40) ?_
              refine TriOps.q .move ?_
              refine TriOps.split (t := 52) rfl (fun g1_47 => ?_) (fun g1_47 => ?_)
              · skip
                refine TriOps.gT g1_47 ?_
                refine TriOps.q (.fieldAddr rfl) ?_
                refine TriOps.gT g1_47 ?_
                refine TriOps.q (.load1 rfl) ?_
                refine TriOps.gT g1_47 ?_
                refine TriOps.q (.fieldAddr rfl) ?_
                refine TriOps.gT g1_47 ?_
                refine TriOps.q (.load1 rfl) ?_
                refine TriOps.gT g1_47 ?_
                refine TriOps.q .eqI ?_
                refine TriOps.q (.pickTh g1_47) ?_
                refine TriOps.q .move ?_
                refine TriOps.split (t := 59) rfl (fun g1_54 => ?_) (fun g1_54 => ?_)
                · skip
                  refine TriOps.gT g1_54 ?_
                  refine TriOps.q (.fieldAddr rfl) ?_
                  refine TriOps.gT g1_54 ?_
                  refine TriOps.q (.load1 rfl) ?_
                  refine TriOps.gT g1_54 ?_
                  refine TriOps.q (.fieldAddr rfl) ?_
                  refine TriOps.gT g1_54 ?_
                  refine TriOps.q (.load1 rfl) ?_
                  refine TriOps.gT g1_54 ?_
                  refine TriOps.q .eqB ?_
                  refine TriOps.q (.pickTh g1_54) ?_
                  refine TriOps.q .assign ?_
                  refine .nil ?_
                  refine seqQ_n ?_
                  refine .ret (retQ_r _ (.one (.tmp rfl)) (.none _) ?_)
                  refine ⟨congrArg _ ?_, rfl⟩
                  simp_all [sameT]
                · skip
                  refine TriOps.gF g1_54 ?_
                  refine TriOps.gF g1_54 ?_
                  refine TriOps.gF g1_54 ?_
                  refine TriOps.gF g1_54 ?_
                  refine TriOps.gF g1_54 ?_
                  refine TriOps.q (.pickFh g1_54) ?_
                  refine TriOps.q .assign ?_
                  refine .nil ?_
                  refine seqQ_n ?_
                  refine .ret (retQ_r _ (.one (.tmp rfl)) (.none _) ?_)
                  refine ⟨congrArg _ ?_, rfl⟩
                  simp_all [sameT]
              · skip
                refine TriOps.gF g1_47 ?_
                refine TriOps.gF g1_47 ?_
                refine TriOps.gF g1_47 ?_
                refine TriOps.gF g1_47 ?_
                refine TriOps.gF g1_47 ?_
                refine TriOps.q (.pickFh g1_47) ?_
                refine TriOps.q .move ?_
                refine TriOps.gf rfl rfl ?_
                refine TriOps.gf rfl rfl ?_
                refine TriOps.gf rfl rfl ?_
                refine TriOps.gf rfl rfl ?_
                refine TriOps.gf rfl rfl ?_
                refine TriOps.q .pickF ?_
                refine TriOps.q .assign ?_
                refine .nil ?_
                refine seqQ_n ?_
                refine .ret (retQ_r _ (.one (.tmp rfl)) (.none _) ?_)
                refine ⟨congrArg _ ?_, rfl⟩
                simp_all [sameT]
            · skip
              refine TriOps.gF g1_40 ?_
              refine TriOps.gF g1_40 ?_
              refine TriOps.gF g1_40 ?_
              refine TriOps.gF g1_40 ?_
              refine TriOps.gF g1_40 ?_
              refine TriOps.q (.pickFh g1_40) ?_
              refine TriOps.q .move ?_
              refine TriOps.gf rfl rfl ?_
              refine TriOps.gf rfl rfl ?_
              refine TriOps.gf rfl rfl ?_
              refine TriOps.gf rfl rfl ?_
              refine TriOps.gf rfl rfl ?_
              refine TriOps.q .pickF ?_
              refine TriOps.q .move ?_
              refine TriOps.gf rfl rfl ?_
              refine TriOps.gf rfl rfl ?_
              refine TriOps.gf rfl rfl ?_
              refine TriOps.gf rfl rfl ?_
              refine TriOps.gf rfl rfl ?_
              refine TriOps.q .pickF ?_
              refine TriOps.q .assign ?_
              refine .nil ?_
              refine seqQ_n ?_
              refine .ret (retQ_r _ (.one (.tmp rfl)) (.none _) ?_)
              refine ⟨congrArg _ ?_, rfl⟩
              simp_all [sameT]
          · skip
            refine TriOps.gF g1_33 ?_
            refine TriOps.gF g1_33 ?_
            refine TriOps.gF g1_33 ?_
            refine TriOps.gF g1_33 ?_
            refine TriOps.gF g1_33 ?_
            refine TriOps.q (.pickFh g1_33) ?_
            refine TriOps.q .move ?_
            refine TriOps.gf rfl rfl ?_
            refine TriOps.gf rfl rfl ?_
            refine TriOps.gf rfl rfl ?_
            refine TriOps.gf rfl rfl ?_
            refine TriOps.gf rfl rfl ?_
            refine TriOps.q .pickF ?_
            refine TriOps.q .move ?_
            refine TriOps.gf rfl rfl ?_
            refine TriOps.gf rfl rfl ?_
            refine TriOps.gf rfl rfl ?_
            refine TriOps.gf rfl rfl ?_
            refine TriOps.gf rfl rfl ?_
            refine TriOps.q .pickF ?_
            refine TriOps.q .move ?_
            refine TriOps.gf rfl rfl ?_
            refine TriOps.gf rfl rfl ?_
            refine TriOps.gf rfl rfl ?_
            refine TriOps.gf rfl rfl ?_
            refine TriOps.gf rfl rfl ?_
            refine TriOps.q .pickF ?_
            refine TriOps.q .assign ?_
            refine .nil ?_
            refine seqQ_n ?_
            refine .ret (retQ_r _ (.one (.tmp rfl)) (.none _) ?_)
            refine ⟨congrArg _ ?_, rfl⟩
            simp_all [sameT]
        · skip
          refine TriOps.gF g1_26 ?_
          refine TriOps.gF g1_26 ?_
          refine TriOps.gF g1_26 ?_
          refine TriOps.gF g1_26 ?_
          refine TriOps.gF g1_26 ?_
          refine TriOps.q (.pickFh g1_26) ?_
          refine TriOps.q .move ?_
          refine TriOps.gf rfl rfl ?_
          refine TriOps.gf rfl rfl ?_
          refine TriOps.gf rfl rfl ?_
          refine TriOps.gf rfl rfl ?_
          refine TriOps.gf rfl rfl ?_
          refine TriOps.q .pickF ?_
          refine TriOps.q .move ?_
          refine TriOps.gf rfl rfl ?_
          refine TriOps.gf rfl rfl ?_
          refine TriOps.gf rfl rfl ?_
          refine TriOps.gf rfl rfl ?_
          refine TriOps.gf rfl rfl ?_
          refine TriOps.q .pickF ?_
          refine TriOps.q .move ?_
          refine TriOps.gf rfl rfl ?_
          refine TriOps.gf rfl rfl ?_
          refine TriOps.gf rfl rfl ?_
          refine TriOps.gf rfl rfl ?_
          refine TriOps.gf rfl rfl ?_
          refine TriOps.q .pickF ?_
          refine TriOps.q .move ?_
          refine TriOps.gf rfl rfl ?_
          refine TriOps.gf rfl rfl ?_
          refine TriOps.gf rfl rfl ?_
          refine TriOps.gf rfl rfl ?_
          refine TriOps.gf rfl rfl ?_
          refine TriOps.q .pickF ?_
          refine TriOps.q .assign ?_
          refine .nil ?_
          refine seqQ_n ?_
          refine .ret (retQ_r _ (.one (.tmp rfl)) (.none _) ?_)
          refine ⟨congrArg _ ?_, rfl⟩
          simp_all [sameT]
      · skip
        refine TriOps.gF g1_19 ?_
        refine TriOps.gF g1_19 ?_
        refine TriOps.gF g1_19 ?_
        refine TriOps.gF g1_19 ?_
        refine TriOps.gF g1_19 ?_
        refine TriOps.q (.pickFh g1_19) ?_
        refine TriOps.q .move ?_
        refine TriOps.gf rfl rfl ?_
        refine TriOps.gf rfl rfl ?_
        refine TriOps.gf rfl rfl ?_
        refine TriOps.gf rfl rfl ?_
        refine TriOps.gf rfl rfl ?_
        refine TriOps.q .pickF ?_
        refine TriOps.q .move ?_
        refine TriOps.gf rfl rfl ?_
        refine TriOps.gf rfl rfl ?_
        refine TriOps.gf rfl rfl ?_
        refine TriOps.gf rfl rfl ?_
        refine TriOps.gf rfl rfl ?_
        refine TriOps.q .pickF ?_
        refine TriOps.q .move ?_
        refine TriOps.gf rfl rfl ?_
        refine TriOps.gf rfl rfl ?_
        refine TriOps.gf rfl rfl ?_
        refine TriOps.gf rfl rfl ?_
        refine TriOps.gf rfl rfl ?_
        refine TriOps.q .pickF ?_
        refine TriOps.q .move ?_
        refine TriOps.gf rfl rfl ?_
        refine TriOps.gf rfl rfl ?_
        refine TriOps.gf rfl rfl ?_
        refine TriOps.gf rfl rfl ?_
        refine TriOps.gf rfl rfl ?_
        refine TriOps.q .pickF ?_
        refine TriOps.q .move ?_
        refine TriOps.gf rfl rfl ?_
        refine TriOps.gf rfl rfl ?_
        refine TriOps.gf rfl rfl ?_
        refine TriOps.gf rfl rfl ?_
        refine TriOps.gf rfl rfl ?_
        refine TriOps.q .pickF ?_
        refine TriOps.q .assign ?_
        refine .nil ?_
        refine seqQ_n ?_
        refine .ret (retQ_r _ (.one (.tmp rfl)) (.none _) ?_)
        refine ⟨congrArg _ ?_, rfl⟩
        simp_all [sameT]
    · skip
      refine TriOps.gF g1_12 ?_
      refine TriOps.gF g1_12 ?_
      refine TriOps.gF g1_12 ?_
      refine TriOps.gF g1_12 ?_
      refine TriOps.gF g1_12 ?_
      refine TriOps.q (.pickFh g1_12) ?_
      refine TriOps.q .move ?_
      refine TriOps.gf rfl rfl ?_
      refine TriOps.gf rfl rfl ?_
      refine TriOps.gf rfl rfl ?_
      refine TriOps.gf rfl rfl ?_
      refine TriOps.gf rfl rfl ?_
      refine TriOps.q .pickF ?_
      refine TriOps.q .move ?_
      refine TriOps.gf rfl rfl ?_
      refine TriOps.gf rfl rfl ?_
      refine TriOps.gf rfl rfl ?_
      refine TriOps.gf rfl rfl ?_
      refine TriOps.gf rfl rfl ?_
      refine TriOps.q .pickF ?_
      refine TriOps.q .move ?_
      refine TriOps.gf rfl rfl ?_
      refine TriOps.gf rfl rfl ?_
      refine TriOps.gf rfl rfl ?_
      refine TriOps.gf rfl rfl ?_
      refine TriOps.gf rfl rfl ?_
      refine TriOps.q .pickF ?_
      refine TriOps.q .move ?_
      refine TriOps.gf rfl rfl ?_
      refine TriOps.gf rfl rfl ?_
      refine TriOps.gf rfl rfl ?_
      refine TriOps.gf rfl rfl ?_
      refine TriOps.gf rfl rfl ?_
      refine TriOps.q .pickF ?_
      refine TriOps.q .move ?_
      refine TriOps.gf rfl rfl ?_
      refine TriOps.gf rfl rfl ?_
      refine TriOps.gf rfl rfl ?_
      refine TriOps.gf rfl rfl ?_
      refine TriOps.gf rfl rfl ?_
      refine TriOps.q .pickF ?_
      refine TriOps.q .move ?_
      refine TriOps.gf rfl rfl ?_
      refine TriOps.gf rfl rfl ?_
      refine TriOps.gf rfl rfl ?_
      refine TriOps.gf rfl rfl ?_
      refine TriOps.gf rfl rfl ?_
      refine TriOps.q .pickF ?_
      refine TriOps.q .assign ?_
      refine .nil ?_
      refine seqQ_n ?_
      refine .ret (retQ_r _ (.one (.tmp rfl)) (.none _) ?_)
      refine ⟨congrArg _ ?_, rfl⟩
      simp_all [sameT]
  · skip
    refine TriOps.gF g1_5 ?_
    refine TriOps.gF g1_5 ?_
    refine TriOps.gF g1_5 ?_
    refine TriOps.gF g1_5 ?_
    refine TriOps.gF g1_5 ?_
    refine TriOps.q (.pickFh g1_5) ?_
    refine TriOps.q .move ?_
    refine TriOps.gf rfl rfl ?_
    refine TriOps.gf rfl rfl ?_
    refine TriOps.gf rfl rfl ?_
    refine TriOps.gf rfl rfl ?_
    refine TriOps.gf rfl rfl ?_
    refine TriOps.q .pickF ?_
    refine TriOps.q .move ?_
    refine TriOps.gf rfl rfl ?_
    refine TriOps.gf rfl rfl ?_
    refine TriOps.gf rfl rfl ?_
    refine TriOps.gf rfl rfl ?_
    refine TriOps.gf rfl rfl ?_
    refine TriOps.q .pickF ?_
    refine TriOps.q .move ?_
    refine TriOps.gf rfl rfl ?_
    refine TriOps.gf rfl rfl ?_
    refine TriOps.gf rfl rfl ?_
    refine TriOps.gf rfl rfl ?_
    refine TriOps.gf rfl rfl ?_
    refine TriOps.q .pickF ?_
    refine TriOps.q .move ?_
    refine TriOps.gf rfl rfl ?_
    refine TriOps.gf rfl rfl ?_
    refine TriOps.gf rfl rfl ?_
    refine TriOps.gf rfl rfl ?_
    refine TriOps.gf rfl rfl ?_
    refine TriOps.q .pickF ?_
    refine TriOps.q .move ?_
    refine TriOps.gf rfl rfl ?_
    refine TriOps.gf rfl rfl ?_
    refine TriOps.gf rfl rfl ?_
    refine TriOps.gf rfl rfl ?_
    refine TriOps.gf rfl rfl ?_
    refine TriOps.q .pickF ?_
    refine TriOps.q .move ?_
    refine TriOps.gf rfl rfl ?_
    refine TriOps.gf rfl rfl ?_
    refine TriOps.gf rfl rfl ?_
    refine TriOps.gf rfl rfl ?_
    refine TriOps.gf rfl rfl ?_
    refine TriOps.q .pickF ?_
    refine TriOps.q .move ?_
    refine TriOps.gf rfl rfl ?_
    refine TriOps.gf rfl rfl ?_
    refine TriOps.gf rfl rfl ?_
    refine TriOps.gf rfl rfl ?_
    refine TriOps.gf rfl rfl ?_
    refine TriOps.q .pickF ?_
    refine TriOps.q .assign ?_
    refine .nil ?_
    refine seqQ_n ?_
    refine .ret (retQ_r _ (.one (.tmp rfl)) (.none _) ?_)
    refine ⟨congrArg _ ?_, rfl⟩
    simp_all [sameT]
def Tok.short (t : Tok) : Tok := ⟨Go.Proofs.Ytkepgbimlolemaa.short t.text 40, t.kind, Go.Proofs.Ytkepgbimlolemaa.short t.client 40, Go.Proofs.Ytkepgbimlolemaa.short t.user 40, texts t.scopes 5 20, t.family, t.expires, t.rev, t.used⟩
theorem Tok.short_few (t : Tok) : t.short.few := by
  unfold Tok.few Tok.short texts
  simp; omega
theorem tshort_spec (w : Value) (t : Tok) (R : Rds) (h : TokR R (w, t)) : Spec Try.prog 22 [.agg (encT (w, t)).toArray] R [] fun v H' => ∃ T, H' = [T] ∧ ∃ w', v = .agg (encT (w', t.short)).toArray ∧ TokR (sg0 T) (w', t.short) := by
  have i1 : Ones (encT (w, t)) := ⟨h.ones⟩
  have hs : RS R 1 encS w t.scopes := h
  have j1 := hs.oneCell
  obtain ⟨a1, a2, a3, a4, a5, a6, a7, a8, a9⟩ := t
  simp only at hs
  refine Spec.body Try.func22 rfl Try.results22 Try.ntmps22 rfl ?_
  refine .seq ?_
  refine .region ?_
  refine TriOps.boxA rfl (fun b1 => ?_)
  refine TriOps.allocA (fun b2 => ?_)
  refine .nil ?_
  refine seqQ_n ?_
  refine .seq ?_
  refine .region_all [10, 12, 14] mixed ?_
  refine RA.takeO 0 rfl (.fieldAddr rfl) (by kernel_rfl) ?_
  refine RA.takeO 1 rfl (.load1 rfl) (by kernel_rfl) ?_
  refine RA.takeO 3 rfl (.fieldAddr rfl) (by kernel_rfl) ?_
  refine RA.takeO 4 rfl (.load1 rfl) (by kernel_rfl) ?_
  refine RA.takeO 6 rfl (.fieldAddr rfl) (by kernel_rfl) ?_
  refine RA.takeO 7 rfl (.load1 rfl) (by kernel_rfl) ?_
  refine RA.step 2 rfl (by kernel_rfl) rfl ?_
  refine TriOps.callR (short_spec a1 40 _) (fun u hu => ?_)
  subst hu
  refine .nil (Next.sub ?_)
  refine RA.takeO 9 rfl (.fieldAddr rfl) (by kernel_rfl) ?_
  refine RA.step 5 rfl (by kernel_rfl) rfl ?_
  refine TriOps.callR (short_spec a3 40 _) (fun u hu => ?_)
  subst hu
  refine .nil (Next.sub ?_)
  refine RA.step 8 rfl (by kernel_rfl) rfl ?_
  refine TriOps.callR (short_spec a4 40 _) (fun u hu => ?_)
  subst hu
  refine .nil (Next.sub ?_)
  refine RA.step 10 rfl (by kernel_rfl) rfl ?_
  refine TriOps.store1 rfl rfl ?_
  refine .nil (Next.mod rfl ?_)
  refine RA.take 11 rfl (.fieldAddrA rfl) (by kernel_rfl) ?_
  refine RA.step 12 rfl (by kernel_rfl) rfl ?_
  refine TriOps.store1 rfl rfl ?_
  refine .nil (Next.mod rfl ?_)
  refine RA.take 13 rfl (.fieldAddrA rfl) (by kernel_rfl) ?_
  refine RA.step 14 rfl (by kernel_rfl) rfl ?_
  refine TriOps.store1 rfl rfl ?_
  refine .nil (Next.mod rfl ?_)
  refine RA.nil (by kernel_rfl) ?_
  refine seqQ_n ?_
  refine .seq ?_
  refine .region ?_
  refine TriOps.q (.fieldAddr rfl) ?_
  refine TriOps.q (.load1 rfl) ?_
  refine TriOps.callN (texts_spec w a5 5 20 (by omega) _ hs.rx) (fun v1 T1 hO1 => ?_)
  have j2 := hO1.oneCell
  refine TriOps.q (.fieldAddr rfl) ?_
  refine TriOps.store1 rfl rfl ?_
  refine .nil ?_
  refine seqQ_n ?_
  refine .seq ?_
  refine .region ?_
  refine TriOps.q (.loadA rfl) ?_
  refine TriOps.storeA rfl rfl ?_
  refine .nil ?_
  refine seqQ_n ?_
  refine .ret (retQ_r _ (.one (.cellA rfl rfl)) (.one [0] _) ?_)
  exact ⟨T1, by simp [take], v1, rfl, hO1.sg0⟩
theorem tmine_spec (w : Value) (t : Tok) (R : Rds) (h : TokR R (w, t)) : Spec Try.prog 13 [.agg (encT (w, t)).toArray] R [] fun v H' => ∃ T, H' = [T] ∧ ∃ w', v = .agg (encT (w', t.short)).toArray ∧ TokR (sg0 T) (w', t.short) := by
  have i1 : Ones (encT (w, t)) := ⟨h.ones⟩
  refine Spec.body Try.func13 rfl Try.results13 Try.ntmps13 rfl ?_
  refine .seq ?_
  refine .region ?_
  refine TriOps.boxA rfl (fun b1 => ?_)
  refine TriOps.allocA (fun b2 => ?_)
  refine .nil ?_
  refine seqQ_n ?_
  refine .seq ?_
  refine .region ?_
  refine TriOps.q (.loadA rfl) ?_
  refine TriOps.callN (tshort_spec w t _ (h.mono fun b o hb => .inl hb)) (fun v T1 hv => ?_)
  obtain ⟨w1, rfl, hc1⟩ := hv
  have hv1 : RS (sg0 T1) 1 encS w1 t.short.scopes := hc1
  obtain ⟨p1, k1, rfl⟩ := hv1.val
  have i2 := (⟨hc1.ones⟩ : Ones (encT (_, t.short)))
  refine TriOps.storeA rfl rfl ?_
  refine .nil ?_
  refine seqQ_n ?_
  refine .seq ?_
  refine .region ?_
  refine TriOps.q (.fieldAddr rfl) ?_
  refine TriOps.q (.load1 rfl) ?_
  refine TriOps.q (.fieldAddr rfl) ?_
  refine TriOps.q (.load1 rfl) ?_
  refine TriOps.q (.fieldAddr rfl) ?_
  refine TriOps.q (.load1 rfl) ?_
  refine TriOps.q (.fieldAddr rfl) ?_
  refine TriOps.q (.load1 rfl) ?_
  refine TriOps.q (.fieldAddr rfl) ?_
  refine TriOps.q (.load1 rfl) ?_
  refine TriOps.q (.fieldAddr rfl) ?_
  refine TriOps.q (.load1 rfl) ?_
  refine TriOps.q (.fieldAddr rfl) ?_
  refine TriOps.q (.load1 rfl) ?_
  refine TriOps.q (.fieldAddr rfl) ?_
  refine TriOps.q (.load1 rfl) ?_
  refine TriOps.q (.fieldAddr rfl) ?_
  refine TriOps.q (.load1 rfl) ?_
  refine TriOps.q .bld ?_
  refine TriOps.storeA rfl rfl ?_
  refine .nil ?_
  refine seqQ_n ?_
  refine .ret (retQ_r _ (.one (.cellA rfl rfl)) (.one [0] _) ?_)
  exact ⟨T1, by simp [take], _, rfl, hc1⟩
theorem tplain_spec (w : Value) (t : Tok) (R : Rds) {R' : Rds} (h : TokR R' (w, t)) : Spec Try.prog 26 [.agg (encT (w, t)).toArray] R [] fun v H' => v = .agg (encT (w, t)).toArray ∧ H' = [] := by
  have i1 : Ones (encT (w, t)) := ⟨h.ones⟩
  have hv1 : RS R' 1 encS w t.scopes := h
  obtain ⟨p1, k1, rfl⟩ := hv1.val
  refine Spec.body Try.func26 rfl Try.results26 Try.ntmps26 rfl ?_
  refine .seq ?_
  refine .region ?_
  refine TriOps.boxA rfl (fun b1 => ?_)
  refine TriOps.allocA (fun b2 => ?_)
  refine .nil ?_
  refine seqQ_n ?_
  refine .seq ?_
  refine .region ?_
  refine TriOps.q (.fieldAddr rfl) ?_
  refine TriOps.q (.load1 rfl) ?_
  refine TriOps.q (.fieldAddr rfl) ?_
  refine TriOps.q (.load1 rfl) ?_
  refine TriOps.q (.fieldAddr rfl) ?_
  refine TriOps.q (.load1 rfl) ?_
  refine TriOps.q (.fieldAddr rfl) ?_
  refine TriOps.q (.load1 rfl) ?_
  refine TriOps.q (.fieldAddr rfl) ?_
  refine TriOps.q (.load1 rfl) ?_
  refine TriOps.q (.fieldAddr rfl) ?_
  refine TriOps.q (.load1 rfl) ?_
  refine TriOps.q (.fieldAddr rfl) ?_
  refine TriOps.q (.load1 rfl) ?_
  refine TriOps.q (.fieldAddr rfl) ?_
  refine TriOps.q (.load1 rfl) ?_
  refine TriOps.q (.fieldAddr rfl) ?_
  refine TriOps.q (.load1 rfl) ?_
  refine TriOps.q .bld ?_
  refine TriOps.storeA rfl rfl ?_
  refine .nil ?_
  refine seqQ_n ?_
  refine .ret (retQ_r _ (.one (.cellA rfl rfl)) (.none _) ?_)
  exact ⟨rfl, rfl⟩
def tlive : Tok := ⟨⟨#[97]⟩, 1, ⟨#[]⟩, ⟨#[]⟩, [], 1, 5, 0, false⟩
theorem tlives_spec (R : Rds) : Spec Try.prog 20 [] R [] fun v H' => v = .bool true ∧ H' = [] := by
  have hp : tput [] 1 tlive = (0, [(⟨#[97]⟩, tlive)]) := by rfl
  refine Spec.body Try.func20 rfl Try.results20 Try.ntmps20 rfl ?_
  refine .seq ?_
  refine .region ?_
  refine TriOps.q .assign ?_
  refine .nil ?_
  refine seqQ_n ?_
  refine .seq ?_
  refine .region ?_
  refine TriOps.callN (vnew_spec _) (fun u T0 hu => ?_)
  obtain ⟨g, rfl, hg⟩ := hu
  refine TriOps.q .assign ?_
  refine .nil ?_
  refine seqQ_n ?_
  refine .seq ?_
  refine .seq ?_
  refine .region ?_
  refine TriOps.q .move ?_
  refine TriOps.q (.eqNilA rfl rfl) ?_
  refine TriOps.q .move ?_
  refine TriOps.gt rfl ?_
  refine TriOps.q .move ?_
  refine TriOps.gt rfl ?_
  refine TriOps.callM (vfamily_spec g [] 0 T0 hg (by omega) (by omega) _) (fun v T1 hv => ?_)
  obtain ⟨rfl, hg1⟩ := hv
  refine TriOps.gt rfl ?_
  refine TriOps.q .neI ?_
  refine TriOps.q .pickF ?_
  refine TriOps.q .move ?_
  refine TriOps.split (t := 14) rfl (fun g2_7 => ?_) (fun g2_7 => ?_)
  · skip
    simp at g2_7
  · skip
    refine TriOps.gT g2_7 ?_
    refine TriOps.q .move ?_
    refine TriOps.gT g2_7 ?_
    refine TriOps.q .bld ?_
    refine TriOps.gT g2_7 ?_
    refine TriOps.callM (vPut_spec g [] 1 T1 hg1 (.slice none 0 0) tlive _ RS.nil' (by simp [Tok.few, tlive])) (fun v T2 hv => ?_)
    obtain ⟨rfl, hg2⟩ := hv
    rw [hp] at hg2 ⊢
    refine TriOps.gT g2_7 ?_
    refine TriOps.q .neI ?_
    refine TriOps.q (.pickFh g2_7) ?_
    refine .nil ?_
    refine seqQ_n ?_
    refine .cond rfl (fun h1 => ?_) (fun h1 => ?_)
    · skip
      simp at h1
    · skip
      refine .skip ?_
      refine seqQ_n ?_
      refine .seq ?_
      refine .region ?_
      refine TriOps.q .move ?_
      refine TriOps.callN (vfind_spec g _ 1 T2 hg2 ⟨#[97]⟩ 4 _ fun p hp => .inr (by simp [hp])) (fun v T3 hv => ?_)
      obtain ⟨w3, t3, rfl, hc3, ht3⟩ := hv
      have i3 : Ones (encT (w3, t3)) := ⟨hc3.ones⟩
      obtain rfl : tlive = t3 := ht3
      refine TriOps.q .move ?_
      refine TriOps.q .extract ?_
      refine TriOps.q .extract ?_
      refine TriOps.allocA (fun b2 => ?_)
      refine TriOps.storeA rfl rfl ?_
      refine TriOps.q .assign ?_
      refine .nil ?_
      refine seqQ_n ?_
      refine .seq ?_
      refine .region ?_
      refine TriOps.q .move ?_
      refine TriOps.callN (vfind_spec g _ 1 T2 hg2 ⟨#[97]⟩ 5 _ fun p hp => .inr (by simp [hp])) (fun v T4 hv => ?_)
      obtain ⟨w4, t4, rfl, hc4, ht4⟩ := hv
      have i4 : Ones (encT (w4, t4)) := ⟨hc4.ones⟩
      refine TriOps.q .move ?_
      refine TriOps.q .extract ?_
      refine TriOps.q .extract ?_
      refine TriOps.allocA (fun b4 => ?_)
      refine TriOps.storeA rfl rfl ?_
      refine TriOps.q .assign ?_
      refine .nil ?_
      refine seqQ_n ?_
      refine .seq ?_
      refine .region ?_
      refine TriOps.q .move ?_
      refine TriOps.q .move ?_
      refine TriOps.split (t := 31) rfl (fun g6_1 => ?_) (fun g6_1 => ?_)
      · skip
        refine TriOps.gT g6_1 ?_
        refine TriOps.q (.fieldAddr rfl) ?_
        refine TriOps.gT g6_1 ?_
        refine TriOps.q (.load1 rfl) ?_
        refine TriOps.gT g6_1 ?_
        refine TriOps.q .eqI ?_
        refine TriOps.q (.pickTh g6_1) ?_
        refine TriOps.q .move ?_
        refine TriOps.split (t := 36) rfl (fun g6_6 => ?_) (fun g6_6 => ?_)
        · skip
          refine TriOps.gT g6_6 ?_
          refine TriOps.q .move ?_
          refine TriOps.gT g6_6 ?_
          refine TriOps.q .not ?_
          refine TriOps.q (.pickTh g6_6) ?_
          refine TriOps.q .assign ?_
          refine .nil ?_
          refine seqQ_n ?_
          refine .ret (retQ_r _ (.one (.tmp rfl)) (.none _) ?_)
          skip
          first
            | exact ⟨rfl, rfl⟩
            | (exfalso; revert g6_1; decide)
            | (exfalso; simp [tlive] at g6_6)
        · skip
          refine TriOps.gF g6_6 ?_
          refine TriOps.gF g6_6 ?_
          refine TriOps.q (.pickFh g6_6) ?_
          refine TriOps.q .assign ?_
          refine .nil ?_
          refine seqQ_n ?_
          refine .ret (retQ_r _ (.one (.tmp rfl)) (.none _) ?_)
          skip
          first
            | exact ⟨rfl, rfl⟩
            | (exfalso; revert g6_1; decide)
            | (exfalso; simp [tlive] at g6_6)
      · skip
        refine TriOps.gF g6_1 ?_
        refine TriOps.gF g6_1 ?_
        refine TriOps.gF g6_1 ?_
        refine TriOps.q (.pickFh g6_1) ?_
        refine TriOps.q .move ?_
        refine TriOps.gf rfl rfl ?_
        refine TriOps.gf rfl rfl ?_
        refine TriOps.q .pickF ?_
        refine TriOps.q .assign ?_
        refine .nil ?_
        refine seqQ_n ?_
        refine .ret (retQ_r _ (.one (.tmp rfl)) (.none _) ?_)
        skip
        first
          | exact ⟨rfl, rfl⟩
          | (exfalso; revert g6_1; decide)
          | (exfalso; simp [tlive] at g6_6)
end Go.Proofs.Ytkepgbimlolemaa

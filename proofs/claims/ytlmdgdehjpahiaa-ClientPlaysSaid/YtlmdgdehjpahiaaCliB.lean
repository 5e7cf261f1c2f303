/- Clients: Check, by the program and by the document; what is cut short. No condition. -/
import Derived.Test.YtlmdgdehjpahiaaCliA
set_option linter.unusedVariables false
set_option maxRecDepth 4000
namespace Go.Proofs.Ytlmdgdehjpahiaa

/-- A client's cells: its texts, and where its lists are. -/
structure CR where
  id : ByteArray
  secret : ByteArray
  vu : Value
  vs : Value
def CR.cells (r : CR) : List Value := [.string r.id, .string r.secret, r.vu, r.vs]
structure CliR (R : Rds) (r : CR) (c : Cli) : Prop where
  id : r.id = c.id
  secret : r.secret = c.secret
  u : RS R 1 encS r.vu c.uris
  s : RS R 1 encS r.vs c.scopes
theorem CliR.mono {R R' : Rds} {r : CR} {c : Cli} (h : CliR R r c) (hr : ∀ b o, R b o → R' b o) : CliR R' r c := ⟨h.id, h.secret, h.u.mono hr, h.s.mono hr⟩
theorem CliR.ones {R : Rds} {r : CR} {c : Cli} (h : CliR R r c) : ∀ u ∈ r.cells, oneCell u = true := by
  have h1 := h.u.oneCell.h
  have h2 := h.s.oneCell.h
  simp [CR.cells, h1, h2]
  exact ⟨rfl, rfl⟩

theorem check_spec (r : CR) (c : Cli) (R : Rds) (h : CliR R r c) (hf : c.fits) : Spec Try.prog 20 [.agg r.cells.toArray] R [] fun v H' => v = .int .i64 c.check ∧ H' = [] := by
  obtain ⟨rid, rsec, vu, vs⟩ := r
  obtain ⟨e1, e2, hu, hs⟩ := h
  simp only at e1 e2 hu hs
  subst e1; subst e2
  obtain ⟨f1, f2, f3, f4⟩ := hf
  have i1 := hu.oneCell
  have i2 := hs.oneCell
  refine Spec.body Try.func20 rfl Try.results20 Try.ntmps20 rfl ?_
  refine .seq ?_
  refine .region ?_
  refine TriOps.boxA rfl (fun b1 => ?_)
  refine TriOps.q .assign ?_
  refine .nil ?_
  refine seqQ_n ?_
  refine .seq ?_
  refine .block ?_
  refine .seq ?_
  refine .region ?_
  refine TriOps.q (.fieldAddr rfl) ?_
  refine TriOps.q (.load1 rfl) ?_
  refine TriOps.callR (id_spec c.id f1 _) (fun v hv => ?_)
  subst hv
  refine TriOps.q .not ?_
  refine TriOps.q .assign ?_
  refine .nil ?_
  refine seqQ_n ?_
  refine .cond rfl (fun h1 => ?_) (fun h1 => ?_)
  · skip
    refine .seq ?_
    refine .region ?_
    refine TriOps.q .assign ?_
    refine .nil ?_
    refine seqQ_n ?_
    refine .ret (blkQ_r (seqQ_r (retQ_r _ (.one (.tmp rfl)) (.none _) ?_)))
    refine ⟨?_, rfl⟩
    congr 1
    unfold Cli.check
    simp only [Bool.not_eq_true', Bool.not_eq_false', decide_eq_true_eq, decide_eq_false_iff_not] at *
    have neg2 : isID c.id = true → ¬ isID c.id = false := fun h => by rw [h]; simp
    have neg3 : isSecret c.secret = true → ¬ isSecret c.secret = false := fun h => by rw [h]; simp
    first
      | rw [if_pos (by assumption)]
      | rw [if_neg (neg2 (by assumption)), if_pos (by assumption)]
      | (rw [if_neg (neg2 (by assumption)), if_neg (neg3 (by assumption))]
         have hn : ∀ {a b : Prop}, a → b → (a ∧ b) := fun x y => ⟨x, y⟩
         first
           | rw [if_pos (.inl (by omega))]
           | rw [if_pos (.inr (.inl (by omega)))]
           | rw [if_pos (.inr (.inr (.inl (by assumption))))]
           | rw [if_pos (.inr (.inr (.inr (by assumption))))]
           | (have hu1 : ¬ (c.uris.length < 1 ∨ 8 < c.uris.length ∨ ¬ c.uris.Nodup ∨ c.uris.all isAddr = false) := by
                rintro (h | h | h | h)
                · omega
                · omega
                · exact h (by assumption)
                · rw [show c.uris.all isAddr = true by assumption] at h; cases h
              rw [if_neg hu1]
              first
                | rw [if_pos (.inl (by omega))]
                | rw [if_pos (.inr (.inl (by assumption)))]
                | rw [if_pos (.inr (.inr (by assumption)))]
                | (rw [if_neg]
                   rintro (h | h | h)
                   · omega
                   · exact h (by assumption)
                   · rw [show c.scopes.all isWord = true by assumption] at h; cases h)))
  · skip
    refine .seq ?_
    refine .region ?_
    refine TriOps.q (.fieldAddr rfl) ?_
    refine TriOps.q (.load1 rfl) ?_
    refine TriOps.callR (secret_spec c.secret f2 _) (fun v hv => ?_)
    subst hv
    refine TriOps.q .not ?_
    refine TriOps.q .assign ?_
    refine .nil ?_
    refine seqQ_n ?_
    refine .cond rfl (fun h2 => ?_) (fun h2 => ?_)
    · skip
      refine .seq ?_
      refine .region ?_
      refine TriOps.q .assign ?_
      refine .nil ?_
      refine seqQ_n ?_
      refine .ret (blkQ_r (seqQ_r (retQ_r _ (.one (.tmp rfl)) (.none _) ?_)))
      refine ⟨?_, rfl⟩
      congr 1
      unfold Cli.check
      simp only [Bool.not_eq_true', Bool.not_eq_false', decide_eq_true_eq, decide_eq_false_iff_not] at *
      have neg2 : isID c.id = true → ¬ isID c.id = false := fun h => by rw [h]; simp
      have neg3 : isSecret c.secret = true → ¬ isSecret c.secret = false := fun h => by rw [h]; simp
      first
        | rw [if_pos (by assumption)]
        | rw [if_neg (neg2 (by assumption)), if_pos (by assumption)]
        | (rw [if_neg (neg2 (by assumption)), if_neg (neg3 (by assumption))]
           have hn : ∀ {a b : Prop}, a → b → (a ∧ b) := fun x y => ⟨x, y⟩
           first
             | rw [if_pos (.inl (by omega))]
             | rw [if_pos (.inr (.inl (by omega)))]
             | rw [if_pos (.inr (.inr (.inl (by assumption))))]
             | rw [if_pos (.inr (.inr (.inr (by assumption))))]
             | (have hu1 : ¬ (c.uris.length < 1 ∨ 8 < c.uris.length ∨ ¬ c.uris.Nodup ∨ c.uris.all isAddr = false) := by
                  rintro (h | h | h | h)
                  · omega
                  · omega
                  · exact h (by assumption)
                  · rw [show c.uris.all isAddr = true by assumption] at h; cases h
                rw [if_neg hu1]
                first
                  | rw [if_pos (.inl (by omega))]
                  | rw [if_pos (.inr (.inl (by assumption)))]
                  | rw [if_pos (.inr (.inr (by assumption)))]
                  | (rw [if_neg]
                     rintro (h | h | h)
                     · omega
                     · exact h (by assumption)
                     · rw [show c.scopes.all isWord = true by assumption] at h; cases h)))
    · skip
      refine .seq ?_
      refine .region ?_
      refine TriOps.q (.fieldAddr rfl) ?_
      refine TriOps.q (.load1 rfl) ?_
      refine TriOps.q (.lenR hu) ?_
      refine TriOps.q .lss ?_
      refine TriOps.q .move ?_
      refine TriOps.split (t := 18) rfl (fun g5_4 => ?_) (fun g5_4 => ?_)
      · skip
        refine TriOps.gF g5_4 ?_
        refine TriOps.gF g5_4 ?_
        refine TriOps.gF g5_4 ?_
        refine TriOps.gF g5_4 ?_
        refine TriOps.q (.pickTh g5_4) ?_
        refine TriOps.q .move ?_
        refine TriOps.gf rfl rfl ?_
        refine TriOps.gf rfl rfl ?_
        refine TriOps.gf rfl rfl ?_
        refine TriOps.gf rfl rfl ?_
        refine TriOps.q .pickT ?_
        refine TriOps.q .move ?_
        refine TriOps.gf rfl rfl ?_
        refine TriOps.gf rfl rfl ?_
        refine TriOps.gf rfl rfl ?_
        refine TriOps.gf rfl rfl ?_
        refine TriOps.q .pickT ?_
        refine TriOps.q .assign ?_
        refine .nil ?_
        refine seqQ_n ?_
        refine .condT ?_
        refine .seq ?_
        refine .region ?_
        refine TriOps.q .assign ?_
        refine .nil ?_
        refine seqQ_n ?_
        refine .ret (blkQ_r (seqQ_r (retQ_r _ (.one (.tmp rfl)) (.none _) ?_)))
        refine ⟨?_, rfl⟩
        congr 1
        unfold Cli.check
        simp only [Bool.not_eq_true', Bool.not_eq_false', decide_eq_true_eq, decide_eq_false_iff_not] at *
        have neg2 : isID c.id = true → ¬ isID c.id = false := fun h => by rw [h]; simp
        have neg3 : isSecret c.secret = true → ¬ isSecret c.secret = false := fun h => by rw [h]; simp
        first
          | rw [if_pos (by assumption)]
          | rw [if_neg (neg2 (by assumption)), if_pos (by assumption)]
          | (rw [if_neg (neg2 (by assumption)), if_neg (neg3 (by assumption))]
             have hn : ∀ {a b : Prop}, a → b → (a ∧ b) := fun x y => ⟨x, y⟩
             first
               | rw [if_pos (.inl (by omega))]
               | rw [if_pos (.inr (.inl (by omega)))]
               | rw [if_pos (.inr (.inr (.inl (by assumption))))]
               | rw [if_pos (.inr (.inr (.inr (by assumption))))]
               | (have hu1 : ¬ (c.uris.length < 1 ∨ 8 < c.uris.length ∨ ¬ c.uris.Nodup ∨ c.uris.all isAddr = false) := by
                    rintro (h | h | h | h)
                    · omega
                    · omega
                    · exact h (by assumption)
                    · rw [show c.uris.all isAddr = true by assumption] at h; cases h
                  rw [if_neg hu1]
                  first
                    | rw [if_pos (.inl (by omega))]
                    | rw [if_pos (.inr (.inl (by assumption)))]
                    | rw [if_pos (.inr (.inr (by assumption)))]
                    | (rw [if_neg]
                       rintro (h | h | h)
                       · omega
                       · exact h (by assumption)
                       · rw [show c.scopes.all isWord = true by assumption] at h; cases h)))
      · skip
        refine TriOps.gT g5_4 ?_
        refine TriOps.q (.fieldAddr rfl) ?_
        refine TriOps.gT g5_4 ?_
        refine TriOps.q (.load1 rfl) ?_
        refine TriOps.gT g5_4 ?_
        refine TriOps.q (.lenR hu) ?_
        refine TriOps.gT g5_4 ?_
        refine TriOps.q .gtr ?_
        refine TriOps.q (.pickFh g5_4) ?_
        refine TriOps.q .move ?_
        refine TriOps.split (t := 24) rfl (fun g5_10 => ?_) (fun g5_10 => ?_)
        · skip
          refine TriOps.gF g5_10 ?_
          refine TriOps.gF g5_10 ?_
          refine TriOps.gF g5_10 ?_
          refine TriOps.gF g5_10 ?_
          refine TriOps.q (.pickTh g5_10) ?_
          refine TriOps.q .move ?_
          refine TriOps.gf rfl rfl ?_
          refine TriOps.gf rfl rfl ?_
          refine TriOps.gf rfl rfl ?_
          refine TriOps.gf rfl rfl ?_
          refine TriOps.q .pickT ?_
          refine TriOps.q .assign ?_
          refine .nil ?_
          refine seqQ_n ?_
          refine .condT ?_
          refine .seq ?_
          refine .region ?_
          refine TriOps.q .assign ?_
          refine .nil ?_
          refine seqQ_n ?_
          refine .ret (blkQ_r (seqQ_r (retQ_r _ (.one (.tmp rfl)) (.none _) ?_)))
          refine ⟨?_, rfl⟩
          congr 1
          unfold Cli.check
          simp only [Bool.not_eq_true', Bool.not_eq_false', decide_eq_true_eq, decide_eq_false_iff_not] at *
          have neg2 : isID c.id = true → ¬ isID c.id = false := fun h => by rw [h]; simp
          have neg3 : isSecret c.secret = true → ¬ isSecret c.secret = false := fun h => by rw [h]; simp
          first
            | rw [if_pos (by assumption)]
            | rw [if_neg (neg2 (by assumption)), if_pos (by assumption)]
            | (rw [if_neg (neg2 (by assumption)), if_neg (neg3 (by assumption))]
               have hn : ∀ {a b : Prop}, a → b → (a ∧ b) := fun x y => ⟨x, y⟩
               first
                 | rw [if_pos (.inl (by omega))]
                 | rw [if_pos (.inr (.inl (by omega)))]
                 | rw [if_pos (.inr (.inr (.inl (by assumption))))]
                 | rw [if_pos (.inr (.inr (.inr (by assumption))))]
                 | (have hu1 : ¬ (c.uris.length < 1 ∨ 8 < c.uris.length ∨ ¬ c.uris.Nodup ∨ c.uris.all isAddr = false) := by
                      rintro (h | h | h | h)
                      · omega
                      · omega
                      · exact h (by assumption)
                      · rw [show c.uris.all isAddr = true by assumption] at h; cases h
                    rw [if_neg hu1]
                    first
                      | rw [if_pos (.inl (by omega))]
                      | rw [if_pos (.inr (.inl (by assumption)))]
                      | rw [if_pos (.inr (.inr (by assumption)))]
                      | (rw [if_neg]
                         rintro (h | h | h)
                         · omega
                         · exact h (by assumption)
                         · rw [show c.scopes.all isWord = true by assumption] at h; cases h)))
        · skip
          refine TriOps.gT g5_10 ?_
          refine TriOps.q (.fieldAddr rfl) ?_
          refine TriOps.gT g5_10 ?_
          refine TriOps.q (.load1 rfl) ?_
          refine TriOps.gT g5_10 ?_
          refine TriOps.callR (distinct_spec vu c.uris _ hu.rx) (fun v hv => ?_)
          subst hv
          refine TriOps.gT g5_10 ?_
          refine TriOps.q .not ?_
          refine TriOps.q (.pickFh g5_10) ?_
          refine TriOps.q .move ?_
          refine TriOps.split (t := 30) rfl (fun g5_16 => ?_) (fun g5_16 => ?_)
          · skip
            refine TriOps.gF g5_16 ?_
            refine TriOps.gF g5_16 ?_
            refine TriOps.gF g5_16 ?_
            refine TriOps.gF g5_16 ?_
            refine TriOps.q (.pickTh g5_16) ?_
            refine TriOps.q .assign ?_
            refine .nil ?_
            refine seqQ_n ?_
            refine .condT ?_
            refine .seq ?_
            refine .region ?_
            refine TriOps.q .assign ?_
            refine .nil ?_
            refine seqQ_n ?_
            refine .ret (blkQ_r (seqQ_r (retQ_r _ (.one (.tmp rfl)) (.none _) ?_)))
            refine ⟨?_, rfl⟩
            congr 1
            unfold Cli.check
            simp only [Bool.not_eq_true', Bool.not_eq_false', decide_eq_true_eq, decide_eq_false_iff_not] at *
            have neg2 : isID c.id = true → ¬ isID c.id = false := fun h => by rw [h]; simp
            have neg3 : isSecret c.secret = true → ¬ isSecret c.secret = false := fun h => by rw [h]; simp
            first
              | rw [if_pos (by assumption)]
              | rw [if_neg (neg2 (by assumption)), if_pos (by assumption)]
              | (rw [if_neg (neg2 (by assumption)), if_neg (neg3 (by assumption))]
                 have hn : ∀ {a b : Prop}, a → b → (a ∧ b) := fun x y => ⟨x, y⟩
                 first
                   | rw [if_pos (.inl (by omega))]
                   | rw [if_pos (.inr (.inl (by omega)))]
                   | rw [if_pos (.inr (.inr (.inl (by assumption))))]
                   | rw [if_pos (.inr (.inr (.inr (by assumption))))]
                   | (have hu1 : ¬ (c.uris.length < 1 ∨ 8 < c.uris.length ∨ ¬ c.uris.Nodup ∨ c.uris.all isAddr = false) := by
                        rintro (h | h | h | h)
                        · omega
                        · omega
                        · exact h (by assumption)
                        · rw [show c.uris.all isAddr = true by assumption] at h; cases h
                      rw [if_neg hu1]
                      first
                        | rw [if_pos (.inl (by omega))]
                        | rw [if_pos (.inr (.inl (by assumption)))]
                        | rw [if_pos (.inr (.inr (by assumption)))]
                        | (rw [if_neg]
                           rintro (h | h | h)
                           · omega
                           · exact h (by assumption)
                           · rw [show c.scopes.all isWord = true by assumption] at h; cases h)))
          · skip
            refine TriOps.gT g5_16 ?_
            refine TriOps.q (.fieldAddr rfl) ?_
            refine TriOps.gT g5_16 ?_
            refine TriOps.q (.load1 rfl) ?_
            refine TriOps.gT g5_16 ?_
            refine TriOps.callR (call_spec 72 isAddr vu c.uris _ hu.rx fun s hs' R' => addr_spec s (f3 s hs') R') (fun v hv => ?_)
            subst hv
            refine TriOps.gT g5_16 ?_
            refine TriOps.q .not ?_
            refine TriOps.q (.pickFh g5_16) ?_
            refine TriOps.q .assign ?_
            refine .nil ?_
            refine seqQ_n ?_
            refine .cond rfl (fun h3 => ?_) (fun h3 => ?_)
            · skip
              refine .seq ?_
              refine .region ?_
              refine TriOps.q .assign ?_
              refine .nil ?_
              refine seqQ_n ?_
              refine .ret (blkQ_r (seqQ_r (retQ_r _ (.one (.tmp rfl)) (.none _) ?_)))
              refine ⟨?_, rfl⟩
              congr 1
              unfold Cli.check
              simp only [Bool.not_eq_true', Bool.not_eq_false', decide_eq_true_eq, decide_eq_false_iff_not] at *
              have neg2 : isID c.id = true → ¬ isID c.id = false := fun h => by rw [h]; simp
              have neg3 : isSecret c.secret = true → ¬ isSecret c.secret = false := fun h => by rw [h]; simp
              first
                | rw [if_pos (by assumption)]
                | rw [if_neg (neg2 (by assumption)), if_pos (by assumption)]
                | (rw [if_neg (neg2 (by assumption)), if_neg (neg3 (by assumption))]
                   have hn : ∀ {a b : Prop}, a → b → (a ∧ b) := fun x y => ⟨x, y⟩
                   first
                     | rw [if_pos (.inl (by omega))]
                     | rw [if_pos (.inr (.inl (by omega)))]
                     | rw [if_pos (.inr (.inr (.inl (by assumption))))]
                     | rw [if_pos (.inr (.inr (.inr (by assumption))))]
                     | (have hu1 : ¬ (c.uris.length < 1 ∨ 8 < c.uris.length ∨ ¬ c.uris.Nodup ∨ c.uris.all isAddr = false) := by
                          rintro (h | h | h | h)
                          · omega
                          · omega
                          · exact h (by assumption)
                          · rw [show c.uris.all isAddr = true by assumption] at h; cases h
                        rw [if_neg hu1]
                        first
                          | rw [if_pos (.inl (by omega))]
                          | rw [if_pos (.inr (.inl (by assumption)))]
                          | rw [if_pos (.inr (.inr (by assumption)))]
                          | (rw [if_neg]
                             rintro (h | h | h)
                             · omega
                             · exact h (by assumption)
                             · rw [show c.scopes.all isWord = true by assumption] at h; cases h)))
            · skip
              refine .seq ?_
              refine .region ?_
              refine TriOps.q (.fieldAddr rfl) ?_
              refine TriOps.q (.load1 rfl) ?_
              refine TriOps.q (.lenR hs) ?_
              refine TriOps.q .gtr ?_
              refine TriOps.q .move ?_
              refine TriOps.split (t := 41) rfl (fun g7_4 => ?_) (fun g7_4 => ?_)
              · skip
                refine TriOps.gF g7_4 ?_
                refine TriOps.gF g7_4 ?_
                refine TriOps.gF g7_4 ?_
                refine TriOps.gF g7_4 ?_
                refine TriOps.q (.pickTh g7_4) ?_
                refine TriOps.q .move ?_
                refine TriOps.gf rfl rfl ?_
                refine TriOps.gf rfl rfl ?_
                refine TriOps.gf rfl rfl ?_
                refine TriOps.gf rfl rfl ?_
                refine TriOps.q .pickT ?_
                refine TriOps.q .assign ?_
                refine .nil ?_
                refine seqQ_n ?_
                refine .condT ?_
                refine .seq ?_
                refine .region ?_
                refine TriOps.q .assign ?_
                refine .nil ?_
                refine seqQ_n ?_
                refine .ret (blkQ_r (seqQ_r (retQ_r _ (.one (.tmp rfl)) (.none _) ?_)))
                refine ⟨?_, rfl⟩
                congr 1
                unfold Cli.check
                simp only [Bool.not_eq_true', Bool.not_eq_false', decide_eq_true_eq, decide_eq_false_iff_not] at *
                have neg2 : isID c.id = true → ¬ isID c.id = false := fun h => by rw [h]; simp
                have neg3 : isSecret c.secret = true → ¬ isSecret c.secret = false := fun h => by rw [h]; simp
                first
                  | rw [if_pos (by assumption)]
                  | rw [if_neg (neg2 (by assumption)), if_pos (by assumption)]
                  | (rw [if_neg (neg2 (by assumption)), if_neg (neg3 (by assumption))]
                     have hn : ∀ {a b : Prop}, a → b → (a ∧ b) := fun x y => ⟨x, y⟩
                     first
                       | rw [if_pos (.inl (by omega))]
                       | rw [if_pos (.inr (.inl (by omega)))]
                       | rw [if_pos (.inr (.inr (.inl (by assumption))))]
                       | rw [if_pos (.inr (.inr (.inr (by assumption))))]
                       | (have hu1 : ¬ (c.uris.length < 1 ∨ 8 < c.uris.length ∨ ¬ c.uris.Nodup ∨ c.uris.all isAddr = false) := by
                            rintro (h | h | h | h)
                            · omega
                            · omega
                            · exact h (by assumption)
                            · rw [show c.uris.all isAddr = true by assumption] at h; cases h
                          rw [if_neg hu1]
                          first
                            | rw [if_pos (.inl (by omega))]
                            | rw [if_pos (.inr (.inl (by assumption)))]
                            | rw [if_pos (.inr (.inr (by assumption)))]
                            | (rw [if_neg]
                               rintro (h | h | h)
                               · omega
                               · exact h (by assumption)
                               · rw [show c.scopes.all isWord = true by assumption] at h; cases h)))
              · skip
                refine TriOps.gT g7_4 ?_
                refine TriOps.q (.fieldAddr rfl) ?_
                refine TriOps.gT g7_4 ?_
                refine TriOps.q (.load1 rfl) ?_
                refine TriOps.gT g7_4 ?_
                refine TriOps.callR (distinct_spec vs c.scopes _ hs.rx) (fun v hv => ?_)
                subst hv
                refine TriOps.gT g7_4 ?_
                refine TriOps.q .not ?_
                refine TriOps.q (.pickFh g7_4) ?_
                refine TriOps.q .move ?_
                refine TriOps.split (t := 47) rfl (fun g7_10 => ?_) (fun g7_10 => ?_)
                · skip
                  refine TriOps.gF g7_10 ?_
                  refine TriOps.gF g7_10 ?_
                  refine TriOps.gF g7_10 ?_
                  refine TriOps.gF g7_10 ?_
                  refine TriOps.q (.pickTh g7_10) ?_
                  refine TriOps.q .assign ?_
                  refine .nil ?_
                  refine seqQ_n ?_
                  refine .condT ?_
                  refine .seq ?_
                  refine .region ?_
                  refine TriOps.q .assign ?_
                  refine .nil ?_
                  refine seqQ_n ?_
                  refine .ret (blkQ_r (seqQ_r (retQ_r _ (.one (.tmp rfl)) (.none _) ?_)))
                  refine ⟨?_, rfl⟩
                  congr 1
                  unfold Cli.check
                  simp only [Bool.not_eq_true', Bool.not_eq_false', decide_eq_true_eq, decide_eq_false_iff_not] at *
                  have neg2 : isID c.id = true → ¬ isID c.id = false := fun h => by rw [h]; simp
                  have neg3 : isSecret c.secret = true → ¬ isSecret c.secret = false := fun h => by rw [h]; simp
                  first
                    | rw [if_pos (by assumption)]
                    | rw [if_neg (neg2 (by assumption)), if_pos (by assumption)]
                    | (rw [if_neg (neg2 (by assumption)), if_neg (neg3 (by assumption))]
                       have hn : ∀ {a b : Prop}, a → b → (a ∧ b) := fun x y => ⟨x, y⟩
                       first
                         | rw [if_pos (.inl (by omega))]
                         | rw [if_pos (.inr (.inl (by omega)))]
                         | rw [if_pos (.inr (.inr (.inl (by assumption))))]
                         | rw [if_pos (.inr (.inr (.inr (by assumption))))]
                         | (have hu1 : ¬ (c.uris.length < 1 ∨ 8 < c.uris.length ∨ ¬ c.uris.Nodup ∨ c.uris.all isAddr = false) := by
                              rintro (h | h | h | h)
                              · omega
                              · omega
                              · exact h (by assumption)
                              · rw [show c.uris.all isAddr = true by assumption] at h; cases h
                            rw [if_neg hu1]
                            first
                              | rw [if_pos (.inl (by omega))]
                              | rw [if_pos (.inr (.inl (by assumption)))]
                              | rw [if_pos (.inr (.inr (by assumption)))]
                              | (rw [if_neg]
                                 rintro (h | h | h)
                                 · omega
                                 · exact h (by assumption)
                                 · rw [show c.scopes.all isWord = true by assumption] at h; cases h)))
                · skip
                  refine TriOps.gT g7_10 ?_
                  refine TriOps.q (.fieldAddr rfl) ?_
                  refine TriOps.gT g7_10 ?_
                  refine TriOps.q (.load1 rfl) ?_
                  refine TriOps.gT g7_10 ?_
                  refine TriOps.callR (call_spec 73 isWord vs c.scopes _ hs.rx fun s hs' R' => word_spec s (f4 s hs') R') (fun v hv => ?_)
                  subst hv
                  refine TriOps.gT g7_10 ?_
                  refine TriOps.q .not ?_
                  refine TriOps.q (.pickFh g7_10) ?_
                  refine TriOps.q .assign ?_
                  refine .nil ?_
                  refine seqQ_n ?_
                  refine .cond rfl (fun h4 => ?_) (fun h4 => ?_)
                  · skip
                    refine .seq ?_
                    refine .region ?_
                    refine TriOps.q .assign ?_
                    refine .nil ?_
                    refine seqQ_n ?_
                    refine .ret (blkQ_r (seqQ_r (retQ_r _ (.one (.tmp rfl)) (.none _) ?_)))
                    refine ⟨?_, rfl⟩
                    congr 1
                    unfold Cli.check
                    simp only [Bool.not_eq_true', Bool.not_eq_false', decide_eq_true_eq, decide_eq_false_iff_not] at *
                    have neg2 : isID c.id = true → ¬ isID c.id = false := fun h => by rw [h]; simp
                    have neg3 : isSecret c.secret = true → ¬ isSecret c.secret = false := fun h => by rw [h]; simp
                    first
                      | rw [if_pos (by assumption)]
                      | rw [if_neg (neg2 (by assumption)), if_pos (by assumption)]
                      | (rw [if_neg (neg2 (by assumption)), if_neg (neg3 (by assumption))]
                         have hn : ∀ {a b : Prop}, a → b → (a ∧ b) := fun x y => ⟨x, y⟩
                         first
                           | rw [if_pos (.inl (by omega))]
                           | rw [if_pos (.inr (.inl (by omega)))]
                           | rw [if_pos (.inr (.inr (.inl (by assumption))))]
                           | rw [if_pos (.inr (.inr (.inr (by assumption))))]
                           | (have hu1 : ¬ (c.uris.length < 1 ∨ 8 < c.uris.length ∨ ¬ c.uris.Nodup ∨ c.uris.all isAddr = false) := by
                                rintro (h | h | h | h)
                                · omega
                                · omega
                                · exact h (by assumption)
                                · rw [show c.uris.all isAddr = true by assumption] at h; cases h
                              rw [if_neg hu1]
                              first
                                | rw [if_pos (.inl (by omega))]
                                | rw [if_pos (.inr (.inl (by assumption)))]
                                | rw [if_pos (.inr (.inr (by assumption)))]
                                | (rw [if_neg]
                                   rintro (h | h | h)
                                   · omega
                                   · exact h (by assumption)
                                   · rw [show c.scopes.all isWord = true by assumption] at h; cases h)))
                  · skip
                    refine .skip ?_
                    refine blkQ_n (seqQ_n ?_)
                    refine .seq ?_
                    refine .region ?_
                    refine TriOps.q .assign ?_
                    refine .nil ?_
                    refine seqQ_n ?_
                    refine .ret (retQ_r _ (.one (.tmp rfl)) (.none _) ?_)
                    refine ⟨?_, rfl⟩
                    congr 1
                    unfold Cli.check
                    simp only [Bool.not_eq_true', Bool.not_eq_false', decide_eq_true_eq, decide_eq_false_iff_not] at *
                    have neg2 : isID c.id = true → ¬ isID c.id = false := fun h => by rw [h]; simp
                    have neg3 : isSecret c.secret = true → ¬ isSecret c.secret = false := fun h => by rw [h]; simp
                    first
                      | rw [if_pos (by assumption)]
                      | rw [if_neg (neg2 (by assumption)), if_pos (by assumption)]
                      | (rw [if_neg (neg2 (by assumption)), if_neg (neg3 (by assumption))]
                         have hn : ∀ {a b : Prop}, a → b → (a ∧ b) := fun x y => ⟨x, y⟩
                         first
                           | rw [if_pos (.inl (by omega))]
                           | rw [if_pos (.inr (.inl (by omega)))]
                           | rw [if_pos (.inr (.inr (.inl (by assumption))))]
                           | rw [if_pos (.inr (.inr (.inr (by assumption))))]
                           | (have hu1 : ¬ (c.uris.length < 1 ∨ 8 < c.uris.length ∨ ¬ c.uris.Nodup ∨ c.uris.all isAddr = false) := by
                                rintro (h | h | h | h)
                                · omega
                                · omega
                                · exact h (by assumption)
                                · rw [show c.uris.all isAddr = true by assumption] at h; cases h
                              rw [if_neg hu1]
                              first
                                | rw [if_pos (.inl (by omega))]
                                | rw [if_pos (.inr (.inl (by assumption)))]
                                | rw [if_pos (.inr (.inr (by assumption)))]
                                | (rw [if_neg]
                                   rintro (h | h | h)
                                   · omega
                                   · exact h (by assumption)
                                   · rw [show c.scopes.all isWord = true by assumption] at h; cases h)))
theorem chk_id {c : Cli} (h : isID c.id = false) : c.check = 9 := by unfold Cli.check; rw [if_pos h]
theorem chk_sec {c : Cli} (h1 : isID c.id = true) (h : isSecret c.secret = false) : c.check = 4 := by
  unfold Cli.check; rw [if_neg (by rw [h1]; simp), if_pos h]
theorem chk_u {c : Cli} (h1 : isID c.id = true) (h2 : isSecret c.secret = true) (h : c.uris.length < 1 ∨ 8 < c.uris.length ∨ ¬ c.uris.Nodup ∨ c.uris.all isAddr = false) : c.check = 4 := by
  unfold Cli.check; rw [if_neg (by rw [h1]; simp), if_neg (by rw [h2]; simp), if_pos h]
theorem chk_s {c : Cli} (h1 : isID c.id = true) (h2 : isSecret c.secret = true) (h : 16 < c.scopes.length ∨ ¬ c.scopes.Nodup ∨ c.scopes.all isWord = false) : c.check = 4 := by
  unfold Cli.check; rw [if_neg (by rw [h1]; simp), if_neg (by rw [h2]; simp)]
  split
  · rfl
  · simp only [h, if_true]
theorem chk_ok {c : Cli} (h1 : isID c.id = true) (h2 : isSecret c.secret = true) (h3 : 1 ≤ c.uris.length) (h4 : c.uris.length ≤ 8) (h5 : c.uris.Nodup) (h6 : c.uris.all isAddr = true) (h7 : c.scopes.length ≤ 16) (h8 : c.scopes.Nodup) (h9 : c.scopes.all isWord = true) : c.check = 0 := by
  unfold Cli.check
  rw [if_neg (by rw [h1]; simp), if_neg (by rw [h2]; simp), if_neg, if_neg]
  · rintro (h | h | h)
    · omega
    · exact h h8
    · rw [h9] at h; cases h
  · rintro (h | h | h | h)
    · omega
    · omega
    · exact h h5
    · rw [h6] at h; cases h
theorem isSecret_iff {s : ByteArray} : isSecret s = false ↔ s ≠ ⟨#[]⟩ ∧ (s.size < 8 ∨ 64 < s.size ∨ bAll s zSeen = false) := by
  unfold isSecret
  by_cases h : s = ⟨#[]⟩
  · simp [h]
  · by_cases h2 : 8 ≤ s.size
    · by_cases h3 : s.size ≤ 64
      · simp [h, h2, h3, show ¬ s.size < 8 by omega, show ¬ 64 < s.size by omega]
      · simp [h, h3, show 64 < s.size by omega]
    · simp [h, h2, show s.size < 8 by omega]
theorem secT1 {s : ByteArray} (h : s = ⟨#[]⟩) : isSecret s = true := by unfold isSecret; rw [decide_eq_true h]; rfl
theorem secT2 {s : ByteArray} (h1 : 8 ≤ s.size) (h2 : s.size ≤ 64) (h3 : bAll s zSeen = true) : isSecret s = true := by
  unfold isSecret; rw [decide_eq_true h1, decide_eq_true h2, h3]; simp
theorem all_take {l : List ByteArray} {p : ByteArray → Bool} {i : Nat} {z : ByteArray} (hz : l[i]? = some z) (h : (l.take i).all p = true) (hp : p z = true) : (l.take (i + 1)).all p = true := by
  rw [List.take_add_one, hz, List.all_append, h]; simp [hp]
theorem all_not {l : List ByteArray} {p : ByteArray → Bool} {i : Nat} {z : ByteArray} (hz : l[i]? = some z) (hp : p z = false) : l.all p = false := by
  rw [List.all_eq_false]; exact ⟨z, List.mem_of_getElem? hz, by rw [hp]; simp⟩

theorem rcheck_spec (r : CR) (c : Cli) (R : Rds) (h : CliR R r c) (hf : c.fits) : Spec Try.prog 21 [.agg r.cells.toArray] R [] fun v H' => v = .int .i64 c.check ∧ H' = [] := by
  obtain ⟨rid, rsec, vu, vs⟩ := r
  obtain ⟨e1, e2, hu, hs⟩ := h
  simp only at e1 e2 hu hs
  subst e1; subst e2
  obtain ⟨f1, f2, f3, f4⟩ := hf
  have i1 := hu.oneCell
  have i2 := hs.oneCell
  have ul := hu.le
  have sl := hs.le
  refine Spec.body Try.func21 rfl Try.results21 Try.ntmps21 rfl ?_
  refine .seq ?_
  refine .region ?_
  refine TriOps.boxA rfl (fun b1 => ?_)
  refine TriOps.q .assign ?_
  refine .nil ?_
  refine seqQ_n ?_
  refine .seq ?_
  refine .seq ?_
  refine .region ?_
  refine TriOps.q (.fieldAddr rfl) ?_
  refine TriOps.q (.load1 rfl) ?_
  refine TriOps.callR (rid_spec c.id f1 _) (fun v hv => ?_)
  subst hv
  refine TriOps.q .not ?_
  refine .nil ?_
  refine seqQ_n ?_
  refine .cond rfl (fun h1 => ?_) (fun h1 => ?_)
  · skip
    refine .seq ?_
    refine .region ?_
    refine TriOps.q .assign ?_
    refine .nil ?_
    refine seqQ_n ?_
    refine .ret (seqQ_r (retQ_r _ (.one (.tmp rfl)) (.none _) ?_))
    refine ⟨?_, rfl⟩
    congr 1
    first
      | rw [chk_ok k1 hy k3.1 k3.2.1 k3.2.2.2.1 k6 k3.2.2.1 k3.2.2.2.2 k9]
      | rw [chk_s k1 hy (.inr (.inr (all_not hz (by simpa using h7))))]
      | rw [chk_u k1 hy (.inr (.inr (.inr (all_not hz (by simpa using h5)))))]
      | rw [chk_u k1 hy (.inl (by have := (by simpa using g5_4 : c.uris = []); simp [this]))]
      | rw [chk_u k1 hy (.inr (.inl (by have := of_decide_eq_true g5_10; omega)))]
      | rw [chk_s k1 hy (.inl (by have := of_decide_eq_true g5_16; omega))]
      | rw [chk_u k1 hy (.inr (.inr (.inl (by simpa using g5_21))))]
      | rw [chk_s k1 hy (.inr (.inl (by simpa using h3)))]
      | rw [chk_id (by simpa using h1)]
      | rw [chk_sec k1 ks]
      | rw [chk_sec k1 (isSecret_iff.2 ⟨by simpa using g3_3, .inr (.inr (by simpa using h2))⟩)]
  · skip
    have k1 : isID c.id = true := by simpa using h1
    refine .skip ?_
    refine seqQ_n ?_
    refine .seq ?_
    refine Tri.cut (X := Unit) (fun _ => isSecret c.secret = true) (fun _ => [(1, .pointer (some ⟨b1, 0, none⟩))]) (fun _ => [[(b1, .cells (CR.cells ⟨c.id, c.secret, vu, vs⟩).toArray 35 (0, 0))]]) ?_ ?_
    · refine .seq ?_
      refine .region ?_
      refine TriOps.q (.fieldAddr rfl) ?_
      refine TriOps.q (.load1 rfl) ?_
      refine TriOps.q .neS ?_
      refine TriOps.q .move ?_
      refine TriOps.split (t := 12) rfl (fun g3_3 => ?_) (fun g3_3 => ?_)
      · skip
        refine TriOps.gT g3_3 ?_
        refine TriOps.q (.fieldAddr rfl) ?_
        refine TriOps.gT g3_3 ?_
        refine TriOps.q (.load1 rfl) ?_
        refine TriOps.gT g3_3 ?_
        refine TriOps.q .lenS ?_
        refine TriOps.gT g3_3 ?_
        refine TriOps.q .lss ?_
        refine TriOps.gT g3_3 ?_
        refine TriOps.q .move ?_
        refine TriOps.split (t := 17) rfl (fun g3_8 => ?_) (fun g3_8 => ?_)
        · skip
          have ks : isSecret c.secret = false := isSecret_iff.2 ⟨by simpa using g3_3, .inl (by have := (of_decide_eq_true g3_8 : (c.secret.size : Int) < 8); omega)⟩
          refine TriOps.gF g3_8 ?_
          refine TriOps.gF g3_8 ?_
          refine TriOps.gF g3_8 ?_
          refine TriOps.gF g3_8 ?_
          refine TriOps.gT g3_3 ?_
          refine TriOps.q (.pickTh g3_8) ?_
          refine TriOps.gT g3_3 ?_
          refine TriOps.q .move ?_
          refine TriOps.gf rfl rfl ?_
          refine TriOps.gf rfl rfl ?_
          refine TriOps.gf rfl rfl ?_
          refine TriOps.gf rfl rfl ?_
          refine TriOps.gT g3_3 ?_
          refine TriOps.q .pickT ?_
          refine TriOps.q (.pickTh g3_3) ?_
          refine .nil ?_
          refine seqQ_n ?_
          refine .condT ?_
          refine .seq ?_
          refine .region ?_
          refine TriOps.q .assign ?_
          refine .nil ?_
          refine seqQ_n ?_
          refine .ret (joinQ_r (seqQ_r (retQ_r _ (.one (.tmp rfl)) (.none _) ?_)))
          refine ⟨?_, rfl⟩
          congr 1
          first
            | rw [chk_ok k1 hy k3.1 k3.2.1 k3.2.2.2.1 k6 k3.2.2.1 k3.2.2.2.2 k9]
            | rw [chk_s k1 hy (.inr (.inr (all_not hz (by simpa using h7))))]
            | rw [chk_u k1 hy (.inr (.inr (.inr (all_not hz (by simpa using h5)))))]
            | rw [chk_u k1 hy (.inl (by have := (by simpa using g5_4 : c.uris = []); simp [this]))]
            | rw [chk_u k1 hy (.inr (.inl (by have := of_decide_eq_true g5_10; omega)))]
            | rw [chk_s k1 hy (.inl (by have := of_decide_eq_true g5_16; omega))]
            | rw [chk_u k1 hy (.inr (.inr (.inl (by simpa using g5_21))))]
            | rw [chk_s k1 hy (.inr (.inl (by simpa using h3)))]
            | rw [chk_id (by simpa using h1)]
            | rw [chk_sec k1 ks]
            | rw [chk_sec k1 (isSecret_iff.2 ⟨by simpa using g3_3, .inr (.inr (by simpa using h2))⟩)]
        · skip
          refine TriOps.gT g3_8 ?_
          refine TriOps.q (.fieldAddr rfl) ?_
          refine TriOps.gT g3_8 ?_
          refine TriOps.q (.load1 rfl) ?_
          refine TriOps.gT g3_8 ?_
          refine TriOps.q .lenS ?_
          refine TriOps.gT g3_8 ?_
          refine TriOps.q .gtr ?_
          refine TriOps.gT g3_3 ?_
          refine TriOps.q (.pickFh g3_8) ?_
          refine TriOps.gT g3_3 ?_
          refine TriOps.q .move ?_
          refine TriOps.split (t := 23) rfl (fun g3_14 => ?_) (fun g3_14 => ?_)
          · skip
            have ks : isSecret c.secret = false := isSecret_iff.2 ⟨by simpa using g3_3, .inr (.inl (by have := (of_decide_eq_true g3_14 : (64 : Int) < c.secret.size); omega))⟩
            refine TriOps.gF g3_14 ?_
            refine TriOps.gF g3_14 ?_
            refine TriOps.gF g3_14 ?_
            refine TriOps.gF g3_14 ?_
            refine TriOps.gT g3_3 ?_
            refine TriOps.q (.pickTh g3_14) ?_
            refine TriOps.q (.pickTh g3_3) ?_
            refine .nil ?_
            refine seqQ_n ?_
            refine .condT ?_
            refine .seq ?_
            refine .region ?_
            refine TriOps.q .assign ?_
            refine .nil ?_
            refine seqQ_n ?_
            refine .ret (joinQ_r (seqQ_r (retQ_r _ (.one (.tmp rfl)) (.none _) ?_)))
            refine ⟨?_, rfl⟩
            congr 1
            first
              | rw [chk_ok k1 hy k3.1 k3.2.1 k3.2.2.2.1 k6 k3.2.2.1 k3.2.2.2.2 k9]
              | rw [chk_s k1 hy (.inr (.inr (all_not hz (by simpa using h7))))]
              | rw [chk_u k1 hy (.inr (.inr (.inr (all_not hz (by simpa using h5)))))]
              | rw [chk_u k1 hy (.inl (by have := (by simpa using g5_4 : c.uris = []); simp [this]))]
              | rw [chk_u k1 hy (.inr (.inl (by have := of_decide_eq_true g5_10; omega)))]
              | rw [chk_s k1 hy (.inl (by have := of_decide_eq_true g5_16; omega))]
              | rw [chk_u k1 hy (.inr (.inr (.inl (by simpa using g5_21))))]
              | rw [chk_s k1 hy (.inr (.inl (by simpa using h3)))]
              | rw [chk_id (by simpa using h1)]
              | rw [chk_sec k1 ks]
              | rw [chk_sec k1 (isSecret_iff.2 ⟨by simpa using g3_3, .inr (.inr (by simpa using h2))⟩)]
          · skip
            refine TriOps.gT g3_14 ?_
            refine TriOps.q (.fieldAddr rfl) ?_
            refine TriOps.gT g3_14 ?_
            refine TriOps.q (.load1 rfl) ?_
            refine TriOps.gT g3_14 ?_
            refine TriOps.callR (plain_spec c.secret f2 _) (fun v hv => ?_)
            subst hv
            refine TriOps.gT g3_14 ?_
            refine TriOps.q .not ?_
            refine TriOps.gT g3_3 ?_
            refine TriOps.q (.pickFh g3_14) ?_
            refine TriOps.q (.pickTh g3_3) ?_
            refine .nil ?_
            refine seqQ_n ?_
            refine .cond rfl (fun h2 => ?_) (fun h2 => ?_)
            · skip
              refine .seq ?_
              refine .region ?_
              refine TriOps.q .assign ?_
              refine .nil ?_
              refine seqQ_n ?_
              refine .ret (joinQ_r (seqQ_r (retQ_r _ (.one (.tmp rfl)) (.none _) ?_)))
              refine ⟨?_, rfl⟩
              congr 1
              first
                | rw [chk_ok k1 hy k3.1 k3.2.1 k3.2.2.2.1 k6 k3.2.2.1 k3.2.2.2.2 k9]
                | rw [chk_s k1 hy (.inr (.inr (all_not hz (by simpa using h7))))]
                | rw [chk_u k1 hy (.inr (.inr (.inr (all_not hz (by simpa using h5)))))]
                | rw [chk_u k1 hy (.inl (by have := (by simpa using g5_4 : c.uris = []); simp [this]))]
                | rw [chk_u k1 hy (.inr (.inl (by have := of_decide_eq_true g5_10; omega)))]
                | rw [chk_s k1 hy (.inl (by have := of_decide_eq_true g5_16; omega))]
                | rw [chk_u k1 hy (.inr (.inr (.inl (by simpa using g5_21))))]
                | rw [chk_s k1 hy (.inr (.inl (by simpa using h3)))]
                | rw [chk_id (by simpa using h1)]
                | rw [chk_sec k1 ks]
                | rw [chk_sec k1 (isSecret_iff.2 ⟨by simpa using g3_3, .inr (.inr (by simpa using h2))⟩)]
            · skip
              refine .skip ?_
              refine joinQ_n () ?_ ((EnvLe.nil _).cons rfl) (HLe.refl _)
              first
                | exact secT1 (by simpa using g3_3)
                | exact secT2 (by have := (of_decide_eq_false g3_8 : ¬ (c.secret.size : Int) < 8); omega) (by have := (of_decide_eq_false g3_14 : ¬ (64 : Int) < c.secret.size); omega) (by simpa using h2)
      · skip
        refine TriOps.gF g3_3 ?_
        refine TriOps.gF g3_3 ?_
        refine TriOps.gF g3_3 ?_
        refine TriOps.gF g3_3 ?_
        refine TriOps.gF g3_3 ?_
        refine TriOps.gfU rfl ?_
        refine TriOps.gfU rfl ?_
        refine TriOps.gfU rfl ?_
        refine TriOps.gfU rfl ?_
        refine TriOps.gF g3_3 ?_
        refine TriOps.gF g3_3 ?_
        refine TriOps.gfU rfl ?_
        refine TriOps.gfU rfl ?_
        refine TriOps.gfU rfl ?_
        refine TriOps.gfU rfl ?_
        refine TriOps.gF g3_3 ?_
        refine TriOps.q (.pickFh g3_3) ?_
        refine .nil ?_
        refine seqQ_n ?_
        refine .condF ?_
        refine .skip ?_
        refine joinQ_n () ?_ ((EnvLe.nil _).cons rfl) (HLe.refl _)
        first
          | exact secT1 (by simpa using g3_3)
          | exact secT2 (by have := (of_decide_eq_false g3_8 : ¬ (c.secret.size : Int) < 8); omega) (by have := (of_decide_eq_false g3_14 : ¬ (64 : Int) < c.secret.size); omega) (by simpa using h2)
    · intro y hy
      refine seqQ_n ?_
      refine .seq ?_
      refine .seq ?_
      refine .region ?_
      refine TriOps.q (.fieldAddr rfl) ?_
      refine TriOps.q (.load1 rfl) ?_
      refine TriOps.q (.lenR hu) ?_
      refine TriOps.q .eqI ?_
      refine TriOps.q .move ?_
      refine TriOps.split (t := 34) rfl (fun g5_4 => ?_) (fun g5_4 => ?_)
      · skip
        refine TriOps.gF g5_4 ?_
        refine TriOps.gF g5_4 ?_
        refine TriOps.gF g5_4 ?_
        refine TriOps.gF g5_4 ?_
        refine TriOps.q (.pickTh g5_4) ?_
        refine TriOps.q .move ?_
        refine TriOps.gf rfl rfl ?_
        refine TriOps.gf rfl rfl ?_
        refine TriOps.gf rfl rfl ?_
        refine TriOps.gf rfl rfl ?_
        refine TriOps.q .pickT ?_
        refine TriOps.q .move ?_
        refine TriOps.gf rfl rfl ?_
        refine TriOps.gf rfl rfl ?_
        refine TriOps.gf rfl rfl ?_
        refine TriOps.q .pickT ?_
        refine TriOps.q .move ?_
        refine TriOps.gf rfl rfl ?_
        refine TriOps.gf rfl rfl ?_
        refine TriOps.gf rfl rfl ?_
        refine TriOps.q .pickT ?_
        refine .nil ?_
        refine seqQ_n ?_
        refine .condT ?_
        refine .seq ?_
        refine .region ?_
        refine TriOps.q .assign ?_
        refine .nil ?_
        refine seqQ_n ?_
        refine .ret (seqQ_r (retQ_r _ (.one (.tmp rfl)) (.none _) ?_))
        refine ⟨?_, rfl⟩
        congr 1
        first
          | rw [chk_ok k1 hy k3.1 k3.2.1 k3.2.2.2.1 k6 k3.2.2.1 k3.2.2.2.2 k9]
          | rw [chk_s k1 hy (.inr (.inr (all_not hz (by simpa using h7))))]
          | rw [chk_u k1 hy (.inr (.inr (.inr (all_not hz (by simpa using h5)))))]
          | rw [chk_u k1 hy (.inl (by have := (by simpa using g5_4 : c.uris = []); simp [this]))]
          | rw [chk_u k1 hy (.inr (.inl (by have := of_decide_eq_true g5_10; omega)))]
          | rw [chk_s k1 hy (.inl (by have := of_decide_eq_true g5_16; omega))]
          | rw [chk_u k1 hy (.inr (.inr (.inl (by simpa using g5_21))))]
          | rw [chk_s k1 hy (.inr (.inl (by simpa using h3)))]
          | rw [chk_id (by simpa using h1)]
          | rw [chk_sec k1 ks]
          | rw [chk_sec k1 (isSecret_iff.2 ⟨by simpa using g3_3, .inr (.inr (by simpa using h2))⟩)]
      · skip
        refine TriOps.gT g5_4 ?_
        refine TriOps.q (.fieldAddr rfl) ?_
        refine TriOps.gT g5_4 ?_
        refine TriOps.q (.load1 rfl) ?_
        refine TriOps.gT g5_4 ?_
        refine TriOps.q (.lenR hu) ?_
        refine TriOps.gT g5_4 ?_
        refine TriOps.q .gtr ?_
        refine TriOps.q (.pickFh g5_4) ?_
        refine TriOps.q .move ?_
        refine TriOps.split (t := 40) rfl (fun g5_10 => ?_) (fun g5_10 => ?_)
        · skip
          refine TriOps.gF g5_10 ?_
          refine TriOps.gF g5_10 ?_
          refine TriOps.gF g5_10 ?_
          refine TriOps.gF g5_10 ?_
          refine TriOps.q (.pickTh g5_10) ?_
          refine TriOps.q .move ?_
          refine TriOps.gf rfl rfl ?_
          refine TriOps.gf rfl rfl ?_
          refine TriOps.gf rfl rfl ?_
          refine TriOps.q .pickT ?_
          refine TriOps.q .move ?_
          refine TriOps.gf rfl rfl ?_
          refine TriOps.gf rfl rfl ?_
          refine TriOps.gf rfl rfl ?_
          refine TriOps.q .pickT ?_
          refine .nil ?_
          refine seqQ_n ?_
          refine .condT ?_
          refine .seq ?_
          refine .region ?_
          refine TriOps.q .assign ?_
          refine .nil ?_
          refine seqQ_n ?_
          refine .ret (seqQ_r (retQ_r _ (.one (.tmp rfl)) (.none _) ?_))
          refine ⟨?_, rfl⟩
          congr 1
          first
            | rw [chk_ok k1 hy k3.1 k3.2.1 k3.2.2.2.1 k6 k3.2.2.1 k3.2.2.2.2 k9]
            | rw [chk_s k1 hy (.inr (.inr (all_not hz (by simpa using h7))))]
            | rw [chk_u k1 hy (.inr (.inr (.inr (all_not hz (by simpa using h5)))))]
            | rw [chk_u k1 hy (.inl (by have := (by simpa using g5_4 : c.uris = []); simp [this]))]
            | rw [chk_u k1 hy (.inr (.inl (by have := of_decide_eq_true g5_10; omega)))]
            | rw [chk_s k1 hy (.inl (by have := of_decide_eq_true g5_16; omega))]
            | rw [chk_u k1 hy (.inr (.inr (.inl (by simpa using g5_21))))]
            | rw [chk_s k1 hy (.inr (.inl (by simpa using h3)))]
            | rw [chk_id (by simpa using h1)]
            | rw [chk_sec k1 ks]
            | rw [chk_sec k1 (isSecret_iff.2 ⟨by simpa using g3_3, .inr (.inr (by simpa using h2))⟩)]
        · skip
          refine TriOps.gT g5_10 ?_
          refine TriOps.q (.fieldAddr rfl) ?_
          refine TriOps.gT g5_10 ?_
          refine TriOps.q (.load1 rfl) ?_
          refine TriOps.gT g5_10 ?_
          refine TriOps.q (.lenR hs) ?_
          refine TriOps.gT g5_10 ?_
          refine TriOps.q .gtr ?_
          refine TriOps.q (.pickFh g5_10) ?_
          refine TriOps.q .move ?_
          refine TriOps.split (t := 46) rfl (fun g5_16 => ?_) (fun g5_16 => ?_)
          · skip
            refine TriOps.gF g5_16 ?_
            refine TriOps.gF g5_16 ?_
            refine TriOps.gF g5_16 ?_
            refine TriOps.q (.pickTh g5_16) ?_
            refine TriOps.q .move ?_
            refine TriOps.gf rfl rfl ?_
            refine TriOps.gf rfl rfl ?_
            refine TriOps.gf rfl rfl ?_
            refine TriOps.q .pickT ?_
            refine .nil ?_
            refine seqQ_n ?_
            refine .condT ?_
            refine .seq ?_
            refine .region ?_
            refine TriOps.q .assign ?_
            refine .nil ?_
            refine seqQ_n ?_
            refine .ret (seqQ_r (retQ_r _ (.one (.tmp rfl)) (.none _) ?_))
            refine ⟨?_, rfl⟩
            congr 1
            first
              | rw [chk_ok k1 hy k3.1 k3.2.1 k3.2.2.2.1 k6 k3.2.2.1 k3.2.2.2.2 k9]
              | rw [chk_s k1 hy (.inr (.inr (all_not hz (by simpa using h7))))]
              | rw [chk_u k1 hy (.inr (.inr (.inr (all_not hz (by simpa using h5)))))]
              | rw [chk_u k1 hy (.inl (by have := (by simpa using g5_4 : c.uris = []); simp [this]))]
              | rw [chk_u k1 hy (.inr (.inl (by have := of_decide_eq_true g5_10; omega)))]
              | rw [chk_s k1 hy (.inl (by have := of_decide_eq_true g5_16; omega))]
              | rw [chk_u k1 hy (.inr (.inr (.inl (by simpa using g5_21))))]
              | rw [chk_s k1 hy (.inr (.inl (by simpa using h3)))]
              | rw [chk_id (by simpa using h1)]
              | rw [chk_sec k1 ks]
              | rw [chk_sec k1 (isSecret_iff.2 ⟨by simpa using g3_3, .inr (.inr (by simpa using h2))⟩)]
          · skip
            refine TriOps.gT g5_16 ?_
            refine TriOps.q (.fieldAddr rfl) ?_
            refine TriOps.gT g5_16 ?_
            refine TriOps.q (.load1 rfl) ?_
            refine TriOps.gT g5_16 ?_
            refine TriOps.callR (twice_spec vu c.uris _ hu.rx) (fun v hv => ?_)
            subst hv
            refine TriOps.q (.pickFh g5_16) ?_
            refine TriOps.q .move ?_
            refine TriOps.split (t := 51) rfl (fun g5_21 => ?_) (fun g5_21 => ?_)
            · skip
              refine TriOps.gF g5_21 ?_
              refine TriOps.gF g5_21 ?_
              refine TriOps.gF g5_21 ?_
              refine TriOps.q (.pickTh g5_21) ?_
              refine .nil ?_
              refine seqQ_n ?_
              refine .condT ?_
              refine .seq ?_
              refine .region ?_
              refine TriOps.q .assign ?_
              refine .nil ?_
              refine seqQ_n ?_
              refine .ret (seqQ_r (retQ_r _ (.one (.tmp rfl)) (.none _) ?_))
              refine ⟨?_, rfl⟩
              congr 1
              first
                | rw [chk_ok k1 hy k3.1 k3.2.1 k3.2.2.2.1 k6 k3.2.2.1 k3.2.2.2.2 k9]
                | rw [chk_s k1 hy (.inr (.inr (all_not hz (by simpa using h7))))]
                | rw [chk_u k1 hy (.inr (.inr (.inr (all_not hz (by simpa using h5)))))]
                | rw [chk_u k1 hy (.inl (by have := (by simpa using g5_4 : c.uris = []); simp [this]))]
                | rw [chk_u k1 hy (.inr (.inl (by have := of_decide_eq_true g5_10; omega)))]
                | rw [chk_s k1 hy (.inl (by have := of_decide_eq_true g5_16; omega))]
                | rw [chk_u k1 hy (.inr (.inr (.inl (by simpa using g5_21))))]
                | rw [chk_s k1 hy (.inr (.inl (by simpa using h3)))]
                | rw [chk_id (by simpa using h1)]
                | rw [chk_sec k1 ks]
                | rw [chk_sec k1 (isSecret_iff.2 ⟨by simpa using g3_3, .inr (.inr (by simpa using h2))⟩)]
            · skip
              refine TriOps.gT g5_21 ?_
              refine TriOps.q (.fieldAddr rfl) ?_
              refine TriOps.gT g5_21 ?_
              refine TriOps.q (.load1 rfl) ?_
              refine TriOps.gT g5_21 ?_
              refine TriOps.callR (twice_spec vs c.scopes _ hs.rx) (fun v hv => ?_)
              subst hv
              refine TriOps.q (.pickFh g5_21) ?_
              refine .nil ?_
              refine seqQ_n ?_
              refine .cond rfl (fun h3 => ?_) (fun h3 => ?_)
              · skip
                refine .seq ?_
                refine .region ?_
                refine TriOps.q .assign ?_
                refine .nil ?_
                refine seqQ_n ?_
                refine .ret (seqQ_r (retQ_r _ (.one (.tmp rfl)) (.none _) ?_))
                refine ⟨?_, rfl⟩
                congr 1
                first
                  | rw [chk_ok k1 hy k3.1 k3.2.1 k3.2.2.2.1 k6 k3.2.2.1 k3.2.2.2.2 k9]
                  | rw [chk_s k1 hy (.inr (.inr (all_not hz (by simpa using h7))))]
                  | rw [chk_u k1 hy (.inr (.inr (.inr (all_not hz (by simpa using h5)))))]
                  | rw [chk_u k1 hy (.inl (by have := (by simpa using g5_4 : c.uris = []); simp [this]))]
                  | rw [chk_u k1 hy (.inr (.inl (by have := of_decide_eq_true g5_10; omega)))]
                  | rw [chk_s k1 hy (.inl (by have := of_decide_eq_true g5_16; omega))]
                  | rw [chk_u k1 hy (.inr (.inr (.inl (by simpa using g5_21))))]
                  | rw [chk_s k1 hy (.inr (.inl (by simpa using h3)))]
                  | rw [chk_id (by simpa using h1)]
                  | rw [chk_sec k1 ks]
                  | rw [chk_sec k1 (isSecret_iff.2 ⟨by simpa using g3_3, .inr (.inr (by simpa using h2))⟩)]
              · skip
                have k3 : 1 ≤ c.uris.length ∧ c.uris.length ≤ 8 ∧ c.scopes.length ≤ 16 ∧ c.uris.Nodup ∧ c.scopes.Nodup := by
                  refine ⟨?_, ?_, ?_, ?_, ?_⟩
                  · have : c.uris.length ≠ 0 := by simpa using g5_4
                    omega
                  · have := of_decide_eq_false g5_10; omega
                  · have := of_decide_eq_false g5_16; omega
                  · simpa using g5_21
                  · simpa using h3
                refine .skip ?_
                refine seqQ_n ?_
                refine .seq ?_
                refine .seq ?_
                refine .region ?_
                refine TriOps.q .assign ?_
                refine .nil ?_
                refine seqQ_n ?_
                refine .block ?_
                refine .loop (X := Nat) (fun i => i ≤ c.uris.length ∧ (c.uris.take i).all isAddr = true) (fun i => [(1, .pointer (some ⟨b1, 0, none⟩)), (3, .int .i64 (i : Nat))]) (fun _ => [[(b1, .cells (CR.cells ⟨c.id, c.secret, vu, vs⟩).toArray 35 (0, 0))]]) (fun i => c.uris.length - i) 0 ⟨by omega, by simp⟩ (((EnvLe.nil _).cons rfl).cons rfl) (HLe.refl _) ?_
                rintro i ⟨hi, hn⟩
                refine .seq ?_
                refine .seq ?_
                refine .region ?_
                refine TriOps.q .move ?_
                refine TriOps.q (.fieldAddr rfl) ?_
                refine TriOps.q (.load1 rfl) ?_
                refine TriOps.q (.lenR hu) ?_
                refine TriOps.q .lss ?_
                refine .nil ?_
                refine seqQ_n ?_
                refine .cond rfl (fun h4 => ?_) (fun h4 => ?_)
                · skip
                  have hlt : i < c.uris.length := by simp at h4; omega
                  obtain ⟨z, hz⟩ : ∃ z, c.uris[i]? = some z := ⟨_, List.getElem?_eq_getElem hlt⟩
                  have pz : PC R (baseP vu (i * 1)) (encS z) := hu.pc hz
                  refine .skip ?_
                  refine seqQ_n ?_
                  refine .seq ?_
                  refine .block ?_
                  refine .seq ?_
                  refine .region ?_
                  refine TriOps.q (.fieldAddr rfl) ?_
                  refine TriOps.q (.load1 rfl) ?_
                  refine TriOps.q .move ?_
                  refine TriOps.q (.indexR i hu hz rfl rfl rfl) ?_
                  refine TriOps.q (.load1 rfl) ?_
                  refine TriOps.callR (raddr_spec z (f3 z (List.mem_of_getElem? hz)) _) (fun v hv => ?_)
                  subst hv
                  refine TriOps.q .not ?_
                  refine .nil ?_
                  refine seqQ_n ?_
                  refine .cond rfl (fun h5 => ?_) (fun h5 => ?_)
                  · skip
                    refine .seq ?_
                    refine .region ?_
                    refine TriOps.q .assign ?_
                    refine .nil ?_
                    refine seqQ_n ?_
                    refine .ret (blkQ_r (seqQ_r (loopQ_r (blkQ_r (seqQ_r (retQ_r _ (.one (.tmp rfl)) (.none _) ?_))))))
                    refine ⟨?_, rfl⟩
                    congr 1
                    first
                      | rw [chk_ok k1 hy k3.1 k3.2.1 k3.2.2.2.1 k6 k3.2.2.1 k3.2.2.2.2 k9]
                      | rw [chk_s k1 hy (.inr (.inr (all_not hz (by simpa using h7))))]
                      | rw [chk_u k1 hy (.inr (.inr (.inr (all_not hz (by simpa using h5)))))]
                      | rw [chk_u k1 hy (.inl (by have := (by simpa using g5_4 : c.uris = []); simp [this]))]
                      | rw [chk_u k1 hy (.inr (.inl (by have := of_decide_eq_true g5_10; omega)))]
                      | rw [chk_s k1 hy (.inl (by have := of_decide_eq_true g5_16; omega))]
                      | rw [chk_u k1 hy (.inr (.inr (.inl (by simpa using g5_21))))]
                      | rw [chk_s k1 hy (.inr (.inl (by simpa using h3)))]
                      | rw [chk_id (by simpa using h1)]
                      | rw [chk_sec k1 ks]
                      | rw [chk_sec k1 (isSecret_iff.2 ⟨by simpa using g3_3, .inr (.inr (by simpa using h2))⟩)]
                  · skip
                    refine .skip ?_
                    refine blkQ_n (seqQ_n ?_)
                    refine .region ?_
                    refine TriOps.q .move ?_
                    refine TriOps.q (.inc (n := i) (by omega)) ?_
                    refine TriOps.q .assign ?_
                    refine .nil ?_
                    exact loopQ_i (i + 1) ⟨by omega, all_take hz hn (by simpa using h5)⟩ (by omega) (((EnvLe.nil _).cons rfl).cons rfl) (HLe.refl _)
                · skip
                  have k6 : c.uris.all isAddr = true := by
                    have he : i = c.uris.length := by simp at h4; omega
                    rw [he, List.take_length] at hn
                    exact hn
                  refine .exit (seqQ_x (loopQ_x (blkQ_x ?_)))
                  refine seqQ_n ?_
                  refine .seq ?_
                  refine .seq ?_
                  refine .region ?_
                  refine TriOps.q .assign ?_
                  refine .nil ?_
                  refine seqQ_n ?_
                  refine .block ?_
                  refine .loop (X := Nat) (fun i => i ≤ c.scopes.length ∧ (c.scopes.take i).all isWord = true) (fun i => [(1, .pointer (some ⟨b1, 0, none⟩)), (4, .int .i64 (i : Nat))]) (fun _ => [[(b1, .cells (CR.cells ⟨c.id, c.secret, vu, vs⟩).toArray 35 (0, 0))]]) (fun i => c.scopes.length - i) 0 ⟨by omega, by simp⟩ (((EnvLe.nil _).cons rfl).cons rfl) (HLe.refl _) ?_
                  rintro j ⟨hj, hm⟩
                  refine .seq ?_
                  refine .seq ?_
                  refine .region ?_
                  refine TriOps.q .move ?_
                  refine TriOps.q (.fieldAddr rfl) ?_
                  refine TriOps.q (.load1 rfl) ?_
                  refine TriOps.q (.lenR hs) ?_
                  refine TriOps.q .lss ?_
                  refine .nil ?_
                  refine seqQ_n ?_
                  refine .cond rfl (fun h6 => ?_) (fun h6 => ?_)
                  · skip
                    have hlt : j < c.scopes.length := by simp at h6; omega
                    obtain ⟨z, hz⟩ : ∃ z, c.scopes[j]? = some z := ⟨_, List.getElem?_eq_getElem hlt⟩
                    have pz : PC R (baseP vs (j * 1)) (encS z) := hs.pc hz
                    refine .skip ?_
                    refine seqQ_n ?_
                    refine .seq ?_
                    refine .block ?_
                    refine .seq ?_
                    refine .region ?_
                    refine TriOps.q (.fieldAddr rfl) ?_
                    refine TriOps.q (.load1 rfl) ?_
                    refine TriOps.q .move ?_
                    refine TriOps.q (.indexR j hs hz rfl rfl rfl) ?_
                    refine TriOps.q (.load1 rfl) ?_
                    refine TriOps.callR (rword_spec z (f4 z (List.mem_of_getElem? hz)) _) (fun v hv => ?_)
                    subst hv
                    refine TriOps.q .not ?_
                    refine .nil ?_
                    refine seqQ_n ?_
                    refine .cond rfl (fun h7 => ?_) (fun h7 => ?_)
                    · skip
                      refine .seq ?_
                      refine .region ?_
                      refine TriOps.q .assign ?_
                      refine .nil ?_
                      refine seqQ_n ?_
                      refine .ret (blkQ_r (seqQ_r (loopQ_r (blkQ_r (seqQ_r (retQ_r _ (.one (.tmp rfl)) (.none _) ?_))))))
                      refine ⟨?_, rfl⟩
                      congr 1
                      first
                        | rw [chk_ok k1 hy k3.1 k3.2.1 k3.2.2.2.1 k6 k3.2.2.1 k3.2.2.2.2 k9]
                        | rw [chk_s k1 hy (.inr (.inr (all_not hz (by simpa using h7))))]
                        | rw [chk_u k1 hy (.inr (.inr (.inr (all_not hz (by simpa using h5)))))]
                        | rw [chk_u k1 hy (.inl (by have := (by simpa using g5_4 : c.uris = []); simp [this]))]
                        | rw [chk_u k1 hy (.inr (.inl (by have := of_decide_eq_true g5_10; omega)))]
                        | rw [chk_s k1 hy (.inl (by have := of_decide_eq_true g5_16; omega))]
                        | rw [chk_u k1 hy (.inr (.inr (.inl (by simpa using g5_21))))]
                        | rw [chk_s k1 hy (.inr (.inl (by simpa using h3)))]
                        | rw [chk_id (by simpa using h1)]
                        | rw [chk_sec k1 ks]
                        | rw [chk_sec k1 (isSecret_iff.2 ⟨by simpa using g3_3, .inr (.inr (by simpa using h2))⟩)]
                    · skip
                      refine .skip ?_
                      refine blkQ_n (seqQ_n ?_)
                      refine .region ?_
                      refine TriOps.q .move ?_
                      refine TriOps.q (.inc (n := j) (by omega)) ?_
                      refine TriOps.q .assign ?_
                      refine .nil ?_
                      exact loopQ_i (j + 1) ⟨by omega, all_take hz hm (by simpa using h7)⟩ (by omega) (((EnvLe.nil _).cons rfl).cons rfl) (HLe.refl _)
                  · skip
                    have k9 : c.scopes.all isWord = true := by
                      have he : j = c.scopes.length := by simp at h6; omega
                      rw [he, List.take_length] at hm
                      exact hm
                    refine .exit (seqQ_x (loopQ_x (blkQ_x ?_)))
                    refine seqQ_n ?_
                    refine .seq ?_
                    refine .region ?_
                    refine TriOps.q .assign ?_
                    refine .nil ?_
                    refine seqQ_n ?_
                    refine .ret (retQ_r _ (.one (.tmp rfl)) (.none _) ?_)
                    refine ⟨?_, rfl⟩
                    congr 1
                    first
                      | rw [chk_ok k1 hy k3.1 k3.2.1 k3.2.2.2.1 k6 k3.2.2.1 k3.2.2.2.2 k9]
                      | rw [chk_s k1 hy (.inr (.inr (all_not hz (by simpa using h7))))]
                      | rw [chk_u k1 hy (.inr (.inr (.inr (all_not hz (by simpa using h5)))))]
                      | rw [chk_u k1 hy (.inl (by have := (by simpa using g5_4 : c.uris = []); simp [this]))]
                      | rw [chk_u k1 hy (.inr (.inl (by have := of_decide_eq_true g5_10; omega)))]
                      | rw [chk_s k1 hy (.inl (by have := of_decide_eq_true g5_16; omega))]
                      | rw [chk_u k1 hy (.inr (.inr (.inl (by simpa using g5_21))))]
                      | rw [chk_s k1 hy (.inr (.inl (by simpa using h3)))]
                      | rw [chk_id (by simpa using h1)]
                      | rw [chk_sec k1 ks]
                      | rw [chk_sec k1 (isSecret_iff.2 ⟨by simpa using g3_3, .inr (.inr (by simpa using h2))⟩)]
end Go.Proofs.Ytlmdgdehjpahiaa

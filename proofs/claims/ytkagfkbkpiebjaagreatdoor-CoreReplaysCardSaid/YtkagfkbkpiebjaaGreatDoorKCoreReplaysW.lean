/- What the law 'CoreReplays' uses of this prover's engine, facts and walks. No condition. -/
import Derived.LaidMore
import Derived.Lib.LaidTab
import Derived.Stop.Joined
import Derived.Test.YtkagfkbkpiebjaaGreatDoorRows
import Derived.Test.YtkagfkbkpiebjaaGreatDoorKCoreReplaysC
import Derived.Test.YtkagfkbkpiebjaaGreatDoorKCoreReplaysE
import Derived.Test.YtkagfkbkpiebjaaGreatDoorKCoreReplaysF
set_option linter.unusedVariables false
set_option maxRecDepth 100000
namespace Go.Proofs.YtkagfkbkpiebjaaGreatDoor
abbrev doorL : List (String × DataW Unit) := [("doorward/sha.words", Rows.laid_doorward_sha_words)]
theorem door_met (os : Os) (args : Array Value) : laidMetH Tryz.prog doorL ((World.doorLaid Tryz.prog 400 os).forCall (fun _ _ => 0) ⟨#[], args, []⟩).memory :=
 laidMetH_of_parts3 (fuel := 8) (laidMet_of_run' 8 (by kernel_rfl) (by kernel_rfl)) (by kernel_rfl) (by kernel_rfl)
theorem words_of {W : World} (h : laidMetH Tryz.prog doorL W) : PC (Rw W) (.pointer (some ⟨1, 0, none⟩)) (wv ks) := by
 rw [MakeChecks.laidMetH_plain _ _ _ (by kernel_rfl)] at h
 have e : (Rows.laid_doorward_sha_words : DataW Unit) = Lib.tabData .u32 (ks.map fun x => (x.toNat : Int)) := by kernel_rfl
 unfold doorL at h
 rw [e] at h
 have hgn : Program.globalNamed Tryz.prog "doorward/sha.words" = some 1 := by kernel_rfl
 have ht := Lib.tabIs_of_head hgn (t := 313) (e := 215) (n := 64) (by kernel_rfl) Tryz.underlying313 Tryz.underlying215 (by kernel_rfl) (by kernel_rfl) h
 unfold Lib.TabIs World.var? at ht
 rw [hgn] at ht
 simp only [Option.bind_some] at ht
 split at ht
 ·rename_i cs t fr hb
  have hcs : cs = (wv ks).toArray := by
   have h9 := Option.some.inj ht
   rw [h9, List.map_map]
   rfl
  rw [hcs] at hb
  exact PC.of (E := t) (fr := fr) hb
 ·cases ht
end Go.Proofs.YtkagfkbkpiebjaaGreatDoor

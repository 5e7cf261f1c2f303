/- What the law 'CoreErrors' uses. No condition. -/
import Derived.LaidMore
import Derived.Lib.LaidTab
import Derived.Stop.Joined
import Derived.Test.YtkkmbiojicgobaaGreatDoorRows
import Derived.Test.YtkkmbiojicgobaaGreatDoorKCoreErrorsC
import Derived.Test.YtkkmbiojicgobaaGreatDoorKCoreErrorsE
import Derived.Test.YtkkmbiojicgobaaGreatDoorKCoreErrorsF
set_option linter.unusedSimpArgs false
set_option linter.unusedVariables false
namespace Go.Proofs.YtkkmbiojicgobaaGreatDoor
set_option linter.unusedVariables false
set_option maxRecDepth 100000
abbrev m3:List (String×DataW Unit):=[("doorward/sha.words",Rows.laid_doorward_sha_words)]
theorem At(os:Os)(a:Array Value):laidMetH Tryz.prog m3 ((World.doorLaid Tryz.prog 400 os).forCall (λ_ _=>0) ⟨#[],a,[]⟩).memory:=
 laidMetH_of_parts3 (fuel:=8) (laidMet_of_run' 8 (by kernel_rfl) (by kernel_rfl)) (by kernel_rfl) (by kernel_rfl)
theorem O6{W:World}(h:laidMetH Tryz.prog m3 W):PC (Rw W) (.pointer (some ⟨1,0,none⟩)) (wv ks):=by
 rw[MakeChecks.laidMetH_plain _ _ _ (by kernel_rfl)]at h
 have e:(Rows.laid_doorward_sha_words:DataW Unit)=Lib.tabData .u32 (ks.map fun x=>(x.toNat:Int)):=by kernel_rfl
 unfold m3 at h
 rw[e]at h
 have hgn:Program.globalNamed Tryz.prog "doorward/sha.words"=some 1:=by kernel_rfl
 have ht:=Lib.tabIs_of_head hgn (t:=308) (e:=217) (n:=64) (by kernel_rfl) Tryz.underlying308 Tryz.underlying217 (by kernel_rfl) (by kernel_rfl) h
 unfold Lib.TabIs World.var? at ht
 rw[hgn]at ht
 simp only[Option.bind_some]at ht
 split at ht
 ·rename_i cs t fr hb
  have hcs:cs=(wv ks).toArray:=by
   have h9:=Option.some.inj ht
   rw[h9,List.map_map]
   rfl
  rw[hcs]at hb
  exact PC.of (E:=t) (fr:=fr) hb
 ·cases ht
end Go.Proofs.YtkkmbiojicgobaaGreatDoor

/- What the law 'KeepOpens' uses. No condition. -/
import Derived.LaidMore
import Derived.LaidSub
import Derived.Lay
import Derived.Lib.LaidTab
import Derived.Stop.Joined
import Derived.Test.YtocjmmbldeljnaaGreatDoorRows
import Derived.Test.YtocjmmbldeljnaaGreatDoorKKeepOpensC
import Derived.Test.YtocjmmbldeljnaaGreatDoorKKeepOpensF
import Derived.Test.YtocjmmbldeljnaaGreatDoorKKeepOpensI
set_option linter.unusedSimpArgs false
set_option linter.unusedVariables false
namespace Go.Proofs.YtocjmmbldeljnaaGreatDoor
set_option linter.unusedVariables false
set_option maxRecDepth 100000
abbrev kS:List (String×DataW Unit):=[("doorward/sha.words",Rows.laid_doorward_sha_words),("doorward/crc.halves",Rows.laid_doorward_crc_halves)]
theorem Af:(laidMetH Tryz.prog kS:World->Prop)=laidMet Tryz.prog kS:=by
 funext W
 exact MakeChecks.laidMetH_plain _ _ _ (by kernel_rfl)
theorem Ae(os:Os)(a:Array Value):laidMetH Tryz.prog kS ((World.laidAll Tryz.prog os kS).forCall (λ_ _=>0) ⟨#[],a,[]⟩).memory:=by
 rw[Af]
 exact laidMet_laidAll _ (by kernel_rfl) (by kernel_rfl)
theorem QD{W:World}(h0:laidMetH Tryz.prog kS W):PC (Rw W) (.pointer (some ⟨1,0,none⟩)) (wv eW):=by
 have h:laidMetH Tryz.prog [("doorward/crc.halves",Rows.laid_doorward_crc_halves)] W:=h0.filter (fun x=>x.1== "doorward/crc.halves")
 rw[MakeChecks.laidMetH_plain _ _ _ (by kernel_rfl)]at h
 have e:(Rows.laid_doorward_crc_halves:DataW Unit)=Lib.tabData .u32 (eW.map fun x=>(x.toNat:Int)):=by kernel_rfl
 rw[e]at h
 have hgn:Program.globalNamed Tryz.prog "doorward/crc.halves"=some 1:=by kernel_rfl
 have ht:=Lib.tabIs_of_head hgn (t:=578) (e:=491) (n:=16) (by kernel_rfl) Tryz.underlying578 Tryz.underlying491 (by kernel_rfl) (by kernel_rfl) h
 unfold Lib.TabIs World.var? at ht
 rw[hgn]at ht
 simp only[Option.bind_some]at ht
 split at ht
 ·rename_i cs t fr hb
  have hcs:cs=(wv eW).toArray:=by
   have h9:=Option.some.inj ht
   rw[h9,List.map_map]
   rfl
  rw[hcs]at hb
  exact PC.of (E:=t) (fr:=fr) hb
 ·cases ht
end Go.Proofs.YtocjmmbldeljnaaGreatDoor

/- What the law 'MemoChecks' uses. No condition. -/
import Derived.Laws.AppendOwn
import Derived.Lib.Builder
import Derived.Lib.ConvBytes
import Derived.Lib.UnsafeStr
import Derived.Test.YtdljmchhecoakaaGreatKMemoChecksD
set_option linter.unusedVariables false
namespace Go.Proofs.YtdljmchhecoakaaGreat
section
end
section
theorem OS.lits{α:Type}{b n E sz:Nat}{cs:List Value}{enc:α->List Value}{xs:List α}(a:xs.flatMap enc=cs)(c:∀x∈xs,(enc x).length=sz)(ho:∀x∈xs,∀u∈enc x,Go.Proofs.YtdljmchhecoakaaGreat.ay u=true)(d:xs.length=n:=by rfl)(e:Nat.ble n 9223372036854775807=true:=by rfl):OS E sz enc (.slice (some ⟨b,0,none⟩) n n) xs [(b,.cells cs.toArray E (0,0))]:=
 ⟨c,ho,.inr ⟨b,0,_,n,by rw[d],rfl,by omega,by have:=Nat.le_of_ble_eq_true e;unfold maxLen;omega,by subst a;rw[List.size_toArray,ku c,d];omega,λk f=>by subst a;simp⟩⟩
section
variable{P:Program}{R:aA}{env:Env}{H:aM}{x y:Operand}{t u ty:TypeId}{a b n:Nat}{k2:IntKind}
theorem bq.L7{s:TypeId}{i:Nat}{c:Array Field}{b:Field}{cs:List Value}{v:Value}(l:P.underlying s=some (.struct c))(k:c[i]? =some b)(j:cs[b.offset]? =some v)(e:cR P b.type false)(m:ev env x=some (.agg cs.toArray)):bq P R env H (.field s x i) ty v:=λa w d o n g f _ _=>by
 simp[execOp,f.eval m,Instr.field,run_underlying l,k,asAgg,part,e.h,j]
end
end
end Go.Proofs.YtdljmchhecoakaaGreat

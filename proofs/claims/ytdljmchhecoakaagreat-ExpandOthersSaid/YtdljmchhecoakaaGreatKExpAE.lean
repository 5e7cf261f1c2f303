/- What the law 'ExpA' uses. No condition. -/
import Derived.Laws.AppendOwn
import Derived.Lib.Builder
import Derived.Lib.ConvBytes
import Derived.Lib.UnsafeStr
import Derived.Test.YtdljmchhecoakaaGreatKExpAD
set_option linter.unusedVariables false
namespace Go.Proofs.YtdljmchhecoakaaGreat
section
end
section
theorem OS.lits{α:Type}{b n E sz:Nat}{cs:List Value}{enc:α->List Value}{xs:List α}(a:xs.flatMap enc=cs)(c:∀x∈xs,(enc x).length=sz)(ho:∀x∈xs,∀u∈enc x,Go.Proofs.YtdljmchhecoakaaGreat.ap u=true)(d:xs.length=n:=by rfl)(e:Nat.ble n 9223372036854775807=true:=by rfl):OS E sz enc (.slice (some ⟨b,0,none⟩) n n) xs [(b,.cells cs.toArray E (0,0))]:=
 ⟨c,ho,.inr ⟨b,0,_,n,by rw[d],rfl,by omega,by have:=Nat.le_of_ble_eq_true e;unfold maxLen;omega,by subst a;rw[List.size_toArray,kw c,d];omega,λk f=>by subst a;simp⟩⟩
section
variable{P:Program}{R:aB}{env:Env}{H:aR}{x y:Operand}{t u ty:TypeId}{a b n:Nat}{k2:IntKind}
theorem bB.MX{s:TypeId}{i:Nat}{c:Array Field}{b:Field}{cs:List Value}{v:Value}(l:P.underlying s=some (.struct c))(k:c[i]? =some b)(j:cs[b.offset]? =some v)(e:cK P b.type false)(m:ev env x=some (.agg cs.toArray)):bB P R env H (.field s x i) ty v:=λa w d o n g f _ _=>by
 simp[execOp,f.eval m,Instr.field,run_underlying l,k,asAgg,part,e.h,j]
theorem bB.rF{p q:ByteArray}(h:p.size+q.size<=9223372036854775807)(f:ev env x=some (.string p))(i:ev env y=some (.string q)):bB P R env H (.binOp .add t x y u) ty (.string (p++q)):=λa w d k j g b _ _=>by
 have e:IntKind.i64.max=9223372036854775807:=rfl
 have c:¬(9223372036854775807:Int)<((p.size:Int)+(q.size:Int)):=by omega
 simp[execOp,b.eval f,b.eval i,eqGuard,binOp,Op.stringOp,e,c]
end
end
end Go.Proofs.YtdljmchhecoakaaGreat

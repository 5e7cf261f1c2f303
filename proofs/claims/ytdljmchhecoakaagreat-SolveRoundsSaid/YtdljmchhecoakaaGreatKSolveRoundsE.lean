/- What the law 'SolveRounds' uses. No condition. -/
import Derived.Laws.AppendOwn
import Derived.Lib.Builder
import Derived.Lib.ConvBytes
import Derived.Lib.UnsafeStr
import Derived.Test.YtdljmchhecoakaaGreatKSolveRoundsD
set_option linter.unusedVariables false
namespace Go.Proofs.YtdljmchhecoakaaGreat
section
end
section
theorem OS.lits{α:Type}{b n E sz:Nat}{cs:List Value}{enc:α->List Value}{xs:List α}(a:xs.flatMap enc=cs)(c:∀x∈xs,(enc x).length=sz)(ho:∀x∈xs,∀u∈enc x,Go.Proofs.YtdljmchhecoakaaGreat.aC u=true)(d:xs.length=n:=by rfl)(e:Nat.ble n 9223372036854775807=true:=by rfl):OS E sz enc (.slice (some ⟨b,0,none⟩) n n) xs [(b,.cells cs.toArray E (0,0))]:=
 ⟨c,ho,.inr ⟨b,0,_,n,by rw[d],rfl,by omega,by have:=Nat.le_of_ble_eq_true e;unfold maxLen;omega,by subst a;rw[List.size_toArray,kT c,d];omega,λk f=>by subst a;simp⟩⟩
section
variable{P:Program}{R:aw}{env:Env}{H:aG}{x y:Operand}{t u ty:TypeId}{a b n:Nat}{k2:IntKind}
theorem bd.y4(b:Nat){k:IntKind}(c:ev env x=some (.int k (a:Nat)))(d:ev env y=some (.int k (b:Nat)))(e:b≠0):bd P R env H (.binOp .rem t x y u) ty (.int k ((a % b:Nat))):=by
 have h:=bd.rem (P:=P) (R:=R) (H:=H) (t:=t) (u:=u) (ty:=ty) c d (by omega)
 rw[show((a:Int)).tmod (b:Int)=((a % b:Nat):Int) by rw[Int.tmod_eq_emod_of_nonneg (by omega)];simp]at h
 exact h
theorem bd.JF{s:TypeId}{i:Nat}{c:Array Field}{b:Field}{cs:List Value}{v:Value}(l:P.underlying s=some (.struct c))(k:c[i]? =some b)(j:cs[b.offset]? =some v)(e:cH P b.type false)(m:ev env x=some (.agg cs.toArray)):bd P R env H (.field s x i) ty v:=λa w d o n g f _ _=>by
 simp[execOp,f.eval m,Instr.field,run_underlying l,k,asAgg,part,e.h,j]
theorem bd.nY{p q:ByteArray}(h:p.size+q.size<=9223372036854775807)(f:ev env x=some (.string p))(i:ev env y=some (.string q)):bd P R env H (.binOp .add t x y u) ty (.string (p++q)):=λa w d k j g b _ _=>by
 have e:IntKind.i64.max=9223372036854775807:=rfl
 have c:¬(9223372036854775807:Int)<((p.size:Int)+(q.size:Int)):=by omega
 simp[execOp,b.eval f,b.eval i,eqGuard,binOp,Op.stringOp,e,c]
end
end
end Go.Proofs.YtdljmchhecoakaaGreat

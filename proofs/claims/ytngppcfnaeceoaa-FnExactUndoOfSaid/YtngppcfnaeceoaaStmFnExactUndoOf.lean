/- The plain statement of the law FnExactUndoOf: its printed function answers true wherever the arguments read as data. Conditions: what reading tells of numbers, texts and slices. -/
import Derived.Test.YtngppcfnaeceoaaQFnExactUndoOfx2
set_option linter.unusedVariables false
namespace Go.Proofs.Ytngppcfnaeceoaa.QFnExactUndoOf
open Go.RowKit Go.Proofs.YtngppcfnaeceoaaW.PrintWords Go.Proofs.YtngppcfnaeceoaaW.PrintLast Go.Proofs.YtngppcfnaeceoaaW.PrintMore

def WF91 (x : S91) : Prop := (x.f0.size ≤ 9223372036854775807) ∧ ((Lit.int .i64 x.f1).wf = true)
/-- The plain statement. -/
def laws_FnExactUndoOf.Pure : Prop := ∀ (l0 : (List S91)) (a1 : ByteArray), (l0.length ≤ 9223372036854775807 ∧ ∀ x91 ∈ l0, WF91 x91) → a1.size ≤ 140737488351232 → ∃ k, laws_FnExactUndoOf.f k l0 a1 = some true

end Go.Proofs.Ytngppcfnaeceoaa.QFnExactUndoOf

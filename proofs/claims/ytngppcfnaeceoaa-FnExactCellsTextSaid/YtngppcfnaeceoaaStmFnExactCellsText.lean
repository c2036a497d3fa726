/- The plain statement of the law FnExactCellsText: its printed function answers true wherever the arguments read as data. Conditions: what reading tells of numbers, texts and slices. -/
import Derived.Test.YtngppcfnaeceoaaQFnExactCellsTextx4
set_option linter.unusedVariables false
namespace Go.Proofs.Ytngppcfnaeceoaa.QFnExactCellsText
open Go.RowKit Go.Proofs.YtngppcfnaeceoaaW.PrintWords Go.Proofs.YtngppcfnaeceoaaW.PrintLast Go.Proofs.YtngppcfnaeceoaaW.PrintMore

def WF91 (x : S91) : Prop := (x.f0.size ≤ 9223372036854775807) ∧ ((Lit.int .i64 x.f1).wf = true)
/-- The plain statement. -/
def laws_FnExactCellsText.Pure : Prop := ∀ (l0 : (List S91)), (l0.length ≤ 9223372036854775807 ∧ ∀ x91 ∈ l0, WF91 x91) → ∃ k, laws_FnExactCellsText.f k l0 = some true

end Go.Proofs.Ytngppcfnaeceoaa.QFnExactCellsText

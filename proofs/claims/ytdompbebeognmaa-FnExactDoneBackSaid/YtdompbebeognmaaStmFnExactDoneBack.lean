/- The plain statement of the law FnExactDoneBack: its printed function answers true wherever the arguments read as data. Conditions: what reading tells of numbers, texts and slices. -/
import Derived.Test.YtdompbebeognmaaQFnExactDoneBackx11
set_option linter.unusedVariables false
namespace Go.Proofs.Ytdompbebeognmaa.QFnExactDoneBack
open Go.RowKit Go.Proofs.YtdompbebeognmaaW.PrintWords Go.Proofs.YtdompbebeognmaaW.PrintLast Go.Proofs.YtdompbebeognmaaW.PrintMore

def WF91 (x : S91) : Prop := (x.f0.size ≤ 9223372036854775807) ∧ ((Lit.int .i64 x.f1).wf = true)
def WF122 (x : S122) : Prop := ((Lit.int .i64 x.f0).wf = true) ∧ (x.f1.size ≤ 9223372036854775807) ∧ ((Lit.int .i64 x.f2).wf = true)
/-- The plain statement. -/
def laws_FnExactDoneBack.Pure : Prop := ∀ (l0 : (List S91)) (l1 : (List S122)), (l0.length ≤ 9223372036854775807 ∧ ∀ x91 ∈ l0, WF91 x91) → (l1.length ≤ 9223372036854775807 ∧ ∀ x122 ∈ l1, WF122 x122) → ∃ k, laws_FnExactDoneBack.f k l0 l1 = some true

end Go.Proofs.Ytdompbebeognmaa.QFnExactDoneBack

/- The plain statement of the law FnExactQcOf: its printed function answers true wherever the arguments read as data. Conditions: what reading tells of numbers, texts and slices. -/
import Derived.Test.YtmcopcpeacikmaaQFnExactQcOfx3
set_option linter.unusedVariables false
namespace Go.Proofs.Ytmcopcpeacikmaa.QFnExactQcOf
open Go.RowKit Go.Proofs.YtmcopcpeacikmaaW.PrintWords Go.Proofs.YtmcopcpeacikmaaW.PrintLast Go.Proofs.YtmcopcpeacikmaaW.PrintMore

def WF35 (x : S35) : Prop := ((Lit.int .i64 x.f0).wf = true) ∧ ((Lit.int .i64 x.f1).wf = true) ∧ ((Lit.int .i64 x.f2).wf = true) ∧ ((Lit.int .i64 x.f3).wf = true)
/-- The plain statement. -/
def laws_FnExactQcOf.Pure : Prop := ∀ (l0 : (List S35)) (a1 : Int) (a2 : Int) (a3 : Int) (a4 : Int), (l0.length ≤ 9223372036854775807 ∧ ∀ x35 ∈ l0, WF35 x35) → (Lit.int .i64 a1).wf = true → (Lit.int .i64 a2).wf = true → (Lit.int .i64 a3).wf = true → (Lit.int .i64 a4).wf = true → ∃ k, laws_FnExactQcOf.f k l0 a1 a2 a3 a4 = some true

end Go.Proofs.Ytmcopcpeacikmaa.QFnExactQcOf

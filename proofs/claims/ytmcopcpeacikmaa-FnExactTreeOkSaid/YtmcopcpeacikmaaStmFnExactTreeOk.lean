/- The plain statement of the law FnExactTreeOk: its printed function answers true wherever the arguments read as data. Conditions: what reading tells of numbers, texts and slices. -/
import Derived.Test.YtmcopcpeacikmaaQFnExactTreeOkx14
set_option linter.unusedVariables false
namespace Go.Proofs.Ytmcopcpeacikmaa.QFnExactTreeOk
open Go.RowKit Go.Proofs.YtmcopcpeacikmaaW.PrintWords Go.Proofs.YtmcopcpeacikmaaW.PrintLast Go.Proofs.YtmcopcpeacikmaaW.PrintMore

def WF116 (x : S116) : Prop := ((Lit.int .i64 x.f0).wf = true) ∧ (x.f1.size ≤ 9223372036854775807) ∧ ((Lit.int .i64 x.f2).wf = true)
def WF44 (x : S44) : Prop := ((Lit.int .i64 x.f0).wf = true) ∧ ((Lit.int .i64 x.f1).wf = true) ∧ ((Lit.int .i64 x.f2).wf = true) ∧ ((Lit.int .i64 x.f3).wf = true)
def WF58 (x : S58) : Prop := ((Lit.int .i64 x.f0).wf = true) ∧ ((Lit.int .i64 x.f1).wf = true) ∧ ((x.f2.length ≤ 9223372036854775807 ∧ ∀ x116 ∈ x.f2, WF116 x116)) ∧ (WF44 x.f3)
/-- The plain statement. -/
def laws_FnExactTreeOk.Pure : Prop := ∀ (l0 : (List S58)), (l0.length ≤ 9223372036854775807 ∧ ∀ x58 ∈ l0, WF58 x58) → ∃ k, laws_FnExactTreeOk.f k l0 = some true

end Go.Proofs.Ytmcopcpeacikmaa.QFnExactTreeOk

/- The plain statement of the law FnExactRowAfter: its printed function answers true wherever the arguments read as data. Conditions: what reading tells of numbers, texts and slices. -/
import Derived.Test.YtmcopcpeacikmaaQFnExactRowAfterx7
set_option linter.unusedVariables false
namespace Go.Proofs.Ytmcopcpeacikmaa.QFnExactRowAfter
open Go.RowKit Go.Proofs.YtmcopcpeacikmaaW.PrintWords Go.Proofs.YtmcopcpeacikmaaW.PrintLast Go.Proofs.YtmcopcpeacikmaaW.PrintMore

def WF116 (x : S116) : Prop := ((Lit.int .i64 x.f0).wf = true) ∧ (x.f1.size ≤ 9223372036854775807) ∧ ((Lit.int .i64 x.f2).wf = true)
def WF44 (x : S44) : Prop := ((Lit.int .i64 x.f0).wf = true) ∧ ((Lit.int .i64 x.f1).wf = true) ∧ ((Lit.int .i64 x.f2).wf = true) ∧ ((Lit.int .i64 x.f3).wf = true)
def WF58 (x : S58) : Prop := ((Lit.int .i64 x.f0).wf = true) ∧ ((Lit.int .i64 x.f1).wf = true) ∧ ((x.f2.length ≤ 9223372036854775807 ∧ ∀ x116 ∈ x.f2, WF116 x116)) ∧ (WF44 x.f3)
/-- The plain statement. -/
def laws_FnExactRowAfter.Pure : Prop := ∀ (l0 : (List S58)) (a1 : Int) (a2 : Int), (l0.length ≤ 9223372036854775807 ∧ ∀ x58 ∈ l0, WF58 x58) → (Lit.int .i64 a1).wf = true → (Lit.int .i64 a2).wf = true → ∃ k, laws_FnExactRowAfter.Told k l0 a1 a2

end Go.Proofs.Ytmcopcpeacikmaa.QFnExactRowAfter

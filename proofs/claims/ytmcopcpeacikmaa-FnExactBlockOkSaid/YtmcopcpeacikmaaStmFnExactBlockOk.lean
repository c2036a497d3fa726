/- The plain statement of the law FnExactBlockOk: its printed function answers true wherever the arguments read as data. Conditions: what reading tells of numbers, texts and slices. -/
import Derived.Test.YtmcopcpeacikmaaQFnExactBlockOkx7
set_option linter.unusedVariables false
namespace Go.Proofs.Ytmcopcpeacikmaa.QFnExactBlockOk
open Go.RowKit Go.Proofs.YtmcopcpeacikmaaW.PrintWords Go.Proofs.YtmcopcpeacikmaaW.PrintLast Go.Proofs.YtmcopcpeacikmaaW.PrintMore

def WF116 (x : S116) : Prop := ((Lit.int .i64 x.f0).wf = true) ∧ (x.f1.size ≤ 9223372036854775807) ∧ ((Lit.int .i64 x.f2).wf = true)
def WF44 (x : S44) : Prop := ((Lit.int .i64 x.f0).wf = true) ∧ ((Lit.int .i64 x.f1).wf = true) ∧ ((Lit.int .i64 x.f2).wf = true) ∧ ((Lit.int .i64 x.f3).wf = true)
def WF58 (x : S58) : Prop := ((Lit.int .i64 x.f0).wf = true) ∧ ((Lit.int .i64 x.f1).wf = true) ∧ ((x.f2.length ≤ 9223372036854775807 ∧ ∀ x116 ∈ x.f2, WF116 x116)) ∧ (WF44 x.f3)
/-- The plain statement. -/
def laws_FnExactBlockOk.Pure : Prop := ∀ (l0 : (List S58)) (a1_0 : Int) (a1_1 : Int) (l1_2 : (List S116)) (a1_3 : Int) (a1_4 : Int) (a1_5 : Int) (a1_6 : Int), (l0.length ≤ 9223372036854775807 ∧ ∀ x58 ∈ l0, WF58 x58) → (Lit.int .i64 a1_0).wf = true → (Lit.int .i64 a1_1).wf = true → (l1_2.length ≤ 9223372036854775807 ∧ ∀ x116 ∈ l1_2, WF116 x116) → (Lit.int .i64 a1_3).wf = true → (Lit.int .i64 a1_4).wf = true → (Lit.int .i64 a1_5).wf = true → (Lit.int .i64 a1_6).wf = true → ∃ k, laws_FnExactBlockOk.f k l0 a1_0 a1_1 l1_2 a1_3 a1_4 a1_5 a1_6 = some true

end Go.Proofs.Ytmcopcpeacikmaa.QFnExactBlockOk

/- For every input that the statement reads, the law FnExactVarText of the given program returns true and leaves its arguments as they were. Conditions: none but the statement's own. -/
import Derived.Test.YtggnchbalheicaaPFnExactVarTextx1
import Derived.Test.YtggnchbalheicaaLib
set_option linter.unusedVariables false
set_option linter.unusedSimpArgs false
namespace Go.Proofs.Ytggnchbalheicaa.Pure
open Go.RowKit Go.Proofs.Ytggnchbalheicaa.PFnExactVarText Go.Proofs.YtggnchbalheicaaW.PrintWords Go.Proofs.YtggnchbalheicaaW.PrintLast Go.Proofs.YtggnchbalheicaaW.PrintMore Go.Proofs.Ytggnchbalheicaa.Lib

theorem spec_l01Var_l0 (d : Nat) : ∀ (n : Int) (acc : List Int), 0 ≤ n → n < lim d → n ≤ 9223372036854775807 → acc.length + d < 1000 →
    Ev (fun k => spec_l01Var.l0 k n acc) (strOfNums (acc ++ varL d n)) := by
  induction d with
  | zero =>
    intro n acc h0 h1 h2 hl
    refine Ev.shift ?_
    have hn : ¬ n > 127 := by simp only [lim] at h1; omega
    have hl' : acc.length < 140737488355328 := by omega
    simp only [spec_l01Var.l0, hn, hl', ↓reduceIte, varL]
    rw [show n % 256 = n from by omega]
    exact Ev.now _
  | succ d ih =>
    intro n acc h0 h1 h2 hl
    refine Ev.shift ?_
    have hl' : acc.length < 140737488355328 := by omega
    by_cases hn : n > 127
    · have e1 : wrap64 (Int.tdiv n 128) = n / 128 := by rw [tdiv_pos h0]; exact wrap_id (by omega) (by omega)
      have e2 : (wrap64 (Int.tmod n 128 + 128)) % 256 = n % 128 + 128 := by rw [tmod_pos h0, wrap_id (by omega) (by omega)]; omega
      simp only [spec_l01Var.l0, hn, hl', ↓reduceIte, varL, e1, e2]
      have h := ih (n / 128) (acc ++ [n % 128 + 128]) (by omega) (by simp only [lim] at h1; omega) (by omega) (by simp; omega)
      rw [List.append_assoc] at h
      exact h
    · simp only [spec_l01Var.l0, hn, hl', ↓reduceIte, varL]
      rw [show n % 256 = n from by omega]
      exact Ev.now _
theorem spec_l01Var_ev {n : Int} (h0 : 0 ≤ n) (h1 : n ≤ 9223372036854775807) : Ev (fun k => spec_l01Var.f k n) (varS n) := by
  have h := spec_l01Var_l0 9 n [] h0 (by have := lim9; omega) h1 (by simp)
  exact h

theorem impl_varText_l0 (d : Nat) : ∀ (n : Int) (acc : List Int), 0 ≤ n → n < lim d → n ≤ 9223372036854775807 → acc.length + d < 1000 →
    Ev (fun k => impl_varText.l0 k n acc) (strOfNums (acc ++ varL d n)) := by
  induction d with
  | zero =>
    intro n acc h0 h1 h2 hl
    refine Ev.shift ?_
    have hn : ¬ n > 127 := by simp only [lim] at h1; omega
    have hl' : acc.length < 140737488355328 := by omega
    simp only [impl_varText.l0, hn, hl', ↓reduceIte, varL]
    rw [show n % 256 = n from by omega]
    exact Ev.now _
  | succ d ih =>
    intro n acc h0 h1 h2 hl
    refine Ev.shift ?_
    have hl' : acc.length < 140737488355328 := by omega
    by_cases hn : n > 127
    · have e2 : (Go.bits .or .i64 (Go.bits .and .i64 n 127) 128) % 256 = n % 128 + 128 := by rw [and127_i64 h0 h2, or128_i64 (by omega) (by omega)]; omega
      simp only [impl_varText.l0, hn, hl', ↓reduceIte, varL, e2]
      have h := ih (n / 128) (acc ++ [n % 128 + 128]) (by omega) (by simp only [lim] at h1; omega) (by omega) (by simp; omega)
      rw [List.append_assoc] at h
      exact h
    · simp only [impl_varText.l0, hn, hl', ↓reduceIte, varL]
      rw [show n % 256 = n from by omega]
      exact Ev.now _
theorem impl_varText_ev {n : Int} (h0 : 0 ≤ n) (h1 : n ≤ 9223372036854775807) : Ev (fun k => impl_varText.f k n) (varS n) := by
  have h := impl_varText_l0 9 n [] h0 (by have := lim9; omega) h1 (by simp)
  exact h

theorem spec_l01In_eq (a b c : Int) : spec_l01In.f a b c = some (decide (b ≤ a ∧ a ≤ c)) := by
  unfold spec_l01In.f
  by_cases h : a ≥ b
  · simp [h]
  · have h' : ¬ b ≤ a := by omega
    simp [h, h']

theorem impl_in_eq (a b c : Int) : impl_in.f a b c = some (decide (b ≤ a ∧ a ≤ c)) := by
  unfold impl_in.f
  by_cases h : a ≥ b
  · simp [h]
  · have h' : ¬ b ≤ a := by omega
    simp [h, h']

theorem FnExactVarText : laws_FnExactVarText.Pure := by
  intro a0 w0
  have hw := i64_of w0
  refine Ev.rounds ?_
  unfold laws_FnExactVarText.f spec_VarText.f impl_VarText.f
  simp only [impl_in_eq, spec_l01In_eq, Option.bind_some]
  by_cases h : 0 ≤ a0 ∧ a0 ≤ 1000000000
  · simp only [h, decide_true, and_self, ↓reduceIte]
    refine Ev.bind (Ev.bind (spec_l01Var_ev (by omega) (by omega)) (Ev.now _)) ?_
    refine Ev.bind (Ev.bind (impl_varText_ev (by omega) (by omega)) (Ev.now _)) ?_
    simp only [↓reduceIte, bne_self_eq_false, Bool.false_eq_true]
    exact Ev.now _
  · simp only [h, decide_false, ↓reduceIte, Bool.false_eq_true, Option.bind_some, bne_self_eq_false]
    exact Ev.now _

end Go.Proofs.Ytggnchbalheicaa.Pure

/- For every input that the statement reads, the law FnExactShortText of the given program returns true and leaves its arguments as they were. Conditions: none but the statement's own. -/
import Derived.Test.YtggnchbalheicaaPFnExactShortTextx1
import Derived.Test.YtggnchbalheicaaLib
set_option linter.unusedVariables false
set_option linter.unusedSimpArgs false
namespace Go.Proofs.Ytggnchbalheicaa.Pure
open Go.RowKit Go.Proofs.Ytggnchbalheicaa.PFnExactShortText Go.Proofs.YtggnchbalheicaaW.PrintWords Go.Proofs.YtggnchbalheicaaW.PrintLast Go.Proofs.YtggnchbalheicaaW.PrintMore Go.Proofs.Ytggnchbalheicaa.Lib

theorem spec_l01Var_l0 (d : Nat) : ∀ (n : Int) (acc : List Int), 0 ≤ n → n < lim d → n ≤ 9223372036854775807 → acc.length + d < 1000 →
    Ev (fun k => spec_l01Var.l0 k n acc) (strOfNums (acc ++ varL d n)) := by
  induction d with
  | zero =>
    intro n acc h0 h1 h2 hl
    refine Ev.shift ?_
    have hn : ¬ n > 127 := by simp only [lim] at h1; omega
    have hl' : acc.length < 140737488355328 := by omega
    simp only [spec_l01Var.l0, hn, hl', ↓reduceIte, varL]
    rw [show n % 256 = n from by omega]
    exact Ev.now _
  | succ d ih =>
    intro n acc h0 h1 h2 hl
    refine Ev.shift ?_
    have hl' : acc.length < 140737488355328 := by omega
    by_cases hn : n > 127
    · have e1 : wrap64 (Int.tdiv n 128) = n / 128 := by rw [tdiv_pos h0]; exact wrap_id (by omega) (by omega)
      have e2 : (wrap64 (Int.tmod n 128 + 128)) % 256 = n % 128 + 128 := by rw [tmod_pos h0, wrap_id (by omega) (by omega)]; omega
      simp only [spec_l01Var.l0, hn, hl', ↓reduceIte, varL, e1, e2]
      have h := ih (n / 128) (acc ++ [n % 128 + 128]) (by omega) (by simp only [lim] at h1; omega) (by omega) (by simp; omega)
      rw [List.append_assoc] at h
      exact h
    · simp only [spec_l01Var.l0, hn, hl', ↓reduceIte, varL]
      rw [show n % 256 = n from by omega]
      exact Ev.now _
theorem spec_l01Var_ev {n : Int} (h0 : 0 ≤ n) (h1 : n ≤ 9223372036854775807) : Ev (fun k => spec_l01Var.f k n) (varS n) := by
  have h := spec_l01Var_l0 9 n [] h0 (by have := lim9; omega) h1 (by simp)
  exact h

theorem impl_varText_l0 (d : Nat) : ∀ (n : Int) (acc : List Int), 0 ≤ n → n < lim d → n ≤ 9223372036854775807 → acc.length + d < 1000 →
    Ev (fun k => impl_varText.l0 k n acc) (strOfNums (acc ++ varL d n)) := by
  induction d with
  | zero =>
    intro n acc h0 h1 h2 hl
    refine Ev.shift ?_
    have hn : ¬ n > 127 := by simp only [lim] at h1; omega
    have hl' : acc.length < 140737488355328 := by omega
    simp only [impl_varText.l0, hn, hl', ↓reduceIte, varL]
    rw [show n % 256 = n from by omega]
    exact Ev.now _
  | succ d ih =>
    intro n acc h0 h1 h2 hl
    refine Ev.shift ?_
    have hl' : acc.length < 140737488355328 := by omega
    by_cases hn : n > 127
    · have e2 : (Go.bits .or .i64 (Go.bits .and .i64 n 127) 128) % 256 = n % 128 + 128 := by rw [and127_i64 h0 h2, or128_i64 (by omega) (by omega)]; omega
      simp only [impl_varText.l0, hn, hl', ↓reduceIte, varL, e2]
      have h := ih (n / 128) (acc ++ [n % 128 + 128]) (by omega) (by simp only [lim] at h1; omega) (by omega) (by simp; omega)
      rw [List.append_assoc] at h
      exact h
    · simp only [impl_varText.l0, hn, hl', ↓reduceIte, varL]
      rw [show n % 256 = n from by omega]
      exact Ev.now _
theorem impl_varText_ev {n : Int} (h0 : 0 ≤ n) (h1 : n ≤ 9223372036854775807) : Ev (fun k => impl_varText.f k n) (varS n) := by
  have h := impl_varText_l0 9 n [] h0 (by have := lim9; omega) h1 (by simp)
  exact h

theorem FnExactShortText : laws_FnExactShortText.Pure := by
  intro a0 w0
  refine Ev.rounds ?_
  unfold laws_FnExactShortText.f spec_ShortText.f impl_ShortText.f
  by_cases hb : (a0.size : Int) > 1048576
  · simp only [hb, ↓reduceIte]
    exact Ev.now _
  · have hz : (varS (a0.size : Int)).size + a0.size ≤ 9223372036854775807 := by
      have := varS_size (a0.size : Int)
      omega
    by_cases h : (a0.size : Int) > 20000
    · simp only [hb, h, ↓reduceIte, Option.bind_some, bne_self_eq_false, Bool.false_eq_true]
      exact Ev.now _
    · simp only [hb, h, ↓reduceIte]
      refine Ev.bind (Ev.bind (spec_l01Var_ev (by omega) (by omega)) (by simp only [hz, ↓reduceIte]; exact Ev.now _)) ?_
      refine Ev.bind (Ev.bind (impl_varText_ev (by omega) (by omega)) (by simp only [hz, ↓reduceIte]; exact Ev.now _)) ?_
      simp only [↓reduceIte, bne_self_eq_false, Bool.false_eq_true]
      exact Ev.now _

end Go.Proofs.Ytggnchbalheicaa.Pure

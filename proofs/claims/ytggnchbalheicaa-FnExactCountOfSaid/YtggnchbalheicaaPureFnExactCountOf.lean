/- For every input that the statement reads, the law FnExactCountOf of the given program returns true and leaves its arguments as they were. Conditions: none but the statement's own. -/
import Derived.Test.YtggnchbalheicaaPFnExactCountOfx1
import Derived.Test.YtggnchbalheicaaLib
set_option linter.unusedVariables false
set_option linter.unusedSimpArgs false
namespace Go.Proofs.Ytggnchbalheicaa.Pure
open Go.RowKit Go.Proofs.Ytggnchbalheicaa.PFnExactCountOf Go.Proofs.YtggnchbalheicaaW.PrintWords Go.Proofs.YtggnchbalheicaaW.PrintLast Go.Proofs.YtggnchbalheicaaW.PrintMore Go.Proofs.Ytggnchbalheicaa.Lib

theorem spec_CountOf_l0 (x : Int) (hx : 0 ≤ x) (hx1 : x ≤ 9223372036854775807) (d : Nat) : ∀ i : Nat, i + d = 7 → Ev (fun k => spec_CountOf.l0 k x (cntTo i x) (i : Int)) (cntTo 7 x) := by
  induction d with
  | zero =>
    intro i hi
    obtain rfl : i = 7 := by omega
    refine Ev.shift ?_
    simp only [spec_CountOf.l0, show ¬ ((7 : Nat) : Int) < 7 from by omega, ↓reduceIte]
    exact Ev.now _
  | succ d ih =>
    intro i hi
    refine Ev.shift ?_
    have h1 : (i : Int) < 7 := by omega
    have h2 : x ≥ 0 := hx
    have h3 : IntKind.u64.wrap (i : Int) = i := u64_id (by omega) (by omega)
    have h4 : (0 : Int) ≤ i := by omega
    have hc := cntTo_range x i
    have hb := bitAt_range x i
    have h5 : wrap64 (cntTo i x + Int.tmod (shr .i64 x (i : Int)) 2) = cntTo (i + 1) x := by
      rw [shr_bit (by omega), tmod_pos (shr_nonneg hx hx1).1]
      show wrap64 (cntTo i x + bitAt x i) = cntTo i x + bitAt x i
      exact wrap_id (by omega) (by omega)
    have h6 : wrap64 ((i : Int) + 1) = ((i + 1 : Nat) : Int) := by rw [wrap_id (by omega) (by omega)]; omega
    simp only [spec_CountOf.l0, h1, h2, h3, h4, h5, h6, ↓reduceIte]
    exact ih (i + 1) (by omega)
theorem spec_CountOf_ev (x : Int) (hx1 : x ≤ 9223372036854775807) : Ev (fun k => spec_CountOf.f k x) (cnt x) := by
  unfold cnt
  by_cases h : x ≥ 0
  · have h1 := spec_CountOf_l0 x h hx1 7 0 rfl
    by_cases h0 : x > 0
    · simp only [h0, ↓reduceIte]
      exact h1
    · obtain rfl : x = 0 := by omega
      rw [cntTo_zero] at h1
      exact h1
  · have h0 : ¬ x > 0 := by omega
    simp only [h0, ↓reduceIte]
    refine Ev.shift ?_
    unfold spec_CountOf.f
    simp only [spec_CountOf.l0, h, ↓reduceIte, show (0 : Int) < 7 from by decide]
    exact Ev.now _

theorem impl_CountOf_l0 (x : Int) (hx : 0 < x) (hx1 : x ≤ 9223372036854775807) (d : Nat) : ∀ i : Nat, i + d = 7 → Ev (fun k => impl_CountOf.l0 k x (cntTo i x) (i : Int)) (cntTo 7 x) := by
  induction d with
  | zero =>
    intro i hi
    obtain rfl : i = 7 := by omega
    refine Ev.shift ?_
    simp only [impl_CountOf.l0, show ¬ ((7 : Nat) : Int) < 7 from by omega, ↓reduceIte]
    exact Ev.now _
  | succ d ih =>
    intro i hi
    refine Ev.shift ?_
    have h1 : (i : Int) < 7 := by omega
    have h2 : x > 0 := hx
    have h4 : (0 : Int) ≤ i := by omega
    have hc := cntTo_range x i
    have hb := bitAt_range x i
    have hs := shr_nonneg (i := i) (Int.le_of_lt hx) hx1
    have h5 : wrap64 (cntTo i x + Go.bits .and .i64 (shr .i64 x (i : Int)) 1) = cntTo (i + 1) x := by
      rw [shr_bit (by omega), and1_i64 hs.1 hs.2]
      show wrap64 (cntTo i x + bitAt x i) = cntTo i x + bitAt x i
      exact wrap_id (by omega) (by omega)
    have h6 : wrap64 ((i : Int) + 1) = ((i + 1 : Nat) : Int) := by rw [wrap_id (by omega) (by omega)]; omega
    simp only [impl_CountOf.l0, h1, h2, h4, h5, h6, ↓reduceIte]
    exact ih (i + 1) (by omega)
theorem impl_CountOf_neg (x : Int) (hx : ¬ x > 0) (d : Nat) : ∀ i : Nat, i + d = 7 → Ev (fun k => impl_CountOf.l0 k x 0 (i : Int)) 0 := by
  induction d with
  | zero =>
    intro i hi
    obtain rfl : i = 7 := by omega
    refine Ev.shift ?_
    simp only [impl_CountOf.l0, show ¬ ((7 : Nat) : Int) < 7 from by omega, ↓reduceIte]
    exact Ev.now _
  | succ d ih =>
    intro i hi
    refine Ev.shift ?_
    have h1 : (i : Int) < 7 := by omega
    have h6 : wrap64 ((i : Int) + 1) = ((i + 1 : Nat) : Int) := by rw [wrap_id (by omega) (by omega)]; omega
    simp only [impl_CountOf.l0, h1, hx, h6, ↓reduceIte]
    exact ih (i + 1) (by omega)
theorem impl_CountOf_ev (x : Int) (hx1 : x ≤ 9223372036854775807) : Ev (fun k => impl_CountOf.f k x) (cnt x) := by
  unfold cnt
  by_cases h0 : x > 0
  · simp only [h0, ↓reduceIte]
    exact impl_CountOf_l0 x h0 hx1 7 0 rfl
  · simp only [h0, ↓reduceIte]
    exact impl_CountOf_neg x h0 7 0 rfl

theorem FnExactCountOf : laws_FnExactCountOf.Pure := by
  intro a0 w0
  have hw := i64_of w0
  refine Ev.rounds ?_
  unfold laws_FnExactCountOf.f
  refine Ev.bind (spec_CountOf_ev a0 hw.2) (Ev.bind (impl_CountOf_ev a0 hw.2) ?_)
  simp only [↓reduceIte]
  exact Ev.now _

end Go.Proofs.Ytggnchbalheicaa.Pure

/- For every input that the statement reads, the law FnExactUnhex of the given program returns true and leaves its arguments as they were. Conditions: none but the statement's own. -/
import Derived.Test.YtgglelndefbdkaaQFnExactUnhexx1
import Derived.Test.YtgglelndefbdkaaLib
set_option linter.unusedVariables false
set_option linter.unusedSimpArgs false
namespace Go.Proofs.Ytgglelndefbdkaa.Pure
open Go.RowKit Go.Proofs.Ytgglelndefbdkaa.QFnExactUnhex Go.Proofs.YtgglelndefbdkaaW.PrintWords Go.Proofs.YtgglelndefbdkaaW.PrintLast Go.Proofs.YtgglelndefbdkaaW.PrintMore Go.Proofs.Ytgglelndefbdkaa.Lib

/-- The value of a figure; -1 of any other byte. -/
def valB (x : Int) : Int := if x ≥ 48 ∧ x ≤ 57 then x - 48 else if x ≥ 97 ∧ x ≤ 102 then x - 87 else -1
theorem valB_range (x : Int) : -1 ≤ valB x ∧ valB x ≤ 15 := by
  unfold valB
  by_cases h : x ≥ 48 ∧ x ≤ 57
  · rw [if_pos h]; omega
  · rw [if_neg h]
    by_cases h2 : x ≥ 97 ∧ x ≤ 102
    · rw [if_pos h2]; omega
    · rw [if_neg h2]; omega
theorem valB_tab : ∀ n : Fin 256, Lib.indexByte [48, 49, 50, 51, 52, 53, 54, 55, 56, 57, 97, 98, 99, 100, 101, 102] ((n.val : Int).toNat.toUInt8) = valB (n.val : Int) := by decide +kernel
theorem valB_idx {x : Int} (h0 : 0 ≤ x) (h1 : x ≤ 255) : strings_IndexByte.f (⟨#[48, 49, 50, 51, 52, 53, 54, 55, 56, 57, 97, 98, 99, 100, 101, 102]⟩ : ByteArray) x = some (valB x) := by
  have h := valB_tab ⟨x.toNat, by omega⟩
  have e : ((x.toNat : Nat) : Int) = x := by omega
  simp only [e] at h
  unfold strings_IndexByte.f
  exact congrArg some h
theorem or_tab : ∀ v w : Fin 16, (Go.bits .or .i64 (wrap64 ((v.val : Int) * 16)) (w.val : Int)) % 256 = (v.val : Int) * 16 + (w.val : Int) := by decide +kernel
theorem or_val {v w : Int} (h0 : 0 ≤ v) (h1 : v ≤ 15) (h2 : 0 ≤ w) (h3 : w ≤ 15) : (Go.bits .or .i64 (wrap64 (v * 16)) w) % 256 = v * 16 + w := by
  have h := or_tab ⟨v.toNat, by omega⟩ ⟨w.toNat, by omega⟩
  have e : ((v.toNat : Nat) : Int) = v := by omega
  have e2 : ((w.toNat : Nat) : Int) = w := by omega
  simp only [e, e2] at h
  exact h
def unhL (s : ByteArray) : Nat → Nat → List Int → ByteArray × Bool
  | 0, _, acc => (strOfNums acc, true)
  | d + 1, i, acc => if valB (bt s (i : Int)) < 0 then ((⟨#[]⟩ : ByteArray), false) else if valB (bt s ((i + 1 : Nat) : Int)) < 0 then ((⟨#[]⟩ : ByteArray), false) else unhL s d (i + 2) (acc ++ [valB (bt s (i : Int)) * 16 + valB (bt s ((i + 1 : Nat) : Int))])
theorem spec_l01Value_ev {x : Int} (h0 : 0 ≤ x) (h1 : x ≤ 255) : Ev (fun k => spec_l01Value.f k x) (valB x) := by
  have e0 : wrap64 x = x := wrap_id (by omega) (by omega)
  have e1 : wrap64 (x - 48) = x - 48 := wrap_id (by omega) (by omega)
  have e2 : wrap64 (x - 97) = x - 97 := wrap_id (by omega) (by omega)
  have e3 : wrap64 (x - 97 + 10) = x - 87 := by rw [wrap_id (by omega) (by omega)]; omega
  unfold spec_l01Value.f valB
  by_cases h : x ≥ 48
  · by_cases h2 : x ≤ 57
    · simp only [h, h2, ↓reduceIte, and_self, decide_true]
      refine Ev.shift ?_
      simp only [spec_l01Value.j0, ↓reduceIte, e0, e1]
      exact Ev.now _
    · simp only [h, h2, ↓reduceIte, and_false, decide_false]
      refine Ev.shift ?_
      simp only [spec_l01Value.j0, ↓reduceIte, Bool.false_eq_true, e0, e2, e3]
      by_cases h3 : x ≥ 97
      · by_cases h4 : x ≤ 102
        · simp only [h3, h4, ↓reduceIte, and_self]
          exact Ev.now _
        · simp only [h3, h4, ↓reduceIte, and_false]
          exact Ev.now _
      · simp only [h3, ↓reduceIte, false_and]
        exact Ev.now _
  · have h3 : ¬ x ≥ 97 := by omega
    simp only [h, h3, ↓reduceIte, false_and]
    refine Ev.shift ?_
    simp only [spec_l01Value.j0, ↓reduceIte, Bool.false_eq_true, h3]
    exact Ev.now _

theorem spec_Unhex_l0 (s : ByteArray) (hs : s.size ≤ 40000) (d : Nat) : ∀ (i : Nat) (acc : List Int), i + 2 * d = s.size → acc.length + d ≤ 40000 → Ev (fun k => spec_Unhex.l0 k s acc (i : Int)) (unhL s d i acc) := by
  induction d with
  | zero =>
    intro i acc hi hl
    refine Ev.shift ?_
    simp only [spec_Unhex.l0, show ¬ (i : Int) < s.size from by omega, ↓reduceIte, unhL]
    exact Ev.now _
  | succ d ih =>
    intro i acc hi hl
    have h1 : (i : Int) < s.size := by omega
    have h4 : (0 : Int) ≤ i := by omega
    have h6 : wrap64 ((i : Int) + 1) = ((i + 1 : Nat) : Int) := by rw [wrap_id (by omega) (by omega)]; omega
    have h7 : wrap64 ((i : Int) + 2) = ((i + 2 : Nat) : Int) := by rw [wrap_id (by omega) (by omega)]; omega
    have h8 : (0 : Int) ≤ ((i + 1 : Nat) : Int) := by omega
    have h9 : ((i + 1 : Nat) : Int) < s.size := by omega
    have hl' : acc.length < 140737488355328 := by omega
    have b0 := bt_range s (i : Int)
    have b1 := bt_range s ((i + 1 : Nat) : Int)
    have v0 := spec_l01Value_ev b0.1 b0.2
    have v1 := spec_l01Value_ev b1.1 b1.2
    have r0 := valB_range (bt s (i : Int))
    have r1 := valB_range (bt s ((i + 1 : Nat) : Int))
    have h := ih (i + 2) (acc ++ [valB (bt s (i : Int)) * 16 + valB (bt s ((i + 1 : Nat) : Int))]) (by omega) (by simp only [List.length_append, List.length_cons, List.length_nil]; omega)
    refine Ev.shift ?_
    simp only [spec_Unhex.l0, h1, h4, h6, h7, h8, h9, hl', ↓reduceIte, unhL]
    refine Ev.bind v0 (Ev.bind v1 ?_)
    generalize valB (bt s (i : Int)) = v at *
    generalize valB (bt s ((i + 1 : Nat) : Int)) = w at *
    by_cases c0 : v < 0
    · simp only [c0, ↓reduceIte]
      exact Ev.now _
    · by_cases c1 : w < 0
      · simp only [c0, c1, ↓reduceIte]
        exact Ev.now _
      · have e : wrap64 (wrap64 (16 * v) + w) % 256 = v * 16 + w := by
          rw [wrap_id (x := 16 * v) (by omega) (by omega), wrap_id (by omega) (by omega)]
          omega
        simp only [c0, c1, ↓reduceIte, e]
        exact h
theorem spec_Unhex_ev (s : ByteArray) (hs : s.size ≤ 1048576) : Ev (fun k => spec_Unhex.f k s) (if (s.size : Int) > 40000 ∨ (s.size : Int) % 2 ≠ 0 then ((⟨#[]⟩ : ByteArray), false) else unhL s (s.size / 2) 0 []) := by
  unfold spec_Unhex.f
  by_cases h : (s.size : Int) > 40000
  · simp only [h, ↓reduceIte, true_or]
    refine Ev.shift ?_
    simp only [spec_Unhex.j0, ↓reduceIte]
    exact Ev.now _
  · by_cases h2 : (s.size : Int) % 2 = 0
    · have h3 : (((s.size : Int) % 2) != 0) = false := by rw [h2]; rfl
      simp only [h, h2, h3, ↓reduceIte, ne_eq, not_true_eq_false, or_self]
      refine Ev.shift ?_
      simp only [spec_Unhex.j0, ↓reduceIte, Bool.false_eq_true]
      exact spec_Unhex_l0 s (by omega) (s.size / 2) 0 [] (by omega) (by simp only [List.length_nil]; omega)
    · have h3 : (((s.size : Int) % 2) != 0) = true := bne_iff_ne.2 h2
      simp only [h, h2, h3, ↓reduceIte, ne_eq, not_false_eq_true, or_true]
      refine Ev.shift ?_
      simp only [spec_Unhex.j0, ↓reduceIte]
      exact Ev.now _

theorem impl_Unhex_l0 (s : ByteArray) (hs : s.size ≤ 40000) (d : Nat) : ∀ (i : Nat) (acc : List Int), i + 2 * d = s.size → acc.length + d ≤ 40000 → Ev (fun k => impl_Unhex.l0 k s acc (i : Int)) (unhL s d i acc) := by
  induction d with
  | zero =>
    intro i acc hi hl
    refine Ev.shift ?_
    simp only [impl_Unhex.l0, show ¬ (i : Int) < s.size from by omega, ↓reduceIte, unhL]
    exact Ev.now _
  | succ d ih =>
    intro i acc hi hl
    have h1 : (i : Int) < s.size := by omega
    have h4 : (0 : Int) ≤ i := by omega
    have h6 : wrap64 ((i : Int) + 1) = ((i + 1 : Nat) : Int) := by rw [wrap_id (by omega) (by omega)]; omega
    have h7 : wrap64 ((i : Int) + 2) = ((i + 2 : Nat) : Int) := by rw [wrap_id (by omega) (by omega)]; omega
    have h8 : (0 : Int) ≤ ((i + 1 : Nat) : Int) := by omega
    have h9 : ((i + 1 : Nat) : Int) < s.size := by omega
    have hl' : acc.length < 140737488355328 := by omega
    have b0 := bt_range s (i : Int)
    have b1 := bt_range s ((i + 1 : Nat) : Int)
    have v0 := valB_idx b0.1 b0.2
    have v1 := valB_idx b1.1 b1.2
    have r0 := valB_range (bt s (i : Int))
    have r1 := valB_range (bt s ((i + 1 : Nat) : Int))
    have h := ih (i + 2) (acc ++ [valB (bt s (i : Int)) * 16 + valB (bt s ((i + 1 : Nat) : Int))]) (by omega) (by simp only [List.length_append, List.length_cons, List.length_nil]; omega)
    refine Ev.shift ?_
    simp only [impl_Unhex.l0, h1, h4, h6, h7, h8, h9, hl', v0, v1, ↓reduceIte, unhL, Option.bind_some]
    generalize valB (bt s (i : Int)) = v at *
    generalize valB (bt s ((i + 1 : Nat) : Int)) = w at *
    by_cases c0 : v < 0
    · simp only [c0, ↓reduceIte]
      exact Ev.now _
    · by_cases c1 : w < 0
      · simp only [c0, c1, ↓reduceIte]
        exact Ev.now _
      · have e := or_val (v := v) (w := w) (by omega) (by omega) (by omega) (by omega)
        simp only [c0, c1, ↓reduceIte, e]
        exact h
theorem impl_Unhex_ev (s : ByteArray) (hs : s.size ≤ 1048576) : Ev (fun k => impl_Unhex.f k s) (if (s.size : Int) > 40000 ∨ (s.size : Int) % 2 ≠ 0 then ((⟨#[]⟩ : ByteArray), false) else unhL s (s.size / 2) 0 []) := by
  unfold impl_Unhex.f
  by_cases h2 : (s.size : Int) % 2 = 0
  · by_cases h : (s.size : Int) > 40000
    · simp only [h, h2, ↓reduceIte, true_or, decide_true]
      refine Ev.shift ?_
      simp only [impl_Unhex.j0, ↓reduceIte]
      exact Ev.now _
    · simp only [h, h2, ↓reduceIte, ne_eq, not_true_eq_false, or_self, decide_false]
      refine Ev.shift ?_
      simp only [impl_Unhex.j0, ↓reduceIte, Bool.false_eq_true]
      exact impl_Unhex_l0 s (by omega) (s.size / 2) 0 [] (by omega) (by simp only [List.length_nil]; omega)
  · simp only [h2, ↓reduceIte, ne_eq, not_false_eq_true, or_true]
    refine Ev.shift ?_
    simp only [impl_Unhex.j0, ↓reduceIte]
    exact Ev.now _

theorem FnExactUnhex : laws_FnExactUnhex.Pure := by
  intro a0 w0
  refine Ev.rounds ?_
  unfold laws_FnExactUnhex.f
  by_cases hb : (a0.size : Int) > 1048576
  · simp only [hb, ↓reduceIte]
    exact Ev.now _
  · simp only [hb, ↓reduceIte]
    refine Ev.bind (spec_Unhex_ev a0 (by omega)) (Ev.bind (impl_Unhex_ev a0 (by omega)) ?_)
    simp only [↓reduceIte, bne_self_eq_false, Bool.false_eq_true]
    exact Ev.now _

end Go.Proofs.Ytgglelndefbdkaa.Pure

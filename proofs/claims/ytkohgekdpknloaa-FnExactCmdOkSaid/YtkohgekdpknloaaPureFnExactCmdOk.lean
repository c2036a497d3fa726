/- For every input that the statement reads, the law FnExactCmdOk of the given program returns true and leaves its arguments as they were. Conditions: none but the statement's own. -/
import Derived.Test.YtkohgekdpknloaaStmFnExactCmdOk
import Derived.Test.YtkohgekdpknloaaLib
set_option linter.unusedVariables false
set_option linter.unusedSimpArgs false
namespace Go.Proofs.Ytkohgekdpknloaa.Pure
open Go.RowKit Go.Proofs.Ytkohgekdpknloaa.PFnExactCmdOk Go.Proofs.YtkohgekdpknloaaW.PrintWords Go.Proofs.YtkohgekdpknloaaW.PrintLast Go.Proofs.YtkohgekdpknloaaW.PrintMore Go.Proofs.Ytkohgekdpknloaa.Lib

theorem spec_l01In_eq (a b c : Int) : spec_l01In.f a b c = some (decide (b ≤ a ∧ a ≤ c)) := by
  unfold spec_l01In.f
  by_cases h : a ≥ b
  · simp [h]
  · have h' : ¬ b ≤ a := by omega
    simp [h, h']

theorem spec_KeyOk_l0 (s : ByteArray) (hs : s.size ≤ 140737488351232) (d : Nat) : ∀ i : Nat, i + d = s.size → (∀ j : Nat, j < i → 97 ≤ bt s j ∧ bt s j ≤ 122) → Ev (fun k => spec_KeyOk.l0 k s (i : Int)) (keyB s) := by
  induction d with
  | zero =>
    intro i hi h
    obtain rfl : i = s.size := by omega
    refine Ev.shift ?_
    simp only [spec_KeyOk.l0, show ¬ (s.size : Int) < s.size from by omega, ↓reduceIte, spec_l01In_eq, Option.bind_some]
    rw [keyB_low h]
    exact Ev.now _
  | succ d ih =>
    intro i hi h
    refine Ev.shift ?_
    have h1 : (i : Int) < s.size := by omega
    have h4 : (0 : Int) ≤ i := by omega
    have h6 : wrap64 ((i : Int) + 1) = ((i + 1 : Nat) : Int) := by rw [wrap_id (by omega) (by omega)]; omega
    by_cases ha : bt s (i : Int) < 97
    · simp only [spec_KeyOk.l0, h1, h4, ha, ↓reduceIte]
      rw [keyB_not (i := i) (by omega) (by omega)]
      exact Ev.now _
    · by_cases hb : bt s (i : Int) > 122
      · simp only [spec_KeyOk.l0, h1, h4, ha, hb, ↓reduceIte]
        rw [keyB_not (i := i) (by omega) (by omega)]
        exact Ev.now _
      · simp only [spec_KeyOk.l0, h1, h4, ha, hb, h6, ↓reduceIte]
        refine ih (i + 1) (by omega) fun j hj => ?_
        by_cases he : j = i
        · subst he
          omega
        · exact h j (by omega)
theorem spec_KeyOk_ev (s : ByteArray) (hs : s.size ≤ 140737488351232) : Ev (fun k => spec_KeyOk.f k s) (keyB s) :=
  spec_KeyOk_l0 s hs s.size 0 (by omega) (fun j hj => by omega)

def cmdB (kind : Int) (key : ByteArray) (num : Int) : Bool := decide (1 ≤ kind ∧ kind ≤ 3) && (keyB key && decide (0 ≤ num ∧ num ≤ 1000000000))
theorem spec_CmdOk_ev (a : Int) {s : ByteArray} (b : Int) (hs : s.size ≤ 140737488351232) : Ev (fun k => spec_CmdOk.f k a s b) (cmdB a s b) := by
  unfold spec_CmdOk.f cmdB
  simp only [spec_l01In_eq, Option.bind_some]
  by_cases h : decide (1 ≤ a ∧ a ≤ 3) = true
  · simp only [h, ↓reduceIte, Bool.true_and]
    refine Ev.bind (spec_KeyOk_ev s hs) ?_
    by_cases hk : keyB s = true
    · simp only [hk, ↓reduceIte, Bool.true_and]
      exact Ev.now _
    · simp only [Bool.not_eq_true] at hk
      simp only [hk, ↓reduceIte, Bool.false_and, Bool.false_eq_true]
      exact Ev.now _
  · simp only [Bool.not_eq_true] at h
    simp only [h, ↓reduceIte, Bool.false_and, Bool.false_eq_true]
    exact Ev.now _

theorem impl_in_eq (a b c : Int) : impl_in.f a b c = some (decide (b ≤ a ∧ a ≤ c)) := by
  unfold impl_in.f
  by_cases h : a ≥ b
  · simp [h]
  · have h' : ¬ b ≤ a := by omega
    simp [h, h']

theorem impl_KeyOk_l0 (s : ByteArray) (hs : s.size ≤ 140737488351232) (d : Nat) : ∀ i : Nat, i + d = s.size → (∀ j : Nat, j < i → 97 ≤ bt s j ∧ bt s j ≤ 122) → Ev (fun k => impl_KeyOk.l0 k s (s.size : Int) (i : Int)) (keyB s) := by
  induction d with
  | zero =>
    intro i hi h
    obtain rfl : i = s.size := by omega
    refine Ev.shift ?_
    simp only [impl_KeyOk.l0, show ¬ (s.size : Int) < s.size from by omega, ↓reduceIte, impl_in_eq, Option.bind_some]
    rw [keyB_low h]
    exact Ev.now _
  | succ d ih =>
    intro i hi h
    refine Ev.shift ?_
    have h1 : (i : Int) < s.size := by omega
    have h4 : (0 : Int) ≤ i := by omega
    have h6 : wrap64 ((i : Int) + 1) = ((i + 1 : Nat) : Int) := by rw [wrap_id (by omega) (by omega)]; omega
    by_cases ha : bt s (i : Int) < 97
    · simp only [impl_KeyOk.l0, h1, h4, ha, ↓reduceIte]
      rw [keyB_not (i := i) (by omega) (by omega)]
      exact Ev.now _
    · by_cases hb : bt s (i : Int) > 122
      · simp only [impl_KeyOk.l0, h1, h4, ha, hb, ↓reduceIte]
        rw [keyB_not (i := i) (by omega) (by omega)]
        exact Ev.now _
      · simp only [impl_KeyOk.l0, h1, h4, ha, hb, h6, ↓reduceIte]
        refine ih (i + 1) (by omega) fun j hj => ?_
        by_cases he : j = i
        · subst he
          omega
        · exact h j (by omega)
theorem impl_KeyOk_ev (s : ByteArray) (hs : s.size ≤ 140737488351232) : Ev (fun k => impl_KeyOk.f k s) (keyB s) :=
  impl_KeyOk_l0 s hs s.size 0 (by omega) (fun j hj => by omega)

theorem impl_isNum_eq (n : Int) : impl_isNum.f n = some (decide (0 ≤ n ∧ n ≤ 1000000000)) := by
  unfold impl_isNum.f
  rw [impl_in_eq]
  rfl
theorem impl_CmdOk_ev (a : Int) {s : ByteArray} (b : Int) (hs : s.size ≤ 140737488351232) : Ev (fun k => impl_CmdOk.f k a s b) (cmdB a s b) := by
  unfold impl_CmdOk.f cmdB
  simp only [impl_in_eq, impl_isNum_eq, Option.bind_some]
  by_cases h : decide (1 ≤ a ∧ a ≤ 3) = true
  · simp only [h, ↓reduceIte, Bool.true_and]
    refine Ev.bind (impl_KeyOk_ev s hs) ?_
    by_cases hk : keyB s = true
    · simp only [hk, ↓reduceIte, Bool.true_and]
      exact Ev.now _
    · simp only [Bool.not_eq_true] at hk
      simp only [hk, ↓reduceIte, Bool.false_and, Bool.false_eq_true]
      exact Ev.now _
  · simp only [Bool.not_eq_true] at h
    simp only [h, ↓reduceIte, Bool.false_and, Bool.false_eq_true]
    exact Ev.now _

theorem FnExactCmdOk : laws_FnExactCmdOk.Pure := by
  intro a s b ha hs hb
  refine Ev.rounds ?_
  unfold laws_FnExactCmdOk.f laws_szCmd.f laws_toCmd.f
  have e : wrap64 (1048576 - (s.size : Int)) = 1048576 - (s.size : Int) := wrap_id (by omega) (by omega)
  simp only [e]
  by_cases hz : (1048576 : Int) - (s.size : Int) < 0
  · simp only [hz, ↓reduceIte, Option.bind_some, show ((-1 : Int) < 0) = True from eq_true (by decide)]
    exact Ev.now _
  · simp only [hz, ↓reduceIte, Option.bind_some]
    refine Ev.bind (spec_CmdOk_ev a b (by omega)) (Ev.bind (impl_CmdOk_ev a b (by omega)) ?_)
    simp only [bne_self_eq_false, Bool.false_eq_true, ↓reduceIte]
    exact Ev.now _

end Go.Proofs.Ytkohgekdpknloaa.Pure

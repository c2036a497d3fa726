/- For every input that the statement reads, the law FnExactBeginning of the given program returns true and leaves its arguments as they were. Conditions: none but the statement's own. -/
import Derived.Test.YtkohgekdpknloaaQFnExactBeginningx2
import Derived.Test.YtkohgekdpknloaaLib
import Derived.Test.YtkohgekdpknloaaLibList
set_option linter.unusedVariables false
set_option linter.unusedSimpArgs false
namespace Go.Proofs.Ytkohgekdpknloaa.Pure
open Go.RowKit Go.Proofs.Ytkohgekdpknloaa.QFnExactBeginning Go.Proofs.YtkohgekdpknloaaW.PrintWords Go.Proofs.YtkohgekdpknloaaW.PrintLast Go.Proofs.YtkohgekdpknloaaW.PrintMore Go.Proofs.Ytkohgekdpknloaa.Lib

theorem laws_toIntS_l0 (l : List Int) (hl : l.length ≤ 1048576) (d : Nat) : ∀ i : Nat, i + d = l.length → Ev (fun k => laws_toIntS.l0 k l (l.take i ++ List.replicate (l.length - i) 0) (i : Int)) l := by
  induction d with
  | zero =>
    intro i hi
    obtain rfl : i = l.length := by omega
    refine Ev.shift ?_
    simp only [laws_toIntS.l0, show ¬ (l.length : Int) < (l.length : Int) from by omega, ↓reduceIte, fill_all]
    exact Ev.now _
  | succ d ih =>
    intro i hi
    have h := ih (i + 1) (by omega)
    have hil : i < l.length := by omega
    refine Ev.shift ?_
    have c1 : (i : Int) < (l.length : Int) := by omega
    have c2 : (0 : Int) ≤ (i : Int) := by omega
    have c3 : (i : Int) < ((l.take i ++ List.replicate (l.length - i) 0).length : Int) := by rw [fill_length l 0 i (by omega)]; exact c1
    have hup := int_up hil (by omega)
    simp only [laws_toIntS.l0, c1, c2, c3, ↓reduceIte, hup, rd_nat l i hil, Int.toNat_natCast, fill_set l 0 i hil]
    exact h
theorem laws_toIntS_ev (l : List Int) (hl : l.length ≤ 1048576) : Ev (fun k => laws_toIntS.f k l) l := by
  unfold laws_toIntS.f
  have c1 : (0 : Int) ≤ (l.length : Int) := by omega
  have c2 : l.length ≤ 35184372088832 := by omega
  simp only [c1, Int.toNat_natCast, c2, ↓reduceIte]
  have h := laws_toIntS_l0 l hl l.length 0 (by omega)
  rw [fill_none] at h
  exact h
theorem laws_eqIntS_l0 (l : List Int) (hl : l.length ≤ 9223372036854775807) (d : Nat) : ∀ i : Nat, i + d = l.length → Ev (fun k => laws_eqIntS.l0 k l l (i : Int)) true := by
  induction d with
  | zero =>
    intro i hi
    refine Ev.shift ?_
    simp only [laws_eqIntS.l0, show ¬ (i : Int) < (l.length : Int) from by omega, ↓reduceIte]
    exact Ev.now _
  | succ d ih =>
    intro i hi
    have h := ih (i + 1) (by omega)
    have hil : i < l.length := by omega
    refine Ev.shift ?_
    have c1 : (i : Int) < (l.length : Int) := by omega
    have c2 : (0 : Int) ≤ (i : Int) := by omega
    simp only [laws_eqIntS.l0, c1, c2, ↓reduceIte, int_up hil hl]
    exact h
theorem laws_eqIntS_ev (l : List Int) (hl : l.length ≤ 9223372036854775807) : Ev (fun k => laws_eqIntS.f k l l) true := by
  unfold laws_eqIntS.f
  simp only [↓reduceIte]
  exact laws_eqIntS_l0 l hl l.length 0 (by omega)

theorem spec_Beginning_l0 (a b : List Int) (ha : a.length ≤ 1048576) (d : Nat) : ∀ i : Nat, i + d = a.length → (∀ j : Nat, j < i → j < a.length → j < b.length → rd a j = rd b j) → Ev (fun k => spec_Beginning.l0 k a b (i : Int)) (begB a b) := by
  induction d with
  | zero =>
    intro i hi h
    refine Ev.shift (Ev.shift ?_)
    simp only [spec_Beginning.l0, spec_Beginning.j1, show ¬ (i : Int) < (a.length : Int) from by omega, ↓reduceIte, Bool.false_eq_true]
    rw [begB_yes fun j h1 h2 => h j (by omega) h1 h2]
    exact Ev.now _
  | succ d ih =>
    intro i hi h
    have hia : i < a.length := by omega
    have c1 : (i : Int) < (a.length : Int) := by omega
    have c2 : (0 : Int) ≤ (i : Int) := by omega
    have hup := int_up hia (by omega)
    by_cases hib : i < b.length
    · have c3 : (i : Int) < (b.length : Int) := by omega
      by_cases he : rd a (i : Int) = rd b (i : Int)
      · have hr := ih (i + 1) (by omega) (fun j hj h1 h2 => by
          by_cases hji : j = i
          · subst hji
            exact he
          · exact h j (by omega) h1 h2)
        refine Ev.shift (Ev.shift ?_)
        simp only [spec_Beginning.l0, spec_Beginning.j1, c1, c2, c3, decide_true, he, ↓reduceIte, hup]
        exact hr
      · refine Ev.shift (Ev.shift ?_)
        simp only [spec_Beginning.l0, spec_Beginning.j1, c1, c2, c3, decide_true, he, ↓reduceIte]
        rw [begB_no hia hib he]
        exact Ev.now _
    · have c3 : ¬ (i : Int) < (b.length : Int) := by omega
      refine Ev.shift (Ev.shift ?_)
      simp only [spec_Beginning.l0, spec_Beginning.j1, c1, c3, decide_false, ↓reduceIte, Bool.false_eq_true]
      rw [begB_yes fun j h1 h2 => h j (by omega) h1 h2]
      exact Ev.now _
theorem spec_Beginning_ev (a b : List Int) (ha : a.length ≤ 1048576) : Ev (fun k => spec_Beginning.f k a b) (begB a b) :=
  spec_Beginning_l0 a b ha a.length 0 (by omega) (fun j hj => by omega)

theorem equal_int_l0 (a b : List Int) (ha : a.length ≤ 9223372036854775807) (hab : a.length = b.length) (d : Nat) : ∀ i : Nat, i + d = a.length → (∀ j : Nat, j < i → j < a.length → j < b.length → rd a j = rd b j) → Ev (fun k => slices_Equal_int_int.l0 k a b (a.length : Int) (i : Int)) (begB a b) := by
  induction d with
  | zero =>
    intro i hi h
    refine Ev.shift ?_
    simp only [slices_Equal_int_int.l0, show ¬ (i : Int) < (a.length : Int) from by omega, ↓reduceIte]
    rw [begB_yes fun j h1 h2 => h j (by omega) h1 h2]
    exact Ev.now _
  | succ d ih =>
    intro i hi h
    have hia : i < a.length := by omega
    have c1 : (i : Int) < (a.length : Int) := by omega
    have c2 : (0 : Int) ≤ (i : Int) := by omega
    have c3 : (i : Int) < (b.length : Int) := by omega
    have hup := int_up hia ha
    by_cases he : rd a (i : Int) = rd b (i : Int)
    · have hr := ih (i + 1) (by omega) (fun j hj h1 h2 => by
        by_cases hji : j = i
        · subst hji
          exact he
        · exact h j (by omega) h1 h2)
      refine Ev.shift ?_
      simp only [slices_Equal_int_int.l0, c1, c2, c3, he, ↓reduceIte, hup]
      exact hr
    · refine Ev.shift ?_
      simp only [slices_Equal_int_int.l0, c1, c2, c3, he, ↓reduceIte]
      rw [begB_no hia (by omega) he]
      exact Ev.now _
theorem impl_Beginning_ev (a b : List Int) (ha : a.length ≤ 1048576) (hb : b.length ≤ 1048576) : Ev (fun k => impl_Beginning.f k a b) (begB a b) := by
  unfold impl_Beginning.f
  rw [mn_le]
  have c0 : (0 : Int) ≤ ((min a.length b.length : Nat) : Int) := by omega
  have c1 : ((min a.length b.length : Nat) : Int) ≤ (a.length : Int) := by omega
  have c2 : ((min a.length b.length : Nat) : Int) ≤ (b.length : Int) := by omega
  simp only [c0, c1, c2, ↓reduceIte, Int.toNat_natCast]
  have la : (a.take (min a.length b.length)).length = min a.length b.length := by rw [List.length_take]; omega
  have lb : (b.take (min a.length b.length)).length = min a.length b.length := by rw [List.length_take]; omega
  have hq : begB (a.take (min a.length b.length)) (b.take (min a.length b.length)) = begB a b := by
    unfold begB
    rw [la, lb]
    refine decide_eq_decide.2 ⟨fun h j h1 h2 => ?_, fun h j h1 h2 => ?_⟩
    · have h3 := h j (by omega) (by omega)
      rw [rd_take (by omega), rd_take (by omega)] at h3
      exact h3
    · rw [rd_take (by omega), rd_take (by omega)]
      exact h j (by omega) (by omega)
  have he : Ev (fun k => slices_Equal_int_int.f k (a.take (min a.length b.length)) (b.take (min a.length b.length))) (begB a b) := by
    unfold slices_Equal_int_int.f
    rw [← hq]
    exact Ev.congr (fun k => if_pos (by rw [la, lb])) (equal_int_l0 _ _ (by omega) (by omega) _ 0 (Nat.zero_add _) (fun j hj => absurd hj (Nat.not_lt_zero _)))
  exact Ev.bind he (Ev.now _)

theorem FnExactBeginning : laws_FnExactBeginning.Pure := by
  intro a b _ _ _ _ _ _
  refine Ev.rounds ?_
  unfold laws_FnExactBeginning.f
  by_cases ha : (a.length : Int) > 1048576
  · simp only [ha, ↓reduceIte]
    exact Ev.now _
  · by_cases hb : (b.length : Int) > 1048576
    · simp only [ha, hb, ↓reduceIte]
      exact Ev.now _
    · simp only [ha, hb, ↓reduceIte]
      have za : a.length ≤ 1048576 := by omega
      have zb : b.length ≤ 1048576 := by omega
      have ta := laws_toIntS_ev a za
      have tb := laws_toIntS_ev b zb
      refine Ev.bind ta (Ev.bind tb (Ev.bind (spec_Beginning_ev a b za) (Ev.bind ta (Ev.bind tb (Ev.bind (impl_Beginning_ev a b za zb) ?_)))))
      simp only [bne_self_eq_false, Bool.false_eq_true, ↓reduceIte]
      refine Ev.bind ta (Ev.bind (laws_eqIntS_ev a (by omega)) ?_)
      simp only [↓reduceIte]
      refine Ev.bind tb (Ev.bind (laws_eqIntS_ev b (by omega)) ?_)
      simp only [↓reduceIte]
      exact Ev.now _

end Go.Proofs.Ytkohgekdpknloaa.Pure

/- For every input that the statement reads, the law FnExactHex of the given program returns true and leaves its arguments as they were. Conditions: none but the statement's own. -/
import Derived.Test.YtggnchbalheicaaPFnExactHexx1
import Derived.Test.YtggnchbalheicaaLib
set_option linter.unusedVariables false
set_option linter.unusedSimpArgs false
namespace Go.Proofs.Ytggnchbalheicaa.Pure
open Go.RowKit Go.Proofs.Ytggnchbalheicaa.PFnExactHex Go.Proofs.YtggnchbalheicaaW.PrintWords Go.Proofs.YtggnchbalheicaaW.PrintLast Go.Proofs.YtggnchbalheicaaW.PrintMore Go.Proofs.Ytggnchbalheicaa.Lib

theorem spec_l01Figure_eq {x : Int} (h0 : 0 ≤ x) (h1 : x < 16) : spec_l01Figure.f x = some (fig x) := by
  unfold spec_l01Figure.f fig
  by_cases h : x < 10
  · simp only [h, ↓reduceIte]
    rw [wrap_id (by omega) (by omega)]
    congr 1
    omega
  · simp only [h, ↓reduceIte]
    rw [wrap_id (x := 97 + x) (by omega) (by omega), wrap_id (by omega) (by omega)]
    congr 1
    omega
theorem spec_Hex_l0 (s : ByteArray) (hs : s.size ≤ 20000) (d : Nat) : ∀ (i : Nat) (acc : List Int), i + d = s.size → acc.length + 2 * d ≤ 40000 → Ev (fun k => spec_Hex.l0 k s acc (i : Int)) (strOfNums (acc ++ hexL s d i), true) := by
  induction d with
  | zero =>
    intro i acc hi hl
    refine Ev.shift ?_
    simp only [spec_Hex.l0, show ¬ (i : Int) < s.size from by omega, ↓reduceIte, hexL, List.append_nil]
    exact Ev.now _
  | succ d ih =>
    intro i acc hi hl
    refine Ev.shift ?_
    have h1 : (i : Int) < s.size := by omega
    have h4 : (0 : Int) ≤ i := by omega
    have hb := bt_range s (i : Int)
    have h6 : wrap64 ((i : Int) + 1) = ((i + 1 : Nat) : Int) := by rw [wrap_id (by omega) (by omega)]; omega
    have e0 : wrap64 (bt s (i : Int)) = bt s (i : Int) := wrap_id (by omega) (by omega)
    have e1 : wrap64 (Int.tdiv (bt s (i : Int)) 16) = bt s (i : Int) / 16 := by rw [tdiv_pos hb.1]; exact wrap_id (by omega) (by omega)
    have e2 : Int.tmod (bt s (i : Int)) 16 = bt s (i : Int) % 16 := tmod_pos hb.1
    have f1 := spec_l01Figure_eq (x := bt s (i : Int) / 16) (by omega) (by omega)
    have f2 := spec_l01Figure_eq (x := bt s (i : Int) % 16) (by omega) (by omega)
    have hl' : acc.length + (0 + 1 + 1) < 140737488355328 := by omega
    simp only [spec_Hex.l0, h1, h4, h6, e0, e1, e2, f1, f2, hl', ↓reduceIte, Option.bind_some, List.length_cons, List.length_nil]
    have h := ih (i + 1) (acc ++ [fig (bt s (i : Int) / 16), fig (bt s (i : Int) % 16)]) (by omega) (by simp only [List.length_append, List.length_cons, List.length_nil]; omega)
    rw [List.append_assoc] at h
    exact h

theorem spec_Hex_ev (s : ByteArray) : Ev (fun k => spec_Hex.f k s) (if (s.size : Int) > 20000 then ((⟨#[]⟩ : ByteArray), false) else (strOfNums (hexL s s.size 0), true)) := by
  unfold spec_Hex.f
  by_cases h : (s.size : Int) > 20000
  · simp only [h, ↓reduceIte]
    exact Ev.now _
  · simp only [h, ↓reduceIte]
    exact spec_Hex_l0 s (by omega) s.size 0 [] (by omega) (by simp; omega)

theorem impl_Hex_l0 (s : ByteArray) (hs : s.size ≤ 20000) (d : Nat) : ∀ (i : Nat) (acc : List Int), i + d = s.size → acc.length + 2 * d ≤ 40000 → Ev (fun k => impl_Hex.l0 k s acc (s.size : Int) (i : Int)) (strOfNums (acc ++ hexL s d i), true) := by
  induction d with
  | zero =>
    intro i acc hi hl
    refine Ev.shift ?_
    simp only [impl_Hex.l0, show ¬ (i : Int) < s.size from by omega, ↓reduceIte, hexL, List.append_nil]
    exact Ev.now _
  | succ d ih =>
    intro i acc hi hl
    refine Ev.shift ?_
    have h1 : (i : Int) < s.size := by omega
    have h4 : (0 : Int) ≤ i := by omega
    have hb := bt_range s (i : Int)
    have h6 : wrap64 ((i : Int) + 1) = ((i + 1 : Nat) : Int) := by rw [wrap_id (by omega) (by omega)]; omega
    have e2 : Go.bits .and .u8 (bt s (i : Int)) 15 = bt s (i : Int) % 16 := and15_u8 hb.1 hb.2
    have g1 : 0 ≤ bt s (i : Int) / 16 := by omega
    have g2 : bt s (i : Int) / 16 < 16 := by omega
    have g3 : 0 ≤ bt s (i : Int) % 16 := by omega
    have g4 : bt s (i : Int) % 16 < 16 := by omega
    have f1 := tab_fig g1 g2
    have f2 := tab_fig g3 g4
    have hl' : acc.length + (0 + 1 + 1) < 140737488355328 := by omega
    simp only [impl_Hex.l0, h1, h4, h6, e2, g1, g2, g3, g4, f1, f2, hl', ↓reduceIte, Option.bind_some, List.length_cons, List.length_nil]
    have h := ih (i + 1) (acc ++ [fig (bt s (i : Int) / 16), fig (bt s (i : Int) % 16)]) (by omega) (by simp only [List.length_append, List.length_cons, List.length_nil]; omega)
    rw [List.append_assoc] at h
    exact h
theorem impl_Hex_ev (s : ByteArray) : Ev (fun k => impl_Hex.f k s) (if (s.size : Int) > 20000 then ((⟨#[]⟩ : ByteArray), false) else (strOfNums (hexL s s.size 0), true)) := by
  unfold impl_Hex.f
  by_cases h : (s.size : Int) > 20000
  · simp only [h, ↓reduceIte]
    exact Ev.now _
  · simp only [h, ↓reduceIte]
    exact impl_Hex_l0 s (by omega) s.size 0 [] (by omega) (by simp; omega)

theorem FnExactHex : laws_FnExactHex.Pure := by
  intro a0 w0
  refine Ev.rounds ?_
  unfold laws_FnExactHex.f
  by_cases hb : (a0.size : Int) > 1048576
  · simp only [hb, ↓reduceIte]
    exact Ev.now _
  · simp only [hb, ↓reduceIte]
    refine Ev.bind (spec_Hex_ev a0) (Ev.bind (impl_Hex_ev a0) ?_)
    simp only [↓reduceIte, bne_self_eq_false, Bool.false_eq_true]
    exact Ev.now _

end Go.Proofs.Ytggnchbalheicaa.Pure

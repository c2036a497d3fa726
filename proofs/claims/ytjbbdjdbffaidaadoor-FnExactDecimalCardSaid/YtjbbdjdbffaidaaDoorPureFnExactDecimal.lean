/- For every input that the statement reads, the law FnExactDecimal of the given program returns true and leaves its arguments as they were. Conditions: none but the statement's own. -/
import Derived.Lib.ItoaLen
import Derived.Test.YtjbbdjdbffaidaaDoorWalkDecimal
import Derived.Test.YtjbbdjdbffaidaaDoorLib
set_option linter.unusedVariables false
set_option linter.unusedSimpArgs false
namespace Go.Proofs.YtjbbdjdbffaidaaDoor.Pure
open Go.RowKit Go.Proofs.YtjbbdjdbffaidaaDoor.QDecimal Go.Proofs.YtjbbdjdbffaidaaDoor.WalkDecimal Go.Proofs.YtjbbdjdbffaidaaDoorW.PrintWords Go.Proofs.YtjbbdjdbffaidaaDoorW.PrintLast Go.Proofs.YtjbbdjdbffaidaaDoorW.PrintMore Go.Proofs.YtjbbdjdbffaidaaDoor.Lib

theorem spec_figure {x : Int} (h0 : 0 ≤ x) (h1 : x < 10) : spec_l01Figure.f x = some (48 + x) := by
  have e : wrap64 (48 + x) % 256 = 48 + x := by rw [wrap_id (by omega) (by omega)]; omega
  unfold spec_l01Figure.f
  rw [if_pos h1, e]
def dd (u : Nat) : ByteArray := ⟨(Go.Lib.decDigits u).toArray⟩
theorem dd_small {u : Nat} (h : u < 10) : dd u = strOfNums [48 + (u : Int)] := by
  unfold dd
  rw [Go.Lib.decDigits, dif_pos h]
  have e : (48 + (u : Int)).toNat = 48 + u := by omega
  simp only [strOfNums, List.map_cons, List.map_nil, e]
theorem dd_big {u : Nat} (h : ¬ u < 10) : dd u = dd (u / 10) ++ strOfNums [48 + ((u % 10 : Nat) : Int)] := by
  unfold dd
  rw [Go.Lib.decDigits, dif_neg h]
  have e : (48 + ((u % 10 : Nat) : Int)).toNat = 48 + u % 10 := by omega
  apply ByteArray.ext
  simp only [strOfNums, List.map_cons, List.map_nil, e, ByteArray.data_append]
  simp
theorem one_size (x : Int) : (strOfNums [x]).size = 1 := by rw [strOfNums_size]; rfl
def decR (u : Nat) (b : Bool) (s : ByteArray) : ByteArray := if b = true then (⟨#[45]⟩ : ByteArray) ++ (if u = 0 then s else dd u ++ s) else (if u = 0 then s else dd u ++ s)
theorem decR_step {u : Nat} (h : u ≠ 0) (b : Bool) (s : ByteArray) : decR (u / 10) b (strOfNums [48 + ((u % 10 : Nat) : Int)] ++ s) = decR u b s := by
  unfold decR
  have e : (if u / 10 = 0 then strOfNums [48 + ((u % 10 : Nat) : Int)] ++ s else dd (u / 10) ++ (strOfNums [48 + ((u % 10 : Nat) : Int)] ++ s)) = dd u ++ s := by
    by_cases h1 : u < 10
    · have h2 : u / 10 = 0 := by omega
      have h3 : u % 10 = u := by omega
      rw [if_pos h2, h3, dd_small h1]
    · have h2 : ¬ u / 10 = 0 := by omega
      rw [if_neg h2, dd_big h1, ByteArray.append_assoc]
  rw [e, if_neg h]
theorem tmod_abs (x : Int) : (Int.tmod x 10 < 0 ∧ -(Int.tmod x 10) = ((x.natAbs % 10 : Nat) : Int)) ∨ (¬ Int.tmod x 10 < 0 ∧ Int.tmod x 10 = ((x.natAbs % 10 : Nat) : Int)) := by
  rcases Int.natAbs_eq x with h | h
  · have e : Int.tmod x 10 = x % 10 := Int.tmod_eq_emod_of_nonneg (by omega)
    right
    rw [e]
    omega
  · have e : Int.tmod x 10 = -(((x.natAbs : Int)) % 10) := by
      conv => lhs; rw [h]
      rw [Int.neg_tmod, Int.tmod_eq_emod_of_nonneg (by omega)]
    rw [e]
    by_cases hz : (x.natAbs : Int) % 10 = 0
    · right
      rw [hz]
      omega
    · left
      omega
theorem tdiv_abs (x : Int) : (Int.tdiv x 10).natAbs = x.natAbs / 10 := by
  rcases Int.natAbs_eq x with h | h
  · have e : Int.tdiv x 10 = x / 10 := Int.tdiv_eq_ediv_of_nonneg (by omega)
    rw [e]
    omega
  · have e : Int.tdiv x 10 = -((x.natAbs : Int) / 10) := by
      conv => lhs; rw [h]
      rw [Int.neg_tdiv, Int.tdiv_eq_ediv_of_nonneg (by omega)]
    rw [e]
    omega
theorem spec_Decimal_l0 (b : Bool) (u : Nat) : ∀ (x : Int) (s : ByteArray), x.natAbs = u → -9223372036854775808 ≤ x → x ≤ 9223372036854775807 → s.size + Go.Lib.nDigits u ≤ 1000 →
    Ev (fun k => spec_Decimal.l0 k x b s) (decR u b s) := by
  induction u using Nat.strongRecOn with
  | _ u ih =>
    intro x s hu h0 h1 hs
    refine Ev.shift ?_
    have hs' : s.size ≤ 1000 := by omega
    by_cases hx : x = 0
    · have hu0 : u = 0 := by omega
      subst hu0
      have e1 : 1 + s.size ≤ 9223372036854775807 := by omega
      simp only [spec_Decimal.l0, hx, ↓reduceIte, decR, e1]
      cases b with
      | true =>
        simp only [↓reduceIte]
        exact Ev.now _
      | false =>
        simp only [↓reduceIte, Bool.false_eq_true]
        exact Ev.now _
    · have hu0 : u ≠ 0 := by omega
      have hn : Go.Lib.nDigits (u / 10) + 1 ≤ Go.Lib.nDigits u ∨ u / 10 = 0 := by
        by_cases h10 : u < 10
        · right; omega
        · left; rw [Go.Lib.nDigits_big h10]; omega
      have hn1 : 1 ≤ Go.Lib.nDigits u := Go.Lib.nDigits_pos u
      have hn0 : Go.Lib.nDigits 0 = 1 := Go.Lib.nDigits_small (by decide)
      have hd := tdiv_abs x
      have hdiv : wrap64 (Int.tdiv x 10) = Int.tdiv x 10 := wrap_id (by omega) (by omega)
      have hz1 : (strOfNums [48 + ((u % 10 : Nat) : Int)]).size + s.size ≤ 9223372036854775807 := by rw [one_size]; omega
      have hsz : (strOfNums [48 + ((u % 10 : Nat) : Int)] ++ s).size = 1 + s.size := by rw [ByteArray.size_append, one_size]
      have hr : Ev (fun k => spec_Decimal.l0 k (Int.tdiv x 10) b (strOfNums [48 + ((u % 10 : Nat) : Int)] ++ s)) (decR u b s) := by
        rw [← decR_step hu0]
        by_cases hz : u / 10 = 0
        · have hx0 : Int.tdiv x 10 = 0 := by omega
          rw [hx0, hz]
          refine Ev.shift ?_
          have e1 : 1 + (strOfNums [48 + ((u % 10 : Nat) : Int)] ++ s).size ≤ 9223372036854775807 := by rw [hsz]; omega
          simp only [spec_Decimal.l0, ↓reduceIte, decR, e1]
          cases b with
          | true =>
            simp only [↓reduceIte]
            exact Ev.now _
          | false =>
            simp only [↓reduceIte, Bool.false_eq_true]
            exact Ev.now _
        · exact ih (u / 10) (by omega) (Int.tdiv x 10) _ (by omega) (by omega) (by omega) (by rw [hsz]; rcases hn with hn | hn <;> omega)
      rcases tmod_abs x with ⟨hm, he⟩ | ⟨hm, he⟩
      · have ew : wrap64 (-(Int.tmod x 10)) = ((u % 10 : Nat) : Int) := by rw [he, hu]; exact wrap_id (by omega) (by omega)
        have ef : spec_l01Figure.f ((u % 10 : Nat) : Int) = some (48 + ((u % 10 : Nat) : Int)) := spec_figure (by omega) (by omega)
        simp only [spec_Decimal.l0, hx, hm, ew, ef, hdiv, hz1, ↓reduceIte, Option.bind_some]
        exact hr
      · have ew : Int.tmod x 10 = ((u % 10 : Nat) : Int) := by rw [he, hu]
        have hm' : ¬ ((u % 10 : Nat) : Int) < 0 := by omega
        have ef : spec_l01Figure.f ((u % 10 : Nat) : Int) = some (48 + ((u % 10 : Nat) : Int)) := spec_figure (by omega) (by omega)
        simp only [spec_Decimal.l0, hx, ew, hm', ef, hdiv, hz1, ↓reduceIte, Option.bind_some]
        exact hr
theorem spec_Decimal_ev (n : Int) (h0 : -9223372036854775808 ≤ n) (h1 : n ≤ 9223372036854775807) : Ev (fun k => spec_Decimal.f k n) (⟨(Go.Lib.itoa n).toArray⟩ : ByteArray) := by
  unfold spec_Decimal.f Go.Lib.itoa
  by_cases h : n = 0
  · subst h
    simp only [↓reduceIte, Int.lt_irrefl]
    have e : (⟨#[48]⟩ : ByteArray) = ⟨(Go.Lib.decDigits (0 : Int).toNat).toArray⟩ := by
      rw [show (0 : Int).toNat = 0 from rfl, Go.Lib.decDigits, dif_pos (by decide)]
      rfl
    rw [← e]
    exact Ev.now _
  · simp only [h, ↓reduceIte]
    have hd : Go.Lib.nDigits n.natAbs ≤ 20 := Go.Lib.nDigits_le20 _ (by omega)
    have hr := spec_Decimal_l0 (decide (n < 0)) n.natAbs n ⟨#[]⟩ rfl h0 h1 (by show 0 + _ ≤ _; omega)
    refine Ev.eq hr ?_
    have hz : n.natAbs ≠ 0 := by omega
    unfold decR
    rw [if_neg hz]
    by_cases hn : n < 0
    · simp only [decide_eq_true hn, if_pos hn, ↓reduceIte]
      apply ByteArray.ext
      simp [dd]
    · simp only [decide_eq_false hn, if_neg hn, Bool.false_eq_true, ↓reduceIte]
      have e : n.toNat = n.natAbs := by omega
      rw [e]
      apply ByteArray.ext
      simp [dd]

theorem FnExactDecimal (n : Int) (h0 : -9223372036854775808 ≤ n) (h1 : n ≤ 9223372036854775807) : ∃ k, spec_Decimal.f k n = some (numeral n) := Ev.rounds (spec_Decimal_ev n h0 h1)

end Go.Proofs.YtjbbdjdbffaidaaDoor.Pure

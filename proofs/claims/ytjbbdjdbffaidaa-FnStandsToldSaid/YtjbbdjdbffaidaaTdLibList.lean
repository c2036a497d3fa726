/- Plain lemmas on lists that are filled place by place, used by the proofs of this claim; no condition. -/
import Derived.Test.YtjbbdjdbffaidaaTdLib
set_option linter.unusedVariables false
set_option linter.unusedSimpArgs false
namespace Go.Proofs.Ytjbbdjdbffaidaa.Lib
open Go.RowKit Go.Proofs.YtjbbdjdbffaidaaW.PrintWords

theorem fill_set {α : Type} (ys : List α) (z : α) (i : Nat) (h : i < ys.length) :
    (ys.take i ++ List.replicate (ys.length - i) z).set i ys[i] = ys.take (i + 1) ++ List.replicate (ys.length - (i + 1)) z := by
  have hl : (ys.take i).length = i := by rw [List.length_take]; omega
  rw [List.set_append_right _ _ (by omega), hl, Nat.sub_self, show ys.length - i = (ys.length - (i + 1)) + 1 from by omega, List.replicate_succ, List.set_cons_zero,
    List.take_succ_eq_append_getElem h, List.append_assoc]
  rfl
theorem fill_length {α : Type} (ys : List α) (z : α) (i : Nat) (h : i ≤ ys.length) : (ys.take i ++ List.replicate (ys.length - i) z).length = ys.length := by
  rw [List.length_append, List.length_take, List.length_replicate]
  omega
theorem fill_all {α : Type} (ys : List α) (z : α) : ys.take ys.length ++ List.replicate (ys.length - ys.length) z = ys := by
  rw [List.take_length, Nat.sub_self]
  simp
theorem fill_none {α : Type} (ys : List α) (z : α) : ys.take 0 ++ List.replicate (ys.length - 0) z = List.replicate ys.length z := by simp
theorem getD_nat {α : Type} (l : List α) (z : α) (i : Nat) (h : i < l.length) : l.getD (i : Int).toNat z = l[i] := by
  rw [Int.toNat_natCast, List.getD_eq_getElem?_getD, List.getElem?_eq_getElem h]
  rfl
theorem rd_nat (l : List Int) (i : Nat) (h : i < l.length) : rd l (i : Int) = l[i] := getD_nat l 0 i h
theorem int_up {i n : Nat} (h : i < n) (hn : n ≤ 9223372036854775807) : wrap64 ((i : Int) + 1) = ((i + 1 : Nat) : Int) := by
  rw [wrap_id (by omega) (by omega)]
  omega

/-! ### whole numbers that begin alike -/
def begB (a b : List Int) : Bool := decide (∀ j : Nat, j < a.length → j < b.length → rd a j = rd b j)
theorem begB_yes {a b : List Int} (h : ∀ j : Nat, j < a.length → j < b.length → rd a j = rd b j) : begB a b = true := decide_eq_true h
theorem begB_no {a b : List Int} {j : Nat} (ha : j < a.length) (hb : j < b.length) (h : ¬ rd a j = rd b j) : begB a b = false := decide_eq_false fun k => h (k j ha hb)
theorem mn_le (a b : Nat) : mn (a : Int) (b : Int) = ((min a b : Nat) : Int) := by
  unfold mn
  split <;> omega
theorem rd_take {l : List Int} {m j : Nat} (h : j < m) : rd (l.take m) j = rd l j := by
  unfold rd
  rw [Int.toNat_natCast, List.getD_eq_getElem?_getD, List.getD_eq_getElem?_getD, List.getElem?_take, if_pos h]

/-! ### sets of signers -/
/-- The number of which bit j is set where h j. -/
def sgnT : Nat → (Nat → Bool) → Int
  | 0, _ => 0
  | j + 1, h => sgnT j h + (if h j then 2 ^ j else 0)
theorem sgnT_congr {f g : Nat → Bool} : ∀ n, (∀ j, j < n → f j = g j) → sgnT n f = sgnT n g
  | 0, _ => rfl
  | n + 1, h => by
    simp only [sgnT]
    rw [sgnT_congr n (fun j hj => h j (by omega)), h n (by omega)]
def sgnN (b0 b1 b2 b3 b4 b5 b6 : Bool) : Nat := b0.toNat + 2 * b1.toNat + 4 * b2.toNat + 8 * b3.toNat + 16 * b4.toNat + 32 * b5.toNat + 64 * b6.toNat
theorem sgnN_all : ∀ b0 b1 b2 b3 b4 b5 b6 : Bool, sgnN b0 b1 b2 b3 b4 b5 b6 < 128 ∧ (sgnN b0 b1 b2 b3 b4 b5 b6).testBit 0 = b0 ∧ (sgnN b0 b1 b2 b3 b4 b5 b6).testBit 1 = b1 ∧ (sgnN b0 b1 b2 b3 b4 b5 b6).testBit 2 = b2 ∧
    (sgnN b0 b1 b2 b3 b4 b5 b6).testBit 3 = b3 ∧ (sgnN b0 b1 b2 b3 b4 b5 b6).testBit 4 = b4 ∧ (sgnN b0 b1 b2 b3 b4 b5 b6).testBit 5 = b5 ∧ (sgnN b0 b1 b2 b3 b4 b5 b6).testBit 6 = b6 := by decide
theorem sgn_nat (h : Nat → Bool) : ∃ A : Nat, A < 128 ∧ sgnT 7 h = (A : Int) ∧ ∀ j, j < 7 → A.testBit j = h j := by
  obtain ⟨hl, h0, h1, h2, h3, h4, h5, h6⟩ := sgnN_all (h 0) (h 1) (h 2) (h 3) (h 4) (h 5) (h 6)
  refine ⟨sgnN (h 0) (h 1) (h 2) (h 3) (h 4) (h 5) (h 6), hl, ?_, fun j hj => ?_⟩
  · simp only [sgnT, sgnN]
    cases h 0 <;> cases h 1 <;> cases h 2 <;> cases h 3 <;> cases h 4 <;> cases h 5 <;> cases h 6 <;> rfl
  · have hj7 : j = 0 ∨ j = 1 ∨ j = 2 ∨ j = 3 ∨ j = 4 ∨ j = 5 ∨ j = 6 := by omega
    rcases hj7 with rfl | rfl | rfl | rfl | rfl | rfl | rfl <;> assumption
theorem nat_sgn : ∀ A : Fin 128, ((A.val : Nat) : Int) = sgnT 7 (fun j => A.val.testBit j) := by decide
theorem pow_nat (j : Nat) : (2 : Int) ^ j = ((2 ^ j : Nat) : Int) := by simp
theorem shl_pow {j : Nat} (hj : j ≤ 7) : shl .i64 1 (j : Int) = 2 ^ j := by
  have h1 : 2 ^ j ≤ 2 ^ 7 := Nat.pow_le_pow_right (by decide) (by omega)
  have h2 : (2 : Nat) ^ 7 = 128 := by decide
  have key : ∀ q : Nat, q ≤ 128 → IntKind.i64.wrap (q : Int) = q := fun q hq => wraps_i64 _ (by omega) (by omega)
  unfold shl
  rw [Int.toNat_natCast, Nat.min_eq_left (by simp [IntKind.bits]; omega), Int.one_mul, pow_nat]
  exact key _ (by omega)
theorem shl_one {j : Nat} (hj : j < 7) : shl .i64 1 (j : Int) = 2 ^ j := shl_pow (by omega)
theorem shl_less {n : Int} (h0 : 0 ≤ n) (h1 : n ≤ 7) : wrap64 (shl .i64 1 n - 1) = 2 ^ n.toNat - 1 := by
  obtain ⟨j, rfl⟩ := Int.eq_ofNat_of_zero_le h0
  have hj : j ≤ 7 := by omega
  have h2 : 2 ^ j ≤ 2 ^ 7 := Nat.pow_le_pow_right (by decide) hj
  have h3 : (2 : Nat) ^ 7 = 128 := by decide
  have key : ∀ q : Nat, q ≤ 128 → wrap64 ((q : Int) - 1) = (q : Int) - 1 := fun q hq => wrap_id (by omega) (by omega)
  rw [shl_pow hj, Int.toNat_natCast, pow_nat]
  exact key _ (by omega)
theorem sgn_or (h : Nat → Bool) {j : Nat} (hj : j < 7) : Go.bits .or .i64 (sgnT 7 h) (2 ^ j) = sgnT 7 (fun m => h m || decide (m = j)) := by
  obtain ⟨A, hA, he, hb⟩ := sgn_nat h
  have hp : 2 ^ j < 128 := by
    have h1 : 2 ^ j ≤ 2 ^ 6 := Nat.pow_le_pow_right (by decide) (by omega)
    have h2 : (2 : Nat) ^ 6 = 64 := by decide
    omega
  rw [he, pow_nat, (bits_nat .i64 63 (by decide) wraps_i64 A (2 ^ j) (by omega) (by omega)).2]
  have hlt : A ||| 2 ^ j < 128 := Nat.or_lt_two_pow (n := 7) hA hp
  rw [show ((A ||| 2 ^ j : Nat) : Int) = (((⟨A ||| 2 ^ j, hlt⟩ : Fin 128).val : Nat) : Int) from rfl, nat_sgn]
  refine sgnT_congr 7 fun m hm => ?_
  show (A ||| 2 ^ j).testBit m = _
  rw [Nat.testBit_or, hb m hm, Nat.testBit_two_pow]
  congr 1
  by_cases e : j = m
  · simp [e]
  · have e' : ¬ m = j := fun q => e q.symm
    simp [e, e']
theorem sgnT_range (h : Nat → Bool) : 0 ≤ sgnT 7 h ∧ sgnT 7 h ≤ 127 := by
  obtain ⟨A, hA, he, _⟩ := sgn_nat h
  omega
theorem sgnT_small (h : Nat → Bool) : ∀ n, n ≤ 7 → 0 ≤ sgnT n h ∧ sgnT n h < 2 ^ n
  | 0, _ => by simp [sgnT]
  | n + 1, hn => by
    have := sgnT_small h n (by omega)
    have hp : (0 : Int) < 2 ^ n := Int.pow_pos (by decide)
    simp only [sgnT, Int.pow_succ]
    split <;> omega

end Go.Proofs.Ytjbbdjdbffaidaa.Lib

/- For every input that the statement reads, the law FnExactReadDecimal of the given program returns true and leaves its arguments as they were. Conditions: none but the statement's own. -/
import Derived.Lib.ItoaLen
import Derived.Test.YtjbbdjdbffaidaaDoorWalkReadDecimal
import Derived.Test.YtjbbdjdbffaidaaDoorLib
import Derived.Test.YtjbbdjdbffaidaaDoorLibText
set_option linter.unusedVariables false
set_option linter.unusedSimpArgs false
namespace Go.Proofs.YtjbbdjdbffaidaaDoor.Pure
open Go.RowKit Go.Proofs.YtjbbdjdbffaidaaDoor.QDecimal Go.Proofs.YtjbbdjdbffaidaaDoor.WalkDecimal Go.Proofs.YtjbbdjdbffaidaaDoor.WalkReadDecimal Go.Proofs.YtjbbdjdbffaidaaDoorW.PrintWords Go.Proofs.YtjbbdjdbffaidaaDoorW.PrintLast Go.Proofs.YtjbbdjdbffaidaaDoorW.PrintMore Go.Proofs.YtjbbdjdbffaidaaDoor.Lib

theorem spec_figure {x : Int} (h0 : 0 ≤ x) (h1 : x < 10) : spec_l01Figure.f x = some (48 + x) := by
  have e : wrap64 (48 + x) % 256 = 48 + x := by rw [wrap_id (by omega) (by omega)]; omega
  unfold spec_l01Figure.f
  rw [if_pos h1, e]
def dd (u : Nat) : ByteArray := ⟨(Go.Lib.decDigits u).toArray⟩
theorem dd_small {u : Nat} (h : u < 10) : dd u = strOfNums [48 + (u : Int)] := by
  unfold dd
  rw [Go.Lib.decDigits, dif_pos h]
  have e : (48 + (u : Int)).toNat = 48 + u := by omega
  simp only [strOfNums, List.map_cons, List.map_nil, e]
theorem dd_big {u : Nat} (h : ¬ u < 10) : dd u = dd (u / 10) ++ strOfNums [48 + ((u % 10 : Nat) : Int)] := by
  unfold dd
  rw [Go.Lib.decDigits, dif_neg h]
  have e : (48 + ((u % 10 : Nat) : Int)).toNat = 48 + u % 10 := by omega
  apply ByteArray.ext
  simp only [strOfNums, List.map_cons, List.map_nil, e, ByteArray.data_append]
  simp
theorem one_size (x : Int) : (strOfNums [x]).size = 1 := by rw [strOfNums_size]; rfl
def decR (u : Nat) (b : Bool) (s : ByteArray) : ByteArray := if b = true then (⟨#[45]⟩ : ByteArray) ++ (if u = 0 then s else dd u ++ s) else (if u = 0 then s else dd u ++ s)
theorem decR_step {u : Nat} (h : u ≠ 0) (b : Bool) (s : ByteArray) : decR (u / 10) b (strOfNums [48 + ((u % 10 : Nat) : Int)] ++ s) = decR u b s := by
  unfold decR
  have e : (if u / 10 = 0 then strOfNums [48 + ((u % 10 : Nat) : Int)] ++ s else dd (u / 10) ++ (strOfNums [48 + ((u % 10 : Nat) : Int)] ++ s)) = dd u ++ s := by
    by_cases h1 : u < 10
    · have h2 : u / 10 = 0 := by omega
      have h3 : u % 10 = u := by omega
      rw [if_pos h2, h3, dd_small h1]
    · have h2 : ¬ u / 10 = 0 := by omega
      rw [if_neg h2, dd_big h1, ByteArray.append_assoc]
  rw [e, if_neg h]
theorem tmod_abs (x : Int) : (Int.tmod x 10 < 0 ∧ -(Int.tmod x 10) = ((x.natAbs % 10 : Nat) : Int)) ∨ (¬ Int.tmod x 10 < 0 ∧ Int.tmod x 10 = ((x.natAbs % 10 : Nat) : Int)) := by
  rcases Int.natAbs_eq x with h | h
  · have e : Int.tmod x 10 = x % 10 := Int.tmod_eq_emod_of_nonneg (by omega)
    right
    rw [e]
    omega
  · have e : Int.tmod x 10 = -(((x.natAbs : Int)) % 10) := by
      conv => lhs; rw [h]
      rw [Int.neg_tmod, Int.tmod_eq_emod_of_nonneg (by omega)]
    rw [e]
    by_cases hz : (x.natAbs : Int) % 10 = 0
    · right
      rw [hz]
      omega
    · left
      omega
theorem tdiv_abs (x : Int) : (Int.tdiv x 10).natAbs = x.natAbs / 10 := by
  rcases Int.natAbs_eq x with h | h
  · have e : Int.tdiv x 10 = x / 10 := Int.tdiv_eq_ediv_of_nonneg (by omega)
    rw [e]
    omega
  · have e : Int.tdiv x 10 = -((x.natAbs : Int) / 10) := by
      conv => lhs; rw [h]
      rw [Int.neg_tdiv, Int.tdiv_eq_ediv_of_nonneg (by omega)]
    rw [e]
    omega
theorem spec_Decimal_l0 (b : Bool) (u : Nat) : ∀ (x : Int) (s : ByteArray), x.natAbs = u → -9223372036854775808 ≤ x → x ≤ 9223372036854775807 → s.size + Go.Lib.nDigits u ≤ 1000 →
    Ev (fun k => spec_Decimal.l0 k x b s) (decR u b s) := by
  induction u using Nat.strongRecOn with
  | _ u ih =>
    intro x s hu h0 h1 hs
    refine Ev.shift ?_
    have hs' : s.size ≤ 1000 := by omega
    by_cases hx : x = 0
    · have hu0 : u = 0 := by omega
      subst hu0
      have e1 : 1 + s.size ≤ 9223372036854775807 := by omega
      simp only [spec_Decimal.l0, hx, ↓reduceIte, decR, e1]
      cases b with
      | true =>
        simp only [↓reduceIte]
        exact Ev.now _
      | false =>
        simp only [↓reduceIte, Bool.false_eq_true]
        exact Ev.now _
    · have hu0 : u ≠ 0 := by omega
      have hn : Go.Lib.nDigits (u / 10) + 1 ≤ Go.Lib.nDigits u ∨ u / 10 = 0 := by
        by_cases h10 : u < 10
        · right; omega
        · left; rw [Go.Lib.nDigits_big h10]; omega
      have hn1 : 1 ≤ Go.Lib.nDigits u := Go.Lib.nDigits_pos u
      have hn0 : Go.Lib.nDigits 0 = 1 := Go.Lib.nDigits_small (by decide)
      have hd := tdiv_abs x
      have hdiv : wrap64 (Int.tdiv x 10) = Int.tdiv x 10 := wrap_id (by omega) (by omega)
      have hz1 : (strOfNums [48 + ((u % 10 : Nat) : Int)]).size + s.size ≤ 9223372036854775807 := by rw [one_size]; omega
      have hsz : (strOfNums [48 + ((u % 10 : Nat) : Int)] ++ s).size = 1 + s.size := by rw [ByteArray.size_append, one_size]
      have hr : Ev (fun k => spec_Decimal.l0 k (Int.tdiv x 10) b (strOfNums [48 + ((u % 10 : Nat) : Int)] ++ s)) (decR u b s) := by
        rw [← decR_step hu0]
        by_cases hz : u / 10 = 0
        · have hx0 : Int.tdiv x 10 = 0 := by omega
          rw [hx0, hz]
          refine Ev.shift ?_
          have e1 : 1 + (strOfNums [48 + ((u % 10 : Nat) : Int)] ++ s).size ≤ 9223372036854775807 := by rw [hsz]; omega
          simp only [spec_Decimal.l0, ↓reduceIte, decR, e1]
          cases b with
          | true =>
            simp only [↓reduceIte]
            exact Ev.now _
          | false =>
            simp only [↓reduceIte, Bool.false_eq_true]
            exact Ev.now _
        · exact ih (u / 10) (by omega) (Int.tdiv x 10) _ (by omega) (by omega) (by omega) (by rw [hsz]; rcases hn with hn | hn <;> omega)
      rcases tmod_abs x with ⟨hm, he⟩ | ⟨hm, he⟩
      · have ew : wrap64 (-(Int.tmod x 10)) = ((u % 10 : Nat) : Int) := by rw [he, hu]; exact wrap_id (by omega) (by omega)
        have ef : spec_l01Figure.f ((u % 10 : Nat) : Int) = some (48 + ((u % 10 : Nat) : Int)) := spec_figure (by omega) (by omega)
        simp only [spec_Decimal.l0, hx, hm, ew, ef, hdiv, hz1, ↓reduceIte, Option.bind_some]
        exact hr
      · have ew : Int.tmod x 10 = ((u % 10 : Nat) : Int) := by rw [he, hu]
        have hm' : ¬ ((u % 10 : Nat) : Int) < 0 := by omega
        have ef : spec_l01Figure.f ((u % 10 : Nat) : Int) = some (48 + ((u % 10 : Nat) : Int)) := spec_figure (by omega) (by omega)
        simp only [spec_Decimal.l0, hx, ew, hm', ef, hdiv, hz1, ↓reduceIte, Option.bind_some]
        exact hr
theorem spec_Decimal_ev (n : Int) (h0 : -9223372036854775808 ≤ n) (h1 : n ≤ 9223372036854775807) : Ev (fun k => spec_Decimal.f k n) (⟨(Go.Lib.itoa n).toArray⟩ : ByteArray) := by
  unfold spec_Decimal.f Go.Lib.itoa
  by_cases h : n = 0
  · subst h
    simp only [↓reduceIte, Int.lt_irrefl]
    have e : (⟨#[48]⟩ : ByteArray) = ⟨(Go.Lib.decDigits (0 : Int).toNat).toArray⟩ := by
      rw [show (0 : Int).toNat = 0 from rfl, Go.Lib.decDigits, dif_pos (by decide)]
      rfl
    rw [← e]
    exact Ev.now _
  · simp only [h, ↓reduceIte]
    have hd : Go.Lib.nDigits n.natAbs ≤ 20 := Go.Lib.nDigits_le20 _ (by omega)
    have hr := spec_Decimal_l0 (decide (n < 0)) n.natAbs n ⟨#[]⟩ rfl h0 h1 (by show 0 + _ ≤ _; omega)
    refine Ev.eq hr ?_
    have hz : n.natAbs ≠ 0 := by omega
    unfold decR
    rw [if_neg hz]
    by_cases hn : n < 0
    · simp only [decide_eq_true hn, if_pos hn, ↓reduceIte]
      apply ByteArray.ext
      simp [dd]
    · simp only [decide_eq_false hn, if_neg hn, Bool.false_eq_true, ↓reduceIte]
      have e : n.toNat = n.natAbs := by omega
      rw [e]
      apply ByteArray.ext
      simp [dd]

theorem decFrom_append : ∀ (l r : List UInt8) (acc : Nat), Go.Lib.decFrom acc (l ++ r) = (Go.Lib.decFrom acc l).bind fun a => Go.Lib.decFrom a r
  | [], _, _ => rfl
  | b :: l, r, acc => by
    rw [List.cons_append, Go.Lib.decFrom, Go.Lib.decFrom]
    cases Go.Lib.digitVal b with
    | none => rfl
    | some d => exact decFrom_append l r _
theorem digit_fig {x : Nat} (h : x < 10) : Go.Lib.digitVal (UInt8.ofNat (48 + x)) = some x := by
  have e : (UInt8.ofNat (48 + x)).toNat = 48 + x := by simp only [UInt8.toNat_ofNat']; omega
  unfold Go.Lib.digitVal
  rw [e, if_pos (by omega)]
  congr 1
  omega
theorem decFrom_dec (u : Nat) : ∀ acc, Go.Lib.decFrom acc (Go.Lib.decDigits u) = some (acc * 10 ^ Go.Lib.nDigits u + u) := by
  induction u using Nat.strongRecOn with
  | _ u ih =>
    intro acc
    by_cases h : u < 10
    · rw [Go.Lib.decDigits, dif_pos h, Go.Lib.nDigits_small h, Go.Lib.decFrom, digit_fig h]
      simp only [Go.Lib.decFrom, Nat.pow_one]
    · rw [Go.Lib.decDigits, dif_neg h, Go.Lib.nDigits_big h, decFrom_append, ih (u / 10) (by omega), Option.bind_some, Go.Lib.decFrom, digit_fig (Nat.mod_lt _ (by decide))]
      simp only [Go.Lib.decFrom, Nat.pow_succ]
      congr 1
      have : acc * (10 ^ Go.Lib.nDigits (u / 10) * 10) = (acc * 10 ^ Go.Lib.nDigits (u / 10)) * 10 := by rw [Nat.mul_assoc]
      rw [this]
      omega
theorem dec_head (u : Nat) : ∃ b r, Go.Lib.decDigits u = b :: r ∧ (b == 45) = false ∧ (b == 43) = false := by
  have hl := Go.Lib.decDigits_length u
  have hp := Go.Lib.nDigits_pos u
  cases hd : Go.Lib.decDigits u with
  | nil => rw [hd, List.length_nil] at hl; omega
  | cons b r =>
    refine ⟨b, r, rfl, ?_, ?_⟩
    all_goals
      obtain ⟨x, hx⟩ := Go.Lib.digit_of_decFrom (Go.Lib.decDigits u) 0 _ (decFrom_dec u 0) 0 b (by rw [hd]; rfl)
      unfold Go.Lib.digitVal at hx
      split at hx
      · rename_i hc
        rw [beq_eq_false_iff_ne]
        rintro rfl
        revert hc
        decide
      · cases hx
theorem atoi_dec (u : Nat) : Go.Lib.atoi (Go.Lib.decDigits u) = some (u : Int) := by
  obtain ⟨b, r, hd, h1, h2⟩ := dec_head u
  have h := decFrom_dec u 0
  rw [Nat.zero_mul, Nat.zero_add, hd] at h
  rw [hd, Go.Lib.atoi, h1, h2]
  simp only [Bool.false_eq_true, ↓reduceIte, Go.Lib.decNat, List.isEmpty_cons, h, Option.map_some]
theorem nDigits_le10 {u : Nat} (h : u ≤ 1000000000) : Go.Lib.nDigits u ≤ 10 := by
  by_cases h0 : u < 10
  · rw [Go.Lib.nDigits_small h0]; omega
  rw [Go.Lib.nDigits_big h0]
  by_cases h1 : u / 10 < 10
  · rw [Go.Lib.nDigits_small h1]; omega
  rw [Go.Lib.nDigits_big h1]
  by_cases h2 : u / 10 / 10 < 10
  · rw [Go.Lib.nDigits_small h2]; omega
  rw [Go.Lib.nDigits_big h2]
  by_cases h3 : u / 10 / 10 / 10 < 10
  · rw [Go.Lib.nDigits_small h3]; omega
  rw [Go.Lib.nDigits_big h3]
  by_cases h4 : u / 10 / 10 / 10 / 10 < 10
  · rw [Go.Lib.nDigits_small h4]; omega
  rw [Go.Lib.nDigits_big h4]
  by_cases h5 : u / 10 / 10 / 10 / 10 / 10 < 10
  · rw [Go.Lib.nDigits_small h5]; omega
  rw [Go.Lib.nDigits_big h5]
  by_cases h6 : u / 10 / 10 / 10 / 10 / 10 / 10 < 10
  · rw [Go.Lib.nDigits_small h6]; omega
  rw [Go.Lib.nDigits_big h6]
  by_cases h7 : u / 10 / 10 / 10 / 10 / 10 / 10 / 10 < 10
  · rw [Go.Lib.nDigits_small h7]; omega
  rw [Go.Lib.nDigits_big h7]
  by_cases h8 : u / 10 / 10 / 10 / 10 / 10 / 10 / 10 / 10 < 10
  · rw [Go.Lib.nDigits_small h8]; omega
  rw [Go.Lib.nDigits_big h8, Go.Lib.nDigits_small (by omega)]
  decide
theorem num_of {s : ByteArray} {u : Nat} (h : s.data.toList = Go.Lib.decDigits u) : numeral (u : Int) = s := by
  unfold numeral Go.Lib.itoa
  rw [if_neg (by omega), show ((u : Int)).toNat = u from rfl, ← h]
theorem of_num {s : ByteArray} {v : Int} (h0 : 0 ≤ v) (h : (numeral v).toList = s.toList) : s.data.toList = Go.Lib.decDigits v.toNat := by
  have e := ba_ext h
  rw [← e]
  unfold numeral Go.Lib.itoa
  rw [if_neg (by omega)]
theorem ends_num {s : ByteArray} {u : Nat} (hu : u ≤ 1000000000) (h : s.data.toList = Go.Lib.decDigits u) : ends s = ((u : Int), true) := by
  have hl : s.data.toList.length ≤ 18 := by
    rw [h, Go.Lib.decDigits_length]
    have := nDigits_le10 hu
    omega
  have ha : Go.Lib.atoiAll s.data.toList = .ok (u : Int) := by rw [Go.Lib.atoiAll_short _ hl, h, atoi_dec]; rfl
  have c : (0 : Int) ≤ (u : Int) ∧ (u : Int) ≤ 1000000000 ∧ (numeral (u : Int)).toList = s.toList := ⟨by omega, by omega, by rw [num_of h]⟩
  unfold ends
  rw [ha]
  exact if_pos c
theorem ends_else {s : ByteArray} (h : ∀ u : Nat, u ≤ 1000000000 → s.data.toList ≠ Go.Lib.decDigits u) : ends s = (0, false) := by
  unfold ends
  split
  · rename_i v hv
    rw [if_neg]
    rintro ⟨h0, h1, h2⟩
    exact h v.toNat (by omega) (of_num h0 h2)
  · rfl
theorem bt_nat (s : ByteArray) (i : Nat) (h : i < s.data.toList.length) : bt s (i : Int) = ((s.data.toList[i]).toNat : Int) := by
  have hs : (i : Int).toNat < s.size := by
    rw [Array.length_toList] at h
    exact h
  rw [← bt_at s (i : Int) hs]
  rfl
def finD (s : ByteArray) : Option Nat → Int × Bool
  | none => (0, false)
  | some n => if (n : Int) > 1000000000 then (0, false) else if (numeral (n : Int)).toList = s.toList then ((n : Int), true) else (0, false)
theorem spec_ReadDecimal_l0 (s : ByteArray) (hs : s.size ≤ 10) (d : Nat) : ∀ (i v : Nat), i + d = s.data.toList.length → v < 10 ^ i → Ev (fun k => spec_ReadDecimal.l0 k s (v : Int) (i : Int)) (finD s (Go.Lib.decFrom v (s.data.toList.drop i))) := by
  have hsz : s.data.toList.length = s.size := by rw [Array.length_toList]; rfl
  induction d with
  | zero =>
    intro i v hi hv
    have hp : (10 : Nat) ^ i ≤ 10 ^ 10 := Nat.pow_le_pow_right (by decide) (by omega)
    have h10 : (10 : Nat) ^ 10 = 10000000000 := by decide
    refine Ev.shift ?_
    rw [List.drop_of_length_le (by omega)]
    simp only [spec_ReadDecimal.l0, show ¬ (i : Int) < (s.size : Int) from by omega, ↓reduceIte, Go.Lib.decFrom, finD]
    by_cases h : (v : Int) > 1000000000
    · simp only [h, ↓reduceIte]
      exact Ev.now _
    · simp only [h, ↓reduceIte]
      refine Ev.bind (spec_Decimal_ev (v : Int) (by omega) (by omega)) ?_
      by_cases h2 : (numeral (v : Int)).toList = s.toList
      · have h3 : (⟨(Go.Lib.itoa (v : Int)).toArray⟩ : ByteArray).toList = s.toList := h2
        simp only [h2, h3, ↓reduceIte]
        exact Ev.now _
      · have h3 : ¬ (⟨(Go.Lib.itoa (v : Int)).toArray⟩ : ByteArray).toList = s.toList := h2
        simp only [h2, h3, ↓reduceIte]
        exact Ev.now _
  | succ d ih =>
    intro i v hi hv
    have hil : i < s.data.toList.length := by omega
    have c1 : (i : Int) < (s.size : Int) := by omega
    have c2 : (0 : Int) ≤ (i : Int) := by omega
    have hup : wrap64 ((i : Int) + 1) = ((i + 1 : Nat) : Int) := by rw [wrap_id (by omega) (by omega)]; omega
    have hp : (10 : Nat) ^ i ≤ 10 ^ 10 := Nat.pow_le_pow_right (by decide) (by omega)
    have h10 : (10 : Nat) ^ 10 = 10000000000 := by decide
    have hb := bt_nat s i hil
    have hr := bt_range s (i : Int)
    rw [List.drop_eq_getElem_cons hil, Go.Lib.decFrom]
    refine Ev.shift ?_
    by_cases h1 : bt s (i : Int) < 48
    · have hd : Go.Lib.digitVal (s.data.toList[i]) = none := by
        unfold Go.Lib.digitVal
        rw [if_neg (by omega)]
      rw [hd]
      simp only [spec_ReadDecimal.l0, c1, c2, h1, ↓reduceIte, finD]
      exact Ev.now _
    · by_cases h2 : bt s (i : Int) > 57
      · have hd : Go.Lib.digitVal (s.data.toList[i]) = none := by
          unfold Go.Lib.digitVal
          rw [if_neg (by omega)]
        rw [hd]
        simp only [spec_ReadDecimal.l0, c1, c2, h1, h2, ↓reduceIte, finD]
        exact Ev.now _
      · have hd : Go.Lib.digitVal (s.data.toList[i]) = some ((s.data.toList[i]).toNat - 48) := by
          unfold Go.Lib.digitVal
          rw [if_pos (by omega)]
        rw [hd]
        have e : wrap64 (wrap64 (wrap64 (10 * (v : Int)) + wrap64 (bt s (i : Int))) - 48) = ((v * 10 + ((s.data.toList[i]).toNat - 48) : Nat) : Int) := by
          rw [wrap_id (x := 10 * (v : Int)) (by omega) (by omega), wrap_id (x := bt s (i : Int)) (by omega) (by omega), wrap_id (x := 10 * (v : Int) + bt s (i : Int)) (by omega) (by omega), wrap_id (by omega) (by omega)]
          omega
        have h := ih (i + 1) (v * 10 + ((s.data.toList[i]).toNat - 48)) (by omega) (by rw [Nat.pow_succ]; omega)
        simp only [spec_ReadDecimal.l0, c1, c2, h1, h2, e, hup, ↓reduceIte]
        exact h
theorem spec_ReadDecimal_ev (s : ByteArray) : Ev (fun k => spec_ReadDecimal.f k s) (ends s) := by
  have hsz : s.data.toList.length = s.size := by rw [Array.length_toList]; rfl
  have hfin : (∀ u : Nat, u ≤ 1000000000 → s.data.toList ≠ Go.Lib.decDigits u) → ∀ o, finD s o = (0, false) := by
    intro h o
    cases o with
    | none => rfl
    | some n =>
      simp only [finD]
      by_cases h1 : (n : Int) > 1000000000
      · rw [if_pos h1]
      · rw [if_neg h1, if_neg (fun h2 => h n (by omega) (of_num (by omega) h2))]
  unfold spec_ReadDecimal.f
  by_cases hx : ∃ u : Nat, u ≤ 1000000000 ∧ s.data.toList = Go.Lib.decDigits u
  · obtain ⟨u, hu, hd⟩ := hx
    have hl := nDigits_le10 hu
    have hn : ¬ (s.size : Int) > 10 := by
      rw [← hsz, hd, Go.Lib.decDigits_length]
      omega
    rw [ends_num hu hd]
    simp only [hn, ↓reduceIte]
    have h := spec_ReadDecimal_l0 s (by omega) s.data.toList.length 0 0 (by omega) (by decide)
    rw [List.drop_zero, hd, decFrom_dec, Nat.zero_mul, Nat.zero_add] at h
    refine Ev.eq h ?_
    simp only [finD]
    rw [if_neg (by omega), if_pos (by rw [num_of hd])]
  · have hall : ∀ u : Nat, u ≤ 1000000000 → s.data.toList ≠ Go.Lib.decDigits u := fun u hu he => hx ⟨u, hu, he⟩
    rw [ends_else hall]
    by_cases hn : (s.size : Int) > 10
    · simp only [hn, ↓reduceIte]
      exact Ev.now _
    · simp only [hn, ↓reduceIte]
      have h := spec_ReadDecimal_l0 s (by omega) s.data.toList.length 0 0 (by omega) (by decide)
      rw [hfin hall] at h
      exact h

theorem FnExactReadDecimal (s : ByteArray) : ∃ k, (s.size : Int) > 1048576 ∨ ¬ (s.size : Int) > 1048576 ∧ spec_ReadDecimal.f k s = some (ends s) := by
  by_cases h : (s.size : Int) > 1048576
  · exact ⟨0, .inl h⟩
  · obtain ⟨k, hk⟩ := (spec_ReadDecimal_ev s).rounds
    exact ⟨k, .inr ⟨h, hk⟩⟩

end Go.Proofs.YtjbbdjdbffaidaaDoor.Pure

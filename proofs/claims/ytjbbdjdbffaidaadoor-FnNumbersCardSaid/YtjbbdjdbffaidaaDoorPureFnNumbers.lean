/- For every input that the statement reads, the law FnNumbers of the given program returns true and leaves its arguments as they were. Conditions: none but the statement's own. -/
import Derived.Lib.ItoaLen
import Derived.Test.YtjbbdjdbffaidaaDoorWalkFnNumbers
import Derived.Test.YtjbbdjdbffaidaaDoorLib
import Derived.Test.YtjbbdjdbffaidaaDoorLibText
set_option linter.unusedVariables false
set_option linter.unusedSimpArgs false
namespace Go.Proofs.YtjbbdjdbffaidaaDoor.Pure
open Go.RowKit Go.Proofs.YtjbbdjdbffaidaaDoor.QFnNumbers Go.Proofs.YtjbbdjdbffaidaaDoor.WalkDecimal Go.Proofs.YtjbbdjdbffaidaaDoor.WalkReadDecimal Go.Proofs.YtjbbdjdbffaidaaDoor.WalkFnNumbers Go.Proofs.YtjbbdjdbffaidaaDoorW.PrintWords Go.Proofs.YtjbbdjdbffaidaaDoorW.PrintLast Go.Proofs.YtjbbdjdbffaidaaDoorW.PrintMore Go.Proofs.YtjbbdjdbffaidaaDoor.Lib

theorem decFrom_append : ∀ (l r : List UInt8) (acc : Nat), Go.Lib.decFrom acc (l ++ r) = (Go.Lib.decFrom acc l).bind fun a => Go.Lib.decFrom a r
  | [], _, _ => rfl
  | b :: l, r, acc => by
    rw [List.cons_append, Go.Lib.decFrom, Go.Lib.decFrom]
    cases Go.Lib.digitVal b with
    | none => rfl
    | some d => exact decFrom_append l r _
theorem digit_fig {x : Nat} (h : x < 10) : Go.Lib.digitVal (UInt8.ofNat (48 + x)) = some x := by
  have e : (UInt8.ofNat (48 + x)).toNat = 48 + x := by simp only [UInt8.toNat_ofNat']; omega
  unfold Go.Lib.digitVal
  rw [e, if_pos (by omega)]
  congr 1
  omega
theorem decFrom_dec (u : Nat) : ∀ acc, Go.Lib.decFrom acc (Go.Lib.decDigits u) = some (acc * 10 ^ Go.Lib.nDigits u + u) := by
  induction u using Nat.strongRecOn with
  | _ u ih =>
    intro acc
    by_cases h : u < 10
    · rw [Go.Lib.decDigits, dif_pos h, Go.Lib.nDigits_small h, Go.Lib.decFrom, digit_fig h]
      simp only [Go.Lib.decFrom, Nat.pow_one]
    · rw [Go.Lib.decDigits, dif_neg h, Go.Lib.nDigits_big h, decFrom_append, ih (u / 10) (by omega), Option.bind_some, Go.Lib.decFrom, digit_fig (Nat.mod_lt _ (by decide))]
      simp only [Go.Lib.decFrom, Nat.pow_succ]
      congr 1
      have : acc * (10 ^ Go.Lib.nDigits (u / 10) * 10) = (acc * 10 ^ Go.Lib.nDigits (u / 10)) * 10 := by rw [Nat.mul_assoc]
      rw [this]
      omega
theorem dec_head (u : Nat) : ∃ b r, Go.Lib.decDigits u = b :: r ∧ (b == 45) = false ∧ (b == 43) = false := by
  have hl := Go.Lib.decDigits_length u
  have hp := Go.Lib.nDigits_pos u
  cases hd : Go.Lib.decDigits u with
  | nil => rw [hd, List.length_nil] at hl; omega
  | cons b r =>
    refine ⟨b, r, rfl, ?_, ?_⟩
    all_goals
      obtain ⟨x, hx⟩ := Go.Lib.digit_of_decFrom (Go.Lib.decDigits u) 0 _ (decFrom_dec u 0) 0 b (by rw [hd]; rfl)
      unfold Go.Lib.digitVal at hx
      split at hx
      · rename_i hc
        rw [beq_eq_false_iff_ne]
        rintro rfl
        revert hc
        decide
      · cases hx
theorem atoi_dec (u : Nat) : Go.Lib.atoi (Go.Lib.decDigits u) = some (u : Int) := by
  obtain ⟨b, r, hd, h1, h2⟩ := dec_head u
  have h := decFrom_dec u 0
  rw [Nat.zero_mul, Nat.zero_add, hd] at h
  rw [hd, Go.Lib.atoi, h1, h2]
  simp only [Bool.false_eq_true, ↓reduceIte, Go.Lib.decNat, List.isEmpty_cons, h, Option.map_some]
theorem nDigits_le10 {u : Nat} (h : u ≤ 1000000000) : Go.Lib.nDigits u ≤ 10 := by
  by_cases h0 : u < 10
  · rw [Go.Lib.nDigits_small h0]; omega
  rw [Go.Lib.nDigits_big h0]
  by_cases h1 : u / 10 < 10
  · rw [Go.Lib.nDigits_small h1]; omega
  rw [Go.Lib.nDigits_big h1]
  by_cases h2 : u / 10 / 10 < 10
  · rw [Go.Lib.nDigits_small h2]; omega
  rw [Go.Lib.nDigits_big h2]
  by_cases h3 : u / 10 / 10 / 10 < 10
  · rw [Go.Lib.nDigits_small h3]; omega
  rw [Go.Lib.nDigits_big h3]
  by_cases h4 : u / 10 / 10 / 10 / 10 < 10
  · rw [Go.Lib.nDigits_small h4]; omega
  rw [Go.Lib.nDigits_big h4]
  by_cases h5 : u / 10 / 10 / 10 / 10 / 10 < 10
  · rw [Go.Lib.nDigits_small h5]; omega
  rw [Go.Lib.nDigits_big h5]
  by_cases h6 : u / 10 / 10 / 10 / 10 / 10 / 10 < 10
  · rw [Go.Lib.nDigits_small h6]; omega
  rw [Go.Lib.nDigits_big h6]
  by_cases h7 : u / 10 / 10 / 10 / 10 / 10 / 10 / 10 < 10
  · rw [Go.Lib.nDigits_small h7]; omega
  rw [Go.Lib.nDigits_big h7]
  by_cases h8 : u / 10 / 10 / 10 / 10 / 10 / 10 / 10 / 10 < 10
  · rw [Go.Lib.nDigits_small h8]; omega
  rw [Go.Lib.nDigits_big h8, Go.Lib.nDigits_small (by omega)]
  decide
theorem num_of {s : ByteArray} {u : Nat} (h : s.data.toList = Go.Lib.decDigits u) : numeral (u : Int) = s := by
  unfold numeral Go.Lib.itoa
  rw [if_neg (by omega), show ((u : Int)).toNat = u from rfl, ← h]
theorem of_num {s : ByteArray} {v : Int} (h0 : 0 ≤ v) (h : (numeral v).toList = s.toList) : s.data.toList = Go.Lib.decDigits v.toNat := by
  have e := ba_ext h
  rw [← e]
  unfold numeral Go.Lib.itoa
  rw [if_neg (by omega)]
theorem ends_num {s : ByteArray} {u : Nat} (hu : u ≤ 1000000000) (h : s.data.toList = Go.Lib.decDigits u) : ends s = ((u : Int), true) := by
  have hl : s.data.toList.length ≤ 18 := by
    rw [h, Go.Lib.decDigits_length]
    have := nDigits_le10 hu
    omega
  have ha : Go.Lib.atoiAll s.data.toList = .ok (u : Int) := by rw [Go.Lib.atoiAll_short _ hl, h, atoi_dec]; rfl
  have c : (0 : Int) ≤ (u : Int) ∧ (u : Int) ≤ 1000000000 ∧ (numeral (u : Int)).toList = s.toList := ⟨by omega, by omega, by rw [num_of h]⟩
  unfold ends
  rw [ha]
  exact if_pos c
theorem bt_nat (s : ByteArray) (i : Nat) (h : i < s.data.toList.length) : bt s (i : Int) = ((s.data.toList[i]).toNat : Int) := by
  have hs : (i : Int).toNat < s.size := by
    rw [Array.length_toList] at h
    exact h
  rw [← bt_at s (i : Int) hs]
  rfl

theorem spec_l01New_l0 (l : List Int) (d : Nat) : ∀ (i : Nat) (x : Int), i + d = 4000 → ∃ h, Ev (fun k => spec_l01New.l0 k l x (i : Int)) (l, 0, h) := by
  induction d with
  | zero =>
    intro i x hi
    refine ⟨x, Ev.shift ?_⟩
    have h2 : ¬ (i : Int) < 4000 := by omega
    by_cases h1 : (i : Int) < (l.length : Int)
    · simp only [spec_l01New.l0, h1, h2, ↓reduceIte]
      exact Ev.now _
    · simp only [spec_l01New.l0, h1, ↓reduceIte]
      exact Ev.now _
  | succ d ih =>
    intro i x hi
    have h2 : (i : Int) < 4000 := by omega
    have h4 : (0 : Int) ≤ i := by omega
    have h6 : wrap64 ((i : Int) + 1) = ((i + 1 : Nat) : Int) := by rw [wrap_id (by omega) (by omega)]; omega
    by_cases h1 : (i : Int) < (l.length : Int)
    · obtain ⟨h, hh⟩ := ih (i + 1) (Go.bits .and .i64 (wrap64 ((wrap64 ((wrap64 (x * 131)) + (wrap64 (rd l (i : Int))))) + 7)) 1073741823) (by omega)
      refine ⟨h, Ev.shift ?_⟩
      simp only [spec_l01New.l0, h1, h2, h4, h6, ↓reduceIte]
      exact hh
    · refine ⟨x, Ev.shift ?_⟩
      simp only [spec_l01New.l0, h1, ↓reduceIte]
      exact Ev.now _
theorem spec_l01New_ev (l : List Int) : ∃ h, Ev (fun k => spec_l01New.f k l) (l, 0, h) := spec_l01New_l0 l 4000 0 _ rfl
/-- A cursor's place lies in its bytes. -/
def CurOk (l : List Int) (i : Int) : Prop := 0 ≤ i ∧ i ≤ (l.length : Int)
theorem spec_l01Byte_eq {l : List Int} (hl : l.length ≤ 9223372036854775807) {i : Int} (hi : CurOk l i) (h : Int) :
    ∃ x i' h', spec_l01Byte.f l i h = some (x, i', h') ∧ 0 ≤ x ∧ x ≤ 255 ∧ CurOk l i' := by
  unfold spec_l01Byte.f
  have hm := fun y => i64_and_range y 255 (by omega)
  by_cases h1 : i < (l.length : Int)
  · have h4 : 0 ≤ i := hi.1
    simp only [h1, h4, ↓reduceIte]
    refine ⟨_, _, _, rfl, (hm _).1, (hm _).2, ?_⟩
    rw [wrap_id (by omega) (by omega)]
    exact ⟨by omega, by omega⟩
  · simp only [h1, ↓reduceIte]
    exact ⟨_, _, _, rfl, (hm _).1, (hm _).2, hi⟩
theorem spec_l01Below_eq {l : List Int} (hl : l.length ≤ 9223372036854775807) {i : Int} (hi : CurOk l i) (h : Int) (n : Int) :
    ∃ x i' h', spec_l01Below.f l i h n = some (x, i', h') ∧ 0 ≤ x ∧ (0 < n → x < n) ∧ (n ≤ 0 → x = 0) ∧ CurOk l i' := by
  unfold spec_l01Below.f
  by_cases h0 : n ≤ 0
  · simp only [h0, ↓reduceIte]
    exact ⟨0, i, h, rfl, by omega, fun hn => by omega, fun _ => rfl, hi⟩
  · have hn : ¬ n = 0 := by omega
    by_cases h1 : n ≤ 256
    · obtain ⟨x, i', h', e, x0, x1, hc⟩ := spec_l01Byte_eq hl hi h
      simp only [h0, h1, hn, e, ↓reduceIte, Option.bind_some]
      refine ⟨_, _, _, rfl, ?_, fun _ => ?_, fun hh => by first | exact hh.elim | exact absurd hh h0, hc⟩
      · rw [tmod_pos x0]
        exact Int.emod_nonneg _ hn
      · rw [tmod_pos x0]
        exact Int.emod_lt_of_pos _ (by omega)
    · obtain ⟨x, i1, h1', e1, x0, x1, hc1⟩ := spec_l01Byte_eq hl hi h
      obtain ⟨y, i2, h2', e2, y0, y1, hc2⟩ := spec_l01Byte_eq hl hc1 h1'
      obtain ⟨z, i3, h3', e3, z0, z1, hc3⟩ := spec_l01Byte_eq hl hc2 h2'
      obtain ⟨v, i4, h4', e4, v0, v1, hc4⟩ := spec_l01Byte_eq hl hc3 h3'
      simp only [h0, h1, hn, e1, e2, e3, e4, ↓reduceIte, Option.bind_some]
      have ew : wrap64 ((wrap64 ((wrap64 ((wrap64 (x * 16777216)) + (wrap64 (y * 65536)))) + (wrap64 (z * 256)))) + v) = x * 16777216 + y * 65536 + z * 256 + v := by
        rw [wrap_id (x := x * 16777216) (by omega) (by omega), wrap_id (x := y * 65536) (by omega) (by omega), wrap_id (x := z * 256) (by omega) (by omega),
          wrap_id (x := x * 16777216 + y * 65536) (by omega) (by omega), wrap_id (x := x * 16777216 + y * 65536 + z * 256) (by omega) (by omega), wrap_id (by omega) (by omega)]
      refine ⟨_, _, _, rfl, ?_, fun _ => ?_, fun hh => by first | exact hh.elim | exact absurd hh h0, hc4⟩
      · rw [ew, tmod_pos (by omega)]
        exact Int.emod_nonneg _ hn
      · rw [ew, tmod_pos (by omega)]
        exact Int.emod_lt_of_pos _ (by omega)
theorem curOk_zero (l : List Int) : CurOk l 0 := ⟨by omega, by omega⟩

theorem spec_l01Once_eq {l : List Int} (hl : l.length ≤ 9223372036854775807) {i : Int} (hi : CurOk l i) (h : Int) (n : Int) :
    ∃ b i' h', spec_l01Once.f l i h n = some (b, i', h') ∧ CurOk l i' := by
  obtain ⟨x, i', h', e, _, _, _, hc⟩ := spec_l01Below_eq hl hi h n
  exact ⟨_, _, _, by unfold spec_l01Once.f; rw [e]; rfl, hc⟩
theorem spec_l01PickInt_eq {l : List Int} (hl : l.length ≤ 9223372036854775807) {i : Int} (hi : CurOk l i) (h : Int) (c : List Int) (hc : 0 < c.length) :
    ∃ x i' h', spec_l01PickInt.f l i h c = some (x, i', h') ∧ CurOk l i' := by
  obtain ⟨x, i', h', e, x0, x1, _, hc'⟩ := spec_l01Below_eq hl hi h (c.length : Int)
  have x2 := x1 (by omega)
  refine ⟨rd c x, i', h', ?_, hc'⟩
  unfold spec_l01PickInt.f
  simp only [e, x0, x2, Option.bind_some, ↓reduceIte]

theorem spec_l01Text_l0 {l : List Int} (hl : l.length ≤ 9223372036854775807) (n : Nat) (hn : n ≤ 5000) (d : Nat) : ∀ (j : Nat) (acc : List Int) (i h : Int), j + d = n → acc.length = j → CurOk l i →
    ∃ s i' h', Ev (fun k => spec_l01Text.l0 k (n : Int) acc (j : Int) l i h) (s, i', h') ∧ s.size = n ∧ CurOk l i' := by
  induction d with
  | zero =>
    intro j acc i h hj ha hc
    refine ⟨strOfNums acc, i, h, Ev.shift ?_, by rw [strOfNums_size]; omega, hc⟩
    simp only [spec_l01Text.l0, show ¬ (j : Int) < (n : Int) from by omega, ↓reduceIte]
    exact Ev.now _
  | succ d ih =>
    intro j acc i h hj ha hc
    obtain ⟨x, i1, h1, e, x0, x1, hc1⟩ := spec_l01Byte_eq hl hc h
    have h6 : wrap64 ((j : Int) + 1) = ((j + 1 : Nat) : Int) := by rw [wrap_id (by omega) (by omega)]; omega
    obtain ⟨s, i', h', hr, hs, hc'⟩ := ih (j + 1) (acc ++ [x % 256]) i1 h1 (by omega) (by simp; omega) hc1
    refine ⟨s, i', h', Ev.shift ?_, hs, hc'⟩
    have hlt : acc.length < 140737488355328 := by omega
    simp only [spec_l01Text.l0, show (j : Int) < (n : Int) from by omega, e, h6, hlt, ↓reduceIte, Option.bind_some]
    exact hr
theorem spec_l01Text_ev {l : List Int} (hl : l.length ≤ 9223372036854775807) {i : Int} (hi : CurOk l i) (h : Int) {a : Int} (h0 : 0 ≤ a) (h1 : a ≤ 5000) :
    ∃ s i' h', Ev (fun k => spec_l01Text.f k l i h a) (s, i', h') ∧ (s.size : Int) = a ∧ CurOk l i' := by
  obtain ⟨n, rfl⟩ := Int.eq_ofNat_of_zero_le h0
  obtain ⟨s, i', h', hr, hs, hc⟩ := spec_l01Text_l0 hl n (by omega) n 0 [] i h (by omega) rfl hi
  refine ⟨s, i', h', ?_, by omega, hc⟩
  unfold spec_l01Text.f
  simp only [show ¬ (n : Int) > 5000 from by omega, ↓reduceIte]
  refine Ev.shift ?_
  simp only [spec_l01Text.j0]
  exact hr

theorem impl_in_eq (a b c : Int) : impl_in.f a b c = some (decide (b ≤ a ∧ a ≤ c)) := by
  unfold impl_in.f
  by_cases h : a ≥ b
  · simp [h]
  · have h' : ¬ b ≤ a := by omega
    simp [h, h']

theorem impl_varText_l0 (d : Nat) : ∀ (n : Int) (acc : List Int), 0 ≤ n → n < lim d → n ≤ 9223372036854775807 → acc.length + d < 1000 →
    Ev (fun k => impl_varText.l0 k n acc) (strOfNums (acc ++ varL d n)) := by
  induction d with
  | zero =>
    intro n acc h0 h1 h2 hl
    refine Ev.shift ?_
    have hn : ¬ n > 127 := by simp only [lim] at h1; omega
    have hl' : acc.length < 140737488355328 := by omega
    simp only [impl_varText.l0, hn, hl', ↓reduceIte, varL]
    rw [show n % 256 = n from by omega]
    exact Ev.now _
  | succ d ih =>
    intro n acc h0 h1 h2 hl
    refine Ev.shift ?_
    have hl' : acc.length < 140737488355328 := by omega
    by_cases hn : n > 127
    · have e2 : (Go.bits .or .i64 (Go.bits .and .i64 n 127) 128) % 256 = n % 128 + 128 := by rw [and127_i64 h0 h2, or128_i64 (by omega) (by omega)]; omega
      simp only [impl_varText.l0, hn, hl', ↓reduceIte, varL, e2]
      have h := ih (n / 128) (acc ++ [n % 128 + 128]) (by omega) (by simp only [lim] at h1; omega) (by omega) (by simp; omega)
      rw [List.append_assoc] at h
      exact h
    · simp only [impl_varText.l0, hn, hl', ↓reduceIte, varL]
      rw [show n % 256 = n from by omega]
      exact Ev.now _
theorem impl_varText_ev {n : Int} (h0 : 0 ≤ n) (h1 : n ≤ 9223372036854775807) : Ev (fun k => impl_varText.f k n) (varS n) := by
  have h := impl_varText_l0 9 n [] h0 (by have := lim9; omega) h1 (by simp)
  exact h

/-- What is read of a number from place p on, k digits (n) behind it, d still to come. -/
def readF (s : ByteArray) : Nat → Nat → Nat → Int → Int × Int × Bool
  | 0, _, _, _ => (0, 0, false)
  | d + 1, p, k, n =>
    if p < s.size then
      (if bt s p > 127 then readF s d (p + 1) (k + 1) (n + bt s p % 128 * 128 ^ k)
        else if bt s p = 0 ∧ k > 0 then (0, 0, false) else if n + bt s p % 128 * 128 ^ k > 1000000000 then (0, 0, false) else (n + bt s p % 128 * 128 ^ k, (p : Int) + 1, true))
    else (0, 0, false)
def readV (s : ByteArray) (at_ : Int) : Int × Int × Bool := if 0 ≤ at_ ∧ at_ ≤ (s.size : Int) then readF s 5 at_.toNat 0 0 else (0, 0, false)
theorem pow128 {k : Nat} (h : k ≤ 4) : (1 : Int) ≤ 128 ^ k ∧ (128 : Int) ^ k ≤ 268435456 := by
  have h5 : k = 0 ∨ k = 1 ∨ k = 2 ∨ k = 3 ∨ k = 4 := by omega
  rcases h5 with rfl | rfl | rfl | rfl | rfl <;> decide
theorem mul_range {x c : Int} (x0 : 0 ≤ x) (x1 : x ≤ 127) (c0 : 1 ≤ c) (c1 : c ≤ 268435456) : 0 ≤ x * c ∧ x * c ≤ 34091302912 := by
  constructor
  · exact Int.mul_nonneg x0 (by omega)
  · have h1 : x * c ≤ 127 * c := Int.mul_le_mul_of_nonneg_right x1 (by omega)
    omega

theorem readF_range (s : ByteArray) : ∀ (d p k : Nat) (n : Int), 0 ≤ n → (readF s d p k n).2.2 = true → 0 ≤ (readF s d p k n).1 ∧ (readF s d p k n).1 ≤ 1000000000 ∧ 0 ≤ (readF s d p k n).2.1 ∧ (readF s d p k n).2.1 ≤ (s.size : Int)
  | 0, p, k, n, h0, h => by simp [readF] at h
  | d + 1, p, k, n, h0, h => by
    have hb := bt_range s (p : Int)
    have hm : 0 ≤ bt s (p : Int) % 128 * 128 ^ k := Int.mul_nonneg (by omega) (Int.le_of_lt (Int.pow_pos (by decide)))
    simp only [readF] at h ⊢
    by_cases h1 : p < s.size
    · simp only [h1, ↓reduceIte] at h ⊢
      by_cases h2 : bt s (p : Int) > 127
      · simp only [h2, ↓reduceIte] at h ⊢
        exact readF_range s d (p + 1) (k + 1) _ (by omega) h
      · simp only [h2, ↓reduceIte] at h ⊢
        by_cases h3 : bt s (p : Int) = 0 ∧ k > 0
        · simp only [h3, and_self, ↓reduceIte, Bool.false_eq_true] at h
        · simp only [h3, ↓reduceIte] at h ⊢
          by_cases h4 : n + bt s (p : Int) % 128 * 128 ^ k > 1000000000
          · simp only [h4, ↓reduceIte, Bool.false_eq_true] at h
          · simp only [h4, ↓reduceIte]
            refine ⟨by omega, by omega, by omega, by omega⟩
    · simp only [h1, ↓reduceIte, Bool.false_eq_true] at h
theorem readV_range (s : ByteArray) (a : Int) (h : (readV s a).2.2 = true) : 0 ≤ (readV s a).1 ∧ (readV s a).1 ≤ 1000000000 ∧ 0 ≤ (readV s a).2.1 ∧ (readV s a).2.1 ≤ (s.size : Int) := by
  unfold readV at h ⊢
  by_cases h0 : 0 ≤ a ∧ a ≤ (s.size : Int)
  · simp only [h0, and_self, ↓reduceIte] at h ⊢
    exact readF_range s 5 _ 0 0 (by omega) h
  · simp only [h0, ↓reduceIte, Bool.false_eq_true] at h
def readS (s : ByteArray) (a : Int) : ByteArray × Int × Bool :=
  if (readV s a).2.2 = true ∧ (readV s a).1 ≤ 20000 ∧ (readV s a).1 ≤ (s.size : Int) - (readV s a).2.1 then
    (s.extract (readV s a).2.1.toNat ((readV s a).2.1 + (readV s a).1).toNat, (readV s a).2.1 + (readV s a).1, true)
  else ((⟨#[]⟩ : ByteArray), 0, false)

theorem shl_digit {x : Int} {k : Nat} (x0 : 0 ≤ x) (x1 : x ≤ 127) (hk : k ≤ 4) : shl .i64 x (7 * (k : Int)) = x * 128 ^ k := by
  have hpw := pow128 (k := k) hk
  have hmr := mul_range x0 x1 hpw.1 hpw.2
  unfold shl
  have e : min (7 * (k : Int)).toNat IntKind.i64.bits = 7 * k := by
    have : IntKind.i64.bits = 64 := rfl
    omega
  rw [e, show (2 : Int) ^ (7 * k) = 128 ^ k from by rw [Int.pow_mul]; rfl]
  exact wraps_i64 _ hmr.1 (by omega)
theorem or_digit {n x : Int} {k : Nat} (n0 : 0 ≤ n) (n1 : n < 128 ^ k) (x0 : 0 ≤ x) (x1 : x ≤ 127) (hk : k ≤ 4) : Go.bits .or .i64 n (x * 128 ^ k) = n + x * 128 ^ k := by
  have hpw := pow128 (k := k) hk
  have hmr := mul_range x0 x1 hpw.1 hpw.2
  have e : (2 : Int) ^ (7 * k) = 128 ^ k := by rw [Int.pow_mul]; rfl
  rw [bits_or_comm, bits_join .i64 63 (by decide) wraps_i64 (7 * k) (x * 128 ^ k) n hmr.1 (by rw [e]; exact Int.mul_emod_left _ _) (by omega) n0 (by rw [e]; exact n1) (by omega), Int.add_comm]
theorem impl_ReadVar_l0 (s : ByteArray) (hs : s.size ≤ 140737488351232) (a : Nat) (ha : a ≤ s.size) (d : Nat) : ∀ (k : Nat) (n : Int), k + d = 5 → 0 ≤ n → n < 128 ^ k →
    Ev (fun q => impl_ReadVar.l0 q s (a : Int) n (k : Int)) (readF s d (a + k) k n) := by
  induction d with
  | zero =>
    intro k n hk hn hn1
    have h1 : ¬ (k : Int) < 5 := by omega
    refine Ev.shift (Ev.shift ?_)
    simp only [impl_ReadVar.l0, impl_ReadVar.j1, h1, ↓reduceIte, Bool.false_eq_true, readF]
    exact Ev.now _
  | succ d ih =>
    intro k n hk hn hn1
    have hk4 : k ≤ 4 := by omega
    have h5 : (k : Int) < 5 := by omega
    have hpw := pow128 (k := k) hk4
    have hbt := bt_range s ((a + k : Nat) : Int)
    generalize hX : bt s ((a + k : Nat) : Int) = X at hbt
    have hmr := mul_range (x := X % 128) (c := 128 ^ k) (by omega) (by omega) hpw.1 hpw.2
    have hx0 : 0 ≤ X % 128 := by omega
    have hx1 : X % 128 ≤ 127 := by omega
    have hn2 : n + X % 128 * 128 ^ k < 128 ^ (k + 1) := by
      rw [Int.pow_succ]
      have h1 : X % 128 * 128 ^ k ≤ 127 * 128 ^ k := Int.mul_le_mul_of_nonneg_right hx1 (by omega)
      omega
    have hn3 : 0 ≤ n + X % 128 * 128 ^ k := by omega
    have m1 : (-9223372036854775808 : Int) ≤ (a : Int) + (k : Int) := by omega
    have m2 : (a : Int) + (k : Int) ≤ 9223372036854775807 := by omega
    have m3 : (a : Int) + (k : Int) = ((a + k : Nat) : Int) := by omega
    have m4 : (-9223372036854775808 : Int) ≤ 7 * (k : Int) := by omega
    have m5 : 7 * (k : Int) ≤ 9223372036854775807 := by omega
    have c1 : (0 : Int) ≤ 7 * (k : Int) := by omega
    have c0 : (0 : Int) ≤ ((a + k : Nat) : Int) := by omega
    have m6 : (-9223372036854775808 : Int) ≤ X := by omega
    have m7 : X ≤ 9223372036854775807 := by omega
    have m8 : (-9223372036854775808 : Int) ≤ (k : Int) + 1 := by omega
    have m9 : (k : Int) + 1 ≤ 9223372036854775807 := by omega
    have m10 : (k : Int) + 1 = ((k + 1 : Nat) : Int) := by omega
    have m11 : (-9223372036854775808 : Int) ≤ ((a + k : Nat) : Int) + 1 := by omega
    have m12 : ((a + k : Nat) : Int) + 1 ≤ 9223372036854775807 := by omega
    have k0 : ((k : Int) > 0) = (k > 0) := propext (by omega)
    have kk : k + 1 + d = 5 := by omega
    have aa : a + (k + 1) = a + k + 1 := by omega
    have e1 : wrap64 ((a : Int) + (k : Int)) = ((a + k : Nat) : Int) := (wrap_id m1 m2).trans m3
    have e2 : wrap64 (7 * (k : Int)) = 7 * (k : Int) := wrap_id m4 m5
    have e3 : wrap64 (X) = X := wrap_id m6 m7
    have e4 : Go.bits .and .i64 (X) 127 = X % 128 := and127_i64 hbt.1 m7
    have e5 : shl .i64 (X % 128) (7 * (k : Int)) = X % 128 * 128 ^ k := shl_digit hx0 hx1 hk4
    have e6 : Go.bits .or .i64 n (X % 128 * 128 ^ k) = n + X % 128 * 128 ^ k := or_digit hn hn1 hx0 hx1 hk4
    have e7 : wrap64 ((k : Int) + 1) = ((k + 1 : Nat) : Int) := (wrap_id m8 m9).trans m10
    have e8 : wrap64 (((a + k : Nat) : Int) + 1) = ((a + k : Nat) : Int) + 1 := wrap_id m11 m12
    refine Ev.shift (Ev.shift ?_)
    by_cases h1 : a + k < s.size
    · have h1' : ((a + k : Nat) : Int) < (s.size : Int) := Int.ofNat_lt.2 h1
      by_cases h2 : X > 127
      · have hr := ih (k + 1) _ kk hn3 hn2
        rw [aa] at hr
        simp only [impl_ReadVar.l0, impl_ReadVar.j1, h5, e1, h1', decide_true, c0, e2, c1, hX, e3, h2, e4, e5, e6, e7, ↓reduceIte, readF, h1]
        exact hr
      · by_cases h3 : X = 0
        · subst h3
          by_cases h4 : k > 0
          · simp only [impl_ReadVar.l0, impl_ReadVar.j1, h5, e1, h1', decide_true, c0, e2, c1, hX, e3, h2, eq_self, k0, h4, ↓reduceIte, readF, h1, and_self]
            exact Ev.now _
          · by_cases h6 : n + 0 % 128 * 128 ^ k > 1000000000
            · simp only [impl_ReadVar.l0, impl_ReadVar.j1, h5, e1, h1', decide_true, c0, e2, c1, hX, e3, h2, eq_self, k0, h4, e4, e5, e6, e8, h6, ↓reduceIte, readF, h1, and_false]
              exact Ev.now _
            · simp only [impl_ReadVar.l0, impl_ReadVar.j1, h5, e1, h1', decide_true, c0, e2, c1, hX, e3, h2, eq_self, k0, h4, e4, e5, e6, e8, h6, ↓reduceIte, readF, h1, and_false]
              exact Ev.now _
        · by_cases h6 : n + X % 128 * 128 ^ k > 1000000000
          · simp only [impl_ReadVar.l0, impl_ReadVar.j1, h5, e1, h1', decide_true, c0, e2, c1, hX, e3, h2, h3, e4, e5, e6, e8, h6, ↓reduceIte, readF, h1, false_and]
            exact Ev.now _
          · simp only [impl_ReadVar.l0, impl_ReadVar.j1, h5, e1, h1', decide_true, c0, e2, c1, hX, e3, h2, h3, e4, e5, e6, e8, h6, ↓reduceIte, readF, h1, false_and]
            exact Ev.now _
    · have h1' : ¬ ((a + k : Nat) : Int) < (s.size : Int) := fun q => h1 (Int.ofNat_lt.1 q)
      simp only [impl_ReadVar.l0, impl_ReadVar.j1, h5, e1, h1', decide_false, ↓reduceIte, Bool.false_eq_true, readF, h1]
      exact Ev.now _
theorem impl_ReadVar_ev (s : ByteArray) (hs : s.size ≤ 140737488351232) (a : Int) : Ev (fun q => impl_ReadVar.f q s a) (readV s a) := by
  unfold impl_ReadVar.f readV
  rw [impl_in_eq]
  by_cases h : 0 ≤ a ∧ a ≤ (s.size : Int)
  · obtain ⟨n, rfl⟩ := Int.eq_ofNat_of_zero_le h.1
    simp only [h, decide_true, Option.bind_some, ↓reduceIte, and_self, Int.toNat_natCast]
    exact impl_ReadVar_l0 s hs n (by omega) 5 0 0 rfl (by omega) (by decide)
  · simp only [h, decide_false, Option.bind_some, ↓reduceIte, Bool.false_eq_true]
    exact Ev.now _

theorem impl_ReadShort_ev (s : ByteArray) (hs : s.size ≤ 140737488351232) (a : Int) : Ev (fun q => impl_ReadShort.f q s a) (readS s a) := by
  unfold impl_ReadShort.f readS
  refine Ev.bind (impl_ReadVar_ev s hs a) ?_
  have hr := readV_range s a
  generalize readV s a = v at hr
  obtain ⟨n, p, b⟩ := v
  simp only at hr ⊢
  cases b with
  | false =>
    simp only [Bool.false_eq_true, ↓reduceIte, false_and]
    exact Ev.now _
  | true =>
    obtain ⟨n0, n1, p0, p1⟩ := hr rfl
    have e1 : wrap64 ((s.size : Int) - p) = (s.size : Int) - p := wrap_id (by omega) (by omega)
    have e2 : wrap64 (p + n) = p + n := wrap_id (by omega) (by omega)
    simp only [↓reduceIte, true_and]
    by_cases h1 : n > 20000
    · have h1' : ¬ (n ≤ 20000 ∧ n ≤ (s.size : Int) - p) := fun q => absurd h1 (Int.not_lt.2 q.1)
      simp only [h1, h1', ↓reduceIte]
      exact Ev.now _
    · by_cases h2 : n > (s.size : Int) - p
      · have h2' : ¬ (n ≤ 20000 ∧ n ≤ (s.size : Int) - p) := fun q => absurd h2 (Int.not_lt.2 q.2)
        simp only [h1, e1, h2, h2', ↓reduceIte]
        exact Ev.now _
      · have h3 : n ≤ 20000 ∧ n ≤ (s.size : Int) - p := ⟨Int.not_lt.1 h1, Int.not_lt.1 h2⟩
        have c1 : p ≤ p + n := by omega
        have c2 : p + n ≤ (s.size : Int) := by omega
        simp only [h1, e1, h2, e2, p0, c1, c2, h3, and_self, ↓reduceIte]
        exact Ev.now _

/-- The value of a figure; -1 of any other byte. -/
def valB (x : Int) : Int := if x ≥ 48 ∧ x ≤ 57 then x - 48 else if x ≥ 97 ∧ x ≤ 102 then x - 87 else -1
theorem valB_range (x : Int) : -1 ≤ valB x ∧ valB x ≤ 15 := by
  unfold valB
  by_cases h : x ≥ 48 ∧ x ≤ 57
  · rw [if_pos h]; omega
  · rw [if_neg h]
    by_cases h2 : x ≥ 97 ∧ x ≤ 102
    · rw [if_pos h2]; omega
    · rw [if_neg h2]; omega
theorem valB_tab : ∀ n : Fin 256, Lib.indexByte [48, 49, 50, 51, 52, 53, 54, 55, 56, 57, 97, 98, 99, 100, 101, 102] ((n.val : Int).toNat.toUInt8) = valB (n.val : Int) := by decide +kernel
theorem valB_idx {x : Int} (h0 : 0 ≤ x) (h1 : x ≤ 255) : strings_IndexByte.f (⟨#[48, 49, 50, 51, 52, 53, 54, 55, 56, 57, 97, 98, 99, 100, 101, 102]⟩ : ByteArray) x = some (valB x) := by
  have h := valB_tab ⟨x.toNat, by omega⟩
  have e : ((x.toNat : Nat) : Int) = x := by omega
  simp only [e] at h
  unfold strings_IndexByte.f
  exact congrArg some h
theorem or_tab : ∀ v w : Fin 16, (Go.bits .or .i64 (wrap64 ((v.val : Int) * 16)) (w.val : Int)) % 256 = (v.val : Int) * 16 + (w.val : Int) := by decide +kernel
theorem or_val {v w : Int} (h0 : 0 ≤ v) (h1 : v ≤ 15) (h2 : 0 ≤ w) (h3 : w ≤ 15) : (Go.bits .or .i64 (wrap64 (v * 16)) w) % 256 = v * 16 + w := by
  have h := or_tab ⟨v.toNat, by omega⟩ ⟨w.toNat, by omega⟩
  have e : ((v.toNat : Nat) : Int) = v := by omega
  have e2 : ((w.toNat : Nat) : Int) = w := by omega
  simp only [e, e2] at h
  exact h
def unhL (s : ByteArray) : Nat → Nat → List Int → ByteArray × Bool
  | 0, _, acc => (strOfNums acc, true)
  | d + 1, i, acc => if valB (bt s (i : Int)) < 0 then ((⟨#[]⟩ : ByteArray), false) else if valB (bt s ((i + 1 : Nat) : Int)) < 0 then ((⟨#[]⟩ : ByteArray), false) else unhL s d (i + 2) (acc ++ [valB (bt s (i : Int)) * 16 + valB (bt s ((i + 1 : Nat) : Int))])

theorem impl_Unhex_l0 (s : ByteArray) (hs : s.size ≤ 40000) (d : Nat) : ∀ (i : Nat) (acc : List Int), i + 2 * d = s.size → acc.length + d ≤ 40000 → Ev (fun k => impl_Unhex.l0 k s acc (i : Int)) (unhL s d i acc) := by
  induction d with
  | zero =>
    intro i acc hi hl
    refine Ev.shift ?_
    simp only [impl_Unhex.l0, show ¬ (i : Int) < s.size from by omega, ↓reduceIte, unhL]
    exact Ev.now _
  | succ d ih =>
    intro i acc hi hl
    have h1 : (i : Int) < s.size := by omega
    have h4 : (0 : Int) ≤ i := by omega
    have h6 : wrap64 ((i : Int) + 1) = ((i + 1 : Nat) : Int) := by rw [wrap_id (by omega) (by omega)]; omega
    have h7 : wrap64 ((i : Int) + 2) = ((i + 2 : Nat) : Int) := by rw [wrap_id (by omega) (by omega)]; omega
    have h8 : (0 : Int) ≤ ((i + 1 : Nat) : Int) := by omega
    have h9 : ((i + 1 : Nat) : Int) < s.size := by omega
    have hl' : acc.length < 140737488355328 := by omega
    have b0 := bt_range s (i : Int)
    have b1 := bt_range s ((i + 1 : Nat) : Int)
    have v0 := valB_idx b0.1 b0.2
    have v1 := valB_idx b1.1 b1.2
    have r0 := valB_range (bt s (i : Int))
    have r1 := valB_range (bt s ((i + 1 : Nat) : Int))
    have h := ih (i + 2) (acc ++ [valB (bt s (i : Int)) * 16 + valB (bt s ((i + 1 : Nat) : Int))]) (by omega) (by simp only [List.length_append, List.length_cons, List.length_nil]; omega)
    refine Ev.shift ?_
    simp only [impl_Unhex.l0, h1, h4, h6, h7, h8, h9, hl', v0, v1, ↓reduceIte, unhL, Option.bind_some]
    generalize valB (bt s (i : Int)) = v at *
    generalize valB (bt s ((i + 1 : Nat) : Int)) = w at *
    by_cases c0 : v < 0
    · simp only [c0, ↓reduceIte]
      exact Ev.now _
    · by_cases c1 : w < 0
      · simp only [c0, c1, ↓reduceIte]
        exact Ev.now _
      · have e := or_val (v := v) (w := w) (by omega) (by omega) (by omega) (by omega)
        simp only [c0, c1, ↓reduceIte, e]
        exact h
theorem impl_Unhex_ev (s : ByteArray) (hs : s.size ≤ 1048576) : Ev (fun k => impl_Unhex.f k s) (if (s.size : Int) > 40000 ∨ (s.size : Int) % 2 ≠ 0 then ((⟨#[]⟩ : ByteArray), false) else unhL s (s.size / 2) 0 []) := by
  unfold impl_Unhex.f
  by_cases h2 : (s.size : Int) % 2 = 0
  · by_cases h : (s.size : Int) > 40000
    · simp only [h, h2, ↓reduceIte, true_or, decide_true]
      refine Ev.shift ?_
      simp only [impl_Unhex.j0, ↓reduceIte]
      exact Ev.now _
    · simp only [h, h2, ↓reduceIte, ne_eq, not_true_eq_false, or_self, decide_false]
      refine Ev.shift ?_
      simp only [impl_Unhex.j0, ↓reduceIte, Bool.false_eq_true]
      exact impl_Unhex_l0 s (by omega) (s.size / 2) 0 [] (by omega) (by simp only [List.length_nil]; omega)
  · simp only [h2, ↓reduceIte, ne_eq, not_false_eq_true, or_true]
    refine Ev.shift ?_
    simp only [impl_Unhex.j0, ↓reduceIte]
    exact Ev.now _

theorem impl_Hex_l0 (s : ByteArray) (hs : s.size ≤ 20000) (d : Nat) : ∀ (i : Nat) (acc : List Int), i + d = s.size → acc.length + 2 * d ≤ 40000 → Ev (fun k => impl_Hex.l0 k s acc (s.size : Int) (i : Int)) (strOfNums (acc ++ hexL s d i), true) := by
  induction d with
  | zero =>
    intro i acc hi hl
    refine Ev.shift ?_
    simp only [impl_Hex.l0, show ¬ (i : Int) < s.size from by omega, ↓reduceIte, hexL, List.append_nil]
    exact Ev.now _
  | succ d ih =>
    intro i acc hi hl
    refine Ev.shift ?_
    have h1 : (i : Int) < s.size := by omega
    have h4 : (0 : Int) ≤ i := by omega
    have hb := bt_range s (i : Int)
    have h6 : wrap64 ((i : Int) + 1) = ((i + 1 : Nat) : Int) := by rw [wrap_id (by omega) (by omega)]; omega
    have e2 : Go.bits .and .u8 (bt s (i : Int)) 15 = bt s (i : Int) % 16 := and15_u8 hb.1 hb.2
    have g1 : 0 ≤ bt s (i : Int) / 16 := by omega
    have g2 : bt s (i : Int) / 16 < 16 := by omega
    have g3 : 0 ≤ bt s (i : Int) % 16 := by omega
    have g4 : bt s (i : Int) % 16 < 16 := by omega
    have f1 := tab_fig g1 g2
    have f2 := tab_fig g3 g4
    have hl' : acc.length + (0 + 1 + 1) < 140737488355328 := by omega
    simp only [impl_Hex.l0, h1, h4, h6, e2, g1, g2, g3, g4, f1, f2, hl', ↓reduceIte, Option.bind_some, List.length_cons, List.length_nil]
    have h := ih (i + 1) (acc ++ [fig (bt s (i : Int) / 16), fig (bt s (i : Int) % 16)]) (by omega) (by simp only [List.length_append, List.length_cons, List.length_nil]; omega)
    rw [List.append_assoc] at h
    exact h
theorem impl_Hex_ev (s : ByteArray) : Ev (fun k => impl_Hex.f k s) (if (s.size : Int) > 20000 then ((⟨#[]⟩ : ByteArray), false) else (strOfNums (hexL s s.size 0), true)) := by
  unfold impl_Hex.f
  by_cases h : (s.size : Int) > 20000
  · simp only [h, ↓reduceIte]
    exact Ev.now _
  · simp only [h, ↓reduceIte]
    exact impl_Hex_l0 s (by omega) s.size 0 [] (by omega) (by simp; omega)

/-! ### the bytes of a text in a text -/
theorem sub_list (s : ByteArray) : ∀ (d p : Nat), p + d ≤ s.data.toList.length → sub s d p = ((s.data.toList.drop p).take d).map (fun b => (b.toNat : Int))
  | 0, p, _ => by simp [sub]
  | d + 1, p, h => by
    have hp : p < s.data.toList.length := by omega
    rw [List.drop_eq_getElem_cons hp, List.take_succ_cons, List.map_cons, ← sub_list s d (p + 1) (by omega), ← bt_nat s p hp]
    rfl
theorem bytes_back : ∀ (xs : List Int), (∀ x ∈ xs, 0 ≤ x ∧ x ≤ 255) → (xs.map fun n => UInt8.ofNat n.toNat).map (fun b => (b.toNat : Int)) = xs
  | [], _ => rfl
  | x :: xs, h => by
    have hx := h x (List.mem_cons_self ..)
    rw [List.map_cons, List.map_cons, bytes_back xs (fun y hy => h y (List.mem_cons_of_mem _ hy))]
    congr 1
    simp only [UInt8.toNat_ofNat']
    omega
theorem sub_mid (xs : List Int) (hx : ∀ x ∈ xs, 0 ≤ x ∧ x ≤ 255) (a b : List UInt8) (s : ByteArray) (hs : s.data.toList = a ++ (xs.map fun n => UInt8.ofNat n.toNat) ++ b) : sub s xs.length a.length = xs := by
  have hl : s.data.toList.length = a.length + xs.length + b.length := by rw [hs]; simp only [List.length_append, List.length_map]
  rw [sub_list s _ _ (by omega), hs, List.append_assoc, List.drop_left, List.take_left' (by rw [List.length_map])]
  exact bytes_back xs hx
theorem strOfNums_data (xs : List Int) : (strOfNums xs).data.toList = xs.map fun n => UInt8.ofNat n.toNat := by rw [← ba_toList, strOfNums_toList]
theorem data_app (a b : ByteArray) : (a ++ b).data.toList = a.data.toList ++ b.data.toList := by
  rw [ByteArray.data_append, Array.toList_append]
theorem data_len (s : ByteArray) : s.data.toList.length = s.size := by rw [Array.length_toList]; rfl
/-! ### a number read back -/
theorem varL_more : ∀ (d : Nat) (n : Int), 0 ≤ n → n < lim d → varL (d + 1) n = varL d n
  | 0, n, h0, h => by
    have h : n < 128 := h
    rw [varL_small (by omega), varL_small (by omega)]
  | d + 1, n, h0, h => by
    have h : n < 128 * lim d := h
    by_cases hn : n > 127
    · have ih := varL_more d (n / 128) (by omega) (by omega)
      show (if n > 127 then (n % 128 + 128) :: varL (d + 1) (n / 128) else [n]) = (if n > 127 then (n % 128 + 128) :: varL d (n / 128) else [n])
      rw [ih]
    · rw [varL_small hn, varL_small hn]
theorem lim_up : ∀ d, lim d ≤ lim (d + 1)
  | 0 => by decide
  | d + 1 => by
    have := lim_up d
    show 128 * lim d ≤ 128 * lim (d + 1)
    omega
theorem varL_four {n : Int} (h0 : 0 ≤ n) (h1 : n ≤ 1000000000) : varL 9 n = varL 4 n := by
  have l4 : (1000000000 : Int) < lim 4 := by decide
  have l5 : lim 4 ≤ lim 5 := lim_up 4
  have l6 : lim 5 ≤ lim 6 := lim_up 5
  have l7 : lim 6 ≤ lim 7 := lim_up 6
  have l8 : lim 7 ≤ lim 8 := lim_up 7
  rw [varL_more 8 n h0 (by omega), varL_more 7 n h0 (by omega), varL_more 6 n h0 (by omega), varL_more 5 n h0 (by omega), varL_more 4 n h0 (by omega)]
theorem readF_last {s : ByteArray} {d p k : Nat} {n acc : Int} (h0 : 0 ≤ n) (hn : ¬ n > 127) (hb : bt s (p : Int) = n) (hp : p < s.size) (hz : k = 0 ∨ 0 < n) (hm : acc + n * 128 ^ k ≤ 1000000000) : readF s (d + 1) p k acc = (acc + n * 128 ^ k, (p : Int) + 1, true) := by
  have e : n % 128 = n := by omega
  have c1 : ¬ (n = 0 ∧ k > 0) := by omega
  simp only [readF, hb, hp, hn, e, c1, ↓reduceIte]
  rw [if_neg (by omega)]
theorem readF_var (s : ByteArray) : ∀ (d : Nat) (n : Int) (p k : Nat) (acc : Int), 0 ≤ n → n < lim d → sub s (varL d n).length p = varL d n → p + (varL d n).length ≤ s.size → (k = 0 ∨ 0 < n) → acc + n * 128 ^ k ≤ 1000000000 →
    readF s (d + 1) p k acc = (acc + n * 128 ^ k, (p : Int) + ((varL d n).length : Int), true)
  | 0, n, p, k, acc, h0, hl, hs, hp, hz, hm => by
    have hl : n < 128 := hl
    have e := varL_small (d := 0) (n := n) (by omega)
    rw [e] at hs hp ⊢
    have hb : bt s (p : Int) = n := by
      have h : bt s (p : Int) :: sub s 0 (p + 1) = [n] := hs
      injection h
    exact readF_last h0 (by omega) hb hp hz hm
  | d + 1, n, p, k, acc, h0, hl, hs, hp, hz, hm => by
    have hl : n < 128 * lim d := hl
    by_cases hn : n > 127
    · have e : varL (d + 1) n = (n % 128 + 128) :: varL d (n / 128) := by
        show (if n > 127 then (n % 128 + 128) :: varL d (n / 128) else [n]) = _
        rw [if_pos hn]
      rw [e] at hs hp ⊢
      rw [List.length_cons] at hs hp ⊢
      have h : bt s (p : Int) :: sub s (varL d (n / 128)).length (p + 1) = (n % 128 + 128) :: varL d (n / 128) := hs
      injection h with hb hr
      have hacc : acc + (n % 128 + 128) % 128 * 128 ^ k + n / 128 * 128 ^ (k + 1) = acc + n * 128 ^ k := by
        rw [show (n % 128 + 128) % 128 = n % 128 from by omega, Int.pow_succ]
        generalize (128 : Int) ^ k = c
        have e1 : n / 128 * (c * 128) = (n / 128 * 128) * c := by rw [Int.mul_comm c 128, ← Int.mul_assoc]
        rw [e1, Int.add_assoc, ← Int.add_mul, show n % 128 + n / 128 * 128 = n from by omega]
      have ih := readF_var s d (n / 128) (p + 1) (k + 1) (acc + (n % 128 + 128) % 128 * 128 ^ k) (by omega) (by omega) hr (by omega) (Or.inr (by omega)) (by rw [hacc]; exact hm)
      rw [hacc] at ih
      have hps : p < s.size := by omega
      have hgt : n % 128 + 128 > 127 := by omega
      rw [readF]
      simp only [hb, hps, hgt, ↓reduceIte]
      rw [ih]
      congr 2
      omega
    · have e := varL_small (d := d + 1) hn
      rw [e] at hs hp ⊢
      have hb : bt s (p : Int) = n := by
        have h : bt s (p : Int) :: sub s 0 (p + 1) = [n] := hs
        injection h
      exact readF_last h0 hn hb hp hz hm
theorem varL_fit {n : Int} (h0 : 0 ≤ n) (h1 : n ≤ 1000000000) : ∀ x ∈ varL 9 n, 0 ≤ x ∧ x ≤ 255 := varL_bytes 9 n h0 (by have := lim9; omega)
theorem readV_at {n : Int} (h0 : 0 ≤ n) (h1 : n ≤ 1000000000) (a b : List UInt8) (s : ByteArray) (hs : s.data.toList = a ++ (varS n).data.toList ++ b) : readV s (a.length : Int) = (n, (a.length : Int) + ((varS n).size : Int), true) := by
  have hv : (varS n).data.toList = (varL 9 n).map fun n => UInt8.ofNat n.toNat := strOfNums_data _
  have hsz : (varS n).size = (varL 9 n).length := strOfNums_size _
  have hl : s.size = a.length + (varL 9 n).length + b.length := by
    rw [← data_len, hs, hv]
    simp only [List.length_append, List.length_map]
  have hm := sub_mid (varL 9 n) (varL_fit h0 h1) a b s (by rw [hs, hv])
  rw [hsz]
  rw [varL_four h0 h1] at hm hl ⊢
  have h := readF_var s 4 n a.length 0 0 h0 (by have : (1000000000 : Int) < lim 4 := by decide
                                                omega) hm (by omega) (Or.inl rfl) (by rw [Int.pow_zero]; omega)
  unfold readV
  rw [if_pos (by omega), Int.toNat_natCast, h, Int.pow_zero, Int.zero_add, Int.mul_one]
theorem readS_at (t : ByteArray) (ht : t.size ≤ 300) : readS (varS (t.size : Int) ++ t) 0 = (t, ((varS (t.size : Int) ++ t).size : Int), true) := by
  have hz : (varS (t.size : Int) ++ t).size = (varS (t.size : Int)).size + t.size := ByteArray.size_append
  have h := readV_at (n := (t.size : Int)) (by omega) (by omega) [] t.data.toList (varS (t.size : Int) ++ t) (by rw [data_app]; rfl)
  rw [List.length_nil, Int.natCast_zero, Int.zero_add] at h
  unfold readS
  rw [h]
  simp only
  rw [if_pos ⟨trivial, by omega, by omega⟩]
  have e1 : ((varS (t.size : Int)).size : Int).toNat = (varS (t.size : Int)).size := Int.toNat_natCast _
  have e2 : (((varS (t.size : Int)).size : Int) + (t.size : Int)).toNat = (varS (t.size : Int)).size + t.size := by omega
  rw [e1, e2, hz]
  congr 1
  · exact ByteArray.extract_append_eq_right rfl rfl
/-! ### figures read back -/
theorem fig_range {x : Int} (h0 : 0 ≤ x) (h1 : x < 16) : 0 ≤ fig x ∧ fig x ≤ 255 := by unfold fig; split <;> omega
theorem valB_fig {x : Int} (h0 : 0 ≤ x) (h1 : x < 16) : valB (fig x) = x := by
  unfold fig valB
  by_cases h : x < 10
  · rw [if_pos h, if_pos (by omega)]; omega
  · rw [if_neg h, if_neg (by omega), if_pos (by omega)]; omega
theorem hexL_len (t : ByteArray) : ∀ d i, (hexL t d i).length = 2 * d
  | 0, _ => rfl
  | d + 1, i => by
    simp only [hexL, List.length_cons, hexL_len t d (i + 1)]
    omega
theorem hexL_bytes (t : ByteArray) : ∀ d i, ∀ x ∈ hexL t d i, 0 ≤ x ∧ x ≤ 255
  | 0, _, x, hx => by simp [hexL] at hx
  | d + 1, i, x, hx => by
    have hr := bt_range t (i : Int)
    simp only [hexL, List.mem_cons] at hx
    rcases hx with rfl | rfl | hx
    · exact fig_range (by omega) (by omega)
    · exact fig_range (by omega) (by omega)
    · exact hexL_bytes t d (i + 1) x hx
theorem unhL_hex (t s : ByteArray) : ∀ (d i p : Nat) (acc : List Int), sub s (2 * d) p = hexL t d i → unhL s d p acc = (strOfNums (acc ++ sub t d i), true)
  | 0, i, p, acc, _ => by simp only [unhL, sub, List.append_nil]
  | d + 1, i, p, acc, h => by
    have hr := bt_range t (i : Int)
    have h2 : bt s (p : Int) :: bt s ((p + 1 : Nat) : Int) :: sub s (2 * d) (p + 1 + 1) = fig (bt t i / 16) :: fig (bt t i % 16) :: hexL t d (i + 1) := h
    injection h2 with e1 h3
    injection h3 with e2 h4
    have ih := unhL_hex t s d (i + 1) (p + 2) (acc ++ [bt t i / 16 * 16 + bt t i % 16]) h4
    have v1 : valB (fig (bt t i / 16)) = bt t i / 16 := valB_fig (by omega) (by omega)
    have v2 : valB (fig (bt t i % 16)) = bt t i % 16 := valB_fig (by omega) (by omega)
    simp only [unhL, e1, e2, v1, v2]
    rw [if_neg (by omega), if_neg (by omega), ih]
    rw [show bt t (i : Int) / 16 * 16 + bt t (i : Int) % 16 = bt t (i : Int) from by omega, List.append_assoc]
    rfl
/-! ### there and back -/
theorem numbers_all {n : Int} (h0 : 0 ≤ n) (h1 : n ≤ 1000000000) {t : ByteArray} (ht : t.size ≤ 300) : ∃ s g a h, s.size ≤ 1000 ∧ numeral n = g ∧ g.size ≤ 140737488351232 ∧ ends g = (n, true) ∧ Ev (fun k => impl_VarText.f k n) (s, true) ∧
    Ev (fun k => impl_ReadVar.f k (((⟨#[120]⟩ : ByteArray) ++ s) ++ (⟨#[121]⟩ : ByteArray)) 1) (n, (s.size : Int) + 1, true) ∧ Ev (fun k => impl_ShortText.f k t) (a, true) ∧ Ev (fun k => impl_ReadShort.f k a 0) (t, (a.size : Int), true) ∧
    Ev (fun k => impl_Hex.f k t) (h, true) ∧ Ev (fun k => impl_Unhex.f k h) (t, true) := by
  have hs := varS_size n
  have hd : (numeral n).data.toList = Go.Lib.decDigits n.toNat := by
    unfold numeral Go.Lib.itoa
    rw [if_neg (by omega)]
  have hu : n.toNat ≤ 1000000000 := by omega
  have he := ends_num hu hd
  rw [show ((n.toNat : Nat) : Int) = n from by omega] at he
  have hg : (numeral n).size ≤ 140737488351232 := by
    have h2 := nDigits_le10 hu
    rw [← data_len, hd, Go.Lib.decDigits_length]
    omega
  have hv : Ev (fun k => impl_VarText.f k n) (varS n, true) := by
    unfold impl_VarText.f
    rw [impl_in_eq]
    simp only [Option.bind_some, h0, h1, and_self, decide_true, ↓reduceIte]
    exact Ev.bind (impl_varText_ev h0 (by omega)) (Ev.now _)
  have hxz : (((⟨#[120]⟩ : ByteArray) ++ varS n) ++ (⟨#[121]⟩ : ByteArray)).size ≤ 140737488351232 := by
    rw [ByteArray.size_append, ByteArray.size_append]
    show 1 + (varS n).size + 1 ≤ _
    omega
  have hr := impl_ReadVar_ev (((⟨#[120]⟩ : ByteArray) ++ varS n) ++ (⟨#[121]⟩ : ByteArray)) hxz 1
  have hrv := readV_at h0 h1 [120] [121] (((⟨#[120]⟩ : ByteArray) ++ varS n) ++ (⟨#[121]⟩ : ByteArray)) (by rw [data_app, data_app])
  rw [show (([120] : List UInt8).length : Int) = 1 from rfl, Int.add_comm 1] at hrv
  rw [hrv] at hr
  have hts := varS_size (t.size : Int)
  have hz : (varS (t.size : Int)).size + t.size ≤ 9223372036854775807 := by omega
  have ha : Ev (fun k => impl_ShortText.f k t) (varS (t.size : Int) ++ t, true) := by
    unfold impl_ShortText.f
    simp only [show ¬ (t.size : Int) > 20000 from by omega, ↓reduceIte]
    exact Ev.bind (impl_varText_ev (by omega) (by omega)) (by simp only [hz, ↓reduceIte]; exact Ev.now _)
  have haz : (varS (t.size : Int) ++ t).size ≤ 140737488351232 := by
    rw [ByteArray.size_append]
    omega
  have hb := impl_ReadShort_ev (varS (t.size : Int) ++ t) haz 0
  rw [readS_at t ht] at hb
  have hh := impl_Hex_ev t
  rw [if_neg (by omega)] at hh
  have hhl : (strOfNums (hexL t t.size 0)).size = 2 * t.size := by rw [strOfNums_size, hexL_len]
  have hx := impl_Unhex_ev (strOfNums (hexL t t.size 0)) (by omega)
  rw [if_neg (by omega), hhl, show 2 * t.size / 2 = t.size from by omega] at hx
  have hm := sub_mid (hexL t t.size 0) (hexL_bytes t _ _) [] [] (strOfNums (hexL t t.size 0)) (by rw [strOfNums_data, List.nil_append, List.append_nil])
  rw [hexL_len] at hm
  rw [unhL_hex t _ t.size 0 0 [] hm, List.nil_append, strOfNums_all] at hx
  exact ⟨_, _, _, _, by omega, rfl, hg, he, hv, hr, ha, hb, hh, hx⟩
/-! ### the draws -/
theorem spec_DrawVarText_ev {l : List Int} (hl : l.length ≤ 9223372036854775807) : ∃ n, Ev (fun k => spec_DrawVarText.f k l) n := by
  obtain ⟨h, hn⟩ := spec_l01New_ev l
  obtain ⟨x, i1, h1, e1, _, _, _, o1⟩ := spec_l01Below_eq hl (curOk_zero l) h 4
  have hN : ∃ r, spec_l01Number.f l 0 h = some r := by
    unfold spec_l01Number.f
    simp only [e1, Option.bind_some]
    by_cases x0 : x = 0
    · obtain ⟨y, i2, h2, e2, _⟩ := spec_l01PickInt_eq hl o1 h1 (([(-1), 0, 127, 128, 16383, 16384, 1000000000, 1000000001, 9223372036854775807, (-9223372036854775808)] : List Int)) (by decide)
      rw [if_pos x0, e2, Option.bind_some]
      exact ⟨_, rfl⟩
    · by_cases x1 : x = 1
      · obtain ⟨y, i2, h2, e2, _⟩ := spec_l01Below_eq hl o1 h1 1000000000
        rw [if_neg x0, if_pos x1, e2, Option.bind_some]
        exact ⟨_, rfl⟩
      · obtain ⟨y, i2, h2, e2, _⟩ := spec_l01Below_eq hl o1 h1 400
        rw [if_neg x0, if_neg x1, e2, Option.bind_some]
        exact ⟨_, rfl⟩
  obtain ⟨r, hr⟩ := hN
  refine ⟨r.1, ?_⟩
  unfold spec_DrawVarText.f
  refine Ev.bind hn ?_
  simp only [hr, Option.bind_some]
  exact Ev.now _
theorem spec_l01Long_l0 (n : Nat) (hn : n ≤ 1000000) (v : Int) (d : Nat) : ∀ (j : Nat) (xs : List Int), j + d = n → xs.length = n → ∃ s, Ev (fun k => spec_l01Long.l0 k (n : Int) v xs (j : Int)) s := by
  induction d with
  | zero =>
    intro j xs hj hx
    refine ⟨strOfNums xs, Ev.shift ?_⟩
    simp only [spec_l01Long.l0, show ¬ (j : Int) < (n : Int) from by omega, ↓reduceIte]
    exact Ev.now _
  | succ d ih =>
    intro j xs hj hx
    have h6 : wrap64 ((j : Int) + 1) = ((j + 1 : Nat) : Int) := by rw [wrap_id (by omega) (by omega)]; omega
    obtain ⟨s, hr⟩ := ih (j + 1) (xs.set j v) (by omega) (by rw [List.length_set]; exact hx)
    refine ⟨s, Ev.shift ?_⟩
    have c0 : (j : Int) < (n : Int) := by omega
    have c1 : (0 : Int) ≤ (j : Int) := by omega
    have c2 : (j : Int) < (xs.length : Int) := by omega
    simp only [spec_l01Long.l0, c0, c1, c2, h6, Int.toNat_natCast, ↓reduceIte]
    exact hr
theorem spec_l01Long_ev (a v : Int) (h0 : 0 ≤ a) (h1 : a ≤ 1000000) : ∃ s, Ev (fun k => spec_l01Long.f k a v) s := by
  obtain ⟨n, rfl⟩ := Int.eq_ofNat_of_zero_le h0
  obtain ⟨s, hs⟩ := spec_l01Long_l0 n (by omega) v n 0 (List.replicate n 0) (by omega) (List.length_replicate ..)
  refine ⟨s, ?_⟩
  unfold spec_l01Long.f
  simp only [h0, Int.toNat_natCast, show n ≤ 281474976710656 from by omega, ↓reduceIte]
  exact hs
theorem spec_DrawHex_ev {l : List Int} (hl : l.length ≤ 9223372036854775807) : ∃ t, Ev (fun k => spec_DrawHex.f k l) t := by
  obtain ⟨h, hn⟩ := spec_l01New_ev l
  obtain ⟨b, i1, h1, e1, o1⟩ := spec_l01Once_eq hl (curOk_zero l) h 60
  cases b with
  | true =>
    obtain ⟨x, i2, h2, e2, x0, x1, _, _⟩ := spec_l01Below_eq hl o1 h1 2
    have x2 := x1 (by omega)
    have hw : wrap64 (20000 + x) = 20000 + x := wrap_id (by omega) (by omega)
    obtain ⟨s, hs⟩ := spec_l01Long_ev (20000 + x) 200 (by omega) (by omega)
    refine ⟨s, ?_⟩
    unfold spec_DrawHex.f
    refine Ev.bind hn ?_
    simp only [e1, e2, hw, Option.bind_some, ↓reduceIte]
    exact Ev.bind hs (Ev.now _)
  | false =>
    obtain ⟨x, i2, h2, e2, x0, x1, _, o2⟩ := spec_l01Below_eq hl o1 h1 30
    have x2 := x1 (by omega)
    obtain ⟨s, i3, h3, hs, _, _⟩ := spec_l01Text_ev hl o2 h2 x0 (by omega)
    refine ⟨s, ?_⟩
    unfold spec_DrawHex.f
    refine Ev.bind hn ?_
    simp only [e1, e2, Option.bind_some, ↓reduceIte, Bool.false_eq_true]
    exact Ev.bind hs (Ev.now _)
/-! ### the law -/
theorem FnNumbers (l : List Int) (hl : l.length ≤ 9223372036854775807) (A0 : Option Addr) (c0 : Nat) (w : World) (hr0 : Kd.C (Kd.int .u8) w A0 l.length l) (hc0 : l.length ≤ c0) (hp : Pow w) (he : Errs w) :
    Calls Tryd.prog 6 #[.slice A0 l.length c0] w fun e w' => e = .returned (.bool true) ∧ Below w.heap.size w w' := by
  by_cases hb : (l.length : Int) > 1048576
  · exact walk_big A0 c0 l w hr0 hc0 (by unfold laws_big.f; rw [decide_eq_true hb])
  · have hB : laws_big.f l = some false := by unfold laws_big.f; rw [decide_eq_false hb]
    obtain ⟨n0, K1, g1⟩ := spec_DrawVarText_ev hl
    obtain ⟨t0, K2, g2⟩ := spec_DrawHex_ev hl
    obtain ⟨n, hn⟩ : ∃ n : Int, n = if 0 ≤ n0 ∧ n0 ≤ 1000000000 then n0 else 12345 := ⟨_, rfl⟩
    obtain ⟨t, ht⟩ : ∃ t : ByteArray, t = if t0.size ≤ 300 then t0 else ⟨#[97, 98, 99]⟩ := ⟨_, rfl⟩
    have n1 : 0 ≤ n ∧ n ≤ 1000000000 := by rw [hn]; split <;> omega
    have t1 : t.size ≤ 300 := by
      rw [ht]
      split
      · assumption
      · decide
    obtain ⟨s, g, a, h, q1, q2, q3, q4, ⟨K3, g3⟩, ⟨K4, g4⟩, ⟨K7, g7⟩, ⟨K8, g8⟩, ⟨K9, g9⟩, ⟨K10, g10⟩⟩ := numbers_all n1.1 n1.2 t1
    have f1 := g1 (K1 + K2 + K3 + K4 + K7 + K8 + K9 + K10) (by omega)
    have f2 := g2 (K1 + K2 + K3 + K4 + K7 + K8 + K9 + K10) (by omega)
    have f3 := g3 (K1 + K2 + K3 + K4 + K7 + K8 + K9 + K10) (by omega)
    have f4 := g4 (K1 + K2 + K3 + K4 + K7 + K8 + K9 + K10) (by omega)
    have f7 := g7 (K1 + K2 + K3 + K4 + K7 + K8 + K9 + K10) (by omega)
    have f8 := g8 (K1 + K2 + K3 + K4 + K7 + K8 + K9 + K10) (by omega)
    have f9 := g9 (K1 + K2 + K3 + K4 + K7 + K8 + K9 + K10) (by omega)
    have f10 := g10 (K1 + K2 + K3 + K4 + K7 + K8 + K9 + K10) (by omega)
    by_cases hi : 0 ≤ n0 ∧ n0 ≤ 1000000000
    · rw [if_pos hi] at hn
      subst hn
      by_cases hf : t0.size ≤ 300
      · rw [if_pos hf] at ht
        subst ht
        exact walk_inFit _ A0 c0 l w hr0 hc0 hp he _ s g _ a h hi hf q1 n1 hB f1 f3 f4 q2 q3 q4 f2 f7 f8 f9 f10
      · rw [if_neg hf] at ht
        subst ht
        exact walk_inLong _ A0 c0 l w hr0 hc0 hp he _ s g t0 a h hi (by omega) q1 n1 hB f1 f3 f4 q2 q3 q4 f2 f7 f8 f9 f10
    · rw [if_neg hi] at hn
      subst hn
      by_cases hlo : n0 < 0
      · by_cases hf : t0.size ≤ 300
        · rw [if_pos hf] at ht
          subst ht
          exact walk_loFit _ A0 c0 l w hr0 hc0 hp he n0 s g _ a h hlo hf q1 n1 hB f1 f3 f4 q2 q3 q4 f2 f7 f8 f9 f10
        · rw [if_neg hf] at ht
          subst ht
          exact walk_loLong _ A0 c0 l w hr0 hc0 hp he n0 s g t0 a h hlo (by omega) q1 n1 hB f1 f3 f4 q2 q3 q4 f2 f7 f8 f9 f10
      · by_cases hf : t0.size ≤ 300
        · rw [if_pos hf] at ht
          subst ht
          exact walk_hiFit _ A0 c0 l w hr0 hc0 hp he n0 s g _ a h (by omega) hf q1 n1 hB f1 f3 f4 q2 q3 q4 f2 f7 f8 f9 f10
        · rw [if_neg hf] at ht
          subst ht
          exact walk_hiLong _ A0 c0 l w hr0 hc0 hp he n0 s g t0 a h (by omega) (by omega) q1 n1 hB f1 f3 f4 q2 q3 q4 f2 f7 f8 f9 f10
theorem FnNumbersWalk (a0 : Option Addr) (len0 cap0 : Nat) (z0 : List Int) (w : World) (w0 : (a0 = none ∧ len0 = 0 ∧ cap0 = 0 ∧ z0 = []) ∨ ∃ x, a0 = some x ∧ len0 ≤ cap0 ∧ cap0 ≤ maxLen ∧ z0.length = cap0 ∧ (∀ i, i < z0.length → w.cell? (x.add i) = some (.int .u8 (z0.getD i 0))) ∧ ∀ n ∈ z0, (Lit.int .u8 n).wf = true) (hp : Pow w) (he : Errs w) :
    Calls Tryd.prog 6 #[.slice a0 len0 cap0] w fun e w' => e = .returned (.bool true) ∧ Below w.heap.size w w' := by
  obtain ⟨l0, rfl, hr0, hm0, hw0, hc0⟩ := ReadsInt.ofRowC w0
  exact FnNumbers l0 hm0 a0 cap0 w (Kd.C_of_reads (d := (0 : Int)) (h1 := fun _ => rfl) hr0) hc0 hp he

end Go.Proofs.YtjbbdjdbffaidaaDoor.Pure

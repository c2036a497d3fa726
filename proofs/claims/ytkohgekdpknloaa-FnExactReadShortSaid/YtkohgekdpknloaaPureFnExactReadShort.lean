/- For every input that the statement reads, the law FnExactReadShort of the given program returns true and leaves its arguments as they were. Conditions: none but the statement's own. -/
import Derived.Test.YtkohgekdpknloaaPFnExactReadShortx2
import Derived.Test.YtkohgekdpknloaaLib
import Derived.Test.YtkohgekdpknloaaLibText
set_option linter.unusedVariables false
set_option linter.unusedSimpArgs false
namespace Go.Proofs.Ytkohgekdpknloaa.Pure
open Go.RowKit Go.Proofs.Ytkohgekdpknloaa.PFnExactReadShort Go.Proofs.YtkohgekdpknloaaW.PrintWords Go.Proofs.YtkohgekdpknloaaW.PrintLast Go.Proofs.YtkohgekdpknloaaW.PrintMore Go.Proofs.Ytkohgekdpknloaa.Lib

/-- What is read of a number from place p on, k digits (n) behind it, d still to come. -/
def readF (s : ByteArray) : Nat → Nat → Nat → Int → Int × Int × Bool
  | 0, _, _, _ => (0, 0, false)
  | d + 1, p, k, n =>
    if p < s.size then
      (if bt s p > 127 then readF s d (p + 1) (k + 1) (n + bt s p % 128 * 128 ^ k)
        else if bt s p = 0 ∧ k > 0 then (0, 0, false) else if n + bt s p % 128 * 128 ^ k > 1000000000 then (0, 0, false) else (n + bt s p % 128 * 128 ^ k, (p : Int) + 1, true))
    else (0, 0, false)
def readV (s : ByteArray) (at_ : Int) : Int × Int × Bool := if 0 ≤ at_ ∧ at_ ≤ (s.size : Int) then readF s 5 at_.toNat 0 0 else (0, 0, false)
theorem pow128 {k : Nat} (h : k ≤ 4) : (1 : Int) ≤ 128 ^ k ∧ (128 : Int) ^ k ≤ 268435456 := by
  have h5 : k = 0 ∨ k = 1 ∨ k = 2 ∨ k = 3 ∨ k = 4 := by omega
  rcases h5 with rfl | rfl | rfl | rfl | rfl <;> decide
theorem mul_range {x c : Int} (x0 : 0 ≤ x) (x1 : x ≤ 127) (c0 : 1 ≤ c) (c1 : c ≤ 268435456) : 0 ≤ x * c ∧ x * c ≤ 34091302912 := by
  constructor
  · exact Int.mul_nonneg x0 (by omega)
  · have h1 : x * c ≤ 127 * c := Int.mul_le_mul_of_nonneg_right x1 (by omega)
    omega

theorem readF_range (s : ByteArray) : ∀ (d p k : Nat) (n : Int), 0 ≤ n → (readF s d p k n).2.2 = true → 0 ≤ (readF s d p k n).1 ∧ (readF s d p k n).1 ≤ 1000000000 ∧ 0 ≤ (readF s d p k n).2.1 ∧ (readF s d p k n).2.1 ≤ (s.size : Int)
  | 0, p, k, n, h0, h => by simp [readF] at h
  | d + 1, p, k, n, h0, h => by
    have hb := bt_range s (p : Int)
    have hm : 0 ≤ bt s (p : Int) % 128 * 128 ^ k := Int.mul_nonneg (by omega) (Int.le_of_lt (Int.pow_pos (by decide)))
    simp only [readF] at h ⊢
    by_cases h1 : p < s.size
    · simp only [h1, ↓reduceIte] at h ⊢
      by_cases h2 : bt s (p : Int) > 127
      · simp only [h2, ↓reduceIte] at h ⊢
        exact readF_range s d (p + 1) (k + 1) _ (by omega) h
      · simp only [h2, ↓reduceIte] at h ⊢
        by_cases h3 : bt s (p : Int) = 0 ∧ k > 0
        · simp only [h3, and_self, ↓reduceIte, Bool.false_eq_true] at h
        · simp only [h3, ↓reduceIte] at h ⊢
          by_cases h4 : n + bt s (p : Int) % 128 * 128 ^ k > 1000000000
          · simp only [h4, ↓reduceIte, Bool.false_eq_true] at h
          · simp only [h4, ↓reduceIte]
            refine ⟨by omega, by omega, by omega, by omega⟩
    · simp only [h1, ↓reduceIte, Bool.false_eq_true] at h
theorem readV_range (s : ByteArray) (a : Int) (h : (readV s a).2.2 = true) : 0 ≤ (readV s a).1 ∧ (readV s a).1 ≤ 1000000000 ∧ 0 ≤ (readV s a).2.1 ∧ (readV s a).2.1 ≤ (s.size : Int) := by
  unfold readV at h ⊢
  by_cases h0 : 0 ≤ a ∧ a ≤ (s.size : Int)
  · simp only [h0, and_self, ↓reduceIte] at h ⊢
    exact readF_range s 5 _ 0 0 (by omega) h
  · simp only [h0, ↓reduceIte, Bool.false_eq_true] at h
def readS (s : ByteArray) (a : Int) : ByteArray × Int × Bool :=
  if (readV s a).2.2 = true ∧ (readV s a).1 ≤ 20000 ∧ (readV s a).1 ≤ (s.size : Int) - (readV s a).2.1 then
    (s.extract (readV s a).2.1.toNat ((readV s a).2.1 + (readV s a).1).toNat, (readV s a).2.1 + (readV s a).1, true)
  else ((⟨#[]⟩ : ByteArray), 0, false)

theorem spec_l01In_eq (a b c : Int) : spec_l01In.f a b c = some (decide (b ≤ a ∧ a ≤ c)) := by
  unfold spec_l01In.f
  by_cases h : a ≥ b
  · simp [h]
  · have h' : ¬ b ≤ a := by omega
    simp [h, h']

theorem spec_l01Var_l0 (d : Nat) : ∀ (n : Int) (acc : List Int), 0 ≤ n → n < lim d → n ≤ 9223372036854775807 → acc.length + d < 1000 →
    Ev (fun k => spec_l01Var.l0 k n acc) (strOfNums (acc ++ varL d n)) := by
  induction d with
  | zero =>
    intro n acc h0 h1 h2 hl
    refine Ev.shift ?_
    have hn : ¬ n > 127 := by simp only [lim] at h1; omega
    have hl' : acc.length < 140737488355328 := by omega
    simp only [spec_l01Var.l0, hn, hl', ↓reduceIte, varL]
    rw [show n % 256 = n from by omega]
    exact Ev.now _
  | succ d ih =>
    intro n acc h0 h1 h2 hl
    refine Ev.shift ?_
    have hl' : acc.length < 140737488355328 := by omega
    by_cases hn : n > 127
    · have e1 : wrap64 (Int.tdiv n 128) = n / 128 := by rw [tdiv_pos h0]; exact wrap_id (by omega) (by omega)
      have e2 : (wrap64 (Int.tmod n 128 + 128)) % 256 = n % 128 + 128 := by rw [tmod_pos h0, wrap_id (by omega) (by omega)]; omega
      simp only [spec_l01Var.l0, hn, hl', ↓reduceIte, varL, e1, e2]
      have h := ih (n / 128) (acc ++ [n % 128 + 128]) (by omega) (by simp only [lim] at h1; omega) (by omega) (by simp; omega)
      rw [List.append_assoc] at h
      exact h
    · simp only [spec_l01Var.l0, hn, hl', ↓reduceIte, varL]
      rw [show n % 256 = n from by omega]
      exact Ev.now _
theorem spec_l01Var_ev {n : Int} (h0 : 0 ≤ n) (h1 : n ≤ 9223372036854775807) : Ev (fun k => spec_l01Var.f k n) (varS n) := by
  have h := spec_l01Var_l0 9 n [] h0 (by have := lim9; omega) h1 (by simp)
  exact h

theorem spec_ReadVar_l0 (s : ByteArray) (hs : s.size ≤ 140737488351232) (a : Nat) (d : Nat) : ∀ (k : Nat), k + d = 5 → a + k ≤ s.size → (∀ b ∈ sub s k a, 128 ≤ b ∧ b ≤ 255) →
    Ev (fun q => spec_ReadVar.l0 q s (a : Int) (numOf (sub s k a)) (128 ^ k) ((a + k : Nat) : Int)) (readF s d (a + k) k (numOf (sub s k a))) := by
  induction d with
  | zero =>
    intro k hk ha hb
    have h5 : wrap64 ((a : Int) + 5) = (a : Int) + 5 := wrap_id (by omega) (by omega)
    have hn : ¬ ((a + k : Nat) : Int) < (a : Int) + 5 := by omega
    refine Ev.shift (Ev.shift ?_)
    by_cases h1 : ((a + k : Nat) : Int) < (s.size : Int)
    · simp only [spec_ReadVar.l0, spec_ReadVar.j1, h1, h5, hn, decide_false, ↓reduceIte, Bool.false_eq_true, readF]
      exact Ev.now _
    · simp only [spec_ReadVar.l0, spec_ReadVar.j1, h1, ↓reduceIte, Bool.false_eq_true, readF]
      exact Ev.now _
  | succ d ih =>
    intro k hk ha hb
    have hsn : numOf (sub s (k + 1) a) = numOf (sub s k a) + bt s ((a + k : Nat) : Int) % 128 * 128 ^ k := by
      rw [sub_snoc s k a, numOf_snoc, sub_length]
    have hnn := numOf_nonneg (sub s k a)
    have hnl := numOf_lt (sub s k a)
    rw [sub_length] at hnl
    have hpw := pow128 (k := k) (by omega)
    have hbt := bt_range s ((a + k : Nat) : Int)
    have hmr := mul_range (x := bt s ((a + k : Nat) : Int) % 128) (c := 128 ^ k) (by omega) (by omega) hpw.1 hpw.2
    have hvs := varS_sub (s := s) (p := a) (k := k) (by omega)
    have hps : (128 : Int) ^ (k + 1) = 128 ^ k * 128 := Int.pow_succ ..
    generalize hX : bt s ((a + k : Nat) : Int) = X at hsn hbt hmr hvs
    generalize hC : (128 : Int) ^ k = C at hsn hnl hpw hmr hps
    generalize hM : X % 128 * C = M at hsn hmr
    generalize hN : numOf (sub s k a) = N at hsn hnn hnl
    generalize hN2 : numOf (sub s (k + 1) a) = N2 at hsn hvs
    have q1 : -9223372036854775808 ≤ X ∧ X ≤ 9223372036854775807 := by omega
    have q2 : -9223372036854775808 ≤ M ∧ M ≤ 9223372036854775807 := by omega
    have q3 : -9223372036854775808 ≤ N + M ∧ N + M ≤ 9223372036854775807 := by omega
    have q4 : -9223372036854775808 ≤ C * 128 ∧ C * 128 ≤ 9223372036854775807 := by omega
    have q5 : -9223372036854775808 ≤ (a : Int) + 5 ∧ (a : Int) + 5 ≤ 9223372036854775807 := by omega
    have q6 : -9223372036854775808 ≤ ((a + k : Nat) : Int) + 1 ∧ ((a + k : Nat) : Int) + 1 ≤ 9223372036854775807 := by omega
    have q7 : ((a + k : Nat) : Int) + 1 = ((a + (k + 1) : Nat) : Int) := by omega
    have hlt : ((a + k : Nat) : Int) < (a : Int) + 5 := by omega
    have c0 : (0 : Int) ≤ ((a + k : Nat) : Int) := by omega
    have c1 : (0 : Int) ≤ (a : Int) := by omega
    have hbn : N2 ≤ 9223372036854775807 := by omega
    have hbn0 : 0 ≤ N2 := by omega
    have kk : k + 1 + d = 5 := by omega
    have aa : a + (k + 1) = a + k + 1 := by omega
    have x128 : ¬ X > 127 → X < 128 := by omega
    have x127 : ¬ X > 127 → X ≤ 127 := by omega
    have x127' : X > 127 → ¬ X < 128 := by omega
    have hbx : X > 127 → 128 ≤ X ∧ X ≤ 255 := by omega
    have e1 : Int.tmod (wrap64 X) 128 = X % 128 := by rw [wrap_id q1.1 q1.2]; exact tmod_pos hbt.1
    have e2 : wrap64 (N + wrap64 M) = N2 := by rw [wrap_id q2.1 q2.2, wrap_id q3.1 q3.2, hsn]
    have e3 : wrap64 (C * 128) = 128 ^ (k + 1) := by rw [wrap_id q4.1 q4.2, hps]
    have hw : wrap64 ((a : Int) + 5) = (a : Int) + 5 := wrap_id q5.1 q5.2
    have e4 : wrap64 (((a + k : Nat) : Int) + 1) = ((a + (k + 1) : Nat) : Int) := (wrap_id q6.1 q6.2).trans q7
    by_cases h1 : a + k < s.size
    · have h1' : ((a + k : Nat) : Int) < (s.size : Int) := Int.ofNat_lt.2 h1
      have hle : a + (k + 1) ≤ s.size := h1
      have c2 : (a : Int) ≤ ((a + (k + 1) : Nat) : Int) := Int.ofNat_le.2 (Nat.le_add_right _ _)
      have c3 : ((a + (k + 1) : Nat) : Int) ≤ (s.size : Int) := Int.ofNat_le.2 hle
      refine Ev.shift (Ev.shift ?_)
      by_cases h2 : X > 127
      · have h3 := x127' h2
        have hall : ∀ b ∈ sub s (k + 1) a, 128 ≤ b ∧ b ≤ 255 := by
          intro b hbm
          rw [sub_snoc s k a] at hbm
          rcases List.mem_append.1 hbm with hbm | hbm
          · exact hb b hbm
          · rw [List.mem_singleton.1 hbm, hX]
            exact hbx h2
        have hr := ih (k + 1) kk hle hall
        rw [hN2, aa] at hr
        rw [aa] at e4
        simp only [spec_ReadVar.l0, spec_ReadVar.j1, h1', hw, hlt, decide_true, c0, hX, h3, e1, hM, e2, e3, e4, ↓reduceIte, readF, h1, h2, hC, ← hsn]
        exact hr
      · have h3 := x128 h2
        have hv := hvs hle hb (x127 h2) hbn
        simp only [spec_ReadVar.l0, spec_ReadVar.j1, h1', hw, hlt, decide_true, c0, hX, h3, e1, hM, e2, ↓reduceIte, readF, h1, h2, hC, ← hsn]
        by_cases h4 : N2 > 1000000000
        · simp only [h4, ↓reduceIte, ite_self]
          exact Ev.now _
        · simp only [h4, ↓reduceIte]
          refine Ev.bind (spec_l01Var_ev hbn0 hbn) ?_
          simp only [c1, e4, c2, c3, ↓reduceIte, Int.toNat_natCast, toList_iff]
          by_cases h5 : X = 0 ∧ k > 0
          · have h6 : ¬ varS N2 = s.extract a (a + (k + 1)) := fun q => (hv.1 q) h5
            simp only [h6, h5, and_self, ↓reduceIte]
            exact Ev.now _
          · have h6 : varS N2 = s.extract a (a + (k + 1)) := hv.2 h5
            simp only [h6, h5, ↓reduceIte, ← q7]
            exact Ev.now _
    · have h1' : ¬ ((a + k : Nat) : Int) < (s.size : Int) := fun q => h1 (Int.ofNat_lt.1 q)
      refine Ev.shift (Ev.shift ?_)
      simp only [spec_ReadVar.l0, spec_ReadVar.j1, h1', ↓reduceIte, Bool.false_eq_true, readF, h1]
      exact Ev.now _
theorem spec_ReadVar_ev (s : ByteArray) (hs : s.size ≤ 140737488351232) (a : Int) : Ev (fun q => spec_ReadVar.f q s a) (readV s a) := by
  unfold spec_ReadVar.f readV
  rw [spec_l01In_eq]
  by_cases h : 0 ≤ a ∧ a ≤ (s.size : Int)
  · obtain ⟨n, rfl⟩ := Int.eq_ofNat_of_zero_le h.1
    simp only [h, decide_true, Option.bind_some, ↓reduceIte, and_self, Int.toNat_natCast]
    exact spec_ReadVar_l0 s hs n 5 0 rfl (by omega) (fun b hb => by simp [sub] at hb)
  · simp only [h, decide_false, Option.bind_some, ↓reduceIte, Bool.false_eq_true]
    exact Ev.now _

theorem spec_ReadShort_ev (s : ByteArray) (hs : s.size ≤ 140737488351232) (a : Int) : Ev (fun q => spec_ReadShort.f q s a) (readS s a) := by
  unfold spec_ReadShort.f readS
  refine Ev.bind (spec_ReadVar_ev s hs a) ?_
  have hr := readV_range s a
  generalize readV s a = v at hr
  obtain ⟨n, p, b⟩ := v
  simp only at hr ⊢
  cases b with
  | false =>
    simp only [Bool.false_eq_true, ↓reduceIte, false_and]
    exact Ev.now _
  | true =>
    obtain ⟨n0, n1, p0, p1⟩ := hr rfl
    have e1 : wrap64 ((s.size : Int) - p) = (s.size : Int) - p := wrap_id (by omega) (by omega)
    have e2 : wrap64 (p + n) = p + n := wrap_id (by omega) (by omega)
    simp only [↓reduceIte, true_and]
    by_cases h1 : n > 20000
    · have h1' : ¬ (n ≤ 20000 ∧ n ≤ (s.size : Int) - p) := fun q => absurd h1 (Int.not_lt.2 q.1)
      simp only [h1, h1', ↓reduceIte]
      exact Ev.now _
    · by_cases h2 : n > (s.size : Int) - p
      · have h2' : ¬ (n ≤ 20000 ∧ n ≤ (s.size : Int) - p) := fun q => absurd h2 (Int.not_lt.2 q.2)
        simp only [h1, e1, h2, h2', ↓reduceIte]
        exact Ev.now _
      · have h3 : n ≤ 20000 ∧ n ≤ (s.size : Int) - p := ⟨Int.not_lt.1 h1, Int.not_lt.1 h2⟩
        have c1 : p ≤ p + n := by omega
        have c2 : p + n ≤ (s.size : Int) := by omega
        simp only [h1, e1, h2, e2, p0, c1, c2, h3, and_self, ↓reduceIte]
        exact Ev.now _

theorem impl_in_eq (a b c : Int) : impl_in.f a b c = some (decide (b ≤ a ∧ a ≤ c)) := by
  unfold impl_in.f
  by_cases h : a ≥ b
  · simp [h]
  · have h' : ¬ b ≤ a := by omega
    simp [h, h']

theorem shl_digit {x : Int} {k : Nat} (x0 : 0 ≤ x) (x1 : x ≤ 127) (hk : k ≤ 4) : shl .i64 x (7 * (k : Int)) = x * 128 ^ k := by
  have hpw := pow128 (k := k) hk
  have hmr := mul_range x0 x1 hpw.1 hpw.2
  unfold shl
  have e : min (7 * (k : Int)).toNat IntKind.i64.bits = 7 * k := by
    have : IntKind.i64.bits = 64 := rfl
    omega
  rw [e, show (2 : Int) ^ (7 * k) = 128 ^ k from by rw [Int.pow_mul]; rfl]
  exact wraps_i64 _ hmr.1 (by omega)
theorem or_digit {n x : Int} {k : Nat} (n0 : 0 ≤ n) (n1 : n < 128 ^ k) (x0 : 0 ≤ x) (x1 : x ≤ 127) (hk : k ≤ 4) : Go.bits .or .i64 n (x * 128 ^ k) = n + x * 128 ^ k := by
  have hpw := pow128 (k := k) hk
  have hmr := mul_range x0 x1 hpw.1 hpw.2
  have e : (2 : Int) ^ (7 * k) = 128 ^ k := by rw [Int.pow_mul]; rfl
  rw [bits_or_comm, bits_join .i64 63 (by decide) wraps_i64 (7 * k) (x * 128 ^ k) n hmr.1 (by rw [e]; exact Int.mul_emod_left _ _) (by omega) n0 (by rw [e]; exact n1) (by omega), Int.add_comm]
theorem impl_ReadVar_l0 (s : ByteArray) (hs : s.size ≤ 140737488351232) (a : Nat) (ha : a ≤ s.size) (d : Nat) : ∀ (k : Nat) (n : Int), k + d = 5 → 0 ≤ n → n < 128 ^ k →
    Ev (fun q => impl_ReadVar.l0 q s (a : Int) n (k : Int)) (readF s d (a + k) k n) := by
  induction d with
  | zero =>
    intro k n hk hn hn1
    have h1 : ¬ (k : Int) < 5 := by omega
    refine Ev.shift (Ev.shift ?_)
    simp only [impl_ReadVar.l0, impl_ReadVar.j1, h1, ↓reduceIte, Bool.false_eq_true, readF]
    exact Ev.now _
  | succ d ih =>
    intro k n hk hn hn1
    have hk4 : k ≤ 4 := by omega
    have h5 : (k : Int) < 5 := by omega
    have hpw := pow128 (k := k) hk4
    have hbt := bt_range s ((a + k : Nat) : Int)
    generalize hX : bt s ((a + k : Nat) : Int) = X at hbt
    have hmr := mul_range (x := X % 128) (c := 128 ^ k) (by omega) (by omega) hpw.1 hpw.2
    have hx0 : 0 ≤ X % 128 := by omega
    have hx1 : X % 128 ≤ 127 := by omega
    have hn2 : n + X % 128 * 128 ^ k < 128 ^ (k + 1) := by
      rw [Int.pow_succ]
      have h1 : X % 128 * 128 ^ k ≤ 127 * 128 ^ k := Int.mul_le_mul_of_nonneg_right hx1 (by omega)
      omega
    have hn3 : 0 ≤ n + X % 128 * 128 ^ k := by omega
    have m1 : (-9223372036854775808 : Int) ≤ (a : Int) + (k : Int) := by omega
    have m2 : (a : Int) + (k : Int) ≤ 9223372036854775807 := by omega
    have m3 : (a : Int) + (k : Int) = ((a + k : Nat) : Int) := by omega
    have m4 : (-9223372036854775808 : Int) ≤ 7 * (k : Int) := by omega
    have m5 : 7 * (k : Int) ≤ 9223372036854775807 := by omega
    have c1 : (0 : Int) ≤ 7 * (k : Int) := by omega
    have c0 : (0 : Int) ≤ ((a + k : Nat) : Int) := by omega
    have m6 : (-9223372036854775808 : Int) ≤ X := by omega
    have m7 : X ≤ 9223372036854775807 := by omega
    have m8 : (-9223372036854775808 : Int) ≤ (k : Int) + 1 := by omega
    have m9 : (k : Int) + 1 ≤ 9223372036854775807 := by omega
    have m10 : (k : Int) + 1 = ((k + 1 : Nat) : Int) := by omega
    have m11 : (-9223372036854775808 : Int) ≤ ((a + k : Nat) : Int) + 1 := by omega
    have m12 : ((a + k : Nat) : Int) + 1 ≤ 9223372036854775807 := by omega
    have k0 : ((k : Int) > 0) = (k > 0) := propext (by omega)
    have kk : k + 1 + d = 5 := by omega
    have aa : a + (k + 1) = a + k + 1 := by omega
    have e1 : wrap64 ((a : Int) + (k : Int)) = ((a + k : Nat) : Int) := (wrap_id m1 m2).trans m3
    have e2 : wrap64 (7 * (k : Int)) = 7 * (k : Int) := wrap_id m4 m5
    have e3 : wrap64 (X) = X := wrap_id m6 m7
    have e4 : Go.bits .and .i64 (X) 127 = X % 128 := and127_i64 hbt.1 m7
    have e5 : shl .i64 (X % 128) (7 * (k : Int)) = X % 128 * 128 ^ k := shl_digit hx0 hx1 hk4
    have e6 : Go.bits .or .i64 n (X % 128 * 128 ^ k) = n + X % 128 * 128 ^ k := or_digit hn hn1 hx0 hx1 hk4
    have e7 : wrap64 ((k : Int) + 1) = ((k + 1 : Nat) : Int) := (wrap_id m8 m9).trans m10
    have e8 : wrap64 (((a + k : Nat) : Int) + 1) = ((a + k : Nat) : Int) + 1 := wrap_id m11 m12
    refine Ev.shift (Ev.shift ?_)
    by_cases h1 : a + k < s.size
    · have h1' : ((a + k : Nat) : Int) < (s.size : Int) := Int.ofNat_lt.2 h1
      by_cases h2 : X > 127
      · have hr := ih (k + 1) _ kk hn3 hn2
        rw [aa] at hr
        simp only [impl_ReadVar.l0, impl_ReadVar.j1, h5, e1, h1', decide_true, c0, e2, c1, hX, e3, h2, e4, e5, e6, e7, ↓reduceIte, readF, h1]
        exact hr
      · by_cases h3 : X = 0
        · subst h3
          by_cases h4 : k > 0
          · simp only [impl_ReadVar.l0, impl_ReadVar.j1, h5, e1, h1', decide_true, c0, e2, c1, hX, e3, h2, eq_self, k0, h4, ↓reduceIte, readF, h1, and_self]
            exact Ev.now _
          · by_cases h6 : n + 0 % 128 * 128 ^ k > 1000000000
            · simp only [impl_ReadVar.l0, impl_ReadVar.j1, h5, e1, h1', decide_true, c0, e2, c1, hX, e3, h2, eq_self, k0, h4, e4, e5, e6, e8, h6, ↓reduceIte, readF, h1, and_false]
              exact Ev.now _
            · simp only [impl_ReadVar.l0, impl_ReadVar.j1, h5, e1, h1', decide_true, c0, e2, c1, hX, e3, h2, eq_self, k0, h4, e4, e5, e6, e8, h6, ↓reduceIte, readF, h1, and_false]
              exact Ev.now _
        · by_cases h6 : n + X % 128 * 128 ^ k > 1000000000
          · simp only [impl_ReadVar.l0, impl_ReadVar.j1, h5, e1, h1', decide_true, c0, e2, c1, hX, e3, h2, h3, e4, e5, e6, e8, h6, ↓reduceIte, readF, h1, false_and]
            exact Ev.now _
          · simp only [impl_ReadVar.l0, impl_ReadVar.j1, h5, e1, h1', decide_true, c0, e2, c1, hX, e3, h2, h3, e4, e5, e6, e8, h6, ↓reduceIte, readF, h1, false_and]
            exact Ev.now _
    · have h1' : ¬ ((a + k : Nat) : Int) < (s.size : Int) := fun q => h1 (Int.ofNat_lt.1 q)
      simp only [impl_ReadVar.l0, impl_ReadVar.j1, h5, e1, h1', decide_false, ↓reduceIte, Bool.false_eq_true, readF, h1]
      exact Ev.now _
theorem impl_ReadVar_ev (s : ByteArray) (hs : s.size ≤ 140737488351232) (a : Int) : Ev (fun q => impl_ReadVar.f q s a) (readV s a) := by
  unfold impl_ReadVar.f readV
  rw [impl_in_eq]
  by_cases h : 0 ≤ a ∧ a ≤ (s.size : Int)
  · obtain ⟨n, rfl⟩ := Int.eq_ofNat_of_zero_le h.1
    simp only [h, decide_true, Option.bind_some, ↓reduceIte, and_self, Int.toNat_natCast]
    exact impl_ReadVar_l0 s hs n (by omega) 5 0 0 rfl (by omega) (by decide)
  · simp only [h, decide_false, Option.bind_some, ↓reduceIte, Bool.false_eq_true]
    exact Ev.now _

theorem impl_ReadShort_ev (s : ByteArray) (hs : s.size ≤ 140737488351232) (a : Int) : Ev (fun q => impl_ReadShort.f q s a) (readS s a) := by
  unfold impl_ReadShort.f readS
  refine Ev.bind (impl_ReadVar_ev s hs a) ?_
  have hr := readV_range s a
  generalize readV s a = v at hr
  obtain ⟨n, p, b⟩ := v
  simp only at hr ⊢
  cases b with
  | false =>
    simp only [Bool.false_eq_true, ↓reduceIte, false_and]
    exact Ev.now _
  | true =>
    obtain ⟨n0, n1, p0, p1⟩ := hr rfl
    have e1 : wrap64 ((s.size : Int) - p) = (s.size : Int) - p := wrap_id (by omega) (by omega)
    have e2 : wrap64 (p + n) = p + n := wrap_id (by omega) (by omega)
    simp only [↓reduceIte, true_and]
    by_cases h1 : n > 20000
    · have h1' : ¬ (n ≤ 20000 ∧ n ≤ (s.size : Int) - p) := fun q => absurd h1 (Int.not_lt.2 q.1)
      simp only [h1, h1', ↓reduceIte]
      exact Ev.now _
    · by_cases h2 : n > (s.size : Int) - p
      · have h2' : ¬ (n ≤ 20000 ∧ n ≤ (s.size : Int) - p) := fun q => absurd h2 (Int.not_lt.2 q.2)
        simp only [h1, e1, h2, h2', ↓reduceIte]
        exact Ev.now _
      · have h3 : n ≤ 20000 ∧ n ≤ (s.size : Int) - p := ⟨Int.not_lt.1 h1, Int.not_lt.1 h2⟩
        have c1 : p ≤ p + n := by omega
        have c2 : p + n ≤ (s.size : Int) := by omega
        simp only [h1, e1, h2, e2, p0, c1, c2, h3, and_self, ↓reduceIte]
        exact Ev.now _

theorem FnExactReadShort : laws_FnExactReadShort.Pure := by
  intro s a w0 w1
  refine Ev.rounds ?_
  unfold laws_FnExactReadShort.f
  by_cases hb : (s.size : Int) > 1048576
  · simp only [hb, ↓reduceIte]
    exact Ev.now _
  · simp only [hb, ↓reduceIte]
    refine Ev.bind (spec_ReadShort_ev s w0 a) (Ev.bind (impl_ReadShort_ev s w0 a) ?_)
    simp only [↓reduceIte, bne_self_eq_false, Bool.false_eq_true]
    exact Ev.now _

end Go.Proofs.Ytkohgekdpknloaa.Pure

/- Plain lemmas on the sum of a text: two texts of which one byte differs have two sums; no condition. -/
import Derived.Test.YtgglelndefbdkaaLibText
set_option linter.unusedVariables false
set_option linter.unusedSimpArgs false
namespace Go.Proofs.Ytgglelndefbdkaa.Lib
open Go.RowKit Go.Proofs.YtgglelndefbdkaaW.PrintWords Go.Proofs.YtgglelndefbdkaaW.PrintLast Go.Proofs.YtgglelndefbdkaaW.PrintMore

theorem xor_u32 (x y : Int) : Go.bits .xor .u32 x y = ((BitVec.ofInt 32 x ^^^ BitVec.ofInt 32 y).toNat : Int) := by
  unfold Go.bits
  simp only [IntKind.bits]
  have h : (BitVec.ofInt 32 x ^^^ BitVec.ofInt 32 y).toNat < 2 ^ 32 := BitVec.isLt _
  exact wraps_u32 _ (by omega) (by omega)
theorem ofInt_inj {x y : Int} (h0 : 0 ≤ x) (h1 : x ≤ 4294967295) (k0 : 0 ≤ y) (k1 : y ≤ 4294967295) (h : BitVec.ofInt 32 x = BitVec.ofInt 32 y) : x = y := by
  have h2 := congrArg BitVec.toNat h
  rw [BitVec.toNat_ofInt, BitVec.toNat_ofInt] at h2
  omega
theorem xor_inj_left {x y c : Int} (h0 : 0 ≤ x) (h1 : x ≤ 4294967295) (k0 : 0 ≤ y) (k1 : y ≤ 4294967295) (h : Go.bits .xor .u32 x c = Go.bits .xor .u32 y c) : x = y := by
  rw [xor_u32, xor_u32] at h
  have h2 : BitVec.ofInt 32 x ^^^ BitVec.ofInt 32 c = BitVec.ofInt 32 y ^^^ BitVec.ofInt 32 c := BitVec.eq_of_toNat_eq (by omega)
  exact ofInt_inj h0 h1 k0 k1 (by
    have h3 := congrArg (· ^^^ BitVec.ofInt 32 c) h2
    simpa [BitVec.xor_assoc] using h3)
theorem xor_inj_right {x y c : Int} (h0 : 0 ≤ x) (h1 : x ≤ 4294967295) (k0 : 0 ≤ y) (k1 : y ≤ 4294967295) (h : Go.bits .xor .u32 c x = Go.bits .xor .u32 c y) : x = y := by
  rw [xor_u32, xor_u32, BitVec.xor_comm, BitVec.xor_comm (BitVec.ofInt 32 c)] at h
  refine xor_inj_left (c := c) h0 h1 k0 k1 ?_
  rw [xor_u32, xor_u32]
  exact h
theorem xor_high {x : Int} (h0 : 0 ≤ x) (h1 : x < 2147483648) : 2147483648 ≤ Go.bits .xor .u32 x 3558460437 := by
  rw [xor_u32]
  have hm : (BitVec.ofInt 32 x ^^^ BitVec.ofInt 32 3558460437).msb = true := by
    rw [BitVec.msb_xor]
    have a : (BitVec.ofInt 32 x).msb = false := by
      rw [BitVec.msb_eq_decide, BitVec.toNat_ofInt]
      simp only [decide_eq_false_iff_not]
      omega
    have b : (BitVec.ofInt 32 3558460437).msb = true := by decide
    rw [a, b]
    rfl
  rw [BitVec.msb_eq_decide] at hm
  have h2 := of_decide_eq_true hm
  simp only [Nat.add_one_sub_one, Nat.reducePow, Nat.reduceSub] at h2
  omega
theorem crc1_inj {x y : Int} (h0 : 0 ≤ x) (h1 : x ≤ 4294967295) (k0 : 0 ≤ y) (k1 : y ≤ 4294967295) (h : crc1 x = crc1 y) : x = y := by
  unfold crc1 at h
  have hx := xor_high (x := x / 2) (by omega) (by omega)
  have hy := xor_high (x := y / 2) (by omega) (by omega)
  by_cases a : x % 2 = 1
  · by_cases b : y % 2 = 1
    · rw [if_pos a, if_pos b] at h
      have := xor_inj_left (by omega) (by omega) (by omega) (by omega) h
      omega
    · rw [if_pos a, if_neg b] at h
      omega
  · by_cases b : y % 2 = 1
    · rw [if_neg a, if_pos b] at h
      omega
    · rw [if_neg a, if_neg b] at h
      omega
theorem crcN_inj : ∀ (n : Nat) {x y : Int}, 0 ≤ x → x ≤ 4294967295 → 0 ≤ y → y ≤ 4294967295 → crcN n x = crcN n y → x = y
  | 0, x, y, _, _, _, _, h => h
  | n + 1, x, y, h0, h1, k0, k1, h =>
    crc1_inj h0 h1 k0 k1 (crcN_inj n (crc1_range h0 h1).1 (crc1_range h0 h1).2 (crc1_range k0 k1).1 (crc1_range k0 k1).2 h)
theorem crcB_inj_sum {x y b : Int} (h0 : 0 ≤ x) (h1 : x ≤ 4294967295) (k0 : 0 ≤ y) (k1 : y ≤ 4294967295) (h : crcB x b = crcB y b) : x = y :=
  xor_inj_left h0 h1 k0 k1 (crcN_inj 8 (bits_u32_range _ _ _).1 (bits_u32_range _ _ _).2 (bits_u32_range _ _ _).1 (bits_u32_range _ _ _).2 h)
theorem crcB_inj_byte {x b c : Int} (h0 : 0 ≤ b) (h1 : b ≤ 255) (k0 : 0 ≤ c) (k1 : c ≤ 255) (h : crcB x b = crcB x c) : b = c := by
  have h2 := xor_inj_right (by omega) (by omega) (by omega) (by omega) (crcN_inj 8 (bits_u32_range _ _ _).1 (bits_u32_range _ _ _).2 (bits_u32_range _ _ _).1 (bits_u32_range _ _ _).2 h)
  omega
theorem crcS_range (s : ByteArray) : ∀ (d i : Nat) {x : Int}, 0 ≤ x → x ≤ 4294967295 → 0 ≤ crcS s d i x ∧ crcS s d i x ≤ 4294967295
  | 0, _, _, h0, h1 => ⟨h0, h1⟩
  | d + 1, i, x, h0, h1 => crcS_range s d (i + 1) (crcB_range _ _).1 (crcB_range _ _).2
theorem crcS_ne {s t : ByteArray} : ∀ (d i : Nat) {x y : Int}, 0 ≤ x → x ≤ 4294967295 → 0 ≤ y → y ≤ 4294967295 → x ≠ y → (∀ j : Nat, i ≤ j → j < i + d → bt s j = bt t j) → crcS s d i x ≠ crcS t d i y
  | 0, _, _, _, _, _, _, _, h, _ => h
  | d + 1, i, x, y, h0, h1, k0, k1, h, hb => by
    have e := hb i (Nat.le_refl _) (by omega)
    refine crcS_ne d (i + 1) (crcB_range _ _).1 (crcB_range _ _).2 (crcB_range _ _).1 (crcB_range _ _).2 (fun h2 => h ?_) (fun j h3 h4 => hb j (by omega) (by omega))
    rw [e] at h2
    exact crcB_inj_sum h0 h1 k0 k1 h2
/-- One byte is another: the sum is another. -/
theorem crcS_turned {s t : ByteArray} {m : Nat} (hm : bt s m ≠ bt t m) : ∀ (d i : Nat) {x : Int}, 0 ≤ x → x ≤ 4294967295 → i ≤ m → m < i + d → (∀ j : Nat, j ≠ m → bt s j = bt t j) → crcS s d i x ≠ crcS t d i x
  | 0, i, x, _, _, h, h', _ => by omega
  | d + 1, i, x, h0, h1, h, h', hb => by
    by_cases he : i = m
    · subst he
      refine crcS_ne d (i + 1) (crcB_range _ _).1 (crcB_range _ _).2 (crcB_range _ _).1 (crcB_range _ _).2 (fun h2 => hm ?_) (fun j h3 h4 => hb j (by omega))
      exact crcB_inj_byte (bt_range s _).1 (bt_range s _).2 (bt_range t _).1 (bt_range t _).2 h2
    · have e := hb i he
      show crcS s d (i + 1) (crcB x (bt s i)) ≠ crcS t d (i + 1) (crcB x (bt t i))
      rw [e]
      exact crcS_turned hm d (i + 1) (crcB_range _ _).1 (crcB_range _ _).2 (by omega) (by omega) hb
theorem crcS_same {s t : ByteArray} : ∀ (d i : Nat) (x : Int), (∀ j : Nat, i ≤ j → j < i + d → bt s j = bt t j) → crcS s d i x = crcS t d i x
  | 0, _, _, _ => rfl
  | d + 1, i, x, h => by
    show crcS s d (i + 1) (crcB x (bt s i)) = crcS t d (i + 1) (crcB x (bt t i))
    rw [h i (Nat.le_refl _) (by omega)]
    exact crcS_same d (i + 1) _ (fun j h3 h4 => h j (by omega) (by omega))
theorem crcS_snoc (s : ByteArray) : ∀ (d i : Nat) (x : Int), crcS s (d + 1) i x = crcB (crcS s d i x) (bt s ((i + d : Nat) : Int))
  | 0, i, x => rfl
  | d + 1, i, x => by
    show crcS s (d + 1) (i + 1) (crcB x (bt s i)) = _
    rw [crcS_snoc s d (i + 1)]
    show crcB (crcS s d (i + 1) (crcB x (bt s i))) _ = crcB (crcS s d (i + 1) (crcB x (bt s i))) _
    rw [show i + 1 + d = i + (d + 1) from by omega]

/-! ### the four bytes of a sum -/
def four (n : Int) : List Int := [n / 16777216 % 256, n / 65536 % 256, n / 256 % 256, n % 256]
theorem four_bytes (n : Int) : ∀ x ∈ four n, 0 ≤ x ∧ x ≤ 255 := by
  intro x hx
  simp only [four, List.mem_cons, List.not_mem_nil, or_false] at hx
  omega
theorem four_inj {n m : Int} (h0 : 0 ≤ n) (h1 : n ≤ 4294967295) (k0 : 0 ≤ m) (k1 : m ≤ 4294967295) (h : four n = four m) : n = m := by
  simp only [four, List.cons.injEq, and_true] at h
  omega

end Go.Proofs.Ytgglelndefbdkaa.Lib

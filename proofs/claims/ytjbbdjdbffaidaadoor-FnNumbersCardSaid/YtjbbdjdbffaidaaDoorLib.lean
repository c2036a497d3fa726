/- Plain lemmas on whole numbers, bits and byte texts, used by the proofs of this claim; no condition. -/
import Derived.Laws.BitsLemmas
import Derived.Test.YtjbbdjdbffaidaaDoorWWords
import Derived.Test.YtjbbdjdbffaidaaDoorWLast
import Derived.Test.YtjbbdjdbffaidaaDoorWMore
set_option linter.unusedVariables false
set_option linter.unusedSimpArgs false
namespace Go.Proofs.YtjbbdjdbffaidaaDoor.Lib
open Go.RowKit Go.Proofs.YtjbbdjdbffaidaaDoorW.PrintWords Go.Proofs.YtjbbdjdbffaidaaDoorW.PrintLast Go.Proofs.YtjbbdjdbffaidaaDoorW.PrintMore

theorem i64_of {a : Int} (h : (Lit.int .i64 a).wf = true) : -9223372036854775808 ≤ a ∧ a ≤ 9223372036854775807 := by
  simpa [Lit.wf, IntKind.min, IntKind.max, IntKind.signed, IntKind.bits] using h
theorem u32_of {a : Int} (h : (Lit.int .u32 a).wf = true) : 0 ≤ a ∧ a ≤ 4294967295 := by
  simpa [Lit.wf, IntKind.min, IntKind.max, IntKind.signed, IntKind.bits] using h
theorem u8_of {a : Int} (h : (Lit.int .u8 a).wf = true) : 0 ≤ a ∧ a ≤ 255 := by
  simpa [Lit.wf, IntKind.min, IntKind.max, IntKind.signed, IntKind.bits] using h
theorem wrap_id {x : Int} (h0 : -9223372036854775808 ≤ x) (h1 : x ≤ 9223372036854775807) : wrap64 x = x := by
  unfold wrap64
  omega
theorem wrap_range (x : Int) : -9223372036854775808 ≤ wrap64 x ∧ wrap64 x ≤ 9223372036854775807 := by
  unfold wrap64
  omega
theorem u64_id {x : Int} (h0 : 0 ≤ x) (h1 : x ≤ 9223372036854775807) : IntKind.u64.wrap x = x := by
  simp [IntKind.wrap, IntKind.bits, IntKind.signed]
  omega
theorem u64_nonneg (x : Int) : 0 ≤ IntKind.u64.wrap x := by
  simp [IntKind.wrap, IntKind.bits, IntKind.signed]
  omega
/-- One round more. -/
theorem Ev.shift {α : Type} {g : Nat → Option α} {r : α} (h : Ev (fun k => g (k + 1)) r) : Ev g r := Ev.step (fun _ => rfl) h
theorem Ev.eq {α : Type} {g : Nat → Option α} {r r' : α} (h : Ev g r) (e : r = r') : Ev g r' := e ▸ h

/-! ### bits -/
theorem wraps_i64 (n : Int) (h₀ : 0 ≤ n) (h₁ : n < 2 ^ 63) : IntKind.i64.wrap n = n := by rw [IntKind.wrap_i64]; omega
theorem wraps_u32 (n : Int) (h₀ : 0 ≤ n) (h₁ : n < 2 ^ 32) : IntKind.u32.wrap n = n := by rw [IntKind.wrap_u32]; omega
theorem wraps_u8' (n : Int) (h₀ : 0 ≤ n) (h₁ : n < 2 ^ 8) : IntKind.u8.wrap n = n := by rw [IntKind.wrap_u8]; omega
theorem and127_i64 {x : Int} (h0 : 0 ≤ x) (h1 : x ≤ 9223372036854775807) : Go.bits .and .i64 x 127 = x % 128 :=
  bits_mask .i64 63 (by decide) wraps_i64 7 (by decide) x h0 (by omega)
theorem and1_i64 {x : Int} (h0 : 0 ≤ x) (h1 : x ≤ 9223372036854775807) : Go.bits .and .i64 x 1 = x % 2 :=
  bits_mask .i64 63 (by decide) wraps_i64 1 (by decide) x h0 (by omega)
theorem and1_u32 {x : Int} (h0 : 0 ≤ x) (h1 : x ≤ 4294967295) : Go.bits .and .u32 x 1 = x % 2 :=
  bits_mask .u32 32 (by decide) wraps_u32 1 (by decide) x h0 (by omega)
theorem and15_u8 {x : Int} (h0 : 0 ≤ x) (h1 : x ≤ 255) : Go.bits .and .u8 x 15 = x % 16 :=
  bits_mask .u8 8 (by decide) wraps_u8' 4 (by decide) x h0 (by omega)
theorem bits_or_comm (k : IntKind) (x y : Int) : Go.bits .or k x y = Go.bits .or k y x := by
  simp only [Go.bits, BitVec.or_comm]
theorem or128_i64 {y : Int} (h0 : 0 ≤ y) (h1 : y < 128) : Go.bits .or .i64 y 128 = y + 128 := by
  rw [bits_or_comm, bits_join .i64 63 (by decide) wraps_i64 7 128 y (by decide) (by decide) (by decide) h0 (by omega) (by omega)]
  omega

/-! ### the bytes of a number -/
/-- A bound that grows with the count of digits: 128, 128 * 128, .. -/
def lim : Nat → Int
  | 0 => 128
  | d + 1 => 128 * lim d
/-- The seven-bit digits of a number, the low one first, all but the last with the mark 128. -/
def varL : Nat → Int → List Int
  | 0, n => [n]
  | k + 1, n => if n > 127 then (n % 128 + 128) :: varL k (n / 128) else [n]
def varS (n : Int) : ByteArray := strOfNums (varL 9 n)
theorem lim9 : (9223372036854775807 : Int) < lim 9 := by decide
theorem varL_small {d : Nat} {n : Int} (h : ¬ n > 127) : varL d n = [n] := by
  cases d with
  | zero => rfl
  | succ d => simp only [varL, h, ↓reduceIte]
theorem varL_length (d : Nat) : ∀ n, (varL d n).length ≤ d + 1 := by
  induction d with
  | zero => intro n; simp [varL]
  | succ d ih =>
    intro n
    simp only [varL]
    split
    · have := ih (n / 128)
      simp only [List.length_cons]
      omega
    · simp
theorem strOfNums_size (xs : List Int) : (strOfNums xs).size = xs.length := by simp [strOfNums, ByteArray.size]
theorem varS_size (n : Int) : (varS n).size ≤ 10 := by
  unfold varS
  rw [strOfNums_size]
  exact varL_length 9 n
theorem tmod_pos {n m : Int} (h : 0 ≤ n) : Int.tmod n m = n % m := Int.tmod_eq_emod_of_nonneg h
theorem tdiv_pos {n m : Int} (h : 0 ≤ n) : Int.tdiv n m = n / m := Int.tdiv_eq_ediv_of_nonneg h

/-! ### how many bits are set -/
def bitAt (x : Int) (i : Nat) : Int := x / 2 ^ i % 2
def cntTo : Nat → Int → Int
  | 0, _ => 0
  | i + 1, x => cntTo i x + bitAt x i
def cnt (x : Int) : Int := if x > 0 then cntTo 7 x else 0
theorem bitAt_range (x : Int) (i : Nat) : 0 ≤ bitAt x i ∧ bitAt x i ≤ 1 := by
  unfold bitAt
  omega
theorem cntTo_range (x : Int) : ∀ i, 0 ≤ cntTo i x ∧ cntTo i x ≤ i
  | 0 => by simp [cntTo]
  | i + 1 => by
    have h := cntTo_range x i
    have hb := bitAt_range x i
    simp only [cntTo]
    omega
theorem bitAt_zero (i : Nat) : bitAt 0 i = 0 := by simp [bitAt]
theorem cntTo_zero : ∀ i, cntTo i 0 = 0
  | 0 => rfl
  | i + 1 => by simp [cntTo, cntTo_zero i, bitAt_zero]
theorem shr_bit {x : Int} {i : Nat} (hi : i < 7) : shr .i64 x (i : Int) = x / 2 ^ i := by
  unfold shr
  rw [Int.toNat_natCast, Nat.min_eq_left (by simp [IntKind.bits]; omega)]
theorem shr_nonneg {x : Int} {i : Nat} (hx : 0 ≤ x) (hx1 : x ≤ 9223372036854775807) : 0 ≤ x / 2 ^ i ∧ x / 2 ^ i ≤ 9223372036854775807 := by
  have hp : (0 : Int) < 2 ^ i := Int.pow_pos (by decide)
  refine ⟨Int.ediv_nonneg hx (Int.le_of_lt hp), ?_⟩
  exact Int.le_trans (Int.ediv_le_self _ hx) hx1

theorem shr_tmod {x : Int} {i : Nat} (hx : 0 ≤ x) (hx1 : x ≤ 9223372036854775807) (hi : i < 7) : Int.tmod (shr .i64 x (i : Int)) 2 = bitAt x i := by
  have h := (shr_nonneg (i := i) hx hx1).1
  rw [shr_bit hi, tmod_pos h]
  rfl

/-! ### keys -/
/-- One to three letters a to z. -/
def keyB (s : ByteArray) : Bool := decide (∀ j : Nat, j < s.size → 97 ≤ bt s j ∧ bt s j ≤ 122) && decide (1 ≤ (s.size : Int) ∧ (s.size : Int) ≤ 3)
theorem keyB_low {s : ByteArray} (h : ∀ j : Nat, j < s.size → 97 ≤ bt s j ∧ bt s j ≤ 122) : keyB s = decide (1 ≤ (s.size : Int) ∧ (s.size : Int) ≤ 3) := by
  unfold keyB
  rw [decide_eq_true h, Bool.true_and]
theorem keyB_not {s : ByteArray} {i : Nat} (hi : i < s.size) (h : ¬ (97 ≤ bt s i ∧ bt s i ≤ 122)) : keyB s = false := by
  unfold keyB
  rw [decide_eq_false (fun hall => h (hall i hi)), Bool.false_and]

/-! ### sums -/
/-- One bit of a sum. -/
def crc1 (x : Int) : Int := if x % 2 = 1 then Go.bits .xor .u32 (x / 2) 3558460437 else x / 2
def crcN : Nat → Int → Int
  | 0, x => x
  | n + 1, x => crcN n (crc1 x)
/-- One byte of a sum. -/
def crcB (x b : Int) : Int := crcN 8 (Go.bits .xor .u32 x (b % 4294967296))
/-- The sum of d bytes from place i on. -/
def crcS (s : ByteArray) : Nat → Nat → Int → Int
  | 0, _, x => x
  | d + 1, i, x => crcS s d (i + 1) (crcB x (bt s i))
theorem bits_u32_range (op : BinOp) (x y : Int) : 0 ≤ Go.bits op .u32 x y ∧ Go.bits op .u32 x y ≤ 4294967295 := by
  unfold Go.bits
  rw [IntKind.wrap_u32]
  omega
theorem crc1_range {x : Int} (h0 : 0 ≤ x) (h1 : x ≤ 4294967295) : 0 ≤ crc1 x ∧ crc1 x ≤ 4294967295 := by
  unfold crc1
  split
  · exact bits_u32_range _ _ _
  · omega
theorem crcN_range : ∀ (n : Nat) {x : Int}, 0 ≤ x → x ≤ 4294967295 → 0 ≤ crcN n x ∧ crcN n x ≤ 4294967295
  | 0, x, h0, h1 => ⟨h0, h1⟩
  | n + 1, x, h0, h1 => crcN_range n (crc1_range h0 h1).1 (crc1_range h0 h1).2
theorem crcB_range (x b : Int) : 0 ≤ crcB x b ∧ crcB x b ≤ 4294967295 := crcN_range 8 (bits_u32_range _ _ _).1 (bits_u32_range _ _ _).2

/-! ### figures -/
def fig (x : Int) : Int := if x < 10 then 48 + x else 87 + x
/-- The two figures of each of d bytes from place i on. -/
def hexL (s : ByteArray) : Nat → Nat → List Int
  | 0, _ => []
  | d + 1, i => fig (bt s i / 16) :: fig (bt s i % 16) :: hexL s d (i + 1)
theorem tab_fig {i : Int} (h0 : 0 ≤ i) (h1 : i < 16) : bt (⟨#[48, 49, 50, 51, 52, 53, 54, 55, 56, 57, 97, 98, 99, 100, 101, 102]⟩ : ByteArray) i = fig i := by
  have h : i = 0 ∨ i = 1 ∨ i = 2 ∨ i = 3 ∨ i = 4 ∨ i = 5 ∨ i = 6 ∨ i = 7 ∨ i = 8 ∨ i = 9 ∨ i = 10 ∨ i = 11 ∨ i = 12 ∨ i = 13 ∨ i = 14 ∨ i = 15 := by omega
  rcases h with rfl | rfl | rfl | rfl | rfl | rfl | rfl | rfl | rfl | rfl | rfl | rfl | rfl | rfl | rfl | rfl <;> decide

/-! ### masks -/
theorem i64_and_range (x : Int) (m : Nat) (hm : m < 9223372036854775808) : 0 ≤ Go.bits .and .i64 x (m : Int) ∧ Go.bits .and .i64 x (m : Int) ≤ m := by
  have h1 : ((BitVec.ofInt 64 x) &&& (BitVec.ofNat 64 m)).toNat ≤ m := by
    rw [BitVec.toNat_and, BitVec.toNat_ofNat, Nat.mod_eq_of_lt (by omega)]
    exact Nat.and_le_right
  have e : Go.bits .and .i64 x (m : Int) = (((BitVec.ofInt 64 x) &&& (BitVec.ofNat 64 m)).toNat : Int) := by
    show IntKind.i64.wrap (((BitVec.ofInt 64 x) &&& (BitVec.ofInt 64 (m : Int))).toNat : Int) = _
    rw [BitVec.ofInt_natCast]
    exact wraps_i64 _ (by omega) (by omega)
  rw [e]
  omega
theorem rd_mem {l : List Int} {i : Int} (h0 : 0 ≤ i) (h1 : i < l.length) : rd l i ∈ l := by
  unfold rd
  have h : i.toNat < l.length := by omega
  rw [List.getD_eq_getElem?_getD, List.getElem?_eq_getElem h]
  exact List.getElem_mem h

end Go.Proofs.YtjbbdjdbffaidaaDoor.Lib

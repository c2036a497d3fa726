/- Plain lemmas on byte texts and on the numbers that they tell, used by the proofs of this claim; no condition. -/
import Derived.Test.YtjbbdjdbffaidaaDoorLib
set_option linter.unusedVariables false
set_option linter.unusedSimpArgs false
namespace Go.Proofs.YtjbbdjdbffaidaaDoor.Lib
open Go.RowKit Go.Proofs.YtjbbdjdbffaidaaDoorW.PrintWords Go.Proofs.YtjbbdjdbffaidaaDoorW.PrintLast Go.Proofs.YtjbbdjdbffaidaaDoorW.PrintMore

theorem ba_toList (s : ByteArray) : s.toList = s.data.toList := by
  exact ByteArray.toList_eq s
theorem ba_ext {s t : ByteArray} (h : s.toList = t.toList) : s = t := by
  rw [ba_toList, ba_toList] at h
  exact ByteArray.ext (Array.toList_inj.1 h)
theorem toList_iff {s t : ByteArray} : s.toList = t.toList ↔ s = t := ⟨ba_ext, fun h => by rw [h]⟩
/-- d bytes from place p on, as whole numbers. -/
def sub (s : ByteArray) : Nat → Nat → List Int
  | 0, _ => []
  | d + 1, p => bt s p :: sub s d (p + 1)
theorem sub_length (s : ByteArray) : ∀ d p, (sub s d p).length = d
  | 0, _ => rfl
  | d + 1, p => by simp [sub, sub_length s d (p + 1)]
theorem sub_snoc (s : ByteArray) : ∀ d p, sub s (d + 1) p = sub s d p ++ [bt s ((p + d : Nat) : Int)]
  | 0, p => by simp [sub]
  | d + 1, p => by
    show bt s p :: sub s (d + 1) (p + 1) = _
    rw [sub_snoc s d (p + 1)]
    simp only [sub, List.cons_append, List.cons.injEq, true_and]
    rw [show p + 1 + d = p + (d + 1) from by omega]
theorem sub_bytes (s : ByteArray) : ∀ d p, ∀ x ∈ sub s d p, 0 ≤ x ∧ x ≤ 255
  | 0, _, x, hx => by simp [sub] at hx
  | d + 1, p, x, hx => by
    rcases List.mem_cons.1 hx with rfl | hx
    · exact bt_range s _
    · exact sub_bytes s d (p + 1) x hx
theorem bt_get {s : ByteArray} {i : Nat} (h : i < s.size) : bt s (i : Int) = ((s[i]'h).toNat : Int) := by
  unfold bt
  rw [dif_pos (by simpa using h)]
  rfl
theorem strOfNums_cons (x : Int) (xs : List Int) : (strOfNums (x :: xs)).toList = UInt8.ofNat x.toNat :: (strOfNums xs).toList := by
  rw [ba_toList, ba_toList]
  simp [strOfNums]
theorem strOfNums_toList (xs : List Int) : (strOfNums xs).toList = xs.map fun n => UInt8.ofNat n.toNat := by
  rw [ba_toList]
  simp [strOfNums]
theorem strOfNums_append (xs ys : List Int) : strOfNums (xs ++ ys) = strOfNums xs ++ strOfNums ys := by
  refine ba_ext ?_
  rw [ba_toList, ba_toList]
  simp [strOfNums, ByteArray.data_append]
theorem strOfNums_inj {xs ys : List Int} (hx : ∀ x ∈ xs, 0 ≤ x ∧ x ≤ 255) (hy : ∀ y ∈ ys, 0 ≤ y ∧ y ≤ 255) (h : strOfNums xs = strOfNums ys) : xs = ys := by
  have h2 : xs.map (fun n => UInt8.ofNat n.toNat) = ys.map (fun n => UInt8.ofNat n.toNat) := by
    rw [← strOfNums_toList, ← strOfNums_toList, h]
  clear h
  induction xs generalizing ys with
  | nil =>
    cases ys with
    | nil => rfl
    | cons y ys => simp at h2
  | cons x xs ih =>
    cases ys with
    | nil => simp at h2
    | cons y ys =>
      simp only [List.map_cons, List.cons.injEq] at h2
      have e : x = y := by
        have h3 := congrArg UInt8.toNat h2.1
        have a := hx x (List.mem_cons_self ..)
        have b := hy y (List.mem_cons_self ..)
        simp only [UInt8.toNat_ofNat'] at h3
        omega
      rw [e, ih (fun z hz => hx z (List.mem_cons_of_mem _ hz)) (fun z hz => hy z (List.mem_cons_of_mem _ hz)) h2.2]
theorem strOfNums_sub (s : ByteArray) (d : Nat) : ∀ p, p + d ≤ s.size → strOfNums (sub s d p) = s.extract p (p + d) := by
  intro p h
  refine ba_ext ?_
  rw [strOfNums_toList, ba_toList, ByteArray.data_extract]
  refine List.ext_getElem ?_ ?_
  · have hs : s.data.size = s.size := rfl
    simp only [List.length_map, sub_length, Array.length_toList, Array.size_extract]
    omega
  · intro i h1 h2
    simp only [List.length_map, sub_length] at h1
    have e : ∀ (d p : Nat) (i : Nat) (h : i < (sub s d p).length), (sub s d p)[i] = bt s ((p + i : Nat) : Int) := by
      intro d
      induction d with
      | zero => intro p i h; simp [sub] at h
      | succ d ih =>
        intro p i h
        cases i with
        | zero => simp [sub]
        | succ i =>
          simp only [sub, List.getElem_cons_succ]
          rw [ih, show p + 1 + i = p + (i + 1) from by omega]
    rw [List.getElem_map, e, bt_get (by omega)]
    simp only [Array.getElem_toList, Array.getElem_extract, Int.toNat_natCast]
    rw [UInt8.ofNat_toNat]
    rfl
theorem strOfNums_all (s : ByteArray) : strOfNums (sub s s.size 0) = s := by
  rw [strOfNums_sub s s.size 0 (by omega), Nat.zero_add]
  exact ByteArray.extract_zero_size

/-! ### numbers out of bytes -/
def numOf : List Int → Int
  | [] => 0
  | b :: bs => b % 128 + 128 * numOf bs
theorem numOf_nonneg : ∀ bs, 0 ≤ numOf bs
  | [] => by simp [numOf]
  | b :: bs => by
    have := numOf_nonneg bs
    simp only [numOf]
    omega
theorem numOf_snoc (x : Int) : ∀ bs, numOf (bs ++ [x]) = numOf bs + x % 128 * 128 ^ bs.length
  | [] => by simp [numOf]
  | b :: bs => by
    simp only [List.cons_append, numOf, numOf_snoc x bs, List.length_cons, Int.pow_succ]
    generalize x % 128 = a
    generalize (128 : Int) ^ bs.length = c
    rw [Int.mul_add, Int.add_assoc, Int.mul_comm 128 (a * c), Int.mul_assoc a c 128]
theorem numOf_lt : ∀ bs, numOf bs < 128 ^ bs.length
  | [] => by simp [numOf]
  | b :: bs => by
    have := numOf_lt bs
    simp only [numOf, List.length_cons, Int.pow_succ]
    omega
theorem numOf_pos {x : Int} (hx : 1 ≤ x) (hx' : x ≤ 127) : ∀ bs, 1 ≤ numOf (bs ++ [x])
  | [] => by simp only [List.nil_append, numOf]; omega
  | b :: bs => by
    have := numOf_pos hx hx' bs
    simp only [List.cons_append, numOf]
    omega
theorem varL_numOf {x : Int} (hx : 1 ≤ x) (hx' : x ≤ 127) : ∀ (bs : List Int) (d : Nat), bs.length ≤ d → (∀ b ∈ bs, 128 ≤ b ∧ b ≤ 255) → varL d (numOf (bs ++ [x])) = bs ++ [x]
  | [], d, _, _ => by
    have e : numOf ([] ++ [x]) = x := by simp only [List.nil_append, numOf]; omega
    rw [e, varL_small (by omega)]
    rfl
  | b :: bs, 0, h, _ => by simp at h
  | b :: bs, d + 1, h, hb => by
    have hp := numOf_pos hx hx' bs
    have hb0 := hb b (List.mem_cons_self ..)
    simp only [List.cons_append, numOf, varL]
    rw [if_pos (by omega), show (b % 128 + 128 * numOf (bs ++ [x])) / 128 = numOf (bs ++ [x]) from by omega,
      varL_numOf hx hx' bs d (by simpa using h) (fun c hc => hb c (List.mem_cons_of_mem _ hc))]
    congr 1
    omega
theorem varL_not_zero : ∀ (d : Nat) (n : Int), 0 ≤ n → ∀ (bs : List Int), bs ≠ [] → varL d n ≠ bs ++ [0]
  | 0, n, h0, bs, hb, h => by
    cases bs with
    | nil => exact hb rfl
    | cons b bs => simp [varL] at h
  | d + 1, n, h0, bs, hb, h => by
    cases bs with
    | nil => exact hb rfl
    | cons b bs =>
      simp only [varL] at h
      split at h
      · rename_i hn
        simp only [List.cons_append, List.cons.injEq] at h
        cases bs with
        | cons c bs => exact varL_not_zero d (n / 128) (by omega) (c :: bs) (by simp) h.2
        | nil =>
          have h2 : varL d (n / 128) = [0] := h.2
          cases d with
          | zero => simp only [varL, List.cons.injEq, and_true] at h2; omega
          | succ d =>
            simp only [varL] at h2
            split at h2
            · simp only [List.cons.injEq] at h2; omega
            · simp only [List.cons.injEq, and_true] at h2; omega
      · simp at h
theorem varL_bytes : ∀ (d : Nat) (n : Int), 0 ≤ n → n < lim d → ∀ x ∈ varL d n, 0 ≤ x ∧ x ≤ 255
  | 0, n, h0, h1, x, hx => by
    simp only [varL, List.mem_singleton] at hx
    simp only [lim] at h1
    omega
  | d + 1, n, h0, h1, x, hx => by
    simp only [lim] at h1
    simp only [varL] at hx
    split at hx
    · rcases List.mem_cons.1 hx with rfl | hx
      · omega
      · exact varL_bytes d (n / 128) (by omega) (by omega) x hx
    · simp only [List.mem_singleton] at hx
      omega
/-- What the bytes tell is told by these bytes, unless the last one is idle. -/
theorem varS_sub {s : ByteArray} {p k : Nat} (hk : k ≤ 9) (hp : p + (k + 1) ≤ s.size) (hb : ∀ b ∈ sub s k p, 128 ≤ b ∧ b ≤ 255) (hx : bt s ((p + k : Nat) : Int) ≤ 127) (hn : numOf (sub s (k + 1) p) ≤ 9223372036854775807) :
    varS (numOf (sub s (k + 1) p)) = s.extract p (p + (k + 1)) ↔ ¬ (bt s ((p + k : Nat) : Int) = 0 ∧ k > 0) := by
  have h0 := (bt_range s ((p + k : Nat) : Int)).1
  rw [← strOfNums_sub s (k + 1) p hp]
  constructor
  · intro h ⟨hz, hk0⟩
    have h2 := strOfNums_inj (varL_bytes 9 _ (numOf_nonneg _) (by have := lim9; omega)) (sub_bytes s (k + 1) p) h
    rw [sub_snoc s k p, hz] at h2
    refine varL_not_zero 9 _ (numOf_nonneg _) (sub s k p) ?_ h2
    intro he
    have := congrArg List.length he
    rw [sub_length] at this
    simp at this
    omega
  · intro h
    unfold varS
    rw [sub_snoc s k p]
    by_cases hz : bt s ((p + k : Nat) : Int) = 0
    · have hk0 : k = 0 := by
        by_cases hk0 : k = 0
        · exact hk0
        · exact absurd ⟨hz, by omega⟩ h
      subst hk0
      rw [hz]
      rfl
    · rw [varL_numOf (by omega) hx (sub s k p) 9 (by rw [sub_length]; exact hk) hb]

end Go.Proofs.YtjbbdjdbffaidaaDoor.Lib

/- For every input that the statement reads, the law FnExactUnsealed of the given program returns true and leaves its arguments as they were. Conditions: none but the statement's own. -/
import Derived.Test.YtkohgekdpknloaaPFnExactUnsealedx2
import Derived.Test.YtkohgekdpknloaaLib
import Derived.Test.YtkohgekdpknloaaLibCrc
import Derived.Test.YtkohgekdpknloaaLibText
set_option linter.unusedVariables false
set_option linter.unusedSimpArgs false
namespace Go.Proofs.Ytkohgekdpknloaa.Pure
open Go.RowKit Go.Proofs.Ytkohgekdpknloaa.PFnExactUnsealed Go.Proofs.YtkohgekdpknloaaW.PrintWords Go.Proofs.YtkohgekdpknloaaW.PrintLast Go.Proofs.YtkohgekdpknloaaW.PrintMore Go.Proofs.Ytkohgekdpknloaa.Lib

theorem spec_SumMore_l1 (s : ByteArray) (i : Int) (r : Int) (d : Nat) : ∀ (x : Int) (j : Nat), 0 ≤ x → x ≤ 4294967295 → j + d = 8 →
    Ev (fun k => spec_SumMore.l0 k (crcN d x) s (wrap64 (i + 1))) r → Ev (fun k => spec_SumMore.l1 k x s i (j : Int)) r := by
  induction d with
  | zero =>
    intro x j h0 h1 hj h
    obtain rfl : j = 8 := by omega
    refine Ev.shift ?_
    simp only [spec_SumMore.l1, show ¬ ((8 : Nat) : Int) < 8 from by omega, ↓reduceIte]
    exact h
  | succ d ih =>
    intro x j h0 h1 hj h
    refine Ev.shift ?_
    have hl : (j : Int) < 8 := by omega
    have h6 : wrap64 ((j : Int) + 1) = ((j + 1 : Nat) : Int) := by rw [wrap_id (by omega) (by omega)]; omega
    have e1 : Int.tmod x 2 = x % 2 := tmod_pos h0
    have e2 : Int.tdiv x 2 % 4294967296 = x / 2 := by rw [tdiv_pos h0]; omega
    have hr := crc1_range h0 h1
    by_cases ho : x % 2 = 1
    · simp only [spec_SumMore.l1, hl, e1, e2, ho, h6, ↓reduceIte]
      have e : crc1 x = Go.bits .xor .u32 (x / 2) 3558460437 := by unfold crc1; rw [if_pos ho]
      rw [e] at hr
      exact ih _ (j + 1) hr.1 hr.2 (by omega) (by simp only [crcN, e] at h; exact h)
    · simp only [spec_SumMore.l1, hl, e1, e2, ho, h6, ↓reduceIte]
      have e : crc1 x = x / 2 := by unfold crc1; rw [if_neg ho]
      rw [e] at hr
      exact ih _ (j + 1) hr.1 hr.2 (by omega) (by simp only [crcN, e] at h; exact h)
theorem spec_SumMore_l0 (s : ByteArray) (hs : s.size ≤ 140737488351232) (d : Nat) : ∀ (x : Int) (i : Nat), i + d = s.size → Ev (fun k => spec_SumMore.l0 k x s (i : Int)) (crcS s d i x) := by
  induction d with
  | zero =>
    intro x i hi
    refine Ev.shift ?_
    simp only [spec_SumMore.l0, show ¬ (i : Int) < s.size from by omega, ↓reduceIte]
    exact Ev.now _
  | succ d ih =>
    intro x i hi
    refine Ev.shift ?_
    have h1 : (i : Int) < s.size := by omega
    have h4 : (0 : Int) ≤ i := by omega
    simp only [spec_SumMore.l0, h1, h4, ↓reduceIte]
    have hr := bits_u32_range .xor x (bt s (i : Int) % 4294967296)
    refine spec_SumMore_l1 s (i : Int) _ 8 _ 0 hr.1 hr.2 rfl ?_
    have h6 : wrap64 ((i : Int) + 1) = ((i + 1 : Nat) : Int) := by rw [wrap_id (by omega) (by omega)]; omega
    rw [h6]
    exact ih _ (i + 1) (by omega)
theorem spec_SumMore_ev (x : Int) (s : ByteArray) (hs : s.size ≤ 140737488351232) : Ev (fun k => spec_SumMore.f k x s) (crcS s s.size 0 x) :=
  spec_SumMore_l0 s hs s.size x 0 (by omega)

theorem spec_SumOf_ev (s : ByteArray) (hs : s.size ≤ 140737488351232) : Ev (fun k => spec_SumOf.f k s) (crcS s s.size 0 4294967295) := by
  unfold spec_SumOf.f
  exact Ev.bind (spec_SumMore_ev 4294967295 s hs) (Ev.now _)

theorem impl_in_eq (a b c : Int) : impl_in.f a b c = some (decide (b ≤ a ∧ a ≤ c)) := by
  unfold impl_in.f
  by_cases h : a ≥ b
  · simp [h]
  · have h' : ¬ b ≤ a := by omega
    simp [h, h']

theorem impl_SumMore_l1 (s : ByteArray) (i : Int) (r : Int) (d : Nat) : ∀ (x : Int) (j : Nat), 0 ≤ x → x ≤ 4294967295 → j + d = 8 →
    Ev (fun k => impl_SumMore.l0 k (crcN d x) s (s.size : Int) (wrap64 (i + 1))) r → Ev (fun k => impl_SumMore.l1 k x s (s.size : Int) i (j : Int)) r := by
  induction d with
  | zero =>
    intro x j h0 h1 hj h
    obtain rfl : j = 8 := by omega
    refine Ev.shift ?_
    simp only [impl_SumMore.l1, show ¬ ((8 : Nat) : Int) < 8 from by omega, ↓reduceIte]
    exact h
  | succ d ih =>
    intro x j h0 h1 hj h
    refine Ev.shift ?_
    have hl : (j : Int) < 8 := by omega
    have h6 : wrap64 ((j : Int) + 1) = ((j + 1 : Nat) : Int) := by rw [wrap_id (by omega) (by omega)]; omega
    have e1 : Go.bits .and .u32 x 1 = x % 2 := and1_u32 h0 h1
    have hr := crc1_range h0 h1
    by_cases ho : x % 2 = 1
    · simp only [impl_SumMore.l1, hl, e1, ho, h6, ↓reduceIte]
      have e : crc1 x = Go.bits .xor .u32 (x / 2) 3558460437 := by unfold crc1; rw [if_pos ho]
      rw [e] at hr
      exact ih _ (j + 1) hr.1 hr.2 (by omega) (by simp only [crcN, e] at h; exact h)
    · simp only [impl_SumMore.l1, hl, e1, ho, h6, ↓reduceIte]
      have e : crc1 x = x / 2 := by unfold crc1; rw [if_neg ho]
      rw [e] at hr
      exact ih _ (j + 1) hr.1 hr.2 (by omega) (by simp only [crcN, e] at h; exact h)
theorem impl_SumMore_l0 (s : ByteArray) (hs : s.size ≤ 140737488351232) (d : Nat) : ∀ (x : Int) (i : Nat), i + d = s.size → Ev (fun k => impl_SumMore.l0 k x s (s.size : Int) (i : Int)) (crcS s d i x) := by
  induction d with
  | zero =>
    intro x i hi
    refine Ev.shift ?_
    simp only [impl_SumMore.l0, show ¬ (i : Int) < s.size from by omega, ↓reduceIte]
    exact Ev.now _
  | succ d ih =>
    intro x i hi
    refine Ev.shift ?_
    have h1 : (i : Int) < s.size := by omega
    have h4 : (0 : Int) ≤ i := by omega
    simp only [impl_SumMore.l0, h1, h4, ↓reduceIte]
    have hr := bits_u32_range .xor x (bt s (i : Int) % 4294967296)
    refine impl_SumMore_l1 s (i : Int) _ 8 _ 0 hr.1 hr.2 rfl ?_
    have h6 : wrap64 ((i : Int) + 1) = ((i + 1 : Nat) : Int) := by rw [wrap_id (by omega) (by omega)]; omega
    rw [h6]
    exact ih _ (i + 1) (by omega)
theorem impl_SumMore_ev (x : Int) (s : ByteArray) (hs : s.size ≤ 140737488351232) : Ev (fun k => impl_SumMore.f k x s) (crcS s s.size 0 x) :=
  impl_SumMore_l0 s hs s.size x 0 (by omega)

theorem impl_SumOf_ev (s : ByteArray) (hs : s.size ≤ 140737488351232) : Ev (fun k => impl_SumOf.f k s) (crcS s s.size 0 4294967295) := by
  unfold impl_SumOf.f
  exact Ev.bind (impl_SumMore_ev 4294967295 s hs) (Ev.now _)

def sumT (s : ByteArray) : Int := crcS s s.size 0 4294967295
def fourS (s : ByteArray) : ByteArray := strOfNums (four (sumT s))
theorem sumT_range (s : ByteArray) : 0 ≤ sumT s ∧ sumT s ≤ 4294967295 := crcS_range s s.size 0 (by decide) (by decide)
theorem fourS_size (s : ByteArray) : (fourS s).size = 4 := by
  unfold fourS
  rw [strOfNums_size]
  rfl

theorem impl_seal_ev (s : ByteArray) (hs : s.size ≤ 140737488351232) : Ev (fun k => impl_seal.f k s) (fourS s) := by
  unfold impl_seal.f
  exact Ev.bind (impl_SumOf_ev s hs) (Ev.now _)

/-- What is told of a text that may be sealed. -/
def unsB (s : ByteArray) : ByteArray × Bool :=
  if 4 ≤ s.size ∧ s.size ≤ 20004 ∧ (s.extract (s.size - 4) s.size).toList = (fourS (s.extract 0 (s.size - 4))).toList then (s.extract 0 (s.size - 4), true) else ((⟨#[]⟩ : ByteArray), false)
theorem extract_size_le (s : ByteArray) (a b : Nat) : (s.extract a b).size ≤ s.size := by
  rw [ByteArray.size_extract]
  omega
theorem impl_Unsealed_ev (s : ByteArray) (hs : s.size ≤ 140737488351232) : Ev (fun k => impl_Unsealed.f k s) (unsB s) := by
  unfold impl_Unsealed.f unsB
  have e : wrap64 ((s.size : Int) - 4) = (s.size : Int) - 4 := wrap_id (by omega) (by omega)
  simp only [e]
  by_cases h : 4 ≤ s.size ∧ s.size ≤ 20004
  · obtain ⟨h4, h5⟩ := h
    have e1 : impl_in.f ((s.size : Int) - 4) 0 20000 = some true := by rw [impl_in_eq, decide_eq_true (by omega)]
    have e2 : 0 ≤ (s.size : Int) - 4 := by omega
    have e3 : (s.size : Int) - 4 ≤ (s.size : Int) := by omega
    have e4 : ((s.size : Int) - 4).toNat = s.size - 4 := by omega
    simp only [e1, e2, e3, e4, ↓reduceIte, h4, h5, true_and, Option.bind_some]
    refine Ev.bind (impl_seal_ev _ (Nat.le_trans (extract_size_le _ _ _) hs)) ?_
    by_cases hq : (s.extract (s.size - 4) s.size).toList = (fourS (s.extract 0 (s.size - 4))).toList
    · simp only [hq, ↓reduceIte]
      exact Ev.now _
    · simp only [hq, ↓reduceIte]
      exact Ev.now _
  · have e1 : impl_in.f ((s.size : Int) - 4) 0 20000 = some false := by rw [impl_in_eq, decide_eq_false (by omega)]
    have e2 : ¬ (4 ≤ s.size ∧ s.size ≤ 20004 ∧ (s.extract (s.size - 4) s.size).toList = (fourS (s.extract 0 (s.size - 4))).toList) := fun q => h ⟨q.1, q.2.1⟩
    simp only [e1, e2, ↓reduceIte, Bool.false_eq_true, Option.bind_some]
    exact Ev.now _

theorem spec_Unsealed_ev (s : ByteArray) (hs : s.size ≤ 140737488351232) : Ev (fun k => spec_Unsealed.f k s) (unsB s) := by
  unfold spec_Unsealed.f unsB
  have e : wrap64 ((s.size : Int) - 4) = (s.size : Int) - 4 := wrap_id (by omega) (by omega)
  simp only [e]
  by_cases h : 4 ≤ s.size ∧ s.size ≤ 20004
  · obtain ⟨h4, h5⟩ := h
    have e0 : ¬ (s.size : Int) - 4 < 0 := by omega
    have e1 : ¬ (s.size : Int) - 4 > 20000 := by omega
    have e2 : 0 ≤ (s.size : Int) - 4 := by omega
    have e3 : (s.size : Int) - 4 ≤ (s.size : Int) := by omega
    have e4 : ((s.size : Int) - 4).toNat = s.size - 4 := by omega
    simp only [e0, e1, e2, e3, e4, ↓reduceIte, h4, h5, true_and]
    refine Ev.bind (spec_SumOf_ev _ (Nat.le_trans (extract_size_le _ _ _) hs)) ?_
    simp only [spec_l02Four.f, Option.bind_some]
    show Ev (fun k => if (s.extract (s.size - 4) s.size).toList = (fourS (s.extract 0 (s.size - 4))).toList then _ else _) _
    by_cases hq : (s.extract (s.size - 4) s.size).toList = (fourS (s.extract 0 (s.size - 4))).toList
    · simp only [hq, ↓reduceIte]
      exact Ev.now _
    · simp only [hq, ↓reduceIte]
      exact Ev.now _
  · have e2 : ¬ (4 ≤ s.size ∧ s.size ≤ 20004 ∧ (s.extract (s.size - 4) s.size).toList = (fourS (s.extract 0 (s.size - 4))).toList) := fun q => h ⟨q.1, q.2.1⟩
    simp only [e2, ↓reduceIte]
    by_cases e0 : (s.size : Int) - 4 < 0
    · simp only [e0, ↓reduceIte]
      exact Ev.now _
    · have e1 : (s.size : Int) - 4 > 20000 := by omega
      simp only [e0, e1, ↓reduceIte]
      exact Ev.now _

theorem FnExactUnsealed : laws_FnExactUnsealed.Pure := by
  intro s w0
  refine Ev.rounds ?_
  unfold laws_FnExactUnsealed.f
  by_cases hb : (s.size : Int) > 1048576
  · simp only [hb, ↓reduceIte]
    exact Ev.now _
  · simp only [hb, ↓reduceIte]
    refine Ev.bind (spec_Unsealed_ev s w0) (Ev.bind (impl_Unsealed_ev s w0) ?_)
    simp only [↓reduceIte, bne_self_eq_false, Bool.false_eq_true]
    exact Ev.now _

end Go.Proofs.Ytkohgekdpknloaa.Pure

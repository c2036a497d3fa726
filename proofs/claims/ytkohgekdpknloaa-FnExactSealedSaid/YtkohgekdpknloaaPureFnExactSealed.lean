/- For every input that the statement reads, the law FnExactSealed of the given program returns true and leaves its arguments as they were. Conditions: none but the statement's own. -/
import Derived.Test.YtkohgekdpknloaaPFnExactSealedx1
import Derived.Test.YtkohgekdpknloaaLib
import Derived.Test.YtkohgekdpknloaaLibCrc
import Derived.Test.YtkohgekdpknloaaLibText
set_option linter.unusedVariables false
set_option linter.unusedSimpArgs false
namespace Go.Proofs.Ytkohgekdpknloaa.Pure
open Go.RowKit Go.Proofs.Ytkohgekdpknloaa.PFnExactSealed Go.Proofs.YtkohgekdpknloaaW.PrintWords Go.Proofs.YtkohgekdpknloaaW.PrintLast Go.Proofs.YtkohgekdpknloaaW.PrintMore Go.Proofs.Ytkohgekdpknloaa.Lib

theorem spec_SumMore_l1 (s : ByteArray) (i : Int) (r : Int) (d : Nat) : ∀ (x : Int) (j : Nat), 0 ≤ x → x ≤ 4294967295 → j + d = 8 →
    Ev (fun k => spec_SumMore.l0 k (crcN d x) s (wrap64 (i + 1))) r → Ev (fun k => spec_SumMore.l1 k x s i (j : Int)) r := by
  induction d with
  | zero =>
    intro x j h0 h1 hj h
    obtain rfl : j = 8 := by omega
    refine Ev.shift ?_
    simp only [spec_SumMore.l1, show ¬ ((8 : Nat) : Int) < 8 from by omega, ↓reduceIte]
    exact h
  | succ d ih =>
    intro x j h0 h1 hj h
    refine Ev.shift ?_
    have hl : (j : Int) < 8 := by omega
    have h6 : wrap64 ((j : Int) + 1) = ((j + 1 : Nat) : Int) := by rw [wrap_id (by omega) (by omega)]; omega
    have e1 : Int.tmod x 2 = x % 2 := tmod_pos h0
    have e2 : Int.tdiv x 2 % 4294967296 = x / 2 := by rw [tdiv_pos h0]; omega
    have hr := crc1_range h0 h1
    by_cases ho : x % 2 = 1
    · simp only [spec_SumMore.l1, hl, e1, e2, ho, h6, ↓reduceIte]
      have e : crc1 x = Go.bits .xor .u32 (x / 2) 3558460437 := by unfold crc1; rw [if_pos ho]
      rw [e] at hr
      exact ih _ (j + 1) hr.1 hr.2 (by omega) (by simp only [crcN, e] at h; exact h)
    · simp only [spec_SumMore.l1, hl, e1, e2, ho, h6, ↓reduceIte]
      have e : crc1 x = x / 2 := by unfold crc1; rw [if_neg ho]
      rw [e] at hr
      exact ih _ (j + 1) hr.1 hr.2 (by omega) (by simp only [crcN, e] at h; exact h)
theorem spec_SumMore_l0 (s : ByteArray) (hs : s.size ≤ 140737488351232) (d : Nat) : ∀ (x : Int) (i : Nat), i + d = s.size → Ev (fun k => spec_SumMore.l0 k x s (i : Int)) (crcS s d i x) := by
  induction d with
  | zero =>
    intro x i hi
    refine Ev.shift ?_
    simp only [spec_SumMore.l0, show ¬ (i : Int) < s.size from by omega, ↓reduceIte]
    exact Ev.now _
  | succ d ih =>
    intro x i hi
    refine Ev.shift ?_
    have h1 : (i : Int) < s.size := by omega
    have h4 : (0 : Int) ≤ i := by omega
    simp only [spec_SumMore.l0, h1, h4, ↓reduceIte]
    have hr := bits_u32_range .xor x (bt s (i : Int) % 4294967296)
    refine spec_SumMore_l1 s (i : Int) _ 8 _ 0 hr.1 hr.2 rfl ?_
    have h6 : wrap64 ((i : Int) + 1) = ((i + 1 : Nat) : Int) := by rw [wrap_id (by omega) (by omega)]; omega
    rw [h6]
    exact ih _ (i + 1) (by omega)
theorem spec_SumMore_ev (x : Int) (s : ByteArray) (hs : s.size ≤ 140737488351232) : Ev (fun k => spec_SumMore.f k x s) (crcS s s.size 0 x) :=
  spec_SumMore_l0 s hs s.size x 0 (by omega)

theorem spec_SumOf_ev (s : ByteArray) (hs : s.size ≤ 140737488351232) : Ev (fun k => spec_SumOf.f k s) (crcS s s.size 0 4294967295) := by
  unfold spec_SumOf.f
  exact Ev.bind (spec_SumMore_ev 4294967295 s hs) (Ev.now _)

theorem impl_SumMore_l1 (s : ByteArray) (i : Int) (r : Int) (d : Nat) : ∀ (x : Int) (j : Nat), 0 ≤ x → x ≤ 4294967295 → j + d = 8 →
    Ev (fun k => impl_SumMore.l0 k (crcN d x) s (s.size : Int) (wrap64 (i + 1))) r → Ev (fun k => impl_SumMore.l1 k x s (s.size : Int) i (j : Int)) r := by
  induction d with
  | zero =>
    intro x j h0 h1 hj h
    obtain rfl : j = 8 := by omega
    refine Ev.shift ?_
    simp only [impl_SumMore.l1, show ¬ ((8 : Nat) : Int) < 8 from by omega, ↓reduceIte]
    exact h
  | succ d ih =>
    intro x j h0 h1 hj h
    refine Ev.shift ?_
    have hl : (j : Int) < 8 := by omega
    have h6 : wrap64 ((j : Int) + 1) = ((j + 1 : Nat) : Int) := by rw [wrap_id (by omega) (by omega)]; omega
    have e1 : Go.bits .and .u32 x 1 = x % 2 := and1_u32 h0 h1
    have hr := crc1_range h0 h1
    by_cases ho : x % 2 = 1
    · simp only [impl_SumMore.l1, hl, e1, ho, h6, ↓reduceIte]
      have e : crc1 x = Go.bits .xor .u32 (x / 2) 3558460437 := by unfold crc1; rw [if_pos ho]
      rw [e] at hr
      exact ih _ (j + 1) hr.1 hr.2 (by omega) (by simp only [crcN, e] at h; exact h)
    · simp only [impl_SumMore.l1, hl, e1, ho, h6, ↓reduceIte]
      have e : crc1 x = x / 2 := by unfold crc1; rw [if_neg ho]
      rw [e] at hr
      exact ih _ (j + 1) hr.1 hr.2 (by omega) (by simp only [crcN, e] at h; exact h)
theorem impl_SumMore_l0 (s : ByteArray) (hs : s.size ≤ 140737488351232) (d : Nat) : ∀ (x : Int) (i : Nat), i + d = s.size → Ev (fun k => impl_SumMore.l0 k x s (s.size : Int) (i : Int)) (crcS s d i x) := by
  induction d with
  | zero =>
    intro x i hi
    refine Ev.shift ?_
    simp only [impl_SumMore.l0, show ¬ (i : Int) < s.size from by omega, ↓reduceIte]
    exact Ev.now _
  | succ d ih =>
    intro x i hi
    refine Ev.shift ?_
    have h1 : (i : Int) < s.size := by omega
    have h4 : (0 : Int) ≤ i := by omega
    simp only [impl_SumMore.l0, h1, h4, ↓reduceIte]
    have hr := bits_u32_range .xor x (bt s (i : Int) % 4294967296)
    refine impl_SumMore_l1 s (i : Int) _ 8 _ 0 hr.1 hr.2 rfl ?_
    have h6 : wrap64 ((i : Int) + 1) = ((i + 1 : Nat) : Int) := by rw [wrap_id (by omega) (by omega)]; omega
    rw [h6]
    exact ih _ (i + 1) (by omega)
theorem impl_SumMore_ev (x : Int) (s : ByteArray) (hs : s.size ≤ 140737488351232) : Ev (fun k => impl_SumMore.f k x s) (crcS s s.size 0 x) :=
  impl_SumMore_l0 s hs s.size x 0 (by omega)

theorem impl_SumOf_ev (s : ByteArray) (hs : s.size ≤ 140737488351232) : Ev (fun k => impl_SumOf.f k s) (crcS s s.size 0 4294967295) := by
  unfold impl_SumOf.f
  exact Ev.bind (impl_SumMore_ev 4294967295 s hs) (Ev.now _)

def sumT (s : ByteArray) : Int := crcS s s.size 0 4294967295
def fourS (s : ByteArray) : ByteArray := strOfNums (four (sumT s))
theorem sumT_range (s : ByteArray) : 0 ≤ sumT s ∧ sumT s ≤ 4294967295 := crcS_range s s.size 0 (by decide) (by decide)
theorem fourS_size (s : ByteArray) : (fourS s).size = 4 := by
  unfold fourS
  rw [strOfNums_size]
  rfl

theorem impl_seal_ev (s : ByteArray) (hs : s.size ≤ 140737488351232) : Ev (fun k => impl_seal.f k s) (fourS s) := by
  unfold impl_seal.f
  exact Ev.bind (impl_SumOf_ev s hs) (Ev.now _)

theorem FnExactSealed : laws_FnExactSealed.Pure := by
  intro s w0
  refine Ev.rounds ?_
  unfold laws_FnExactSealed.f spec_Sealed.f impl_Sealed.f
  by_cases hb : (s.size : Int) > 1048576
  · simp only [hb, ↓reduceIte]
    exact Ev.now _
  · by_cases h : (s.size : Int) > 20000
    · simp only [hb, h, ↓reduceIte, Option.bind_some, bne_self_eq_false, Bool.false_eq_true]
      exact Ev.now _
    · have hz : s.size + (fourS s).size ≤ 9223372036854775807 := by rw [fourS_size]; omega
      simp only [hb, h, ↓reduceIte]
      refine Ev.bind (a := (s ++ fourS s, true)) (Ev.bind (spec_SumOf_ev s w0) ?_) ?_
      · simp only [spec_l02Four.f, Option.bind_some]
        have hz' : s.size + (strOfNums [crcS s s.size 0 4294967295 / 16777216 % 256, crcS s s.size 0 4294967295 / 65536 % 256, crcS s s.size 0 4294967295 / 256 % 256, crcS s s.size 0 4294967295 % 256]).size ≤ 9223372036854775807 := hz
        simp only [hz', ↓reduceIte]
        exact Ev.now _
      · refine Ev.bind (Ev.bind (impl_seal_ev s w0) (by simp only [hz, ↓reduceIte]; exact Ev.now _)) ?_
        simp only [↓reduceIte, bne_self_eq_false, Bool.false_eq_true]
        exact Ev.now _

end Go.Proofs.Ytkohgekdpknloaa.Pure

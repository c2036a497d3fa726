/- For every input that the statement reads, the law FnExactQcText of the given program returns true and leaves its arguments as they were. Conditions: none but the statement's own. -/
import Derived.Test.YtkohgekdpknloaaStmFnExactQcText
import Derived.Test.YtkohgekdpknloaaLib
set_option linter.unusedVariables false
set_option linter.unusedSimpArgs false
namespace Go.Proofs.Ytkohgekdpknloaa.Pure
open Go.RowKit Go.Proofs.Ytkohgekdpknloaa.QFnExactQcText Go.Proofs.YtkohgekdpknloaaW.PrintWords Go.Proofs.YtkohgekdpknloaaW.PrintLast Go.Proofs.YtkohgekdpknloaaW.PrintMore Go.Proofs.Ytkohgekdpknloaa.Lib

theorem spec_l01Var_l0 (d : Nat) : ∀ (n : Int) (acc : List Int), 0 ≤ n → n < lim d → n ≤ 9223372036854775807 → acc.length + d < 1000 →
    Ev (fun k => spec_l01Var.l0 k n acc) (strOfNums (acc ++ varL d n)) := by
  induction d with
  | zero =>
    intro n acc h0 h1 h2 hl
    refine Ev.shift ?_
    have hn : ¬ n > 127 := by simp only [lim] at h1; omega
    have hl' : acc.length < 140737488355328 := by omega
    simp only [spec_l01Var.l0, hn, hl', ↓reduceIte, varL]
    rw [show n % 256 = n from by omega]
    exact Ev.now _
  | succ d ih =>
    intro n acc h0 h1 h2 hl
    refine Ev.shift ?_
    have hl' : acc.length < 140737488355328 := by omega
    by_cases hn : n > 127
    · have e1 : wrap64 (Int.tdiv n 128) = n / 128 := by rw [tdiv_pos h0]; exact wrap_id (by omega) (by omega)
      have e2 : (wrap64 (Int.tmod n 128 + 128)) % 256 = n % 128 + 128 := by rw [tmod_pos h0, wrap_id (by omega) (by omega)]; omega
      simp only [spec_l01Var.l0, hn, hl', ↓reduceIte, varL, e1, e2]
      have h := ih (n / 128) (acc ++ [n % 128 + 128]) (by omega) (by simp only [lim] at h1; omega) (by omega) (by simp; omega)
      rw [List.append_assoc] at h
      exact h
    · simp only [spec_l01Var.l0, hn, hl', ↓reduceIte, varL]
      rw [show n % 256 = n from by omega]
      exact Ev.now _
theorem spec_l01Var_ev {n : Int} (h0 : 0 ≤ n) (h1 : n ≤ 9223372036854775807) : Ev (fun k => spec_l01Var.f k n) (varS n) := by
  have h := spec_l01Var_l0 9 n [] h0 (by have := lim9; omega) h1 (by simp)
  exact h

theorem impl_varText_l0 (d : Nat) : ∀ (n : Int) (acc : List Int), 0 ≤ n → n < lim d → n ≤ 9223372036854775807 → acc.length + d < 1000 →
    Ev (fun k => impl_varText.l0 k n acc) (strOfNums (acc ++ varL d n)) := by
  induction d with
  | zero =>
    intro n acc h0 h1 h2 hl
    refine Ev.shift ?_
    have hn : ¬ n > 127 := by simp only [lim] at h1; omega
    have hl' : acc.length < 140737488355328 := by omega
    simp only [impl_varText.l0, hn, hl', ↓reduceIte, varL]
    rw [show n % 256 = n from by omega]
    exact Ev.now _
  | succ d ih =>
    intro n acc h0 h1 h2 hl
    refine Ev.shift ?_
    have hl' : acc.length < 140737488355328 := by omega
    by_cases hn : n > 127
    · have e2 : (Go.bits .or .i64 (Go.bits .and .i64 n 127) 128) % 256 = n % 128 + 128 := by rw [and127_i64 h0 h2, or128_i64 (by omega) (by omega)]; omega
      simp only [impl_varText.l0, hn, hl', ↓reduceIte, varL, e2]
      have h := ih (n / 128) (acc ++ [n % 128 + 128]) (by omega) (by simp only [lim] at h1; omega) (by omega) (by simp; omega)
      rw [List.append_assoc] at h
      exact h
    · simp only [impl_varText.l0, hn, hl', ↓reduceIte, varL]
      rw [show n % 256 = n from by omega]
      exact Ev.now _
theorem impl_varText_ev {n : Int} (h0 : 0 ≤ n) (h1 : n ≤ 9223372036854775807) : Ev (fun k => impl_varText.f k n) (varS n) := by
  have h := impl_varText_l0 9 n [] h0 (by have := lim9; omega) h1 (by simp)
  exact h

def lowS (n : Int) : ByteArray := varS (if n < 0 then 0 else n)
theorem lowS_size (n : Int) : (lowS n).size ≤ 10 := varS_size _
theorem impl_low_ev {n : Int} (h1 : n ≤ 9223372036854775807) : Ev (fun k => impl_low.f k n) (lowS n) := by
  unfold impl_low.f lowS
  have e : mx 0 n = if n < 0 then 0 else n := by unfold mx; split <;> split <;> omega
  rw [e]
  exact Ev.bind (impl_varText_ev (by split <;> omega) (by split <;> omega)) (Ev.now _)

theorem spec_l08Low_ev {n : Int} (h1 : n ≤ 9223372036854775807) : Ev (fun k => spec_l08Low.f k n) (lowS n) := by
  unfold spec_l08Low.f lowS
  by_cases h : n < 0
  · simp only [h, ↓reduceIte]
    exact Ev.bind (spec_l01Var_ev (by omega) (by omega)) (Ev.now _)
  · simp only [h, ↓reduceIte]
    exact Ev.bind (spec_l01Var_ev (by omega) h1) (Ev.now _)

theorem spec_QcText_ev {a b c d : Int} (ha : a ≤ 9223372036854775807) (hb : b ≤ 9223372036854775807) (hc : c ≤ 9223372036854775807) (hd : d ≤ 9223372036854775807) :
    Ev (fun k => spec_QcText.f k a b c d) (((lowS a ++ lowS b) ++ lowS c) ++ lowS d) := by
  have za := lowS_size a
  have zb := lowS_size b
  have zc := lowS_size c
  have zd := lowS_size d
  have z1 : (lowS a).size + (lowS b).size ≤ 9223372036854775807 := by omega
  have z2 : (lowS a ++ lowS b).size + (lowS c).size ≤ 9223372036854775807 := by rw [ByteArray.size_append]; omega
  have z3 : ((lowS a ++ lowS b) ++ lowS c).size + (lowS d).size ≤ 9223372036854775807 := by rw [ByteArray.size_append, ByteArray.size_append]; omega
  unfold spec_QcText.f
  refine Ev.bind (spec_l08Low_ev ha) (Ev.bind (spec_l08Low_ev hb) ?_)
  simp only [z1, ↓reduceIte]
  refine Ev.bind (spec_l08Low_ev hc) ?_
  simp only [z2, ↓reduceIte]
  refine Ev.bind (spec_l08Low_ev hd) ?_
  simp only [z3, ↓reduceIte]
  exact Ev.now _

theorem impl_QcText_ev {a b c d : Int} (ha : a ≤ 9223372036854775807) (hb : b ≤ 9223372036854775807) (hc : c ≤ 9223372036854775807) (hd : d ≤ 9223372036854775807) :
    Ev (fun k => impl_QcText.f k a b c d) (((lowS a ++ lowS b) ++ lowS c) ++ lowS d) := by
  have za := lowS_size a
  have zb := lowS_size b
  have zc := lowS_size c
  have zd := lowS_size d
  have z1 : (lowS a).size + (lowS b).size ≤ 9223372036854775807 := by omega
  have z2 : (lowS a ++ lowS b).size + (lowS c).size ≤ 9223372036854775807 := by rw [ByteArray.size_append]; omega
  have z3 : ((lowS a ++ lowS b) ++ lowS c).size + (lowS d).size ≤ 9223372036854775807 := by rw [ByteArray.size_append, ByteArray.size_append]; omega
  unfold impl_QcText.f
  refine Ev.bind (impl_low_ev ha) (Ev.bind (impl_low_ev hb) ?_)
  simp only [z1, ↓reduceIte]
  refine Ev.bind (impl_low_ev hc) ?_
  simp only [z2, ↓reduceIte]
  refine Ev.bind (impl_low_ev hd) ?_
  simp only [z3, ↓reduceIte]
  exact Ev.now _

theorem FnExactQcText : laws_FnExactQcText.Pure := by
  intro a b c d ha hb hc hd
  have ha := (i64_of ha).2
  have hb := (i64_of hb).2
  have hc := (i64_of hc).2
  have hd := (i64_of hd).2
  refine Ev.rounds ?_
  unfold laws_FnExactQcText.f laws_toQc.f
  simp only [Option.bind_some]
  refine Ev.bind (spec_QcText_ev ha hb hc hd) (Ev.bind (impl_QcText_ev ha hb hc hd) ?_)
  simp only [↓reduceIte]
  exact Ev.now _

end Go.Proofs.Ytkohgekdpknloaa.Pure

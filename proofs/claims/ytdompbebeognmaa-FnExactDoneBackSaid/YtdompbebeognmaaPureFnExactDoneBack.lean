/- For every input that the statement reads, the law FnExactDoneBack of the given program returns true and leaves its arguments as they were. Conditions: none but the statement's own. -/
import Derived.Test.YtdompbebeognmaaStmFnExactDoneBack
import Derived.Test.YtdompbebeognmaaTbLib
import Derived.Test.YtdompbebeognmaaTbLibList
import Derived.Test.YtdompbebeognmaaTbLibText
set_option linter.unusedVariables false
set_option linter.unusedSimpArgs false
namespace Go.Proofs.Ytdompbebeognmaa.Pure
open Go.RowKit Go.Proofs.Ytdompbebeognmaa.QFnExactDoneBack Go.Proofs.YtdompbebeognmaaW.PrintWords Go.Proofs.YtdompbebeognmaaW.PrintLast Go.Proofs.YtdompbebeognmaaW.PrintMore Go.Proofs.Ytdompbebeognmaa.Lib

def cvCell (x : S91) : S92 := ⟨x.f0, x.f1⟩
theorem rdLCell_nat (l : List S91) (i : Nat) (h : i < l.length) : rd_T91 l (i : Int) = l[i] := getD_nat l _ i h
theorem rdCell_nat (l : List S92) (i : Nat) (h : i < l.length) : rd_T92 l (i : Int) = l[i] := getD_nat l _ i h
theorem laws_szCell_eq (s : ByteArray) (b x : Int) (hs : s.size ≤ 9223372036854775807) (h0 : 0 ≤ x) (h1 : x ≤ 1048576) :
    laws_szCell.f s b x = some (if x - (s.size : Int) < 0 then -1 else x - (s.size : Int)) := by
  unfold laws_szCell.f
  rw [wrap_id (by omega) (by omega)]
  split <;> rfl
def CellsFit (l : List S91) (x : Int) : Prop := (l.length : Int) ≤ x ∧ ∀ c ∈ l, (c.f0.size : Int) ≤ x
theorem laws_szCellS_l0 (l : List S91) (hl : l.length ≤ 1048576) (hk : ∀ c ∈ l, c.f0.size ≤ 9223372036854775807) (d : Nat) : ∀ (i : Nat) (x : Int), i + d = l.length → 0 ≤ x → x ≤ 1048576 →
    ∃ r, Ev (fun k => laws_szCellS.l0 k l x (i : Int)) r ∧ (r = -1 ∨ (0 ≤ r ∧ r ≤ x ∧ ∀ j : Nat, i ≤ j → ∀ h : j < l.length, ((l[j]).f0.size : Int) ≤ x)) := by
  induction d with
  | zero =>
    intro i x hi h0 h1
    refine ⟨x, Ev.shift ?_, .inr ⟨h0, Int.le_refl _, fun j hj h => by omega⟩⟩
    simp only [laws_szCellS.l0, show ¬ (i : Int) < (l.length : Int) from by omega, ↓reduceIte]
    exact Ev.now _
  | succ d ih =>
    intro i x hi h0 h1
    have hil : i < l.length := by omega
    have c1 : (i : Int) < (l.length : Int) := by omega
    have c2 : (0 : Int) ≤ (i : Int) := by omega
    have hup := int_up hil (by omega)
    have hz := laws_szCell_eq l[i].f0 l[i].f1 x (hk _ (List.getElem_mem hil)) h0 h1
    by_cases hneg : x - (l[i].f0.size : Int) < 0
    · refine ⟨-1, Ev.shift ?_, .inl rfl⟩
      rw [if_pos hneg] at hz
      simp only [laws_szCellS.l0, c1, c2, rdLCell_nat l i hil, hz, Option.bind_some, ↓reduceIte, show ((-1 : Int) < 0) = True from eq_true (by decide)]
      exact Ev.now _
    · obtain ⟨r, hr, hq⟩ := ih (i + 1) (x - (l[i].f0.size : Int)) (by omega) (by omega) (by omega)
      refine ⟨r, Ev.shift ?_, ?_⟩
      · rw [if_neg hneg] at hz
        simp only [laws_szCellS.l0, c1, c2, rdLCell_nat l i hil, hz, Option.bind_some, ↓reduceIte, hneg, hup]
        exact hr
      · rcases hq with hq | ⟨q0, q1, q2⟩
        · exact .inl hq
        · refine .inr ⟨q0, by omega, fun j hj h => ?_⟩
          by_cases e : j = i
          · subst e
            omega
          · have := q2 j (by omega) h
            omega
theorem laws_szCellS_ev (l : List S91) (hl : l.length ≤ 9223372036854775807) (hk : ∀ c ∈ l, c.f0.size ≤ 9223372036854775807) (x : Int) (h0 : 0 ≤ x) (h1 : x ≤ 1048576) :
    ∃ r, Ev (fun k => laws_szCellS.f k l x) r ∧ (r = -1 ∨ (0 ≤ r ∧ r ≤ x ∧ CellsFit l x)) := by
  have e : wrap64 (x - (l.length : Int)) = x - (l.length : Int) := wrap_id (by omega) (by omega)
  by_cases hneg : x - (l.length : Int) < 0
  · refine ⟨-1, ?_, .inl rfl⟩
    unfold laws_szCellS.f
    simp only [e, hneg, ↓reduceIte]
    exact Ev.now _
  · obtain ⟨r, hr, hq⟩ := laws_szCellS_l0 l (by omega) hk l.length 0 (x - (l.length : Int)) (by omega) (by omega) (by omega)
    refine ⟨r, ?_, ?_⟩
    · unfold laws_szCellS.f
      simp only [e, hneg, ↓reduceIte]
      exact hr
    · rcases hq with hq | ⟨q0, q1, q2⟩
      · exact .inl hq
      · refine .inr ⟨q0, by omega, by omega, fun c hc => ?_⟩
        obtain ⟨j, hj, rfl⟩ := List.getElem_of_mem hc
        have := q2 j (by omega) hj
        omega
theorem laws_toCellS_l0 (l : List S91) (hl : l.length ≤ 1048576) (d : Nat) : ∀ i : Nat, i + d = l.length →
    Ev (fun k => laws_toCellS.l0 k l ((l.map cvCell).take i ++ List.replicate ((l.map cvCell).length - i) z92) (i : Int)) (l.map cvCell) := by
  have hm : (l.map cvCell).length = l.length := List.length_map ..
  induction d with
  | zero =>
    intro i hi
    obtain rfl : i = (l.map cvCell).length := by omega
    refine Ev.shift ?_
    simp only [laws_toCellS.l0, show ¬ ((l.map cvCell).length : Int) < (l.length : Int) from by omega, ↓reduceIte, fill_all]
    exact Ev.now _
  | succ d ih =>
    intro i hi
    have h := ih (i + 1) (by omega)
    have hil : i < l.length := by omega
    have him : i < (l.map cvCell).length := by omega
    refine Ev.shift ?_
    have c1 : (i : Int) < (l.length : Int) := by omega
    have c2 : (0 : Int) ≤ (i : Int) := by omega
    have c3 : (i : Int) < (((l.map cvCell).take i ++ List.replicate ((l.map cvCell).length - i) z92).length : Int) := by rw [fill_length _ _ i (by omega)]; omega
    have hup := int_up hil (by omega)
    have hset := fill_set (l.map cvCell) z92 i him
    rw [List.getElem_map] at hset
    simp only [laws_toCellS.l0, c1, c2, ↓reduceIte, rdLCell_nat l i hil, laws_toCell.f, Option.bind_some, c3, hup, Int.toNat_natCast]
    rw [show (⟨l[i].f0, l[i].f1⟩ : S92) = cvCell l[i] from rfl, hset]
    exact h
theorem laws_toCellS_ev (l : List S91) (hl : l.length ≤ 1048576) : Ev (fun k => laws_toCellS.f k l) (l.map cvCell) := by
  unfold laws_toCellS.f
  have c1 : (0 : Int) ≤ (l.length : Int) := by omega
  have c2 : l.length ≤ 11728124029610 := by omega
  simp only [c1, Int.toNat_natCast, c2, ↓reduceIte]
  have h := laws_toCellS_l0 l hl l.length 0 (by omega)
  rw [fill_none, List.length_map] at h
  exact h
theorem laws_eqCellS_l0 (l : List S92) (hl : l.length ≤ 9223372036854775807) (d : Nat) : ∀ i : Nat, i + d = l.length → Ev (fun k => laws_eqCellS.l0 k l l (i : Int)) true := by
  induction d with
  | zero =>
    intro i hi
    refine Ev.shift ?_
    simp only [laws_eqCellS.l0, show ¬ (i : Int) < (l.length : Int) from by omega, ↓reduceIte]
    exact Ev.now _
  | succ d ih =>
    intro i hi
    have h := ih (i + 1) (by omega)
    have hil : i < l.length := by omega
    refine Ev.shift ?_
    have c1 : (i : Int) < (l.length : Int) := by omega
    have c2 : (0 : Int) ≤ (i : Int) := by omega
    simp only [laws_eqCellS.l0, c1, c2, ↓reduceIte, laws_eqCell.f, Option.bind_some, int_up hil hl]
    exact h
theorem laws_eqCellS_ev (l : List S92) (hl : l.length ≤ 9223372036854775807) : Ev (fun k => laws_eqCellS.f k l l) true := by
  unfold laws_eqCellS.f
  simp only [↓reduceIte]
  exact laws_eqCellS_l0 l hl l.length 0 (by omega)
theorem cells_cases (l : List S91) (hl : l.length ≤ 9223372036854775807 ∧ ∀ c ∈ l, WF91 c) (x : Int) (h0 : 0 ≤ x) (h1 : x ≤ 1048576) :
    ∃ r, Ev (fun k => laws_szCellS.f k l x) r ∧ (r < 0 ∨ (¬ r < 0 ∧ r ≤ x ∧ 0 ≤ r ∧ l.length ≤ 1048576 ∧ Ev (fun k => laws_toCellS.f k l) (l.map cvCell) ∧
      Ev (fun k => laws_eqCellS.f k (l.map cvCell) (l.map cvCell)) true ∧ (l.map cvCell).length ≤ 1048576 ∧ ∀ c ∈ l.map cvCell, c.f0.size ≤ 1048576)) := by
  obtain ⟨r, hr, hq⟩ := laws_szCellS_ev l hl.1 (fun c hc => (hl.2 c hc).1) x h0 h1
  refine ⟨r, hr, ?_⟩
  rcases hq with rfl | ⟨q0, q1, q2, q3⟩
  · exact .inl (by decide)
  · have h2 : l.length ≤ 1048576 := by omega
    refine .inr ⟨by omega, q1, q0, h2, laws_toCellS_ev l h2, laws_eqCellS_ev _ (by rw [List.length_map]; omega), by rw [List.length_map]; omega, fun c hc => ?_⟩
    obtain ⟨a, ha, rfl⟩ := List.mem_map.1 hc
    show a.f0.size ≤ _
    have := q3 a ha
    omega

def cvCmd (x : S122) : S103 := ⟨x.f0, x.f1, x.f2⟩
theorem rdLCmd_nat (l : List S122) (i : Nat) (h : i < l.length) : rd_T122 l (i : Int) = l[i] := getD_nat l _ i h
theorem rdCmd_nat (l : List S103) (i : Nat) (h : i < l.length) : rd_T103 l (i : Int) = l[i] := getD_nat l _ i h
theorem laws_szCmd_eq (a : Int) (s : ByteArray) (b x : Int) (hs : s.size ≤ 9223372036854775807) (h0 : 0 ≤ x) (h1 : x ≤ 1048576) :
    laws_szCmd.f a s b x = some (if x - (s.size : Int) < 0 then -1 else x - (s.size : Int)) := by
  unfold laws_szCmd.f
  rw [wrap_id (by omega) (by omega)]
  split <;> rfl
/-- What is left when a row of commands is counted. -/
def CmdsFit (l : List S122) (x : Int) : Prop := (l.length : Int) ≤ x ∧ ∀ c ∈ l, (c.f1.size : Int) ≤ x
theorem laws_szCmdS_l0 (l : List S122) (hl : l.length ≤ 1048576) (hk : ∀ c ∈ l, c.f1.size ≤ 9223372036854775807) (d : Nat) : ∀ (i : Nat) (x : Int), i + d = l.length → 0 ≤ x → x ≤ 1048576 →
    ∃ r, Ev (fun k => laws_szCmdS.l0 k l x (i : Int)) r ∧ (r = -1 ∨ (0 ≤ r ∧ r ≤ x ∧ ∀ j : Nat, i ≤ j → ∀ h : j < l.length, ((l[j]).f1.size : Int) ≤ x)) := by
  induction d with
  | zero =>
    intro i x hi h0 h1
    refine ⟨x, Ev.shift ?_, .inr ⟨h0, Int.le_refl _, fun j hj h => by omega⟩⟩
    simp only [laws_szCmdS.l0, show ¬ (i : Int) < (l.length : Int) from by omega, ↓reduceIte]
    exact Ev.now _
  | succ d ih =>
    intro i x hi h0 h1
    have hil : i < l.length := by omega
    have c1 : (i : Int) < (l.length : Int) := by omega
    have c2 : (0 : Int) ≤ (i : Int) := by omega
    have hup := int_up hil (by omega)
    have hz := laws_szCmd_eq l[i].f0 l[i].f1 l[i].f2 x (hk _ (List.getElem_mem hil)) h0 h1
    by_cases hneg : x - (l[i].f1.size : Int) < 0
    · refine ⟨-1, Ev.shift ?_, .inl rfl⟩
      rw [if_pos hneg] at hz
      simp only [laws_szCmdS.l0, c1, c2, rdLCmd_nat l i hil, hz, Option.bind_some, ↓reduceIte, show ((-1 : Int) < 0) = True from eq_true (by decide)]
      exact Ev.now _
    · obtain ⟨r, hr, hq⟩ := ih (i + 1) (x - (l[i].f1.size : Int)) (by omega) (by omega) (by omega)
      refine ⟨r, Ev.shift ?_, ?_⟩
      · rw [if_neg hneg] at hz
        simp only [laws_szCmdS.l0, c1, c2, rdLCmd_nat l i hil, hz, Option.bind_some, ↓reduceIte, hneg, hup]
        exact hr
      · rcases hq with hq | ⟨q0, q1, q2⟩
        · exact .inl hq
        · refine .inr ⟨q0, by omega, fun j hj h => ?_⟩
          by_cases e : j = i
          · subst e
            omega
          · have := q2 j (by omega) h
            omega
theorem laws_szCmdS_ev (l : List S122) (hl : l.length ≤ 9223372036854775807) (hk : ∀ c ∈ l, c.f1.size ≤ 9223372036854775807) (x : Int) (h0 : 0 ≤ x) (h1 : x ≤ 1048576) :
    ∃ r, Ev (fun k => laws_szCmdS.f k l x) r ∧ (r = -1 ∨ (0 ≤ r ∧ r ≤ x ∧ CmdsFit l x)) := by
  have e : wrap64 (x - (l.length : Int)) = x - (l.length : Int) := wrap_id (by omega) (by omega)
  by_cases hneg : x - (l.length : Int) < 0
  · refine ⟨-1, ?_, .inl rfl⟩
    unfold laws_szCmdS.f
    simp only [e, hneg, ↓reduceIte]
    exact Ev.now _
  · obtain ⟨r, hr, hq⟩ := laws_szCmdS_l0 l (by omega) hk l.length 0 (x - (l.length : Int)) (by omega) (by omega) (by omega)
    refine ⟨r, ?_, ?_⟩
    · unfold laws_szCmdS.f
      simp only [e, hneg, ↓reduceIte]
      exact hr
    · rcases hq with hq | ⟨q0, q1, q2⟩
      · exact .inl hq
      · refine .inr ⟨q0, by omega, by omega, fun c hc => ?_⟩
        obtain ⟨j, hj, rfl⟩ := List.getElem_of_mem hc
        have := q2 j (by omega) hj
        omega
theorem laws_toCmdS_l0 (l : List S122) (hl : l.length ≤ 1048576) (d : Nat) : ∀ i : Nat, i + d = l.length →
    Ev (fun k => laws_toCmdS.l0 k l ((l.map cvCmd).take i ++ List.replicate ((l.map cvCmd).length - i) z103) (i : Int)) (l.map cvCmd) := by
  have hm : (l.map cvCmd).length = l.length := List.length_map ..
  induction d with
  | zero =>
    intro i hi
    obtain rfl : i = (l.map cvCmd).length := by omega
    refine Ev.shift ?_
    simp only [laws_toCmdS.l0, show ¬ ((l.map cvCmd).length : Int) < (l.length : Int) from by omega, ↓reduceIte, fill_all]
    exact Ev.now _
  | succ d ih =>
    intro i hi
    have h := ih (i + 1) (by omega)
    have hil : i < l.length := by omega
    have him : i < (l.map cvCmd).length := by omega
    refine Ev.shift ?_
    have c1 : (i : Int) < (l.length : Int) := by omega
    have c2 : (0 : Int) ≤ (i : Int) := by omega
    have c3 : (i : Int) < (((l.map cvCmd).take i ++ List.replicate ((l.map cvCmd).length - i) z103).length : Int) := by rw [fill_length _ _ i (by omega)]; omega
    have hup := int_up hil (by omega)
    have hset := fill_set (l.map cvCmd) z103 i him
    rw [List.getElem_map] at hset
    simp only [laws_toCmdS.l0, c1, c2, ↓reduceIte, rdLCmd_nat l i hil, laws_toCmd.f, Option.bind_some, c3, hup, Int.toNat_natCast]
    rw [show (⟨l[i].f0, l[i].f1, l[i].f2⟩ : S103) = cvCmd l[i] from rfl, hset]
    exact h
theorem laws_toCmdS_ev (l : List S122) (hl : l.length ≤ 1048576) : Ev (fun k => laws_toCmdS.f k l) (l.map cvCmd) := by
  unfold laws_toCmdS.f
  have c1 : (0 : Int) ≤ (l.length : Int) := by omega
  have c2 : l.length ≤ 8796093022208 := by omega
  simp only [c1, Int.toNat_natCast, c2, ↓reduceIte]
  have h := laws_toCmdS_l0 l hl l.length 0 (by omega)
  rw [fill_none, List.length_map] at h
  exact h
theorem laws_eqCmdS_l0 (l : List S103) (hl : l.length ≤ 9223372036854775807) (d : Nat) : ∀ i : Nat, i + d = l.length → Ev (fun k => laws_eqCmdS.l0 k l l (i : Int)) true := by
  induction d with
  | zero =>
    intro i hi
    refine Ev.shift ?_
    simp only [laws_eqCmdS.l0, show ¬ (i : Int) < (l.length : Int) from by omega, ↓reduceIte]
    exact Ev.now _
  | succ d ih =>
    intro i hi
    have h := ih (i + 1) (by omega)
    have hil : i < l.length := by omega
    refine Ev.shift ?_
    have c1 : (i : Int) < (l.length : Int) := by omega
    have c2 : (0 : Int) ≤ (i : Int) := by omega
    simp only [laws_eqCmdS.l0, c1, c2, ↓reduceIte, laws_eqCmd.f, Option.bind_some, int_up hil hl]
    exact h
theorem laws_eqCmdS_ev (l : List S103) (hl : l.length ≤ 9223372036854775807) : Ev (fun k => laws_eqCmdS.f k l l) true := by
  unfold laws_eqCmdS.f
  simp only [↓reduceIte]
  exact laws_eqCmdS_l0 l hl l.length 0 (by omega)

theorem cmds_cases (l : List S122) (hl : l.length ≤ 9223372036854775807 ∧ ∀ c ∈ l, WF122 c) (x : Int) (h0 : 0 ≤ x) (h1 : x ≤ 1048576) :
    ∃ r, Ev (fun k => laws_szCmdS.f k l x) r ∧ (r < 0 ∨ (¬ r < 0 ∧ r ≤ x ∧ 0 ≤ r ∧ l.length ≤ 1048576 ∧ Ev (fun k => laws_toCmdS.f k l) (l.map cvCmd) ∧
      Ev (fun k => laws_eqCmdS.f k (l.map cvCmd) (l.map cvCmd)) true ∧ (l.map cvCmd).length ≤ 1048576 ∧ ∀ c ∈ l.map cvCmd, c.f1.size ≤ 1048576)) := by
  obtain ⟨r, hr, hq⟩ := laws_szCmdS_ev l hl.1 (fun c hc => (hl.2 c hc).2.1) x h0 h1
  refine ⟨r, hr, ?_⟩
  rcases hq with rfl | ⟨q0, q1, q2, q3⟩
  · exact .inl (by decide)
  · have h2 : l.length ≤ 1048576 := by omega
    refine .inr ⟨by omega, q1, q0, h2, laws_toCmdS_ev l h2, laws_eqCmdS_ev _ (by rw [List.length_map]; omega), by rw [List.length_map]; omega, fun c hc => ?_⟩
    obtain ⟨a, ha, rfl⟩ := List.mem_map.1 hc
    show a.f1.size ≤ _
    have := q3 a ha
    omega

theorem laws_eqUndoS_l0 (l : List S32) (hl : l.length ≤ 9223372036854775807) (d : Nat) : ∀ i : Nat, i + d = l.length → Ev (fun k => laws_eqUndoS.l0 k l l (i : Int)) true := by
  induction d with
  | zero =>
    intro i hi
    refine Ev.shift ?_
    simp only [laws_eqUndoS.l0, show ¬ (i : Int) < (l.length : Int) from by omega, ↓reduceIte]
    exact Ev.now _
  | succ d ih =>
    intro i hi
    have h := ih (i + 1) (by omega)
    have hil : i < l.length := by omega
    refine Ev.shift ?_
    have c1 : (i : Int) < (l.length : Int) := by omega
    have c2 : (0 : Int) ≤ (i : Int) := by omega
    simp only [laws_eqUndoS.l0, c1, c2, ↓reduceIte, laws_eqUndo.f, Option.bind_some, int_up hil hl, bne_self_eq_false, Bool.false_eq_true]
    exact h
theorem laws_eqUndoS_ev (l : List S32) (hl : l.length ≤ 9223372036854775807) : Ev (fun k => laws_eqUndoS.f k l l) true := by
  unfold laws_eqUndoS.f
  simp only [↓reduceIte]
  exact laws_eqUndoS_l0 l hl l.length 0 (by omega)

/-- One cell is right: its key, its number. -/
def cellB (c : S92) : Bool := keyB c.f0 && decide (0 ≤ c.f1 ∧ c.f1 ≤ 1000000000)
def keyLt (a b : ByteArray) : Bool := Op.bytesLess a.toList b.toList
/-- Cells from place i on are right, each above the one ahead. -/
def formB (l : List S92) : Nat → Nat → Bool
  | 0, _ => true
  | d + 1, i => cellB (rd_T92 l (i : Int)) && ((i == 0 || keyLt (rd_T92 l ((i - 1 : Nat) : Int)).f0 (rd_T92 l (i : Int)).f0) && formB l d (i + 1))
def cellsB (l : List S92) : Bool := decide ((l.length : Int) ≤ 12) && formB l l.length 0
theorem rdC_nat (l : List S92) (i : Nat) (h : i < l.length) : rd_T92 l (i : Int) = l[i] := getD_nat l _ i h

/-! ### the order of texts -/
theorem less_irrefl : ∀ a : List UInt8, Op.bytesLess a a = false
  | [] => rfl
  | x :: a => by
    have h1 : ¬ x < x := by simp [UInt8.lt_iff_toNat_lt]
    simp [Op.bytesLess, h1, less_irrefl a]
theorem less_trans : ∀ {a b c : List UInt8}, Op.bytesLess a b = true → Op.bytesLess b c = true → Op.bytesLess a c = true
  | _, [], _, h, _ => by cases ‹List UInt8› <;> simp [Op.bytesLess] at h
  | _, _ :: _, [], _, h => by simp [Op.bytesLess] at h
  | [], _ :: _, _ :: _, _, _ => rfl
  | x :: a, y :: b, z :: c, h, h2 => by
    simp only [Op.bytesLess, Bool.or_eq_true, Bool.and_eq_true, decide_eq_true_eq, beq_iff_eq] at h h2 ⊢
    rcases h with h | ⟨rfl, h⟩
    · rcases h2 with h2 | ⟨rfl, h2⟩
      · exact .inl (by rw [UInt8.lt_iff_toNat_lt] at *; omega)
      · exact .inl h
    · rcases h2 with h2 | ⟨rfl, h2⟩
      · exact .inl h2
      · exact .inr ⟨rfl, less_trans h h2⟩
theorem less_tri (a b : List UInt8) (h : Op.bytesLess a b = false) (hne : (a == b) = false) : Op.bytesLess b a = true := by
  have := bless_flip b a
  rw [h, hne] at this
  exact this.symm
theorem less_asymm {a b : List UInt8} (h : Op.bytesLess a b = true) : Op.bytesLess b a = false := by
  cases h2 : Op.bytesLess b a with
  | false => rfl
  | true =>
    have := less_trans h h2
    rw [less_irrefl] at this
    cases this
/-- Each cell's key lies above those ahead of it. -/
def Asc (l : List S92) : Prop := l.Pairwise fun x y => keyLt x.f0 y.f0 = true
theorem formB_get {l : List S92} : ∀ (d i : Nat), i + d = l.length → formB l d i = true → ∀ j, i ≤ j → ∀ h : j < l.length, cellB l[j] = true ∧ (0 < j → keyLt (l[j - 1]'(by omega)).f0 l[j].f0 = true)
  | 0, i, hi, _, j, hj, h => by omega
  | d + 1, i, hi, hf, j, hj, h => by
    simp only [formB, Bool.and_eq_true, Bool.or_eq_true, beq_iff_eq] at hf
    obtain ⟨h1, h2, h3⟩ := hf
    by_cases e : j = i
    · subst e
      rw [rdC_nat l j h] at h1 h2
      refine ⟨h1, fun hp => ?_⟩
      rcases h2 with h2 | h2
      · omega
      · rw [rdC_nat l (j - 1) (by omega)] at h2
        exact h2
    · exact formB_get d (i + 1) (by omega) h3 j (by omega) h
theorem cellsB_asc {l : List S92} (h : cellsB l = true) : Asc l := by
  unfold cellsB at h
  rw [Bool.and_eq_true] at h
  have hg := formB_get l.length 0 (by omega) h.2
  have step : ∀ (n i j : Nat) (he : j = i + 1 + n) (hj : j < l.length), keyLt (l[i]'(by omega)).f0 l[j].f0 = true := by
    intro n
    induction n with
    | zero =>
      rintro i j rfl hj
      exact (hg (i + 1) (by omega) hj).2 (by omega)
    | succ n ih =>
      rintro i j rfl hj
      have h1 := ih i (i + 1 + n) rfl (by omega)
      have h2 := (hg (i + 1 + (n + 1)) (by omega) hj).2 (by omega)
      exact less_trans h1 h2
  refine List.pairwise_iff_getElem.2 fun i j hi hj hij => ?_
  exact step (j - i - 1) i j (by omega) hj
/-- The cell with a key is put in its place. -/
def putC (key : ByteArray) (n : Int) : List S92 → List S92
  | [] => [⟨key, n⟩]
  | x :: xs => if (x.f0.toList == key.toList) = true then ⟨key, n⟩ :: xs else if keyLt x.f0 key = true then x :: putC key n xs else ⟨key, n⟩ :: x :: xs
/-- The reference's way: what lies below, the cell, what lies above. -/
def putS (key : ByteArray) (n : Int) (l : List S92) : List S92 := l.filter (fun x => keyLt x.f0 key) ++ ⟨key, n⟩ :: l.filter (fun x => keyLt key x.f0)
theorem asc_above {x : S92} {xs : List S92} {key : ByteArray} (h : Asc (x :: xs)) (hk : keyLt x.f0 key = false) : ∀ y ∈ xs, keyLt key y.f0 = true := by
  intro y hy
  have h1 : keyLt x.f0 y.f0 = true := (List.pairwise_cons.1 h).1 y hy
  cases e : (x.f0.toList == key.toList) with
  | true =>
    have e2 : x.f0.toList = key.toList := by simpa using e
    unfold keyLt at h1 ⊢
    rw [← e2]
    exact h1
  | false => exact less_trans (less_tri _ _ hk e) h1
theorem putS_eq (key : ByteArray) (n : Int) : ∀ l : List S92, Asc l → putS key n l = putC key n l
  | [], _ => rfl
  | x :: xs, h => by
    have ih := putS_eq key n xs (List.pairwise_cons.1 h).2
    unfold putS at ih ⊢
    simp only [putC, List.filter_cons]
    cases hk : keyLt x.f0 key with
    | true =>
      have h1 : (x.f0.toList == key.toList) = false := by
        cases e : (x.f0.toList == key.toList) with
        | false => rfl
        | true =>
          have e2 : x.f0.toList = key.toList := by simpa using e
          unfold keyLt at hk
          rw [e2, less_irrefl] at hk
          cases hk
      have h2 : keyLt key x.f0 = false := less_asymm hk
      simp only [h1, h2, ↓reduceIte, Bool.false_eq_true]
      rw [← ih]
      rfl
    | false =>
      have ha := asc_above h hk
      have f1 : xs.filter (fun y => keyLt y.f0 key) = [] := List.filter_eq_nil_iff.2 fun y hy => by
        have := less_asymm (ha y hy)
        unfold keyLt
        rw [this]
        decide
      have f2 : xs.filter (fun y => keyLt key y.f0) = xs := List.filter_eq_self.2 ha
      cases e : (x.f0.toList == key.toList) with
      | true =>
        have e2 : x.f0.toList = key.toList := by simpa using e
        have h2 : keyLt key x.f0 = false := by unfold keyLt; rw [e2]; exact less_irrefl _
        simp only [h2, f1, f2, ↓reduceIte, Bool.false_eq_true, List.nil_append]
      | false =>
        have h2 : keyLt key x.f0 = true := less_tri _ _ hk e
        simp only [h2, f1, f2, ↓reduceIte, Bool.false_eq_true, List.nil_append]
theorem idxC_some (p : S92 → Bool) : ∀ (l : List S92) (i j : Nat), idxBy92 p l (i : Int) = ((i + j : Nat) : Int) → (∀ x ∈ l.take j, p x = false) ∧ ∃ h : j < l.length, p l[j] = true
  | [], i, j, h => by simp only [idxBy92] at h; omega
  | y :: ys, i, j, h => by
    simp only [idxBy92] at h
    by_cases hy : p y = true
    · rw [if_pos hy] at h
      obtain rfl : j = 0 := by omega
      exact ⟨fun x hx => by simp at hx, by simp, hy⟩
    · rw [if_neg hy] at h
      cases j with
      | zero =>
        rcases idxBy92_range p ys ((i : Int) + 1) with h2 | h2 <;> omega
      | succ j =>
        obtain ⟨h1, h2, h3⟩ := idxC_some p ys (i + 1) j (by rw [show i + 1 + j = i + (j + 1) from by omega]; exact h)
        refine ⟨fun x hx => ?_, by simpa using h2, by simpa using h3⟩
        rw [List.take_succ_cons] at hx
        rcases List.mem_cons.1 hx with rfl | hx
        · simpa using hy
        · exact h1 x hx
theorem idx_shift (p : S92 → Bool) : ∀ (l : List S92) (i : Int), 0 ≤ i → (idxBy92 p l i = -1 → idxBy92 p l (i + 1) = -1) ∧ (idxBy92 p l i ≠ -1 → idxBy92 p l (i + 1) = idxBy92 p l i + 1)
  | [], i, _ => ⟨fun _ => rfl, fun h => absurd rfl h⟩
  | x :: xs, i, h => by
    by_cases hp : p x = true
    · have e1 : ∀ i, idxBy92 p (x :: xs) i = i := fun i => if_pos hp
      rw [e1, e1]
      exact ⟨fun q => by omega, fun _ => rfl⟩
    · have e1 : ∀ i, idxBy92 p (x :: xs) i = idxBy92 p xs (i + 1) := fun i => if_neg hp
      rw [e1, e1]
      exact idx_shift p xs (i + 1) (by omega)
theorem withC_found {l : List S92} {key : ByteArray} (n : Int) {j : Nat} (h : idxBy92 (fun x => x.f0.toList == key.toList) l 0 = (j : Int)) : withC l key n = l.set j ⟨(rd_T92 l (j : Int)).f0, n⟩ := by
  unfold withC
  rw [h, if_pos (by omega)]
  rfl
theorem withC_not {l : List S92} {key : ByteArray} (n : Int) (h : idxBy92 (fun x => x.f0.toList == key.toList) l 0 = -1) : withC l key n = l.take (posLt key l) ++ ⟨key, n⟩ :: l.drop (posLt key l) := by
  unfold withC
  rw [h, if_neg (by decide)]
theorem withC_eq (key : ByteArray) (n : Int) : ∀ l : List S92, Asc l → withC l key n = putC key n l
  | [], _ => rfl
  | x :: xs, h => by
    have ih := withC_eq key n xs (List.pairwise_cons.1 h).2
    obtain ⟨s1, s2⟩ := idx_shift (fun x => x.f0.toList == key.toList) xs 0 (Int.le_refl _)
    have hr := idxBy92_range (fun x => x.f0.toList == key.toList) xs 0
    rw [Int.zero_add] at s1 s2
    cases e : (x.f0.toList == key.toList) with
    | true =>
      have e2 : x.f0 = key := ba_ext (by simpa using e)
      have e1 : idxBy92 (fun x => x.f0.toList == key.toList) (x :: xs) 0 = ((0 : Nat) : Int) := if_pos e
      have e3 : putC key n (x :: xs) = ⟨key, n⟩ :: xs := if_pos e
      rw [withC_found n e1, e3, ← e2]
      rfl
    | false =>
      have ne : ¬ (x.f0.toList == key.toList) = true := by rw [e]; decide
      have e1 : idxBy92 (fun x => x.f0.toList == key.toList) (x :: xs) 0 = idxBy92 (fun x => x.f0.toList == key.toList) xs 1 := if_neg ne
      have e3 : putC key n (x :: xs) = if keyLt x.f0 key = true then x :: putC key n xs else ⟨key, n⟩ :: x :: xs := if_neg ne
      cases hk : keyLt x.f0 key with
      | true =>
        rw [e3, if_pos hk, ← ih]
        by_cases hm : idxBy92 (fun x => x.f0.toList == key.toList) xs 0 = -1
        · have e4 : posLt key (x :: xs) = posLt key xs + 1 := if_pos hk
          rw [withC_not n hm, withC_not n (e1.trans (s1 hm)), e4]
          rfl
        · have h0 : 0 ≤ idxBy92 (fun x => x.f0.toList == key.toList) xs 0 := by
            rcases hr with hr | hr
            · exact absurd hr hm
            · exact hr.1
          obtain ⟨j, hj⟩ := Int.eq_ofNat_of_zero_le h0
          have e4 : idxBy92 (fun x => x.f0.toList == key.toList) (x :: xs) 0 = ((j + 1 : Nat) : Int) := by
            rw [e1, s2 hm, hj]
            omega
          rw [withC_found n hj, withC_found n e4]
          rfl
      | false =>
        have ha := asc_above h hk
        have hm : idxBy92 (fun x => x.f0.toList == key.toList) xs 0 = -1 := by
          rcases hr with hr | hr
          · exact hr
          · obtain ⟨j, hj⟩ := Int.eq_ofNat_of_zero_le hr.1
            obtain ⟨_, hjl, hh⟩ := idxC_some (fun x => x.f0.toList == key.toList) xs 0 j (by rw [Nat.zero_add]; exact hj)
            have h1 := ha _ (List.getElem_mem hjl)
            have h2 : (xs[j]).f0.toList = key.toList := by simpa using hh
            unfold keyLt at h1
            rw [h2, less_irrefl] at h1
            cases h1
        have hk' : ¬ Op.bytesLess x.f0.toList key.toList = true := by
          have : Op.bytesLess x.f0.toList key.toList = false := hk
          rw [this]
          decide
        have e4 : posLt key (x :: xs) = 0 := if_neg hk'
        rw [e3, if_neg (by rw [hk]; decide), withC_not n (e1.trans (s1 hm)), e4]
        rfl
theorem withC_put {l : List S92} (h : cellsB l = true) (key : ByteArray) (n : Int) : withC l key n = putS key n l := by
  rw [withC_eq key n l (cellsB_asc h), putS_eq key n l (cellsB_asc h)]

/-- What was done to one cell is taken back. -/
def undB (l : List S92) (key : ByteArray) (had : Bool) (n : Int) : List S92 :=
  if cellsB l = true ∧ keyB key = true ∧ (0 ≤ n ∧ n ≤ 1000000000) then (if had = true then putS key n l else l.filter fun x => !(x.f0.toList == key.toList)) else l

def atB (s : ByteArray) (l : List S92) (i : Int) : Int := idxBy92 (fun x => x.f0.toList == s.toList) l i
theorem atB_range (s : ByteArray) : ∀ (l : List S92) (i : Int), 0 ≤ i → atB s l i = -1 ∨ (i ≤ atB s l i ∧ atB s l i < i + l.length)
  | [], i, _ => .inl rfl
  | c :: l, i, h => by
    have ih := atB_range s l (i + 1) (by omega)
    have hlen : ((c :: l).length : Int) = l.length + 1 := by rw [List.length_cons]; omega
    rw [hlen]
    unfold atB at *
    by_cases hc : (c.f0.toList == s.toList) = true
    · simp only [idxBy92, hc, ↓reduceIte]
      exact .inr ⟨by omega, by omega⟩
    · simp only [idxBy92, hc, ↓reduceIte]
      rcases ih with ih | ih
      · exact .inl ih
      · exact .inr ⟨by omega, by omega⟩

theorem spec_l01In_eq (a b c : Int) : spec_l01In.f a b c = some (decide (b ≤ a ∧ a ≤ c)) := by
  unfold spec_l01In.f
  by_cases h : a ≥ b
  · simp [h]
  · have h' : ¬ b ≤ a := by omega
    simp [h, h']

theorem spec_KeyOk_l0 (s : ByteArray) (hs : s.size ≤ 140737488351232) (d : Nat) : ∀ i : Nat, i + d = s.size → (∀ j : Nat, j < i → 97 ≤ bt s j ∧ bt s j ≤ 122) → Ev (fun k => spec_KeyOk.l0 k s (i : Int)) (keyB s) := by
  induction d with
  | zero =>
    intro i hi h
    obtain rfl : i = s.size := by omega
    refine Ev.shift ?_
    simp only [spec_KeyOk.l0, show ¬ (s.size : Int) < s.size from by omega, ↓reduceIte, spec_l01In_eq, Option.bind_some]
    rw [keyB_low h]
    exact Ev.now _
  | succ d ih =>
    intro i hi h
    refine Ev.shift ?_
    have h1 : (i : Int) < s.size := by omega
    have h4 : (0 : Int) ≤ i := by omega
    have h6 : wrap64 ((i : Int) + 1) = ((i + 1 : Nat) : Int) := by rw [wrap_id (by omega) (by omega)]; omega
    by_cases ha : bt s (i : Int) < 97
    · simp only [spec_KeyOk.l0, h1, h4, ha, ↓reduceIte]
      rw [keyB_not (i := i) (by omega) (by omega)]
      exact Ev.now _
    · by_cases hb : bt s (i : Int) > 122
      · simp only [spec_KeyOk.l0, h1, h4, ha, hb, ↓reduceIte]
        rw [keyB_not (i := i) (by omega) (by omega)]
        exact Ev.now _
      · simp only [spec_KeyOk.l0, h1, h4, ha, hb, h6, ↓reduceIte]
        refine ih (i + 1) (by omega) fun j hj => ?_
        by_cases he : j = i
        · subst he
          omega
        · exact h j (by omega)
theorem spec_KeyOk_ev (s : ByteArray) (hs : s.size ≤ 140737488351232) : Ev (fun k => spec_KeyOk.f k s) (keyB s) :=
  spec_KeyOk_l0 s hs s.size 0 (by omega) (fun j hj => by omega)

def cmdB (kind : Int) (key : ByteArray) (num : Int) : Bool := decide (1 ≤ kind ∧ kind ≤ 3) && (keyB key && decide (0 ≤ num ∧ num ≤ 1000000000))
theorem spec_CmdOk_ev (a : Int) {s : ByteArray} (b : Int) (hs : s.size ≤ 140737488351232) : Ev (fun k => spec_CmdOk.f k a s b) (cmdB a s b) := by
  unfold spec_CmdOk.f cmdB
  simp only [spec_l01In_eq, Option.bind_some]
  by_cases h : decide (1 ≤ a ∧ a ≤ 3) = true
  · simp only [h, ↓reduceIte, Bool.true_and]
    refine Ev.bind (spec_KeyOk_ev s hs) ?_
    by_cases hk : keyB s = true
    · simp only [hk, ↓reduceIte, Bool.true_and]
      exact Ev.now _
    · simp only [Bool.not_eq_true] at hk
      simp only [hk, ↓reduceIte, Bool.false_and, Bool.false_eq_true]
      exact Ev.now _
  · simp only [Bool.not_eq_true] at h
    simp only [h, ↓reduceIte, Bool.false_and, Bool.false_eq_true]
    exact Ev.now _

theorem rdUn_nat (l : List S32) (i : Nat) (h : i < l.length) : rd_T32 l (i : Int) = l[i] := getD_nat l _ i h
/-- What was done is taken back, the last one first. -/
def undDown (us : List S32) : Nat → List S92 → List S92
  | 0, l => l
  | i + 1, l => undDown us i (undB l (rd_T32 us (i : Int)).f0 (rd_T32 us (i : Int)).f1 (rd_T32 us (i : Int)).f2)
theorem cellsB_len {l : List S92} (h : cellsB l = true) : l.length ≤ 12 := by
  unfold cellsB at h
  rw [Bool.and_eq_true, decide_eq_true_eq] at h
  omega
theorem undB_len {l : List S92} {N : Nat} (hN : 25 ≤ N) (h : l.length ≤ N) (key : ByteArray) (had : Bool) (n : Int) : (undB l key had n).length ≤ N := by
  unfold undB putS
  have h1 := List.length_filter_le (fun x : S92 => keyLt x.f0 key) l
  have h2 := List.length_filter_le (fun x : S92 => keyLt key x.f0) l
  have h3 := List.length_filter_le (fun x : S92 => !(x.f0.toList == key.toList)) l
  split
  · rename_i hc
    have h4 := cellsB_len hc.1
    split
    · rw [List.length_append, List.length_cons]
      omega
    · omega
  · exact h
theorem undB_keys {l : List S92} {N : Nat} (h : ∀ c ∈ l, c.f0.size ≤ N) {key : ByteArray} (hk : key.size ≤ N) (had : Bool) (n : Int) : ∀ c ∈ undB l key had n, c.f0.size ≤ N := by
  intro c hc
  unfold undB putS at hc
  split at hc
  · split at hc
    · rcases List.mem_append.1 hc with hc | hc
      · exact h c (List.mem_filter.1 hc).1
      · rcases List.mem_cons.1 hc with rfl | hc
        · exact hk
        · exact h c (List.mem_filter.1 hc).1
    · exact h c (List.mem_filter.1 hc).1
  · exact h c hc
theorem undDown_good (us : List S32) {N M : Nat} (hN : 25 ≤ N) (hu : ∀ u ∈ us, u.f0.size ≤ M) : ∀ (i : Nat) (l : List S92), i ≤ us.length → l.length ≤ N → (∀ c ∈ l, c.f0.size ≤ M) → (undDown us i l).length ≤ N ∧ ∀ c ∈ undDown us i l, c.f0.size ≤ M
  | 0, l, _, h1, h2 => ⟨h1, h2⟩
  | i + 1, l, hi, h1, h2 => by
    have hk := hu _ (List.getElem_mem (show i < us.length from hi))
    rw [← rdUn_nat us i hi] at hk
    exact undDown_good us hN hu i _ (by omega) (undB_len hN h1 _ _ _) (undB_keys h2 hk _ _)

theorem formB_of {l : List S92} (hc : ∀ c ∈ l, cellB c = true) (ha : Asc l) : ∀ (d i : Nat), i + d = l.length → formB l d i = true
  | 0, _, _ => rfl
  | d + 1, i, hi => by
    have hil : i < l.length := by omega
    simp only [formB, Bool.and_eq_true, Bool.or_eq_true, beq_iff_eq]
    refine ⟨?_, ?_, formB_of hc ha d (i + 1) (by omega)⟩
    · rw [rdC_nat l i hil]
      exact hc _ (List.getElem_mem hil)
    · by_cases h0 : i = 0
      · exact .inl h0
      · refine .inr ?_
        rw [rdC_nat l i hil, rdC_nat l (i - 1) (by omega)]
        exact List.pairwise_iff_getElem.1 ha (i - 1) i (by omega) hil (by omega)
theorem cellsB_iff {l : List S92} : cellsB l = true ↔ l.length ≤ 12 ∧ (∀ c ∈ l, cellB c = true) ∧ Asc l := by
  constructor
  · intro h
    refine ⟨cellsB_len h, fun c hc => ?_, cellsB_asc h⟩
    obtain ⟨j, hj, rfl⟩ := List.getElem_of_mem hc
    unfold cellsB at h
    rw [Bool.and_eq_true] at h
    exact (formB_get l.length 0 (by omega) h.2 j (Nat.zero_le _) hj).1
  · rintro ⟨h1, h2, h3⟩
    unfold cellsB
    rw [Bool.and_eq_true, decide_eq_true_eq]
    exact ⟨by omega, formB_of h2 h3 l.length 0 (by omega)⟩
theorem asc_put {l : List S92} (h : Asc l) (key : ByteArray) (n : Int) : Asc (putS key n l) := by
  refine List.pairwise_append.2 ⟨h.sublist List.filter_sublist, List.pairwise_cons.2 ⟨fun y hy => (List.mem_filter.1 hy).2, h.sublist List.filter_sublist⟩, fun x hx y hy => ?_⟩
  have h1 : keyLt x.f0 key = true := (List.mem_filter.1 hx).2
  rcases List.mem_cons.1 hy with rfl | hy
  · exact h1
  · exact less_trans h1 (List.mem_filter.1 hy).2
theorem mem_put {l : List S92} {key : ByteArray} {n : Int} {c : S92} (h : c ∈ putS key n l) : c = ⟨key, n⟩ ∨ c ∈ l := by
  rcases List.mem_append.1 h with h | h
  · exact .inr (List.mem_filter.1 h).1
  · rcases List.mem_cons.1 h with h | h
    · exact .inl h
    · exact .inr (List.mem_filter.1 h).1
theorem put_mem (l : List S92) (key : ByteArray) (n : Int) : (⟨key, n⟩ : S92) ∈ putS key n l := List.mem_append.2 (.inr (List.mem_cons_self ..))
theorem put_len {l : List S92} (h : cellsB l = true) (key : ByteArray) (n : Int) : (putS key n l).length = if atB key l 0 < 0 then l.length + 1 else l.length := by
  rw [← withC_put h]
  rcases atB_range key l 0 (Int.le_refl _) with ha | ⟨h0, h1⟩
  · rw [withC_not n ha, if_pos (by omega), List.length_append, List.length_cons, List.length_take, List.length_drop]
    have := posLt_le key l
    omega
  · obtain ⟨j, hj⟩ := Int.eq_ofNat_of_zero_le h0
    rw [withC_found n hj, List.length_set, if_neg (by omega)]
theorem cellsB_put {l : List S92} (h : cellsB l = true) {key : ByteArray} (hk : keyB key = true) (m : Int) : cellsB (putS key m l) = decide ((0 ≤ m ∧ m ≤ 1000000000) ∧ ¬ (atB key l 0 < 0 ∧ (l.length : Int) ≥ 12)) := by
  obtain ⟨h1, h2, h3⟩ := cellsB_iff.1 h
  rw [Bool.eq_iff_iff, cellsB_iff, decide_eq_true_eq, put_len h key m]
  constructor
  · rintro ⟨q1, q2, _⟩
    refine ⟨?_, fun ⟨a, b⟩ => ?_⟩
    · have := q2 _ (put_mem l key m)
      unfold cellB at this
      rw [Bool.and_eq_true, decide_eq_true_eq] at this
      exact this.2
    · rw [if_pos a] at q1
      omega
  · rintro ⟨q1, q2⟩
    refine ⟨?_, fun c hc => ?_, asc_put h3 key m⟩
    · split
      · omega
      · exact h1
    · rcases mem_put hc with rfl | hc
      · unfold cellB
        rw [Bool.and_eq_true, decide_eq_true_eq]
        exact ⟨hk, q1⟩
      · exact h2 c hc
def finB (l : List S92) (key : ByteArray) (m : Int) : List S92 × Int :=
  if (0 ≤ m ∧ m ≤ 1000000000) ∧ ¬ (atB key l 0 < 0 ∧ (l.length : Int) ≥ 12) then (putS key m l, 0) else (l, 2)
/-- A command is done, or not. -/
def doneB (l : List S92) (kind : Int) (key : ByteArray) (n : Int) : List S92 × Int :=
  if cellsB l = true ∧ cmdB kind key n = true then
    (if kind = 1 then finB l key n else if atB key l 0 < 0 then (l, 1) else if kind = 3 then finB l key ((rd_T92 l (atB key l 0)).f1 - n) else finB l key ((rd_T92 l (atB key l 0)).f1 + n))
  else (l, 2)
theorem cmdB_num {kind : Int} {key : ByteArray} {n : Int} (h : cmdB kind key n = true) : keyB key = true ∧ 0 ≤ n ∧ n ≤ 1000000000 := by
  unfold cmdB at h
  rw [Bool.and_eq_true, Bool.and_eq_true, decide_eq_true_eq, decide_eq_true_eq] at h
  exact ⟨h.2.1, h.2.2⟩
theorem at_num {l : List S92} (h : cellsB l = true) {key : ByteArray} (ha : ¬ atB key l 0 < 0) : 0 ≤ atB key l 0 ∧ atB key l 0 < (l.length : Int) ∧ 0 ≤ (rd_T92 l (atB key l 0)).f1 ∧ (rd_T92 l (atB key l 0)).f1 ≤ 1000000000 := by
  rcases atB_range key l 0 (Int.le_refl _) with h2 | ⟨h0, h1⟩
  · omega
  · obtain ⟨j, hj⟩ := Int.eq_ofNat_of_zero_le h0
    have hjl : j < l.length := by omega
    have := (cellsB_iff.1 h).2.1 _ (List.getElem_mem hjl)
    unfold cellB at this
    rw [Bool.and_eq_true, decide_eq_true_eq] at this
    rw [hj, rdC_nat l j hjl]
    exact ⟨by omega, by omega, this.2.1, this.2.2⟩
theorem finB_len {l : List S92} {N : Nat} (hN : 25 ≤ N) (hc : cellsB l = true) (key : ByteArray) (m : Int) : (finB l key m).1.length ≤ N := by
  unfold finB
  have h4 := cellsB_len hc
  split
  · show (putS key m l).length ≤ N
    rw [put_len hc]
    split <;> omega
  · show l.length ≤ N
    omega
theorem finB_keys {l : List S92} {N : Nat} (h : ∀ c ∈ l, c.f0.size ≤ N) {key : ByteArray} (hk : key.size ≤ N) (m : Int) : ∀ c ∈ (finB l key m).1, c.f0.size ≤ N := by
  intro c hc
  unfold finB at hc
  split at hc
  · rcases mem_put hc with rfl | hc
    · exact hk
    · exact h c hc
  · exact h c hc
theorem doneB_len {l : List S92} {N : Nat} (hN : 25 ≤ N) (h : l.length ≤ N) (kind : Int) (key : ByteArray) (n : Int) : (doneB l kind key n).1.length ≤ N := by
  unfold doneB
  split
  · rename_i hc
    split
    · exact finB_len hN hc.1 _ _
    · split
      · exact h
      · split <;> exact finB_len hN hc.1 _ _
  · exact h
theorem doneB_keys {l : List S92} {N : Nat} (h : ∀ c ∈ l, c.f0.size ≤ N) (kind : Int) {key : ByteArray} (hk : key.size ≤ N) (n : Int) : ∀ c ∈ (doneB l kind key n).1, c.f0.size ≤ N := by
  unfold doneB
  split
  · split
    · exact finB_keys h hk _
    · split
      · exact h
      · split <;> exact finB_keys h hk _
  · exact h

theorem spec_CellAt_l0 (l : List S92) (hl : l.length ≤ 9223372036854775807) (s : ByteArray) (d : Nat) : ∀ i : Nat, i + d = l.length → Ev (fun k => spec_CellAt.l0 k l s (i : Int)) (atB s (l.drop i) (i : Int)) := by
  induction d with
  | zero =>
    intro i hi
    refine Ev.shift ?_
    rw [List.drop_of_length_le (by omega)]
    simp only [spec_CellAt.l0, show ¬ (i : Int) < (l.length : Int) from by omega, ↓reduceIte, atB, idxBy92]
    exact Ev.now _
  | succ d ih =>
    intro i hi
    have hr := ih (i + 1) (by omega)
    have hil : i < l.length := by omega
    have c1 : (i : Int) < (l.length : Int) := by omega
    have c2 : (0 : Int) ≤ (i : Int) := by omega
    refine Ev.shift ?_
    rw [List.drop_eq_getElem_cons hil]
    by_cases hu : (l[i]).f0.toList = s.toList
    · simp only [spec_CellAt.l0, c1, c2, rdCell_nat l i hil, hu, ↓reduceIte, atB, idxBy92, beq_self_eq_true]
      exact Ev.now _
    · have hb : ((l[i]).f0.toList == s.toList) = false := beq_eq_false_iff_ne.2 hu
      simp only [spec_CellAt.l0, c1, c2, rdCell_nat l i hil, hu, ↓reduceIte, atB, idxBy92, hb, int_up hil hl, Bool.false_eq_true]
      exact hr
theorem spec_CellAt_ev (l : List S92) (hl : l.length ≤ 9223372036854775807) (s : ByteArray) : Ev (fun k => spec_CellAt.f k l s) (atB s l 0) := by
  have h := spec_CellAt_l0 l hl s l.length 0 (by omega)
  rw [List.drop_zero] at h
  exact h

def undoB (l : List S92) (s : ByteArray) : ByteArray × Bool × Int := if atB s l 0 < 0 then (s, false, 0) else (s, true, (rd_T92 l (atB s l 0)).f1)
theorem undo_body (l : List S92) (s : ByteArray) : (if atB s l 0 < 0 then (some (s, false, 0)) else (if 0 ≤ atB s l 0 then (if atB s l 0 < (l.length : Int) then (some (s, true, (rd_T92 l (atB s l 0)).f1)) else (none)) else (none))) = some (undoB l s) := by
  unfold undoB
  rcases atB_range s l 0 (by omega) with h | ⟨h1, h2⟩
  · rw [if_pos (by omega), if_pos (by omega)]
  · rw [if_neg (by omega), if_pos (by omega), if_pos (by omega), if_neg (by omega)]
theorem spec_UndoOf_ev (l : List S92) (hl : l.length ≤ 9223372036854775807) (s : ByteArray) : Ev (fun k => spec_UndoOf.f k l s) (undoB l s) := by
  unfold spec_UndoOf.f
  refine Ev.bind (spec_CellAt_ev l hl s) ?_
  rw [undo_body]
  exact Ev.now _

theorem rdCm_nat (l : List S103) (i : Nat) (h : i < l.length) : rd_T103 l (i : Int) = l[i] := getD_nat l _ i h

/-- Commands from place i on, and what takes them back. -/
def backD (cs : List S103) : Nat → Nat → List S92 → List S32 → List S92 × List S32
  | 0, _, l, us => (l, us)
  | d + 1, i, l, us => backD cs d (i + 1) (doneB l (rd_T103 cs (i : Int)).f0 (rd_T103 cs (i : Int)).f1 (rd_T103 cs (i : Int)).f2).1 (us ++ [⟨(undoB l (rd_T103 cs (i : Int)).f1).1, (undoB l (rd_T103 cs (i : Int)).f1).2.1, (undoB l (rd_T103 cs (i : Int)).f1).2.2⟩])
theorem undoB_key (l : List S92) (s : ByteArray) : (undoB l s).1 = s := by
  unfold undoB
  split <;> rfl
theorem backD_good (cs : List S103) {N M : Nat} (hN : 25 ≤ N) (hu : ∀ c ∈ cs, c.f1.size ≤ M) : ∀ (d i : Nat) (l : List S92) (us : List S32), i + d = cs.length → l.length ≤ N → (∀ c ∈ l, c.f0.size ≤ M) → (∀ u ∈ us, u.f0.size ≤ M) →
    (backD cs d i l us).1.length ≤ N ∧ (∀ c ∈ (backD cs d i l us).1, c.f0.size ≤ M) ∧ (backD cs d i l us).2.length = us.length + d ∧ ∀ u ∈ (backD cs d i l us).2, u.f0.size ≤ M
  | 0, i, l, us, _, h1, h2, h3 => ⟨h1, h2, rfl, h3⟩
  | d + 1, i, l, us, hi, h1, h2, h3 => by
    have hil : i < cs.length := by omega
    have hk := hu _ (List.getElem_mem hil)
    rw [← rdCm_nat cs i hil] at hk
    obtain ⟨q1, q2, q3, q4⟩ := backD_good cs hN hu d (i + 1) (doneB l (rd_T103 cs (i : Int)).f0 (rd_T103 cs (i : Int)).f1 (rd_T103 cs (i : Int)).f2).1 (us ++ [⟨(undoB l (rd_T103 cs (i : Int)).f1).1, (undoB l (rd_T103 cs (i : Int)).f1).2.1, (undoB l (rd_T103 cs (i : Int)).f1).2.2⟩]) (by omega) (doneB_len hN h1 _ _ _) (doneB_keys h2 _ hk _) (fun u hu2 => by
      rcases List.mem_append.1 hu2 with hu2 | hu2
      · exact h3 u hu2
      · rw [List.mem_singleton.1 hu2]
        show (undoB l _).1.size ≤ M
        rw [undoB_key]
        exact hk)
    refine ⟨q1, q2, ?_, q4⟩
    show (backD cs d (i + 1) _ _).2.length = _
    rw [q3, List.length_append, List.length_singleton]
    omega

theorem spec_CellsOk_l0 (l : List S92) (hl : l.length ≤ 9223372036854775807) (hk : ∀ c ∈ l, c.f0.size ≤ 140737488351232) (d : Nat) : ∀ i : Nat, i + d = l.length →
    Ev (fun k => spec_CellsOk.l0 k l (i : Int)) (formB l d i && decide ((l.length : Int) ≤ 12)) := by
  induction d with
  | zero =>
    intro i hi
    refine Ev.shift ?_
    simp only [spec_CellsOk.l0, show ¬ (i : Int) < (l.length : Int) from by omega, ↓reduceIte, formB, Bool.true_and]
    exact Ev.now _
  | succ d ih =>
    intro i hi
    have hr := ih (i + 1) (by omega)
    have hil : i < l.length := by omega
    have c1 : (i : Int) < (l.length : Int) := by omega
    have c2 : (0 : Int) ≤ (i : Int) := by omega
    have hup := int_up hil hl
    have hs : (rd_T92 l (i : Int)).f0.size ≤ 140737488351232 := by rw [rdC_nat l i hil]; exact hk _ (List.getElem_mem hil)
    refine Ev.shift ?_
    simp only [spec_CellsOk.l0, c1, c2, ↓reduceIte, formB, cellB]
    refine Ev.bind (spec_KeyOk_ev _ hs) ?_
    by_cases k1 : keyB (rd_T92 l (i : Int)).f0 = true
    · by_cases k2 : 0 ≤ (rd_T92 l (i : Int)).f1 ∧ (rd_T92 l (i : Int)).f1 ≤ 1000000000
      · simp only [k1, spec_l01In_eq, decide_eq_true k2, Option.bind_some, ↓reduceIte, Bool.true_and]
        by_cases k3 : i = 0
        · subst k3
          simp only [show ¬ ((0 : Nat) : Int) > 0 from by decide, ↓reduceIte, beq_self_eq_true, Bool.true_or, Bool.true_and]
          rw [hup]
          exact hr
        · have c3 : (i : Int) > 0 := by clear hup; omega
          have m1 : -9223372036854775808 ≤ (i : Int) - 1 := by clear hup; omega
          have m2 : (i : Int) - 1 ≤ 9223372036854775807 := by clear hup; omega
          have m3 : (i : Int) - 1 = ((i - 1 : Nat) : Int) := by clear hup; omega
          have c4 : (0 : Int) ≤ ((i - 1 : Nat) : Int) := by clear hup; omega
          have c5 : ((i - 1 : Nat) : Int) < (l.length : Int) := by clear hup; omega
          have e1 : wrap64 ((i : Int) - 1) = ((i - 1 : Nat) : Int) := (wrap_id m1 m2).trans m3
          have e2 : (i == 0) = false := by simpa using k3
          simp only [c3, e1, c4, c5, ↓reduceIte, e2, Bool.false_or, keyLt]
          by_cases k4 : Op.bytesLess (rd_T92 l ((i - 1 : Nat) : Int)).f0.toList (rd_T92 l (i : Int)).f0.toList = true
          · simp only [k4, ↓reduceIte, Bool.true_and, hup]
            exact hr
          · simp only [Bool.not_eq_true] at k4
            simp only [k4, ↓reduceIte, Bool.false_and, Bool.false_eq_true]
            exact Ev.now _
      · simp only [k1, spec_l01In_eq, decide_eq_false k2, Option.bind_some, ↓reduceIte, Bool.true_and, Bool.false_and, Bool.false_eq_true]
        exact Ev.now _
    · simp only [Bool.not_eq_true] at k1
      simp only [k1, ↓reduceIte, Bool.false_and, Bool.false_eq_true]
      exact Ev.now _
theorem spec_CellsOk_ev (l : List S92) (hl : l.length ≤ 9223372036854775807) (hk : ∀ c ∈ l, c.f0.size ≤ 140737488351232) : Ev (fun k => spec_CellsOk.f k l) (cellsB l) := by
  have h := spec_CellsOk_l0 l hl hk l.length 0 (by omega)
  rw [Bool.and_comm] at h
  exact h

theorem spec_l03Put_l1 (l : List S92) (hl : l.length ≤ 4294967296) (key : ByteArray) (n : Int) (d : Nat) : ∀ (i : Nat) (acc : List S92), i + d = l.length → acc.length ≤ 4294967300 + i →
    Ev (fun k => spec_l03Put.l1 k l acc (i : Int) key n) (acc ++ (l.drop i).filter (fun x => keyLt key x.f0)) := by
  induction d with
  | zero =>
    intro i acc hi ha
    refine Ev.shift ?_
    simp only [spec_l03Put.l1, show ¬ (i : Int) < (l.length : Int) from by omega, ↓reduceIte]
    rw [List.drop_eq_nil_of_le (by omega)]
    simp only [List.filter_nil, List.append_nil]
    exact Ev.now _
  | succ d ih =>
    intro i acc hi ha
    have hil : i < l.length := by omega
    have c1 : (i : Int) < (l.length : Int) := by omega
    have c2 : (0 : Int) ≤ (i : Int) := by omega
    have c3 : acc.length < 5864062014805 := by omega
    have hup := int_up hil (by omega)
    rw [List.drop_eq_getElem_cons hil, List.filter_cons]
    refine Ev.shift ?_
    simp only [spec_l03Put.l1, c1, c2, c3, hup, ↓reduceIte, rdC_nat l i hil]
    by_cases h : Op.bytesLess key.toList (l[i]).f0.toList = true
    · have h' : keyLt key (l[i]).f0 = true := h
      simp only [h, h', ↓reduceIte]
      have := ih (i + 1) (acc ++ [l[i]]) (by omega) (by rw [List.length_append, List.length_singleton]; omega)
      rw [List.append_assoc] at this
      exact this
    · have h' : ¬ keyLt key (l[i]).f0 = true := h
      simp only [h, h', ↓reduceIte]
      exact ih (i + 1) acc (by omega) (by omega)
theorem spec_l03Put_l0 (l : List S92) (hl : l.length ≤ 4294967296) (key : ByteArray) (n : Int) (d : Nat) : ∀ (i : Nat) (acc : List S92), i + d = l.length → acc.length ≤ i →
    Ev (fun k => spec_l03Put.l0 k l acc (i : Int) key n) (acc ++ (l.drop i).filter (fun x => keyLt x.f0 key) ++ ⟨key, n⟩ :: l.filter (fun x => keyLt key x.f0)) := by
  induction d with
  | zero =>
    intro i acc hi ha
    refine Ev.shift ?_
    have c3 : acc.length < 5864062014805 := by omega
    simp only [spec_l03Put.l0, show ¬ (i : Int) < (l.length : Int) from by omega, c3, ↓reduceIte]
    rw [List.drop_eq_nil_of_le (by omega)]
    simp only [List.filter_nil, List.append_nil]
    have := spec_l03Put_l1 l hl key n l.length 0 (acc ++ [⟨key, n⟩]) (by omega) (by rw [List.length_append, List.length_singleton]; omega)
    rw [List.append_assoc, List.drop_zero] at this
    exact this
  | succ d ih =>
    intro i acc hi ha
    have hil : i < l.length := by omega
    have c1 : (i : Int) < (l.length : Int) := by omega
    have c2 : (0 : Int) ≤ (i : Int) := by omega
    have c3 : acc.length < 5864062014805 := by omega
    have hup := int_up hil (by omega)
    rw [List.drop_eq_getElem_cons hil, List.filter_cons]
    refine Ev.shift ?_
    simp only [spec_l03Put.l0, c1, c2, c3, hup, ↓reduceIte, rdC_nat l i hil]
    by_cases h : Op.bytesLess (l[i]).f0.toList key.toList = true
    · have h' : keyLt (l[i]).f0 key = true := h
      simp only [h, h', ↓reduceIte]
      have := ih (i + 1) (acc ++ [l[i]]) (by omega) (by rw [List.length_append, List.length_singleton]; omega)
      rw [List.append_assoc acc] at this
      exact this
    · have h' : ¬ keyLt (l[i]).f0 key = true := h
      simp only [h, h', ↓reduceIte]
      exact ih (i + 1) acc (by omega) (by omega)
theorem spec_l03Put_ev (l : List S92) (hl : l.length ≤ 4294967296) (key : ByteArray) (n : Int) : Ev (fun k => spec_l03Put.f k l key n) (putS key n l) :=
  spec_l03Put_l0 l hl key n l.length 0 [] (by omega) (Nat.le_refl _)

theorem spec_Done_j1 (l : List S92) (hl : l.length ≤ 4294967296) {key : ByteArray} (m : Int) (a : Int) (b : ByteArray) (c : Int) (ha : b = key) :
    Ev (fun k => spec_Done.j1 k l l (atB key l 0) m a b c) (finB l key m) := by
  subst ha
  refine Ev.shift ?_
  simp only [spec_Done.j1, spec_l01In_eq, Option.bind_some]
  unfold finB
  by_cases h : 0 ≤ m ∧ m ≤ 1000000000
  · by_cases g : atB b l 0 < 0
    · by_cases q : (l.length : Int) ≥ 12
      · rw [if_neg (fun x => x.2 ⟨g, q⟩)]
        simp only [h, g, q, and_self, decide_true, ↓reduceIte]
        exact Ev.now _
      · rw [if_pos ⟨h, fun x => q x.2⟩]
        simp only [h, g, q, and_self, decide_true, ↓reduceIte]
        exact Ev.bind (spec_l03Put_ev l hl b m) (Ev.now _)
    · rw [if_pos ⟨h, fun x => g x.1⟩]
      simp only [h, g, and_self, decide_true, ↓reduceIte]
      exact Ev.bind (spec_l03Put_ev l hl b m) (Ev.now _)
  · rw [if_neg (fun x => h x.1)]
    simp only [h, decide_false, Bool.false_eq_true, ↓reduceIte]
    exact Ev.now _
theorem spec_Done_ev (l : List S92) (hl : l.length ≤ 4294967296) (hk : ∀ c ∈ l, c.f0.size ≤ 140737488351232) (kind : Int) {key : ByteArray} (hs : key.size ≤ 140737488351232) (n : Int) :
    Ev (fun k => spec_Done.f k l kind key n) (doneB l kind key n) := by
  have bad : Ev (fun k => spec_Done.j0 k l l true kind key n) (l, 2) := by
    refine Ev.shift ?_
    simp only [spec_Done.j0, ↓reduceIte]
    exact Ev.now _
  unfold spec_Done.f doneB
  simp only [Option.bind_some, List.nil_append, List.length_nil, Nat.zero_add, show l.length < 5864062014805 from by omega, ↓reduceIte]
  refine Ev.bind (spec_CellsOk_ev l (by omega) hk) ?_
  cases h1 : cellsB l with
  | false =>
    simp only [Bool.false_eq_true, ↓reduceIte, false_and]
    exact bad
  | true =>
    simp only [↓reduceIte, true_and]
    refine Ev.bind (spec_CmdOk_ev kind n hs) ?_
    cases h2 : cmdB kind key n with
    | false =>
      simp only [Bool.false_eq_true, ↓reduceIte, Bool.not_false]
      exact bad
    | true =>
      obtain ⟨q1, q2, q3⟩ := cmdB_num h2
      simp only [↓reduceIte, Bool.not_true]
      refine Ev.shift ?_
      simp only [spec_Done.j0, Bool.false_eq_true, ↓reduceIte]
      refine Ev.bind (spec_CellAt_ev l (by omega) key) ?_
      by_cases k1 : kind = 1
      · simp only [k1, ↓reduceIte]
        exact spec_Done_j1 l hl _ _ _ _ rfl
      · simp only [k1, ↓reduceIte]
        by_cases ha : atB key l 0 < 0
        · simp only [ha, ↓reduceIte]
          exact Ev.now _
        · obtain ⟨a1, a2, a3, a4⟩ := at_num h1 ha
          have e2 : wrap64 ((rd_T92 l (atB key l 0)).f1 - n) = (rd_T92 l (atB key l 0)).f1 - n := wrap_id (by omega) (by omega)
          have e3 : wrap64 ((rd_T92 l (atB key l 0)).f1 + n) = (rd_T92 l (atB key l 0)).f1 + n := wrap_id (by omega) (by omega)
          simp only [ha, a1, a2, e2, e3, ↓reduceIte]
          by_cases k3 : kind = 3
          · simp only [k3, ↓reduceIte]
            exact spec_Done_j1 l hl _ _ _ _ rfl
          · simp only [k3, ↓reduceIte]
            exact spec_Done_j1 l hl _ _ _ _ rfl

theorem spec_DoneBack_l0 (cs : List S103) (hl : cs.length ≤ 4294967296) (hu : ∀ c ∈ cs, c.f1.size ≤ 140737488351232) (d : Nat) : ∀ (i : Nat) (l : List S92) (us : List S32), i + d = cs.length → us.length = i → l.length ≤ 4294967296 → (∀ c ∈ l, c.f0.size ≤ 140737488351232) →
    Ev (fun k => spec_DoneBack.l0 k cs l us (i : Int)) (backD cs d i l us) := by
  induction d with
  | zero =>
    intro i l us hi _ _ _
    refine Ev.shift ?_
    simp only [spec_DoneBack.l0, show ¬ (i : Int) < (cs.length : Int) from by omega, ↓reduceIte]
    exact Ev.now _
  | succ d ih =>
    intro i l us hi hz h1 h2
    have hil : i < cs.length := by omega
    have hk := hu _ (List.getElem_mem hil)
    rw [← rdCm_nat cs i hil] at hk
    have c1 : (i : Int) < (cs.length : Int) := by omega
    have c2 : (0 : Int) ≤ (i : Int) := by omega
    have c3 : us.length < 4398046511104 := by omega
    have hup := int_up hil (by omega)
    refine Ev.shift ?_
    simp only [spec_DoneBack.l0, c1, c2, c3, hup, ↓reduceIte]
    refine Ev.bind (spec_UndoOf_ev l (by omega) _) (Ev.bind (spec_Done_ev l h1 h2 _ hk _) ?_)
    exact ih (i + 1) _ _ (by omega) (by rw [List.length_append, List.length_singleton]; omega) (doneB_len (by decide) h1 _ _ _) (doneB_keys h2 _ hk _)
theorem spec_DoneBack_ev (cs : List S103) (hl : cs.length ≤ 4294967296) (hu : ∀ c ∈ cs, c.f1.size ≤ 140737488351232) (l : List S92) (h1 : l.length ≤ 4294967296) (h2 : ∀ c ∈ l, c.f0.size ≤ 140737488351232) :
    Ev (fun k => spec_DoneBack.f k l cs) (backD cs cs.length 0 l []) := by
  unfold spec_DoneBack.f
  simp only [Option.bind_some, List.nil_append, List.length_nil, Nat.zero_add, show l.length < 5864062014805 from by omega, ↓reduceIte]
  exact spec_DoneBack_l0 cs hl hu cs.length 0 l [] (by omega) rfl h1 h2

theorem impl_in_eq (a b c : Int) : impl_in.f a b c = some (decide (b ≤ a ∧ a ≤ c)) := by
  unfold impl_in.f
  by_cases h : a ≥ b
  · simp [h]
  · have h' : ¬ b ≤ a := by omega
    simp [h, h']

theorem impl_KeyOk_l0 (s : ByteArray) (hs : s.size ≤ 140737488351232) (d : Nat) : ∀ i : Nat, i + d = s.size → (∀ j : Nat, j < i → 97 ≤ bt s j ∧ bt s j ≤ 122) → Ev (fun k => impl_KeyOk.l0 k s (s.size : Int) (i : Int)) (keyB s) := by
  induction d with
  | zero =>
    intro i hi h
    obtain rfl : i = s.size := by omega
    refine Ev.shift ?_
    simp only [impl_KeyOk.l0, show ¬ (s.size : Int) < s.size from by omega, ↓reduceIte, impl_in_eq, Option.bind_some]
    rw [keyB_low h]
    exact Ev.now _
  | succ d ih =>
    intro i hi h
    refine Ev.shift ?_
    have h1 : (i : Int) < s.size := by omega
    have h4 : (0 : Int) ≤ i := by omega
    have h6 : wrap64 ((i : Int) + 1) = ((i + 1 : Nat) : Int) := by rw [wrap_id (by omega) (by omega)]; omega
    by_cases ha : bt s (i : Int) < 97
    · simp only [impl_KeyOk.l0, h1, h4, ha, ↓reduceIte]
      rw [keyB_not (i := i) (by omega) (by omega)]
      exact Ev.now _
    · by_cases hb : bt s (i : Int) > 122
      · simp only [impl_KeyOk.l0, h1, h4, ha, hb, ↓reduceIte]
        rw [keyB_not (i := i) (by omega) (by omega)]
        exact Ev.now _
      · simp only [impl_KeyOk.l0, h1, h4, ha, hb, h6, ↓reduceIte]
        refine ih (i + 1) (by omega) fun j hj => ?_
        by_cases he : j = i
        · subst he
          omega
        · exact h j (by omega)
theorem impl_KeyOk_ev (s : ByteArray) (hs : s.size ≤ 140737488351232) : Ev (fun k => impl_KeyOk.f k s) (keyB s) :=
  impl_KeyOk_l0 s hs s.size 0 (by omega) (fun j hj => by omega)

theorem impl_isNum_eq (n : Int) : impl_isNum.f n = some (decide (0 ≤ n ∧ n ≤ 1000000000)) := by
  unfold impl_isNum.f
  rw [impl_in_eq]
  rfl

theorem impl_cellsForm_l0 (l : List S92) (hl : l.length ≤ 9223372036854775807) (hk : ∀ c ∈ l, c.f0.size ≤ 140737488351232) (d : Nat) : ∀ i : Nat, i + d = l.length →
    Ev (fun k => impl_cellsForm.l0 k l l (l.length : Int) (i : Int)) (formB l d i) := by
  induction d with
  | zero =>
    intro i hi
    refine Ev.shift ?_
    simp only [impl_cellsForm.l0, show ¬ (i : Int) < (l.length : Int) from by omega, ↓reduceIte, formB, Bool.true_and]
    exact Ev.now _
  | succ d ih =>
    intro i hi
    have hr := ih (i + 1) (by omega)
    have hil : i < l.length := by omega
    have c1 : (i : Int) < (l.length : Int) := by omega
    have c2 : (0 : Int) ≤ (i : Int) := by omega
    have hup := int_up hil hl
    have hs : (rd_T92 l (i : Int)).f0.size ≤ 140737488351232 := by rw [rdC_nat l i hil]; exact hk _ (List.getElem_mem hil)
    refine Ev.shift ?_
    simp only [impl_cellsForm.l0, c1, c2, ↓reduceIte, formB, cellB]
    refine Ev.bind (impl_KeyOk_ev _ hs) ?_
    by_cases k1 : keyB (rd_T92 l (i : Int)).f0 = true
    · by_cases k2 : 0 ≤ (rd_T92 l (i : Int)).f1 ∧ (rd_T92 l (i : Int)).f1 ≤ 1000000000
      · simp only [k1, impl_isNum_eq, decide_eq_true k2, Option.bind_some, ↓reduceIte, Bool.true_and]
        by_cases k3 : i = 0
        · subst k3
          simp only [show ¬ ((0 : Nat) : Int) > 0 from by decide, ↓reduceIte, beq_self_eq_true, Bool.true_or, Bool.true_and]
          rw [hup]
          exact hr
        · have c3 : (i : Int) > 0 := by clear hup; omega
          have m1 : -9223372036854775808 ≤ (i : Int) - 1 := by clear hup; omega
          have m2 : (i : Int) - 1 ≤ 9223372036854775807 := by clear hup; omega
          have m3 : (i : Int) - 1 = ((i - 1 : Nat) : Int) := by clear hup; omega
          have c4 : (0 : Int) ≤ ((i - 1 : Nat) : Int) := by clear hup; omega
          have c5 : ((i - 1 : Nat) : Int) < (l.length : Int) := by clear hup; omega
          have e1 : wrap64 ((i : Int) - 1) = ((i - 1 : Nat) : Int) := (wrap_id m1 m2).trans m3
          have e2 : (i == 0) = false := by simpa using k3
          simp only [c3, e1, c4, c5, ↓reduceIte, e2, Bool.false_or, keyLt]
          by_cases k4 : Op.bytesLess (rd_T92 l ((i - 1 : Nat) : Int)).f0.toList (rd_T92 l (i : Int)).f0.toList = true
          · simp only [k4, ↓reduceIte, Bool.true_and, hup]
            exact hr
          · simp only [Bool.not_eq_true] at k4
            simp only [k4, ↓reduceIte, Bool.false_and, Bool.false_eq_true]
            exact Ev.now _
      · simp only [k1, impl_isNum_eq, decide_eq_false k2, Option.bind_some, ↓reduceIte, Bool.true_and, Bool.false_and, Bool.false_eq_true]
        exact Ev.now _
    · simp only [Bool.not_eq_true] at k1
      simp only [k1, ↓reduceIte, Bool.false_and, Bool.false_eq_true]
      exact Ev.now _
theorem impl_CellsOk_ev (l : List S92) (hl : l.length ≤ 9223372036854775807) (hk : ∀ c ∈ l, c.f0.size ≤ 140737488351232) : Ev (fun k => impl_CellsOk.f k l) (cellsB l) := by
  unfold impl_CellsOk.f cellsB
  by_cases h : (l.length : Int) ≤ 12
  · simp only [h, decide_true, ↓reduceIte, Bool.true_and]
    exact Ev.bind (impl_cellsForm_l0 l hl hk l.length 0 (by omega)) (Ev.now _)
  · simp only [h, decide_false, ↓reduceIte, Bool.false_and]
    exact Ev.now _

theorem impl_CmdOk_ev (a : Int) {s : ByteArray} (b : Int) (hs : s.size ≤ 140737488351232) : Ev (fun k => impl_CmdOk.f k a s b) (cmdB a s b) := by
  unfold impl_CmdOk.f cmdB
  simp only [impl_in_eq, impl_isNum_eq, Option.bind_some]
  by_cases h : decide (1 ≤ a ∧ a ≤ 3) = true
  · simp only [h, ↓reduceIte, Bool.true_and]
    refine Ev.bind (impl_KeyOk_ev s hs) ?_
    by_cases hk : keyB s = true
    · simp only [hk, ↓reduceIte, Bool.true_and]
      exact Ev.now _
    · simp only [Bool.not_eq_true] at hk
      simp only [hk, ↓reduceIte, Bool.false_and, Bool.false_eq_true]
      exact Ev.now _
  · simp only [Bool.not_eq_true] at h
    simp only [h, ↓reduceIte, Bool.false_and, Bool.false_eq_true]
    exact Ev.now _

theorem impl_CellAt_eq (l : List S92) (s : ByteArray) : impl_CellAt.f l s = some (atB s l 0) := rfl

theorem impl_Done_j1 (l : List S92) (hl : l.length ≤ 4294967296) (hk : ∀ c ∈ l, c.f0.size ≤ 140737488351232) {key : ByteArray} (hs : key.size ≤ 140737488351232) (hc : cellsB l = true) (hq : keyB key = true) (m : Int) (a : Int) (b : ByteArray) (c : Int) (ha : b = key) :
    Ev (fun k => impl_Done.j1 k l l m a b c) (finB l key m) := by
  subst ha
  have hw : impl_withCell.f l b m = some (putS b m l) := by
    unfold impl_withCell.f
    rw [if_pos (by omega), withC_put hc]
  have hlen := finB_len (N := 25) (Nat.le_refl _) hc b m
  have h4 := cellsB_len hc
  have hpl : (putS b m l).length ≤ 25 := by
    rw [put_len hc]
    split <;> omega
  have hpk : ∀ c ∈ putS b m l, c.f0.size ≤ 140737488351232 := fun c hc => by
    rcases mem_put hc with rfl | hc
    · exact hs
    · exact hk c hc
  refine Ev.shift ?_
  simp only [impl_Done.j1, hw, Option.bind_some]
  refine Ev.bind (impl_CellsOk_ev _ (by omega) hpk) ?_
  rw [cellsB_put hc hq]
  unfold finB
  by_cases h : (0 ≤ m ∧ m ≤ 1000000000) ∧ ¬ (atB b l 0 < 0 ∧ (l.length : Int) ≥ 12)
  · rw [if_pos h, decide_eq_true h]
    simp only [↓reduceIte]
    exact Ev.now _
  · rw [if_neg h, decide_eq_false h]
    simp only [Bool.false_eq_true, ↓reduceIte]
    exact Ev.now _
theorem impl_Done_ev (l : List S92) (hl : l.length ≤ 4294967296) (hk : ∀ c ∈ l, c.f0.size ≤ 140737488351232) (kind : Int) {key : ByteArray} (hs : key.size ≤ 140737488351232) (n : Int) :
    Ev (fun k => impl_Done.f k l kind key n) (doneB l kind key n) := by
  have hc : impl_Cell_83.f l = some l := by
    unfold impl_Cell_83.f
    rw [if_pos (by omega)]
  have bad : Ev (fun k => impl_Done.j0 k l l true kind key n) (l, 2) := by
    refine Ev.shift ?_
    simp only [impl_Done.j0, ↓reduceIte]
    exact Ev.now _
  unfold impl_Done.f doneB
  simp only [hc, Option.bind_some]
  refine Ev.bind (impl_CellsOk_ev l (by omega) hk) ?_
  cases h1 : cellsB l with
  | false =>
    simp only [Bool.false_eq_true, ↓reduceIte, false_and]
    exact bad
  | true =>
    simp only [↓reduceIte, true_and]
    refine Ev.bind (impl_CmdOk_ev kind n hs) ?_
    cases h2 : cmdB kind key n with
    | false =>
      simp only [Bool.false_eq_true, ↓reduceIte, Bool.not_false]
      exact bad
    | true =>
      obtain ⟨q1, q2, q3⟩ := cmdB_num h2
      simp only [↓reduceIte, Bool.not_true]
      refine Ev.shift ?_
      simp only [impl_Done.j0, Bool.false_eq_true, ↓reduceIte, impl_CellAt_eq, Option.bind_some]
      by_cases k1 : kind = 1
      · simp only [k1, ↓reduceIte]
        exact impl_Done_j1 l hl hk hs h1 q1 _ _ _ _ rfl
      · simp only [k1, ↓reduceIte]
        by_cases ha : atB key l 0 < 0
        · simp only [ha, ↓reduceIte]
          exact Ev.now _
        · obtain ⟨a1, a2, a3, a4⟩ := at_num h1 ha
          have e1 : wrap64 (-n) = -n := wrap_id (by omega) (by omega)
          have e2 : wrap64 (-n + (rd_T92 l (atB key l 0)).f1) = (rd_T92 l (atB key l 0)).f1 - n := by rw [wrap_id (by omega) (by omega)]; omega
          have e3 : wrap64 (n + (rd_T92 l (atB key l 0)).f1) = (rd_T92 l (atB key l 0)).f1 + n := by rw [wrap_id (by omega) (by omega)]; omega
          simp only [ha, a1, a2, e1, e2, e3, ↓reduceIte]
          by_cases k3 : kind = 3
          · simp only [k3, ↓reduceIte]
            exact impl_Done_j1 l hl hk hs h1 q1 _ _ _ _ rfl
          · simp only [k3, ↓reduceIte]
            exact impl_Done_j1 l hl hk hs h1 q1 _ _ _ _ rfl

theorem impl_UndoOf_eq (l : List S92) (s : ByteArray) : impl_UndoOf.f l s = some (undoB l s) := by
  unfold impl_UndoOf.f
  rw [impl_CellAt_eq, Option.bind_some, undo_body]

theorem impl_DoneBack_l0 (cs : List S103) (hl : cs.length ≤ 4294967296) (hu : ∀ c ∈ cs, c.f1.size ≤ 140737488351232) (d : Nat) : ∀ (i : Nat) (l : List S92) (us : List S32), i + d = cs.length → us.length = i → l.length ≤ 4294967296 → (∀ c ∈ l, c.f0.size ≤ 140737488351232) →
    Ev (fun k => impl_DoneBack.l0 k l us cs (cs.length : Int) (i : Int)) (backD cs d i l us) := by
  induction d with
  | zero =>
    intro i l us hi _ _ _
    refine Ev.shift ?_
    simp only [impl_DoneBack.l0, show ¬ (i : Int) < (cs.length : Int) from by omega, ↓reduceIte]
    exact Ev.now _
  | succ d ih =>
    intro i l us hi hz h1 h2
    have hil : i < cs.length := by omega
    have hk := hu _ (List.getElem_mem hil)
    rw [← rdCm_nat cs i hil] at hk
    have c1 : (i : Int) < (cs.length : Int) := by omega
    have c2 : (0 : Int) ≤ (i : Int) := by omega
    have c3 : us.length < 4398046511104 := by omega
    have hup := int_up hil (by omega)
    refine Ev.shift ?_
    simp only [impl_DoneBack.l0, c1, c2, c3, hup, ↓reduceIte, impl_UndoOf_eq, Option.bind_some]
    refine Ev.bind (impl_Done_ev l h1 h2 _ hk _) ?_
    exact ih (i + 1) _ _ (by omega) (by rw [List.length_append, List.length_singleton]; omega) (doneB_len (by decide) h1 _ _ _) (doneB_keys h2 _ hk _)
theorem impl_DoneBack_ev (cs : List S103) (hl : cs.length ≤ 4294967296) (hu : ∀ c ∈ cs, c.f1.size ≤ 140737488351232) (l : List S92) (h1 : l.length ≤ 4294967296) (h2 : ∀ c ∈ l, c.f0.size ≤ 140737488351232) :
    Ev (fun k => impl_DoneBack.f k l cs) (backD cs cs.length 0 l []) := by
  unfold impl_DoneBack.f
  have hc : impl_Cell_83.f l = some l := by
    unfold impl_Cell_83.f
    rw [if_pos (by omega)]
  simp only [hc, Option.bind_some]
  exact impl_DoneBack_l0 cs hl hu cs.length 0 l [] (by omega) rfl h1 h2

theorem markText_l0 (d : Nat) : ∀ (x : Int) (s : ByteArray), 0 ≤ x → x ≤ 9223372036854775807 → x.toNat < 10 ^ d → s.size + d ≤ 1000 → ∃ r, Ev (fun k => laws_markText.l0 k x s) r := by
  induction d with
  | zero =>
    intro x s h0 h1 h2 h3
    have hx : ¬ x > 0 := by simp at h2; omega
    have hs : 1 + s.size ≤ 9223372036854775807 := by omega
    exact ⟨_, Ev.shift (by simp only [laws_markText.l0, hx, hs, ↓reduceIte]; exact Ev.now _)⟩
  | succ d ih =>
    intro x s h0 h1 h2 h3
    by_cases hx : x > 0
    · have hz : (strOfNums [(wrap64 (48 + (Int.tmod x 10))) % 256]).size = 1 := by rw [strOfNums_size]; rfl
      have hs : (strOfNums [(wrap64 (48 + (Int.tmod x 10))) % 256]).size + s.size ≤ 9223372036854775807 := by rw [hz]; omega
      have hd : wrap64 (Int.tdiv x 10) = x / 10 := by rw [tdiv_pos h0]; exact wrap_id (by omega) (by omega)
      have hp : (x / 10).toNat < 10 ^ d := by
        rw [Nat.pow_succ] at h2
        omega
      obtain ⟨r, hr⟩ := ih (x / 10) (strOfNums [(wrap64 (48 + (Int.tmod x 10))) % 256] ++ s) (by omega) (by omega) hp (by rw [ByteArray.size_append, hz]; omega)
      exact ⟨r, Ev.shift (by simp only [laws_markText.l0, hx, hs, hd, ↓reduceIte, Option.bind_some]; exact hr)⟩
    · have hs : 1 + s.size ≤ 9223372036854775807 := by omega
      exact ⟨_, Ev.shift (by simp only [laws_markText.l0, hx, hs, ↓reduceIte]; exact Ev.now _)⟩
theorem markText_ev (x : Int) (h1 : x ≤ 9223372036854775807) : ∃ r, Ev (fun k => laws_markText.f k x) r := by
  by_cases h : x ≤ 0
  · exact ⟨_, by unfold laws_markText.f; simp only [h, ↓reduceIte]; exact Ev.now _⟩
  · have h10 : (10 : Nat) ^ 19 = 10000000000000000000 := by decide
    obtain ⟨r, hr⟩ := markText_l0 19 x ⟨#[]⟩ (by omega) h1 (by rw [h10]; omega) (by decide)
    exact ⟨r, by unfold laws_markText.f; simp only [h, ↓reduceIte]; exact hr⟩

/-- The text that marks a place. -/
noncomputable def mkT (x : Int) : ByteArray := if h : x ≤ 9223372036854775807 then (markText_ev x h).choose else ⟨#[]⟩
theorem mkT_ev (x : Int) (h : x ≤ 9223372036854775807) : Ev (fun k => laws_markText.f k x) (mkT x) := by
  unfold mkT
  rw [dif_pos h]
  exact (markText_ev x h).choose_spec
noncomputable def mkCs : Nat → Int → List S92
  | 0, _ => []
  | d + 1, v => ⟨mkT v, v + 1⟩ :: mkCs d (v + 1 + 1)
theorem mkCs_length : ∀ d v, (mkCs d v).length = d
  | 0, _ => rfl
  | d + 1, v => by simp only [mkCs, List.length_cons, mkCs_length d (v + 1 + 1)]
theorem markCells_l0 (d : Nat) : ∀ (i : Nat) (x : List S92) (v : Int), i + d = x.length → 0 ≤ v → v + 2 * d ≤ 4611686018427387904 → x.length ≤ 9223372036854775807 →
    Ev (fun k => laws_markCellS.l0 k x v (i : Int)) (v + 2 * d, x.take i ++ mkCs d v) := by
  induction d with
  | zero =>
    intro i x v hi h0 h1 hl
    refine Ev.shift ?_
    simp only [laws_markCellS.l0, show ¬ (i : Int) < (x.length : Int) from by omega, ↓reduceIte]
    refine Ev.eq (Ev.now _) ?_
    rw [List.take_of_length_le (by omega), mkCs, List.append_nil]
    simp
  | succ d ih =>
    intro i x v hi h0 h1 hl
    have hil : i < x.length := by omega
    have c1 : (i : Int) < (x.length : Int) := by omega
    have c2 : (0 : Int) ≤ (i : Int) := by omega
    have hup := int_up hil hl
    have w1 : wrap64 (v + 1) = v + 1 := wrap_id (by omega) (by omega)
    have w2 : wrap64 (v + 1 + 1) = v + 1 + 1 := wrap_id (by omega) (by omega)
    have ht := mkT_ev v (by omega)
    have e1 : rd_T92 (x.set i (⟨mkT v, (rd_T92 x (i : Int)).f1⟩ : S92)) (i : Int) = ⟨mkT v, (rd_T92 x (i : Int)).f1⟩ := by
      rw [rdC_nat _ i (by rw [List.length_set]; exact hil), List.getElem_set_self]
    have hr := ih (i + 1) ((x.set i (⟨mkT v, (rd_T92 x (i : Int)).f1⟩ : S92)).set i (⟨mkT v, v + 1⟩ : S92)) (v + 1 + 1) (by simp only [List.length_set]; omega) (by omega) (by omega) (by simp only [List.length_set]; exact hl)
    refine Ev.shift ?_
    simp only [laws_markCellS.l0, c1, c2, w1, w2, hup, ↓reduceIte]
    refine Ev.bind ht ?_
    simp only [Option.bind_some, Int.toNat_natCast, e1]
    refine Ev.eq hr ?_
    rw [List.set_set, List.take_succ_eq_append_getElem (by rw [List.length_set]; exact hil), List.getElem_set_self, List.take_set_of_le (Nat.le_refl _), mkCs, List.append_assoc, List.singleton_append]
    congr 1
    omega
theorem heldCells_l0 (d : Nat) : ∀ (p : List S92) (v : Int), 0 ≤ v → v + 2 * d ≤ 4611686018427387904 → p.length + d ≤ 9223372036854775807 →
    Ev (fun k => laws_heldCellS.l0 k (p ++ mkCs d v) v (p.length : Int)) (v + 2 * d) := by
  induction d with
  | zero =>
    intro p v h0 h1 hl
    refine Ev.shift ?_
    have e : v + 2 * ((0 : Nat) : Int) = v := by omega
    simp only [laws_heldCellS.l0, mkCs, List.append_nil, show ¬ (p.length : Int) < (p.length : Int) from by omega, ↓reduceIte, e]
    exact Ev.now _
  | succ d ih =>
    intro p v h0 h1 hl
    have hll : (p ++ mkCs (d + 1) v).length = p.length + (d + 1) := by rw [List.length_append, mkCs_length]
    have hil : p.length < (p ++ mkCs (d + 1) v).length := by omega
    have c1 : (p.length : Int) < ((p ++ mkCs (d + 1) v).length : Int) := by omega
    have c2 : (0 : Int) ≤ (p.length : Int) := by omega
    have hup := int_up hil (by omega)
    have w1 : wrap64 (v + 1) = v + 1 := wrap_id (by omega) (by omega)
    have w2 : wrap64 (v + 1 + 1) = v + 1 + 1 := wrap_id (by omega) (by omega)
    have ht := mkT_ev v (by omega)
    have hr := ih (p ++ [⟨mkT v, v + 1⟩]) (v + 1 + 1) (by omega) (by omega) (by rw [List.length_append, List.length_singleton]; omega)
    have e : p ++ [⟨mkT v, v + 1⟩] ++ mkCs d (v + 1 + 1) = p ++ mkCs (d + 1) v := by rw [mkCs, List.append_assoc, List.singleton_append]
    have e2 : (p ++ [(⟨mkT v, v + 1⟩ : S92)]).length = p.length + 1 := by rw [List.length_append, List.length_singleton]
    have e3 : v + 1 + 1 + 2 * (d : Int) = v + 2 * ((d + 1 : Nat) : Int) := by omega
    have eg : rd_T92 (p ++ mkCs (d + 1) v) (p.length : Int) = ⟨mkT v, v + 1⟩ := by
      rw [rdC_nat _ _ hil, List.getElem_append_right (Nat.le_refl _)]
      simp only [mkCs, Nat.sub_self, List.getElem_cons_zero]
    rw [e, e2, e3] at hr
    refine Ev.shift ?_
    simp only [laws_heldCellS.l0, c1, c2, w1, w2, hup, eg, ↓reduceIte]
    refine Ev.bind ht ?_
    simp only [↓reduceIte]
    exact hr
theorem markCells_ev (x : List S92) (hx : x.length ≤ 4294967300) : Ev (fun k => laws_markCellS.f k x 1) (1 + 2 * (x.length : Int), mkCs x.length 1) := by
  have h := markCells_l0 x.length 0 x 1 (by omega) (by omega) (by omega) (by omega)
  rw [List.take_zero, List.nil_append] at h
  exact h
theorem heldCells_ev (d : Nat) (hd : d ≤ 4294967300) : Ev (fun k => laws_heldCellS.f k (mkCs d 1) 1) (1 + 2 * (d : Int)) := by
  have h := heldCells_l0 d [] 1 (by omega) (by omega) (by simp; omega)
  exact h

noncomputable def mkUs : Nat → Int → List S32
  | 0, _ => []
  | d + 1, v => ⟨mkT v, (Int.tmod (v + 1) 3) == 0, v + 1 + 1⟩ :: mkUs d (v + 1 + 1 + 1)
theorem mkUs_length : ∀ d v, (mkUs d v).length = d
  | 0, _ => rfl
  | d + 1, v => by simp only [mkUs, List.length_cons, mkUs_length d (v + 1 + 1 + 1)]
theorem rdU_nat (l : List S32) (i : Nat) (h : i < l.length) : rd_T32 l (i : Int) = l[i] := getD_nat l _ i h
theorem markUndos_l0 (d : Nat) : ∀ (i : Nat) (x : List S32) (v : Int), i + d = x.length → 0 ≤ v → v + 3 * d ≤ 4611686018427387904 → x.length ≤ 9223372036854775807 →
    Ev (fun k => laws_markUndoS.l0 k x v (i : Int)) (v + 3 * d, x.take i ++ mkUs d v) := by
  induction d with
  | zero =>
    intro i x v hi h0 h1 hl
    refine Ev.shift ?_
    simp only [laws_markUndoS.l0, show ¬ (i : Int) < (x.length : Int) from by omega, ↓reduceIte]
    refine Ev.eq (Ev.now _) ?_
    rw [List.take_of_length_le (by omega), mkUs, List.append_nil]
    simp
  | succ d ih =>
    intro i x v hi h0 h1 hl
    have hil : i < x.length := by omega
    have c1 : (i : Int) < (x.length : Int) := by omega
    have c2 : (0 : Int) ≤ (i : Int) := by omega
    have hup := int_up hil hl
    have w1 : wrap64 (v + 1) = v + 1 := wrap_id (by omega) (by omega)
    have w2 : wrap64 (v + 1 + 1) = v + 1 + 1 := wrap_id (by omega) (by omega)
    have w3 : wrap64 (v + 1 + 1 + 1) = v + 1 + 1 + 1 := wrap_id (by omega) (by omega)
    have ht := mkT_ev v (by omega)
    have e1 : ∀ y : S32, rd_T32 (x.set i y) (i : Int) = y := fun y => by
      rw [rdU_nat _ i (by rw [List.length_set]; exact hil), List.getElem_set_self]
    have hr := ih (i + 1) (x.set i (⟨mkT v, (Int.tmod (v + 1) 3) == 0, v + 1 + 1⟩ : S32)) (v + 1 + 1 + 1) (by simp only [List.length_set]; omega) (by omega) (by omega) (by simp only [List.length_set]; exact hl)
    refine Ev.shift ?_
    simp only [laws_markUndoS.l0, c1, c2, w1, w2, w3, hup, ↓reduceIte]
    refine Ev.bind ht ?_
    simp only [Option.bind_some, Int.toNat_natCast, e1, List.set_set]
    refine Ev.eq hr ?_
    rw [List.take_succ_eq_append_getElem (by rw [List.length_set]; exact hil), List.getElem_set_self, List.take_set_of_le (Nat.le_refl _), mkUs, List.append_assoc, List.singleton_append]
    congr 1
    omega
theorem markUndos_ev (x : List S32) (v : Int) (h0 : 0 ≤ v) (h1 : v + 3 * x.length ≤ 4611686018427387904) : Ev (fun k => laws_markUndoS.f k x v) (v + 3 * (x.length : Int), mkUs x.length v) := by
  have h := markUndos_l0 x.length 0 x v (by omega) h0 h1 (by omega)
  rw [List.take_zero, List.nil_append] at h
  exact h

theorem heldUndos_l0 (d : Nat) : ∀ (p : List S32) (v : Int), 0 ≤ v → v + 3 * d ≤ 4611686018427387904 → p.length + d ≤ 9223372036854775807 →
    Ev (fun k => laws_heldUndoS.l0 k (p ++ mkUs d v) v (p.length : Int)) (v + 3 * d) := by
  induction d with
  | zero =>
    intro p v h0 h1 hl
    refine Ev.shift ?_
    have e : v + 3 * ((0 : Nat) : Int) = v := by omega
    simp only [laws_heldUndoS.l0, mkUs, List.append_nil, show ¬ (p.length : Int) < (p.length : Int) from by omega, ↓reduceIte, e]
    exact Ev.now _
  | succ d ih =>
    intro p v h0 h1 hl
    have hll : (p ++ mkUs (d + 1) v).length = p.length + (d + 1) := by rw [List.length_append, mkUs_length]
    have hil : p.length < (p ++ mkUs (d + 1) v).length := by omega
    have c1 : (p.length : Int) < ((p ++ mkUs (d + 1) v).length : Int) := by omega
    have c2 : (0 : Int) ≤ (p.length : Int) := by omega
    have hup := int_up hil (by omega)
    have w1 : wrap64 (v + 1) = v + 1 := wrap_id (by omega) (by omega)
    have w2 : wrap64 (v + 1 + 1) = v + 1 + 1 := wrap_id (by omega) (by omega)
    have w3 : wrap64 (v + 1 + 1 + 1) = v + 1 + 1 + 1 := wrap_id (by omega) (by omega)
    have ht := mkT_ev v (by omega)
    have hr := ih (p ++ [⟨mkT v, (Int.tmod (v + 1) 3) == 0, v + 1 + 1⟩]) (v + 1 + 1 + 1) (by omega) (by omega) (by rw [List.length_append, List.length_singleton]; omega)
    have e : p ++ [⟨mkT v, (Int.tmod (v + 1) 3) == 0, v + 1 + 1⟩] ++ mkUs d (v + 1 + 1 + 1) = p ++ mkUs (d + 1) v := by rw [mkUs, List.append_assoc, List.singleton_append]
    have e2 : (p ++ [(⟨mkT v, (Int.tmod (v + 1) 3) == 0, v + 1 + 1⟩ : S32)]).length = p.length + 1 := by rw [List.length_append, List.length_singleton]
    have e3 : v + 1 + 1 + 1 + 3 * (d : Int) = v + 3 * ((d + 1 : Nat) : Int) := by omega
    have eg : rd_T32 (p ++ mkUs (d + 1) v) (p.length : Int) = ⟨mkT v, (Int.tmod (v + 1) 3) == 0, v + 1 + 1⟩ := by
      rw [rdU_nat _ _ hil, List.getElem_append_right (Nat.le_refl _)]
      simp only [mkUs, Nat.sub_self, List.getElem_cons_zero]
    rw [e, e2, e3] at hr
    refine Ev.shift ?_
    simp only [laws_heldUndoS.l0, c1, c2, w1, w2, w3, hup, eg, ↓reduceIte]
    refine Ev.bind ht ?_
    simp only [↓reduceIte, bne_self_eq_false, Bool.false_eq_true]
    exact hr
theorem heldUndos_ev (d : Nat) (v : Int) (h0 : 0 ≤ v) (h1 : v + 3 * d ≤ 4611686018427387904) : Ev (fun k => laws_heldUndoS.f k (mkUs d v) v) (v + 3 * (d : Int)) := by
  have h := heldUndos_l0 d [] v h0 h1 (by simp; omega)
  exact h

theorem markCmds_l0 (d : Nat) : ∀ (i : Nat) (x : List S103) (v : Int), i + d = x.length → 0 ≤ v → v + 3 * d ≤ 4611686018427387904 → x.length ≤ 9223372036854775807 →
    ∃ c, Ev (fun k => laws_markCmdS.l0 k x v (i : Int)) (v + 3 * d, c) := by
  induction d with
  | zero =>
    intro i x v hi h0 h1 hl
    refine ⟨x, Ev.shift ?_⟩
    have e : v + 3 * ((0 : Nat) : Int) = v := by omega
    simp only [laws_markCmdS.l0, show ¬ (i : Int) < (x.length : Int) from by omega, ↓reduceIte, e]
    exact Ev.now _
  | succ d ih =>
    intro i x v hi h0 h1 hl
    have hil : i < x.length := by omega
    have c1 : (i : Int) < (x.length : Int) := by omega
    have c2 : (0 : Int) ≤ (i : Int) := by omega
    have hup := int_up hil hl
    have w1 : wrap64 (v + 1) = v + 1 := wrap_id (by omega) (by omega)
    have w2 : wrap64 (v + 1 + 1) = v + 1 + 1 := wrap_id (by omega) (by omega)
    have w3 : wrap64 (v + 1 + 1 + 1) = v + 1 + 1 + 1 := wrap_id (by omega) (by omega)
    obtain ⟨t, ht⟩ := markText_ev (v + 1) (by omega)
    have hr := ih (i + 1) (((x.set i (⟨v, (rd_T103 x i).f1, (rd_T103 x i).f2⟩ : S103)).set i (⟨(rd_T103 (x.set i (⟨v, (rd_T103 x i).f1, (rd_T103 x i).f2⟩ : S103)) i).f0, t, (rd_T103 (x.set i (⟨v, (rd_T103 x i).f1, (rd_T103 x i).f2⟩ : S103)) i).f2⟩ : S103)).set i
      (⟨(rd_T103 ((x.set i (⟨v, (rd_T103 x i).f1, (rd_T103 x i).f2⟩ : S103)).set i (⟨(rd_T103 (x.set i (⟨v, (rd_T103 x i).f1, (rd_T103 x i).f2⟩ : S103)) i).f0, t, (rd_T103 (x.set i (⟨v, (rd_T103 x i).f1, (rd_T103 x i).f2⟩ : S103)) i).f2⟩ : S103)) i).f0,
        (rd_T103 ((x.set i (⟨v, (rd_T103 x i).f1, (rd_T103 x i).f2⟩ : S103)).set i (⟨(rd_T103 (x.set i (⟨v, (rd_T103 x i).f1, (rd_T103 x i).f2⟩ : S103)) i).f0, t, (rd_T103 (x.set i (⟨v, (rd_T103 x i).f1, (rd_T103 x i).f2⟩ : S103)) i).f2⟩ : S103)) i).f1, v + 1 + 1⟩ : S103)) (v + 1 + 1 + 1)
      (by simp only [List.length_set]; omega) (by omega) (by omega) (by simp only [List.length_set]; exact hl)
    obtain ⟨c, hc⟩ := hr
    have e : v + 3 * ((d + 1 : Nat) : Int) = v + 1 + 1 + 1 + 3 * (d : Int) := by omega
    refine ⟨c, Ev.shift ?_⟩
    rw [e]
    simp only [laws_markCmdS.l0, c1, c2, w1, w2, w3, hup, ↓reduceIte, Option.bind_some, Int.toNat_natCast]
    exact Ev.bind ht hc

theorem FnExactDoneBack : laws_FnExactDoneBack.Pure := by
  intro l cs hl hcs
  obtain ⟨r, hr, hq⟩ := cells_cases l hl 1048576 (by decide) (by decide)
  refine Ev.rounds ?_
  unfold laws_FnExactDoneBack.f
  refine Ev.bind hr ?_
  rcases hq with hq | ⟨hq, hr1, hr0, h1, ht, he, hm, hk⟩
  · simp only [hq, ↓reduceIte]
    exact Ev.now _
  · simp only [hq, ↓reduceIte]
    obtain ⟨r2, hr2, hq2⟩ := cmds_cases cs hcs r hr0 hr1
    refine Ev.bind hr2 ?_
    rcases hq2 with hq2 | ⟨hq2, _, _, g1, gt, ge, gm, gk⟩
    · simp only [hq2, ↓reduceIte]
      exact Ev.now _
    · simp only [hq2, ↓reduceIte]
      have hk2 : ∀ c ∈ l.map cvCell, c.f0.size ≤ 140737488351232 := fun c hc => Nat.le_trans (hk c hc) (by decide)
      have gk2 : ∀ u ∈ cs.map cvCmd, u.f1.size ≤ 140737488351232 := fun c hc => Nat.le_trans (gk c hc) (by decide)
      have hsp := spec_DoneBack_ev (cs.map cvCmd) (by omega) gk2 (l.map cvCell) (by omega) hk2
      have him := impl_DoneBack_ev (cs.map cvCmd) (by omega) gk2 (l.map cvCell) (by omega) hk2
      have hg := backD_good (cs.map cvCmd) (N := 1048576) (by decide) gk2 (cs.map cvCmd).length 0 (l.map cvCell) [] (by omega) hm hk2 (fun u hu => by simp at hu)
      generalize backD (cs.map cvCmd) (cs.map cvCmd).length 0 (l.map cvCell) [] = R at hsp him hg
      obtain ⟨R1, R2⟩ := R
      obtain ⟨hul, _, hun, _⟩ := hg
      simp only [List.length_nil, Nat.zero_add] at hul hun
      have heu := laws_eqCellS_ev R1 (by omega)
      have heq := laws_eqUndoS_ev R2 (by omega)
      have hmk := markCells_ev R1 (by omega)
      have hhd := heldCells_ev R1.length (by omega)
      have hmx := markCells_ev (l.map cvCell) (by omega)
      have hmu := markUndos_ev R2 (1 + 2 * (R1.length : Int)) (by omega) (by omega)
      have hhu := heldUndos_ev R2.length (1 + 2 * (R1.length : Int)) (by omega) (by omega)
      obtain ⟨mc, hmc⟩ := markCmds_l0 (cs.map cvCmd).length 0 (cs.map cvCmd) (1 + 2 * ((l.map cvCell).length : Int)) (by omega) (by omega) (by omega) (by omega)
      have hmc2 : Ev (fun k => laws_markCmdS.f k (cs.map cvCmd) (1 + 2 * ((l.map cvCell).length : Int))) (1 + 2 * ((l.map cvCell).length : Int) + 3 * ((cs.map cvCmd).length : Int), mc) := hmc
      have n0 : ¬ (1 + 2 * (R1.length : Int)) < 0 := by omega
      have n1 : ¬ (1 + 2 * ((l.map cvCell).length : Int) + 3 * ((cs.map cvCmd).length : Int)) < 0 := by omega
      have n2 : ¬ (1 + 2 * (R1.length : Int) + 3 * (R2.length : Int)) < 0 := by omega
      refine Ev.bind ht (Ev.bind gt (Ev.bind hsp (Ev.bind ht (Ev.bind gt (Ev.bind him (Ev.bind heu ?_))))))
      simp only [↓reduceIte]
      refine Ev.bind heq ?_
      simp only [Bool.not_true]
      refine Ev.shift ?_
      simp only [laws_FnExactDoneBack.j0, Bool.false_eq_true, ↓reduceIte]
      refine Ev.bind ht (Ev.bind he ?_)
      simp only [↓reduceIte]
      refine Ev.bind gt (Ev.bind ge ?_)
      simp only [↓reduceIte]
      refine Ev.bind hmx (Ev.bind hmc2 ?_)
      simp only [n1, ↓reduceIte]
      refine Ev.bind heu ?_
      simp only [↓reduceIte]
      refine Ev.bind heq ?_
      simp only [Bool.not_true]
      refine Ev.shift ?_
      simp only [laws_FnExactDoneBack.j1, Bool.false_eq_true, ↓reduceIte]
      refine Ev.bind hmk (Ev.bind hmu (Ev.bind hhd ?_))
      simp only [n0, ↓reduceIte]
      refine Ev.bind hhu ?_
      simp only [n2, ↓reduceIte]
      refine Ev.bind ht (Ev.bind gt (Ev.bind him (Ev.bind heu ?_)))
      simp only [↓reduceIte]
      refine Ev.bind heq ?_
      simp only [Bool.not_true]
      refine Ev.shift ?_
      simp only [laws_FnExactDoneBack.j2, Bool.false_eq_true, ↓reduceIte]
      refine Ev.bind hhd ?_
      simp only [n0, ↓reduceIte]
      refine Ev.bind hhu ?_
      simp only [n2, ↓reduceIte]
      exact Ev.now _

end Go.Proofs.Ytdompbebeognmaa.Pure

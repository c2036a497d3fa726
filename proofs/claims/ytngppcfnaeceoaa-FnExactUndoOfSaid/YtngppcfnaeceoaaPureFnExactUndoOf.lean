/- For every input that the statement reads, the law FnExactUndoOf of the given program returns true and leaves its arguments as they were. Conditions: none but the statement's own. -/
import Derived.Test.YtngppcfnaeceoaaStmFnExactUndoOf
import Derived.Test.YtngppcfnaeceoaaLib
import Derived.Test.YtngppcfnaeceoaaLibList
set_option linter.unusedVariables false
set_option linter.unusedSimpArgs false
namespace Go.Proofs.Ytngppcfnaeceoaa.Pure
open Go.RowKit Go.Proofs.Ytngppcfnaeceoaa.QFnExactUndoOf Go.Proofs.YtngppcfnaeceoaaW.PrintWords Go.Proofs.YtngppcfnaeceoaaW.PrintLast Go.Proofs.YtngppcfnaeceoaaW.PrintMore Go.Proofs.Ytngppcfnaeceoaa.Lib

def cvCell (x : S91) : S92 := ⟨x.f0, x.f1⟩
theorem rdLCell_nat (l : List S91) (i : Nat) (h : i < l.length) : rd_T91 l (i : Int) = l[i] := getD_nat l _ i h
theorem rdCell_nat (l : List S92) (i : Nat) (h : i < l.length) : rd_T92 l (i : Int) = l[i] := getD_nat l _ i h
theorem laws_szCell_eq (s : ByteArray) (b x : Int) (hs : s.size ≤ 9223372036854775807) (h0 : 0 ≤ x) (h1 : x ≤ 1048576) :
    laws_szCell.f s b x = some (if x - (s.size : Int) < 0 then -1 else x - (s.size : Int)) := by
  unfold laws_szCell.f
  rw [wrap_id (by omega) (by omega)]
  split <;> rfl
def CellsFit (l : List S91) (x : Int) : Prop := (l.length : Int) ≤ x ∧ ∀ c ∈ l, (c.f0.size : Int) ≤ x
theorem laws_szCellS_l0 (l : List S91) (hl : l.length ≤ 1048576) (hk : ∀ c ∈ l, c.f0.size ≤ 9223372036854775807) (d : Nat) : ∀ (i : Nat) (x : Int), i + d = l.length → 0 ≤ x → x ≤ 1048576 →
    ∃ r, Ev (fun k => laws_szCellS.l0 k l x (i : Int)) r ∧ (r = -1 ∨ (0 ≤ r ∧ r ≤ x ∧ ∀ j : Nat, i ≤ j → ∀ h : j < l.length, ((l[j]).f0.size : Int) ≤ x)) := by
  induction d with
  | zero =>
    intro i x hi h0 h1
    refine ⟨x, Ev.shift ?_, .inr ⟨h0, Int.le_refl _, fun j hj h => by omega⟩⟩
    simp only [laws_szCellS.l0, show ¬ (i : Int) < (l.length : Int) from by omega, ↓reduceIte]
    exact Ev.now _
  | succ d ih =>
    intro i x hi h0 h1
    have hil : i < l.length := by omega
    have c1 : (i : Int) < (l.length : Int) := by omega
    have c2 : (0 : Int) ≤ (i : Int) := by omega
    have hup := int_up hil (by omega)
    have hz := laws_szCell_eq l[i].f0 l[i].f1 x (hk _ (List.getElem_mem hil)) h0 h1
    by_cases hneg : x - (l[i].f0.size : Int) < 0
    · refine ⟨-1, Ev.shift ?_, .inl rfl⟩
      rw [if_pos hneg] at hz
      simp only [laws_szCellS.l0, c1, c2, rdLCell_nat l i hil, hz, Option.bind_some, ↓reduceIte, show ((-1 : Int) < 0) = True from eq_true (by decide)]
      exact Ev.now _
    · obtain ⟨r, hr, hq⟩ := ih (i + 1) (x - (l[i].f0.size : Int)) (by omega) (by omega) (by omega)
      refine ⟨r, Ev.shift ?_, ?_⟩
      · rw [if_neg hneg] at hz
        simp only [laws_szCellS.l0, c1, c2, rdLCell_nat l i hil, hz, Option.bind_some, ↓reduceIte, hneg, hup]
        exact hr
      · rcases hq with hq | ⟨q0, q1, q2⟩
        · exact .inl hq
        · refine .inr ⟨q0, by omega, fun j hj h => ?_⟩
          by_cases e : j = i
          · subst e
            omega
          · have := q2 j (by omega) h
            omega
theorem laws_szCellS_ev (l : List S91) (hl : l.length ≤ 9223372036854775807) (hk : ∀ c ∈ l, c.f0.size ≤ 9223372036854775807) (x : Int) (h0 : 0 ≤ x) (h1 : x ≤ 1048576) :
    ∃ r, Ev (fun k => laws_szCellS.f k l x) r ∧ (r = -1 ∨ (0 ≤ r ∧ r ≤ x ∧ CellsFit l x)) := by
  have e : wrap64 (x - (l.length : Int)) = x - (l.length : Int) := wrap_id (by omega) (by omega)
  by_cases hneg : x - (l.length : Int) < 0
  · refine ⟨-1, ?_, .inl rfl⟩
    unfold laws_szCellS.f
    simp only [e, hneg, ↓reduceIte]
    exact Ev.now _
  · obtain ⟨r, hr, hq⟩ := laws_szCellS_l0 l (by omega) hk l.length 0 (x - (l.length : Int)) (by omega) (by omega) (by omega)
    refine ⟨r, ?_, ?_⟩
    · unfold laws_szCellS.f
      simp only [e, hneg, ↓reduceIte]
      exact hr
    · rcases hq with hq | ⟨q0, q1, q2⟩
      · exact .inl hq
      · refine .inr ⟨q0, by omega, by omega, fun c hc => ?_⟩
        obtain ⟨j, hj, rfl⟩ := List.getElem_of_mem hc
        have := q2 j (by omega) hj
        omega
theorem laws_toCellS_l0 (l : List S91) (hl : l.length ≤ 1048576) (d : Nat) : ∀ i : Nat, i + d = l.length →
    Ev (fun k => laws_toCellS.l0 k l ((l.map cvCell).take i ++ List.replicate ((l.map cvCell).length - i) z92) (i : Int)) (l.map cvCell) := by
  have hm : (l.map cvCell).length = l.length := List.length_map ..
  induction d with
  | zero =>
    intro i hi
    obtain rfl : i = (l.map cvCell).length := by omega
    refine Ev.shift ?_
    simp only [laws_toCellS.l0, show ¬ ((l.map cvCell).length : Int) < (l.length : Int) from by omega, ↓reduceIte, fill_all]
    exact Ev.now _
  | succ d ih =>
    intro i hi
    have h := ih (i + 1) (by omega)
    have hil : i < l.length := by omega
    have him : i < (l.map cvCell).length := by omega
    refine Ev.shift ?_
    have c1 : (i : Int) < (l.length : Int) := by omega
    have c2 : (0 : Int) ≤ (i : Int) := by omega
    have c3 : (i : Int) < (((l.map cvCell).take i ++ List.replicate ((l.map cvCell).length - i) z92).length : Int) := by rw [fill_length _ _ i (by omega)]; omega
    have hup := int_up hil (by omega)
    have hset := fill_set (l.map cvCell) z92 i him
    rw [List.getElem_map] at hset
    simp only [laws_toCellS.l0, c1, c2, ↓reduceIte, rdLCell_nat l i hil, laws_toCell.f, Option.bind_some, c3, hup, Int.toNat_natCast]
    rw [show (⟨l[i].f0, l[i].f1⟩ : S92) = cvCell l[i] from rfl, hset]
    exact h
theorem laws_toCellS_ev (l : List S91) (hl : l.length ≤ 1048576) : Ev (fun k => laws_toCellS.f k l) (l.map cvCell) := by
  unfold laws_toCellS.f
  have c1 : (0 : Int) ≤ (l.length : Int) := by omega
  have c2 : l.length ≤ 11728124029610 := by omega
  simp only [c1, Int.toNat_natCast, c2, ↓reduceIte]
  have h := laws_toCellS_l0 l hl l.length 0 (by omega)
  rw [fill_none, List.length_map] at h
  exact h
theorem laws_eqCellS_l0 (l : List S92) (hl : l.length ≤ 9223372036854775807) (d : Nat) : ∀ i : Nat, i + d = l.length → Ev (fun k => laws_eqCellS.l0 k l l (i : Int)) true := by
  induction d with
  | zero =>
    intro i hi
    refine Ev.shift ?_
    simp only [laws_eqCellS.l0, show ¬ (i : Int) < (l.length : Int) from by omega, ↓reduceIte]
    exact Ev.now _
  | succ d ih =>
    intro i hi
    have h := ih (i + 1) (by omega)
    have hil : i < l.length := by omega
    refine Ev.shift ?_
    have c1 : (i : Int) < (l.length : Int) := by omega
    have c2 : (0 : Int) ≤ (i : Int) := by omega
    simp only [laws_eqCellS.l0, c1, c2, ↓reduceIte, laws_eqCell.f, Option.bind_some, int_up hil hl]
    exact h
theorem laws_eqCellS_ev (l : List S92) (hl : l.length ≤ 9223372036854775807) : Ev (fun k => laws_eqCellS.f k l l) true := by
  unfold laws_eqCellS.f
  simp only [↓reduceIte]
  exact laws_eqCellS_l0 l hl l.length 0 (by omega)
theorem cells_cases (l : List S91) (hl : l.length ≤ 9223372036854775807 ∧ ∀ c ∈ l, WF91 c) (x : Int) (h0 : 0 ≤ x) (h1 : x ≤ 1048576) :
    ∃ r, Ev (fun k => laws_szCellS.f k l x) r ∧ (r < 0 ∨ (¬ r < 0 ∧ r ≤ x ∧ 0 ≤ r ∧ l.length ≤ 1048576 ∧ Ev (fun k => laws_toCellS.f k l) (l.map cvCell) ∧
      Ev (fun k => laws_eqCellS.f k (l.map cvCell) (l.map cvCell)) true ∧ (l.map cvCell).length ≤ 1048576 ∧ ∀ c ∈ l.map cvCell, c.f0.size ≤ 1048576)) := by
  obtain ⟨r, hr, hq⟩ := laws_szCellS_ev l hl.1 (fun c hc => (hl.2 c hc).1) x h0 h1
  refine ⟨r, hr, ?_⟩
  rcases hq with rfl | ⟨q0, q1, q2, q3⟩
  · exact .inl (by decide)
  · have h2 : l.length ≤ 1048576 := by omega
    refine .inr ⟨by omega, q1, q0, h2, laws_toCellS_ev l h2, laws_eqCellS_ev _ (by rw [List.length_map]; omega), by rw [List.length_map]; omega, fun c hc => ?_⟩
    obtain ⟨a, ha, rfl⟩ := List.mem_map.1 hc
    show a.f0.size ≤ _
    have := q3 a ha
    omega

def atB (s : ByteArray) (l : List S92) (i : Int) : Int := idxBy92 (fun x => x.f0.toList == s.toList) l i
theorem atB_range (s : ByteArray) : ∀ (l : List S92) (i : Int), 0 ≤ i → atB s l i = -1 ∨ (i ≤ atB s l i ∧ atB s l i < i + l.length)
  | [], i, _ => .inl rfl
  | c :: l, i, h => by
    have ih := atB_range s l (i + 1) (by omega)
    have hlen : ((c :: l).length : Int) = l.length + 1 := by rw [List.length_cons]; omega
    rw [hlen]
    unfold atB at *
    by_cases hc : (c.f0.toList == s.toList) = true
    · simp only [idxBy92, hc, ↓reduceIte]
      exact .inr ⟨by omega, by omega⟩
    · simp only [idxBy92, hc, ↓reduceIte]
      rcases ih with ih | ih
      · exact .inl ih
      · exact .inr ⟨by omega, by omega⟩

theorem spec_CellAt_l0 (l : List S92) (hl : l.length ≤ 9223372036854775807) (s : ByteArray) (d : Nat) : ∀ i : Nat, i + d = l.length → Ev (fun k => spec_CellAt.l0 k l s (i : Int)) (atB s (l.drop i) (i : Int)) := by
  induction d with
  | zero =>
    intro i hi
    refine Ev.shift ?_
    rw [List.drop_of_length_le (by omega)]
    simp only [spec_CellAt.l0, show ¬ (i : Int) < (l.length : Int) from by omega, ↓reduceIte, atB, idxBy92]
    exact Ev.now _
  | succ d ih =>
    intro i hi
    have hr := ih (i + 1) (by omega)
    have hil : i < l.length := by omega
    have c1 : (i : Int) < (l.length : Int) := by omega
    have c2 : (0 : Int) ≤ (i : Int) := by omega
    refine Ev.shift ?_
    rw [List.drop_eq_getElem_cons hil]
    by_cases hu : (l[i]).f0.toList = s.toList
    · simp only [spec_CellAt.l0, c1, c2, rdCell_nat l i hil, hu, ↓reduceIte, atB, idxBy92, beq_self_eq_true]
      exact Ev.now _
    · have hb : ((l[i]).f0.toList == s.toList) = false := beq_eq_false_iff_ne.2 hu
      simp only [spec_CellAt.l0, c1, c2, rdCell_nat l i hil, hu, ↓reduceIte, atB, idxBy92, hb, int_up hil hl, Bool.false_eq_true]
      exact hr
theorem spec_CellAt_ev (l : List S92) (hl : l.length ≤ 9223372036854775807) (s : ByteArray) : Ev (fun k => spec_CellAt.f k l s) (atB s l 0) := by
  have h := spec_CellAt_l0 l hl s l.length 0 (by omega)
  rw [List.drop_zero] at h
  exact h

def undoB (l : List S92) (s : ByteArray) : ByteArray × Bool × Int := if atB s l 0 < 0 then (s, false, 0) else (s, true, (rd_T92 l (atB s l 0)).f1)
theorem undo_body (l : List S92) (s : ByteArray) : (if atB s l 0 < 0 then (some (s, false, 0)) else (if 0 ≤ atB s l 0 then (if atB s l 0 < (l.length : Int) then (some (s, true, (rd_T92 l (atB s l 0)).f1)) else (none)) else (none))) = some (undoB l s) := by
  unfold undoB
  rcases atB_range s l 0 (by omega) with h | ⟨h1, h2⟩
  · rw [if_pos (by omega), if_pos (by omega)]
  · rw [if_neg (by omega), if_pos (by omega), if_pos (by omega), if_neg (by omega)]
theorem spec_UndoOf_ev (l : List S92) (hl : l.length ≤ 9223372036854775807) (s : ByteArray) : Ev (fun k => spec_UndoOf.f k l s) (undoB l s) := by
  unfold spec_UndoOf.f
  refine Ev.bind (spec_CellAt_ev l hl s) ?_
  rw [undo_body]
  exact Ev.now _

theorem impl_CellAt_eq (l : List S92) (s : ByteArray) : impl_CellAt.f l s = some (atB s l 0) := rfl

theorem impl_UndoOf_eq (l : List S92) (s : ByteArray) : impl_UndoOf.f l s = some (undoB l s) := by
  unfold impl_UndoOf.f
  rw [impl_CellAt_eq, Option.bind_some, undo_body]

theorem laws_eqUndo_eq (a b : ByteArray) (c : Bool) (x : Int) (h : a.toList = b.toList) : laws_eqUndo.f a c x b c x = some true := by
  unfold laws_eqUndo.f
  simp only [h, bne_self_eq_false, Bool.false_eq_true, ↓reduceIte]
theorem FnExactUndoOf : laws_FnExactUndoOf.Pure := by
  intro l s hl hs
  refine Ev.rounds ?_
  unfold laws_FnExactUndoOf.f
  by_cases hb : (s.size : Int) > 1048576
  · simp only [hb, ↓reduceIte]
    exact Ev.now _
  · simp only [hb, ↓reduceIte]
    obtain ⟨r, hr, hq⟩ := cells_cases l hl 1048576 (by decide) (by decide)
    refine Ev.bind hr ?_
    rcases hq with hq | ⟨hq, _, _, h1, ht, he, hm, hk⟩
    · simp only [hq, ↓reduceIte]
      exact Ev.now _
    · simp only [hq, ↓reduceIte]
      refine Ev.bind ht (Ev.bind (spec_UndoOf_ev _ (by omega) s) (Ev.bind ht ?_))
      simp only [impl_UndoOf_eq, Option.bind_some, laws_eqUndo_eq, ↓reduceIte]
      refine Ev.bind ht (Ev.bind he ?_)
      simp only [↓reduceIte]
      exact Ev.now _

end Go.Proofs.Ytngppcfnaeceoaa.Pure

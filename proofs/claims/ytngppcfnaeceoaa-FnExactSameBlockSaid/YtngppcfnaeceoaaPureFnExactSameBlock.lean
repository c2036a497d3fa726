/- For every input that the statement reads, the law FnExactSameBlock of the given program returns true and leaves its arguments as they were. Conditions: none but the statement's own. -/
import Derived.Test.YtngppcfnaeceoaaStmFnExactSameBlock
import Derived.Test.YtngppcfnaeceoaaLib
import Derived.Test.YtngppcfnaeceoaaLibList
set_option linter.unusedVariables false
set_option linter.unusedSimpArgs false
namespace Go.Proofs.Ytngppcfnaeceoaa.Pure
open Go.RowKit Go.Proofs.Ytngppcfnaeceoaa.QFnExactSameBlock Go.Proofs.YtngppcfnaeceoaaW.PrintWords Go.Proofs.YtngppcfnaeceoaaW.PrintLast Go.Proofs.YtngppcfnaeceoaaW.PrintMore Go.Proofs.Ytngppcfnaeceoaa.Lib

def cvCmd (x : S108) : S109 := ⟨x.f0, x.f1, x.f2⟩
theorem rdLCmd_nat (l : List S108) (i : Nat) (h : i < l.length) : rd_T108 l (i : Int) = l[i] := getD_nat l _ i h
theorem rdCmd_nat (l : List S109) (i : Nat) (h : i < l.length) : rd_T109 l (i : Int) = l[i] := getD_nat l _ i h
theorem laws_szCmd_eq (a : Int) (s : ByteArray) (b x : Int) (hs : s.size ≤ 9223372036854775807) (h0 : 0 ≤ x) (h1 : x ≤ 1048576) :
    laws_szCmd.f a s b x = some (if x - (s.size : Int) < 0 then -1 else x - (s.size : Int)) := by
  unfold laws_szCmd.f
  rw [wrap_id (by omega) (by omega)]
  split <;> rfl
/-- What is left when a row of commands is counted. -/
def CmdsFit (l : List S108) (x : Int) : Prop := (l.length : Int) ≤ x ∧ ∀ c ∈ l, (c.f1.size : Int) ≤ x
theorem laws_szCmdS_l0 (l : List S108) (hl : l.length ≤ 1048576) (hk : ∀ c ∈ l, c.f1.size ≤ 9223372036854775807) (d : Nat) : ∀ (i : Nat) (x : Int), i + d = l.length → 0 ≤ x → x ≤ 1048576 →
    ∃ r, Ev (fun k => laws_szCmdS.l0 k l x (i : Int)) r ∧ (r = -1 ∨ (0 ≤ r ∧ r ≤ x ∧ ∀ j : Nat, i ≤ j → ∀ h : j < l.length, ((l[j]).f1.size : Int) ≤ x)) := by
  induction d with
  | zero =>
    intro i x hi h0 h1
    refine ⟨x, Ev.shift ?_, .inr ⟨h0, Int.le_refl _, fun j hj h => by omega⟩⟩
    simp only [laws_szCmdS.l0, show ¬ (i : Int) < (l.length : Int) from by omega, ↓reduceIte]
    exact Ev.now _
  | succ d ih =>
    intro i x hi h0 h1
    have hil : i < l.length := by omega
    have c1 : (i : Int) < (l.length : Int) := by omega
    have c2 : (0 : Int) ≤ (i : Int) := by omega
    have hup := int_up hil (by omega)
    have hz := laws_szCmd_eq l[i].f0 l[i].f1 l[i].f2 x (hk _ (List.getElem_mem hil)) h0 h1
    by_cases hneg : x - (l[i].f1.size : Int) < 0
    · refine ⟨-1, Ev.shift ?_, .inl rfl⟩
      rw [if_pos hneg] at hz
      simp only [laws_szCmdS.l0, c1, c2, rdLCmd_nat l i hil, hz, Option.bind_some, ↓reduceIte, show ((-1 : Int) < 0) = True from eq_true (by decide)]
      exact Ev.now _
    · obtain ⟨r, hr, hq⟩ := ih (i + 1) (x - (l[i].f1.size : Int)) (by omega) (by omega) (by omega)
      refine ⟨r, Ev.shift ?_, ?_⟩
      · rw [if_neg hneg] at hz
        simp only [laws_szCmdS.l0, c1, c2, rdLCmd_nat l i hil, hz, Option.bind_some, ↓reduceIte, hneg, hup]
        exact hr
      · rcases hq with hq | ⟨q0, q1, q2⟩
        · exact .inl hq
        · refine .inr ⟨q0, by omega, fun j hj h => ?_⟩
          by_cases e : j = i
          · subst e
            omega
          · have := q2 j (by omega) h
            omega
theorem laws_szCmdS_ev (l : List S108) (hl : l.length ≤ 9223372036854775807) (hk : ∀ c ∈ l, c.f1.size ≤ 9223372036854775807) (x : Int) (h0 : 0 ≤ x) (h1 : x ≤ 1048576) :
    ∃ r, Ev (fun k => laws_szCmdS.f k l x) r ∧ (r = -1 ∨ (0 ≤ r ∧ r ≤ x ∧ CmdsFit l x)) := by
  have e : wrap64 (x - (l.length : Int)) = x - (l.length : Int) := wrap_id (by omega) (by omega)
  by_cases hneg : x - (l.length : Int) < 0
  · refine ⟨-1, ?_, .inl rfl⟩
    unfold laws_szCmdS.f
    simp only [e, hneg, ↓reduceIte]
    exact Ev.now _
  · obtain ⟨r, hr, hq⟩ := laws_szCmdS_l0 l (by omega) hk l.length 0 (x - (l.length : Int)) (by omega) (by omega) (by omega)
    refine ⟨r, ?_, ?_⟩
    · unfold laws_szCmdS.f
      simp only [e, hneg, ↓reduceIte]
      exact hr
    · rcases hq with hq | ⟨q0, q1, q2⟩
      · exact .inl hq
      · refine .inr ⟨q0, by omega, by omega, fun c hc => ?_⟩
        obtain ⟨j, hj, rfl⟩ := List.getElem_of_mem hc
        have := q2 j (by omega) hj
        omega
theorem laws_toCmdS_l0 (l : List S108) (hl : l.length ≤ 1048576) (d : Nat) : ∀ i : Nat, i + d = l.length →
    Ev (fun k => laws_toCmdS.l0 k l ((l.map cvCmd).take i ++ List.replicate ((l.map cvCmd).length - i) z109) (i : Int)) (l.map cvCmd) := by
  have hm : (l.map cvCmd).length = l.length := List.length_map ..
  induction d with
  | zero =>
    intro i hi
    obtain rfl : i = (l.map cvCmd).length := by omega
    refine Ev.shift ?_
    simp only [laws_toCmdS.l0, show ¬ ((l.map cvCmd).length : Int) < (l.length : Int) from by omega, ↓reduceIte, fill_all]
    exact Ev.now _
  | succ d ih =>
    intro i hi
    have h := ih (i + 1) (by omega)
    have hil : i < l.length := by omega
    have him : i < (l.map cvCmd).length := by omega
    refine Ev.shift ?_
    have c1 : (i : Int) < (l.length : Int) := by omega
    have c2 : (0 : Int) ≤ (i : Int) := by omega
    have c3 : (i : Int) < (((l.map cvCmd).take i ++ List.replicate ((l.map cvCmd).length - i) z109).length : Int) := by rw [fill_length _ _ i (by omega)]; omega
    have hup := int_up hil (by omega)
    have hset := fill_set (l.map cvCmd) z109 i him
    rw [List.getElem_map] at hset
    simp only [laws_toCmdS.l0, c1, c2, ↓reduceIte, rdLCmd_nat l i hil, laws_toCmd.f, Option.bind_some, c3, hup, Int.toNat_natCast]
    rw [show (⟨l[i].f0, l[i].f1, l[i].f2⟩ : S109) = cvCmd l[i] from rfl, hset]
    exact h
theorem laws_toCmdS_ev (l : List S108) (hl : l.length ≤ 1048576) : Ev (fun k => laws_toCmdS.f k l) (l.map cvCmd) := by
  unfold laws_toCmdS.f
  have c1 : (0 : Int) ≤ (l.length : Int) := by omega
  have c2 : l.length ≤ 8796093022208 := by omega
  simp only [c1, Int.toNat_natCast, c2, ↓reduceIte]
  have h := laws_toCmdS_l0 l hl l.length 0 (by omega)
  rw [fill_none, List.length_map] at h
  exact h
theorem laws_eqCmdS_l0 (l : List S109) (hl : l.length ≤ 9223372036854775807) (d : Nat) : ∀ i : Nat, i + d = l.length → Ev (fun k => laws_eqCmdS.l0 k l l (i : Int)) true := by
  induction d with
  | zero =>
    intro i hi
    refine Ev.shift ?_
    simp only [laws_eqCmdS.l0, show ¬ (i : Int) < (l.length : Int) from by omega, ↓reduceIte]
    exact Ev.now _
  | succ d ih =>
    intro i hi
    have h := ih (i + 1) (by omega)
    have hil : i < l.length := by omega
    refine Ev.shift ?_
    have c1 : (i : Int) < (l.length : Int) := by omega
    have c2 : (0 : Int) ≤ (i : Int) := by omega
    simp only [laws_eqCmdS.l0, c1, c2, ↓reduceIte, laws_eqCmd.f, Option.bind_some, int_up hil hl]
    exact h
theorem laws_eqCmdS_ev (l : List S109) (hl : l.length ≤ 9223372036854775807) : Ev (fun k => laws_eqCmdS.f k l l) true := by
  unfold laws_eqCmdS.f
  simp only [↓reduceIte]
  exact laws_eqCmdS_l0 l hl l.length 0 (by omega)

theorem laws_szBlk_ev (a0 a1 : Int) (c : List S108) (a3 a4 a5 a6 : Int) (h1 : c.length ≤ 9223372036854775807) (h2 : ∀ x ∈ c, x.f1.size ≤ 9223372036854775807) (x : Int) (h0 : 0 ≤ x) (hx : x ≤ 1048576) :
    ∃ r, Ev (fun k => laws_szBlock.f k a0 a1 c a3 a4 a5 a6 x) r ∧ (r = -1 ∨ (0 ≤ r ∧ r ≤ x ∧ CmdsFit c x)) := by
  obtain ⟨r, hr, hq⟩ := laws_szCmdS_ev c h1 h2 x h0 hx
  refine ⟨r, ?_, hq⟩
  unfold laws_szBlock.f
  refine Ev.bind hr ?_
  rcases hq with rfl | ⟨q0, _, _⟩
  · simp only [show ((-1 : Int) < 0) = True from eq_true (by decide), ↓reduceIte]
    exact Ev.now _
  · simp only [show ¬ r < 0 from by omega, ↓reduceIte]
    exact Ev.now _
theorem laws_toBlk_ev (a0 a1 : Int) (c : List S108) (a3 a4 a5 a6 : Int) (h : c.length ≤ 1048576) : Ev (fun k => laws_toBlock.f k a0 a1 c a3 a4 a5 a6) (a0, a1, c.map cvCmd, a3, a4, a5, a6) := by
  unfold laws_toBlock.f laws_toQc.f
  exact Ev.bind (laws_toCmdS_ev c h) (Ev.now _)
theorem laws_eqBlk_ev (a0 a1 : Int) (c : List S109) (a3 a4 a5 a6 : Int) (h : c.length ≤ 9223372036854775807) : Ev (fun k => laws_eqBlock.f k a0 a1 c a3 a4 a5 a6 a0 a1 c a3 a4 a5 a6) true := by
  unfold laws_eqBlock.f
  simp only [↓reduceIte]
  refine Ev.bind (laws_eqCmdS_ev c h) ?_
  simp only [laws_eqQc.f, ↓reduceIte, Option.bind_some]
  exact Ev.now _

def neC (a b : S109) : Bool := !(a.f0 == b.f0) || (!(a.f1.toList == b.f1.toList) || !(a.f2 == b.f2))
def sameL (c e : List S109) : Nat → Nat → Bool
  | 0, _ => true
  | d + 1, i => !(neC (rd_T109 c (i : Int)) (rd_T109 e (i : Int))) && sameL c e d (i + 1)
def sameB (a0 a1 : Int) (c : List S109) (a3 a4 a5 a6 b0 b1 : Int) (e : List S109) (b3 b4 b5 b6 : Int) : Bool :=
  if a0 = b0 then (if a1 = b1 then (if (c.length : Int) = (e.length : Int) then (sameL c e c.length 0 && (a3 == b3 && (a4 == b4 && (a5 == b5 && a6 == b6)))) else false) else false) else false

theorem spec_SameBlock_l0 (a0 a1 : Int) (c : List S109) (a3 a4 a5 a6 b0 b1 : Int) (e : List S109) (b3 b4 b5 b6 : Int) (hl : c.length ≤ 9223372036854775807) (he : (c.length : Int) = (e.length : Int)) (d : Nat) :
    ∀ i : Nat, i + d = c.length → Ev (fun k => spec_SameBlock.l0 k (i : Int) a0 a1 c a3 a4 a5 a6 b0 b1 e b3 b4 b5 b6) (sameL c e d i) := by
  induction d with
  | zero =>
    intro i hi
    refine Ev.shift ?_
    simp only [spec_SameBlock.l0, show ¬ (i : Int) < (c.length : Int) from by omega, ↓reduceIte, sameL]
    exact Ev.now _
  | succ d ih =>
    intro i hi
    have hr := ih (i + 1) (by omega)
    have hil : i < c.length := by omega
    have c1 : (i : Int) < (c.length : Int) := by omega
    have c2 : (0 : Int) ≤ (i : Int) := by omega
    have c3 : (i : Int) < (e.length : Int) := by omega
    have hup := int_up hil hl
    refine Ev.shift ?_
    simp only [spec_SameBlock.l0, c1, c2, c3, hup, ↓reduceIte, sameL]
    by_cases h : neC (rd_T109 c (i : Int)) (rd_T109 e (i : Int)) = true
    · rw [h]
      unfold neC at h
      simp only [if_pos h]
      exact Ev.now _
    · have h' := h
      simp only [Bool.not_eq_true] at h'
      rw [h', Bool.not_false, Bool.true_and]
      unfold neC at h
      simp only [if_neg h]
      exact hr
theorem spec_SameBlock_ev (a0 a1 : Int) (c : List S109) (a3 a4 a5 a6 b0 b1 : Int) (e : List S109) (b3 b4 b5 b6 : Int) (hl : c.length ≤ 9223372036854775807) :
    Ev (fun k => spec_SameBlock.f k a0 a1 c a3 a4 a5 a6 b0 b1 e b3 b4 b5 b6) (sameB a0 a1 c a3 a4 a5 a6 b0 b1 e b3 b4 b5 b6) := by
  unfold spec_SameBlock.f sameB
  by_cases h0 : a0 = b0
  · rw [if_pos h0]
    simp only [if_pos h0]
    by_cases h1 : a1 = b1
    · rw [if_pos h1]
      simp only [if_pos h1]
      by_cases h2 : (!(a3 == b3) || (!(a4 == b4) || (!(a5 == b5) || (!(a6 == b6))))) = true
      · have h3 : (a3 == b3 && (a4 == b4 && (a5 == b5 && a6 == b6))) = false := by
          revert h2
          cases (a3 == b3) <;> cases (a4 == b4) <;> cases (a5 == b5) <;> cases (a6 == b6) <;> decide
        rw [h3, Bool.and_false, ite_self]
        simp only [if_pos h2]
        refine Ev.shift ?_
        simp only [spec_SameBlock.j0, ↓reduceIte]
        exact Ev.now _
      · have h3 : (a3 == b3 && (a4 == b4 && (a5 == b5 && a6 == b6))) = true := by
          revert h2
          cases (a3 == b3) <;> cases (a4 == b4) <;> cases (a5 == b5) <;> cases (a6 == b6) <;> decide
        rw [h3, Bool.and_true]
        simp only [if_neg h2]
        refine Ev.shift ?_
        simp only [spec_SameBlock.j0]
        by_cases h4 : (c.length : Int) = (e.length : Int)
        · have h5 : ((c.length : Int) != (e.length : Int)) = false := by rw [h4]; exact bne_self_eq_false _
          rw [h5, if_pos h4]
          simp only [Bool.false_eq_true, ↓reduceIte]
          exact spec_SameBlock_l0 a0 a1 c a3 a4 a5 a6 b0 b1 e b3 b4 b5 b6 hl h4 c.length 0 (by omega)
        · have h5 : ((c.length : Int) != (e.length : Int)) = true := bne_iff_ne.2 h4
          rw [h5, if_neg h4]
          simp only [↓reduceIte]
          exact Ev.now _
    · rw [if_neg h1]
      simp only [if_neg h1]
      refine Ev.shift ?_
      simp only [spec_SameBlock.j0, ↓reduceIte]
      exact Ev.now _
  · rw [if_neg h0]
    simp only [if_neg h0]
    refine Ev.shift ?_
    simp only [spec_SameBlock.j0, ↓reduceIte]
    exact Ev.now _

theorem impl_eqCmds_l0 (c e : List S109) (hl : c.length ≤ 9223372036854775807) (he : (c.length : Int) = (e.length : Int)) (d : Nat) :
    ∀ i : Nat, i + d = c.length → Ev (fun k => impl_Cmd.l0 k c e (c.length : Int) (i : Int)) (sameL c e d i) := by
  induction d with
  | zero =>
    intro i hi
    refine Ev.shift ?_
    simp only [impl_Cmd.l0, show ¬ (i : Int) < (c.length : Int) from by omega, ↓reduceIte, sameL]
    exact Ev.now _
  | succ d ih =>
    intro i hi
    have hr := ih (i + 1) (by omega)
    have hil : i < c.length := by omega
    have c1 : (i : Int) < (c.length : Int) := by omega
    have c2 : (0 : Int) ≤ (i : Int) := by omega
    have c3 : (i : Int) < (e.length : Int) := by omega
    have hup := int_up hil hl
    refine Ev.shift ?_
    simp only [impl_Cmd.l0, c1, c2, c3, hup, ↓reduceIte, sameL]
    by_cases h : neC (rd_T109 c (i : Int)) (rd_T109 e (i : Int)) = true
    · rw [h]
      unfold neC at h
      simp only [if_pos h]
      exact Ev.now _
    · have h' := h
      simp only [Bool.not_eq_true] at h'
      rw [h', Bool.not_false, Bool.true_and]
      unfold neC at h
      simp only [if_neg h]
      exact hr
theorem impl_SameBlock_ev (a0 a1 : Int) (c : List S109) (a3 a4 a5 a6 b0 b1 : Int) (e : List S109) (b3 b4 b5 b6 : Int) (hl : c.length ≤ 9223372036854775807) :
    Ev (fun k => impl_SameBlock.f k a0 a1 c a3 a4 a5 a6 b0 b1 e b3 b4 b5 b6) (sameB a0 a1 c a3 a4 a5 a6 b0 b1 e b3 b4 b5 b6) := by
  unfold impl_SameBlock.f sameB
  by_cases h0 : a0 = b0
  · rw [if_pos h0]
    simp only [if_pos h0]
    by_cases h1 : a1 = b1
    · rw [if_pos h1]
      simp only [if_pos h1, impl_Cmd.f]
      by_cases h4 : (c.length : Int) = (e.length : Int)
      · rw [if_pos h4]
        simp only [if_pos h4]
        refine Ev.bind (impl_eqCmds_l0 c e hl h4 c.length 0 (by omega)) ?_
        by_cases h5 : sameL c e c.length 0 = true
        · simp only [h5, ↓reduceIte, Bool.true_and]
          exact Ev.now _
        · simp only [Bool.not_eq_true] at h5
          simp only [h5, ↓reduceIte, Bool.false_and, Bool.false_eq_true]
          exact Ev.now _
      · rw [if_neg h4]
        simp only [if_neg h4, Option.bind_some, Bool.false_eq_true, ↓reduceIte]
        exact Ev.now _
    · rw [if_neg h1]
      simp only [if_neg h1]
      exact Ev.now _
  · rw [if_neg h0]
    simp only [if_neg h0]
    exact Ev.now _

theorem FnExactSameBlock : laws_FnExactSameBlock.Pure := by
  intro a0 a1 c a3 a4 a5 a6 b0 b1 e b3 b4 b5 b6 _ _ hc _ _ _ _ _ _ he _ _ _ _
  obtain ⟨r, hr, hq⟩ := laws_szBlk_ev a0 a1 c a3 a4 a5 a6 hc.1 (fun x hx => (hc.2 x hx).2.1) 1048576 (by decide) (by decide)
  refine Ev.rounds ?_
  unfold laws_FnExactSameBlock.f
  refine Ev.bind hr ?_
  rcases hq with rfl | ⟨g0, g1, g2⟩
  · simp only [show ((-1 : Int) < 0) = True from eq_true (by decide), ↓reduceIte]
    exact Ev.now _
  · have g3 : ¬ r < 0 := by omega
    simp only [g3, ↓reduceIte]
    obtain ⟨r2, hr2, hq2⟩ := laws_szBlk_ev b0 b1 e b3 b4 b5 b6 he.1 (fun x hx => (he.2 x hx).2.1) r g0 g1
    refine Ev.bind hr2 ?_
    rcases hq2 with rfl | ⟨k0, k1, k2⟩
    · simp only [show ((-1 : Int) < 0) = True from eq_true (by decide), ↓reduceIte]
      exact Ev.now _
    · have k3 : ¬ r2 < 0 := by omega
      simp only [k3, ↓reduceIte]
      have lc : c.length ≤ 1048576 := by have := g2.1; omega
      have le : e.length ≤ 1048576 := by have := k2.1; omega
      have mc : (c.map cvCmd).length ≤ 9223372036854775807 := by rw [List.length_map]; omega
      have me : (e.map cvCmd).length ≤ 9223372036854775807 := by rw [List.length_map]; omega
      have ta := laws_toBlk_ev a0 a1 c a3 a4 a5 a6 lc
      have tb := laws_toBlk_ev b0 b1 e b3 b4 b5 b6 le
      refine Ev.bind ta (Ev.bind tb (Ev.bind (spec_SameBlock_ev a0 a1 _ a3 a4 a5 a6 b0 b1 _ b3 b4 b5 b6 mc) ?_))
      refine Ev.bind ta (Ev.bind tb (Ev.bind (impl_SameBlock_ev a0 a1 _ a3 a4 a5 a6 b0 b1 _ b3 b4 b5 b6 mc) ?_))
      simp only [bne_self_eq_false, Bool.false_eq_true, ↓reduceIte]
      refine Ev.bind ta (Ev.bind (laws_eqBlk_ev a0 a1 _ a3 a4 a5 a6 mc) ?_)
      simp only [↓reduceIte]
      refine Ev.bind tb (Ev.bind (laws_eqBlk_ev b0 b1 _ b3 b4 b5 b6 me) ?_)
      simp only [↓reduceIte]
      exact Ev.now _

end Go.Proofs.Ytngppcfnaeceoaa.Pure

/- For every input that the statement reads, the law FnExactQcOf of the given program returns true and leaves its arguments as they were. Conditions: none but the statement's own. -/
import Derived.Test.YtmcopcpeacikmaaStmFnExactQcOf
import Derived.Test.YtmcopcpeacikmaaLib
import Derived.Test.YtmcopcpeacikmaaLibList
set_option linter.unusedVariables false
set_option linter.unusedSimpArgs false
namespace Go.Proofs.Ytmcopcpeacikmaa.Pure
open Go.RowKit Go.Proofs.Ytmcopcpeacikmaa.QFnExactQcOf Go.Proofs.YtmcopcpeacikmaaW.PrintWords Go.Proofs.YtmcopcpeacikmaaW.PrintLast Go.Proofs.YtmcopcpeacikmaaW.PrintMore Go.Proofs.Ytmcopcpeacikmaa.Lib

def cvVote (x : S35) : S40 := ⟨x.f0, x.f1, x.f2, x.f3⟩
theorem rdLVote_nat (l : List S35) (i : Nat) (h : i < l.length) : rd_T35 l (i : Int) = l[i] := getD_nat l _ i h
theorem rdVote_nat (l : List S40) (i : Nat) (h : i < l.length) : rd_T40 l (i : Int) = l[i] := getD_nat l _ i h
theorem laws_toVoteS_l0 (l : List S35) (hl : l.length ≤ 1048576) (d : Nat) : ∀ i : Nat, i + d = l.length →
    Ev (fun k => laws_toVoteS.l0 k l ((l.map cvVote).take i ++ List.replicate ((l.map cvVote).length - i) z40) (i : Int)) (l.map cvVote) := by
  have hm : (l.map cvVote).length = l.length := List.length_map ..
  induction d with
  | zero =>
    intro i hi
    obtain rfl : i = (l.map cvVote).length := by omega
    refine Ev.shift ?_
    simp only [laws_toVoteS.l0, show ¬ ((l.map cvVote).length : Int) < (l.length : Int) from by omega, ↓reduceIte, fill_all]
    exact Ev.now _
  | succ d ih =>
    intro i hi
    have h := ih (i + 1) (by omega)
    have hil : i < l.length := by omega
    have him : i < (l.map cvVote).length := by omega
    refine Ev.shift ?_
    have c1 : (i : Int) < (l.length : Int) := by omega
    have c2 : (0 : Int) ≤ (i : Int) := by omega
    have c3 : (i : Int) < (((l.map cvVote).take i ++ List.replicate ((l.map cvVote).length - i) z40).length : Int) := by rw [fill_length _ _ i (by omega)]; omega
    have hup := int_up hil (by omega)
    have hset := fill_set (l.map cvVote) z40 i him
    rw [List.getElem_map] at hset
    simp only [laws_toVoteS.l0, c1, c2, ↓reduceIte, rdLVote_nat l i hil, laws_toVote.f, Option.bind_some, c3, hup, Int.toNat_natCast]
    rw [show (⟨l[i].f0, l[i].f1, l[i].f2, l[i].f3⟩ : S40) = cvVote l[i] from rfl, hset]
    exact h
theorem laws_toVoteS_ev (l : List S35) (hl : l.length ≤ 1048576) : Ev (fun k => laws_toVoteS.f k l) (l.map cvVote) := by
  unfold laws_toVoteS.f
  have c1 : (0 : Int) ≤ (l.length : Int) := by omega
  have c2 : l.length ≤ 8796093022208 := by omega
  simp only [c1, Int.toNat_natCast, c2, ↓reduceIte]
  have h := laws_toVoteS_l0 l hl l.length 0 (by omega)
  rw [fill_none, List.length_map] at h
  exact h
theorem laws_eqVoteS_l0 (l : List S40) (hl : l.length ≤ 9223372036854775807) (d : Nat) : ∀ i : Nat, i + d = l.length → Ev (fun k => laws_eqVoteS.l0 k l l (i : Int)) true := by
  induction d with
  | zero =>
    intro i hi
    refine Ev.shift ?_
    simp only [laws_eqVoteS.l0, show ¬ (i : Int) < (l.length : Int) from by omega, ↓reduceIte]
    exact Ev.now _
  | succ d ih =>
    intro i hi
    have h := ih (i + 1) (by omega)
    have hil : i < l.length := by omega
    refine Ev.shift ?_
    have c1 : (i : Int) < (l.length : Int) := by omega
    have c2 : (0 : Int) ≤ (i : Int) := by omega
    simp only [laws_eqVoteS.l0, c1, c2, ↓reduceIte, laws_eqVote.f, Option.bind_some, int_up hil hl]
    exact h
theorem laws_eqVoteS_ev (l : List S40) (hl : l.length ≤ 9223372036854775807) : Ev (fun k => laws_eqVoteS.f k l l) true := by
  unfold laws_eqVoteS.f
  simp only [↓reduceIte]
  exact laws_eqVoteS_l0 l hl l.length 0 (by omega)

def okV (p v b : Int) (x : S40) : Bool := decide (x.f0 = p) && (decide (x.f1 = v) && decide (x.f2 = b))
def hasV (l : List S40) (p v b : Int) (j : Nat) : Bool := l.any fun x => okV p v b x && decide (x.f3 = (j : Int))
def sgnV (l : List S40) (p v b : Int) : Int := sgnT 7 (hasV l p v b)
theorem rdV_nat (l : List S40) (i : Nat) (h : i < l.length) : rd_T40 l (i : Int) = l[i] := getD_nat l _ i h
theorem hasV_drop {l : List S40} {i : Nat} (h : i < l.length) (p v b : Int) (j : Nat) : hasV (l.drop i) p v b j = ((okV p v b l[i] && decide (l[i].f3 = (j : Int))) || hasV (l.drop (i + 1)) p v b j) := by
  unfold hasV
  rw [List.drop_eq_getElem_cons h, List.any_cons]
theorem hasV_take {l : List S40} {i : Nat} (h : i < l.length) (p v b : Int) (j : Nat) : hasV (l.take (i + 1)) p v b j = (hasV (l.take i) p v b j || (okV p v b l[i] && decide (l[i].f3 = (j : Int)))) := by
  unfold hasV
  rw [List.take_succ_eq_append_getElem h, List.any_append, List.any_cons, List.any_nil, Bool.or_false]

theorem spec_SignersOf_l1 (l : List S40) (hl : l.length ≤ 9223372036854775806) (p v b : Int) (j : Nat) (hj : j < 7) (n r : Int) (n0 : 0 ≤ n) (n1 : n < 2 ^ j) (d : Nat) : ∀ i : Nat, i + d = l.length →
    Ev (fun k => spec_SignersOf.l0 k l p v b (n + (if hasV (l.drop i) p v b j = true then 2 ^ j else 0)) ((j + 1 : Nat) : Int)) r → Ev (fun k => spec_SignersOf.l1 k l p v b n (j : Int) (i : Int)) r := by
  have hup7 : wrap64 ((j : Int) + 1) = ((j + 1 : Nat) : Int) := int_up hj (by omega)
  induction d with
  | zero =>
    intro i hi h
    refine Ev.shift ?_
    simp only [spec_SignersOf.l1, show ¬ (i : Int) < (l.length : Int) from by omega, ↓reduceIte, hup7]
    have e : hasV (l.drop i) p v b j = false := by
      rw [List.drop_of_length_le (by omega)]
      rfl
    rw [e] at h
    simpa using h
  | succ d ih =>
    intro i hi h
    have hil : i < l.length := by omega
    have c1 : (i : Int) < (l.length : Int) := by omega
    have c2 : (0 : Int) ≤ (i : Int) := by omega
    have c3 : (0 : Int) ≤ (j : Int) := by omega
    have hu : IntKind.u64.wrap (j : Int) = (j : Int) := u64_id (by omega) (by omega)
    have hup : wrap64 ((i : Int) + 1) = ((i + 1 : Nat) : Int) := int_up hil (by omega)
    have hs := shl_one hj
    have hp : (2 : Int) ^ j ≤ 64 := by
      have h7 : j = 0 ∨ j = 1 ∨ j = 2 ∨ j = 3 ∨ j = 4 ∨ j = 5 ∨ j = 6 := by omega
      rcases h7 with rfl | rfl | rfl | rfl | rfl | rfl | rfl <;> decide
    have hw : wrap64 (n + 2 ^ j) = n + 2 ^ j := wrap_id (by omega) (by omega)
    rw [hasV_drop hil] at h
    have next : okV p v b l[i] = false ∨ decide (l[i].f3 = (j : Int)) = false → Ev (fun k => spec_SignersOf.l1 k l p v b n (j : Int) ((i + 1 : Nat) : Int)) r := by
      intro hno
      refine ih (i + 1) (by omega) ?_
      have e : (okV p v b l[i] && decide (l[i].f3 = (j : Int))) = false := by rcases hno with q | q <;> simp [q]
      rw [e, Bool.false_or] at h
      exact h
    refine Ev.shift ?_
    by_cases b3 : l[i].f3 = (j : Int)
    · by_cases b0 : l[i].f0 = p
      · by_cases b1 : l[i].f1 = v
        · by_cases b2 : l[i].f2 = b
          · simp only [spec_SignersOf.l1, c1, c2, rdV_nat l i hil, b3, b0, b1, b2, hu, c3, hs, hw, hup7, ↓reduceIte]
            have e : (okV p v b l[i] && decide (l[i].f3 = (j : Int))) = true := by unfold okV; simp [b0, b1, b2, b3]
            rw [e, Bool.true_or] at h
            simpa using h
          · simp only [spec_SignersOf.l1, c1, c2, rdV_nat l i hil, b3, b0, b1, b2, hup, ↓reduceIte]
            exact next (.inl (by unfold okV; simp [b2]))
        · simp only [spec_SignersOf.l1, c1, c2, rdV_nat l i hil, b3, b0, b1, hup, ↓reduceIte]
          exact next (.inl (by unfold okV; simp [b1]))
      · simp only [spec_SignersOf.l1, c1, c2, rdV_nat l i hil, b3, b0, hup, ↓reduceIte]
        exact next (.inl (by unfold okV; simp [b0]))
    · simp only [spec_SignersOf.l1, c1, c2, rdV_nat l i hil, b3, hup, ↓reduceIte]
      exact next (.inr (by simp [b3]))
theorem spec_SignersOf_l0 (l : List S40) (hl : l.length ≤ 9223372036854775806) (p v b : Int) (d : Nat) : ∀ j : Nat, j + d = 7 → Ev (fun k => spec_SignersOf.l0 k l p v b (sgnT j (hasV l p v b)) (j : Int)) (sgnV l p v b) := by
  induction d with
  | zero =>
    intro j hj
    obtain rfl : j = 7 := by omega
    refine Ev.shift ?_
    simp only [spec_SignersOf.l0, show ¬ ((7 : Nat) : Int) < 7 from by omega, ↓reduceIte]
    exact Ev.now _
  | succ d ih =>
    intro j hj
    have c1 : (j : Int) < 7 := by omega
    have hs := sgnT_small (hasV l p v b) j (by omega)
    refine Ev.shift ?_
    simp only [spec_SignersOf.l0, c1, ↓reduceIte]
    refine spec_SignersOf_l1 l hl p v b j (by omega) _ _ hs.1 hs.2 l.length 0 (by omega) ?_
    rw [List.drop_zero]
    exact ih (j + 1) (by omega)
theorem spec_SignersOf_ev (l : List S40) (hl : l.length ≤ 9223372036854775806) (p v b : Int) : Ev (fun k => spec_SignersOf.f k l p v b) (sgnV l p v b) :=
  spec_SignersOf_l0 l hl p v b 7 0 rfl

theorem impl_isPeer_eq (a n : Int) : impl_isPeer.f a n = some (decide (0 ≤ a ∧ a < n)) := by
  unfold impl_isPeer.f
  by_cases h : a ≥ 0
  · simp [h]
  · have h' : ¬ 0 ≤ a := by omega
    simp [h, h']
theorem impl_SignersOf_l0 (l : List S40) (hl : l.length ≤ 9223372036854775806) (p v b : Int) (d : Nat) : ∀ i : Nat, i + d = l.length →
    Ev (fun k => impl_SignersOf.l0 k p v b (sgnT 7 (hasV (l.take i) p v b)) l (l.length : Int) (i : Int)) (sgnV l p v b) := by
  induction d with
  | zero =>
    intro i hi
    obtain rfl : i = l.length := by omega
    refine Ev.shift ?_
    simp only [impl_SignersOf.l0, show ¬ (l.length : Int) < (l.length : Int) from by omega, ↓reduceIte, List.take_length]
    exact Ev.now _
  | succ d ih =>
    intro i hi
    have hr := ih (i + 1) (by omega)
    have hil : i < l.length := by omega
    have c1 : (i : Int) < (l.length : Int) := by omega
    have c2 : (0 : Int) ≤ (i : Int) := by omega
    have hup : wrap64 ((i : Int) + 1) = ((i + 1 : Nat) : Int) := int_up hil (by omega)
    have idle : (∀ j : Nat, j < 7 → (okV p v b l[i] && decide (l[i].f3 = (j : Int))) = false) → Ev (fun k => impl_SignersOf.l0 k p v b (sgnT 7 (hasV (l.take i) p v b)) l (l.length : Int) ((i + 1 : Nat) : Int)) (sgnV l p v b) := by
      intro hno
      have e : sgnT 7 (hasV (l.take i) p v b) = sgnT 7 (hasV (l.take (i + 1)) p v b) := sgnT_congr 7 fun j hj => by rw [hasV_take hil, hno j hj, Bool.or_false]
      rw [e]
      exact hr
    refine Ev.shift ?_
    by_cases b0 : l[i].f0 = p
    · by_cases b1 : l[i].f1 = v
      · by_cases b2 : l[i].f2 = b
        · by_cases b3 : 0 ≤ l[i].f3 ∧ l[i].f3 < 7
          · obtain ⟨j, hj⟩ : ∃ j : Nat, l[i].f3 = (j : Int) := ⟨l[i].f3.toNat, by omega⟩
            have hj7 : j < 7 := by omega
            have c4 : (0 : Int) ≤ (j : Int) := by omega
            have hd : impl_isPeer.f (j : Int) 7 = some true := by rw [impl_isPeer_eq, decide_eq_true ⟨c4, by omega⟩]
            simp only [impl_SignersOf.l0, c1, c2, rdV_nat l i hil, b0, b1, b2, hj, hd, c4, Option.bind_some, shl_one hj7, sgn_or _ hj7, hup, ↓reduceIte]
            have e : sgnT 7 (fun m => hasV (l.take i) p v b m || decide (m = j)) = sgnT 7 (hasV (l.take (i + 1)) p v b) := sgnT_congr 7 fun m hm => by
              rw [hasV_take hil]
              congr 1
              unfold okV
              by_cases q : m = j
              · subst q
                simp [b0, b1, b2, hj]
              · have q' : ¬ (j : Int) = (m : Int) := fun z => q (by omega)
                simp [q, hj, q']
            rw [e]
            exact hr
          · have hd : impl_isPeer.f l[i].f3 7 = some false := by rw [impl_isPeer_eq, decide_eq_false b3]
            simp only [impl_SignersOf.l0, c1, c2, rdV_nat l i hil, b0, b1, b2, hd, Option.bind_some, hup, ↓reduceIte, Bool.false_eq_true]
            exact idle fun j hj => by
              have q : ¬ l[i].f3 = (j : Int) := fun z => b3 (by omega)
              simp [q]
        · simp only [impl_SignersOf.l0, c1, c2, rdV_nat l i hil, b0, b1, b2, hup, ↓reduceIte]
          exact idle fun j hj => by unfold okV; simp [b2]
      · simp only [impl_SignersOf.l0, c1, c2, rdV_nat l i hil, b0, b1, hup, ↓reduceIte]
        exact idle fun j hj => by unfold okV; simp [b1]
    · simp only [impl_SignersOf.l0, c1, c2, rdV_nat l i hil, b0, hup, ↓reduceIte]
      exact idle fun j hj => by unfold okV; simp [b0]
theorem impl_SignersOf_ev (l : List S40) (hl : l.length ≤ 9223372036854775806) (p v b : Int) : Ev (fun k => impl_SignersOf.f k l p v b) (sgnV l p v b) := by
  have h := impl_SignersOf_l0 l hl p v b l.length 0 (by omega)
  have e : sgnT 7 (hasV (l.take 0) p v b) = 0 := by
    exact (sgnT_congr (f := hasV (l.take 0) p v b) (g := fun _ => false) 7 fun j hj => rfl).trans (by decide)
  rw [e] at h
  exact h

theorem spec_CountOf_l0 (x : Int) (hx : 0 ≤ x) (hx1 : x ≤ 9223372036854775807) (d : Nat) : ∀ i : Nat, i + d = 7 → Ev (fun k => spec_CountOf.l0 k x (cntTo i x) (i : Int)) (cntTo 7 x) := by
  induction d with
  | zero =>
    intro i hi
    obtain rfl : i = 7 := by omega
    refine Ev.shift ?_
    simp only [spec_CountOf.l0, show ¬ ((7 : Nat) : Int) < 7 from by omega, ↓reduceIte]
    exact Ev.now _
  | succ d ih =>
    intro i hi
    refine Ev.shift ?_
    have h1 : (i : Int) < 7 := by omega
    have h2 : x ≥ 0 := hx
    have h3 : IntKind.u64.wrap (i : Int) = i := u64_id (by omega) (by omega)
    have h4 : (0 : Int) ≤ i := by omega
    have hc := cntTo_range x i
    have hb := bitAt_range x i
    have h5 : wrap64 (cntTo i x + Int.tmod (shr .i64 x (i : Int)) 2) = cntTo (i + 1) x := by
      rw [shr_bit (by omega), tmod_pos (shr_nonneg hx hx1).1]
      show wrap64 (cntTo i x + bitAt x i) = cntTo i x + bitAt x i
      exact wrap_id (by omega) (by omega)
    have h6 : wrap64 ((i : Int) + 1) = ((i + 1 : Nat) : Int) := by rw [wrap_id (by omega) (by omega)]; omega
    simp only [spec_CountOf.l0, h1, h2, h3, h4, h5, h6, ↓reduceIte]
    exact ih (i + 1) (by omega)
theorem spec_CountOf_ev (x : Int) (hx1 : x ≤ 9223372036854775807) : Ev (fun k => spec_CountOf.f k x) (cnt x) := by
  unfold cnt
  by_cases h : x ≥ 0
  · have h1 := spec_CountOf_l0 x h hx1 7 0 rfl
    by_cases h0 : x > 0
    · simp only [h0, ↓reduceIte]
      exact h1
    · obtain rfl : x = 0 := by omega
      rw [cntTo_zero] at h1
      exact h1
  · have h0 : ¬ x > 0 := by omega
    simp only [h0, ↓reduceIte]
    refine Ev.shift ?_
    unfold spec_CountOf.f
    simp only [spec_CountOf.l0, h, ↓reduceIte, show (0 : Int) < 7 from by decide]
    exact Ev.now _

theorem impl_CountOf_l0 (x : Int) (hx : 0 < x) (hx1 : x ≤ 9223372036854775807) (d : Nat) : ∀ i : Nat, i + d = 7 → Ev (fun k => impl_CountOf.l0 k x (cntTo i x) (i : Int)) (cntTo 7 x) := by
  induction d with
  | zero =>
    intro i hi
    obtain rfl : i = 7 := by omega
    refine Ev.shift ?_
    simp only [impl_CountOf.l0, show ¬ ((7 : Nat) : Int) < 7 from by omega, ↓reduceIte]
    exact Ev.now _
  | succ d ih =>
    intro i hi
    refine Ev.shift ?_
    have h1 : (i : Int) < 7 := by omega
    have h2 : x > 0 := hx
    have h4 : (0 : Int) ≤ i := by omega
    have hc := cntTo_range x i
    have hb := bitAt_range x i
    have hs := shr_nonneg (i := i) (Int.le_of_lt hx) hx1
    have h5 : wrap64 (cntTo i x + Go.bits .and .i64 (shr .i64 x (i : Int)) 1) = cntTo (i + 1) x := by
      rw [shr_bit (by omega), and1_i64 hs.1 hs.2]
      show wrap64 (cntTo i x + bitAt x i) = cntTo i x + bitAt x i
      exact wrap_id (by omega) (by omega)
    have h6 : wrap64 ((i : Int) + 1) = ((i + 1 : Nat) : Int) := by rw [wrap_id (by omega) (by omega)]; omega
    simp only [impl_CountOf.l0, h1, h2, h4, h5, h6, ↓reduceIte]
    exact ih (i + 1) (by omega)
theorem impl_CountOf_neg (x : Int) (hx : ¬ x > 0) (d : Nat) : ∀ i : Nat, i + d = 7 → Ev (fun k => impl_CountOf.l0 k x 0 (i : Int)) 0 := by
  induction d with
  | zero =>
    intro i hi
    obtain rfl : i = 7 := by omega
    refine Ev.shift ?_
    simp only [impl_CountOf.l0, show ¬ ((7 : Nat) : Int) < 7 from by omega, ↓reduceIte]
    exact Ev.now _
  | succ d ih =>
    intro i hi
    refine Ev.shift ?_
    have h1 : (i : Int) < 7 := by omega
    have h6 : wrap64 ((i : Int) + 1) = ((i + 1 : Nat) : Int) := by rw [wrap_id (by omega) (by omega)]; omega
    simp only [impl_CountOf.l0, h1, hx, h6, ↓reduceIte]
    exact ih (i + 1) (by omega)
theorem impl_CountOf_ev (x : Int) (hx1 : x ≤ 9223372036854775807) : Ev (fun k => impl_CountOf.f k x) (cnt x) := by
  unfold cnt
  by_cases h0 : x > 0
  · simp only [h0, ↓reduceIte]
    exact impl_CountOf_l0 x h0 hx1 7 0 rfl
  · simp only [h0, ↓reduceIte]
    exact impl_CountOf_neg x h0 7 0 rfl

def quoB (n : Int) : Int := if n < 1 then wrap64 (n - 0) else wrap64 (n - wrap64 (Int.tdiv (wrap64 (n - 1)) 3))
theorem impl_Quorum_q (n : Int) : impl_Quorum.f n = some (quoB n) := by
  unfold impl_Quorum.f impl_Faults.f quoB
  by_cases h : n < 1 <;> simp [h]

theorem spec_Quorum_q (n : Int) : spec_Quorum.f n = some (quoB n) := by
  unfold spec_Quorum.f spec_Faults.f quoB
  by_cases h : n < 1 <;> simp [h]

def qcOfB (l : List S40) (p v b n : Int) : Int × Int × Int × Int × Bool := if cnt (sgnV l p v b) < quoB n then (0, 0, 0, 0, false) else (p, v, b, sgnV l p v b, true)
theorem spec_QcOf_ev (l : List S40) (hl : l.length ≤ 9223372036854775806) (p v b n : Int) : Ev (fun k => spec_QcOf.f k l p v b n) (qcOfB l p v b n) := by
  unfold spec_QcOf.f qcOfB
  have hr := sgnT_range (hasV l p v b)
  refine Ev.bind (spec_SignersOf_ev l hl p v b) (Ev.bind (spec_CountOf_ev _ (Int.le_trans hr.2 (by decide))) ?_)
  simp only [spec_Quorum_q, Option.bind_some]
  by_cases h : cnt (sgnV l p v b) < quoB n
  · simp only [h, ↓reduceIte]
    exact Ev.now _
  · simp only [h, ↓reduceIte]
    exact Ev.now _
theorem impl_QcOf_ev (l : List S40) (hl : l.length ≤ 9223372036854775806) (p v b n : Int) : Ev (fun k => impl_QcOf.f k l p v b n) (qcOfB l p v b n) := by
  unfold impl_QcOf.f qcOfB
  have hr := sgnT_range (hasV l p v b)
  refine Ev.bind (impl_SignersOf_ev l hl p v b) (Ev.bind (impl_CountOf_ev _ (Int.le_trans hr.2 (by decide))) ?_)
  simp only [impl_Quorum_q, Option.bind_some]
  by_cases h : cnt (sgnV l p v b) < quoB n
  · simp only [h, ↓reduceIte]
    exact Ev.now _
  · simp only [h, ↓reduceIte]
    exact Ev.now _
theorem FnExactQcOf : laws_FnExactQcOf.Pure := by
  intro l p v b n hl _ _ _ _
  refine Ev.rounds ?_
  unfold laws_FnExactQcOf.f laws_szVoteS.f
  have hl0 := hl.1
  have e : wrap64 (1048576 - (l.length : Int)) = 1048576 - (l.length : Int) := wrap_id (by omega) (by omega)
  simp only [e]
  by_cases hz : (1048576 : Int) - (l.length : Int) < 0
  · simp only [hz, ↓reduceIte, Option.bind_some, show ((-1 : Int) < 0) = True from eq_true (by decide)]
    exact Ev.now _
  · have hlen : l.length ≤ 1048576 := by omega
    have hm : (l.map cvVote).length ≤ 9223372036854775806 := by rw [List.length_map]; omega
    simp only [hz, ↓reduceIte, Option.bind_some]
    have t := laws_toVoteS_ev l hlen
    refine Ev.bind t (Ev.bind (spec_QcOf_ev _ hm p v b n) (Ev.bind t (Ev.bind (impl_QcOf_ev _ hm p v b n) ?_)))
    simp only [laws_eqQc.f, ↓reduceIte, Option.bind_some, bne_self_eq_false]
    refine Ev.shift ?_
    simp only [laws_FnExactQcOf.j0, Bool.false_eq_true, ↓reduceIte]
    refine Ev.bind t (Ev.bind (laws_eqVoteS_ev _ (by omega)) ?_)
    simp only [↓reduceIte]
    exact Ev.now _

end Go.Proofs.Ytmcopcpeacikmaa.Pure

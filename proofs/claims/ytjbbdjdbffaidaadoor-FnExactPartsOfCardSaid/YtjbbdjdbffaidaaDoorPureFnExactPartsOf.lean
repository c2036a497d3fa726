/- For every input that the statement reads, the law FnExactPartsOf of the given program returns true and leaves its arguments as they were. Conditions: none but the statement's own. -/
import Derived.Test.YtjbbdjdbffaidaaDoorQFnExactPartsOfx2
import Derived.Test.YtjbbdjdbffaidaaDoorLib
import Derived.Test.YtjbbdjdbffaidaaDoorLibList
import Derived.Test.YtjbbdjdbffaidaaDoorLibText
set_option linter.unusedVariables false
set_option linter.unusedSimpArgs false
namespace Go.Proofs.YtjbbdjdbffaidaaDoor.Pure
open Go.RowKit Go.Proofs.YtjbbdjdbffaidaaDoor.QFnExactPartsOf Go.Proofs.YtjbbdjdbffaidaaDoorW.PrintWords Go.Proofs.YtjbbdjdbffaidaaDoorW.PrintLast Go.Proofs.YtjbbdjdbffaidaaDoorW.PrintMore Go.Proofs.YtjbbdjdbffaidaaDoor.Lib

theorem markText_l0 (d : Nat) : ∀ (x : Int) (s : ByteArray), 0 ≤ x → x ≤ 9223372036854775807 → x.toNat < 10 ^ d → s.size + d ≤ 1000 → ∃ r, Ev (fun k => laws_markText.l0 k x s) r := by
  induction d with
  | zero =>
    intro x s h0 h1 h2 h3
    have hx : ¬ x > 0 := by simp at h2; omega
    have hs : 1 + s.size ≤ 9223372036854775807 := by omega
    exact ⟨_, Ev.shift (by simp only [laws_markText.l0, hx, hs, ↓reduceIte]; exact Ev.now _)⟩
  | succ d ih =>
    intro x s h0 h1 h2 h3
    by_cases hx : x > 0
    · have hz : (strOfNums [(wrap64 (48 + (Int.tmod x 10))) % 256]).size = 1 := by rw [strOfNums_size]; rfl
      have hs : (strOfNums [(wrap64 (48 + (Int.tmod x 10))) % 256]).size + s.size ≤ 9223372036854775807 := by rw [hz]; omega
      have hd : wrap64 (Int.tdiv x 10) = x / 10 := by rw [tdiv_pos h0]; exact wrap_id (by omega) (by omega)
      have hp : (x / 10).toNat < 10 ^ d := by
        rw [Nat.pow_succ] at h2
        omega
      obtain ⟨r, hr⟩ := ih (x / 10) (strOfNums [(wrap64 (48 + (Int.tmod x 10))) % 256] ++ s) (by omega) (by omega) hp (by rw [ByteArray.size_append, hz]; omega)
      exact ⟨r, Ev.shift (by simp only [laws_markText.l0, hx, hs, hd, ↓reduceIte, Option.bind_some]; exact hr)⟩
    · have hs : 1 + s.size ≤ 9223372036854775807 := by omega
      exact ⟨_, Ev.shift (by simp only [laws_markText.l0, hx, hs, ↓reduceIte]; exact Ev.now _)⟩
theorem markText_ev (x : Int) (h1 : x ≤ 9223372036854775807) : ∃ r, Ev (fun k => laws_markText.f k x) r := by
  by_cases h : x ≤ 0
  · exact ⟨_, by unfold laws_markText.f; simp only [h, ↓reduceIte]; exact Ev.now _⟩
  · have h10 : (10 : Nat) ^ 19 = 10000000000000000000 := by decide
    obtain ⟨r, hr⟩ := markText_l0 19 x ⟨#[]⟩ (by omega) h1 (by rw [h10]; omega) (by decide)
    exact ⟨r, by unfold laws_markText.f; simp only [h, ↓reduceIte]; exact hr⟩

/-- The text that marks a place. -/
noncomputable def mkT (x : Int) : ByteArray := if h : x ≤ 9223372036854775807 then (markText_ev x h).choose else ⟨#[]⟩
theorem mkT_ev (x : Int) (h : x ≤ 9223372036854775807) : Ev (fun k => laws_markText.f k x) (mkT x) := by
  unfold mkT
  rw [dif_pos h]
  exact (markText_ev x h).choose_spec
noncomputable def mkTs : Nat → Int → List ByteArray
  | 0, _ => []
  | d + 1, v => mkT v :: mkTs d (v + 1)
theorem mkTs_length : ∀ d v, (mkTs d v).length = d
  | 0, _ => rfl
  | d + 1, v => by simp only [mkTs, List.length_cons, mkTs_length d (v + 1)]
theorem rdS_nat (l : List ByteArray) (i : Nat) (h : i < l.length) : rdOf ByteArray.empty l (i : Int) = l[i] := getD_nat l _ i h
theorem markStrs_l0 (d : Nat) : ∀ (i : Nat) (x : List ByteArray) (v : Int), i + d = x.length → 0 ≤ v → v + d ≤ 4611686018427387904 → x.length ≤ 9223372036854775807 →
    Ev (fun k => laws_markStringS.l0 k x v (i : Int)) (v + d, x.take i ++ mkTs d v) := by
  induction d with
  | zero =>
    intro i x v hi h0 h1 hl
    refine Ev.shift ?_
    simp only [laws_markStringS.l0, show ¬ (i : Int) < (x.length : Int) from by omega, ↓reduceIte]
    refine Ev.eq (Ev.now _) ?_
    rw [List.take_of_length_le (by omega), mkTs, List.append_nil]
    simp
  | succ d ih =>
    intro i x v hi h0 h1 hl
    have hil : i < x.length := by omega
    have c1 : (i : Int) < (x.length : Int) := by omega
    have c2 : (0 : Int) ≤ (i : Int) := by omega
    have hup := int_up hil hl
    have w1 : wrap64 (v + 1) = v + 1 := wrap_id (by omega) (by omega)
    have ht := mkT_ev v (by omega)
    have hr := ih (i + 1) (x.set i (mkT v)) (v + 1) (by rw [List.length_set]; omega) (by omega) (by omega) (by rw [List.length_set]; exact hl)
    refine Ev.shift ?_
    simp only [laws_markStringS.l0, c1, c2, w1, hup, ↓reduceIte, Int.toNat_natCast]
    refine Ev.bind ht ?_
    refine Ev.eq hr ?_
    rw [List.take_succ_eq_append_getElem (by rw [List.length_set]; exact hil), List.getElem_set_self, List.take_set_of_le (Nat.le_refl _), mkTs, List.append_assoc, List.singleton_append]
    congr 1
    omega
theorem heldStrs_l0 (d : Nat) : ∀ (p : List ByteArray) (v : Int), 0 ≤ v → v + d ≤ 4611686018427387904 → p.length + d ≤ 9223372036854775807 →
    Ev (fun k => laws_heldStringS.l0 k (p ++ mkTs d v) v (p.length : Int)) (v + d) := by
  induction d with
  | zero =>
    intro p v h0 h1 hl
    refine Ev.shift ?_
    have e : v + ((0 : Nat) : Int) = v := by omega
    simp only [laws_heldStringS.l0, mkTs, List.append_nil, show ¬ (p.length : Int) < (p.length : Int) from by omega, ↓reduceIte, e]
    exact Ev.now _
  | succ d ih =>
    intro p v h0 h1 hl
    have hll : (p ++ mkTs (d + 1) v).length = p.length + (d + 1) := by rw [List.length_append, mkTs_length]
    have hil : p.length < (p ++ mkTs (d + 1) v).length := by omega
    have c1 : (p.length : Int) < ((p ++ mkTs (d + 1) v).length : Int) := by omega
    have c2 : (0 : Int) ≤ (p.length : Int) := by omega
    have hup := int_up hil (by omega)
    have w1 : wrap64 (v + 1) = v + 1 := wrap_id (by omega) (by omega)
    have ht := mkT_ev v (by omega)
    have hr := ih (p ++ [mkT v]) (v + 1) (by omega) (by omega) (by rw [List.length_append, List.length_singleton]; omega)
    have e : p ++ [mkT v] ++ mkTs d (v + 1) = p ++ mkTs (d + 1) v := by rw [mkTs, List.append_assoc, List.singleton_append]
    have e2 : (p ++ [mkT v]).length = p.length + 1 := by rw [List.length_append, List.length_singleton]
    have e3 : v + 1 + (d : Int) = v + ((d + 1 : Nat) : Int) := by omega
    have eg : rdOf ByteArray.empty (p ++ mkTs (d + 1) v) (p.length : Int) = mkT v := by
      rw [rdS_nat _ _ hil, List.getElem_append_right (Nat.le_refl _)]
      simp only [mkTs, Nat.sub_self, List.getElem_cons_zero]
    rw [e, e2, e3] at hr
    refine Ev.shift ?_
    simp only [laws_heldStringS.l0, c1, c2, w1, hup, eg, ↓reduceIte]
    refine Ev.bind ht ?_
    simp only [↓reduceIte]
    exact hr
theorem markStrs_ev (x : List ByteArray) (hx : x.length ≤ 1048576) : Ev (fun k => laws_markStringS.f k x 1) (1 + (x.length : Int), mkTs x.length 1) := by
  have h := markStrs_l0 x.length 0 x 1 (by omega) (by omega) (by omega) (by omega)
  rw [List.take_zero, List.nil_append] at h
  exact h
theorem heldStrs_ev (d : Nat) (hd : d ≤ 1048576) : Ev (fun k => laws_heldStringS.f k (mkTs d 1) 1) (1 + (d : Int)) := by
  have h := heldStrs_l0 d [] 1 (by omega) (by omega) (by simp; omega)
  exact h
theorem eqStrs_l0 (x : List ByteArray) (hx : x.length ≤ 9223372036854775807) (d : Nat) : ∀ i : Nat, i + d = x.length → Ev (fun k => laws_eqStringS.l0 k x x (i : Int)) true := by
  induction d with
  | zero =>
    intro i hi
    refine Ev.shift ?_
    simp only [laws_eqStringS.l0, show ¬ (i : Int) < (x.length : Int) from by omega, ↓reduceIte]
    exact Ev.now _
  | succ d ih =>
    intro i hi
    have hil : i < x.length := by omega
    have c1 : (i : Int) < (x.length : Int) := by omega
    have c2 : (0 : Int) ≤ (i : Int) := by omega
    have hup := int_up hil hx
    refine Ev.shift ?_
    simp only [laws_eqStringS.l0, c1, c2, hup, ↓reduceIte]
    exact ih (i + 1) (by omega)
theorem eqStrs_ev (x : List ByteArray) (hx : x.length ≤ 9223372036854775807) : Ev (fun k => laws_eqStringS.f k x x) true := by
  unfold laws_eqStringS.f
  simp only [↓reduceIte]
  exact eqStrs_l0 x hx x.length 0 (by omega)

def okP (b : UInt8) : Bool := decide (32 ≤ b.toNat ∧ b.toNat ≤ 126)
def toBA (l : List UInt8) : ByteArray := ⟨l.toArray⟩
def finP (f : List ByteArray) : List ByteArray × Bool := if (f.length : Int) > 10 then ([], false) else (f, true)
def partsR (s : ByteArray) : List ByteArray × Bool :=
  if (s.size : Int) > 600 then ([], false) else if s.data.toList.all okP = true then finP ((Lib.fields s.data.toList).map toBA) else ([], false)
theorem finP_length (f : List ByteArray) : (finP f).1.length ≤ 10 := by
  unfold finP
  split
  · exact Nat.zero_le _
  · dsimp only
    omega
theorem partsR_length (s : ByteArray) : (partsR s).1.length ≤ 10 := by
  unfold partsR
  split
  · exact Nat.zero_le _
  · split
    · exact finP_length _
    · exact Nat.zero_le _
set_option maxRecDepth 100000 in
theorem isSp_ok (b : UInt8) (h : okP b = true) : Lib.isSp b = decide (b.toNat = 32) := by
  have h2 : ∀ n : Fin 256, okP (UInt8.ofNat n.val) = true → Lib.isSp (UInt8.ofNat n.val) = decide ((UInt8.ofNat n.val).toNat = 32) := by decide
  have := h2 ⟨b.toNat, b.toNat_lt⟩
  simp only [UInt8.ofNat_toNat] at this
  exact this h
theorem btP (s : ByteArray) (i : Nat) (h : i < s.data.toList.length) : bt s (i : Int) = ((s.data.toList[i]).toNat : Int) := by
  have h' : i < s.size := by rw [Array.length_toList] at h; exact h
  rw [bt_get h']
  rfl

theorem extractBA (s : ByteArray) (a b : Nat) : s.extract a b = toBA ((s.data.toList.drop a).take (b - a)) := by
  apply ByteArray.ext
  rw [ByteArray.data_extract]
  apply Array.ext'
  rw [Array.toList_extract, List.extract_eq_take_drop]
  rfl
theorem cur_snoc (l : List UInt8) (a i : Nat) (ha : a ≤ i) (hi : i < l.length) : (l.drop a).take (i + 1 - a) = (l.drop a).take (i - a) ++ [l[i]] := by
  rw [show i + 1 - a = i - a + 1 from by omega, List.take_succ_eq_append_getElem (by rw [List.length_drop]; omega), List.getElem_drop]
  simp only [show a + (i - a) = i from by omega]
def goP (s : ByteArray) (acc : List ByteArray) (a i : Nat) : List ByteArray × Bool :=
  if (s.data.toList.drop i).all okP = true then finP (acc ++ (Lib.fieldsGo ((s.data.toList.drop a).take (i - a)) (s.data.toList.drop i)).map toBA) else ([], false)
theorem spec_PartsOf_out (s : ByteArray) (acc : List ByteArray) (a : Int) (i : Int) (h : ¬ i ≤ (s.size : Int)) : Ev (fun k => spec_PartsOf.l0 k s acc a i) (finP acc) := by
  refine Ev.shift ?_
  simp only [spec_PartsOf.l0, h, ↓reduceIte, finP]
  split
  · exact Ev.now _
  · exact Ev.now _
theorem spec_PartsOf_l0 (s : ByteArray) (hs : s.size ≤ 600) (d : Nat) :
    ∀ (acc : List ByteArray) (a i : Nat), a ≤ i → i + d = s.data.toList.length → acc.length ≤ i → Ev (fun k => spec_PartsOf.l0 k s acc (a : Int) (i : Int)) (goP s acc a i) := by
  have hz : s.data.toList.length = s.size := Array.length_toList
  induction d with
  | zero =>
    intro acc a i hai hi hacc
    have c0 : (i : Int) ≤ (s.size : Int) := by omega
    have c1 : ¬ (i : Int) < (s.size : Int) := by omega
    have w1 : wrap64 ((i : Int) + 1) = (i : Int) + 1 := wrap_id (by omega) (by omega)
    have hd : s.data.toList.drop i = [] := List.drop_of_length_le (by omega)
    unfold goP
    rw [hd]
    simp only [List.all_nil, ↓reduceIte]
    refine Ev.shift ?_
    simp only [spec_PartsOf.l0, c0, c1, ↓reduceIte]
    refine Ev.shift ?_
    simp only [spec_PartsOf.j1, c1, ↓reduceIte, Bool.false_eq_true]
    refine Ev.shift ?_
    simp only [spec_PartsOf.j2, w1, ↓reduceIte, Bool.false_eq_true]
    by_cases h : (a : Int) < (i : Int)
    · have c2 : (0 : Int) ≤ (a : Int) := by omega
      have c3 : (a : Int) ≤ (i : Int) := by omega
      have c4 : acc.length < 8796093022208 := by omega
      simp only [h, c0, c2, c3, c4, ↓reduceIte, Int.toNat_natCast]
      refine Ev.eq (spec_PartsOf_out s _ _ _ (by omega)) ?_
      have hn : ((s.data.toList.drop a).take (i - a)).isEmpty = false := by
        rw [List.isEmpty_eq_false_iff, ← List.length_pos_iff, List.length_take, List.length_drop]
        omega
      rw [extractBA, Lib.fieldsGo, hn]
      rfl
    · simp only [h, ↓reduceIte]
      refine Ev.eq (spec_PartsOf_out s _ _ _ (by omega)) ?_
      rw [show i - a = 0 from by omega, List.take_zero, Lib.fieldsGo]
      simp
  | succ d ih =>
    intro acc a i hai hi hacc
    have hil : i < s.data.toList.length := by omega
    have c0 : (i : Int) ≤ (s.size : Int) := by omega
    have c1 : (i : Int) < (s.size : Int) := by omega
    have c2 : (0 : Int) ≤ (i : Int) := by omega
    have hup := int_up hil (by omega)
    have hb := btP s i hil
    have hs1 := cur_snoc s.data.toList a i hai hil
    have e0 : s.data.toList.drop i = s.data.toList[i] :: s.data.toList.drop (i + 1) := List.drop_eq_getElem_cons hil
    generalize s.data.toList[i] = b at hb hs1 e0
    unfold goP
    rw [e0, List.all_cons]
    refine Ev.shift ?_
    simp only [spec_PartsOf.l0, c0, c1, c2, hb, ↓reduceIte]
    by_cases h1 : (b.toNat : Int) < 32
    · have e : okP b = false := decide_eq_false (by omega)
      simp only [h1, e, ↓reduceIte, Bool.false_and, Bool.false_eq_true]
      refine Ev.shift ?_
      simp only [spec_PartsOf.j1, ↓reduceIte]
      exact Ev.now _
    · by_cases h2 : (b.toNat : Int) > 126
      · have e : okP b = false := decide_eq_false (by omega)
        simp only [h1, h2, e, ↓reduceIte, Bool.false_and, Bool.false_eq_true, decide_true]
        refine Ev.shift ?_
        simp only [spec_PartsOf.j1, ↓reduceIte]
        exact Ev.now _
      · have e : okP b = true := decide_eq_true (by omega)
        have hsp := isSp_ok b e
        simp only [h1, h2, e, ↓reduceIte, Bool.true_and, decide_false]
        refine Ev.shift ?_
        simp only [spec_PartsOf.j1, c1, c2, hb, ↓reduceIte, Bool.false_eq_true]
        refine Ev.shift ?_
        by_cases h3 : b.toNat = 32
        · have e3 : ((b.toNat : Int) != 32) = false := by rw [h3]; rfl
          rw [h3] at hsp
          simp only [decide_true] at hsp
          simp only [spec_PartsOf.j2, e3, hup, ↓reduceIte, Bool.false_eq_true]
          by_cases h : (a : Int) < (i : Int)
          · have c3 : (0 : Int) ≤ (a : Int) := by omega
            have c4 : (a : Int) ≤ (i : Int) := by omega
            have c5 : acc.length < 8796093022208 := by omega
            simp only [h, c0, c3, c4, c5, ↓reduceIte, Int.toNat_natCast]
            refine Ev.eq (ih (acc ++ [s.extract a i]) (i + 1) (i + 1) (Nat.le_refl _) (by omega) (by rw [List.length_append, List.length_singleton]; omega)) ?_
            have hn : (s.data.toList.drop a).take (i - a) ≠ [] := by
              rw [← List.length_pos_iff, List.length_take, List.length_drop]
              omega
            rw [goP, Nat.sub_self, List.take_zero, Lib.fieldsGo_end _ _ _ hsp hn, extractBA, List.append_assoc]
            rfl
          · simp only [h, ↓reduceIte]
            refine Ev.eq (ih acc (i + 1) (i + 1) (Nat.le_refl _) (by omega) (by omega)) ?_
            rw [goP, show i - a = 0 from by omega, Nat.sub_self, List.take_zero, List.take_zero, Lib.fieldsGo_sp _ _ hsp]
        · have e3 : ((b.toNat : Int) != 32) = true := by
            rw [bne_iff_ne]
            omega
          rw [decide_eq_false h3] at hsp
          simp only [spec_PartsOf.j2, e3, hup, ↓reduceIte]
          refine Ev.eq (ih acc a (i + 1) (by omega) (by omega) (by omega)) ?_
          rw [goP, hs1, Lib.fieldsGo_more _ _ _ hsp]
theorem spec_PartsOf_ev (s : ByteArray) : Ev (fun k => spec_PartsOf.f k s) (partsR s) := by
  unfold spec_PartsOf.f partsR
  simp only [Option.bind_some]
  by_cases h : (s.size : Int) > 600
  · simp only [h, ↓reduceIte]
    exact Ev.now _
  · simp only [h, ↓reduceIte]
    have hr := spec_PartsOf_l0 s (by omega) s.data.toList.length [] 0 0 (Nat.le_refl _) (by omega) (by simp)
    exact hr

theorem impl_PartsOf_l0 (s : ByteArray) (hs : s.size ≤ 600) (R : List ByteArray × Bool) (hR : s.data.toList.all okP = true → Ev (fun k => impl_PartsOf.l0 k s (s.size : Int) (s.size : Int)) R) (d : Nat) :
    ∀ i : Nat, i + d = s.data.toList.length → (s.data.toList.take i).all okP = true → Ev (fun k => impl_PartsOf.l0 k s (s.size : Int) (i : Int)) (if (s.data.toList.drop i).all okP = true then R else ([], false)) := by
  have hz : s.data.toList.length = s.size := Array.length_toList
  induction d with
  | zero =>
    intro i hi ht
    rw [List.take_of_length_le (by omega)] at ht
    rw [List.drop_of_length_le (by omega), show i = s.size from by omega]
    simp only [List.all_nil, ↓reduceIte]
    exact hR ht
  | succ d ih =>
    intro i hi ht
    have hil : i < s.data.toList.length := by omega
    have c1 : (i : Int) < (s.size : Int) := by omega
    have c2 : (0 : Int) ≤ (i : Int) := by omega
    have hup := int_up hil (by omega)
    have hb := btP s i hil
    have e0 : (s.data.toList.drop i).all okP = (okP (s.data.toList[i]) && (s.data.toList.drop (i + 1)).all okP) := by rw [List.drop_eq_getElem_cons hil, List.all_cons]
    have hr : okP (s.data.toList[i]) = true → _ := fun e => ih (i + 1) (by omega) (by rw [List.take_succ_eq_append_getElem hil, List.all_append, ht, List.all_cons, e]; rfl)
    refine Ev.shift ?_
    rw [e0]
    generalize s.data.toList[i] = b at hb hr ⊢
    simp only [impl_PartsOf.l0, c1, c2, hb, hup, ↓reduceIte]
    by_cases h1 : (b.toNat : Int) < 32
    · have e : okP b = false := decide_eq_false (by omega)
      simp only [h1, e, ↓reduceIte, Bool.false_and, Bool.false_eq_true]
      exact Ev.now _
    · by_cases h2 : (b.toNat : Int) > 126
      · have e : okP b = false := decide_eq_false (by omega)
        simp only [h1, h2, e, ↓reduceIte, Bool.false_and, Bool.false_eq_true]
        exact Ev.now _
      · have e : okP b = true := decide_eq_true (by omega)
        simp only [h1, h2, e, ↓reduceIte, Bool.true_and]
        exact hr e
theorem impl_PartsOf_ev (s : ByteArray) : Ev (fun k => impl_PartsOf.f k s) (partsR s) := by
  unfold impl_PartsOf.f partsR
  by_cases h : (s.size : Int) > 600
  · simp only [h, ↓reduceIte]
    exact Ev.now _
  · simp only [h, ↓reduceIte]
    have hz : s.data.toList.length = s.size := Array.length_toList
    have hr := impl_PartsOf_l0 s (by omega) (finP ((Lib.fields s.data.toList).map toBA)) (fun ha => by
      have hF : strings_Fields.f s = some ((Lib.fields s.data.toList).map toBA) := by
        unfold strings_Fields.f
        rw [if_pos ⟨by omega, fun b hb => by have := of_decide_eq_true (List.all_eq_true.1 ha b hb); omega⟩]
        rfl
      refine Ev.shift ?_
      simp only [impl_PartsOf.l0, show ¬ (s.size : Int) < (s.size : Int) from by omega, ↓reduceIte, hF, Option.bind_some, finP]
      split
      · exact Ev.now _
      · exact Ev.now _) s.data.toList.length 0 (by omega) rfl
    rw [List.drop_zero] at hr
    exact hr

theorem FnExactPartsOf : laws_FnExactPartsOf.Pure := by
  intro s _
  refine Ev.rounds ?_
  unfold laws_FnExactPartsOf.f
  by_cases h : (s.size : Int) > 1048576
  · simp only [h, ↓reduceIte]
    exact Ev.now _
  · simp only [h, ↓reduceIte]
    have hl := partsR_length s
    have he := eqStrs_ev (partsR s).1 (by omega)
    have hm := markStrs_ev (partsR s).1 (by omega)
    have hh := heldStrs_ev (partsR s).1.length (by omega)
    have n0 : ¬ (1 + ((partsR s).1.length : Int)) < 0 := by omega
    refine Ev.bind (spec_PartsOf_ev s) (Ev.bind (impl_PartsOf_ev s) (Ev.bind he ?_))
    simp only [↓reduceIte, bne_self_eq_false]
    refine Ev.shift ?_
    simp only [laws_FnExactPartsOf.j0, ↓reduceIte, Bool.false_eq_true]
    refine Ev.bind hm (Ev.bind hh ?_)
    simp only [n0, ↓reduceIte]
    refine Ev.bind (impl_PartsOf_ev s) (Ev.bind he ?_)
    simp only [↓reduceIte, bne_self_eq_false]
    refine Ev.shift ?_
    simp only [laws_FnExactPartsOf.j1, ↓reduceIte, Bool.false_eq_true]
    refine Ev.bind hh ?_
    simp only [n0, ↓reduceIte]
    exact Ev.now _

end Go.Proofs.YtjbbdjdbffaidaaDoor.Pure

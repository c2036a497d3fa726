-- Written by a program of this session, for this claim.
import Derived.Test.YtdompbebeognmaaQFnExactUndonex0
import Derived.Test.YtdompbebeognmaaQFnExactUndonex4
import Derived.Test.YtdompbebeognmaaQFnExactUndonex5
namespace Go.Proofs.Ytdompbebeognmaa.QFnExactUndone
open Go.RowKit Go.Proofs.YtdompbebeognmaaW.PrintWords Go.Proofs.YtdompbebeognmaaW.PrintLast Go.Proofs.YtdompbebeognmaaW.PrintMore
attribute [local go_sem] max2_int min2_int max_two min_two max_three min_three max_four min_four   -- for this text's walks alone
set_option linter.unusedVariables false
set_option linter.unusedSimpArgs false

/-! ### impl_Undone: function 43 -/
theorem idxBy92_none (p : S92 → Bool) : ∀ (l : List S92) (i : Nat), idxBy92 p l (i : Int) = -1 → ∀ x ∈ l, p x = false
  | [], _, _, x, hx => by simp at hx
  | y :: ys, i, h, x, hx => by
    simp only [idxBy92] at h
    by_cases hy : p y = true
    · rw [if_pos hy] at h
      omega
    · rw [if_neg hy] at h
      rcases List.mem_cons.1 hx with rfl | hx
      · simpa using hy
      · exact idxBy92_none p ys (i + 1) h x hx
theorem idxBy92_some (p : S92 → Bool) : ∀ (l : List S92) (i j : Nat), idxBy92 p l (i : Int) = ((i + j : Nat) : Int) → (∀ x ∈ l.take j, p x = false) ∧ ∃ h : j < l.length, p l[j] = true
  | [], i, j, h => by simp only [idxBy92] at h; omega
  | y :: ys, i, j, h => by
    simp only [idxBy92] at h
    by_cases hy : p y = true
    · rw [if_pos hy] at h
      obtain rfl : j = 0 := by omega
      exact ⟨fun x hx => by simp at hx, by simp, hy⟩
    · rw [if_neg hy] at h
      cases j with
      | zero =>
        rcases idxBy92_range p ys ((i : Int) + 1) with h2 | h2 <;> omega
      | succ j =>
        obtain ⟨h1, h2, h3⟩ := idxBy92_some p ys (i + 1) j (by rw [show i + 1 + j = i + (j + 1) from by omega]; exact h)
        refine ⟨fun x hx => ?_, by simpa using h2, by simpa using h3⟩
        rw [List.take_succ_cons] at hx
        rcases List.mem_cons.1 hx with rfl | hx
        · simpa using hy
        · exact h1 x hx
theorem run_clear2 {P : Program} (w : World) (t e : TypeId) (z : Value) (ht : P.underlying t = some (.slice e)) (hv : ∀ w, (zeroValue e).run P w = .ok z w) (hz : z.cells.size = 2) (h1 : ∀ u ∈ z.cells.toList, u.oneCell' = true) (g o n c : Nat) (hn : 0 < n)
    (cur : Array Value) (tt : TypeId) (hg : w.heap[g]? = some (.cells cur tt (0, 0))) (hfit : o + n * 2 ≤ cur.size) :
    ∃ zs : List Value, zs.length = n * 2 ∧ ∀ ty, (Builtin.clear_ #[t] ty #[.slice (some ⟨g, o, none⟩) n c]).run P w = .ok (.tuple #[]) (w.setRow g (cur.toList.take o ++ zs ++ cur.toList.drop (o + zs.length)).toArray) := by
  have hl : (Builtin.zeroCells z.cells n).toList.length = n * 2 := by
    rw [Array.length_toList]
    simp only [Builtin.zeroCells, Array.size_map, Array.size_range, hz]
  have ho : ∀ u ∈ (Builtin.zeroCells z.cells n).toList, u.oneCell' = true := by
    intro u hu
    simp only [Builtin.zeroCells, Array.toList_map, List.mem_map] at hu
    obtain ⟨q, _, rfl⟩ := hu
    have hq : q % z.cells.size < z.cells.size := Nat.mod_lt _ (by omega)
    rw [getElem!_pos z.cells _ hq]
    exact h1 _ (by simp)
  have hst := run_storeCells_at P g o tt (Builtin.zeroCells z.cells n).toList 0 cur w hg (by rw [hl]; omega) ho
  refine ⟨(Builtin.zeroCells z.cells n).toList, hl, fun ty => ?_⟩
  obtain ⟨m, rfl⟩ : ∃ m, n = m + 1 := ⟨n - 1, by omega⟩
  simp only [Nat.add_zero] at hst
  simp [Builtin.clear_, run_underlying ht, hv, hst]
theorem impl_Undone.closure (key : ByteArray) (b : Nat) (x : S92) (W : World) (hk : W.cell? ⟨b, 0, none⟩ = some (.string key)) :
    Calls Try.prog 88 #[.agg #[.string x.f0, .int .i64 x.f1], .pointer (some ⟨b, 0, none⟩)] W fun e w' => e = .returned (.bool (x.f0.toList == key.toList)) ∧ Below W.heap.size W w' := by
  have hu := Try.underlying92
  have hu2 := Try.underlying32
  have hb := World.block_lt_of_cell? W _ hk
  go_enter Try.func88, Try.ntmps88
  go_wp2
  go_ret
  exact ⟨rfl, (Below.refl _ _).alloc (Nat.le_refl _) _⟩
/-- The plain side of slices.DeleteFunc's loop. -/
theorem del_step {p : S92 → Bool} {xs dk : List S92} {i j : Nat} (hi : (dk.take i) = (xs.take j).filter (fun x => !p x)) (hd : dk.drop j = xs.drop j) (hn : dk.length = xs.length) (hij : i < j) (hj : j < xs.length) :
    (p xs[j] = true → dk.take i = (xs.take (j + 1)).filter (fun x => !p x)) ∧ (p xs[j] = false → (dk.set i xs[j]).take (i + 1) = (xs.take (j + 1)).filter (fun x => !p x)) ∧ dk.drop (j + 1) = xs.drop (j + 1) ∧ (dk.set i xs[j]).drop (j + 1) = xs.drop (j + 1) := by
  have e : xs.take (j + 1) = xs.take j ++ [xs[j]] := List.take_succ_eq_append_getElem hj
  have hd2 : dk.drop (j + 1) = xs.drop (j + 1) := by rw [← List.drop_drop, ← List.drop_drop, hd]
  refine ⟨fun h => ?_, fun h => ?_, hd2, ?_⟩
  · rw [e, List.filter_append, ← hi]
    simp [h]
  · have hil : i < (dk.set i xs[j]).length := by rw [List.length_set]; omega
    rw [List.take_succ_eq_append_getElem hil, List.getElem_set_self, List.take_set_of_le (Nat.le_refl i), e, List.filter_append, ← hi]
    simp [h]
  · rw [List.drop_set_of_lt (by omega)]
    exact hd2
theorem read92 {W : World} {base g n cap : Nat} {ok : Nat → Prop} {dk : List S92} (h : Kd.R k92 92 W base ok (.slice (some ⟨g, 0, none⟩) n cap) dk) (j : Nat) (hj : j < n) :
    W.cell? ⟨g, j * 2, none⟩ = some (.string (rd_T92 dk (j : Int)).f0) ∧ W.cell? ⟨g, j * 2 + 1, none⟩ = some (.int .i64 (rd_T92 dk (j : Int)).f1) ∧ W.frozen? ⟨g, j * 2, none⟩ = false ∧ W.frozen? ⟨g, j * 2 + 1, none⟩ = false := by
  obtain ⟨c, _, hM, hc, hf⟩ := Kd.R_elem h z92 (j : Int) (by omega) (by omega)
  obtain rfl := k92_openM hM
  exact ⟨hc 0 _ rfl, hc 1 _ rfl, hf 0, hf 1⟩
set_option maxHeartbeats 8000000 in
set_option maxRecDepth 100000 in
theorem delete92 (v : Value) (xs : List S92) (key : ByteArray) (bu : Nat) (w0 w : World) (HO : Kd.R k92 92 w w0.heap.size (fun _ => True) v xs) (HB : Below w0.heap.size w0 w) (hk : w.cell? ⟨bu, 0, none⟩ = some (.string key)) (hne : some bu ≠ v.ownBlock) (hlen : xs.length < 5864062014805) :
    Calls Try.prog 87 #[v, .func (.func 88) #[] #[.pointer (some ⟨bu, 0, none⟩)]] w fun e w' => ∃ v0_ : Value, e = .returned (v0_) ∧ Kd.R k92 92 w' w0.heap.size (fun _ => True) v0_ (xs.filter fun x => !(x.f0.toList == key.toList)) ∧ Below w0.heap.size w0 w' := by
  have hu := Try.underlying92
  obtain ⟨A, c, rfl⟩ := Kd.R_slice HO
  obtain ⟨hn, hnc, hC⟩ := Kd.R_reads' HO
  have hbu := World.block_lt_of_cell? w _ hk
  have hIF := indexFunc92_any A c xs w hC (fun x => x.f0.toList == key.toList) 88 #[.pointer (some ⟨bu, 0, none⟩)] (enters_of Try.func88 (by kernel_rfl) rfl)
    (fun W x hW => (impl_Undone.closure key bu x W ((hW.cell (p := ⟨bu, 0, none⟩) hbu).trans hk)).mono fun e w' ⟨he, hb⟩ => ⟨he, hW.trans (hb.mono hW.size)⟩)
  obtain ⟨p, HP⟩ : ∃ p : S92 → Bool, Aside0 (p = fun x => x.f0.toList == key.toList) := ⟨_, ⟨rfl⟩⟩
  rw [← HP.out] at hIF
  have hfil : (xs.filter fun x => !(x.f0.toList == key.toList)) = xs.filter (fun x => !p x) := by rw [HP.out]
  rw [hfil]
  clear hfil
  have hIFa := Aside0.mk hIF
  have HO_ := Aside0.mk HO
  have HB_ := Aside0.mk HB
  clear hIF HO HB hC
  rcases idxBy92_range p xs 0 with hm | ⟨h0, h1⟩
  · have hall := idxBy92_none p xs 0 hm
    have hfil : xs.filter (fun x => !p x) = xs := List.filter_eq_self.2 (fun x hx => by rw [hall x hx]; rfl)
    rw [hfil]
    rw [hm] at hIFa
    clear hm hall hfil hnc hn hk hne hbu hlen
    go_enter Try.func87, Try.ntmps87
    go_wp2_with (go_at_call 69; refine hIFa.out.mono ?_; rintro e w1 ⟨rfl, hb⟩; have HO1 := Aside0.mk (Kd.R_below HO_.out hb); have HB1 := Aside0.mk (HB_.out.trans (hb.mono HB_.out.size)); clear HO_ HB_ hb)
    go_ret
    exact ⟨_, rfl, HO1.out, HB1.out⟩
  · obtain ⟨k0, hk0⟩ := Int.eq_ofNat_of_zero_le h0
    obtain ⟨hlow, hkl, hhit⟩ := idxBy92_some p xs 0 k0 (by rw [Nat.zero_add]; exact hk0)
    rw [hk0] at hIFa
    obtain ⟨g, c2, e, hg, _, _⟩ := Kd.R_form HO_.out (by omega)
    injection e with eA _ ec
    subst eA; subst ec
    have hbg : bu ≠ g := fun e => hne (by rw [e]; rfl)
    have hI0 : xs.take k0 = (xs.take (k0 + 1)).filter (fun x => !p x) := by
      rw [List.take_succ_eq_append_getElem hkl, List.filter_append, List.filter_eq_self.2 (fun x hx => by rw [hlow x hx]; rfl)]
      simp [hhit]
    have HI0 := Aside0.mk hI0
    have HG := Aside0.mk hg
    have HK := Aside0.mk hk
    have HNC := Aside0.mk hnc
    have HL := Aside0.mk hlen
    have hkz : (k0 : Int) + 1 ≤ 9223372036854775807 := by omega
    have hne1 : ((k0 : Int) == -1) = false := beq_eq_false_iff_ne.2 (by omega)
    clear h0 h1 hk0 hlow hhit hI0 hg hk hnc hn hne hbu hlen
    go_enter Try.func87, Try.ntmps87
    go_wp2_with (go_at_call 69; refine hIFa.out.mono ?_; rintro e w1 ⟨rfl, hb⟩; have HO1 := Aside0.mk (Kd.R_below HO_.out hb); have HB1 := Aside0.mk (HB_.out.trans (hb.mono HB_.out.size)); have HK1 := Aside0.mk ((hb.cell (p := ⟨bu, 0, none⟩) (World.block_lt_of_cell? w _ HK.out)).trans HK.out); clear HO_ HB_ hb HK)
    go_loopg [5, 6] xs.length (fun gg s5 s6 wr => ∃ (i j : Nat) (dk : List S92), s5 = .int .i64 i ∧ s6 = .int .i64 j ∧ i < j ∧ j ≤ xs.length ∧ xs.length - j ≤ gg ∧ Aside0 (dk.length = xs.length) ∧ Aside0 (dk.take i = (xs.take j).filter (fun x => !p x)) ∧ Aside0 (dk.drop j = xs.drop j) ∧ Aside0 (Kd.R k92 92 wr w0.heap.size (fun _ => True) (.slice (some ⟨g, 0, none⟩) xs.length c) dk) ∧ Aside0 (Below w0.heap.size w0 wr) ∧ Aside0 (wr.cell? ⟨bu, 0, none⟩ = some (.string key)))
    case atStart => exact ⟨k0, k0 + 1, xs, rfl, by go_num, by omega, by omega, by omega, ⟨rfl⟩, HI0, ⟨rfl⟩, HO1, HB1, HK1⟩
    case round =>
      obtain ⟨i, j, dk, rfl, rfl, hij, hjn, hgg, HN, HT, HD, HO2, HB2, HK2⟩ := hrel
      clear HO1 HB1 HK1 HI0 hIFa
      by_cases hlt : j < xs.length
      · have hltz : (j : Int) < (xs.length : Int) := by omega
        have hjb : (j : Int) + 1 ≤ 9223372036854775807 := by have := HL.out; omega
        have hib : (i : Int) + 1 ≤ 9223372036854775807 := by omega
        have hilz : (i : Int) < (xs.length : Int) := by omega
        obtain ⟨s1, s2, s3⟩ := del_step HT.out HD.out HN.out hij hlt
        obtain ⟨hx0, hx1, _, _⟩ := read92 HO2.out j hlt
        have he : rd_T92 dk (j : Int) = xs[j] := by
          have h1 := congrArg (fun l => l.head?) HD.out
          simp only [List.head?_drop] at h1
          unfold rd_T92
          rw [Int.toNat_natCast, List.getD_eq_getElem?_getD, h1, List.getElem?_eq_getElem hlt]
          rfl
        rw [he] at hx0 hx1
        have S1 := Aside0.mk s1
        have S2 := Aside0.mk s2
        have S3 := Aside0.mk s3
        clear s1 s2 s3 he HT HD
        generalize xs[j] = x at hx0 hx1 S1 S2 S3
        have hcall : Calls Try.prog 88 #[.agg #[.string x.f0, .int .i64 x.f1], .pointer (some ⟨bu, 0, none⟩)] (wr.alloc (.cells #[.string x.f0, .int .i64 x.f1] 92)) fun e w' => e = .returned (.bool (p x)) ∧ Below (wr.alloc (.cells #[.string x.f0, .int .i64 x.f1] 92)).heap.size (wr.alloc (.cells #[.string x.f0, .int .i64 x.f1] 92)) w' := by
          rw [HP.out]
          exact impl_Undone.closure key bu x _ (Lib.cell?_alloc_some _ HK2.out)
        have hnb : Below wr.heap.size wr (wr.alloc (.cells #[.string x.f0, .int .i64 x.f1] 92)) := below_alloc (Below.refl _ _) _
        have HNB := Aside0.mk hnb
        clear hnb
        cases hq : p x with
        | true =>
          rw [hq] at hcall
          have HCALL := Aside0.mk hcall
          have T1 := Aside0.mk (S1.out hq)
          have T2 := Aside0.mk S3.out.1
          clear S1 S2 S3 hcall hq
          go_wp2_with (go_at_call 88; refine HCALL.out.mono ?_; rintro e w2 ⟨rfl, hb⟩; have HB3 := Aside0.mk (HNB.out.trans (hb.mono HNB.out.size)); clear hb)
          go_roundg (xs.length - (j + 1))
          case measure => omega
          case rel => exact ⟨i, j + 1, dk, rfl, by go_num, by omega, by omega, by omega, HN, T1, T2, ⟨Kd.R_below HO2.out HB3.out⟩, ⟨HB2.out.trans (HB3.out.mono HB2.out.size)⟩, ⟨(HB3.out.cell (p := ⟨bu, 0, none⟩) (World.block_lt_of_cell? wr _ HK2.out)).trans HK2.out⟩⟩
        | false =>
          rw [hq] at hcall
          have HCALL := Aside0.mk hcall
          have T1 := Aside0.mk (S2.out hq)
          have T2 := Aside0.mk S3.out.2
          clear S1 S2 S3 hcall hq
          go_wp2_with (go_at_call 88; refine HCALL.out.mono ?_; rintro e w2 ⟨rfl, hb⟩; have hb0 : w2.cell? ⟨wr.heap.size, 0, none⟩ = some (.string x.f0) := (hb.cell (p := ⟨wr.heap.size, 0, none⟩) (by simp)).trans (by go_simp); have hb1 : w2.cell? ⟨wr.heap.size, 1, none⟩ = some (.int .i64 x.f1) := (hb.cell (p := ⟨wr.heap.size, 1, none⟩) (by simp)).trans (by go_simp); have HB3 := Aside0.mk (HNB.out.trans (hb.mono HNB.out.size)); clear hb; have HO3 := Aside0.mk (Kd.R_below HO2.out HB3.out); obtain ⟨hy0, hy1, hz0, hz1⟩ := read92 HO3.out i (by omega); have HST := Aside0.mk (Kd.R_seg HO3.out (i : Int) (by omega) (by omega) (c := [.string (rd_T92 dk (i : Int)).f0, .int .i64 (rd_T92 dk (i : Int)).f1]) (seg := [.string x.f0, .int .i64 x.f1]) (j := 0) rfl (by intro q u hq; match q, hq with | 0, hq => (injection hq with hq; subst hq; exact hy0) | 1, hq => (injection hq with hq; subst hq; exact hy1) | q + 2, hq => (cases hq)) (Nat.le_refl 2) (x' := x) (k92_mkM w2 w0.heap.size (fun _ => False) x) (fun _ h => h.elim)).1)
          go_roundg (xs.length - (j + 1))
          case measure => omega
          case rel => exact ⟨i + 1, j + 1, dk.set i x, by go_num, by go_num, by omega, by omega, by omega, ⟨by rw [List.length_set]; exact HN.out⟩, T1, T2, HST, ⟨below_set (below_set (HB2.out.trans (HB3.out.mono HB2.out.size)) HG.out) HG.out⟩, ⟨by rw [World.cell?_setCell_other _ _ _ _ (by intro q; injection q with q _ _; exact hbg q.symm), World.cell?_setCell_other _ _ _ _ (by intro q; injection q with q _ _; exact hbg q.symm)]; exact (HB3.out.cell (p := ⟨bu, 0, none⟩) (World.block_lt_of_cell? wr _ HK2.out)).trans HK2.out⟩⟩
      · obtain rfl : j = xs.length := by omega
        have hltz : ¬ (xs.length : Int) < (xs.length : Int) := by omega
        have ht := HT.out
        rw [List.take_length] at ht
        have hil : (xs.filter (fun x => !p x)).length = i := by
          rw [← ht, List.length_take, HN.out]
          omega
        rcases own92_nil (own92 HO2.out) with ⟨e, _⟩ | ⟨g', cap', cur, e, hb', hh, h1, h2, h3, h4⟩
        · cases e
        injection e with eA eN eC
        injection eA with eA
        injection eA with eA
        subst eA; subst eC
        obtain ⟨zs, hzl, hcl⟩ := run_clear2 (P := Try.prog) wr 25 92 (.agg #[(.string ⟨#[]⟩), (.int .i64 0)]) Try.underlying25 Try.zeroValue92 rfl (by intro u hu; simp only [Value.cells, List.mem_cons, List.not_mem_nil, or_false] at hu; rcases hu with rfl | rfl <;> rfl) g (i * 2) (xs.length - i) (c - i) (by omega) cur 92 hh (by rw [h3]; omega)
        obtain ⟨cur', hc'⟩ : ∃ cur' : Array Value, cur' = (cur.toList.take (i * 2) ++ zs ++ cur.toList.drop (i * 2 + zs.length)).toArray := ⟨_, rfl⟩
        rw [← hc'] at hcl
        have hs' : cur'.size = c * 2 := by
          rw [hc']
          simp only [List.size_toArray, List.length_append, List.length_take, List.length_drop, Array.length_toList, hzl, h3]
          omega
        have hf' : cur'.toList.take (i * 2) = flat92 (xs.filter (fun x => !p x)) := by
          rw [hc']
          show List.take (i * 2) (List.take (i * 2) cur.toList ++ zs ++ _) = _
          have hl : (List.take (i * 2) cur.toList).length = i * 2 := by rw [List.length_take, Array.length_toList, h3]; omega
          rw [List.append_assoc, List.take_append_of_le_length (by rw [hl]; exact Nat.le_refl _), List.take_take, Nat.min_self, ← ht, ← flat92_take, ← h4, List.take_take, Nat.min_eq_left (by omega)]
        have hfin : Kd.R k92 92 (wr.setRow g cur') w0.heap.size (fun _ => True) (.slice (some ⟨g, 0, none⟩) i c) (xs.filter (fun x => !p x)) :=
          row92 ⟨flat92_length _, .inr ⟨g, c, cur', by rw [hil], hb', setRow_heap wr g cur cur' 92 _ hh, by rw [hil]; omega, h2, hs', by rw [hil]; exact hf'⟩⟩
        have HFIN := Aside0.mk (And.intro hfin (below_setRow HB2.out hb' cur'))
        have hic : (i : Int) ≤ (c : Int) := by omega
        have hin : (i : Int) ≤ (xs.length : Int) := by omega
        have hci : ¬ (c = i) := by omega
        clear hc' hs' hf' hfin ht hil hzl h3 h4 hh h1 h2 hb' HO2 HB2 HK2 HT HD HN eN
        go_wp2
        go_ret
        exact ⟨_, rfl, HFIN.out.1, HFIN.out.2⟩
def impl_Undone.f (k : Nat) (l0 : List (S92)) (a1_0 : ByteArray) (a1_1 : Bool) (a1_2 : Int) : Option (List (S92)) :=
  (impl_Cell_83.f l0).bind fun t0 => (impl_CellsOk.f k l0).bind fun t1 => if t1 = true then ((impl_KeyOk.f k a1_0).bind fun t2 => if t2 = true then ((impl_isNum.f a1_2).bind fun t3 => if t3 = true then (if a1_1 = true then impl_withCell.f l0 a1_0 a1_2 else some (l0.filter fun x => !(x.f0.toList == a1_0.toList))) else some t0) else some t0) else some t0
theorem impl_Undone.mono : ∀ a0 a1 a2 a3 k, LeO (impl_Undone.f k a0 a1 a2 a3) (impl_Undone.f (k + 1) a0 a1 a2 a3) := fun a0 a1 a2 a3 k =>
  LeO.bind (LeO.refl _) fun _ => LeO.bind (impl_CellsOk.mono a0 k) fun _ => LeO.ite (LeO.bind (impl_KeyOk.mono a1 k) fun _ => LeO.refl _) (LeO.refl _)
set_option maxHeartbeats 8000000 in
set_option maxRecDepth 100000 in
theorem impl_Undone.calls (k : Nat) (A0 : Option Addr) (c0 : Nat) (l0 : List (S92)) (a1_0 : ByteArray) (a1_1 : Bool) (a1_2 : Int) (r : List (S92)) (w : World) (hr0 : Kd.C k92 w A0 l0.length l0) (hc0 : l0.length ≤ c0) (h : impl_Undone.f k l0 a1_0 a1_1 a1_2 = some r) :
    Calls Try.prog 43 #[.slice A0 l0.length c0, .agg #[.string a1_0, .bool a1_1, .int .i64 a1_2]] w fun e w' => ∃ v0_ : Value, e = .returned (v0_) ∧ Kd.R k92 92 w' w.heap.size (fun _ => True) v0_ r ∧ Below w.heap.size w w' := by
  have hu32 := Try.underlying32
  have hu92 := Try.underlying92
  obtain ⟨t0, q0, h⟩ := Option.bind_eq_some_iff.mp h
  obtain ⟨t1, q1, h⟩ := Option.bind_eq_some_iff.mp h
  have hlen : t0 = l0 ∧ l0.length < 5864062014805 := by
    unfold impl_Cell_83.f at q0
    split at q0
    · exact ⟨(Option.some.inj q0).symm, by assumption⟩
    · cases q0
  obtain ⟨rfl, hlen⟩ := hlen
  have HL := Aside0.mk hlen
  have Q0 := Aside0.mk q0
  have Q1 := Aside0.mk q1
  have HR0 := Aside0.mk hr0
  have HC0 := Aside0.mk hc0
  have hbx : Below w.heap.size w (w.alloc (.cells #[.string a1_0, .bool a1_1, .int .i64 a1_2] 32)) := below_alloc (Below.refl _ _) _
  have HX := Aside0.mk hbx
  have hbk : (w.alloc (.cells #[.string a1_0, .bool a1_1, .int .i64 a1_2] 32)).heap[w.heap.size]? = some (.cells #[.string a1_0, .bool a1_1, .int .i64 a1_2] 32 (0, 0)) := heap_alloc_new w _
  have HK := Aside0.mk hbk
  clear q0 q1 hr0 hc0 hbx hbk hlen
  cases t1 with
  | false =>
    obtain rfl := Option.some.inj h
    clear h
    go_enter Try.func43, Try.ntmps43
    go_wp2_with (first
      | (go_at_call 83; (with_reducible refine (impl_Cell_83.calls A0 c0 t0 t0 _ (Kd.C_below HR0.out HX.out) HC0.out Q0.out).mono ?_); rintro e w1 ⟨v5, rfl, ho, hb⟩; have HB1 := Aside0.mk (HX.out.trans (hb.mono HX.out.size)); have HO1 := Aside0.mk (Kd.R_lower ho HX.out.size); have HK1 := Aside0.mk (blk_below HK.out hb); clear ho hb HK HX)
      | (go_at_call 20; (with_reducible refine (impl_CellsOk.calls k A0 c0 t0 false _ (Kd.C_below HR0.out HB1.out) HC0.out Q1.out).mono ?_); rintro e w2 ⟨rfl, hb⟩; have HB2 := Aside0.mk (HB1.out.trans (hb.mono HB1.out.size)); have HO2 := Aside0.mk (Kd.R_below HO1.out hb); clear HB1 HO1 HK1 hb))
    go_ret
    exact ⟨_, rfl, HO2.out, HB2.out⟩
  | true =>
    replace h : ((impl_KeyOk.f k a1_0).bind fun t2 => if t2 = true then ((impl_isNum.f a1_2).bind fun t3 => if t3 = true then (if a1_1 = true then impl_withCell.f t0 a1_0 a1_2 else some (t0.filter fun x => !(x.f0.toList == a1_0.toList))) else some t0) else some t0) = some r := h
    obtain ⟨t2, q2, h⟩ := Option.bind_eq_some_iff.mp h
    have Q2 := Aside0.mk q2
    clear q2
    cases t2 with
    | false =>
      obtain rfl := Option.some.inj h
      clear h
      go_enter Try.func43, Try.ntmps43
      go_wp2_with (first
        | (go_at_call 83; (with_reducible refine (impl_Cell_83.calls A0 c0 t0 t0 _ (Kd.C_below HR0.out HX.out) HC0.out Q0.out).mono ?_); rintro e w1 ⟨v5, rfl, ho, hb⟩; have HB1 := Aside0.mk (HX.out.trans (hb.mono HX.out.size)); have HO1 := Aside0.mk (Kd.R_lower ho HX.out.size); have HK1 := Aside0.mk (blk_below HK.out hb); clear ho hb HK HX)
        | (go_at_call 20; (with_reducible refine (impl_CellsOk.calls k A0 c0 t0 true _ (Kd.C_below HR0.out HB1.out) HC0.out Q1.out).mono ?_); rintro e w2 ⟨rfl, hb⟩; have HB2 := Aside0.mk (HB1.out.trans (hb.mono HB1.out.size)); have HO2 := Aside0.mk (Kd.R_below HO1.out hb); have HK2 := Aside0.mk (blk_below HK1.out hb); clear HB1 HO1 HK1 hb; have hx0 : w2.cell? ⟨w.heap.size, 0, none⟩ = some (.string a1_0) := (blk_cell HK2.out 0).trans rfl)
        | (go_at_call 84; (with_reducible refine (impl_KeyOk.calls k a1_0 false _ Q2.out).mono ?_); rintro e w' ⟨rfl, ⟨nd, rfl⟩⟩))
      go_ret
      exact ⟨_, rfl, Kd.R_drewN HO2.out _, pw_below_drewN HB2.out _⟩
    | true =>
      replace h : ((impl_isNum.f a1_2).bind fun t3 => if t3 = true then (if a1_1 = true then impl_withCell.f t0 a1_0 a1_2 else some (t0.filter fun x => !(x.f0.toList == a1_0.toList))) else some t0) = some r := h
      obtain ⟨t3, q3, h⟩ := Option.bind_eq_some_iff.mp h
      have Q3 := Aside0.mk q3
      clear q3
      cases t3 with
      | false =>
        obtain rfl := Option.some.inj h
        clear h
        go_enter Try.func43, Try.ntmps43
        go_wp2_with (first
          | (go_at_call 83; (with_reducible refine (impl_Cell_83.calls A0 c0 t0 t0 _ (Kd.C_below HR0.out HX.out) HC0.out Q0.out).mono ?_); rintro e w1 ⟨v5, rfl, ho, hb⟩; have HB1 := Aside0.mk (HX.out.trans (hb.mono HX.out.size)); have HO1 := Aside0.mk (Kd.R_lower ho HX.out.size); have HK1 := Aside0.mk (blk_below HK.out hb); clear ho hb HK HX)
          | (go_at_call 20; (with_reducible refine (impl_CellsOk.calls k A0 c0 t0 true _ (Kd.C_below HR0.out HB1.out) HC0.out Q1.out).mono ?_); rintro e w2 ⟨rfl, hb⟩; have HB2 := Aside0.mk (HB1.out.trans (hb.mono HB1.out.size)); have HO2 := Aside0.mk (Kd.R_below HO1.out hb); have HK2 := Aside0.mk (blk_below HK1.out hb); clear HB1 HO1 HK1 hb; have hx0 : w2.cell? ⟨w.heap.size, 0, none⟩ = some (.string a1_0) := (blk_cell HK2.out 0).trans rfl; have hx2 : w2.cell? ⟨w.heap.size, 2, none⟩ = some (.int .i64 a1_2) := (blk_cell HK2.out 2).trans rfl)
          | (go_at_call 84; (with_reducible refine (impl_KeyOk.calls k a1_0 true _ Q2.out).mono ?_); rintro e w' ⟨rfl, ⟨nd, rfl⟩⟩)
          | (go_at_call 85; (with_reducible refine (impl_isNum.calls a1_2 false _ Q3.out).mono ?_); rintro e w' ⟨rfl, ⟨nd2, rfl⟩⟩))
        go_ret
        exact ⟨_, rfl, by (with_reducible repeat (first | apply Kd.R_alloc | apply Kd.R_drewN | apply Kd.R_drew)); exact HO2.out, by repeat (first | (with_reducible first | exact HB2.out | apply below_alloc | apply pw_below_drewN | apply below_drew1) | exact HB2.out)⟩
      | true =>
        replace h : (if a1_1 = true then impl_withCell.f t0 a1_0 a1_2 else some (t0.filter fun x => !(x.f0.toList == a1_0.toList))) = some r := h
        cases a1_1 with
        | true =>
          replace h : impl_withCell.f t0 a1_0 a1_2 = some r := h
          have Q4 := Aside0.mk h
          clear h
          go_enter Try.func43, Try.ntmps43
          go_wp2_with (first
            | (go_at_call 83; (with_reducible refine (impl_Cell_83.calls A0 c0 t0 t0 _ (Kd.C_below HR0.out HX.out) HC0.out Q0.out).mono ?_); rintro e w1 ⟨v5, rfl, ho, hb⟩; have HB1 := Aside0.mk (HX.out.trans (hb.mono HX.out.size)); have HO1 := Aside0.mk (Kd.R_lower ho HX.out.size); have HK1 := Aside0.mk (blk_below HK.out hb); clear ho hb HK HX)
            | (go_at_call 20; (with_reducible refine (impl_CellsOk.calls k A0 c0 t0 true _ (Kd.C_below HR0.out HB1.out) HC0.out Q1.out).mono ?_); rintro e w2 ⟨rfl, hb⟩; have HB2 := Aside0.mk (HB1.out.trans (hb.mono HB1.out.size)); have HO2 := Aside0.mk (Kd.R_below HO1.out hb); have HK2 := Aside0.mk (blk_below HK1.out hb); clear HB1 HO1 HK1 hb; have hx0 : w2.cell? ⟨w.heap.size, 0, none⟩ = some (.string a1_0) := (blk_cell HK2.out 0).trans rfl; have hx1 : w2.cell? ⟨w.heap.size, 1, none⟩ = some (.bool true) := (blk_cell HK2.out 1).trans rfl; have hx2 : w2.cell? ⟨w.heap.size, 2, none⟩ = some (.int .i64 a1_2) := (blk_cell HK2.out 2).trans rfl)
            | (go_at_call 84; (with_reducible refine (impl_KeyOk.calls k a1_0 true _ Q2.out).mono ?_); rintro e w' ⟨rfl, ⟨nd, rfl⟩⟩)
            | (go_at_call 85; (with_reducible refine (impl_isNum.calls a1_2 true _ Q3.out).mono ?_); rintro e w' ⟨rfl, ⟨nd2, rfl⟩⟩)
            | (go_at_call 86; (with_reducible refine (impl_withCell.calls A0 c0 t0 a1_0 a1_2 r _ ?hC HC0.out Q4.out).mono ?_); (case hC => exact Kd.C_below HR0.out (by repeat (first | (with_reducible first | exact HB2.out | apply below_alloc | apply pw_below_drewN | apply below_drew1) | exact HB2.out))); rintro e w3 ⟨v6, rfl, ho, hb⟩; have HO3 := Aside0.mk (Kd.R_lower ho HB2.out.size); have HB3 := Aside0.mk (below_step (by repeat (first | (with_reducible first | exact HB2.out | apply below_alloc | apply pw_below_drewN | apply below_drew1) | exact HB2.out)) hb); clear ho hb))
          go_ret
          exact ⟨_, rfl, HO3.out, HB3.out⟩
        | false =>
          obtain rfl := Option.some.inj h
          clear h
          go_enter Try.func43, Try.ntmps43
          go_wp2_with (first
            | (go_at_call 83; (with_reducible refine (impl_Cell_83.calls A0 c0 t0 t0 _ (Kd.C_below HR0.out HX.out) HC0.out Q0.out).mono ?_); rintro e w1 ⟨v5, rfl, ho, hb⟩; have HB1 := Aside0.mk (HX.out.trans (hb.mono HX.out.size)); have HNE := Aside0.mk (Kd.R_base ho); have HO1 := Aside0.mk (Kd.R_lower ho HX.out.size); have HK1 := Aside0.mk (blk_below HK.out hb); clear ho hb HK HX)
            | (go_at_call 20; (with_reducible refine (impl_CellsOk.calls k A0 c0 t0 true _ (Kd.C_below HR0.out HB1.out) HC0.out Q1.out).mono ?_); rintro e w2 ⟨rfl, hb⟩; have HB2 := Aside0.mk (HB1.out.trans (hb.mono HB1.out.size)); have HO2 := Aside0.mk (Kd.R_below HO1.out hb); have HK2 := Aside0.mk (blk_below HK1.out hb); clear HB1 HO1 HK1 hb; have hx0 : w2.cell? ⟨w.heap.size, 0, none⟩ = some (.string a1_0) := (blk_cell HK2.out 0).trans rfl; have hx1 : w2.cell? ⟨w.heap.size, 1, none⟩ = some (.bool false) := (blk_cell HK2.out 1).trans rfl; have hx2 : w2.cell? ⟨w.heap.size, 2, none⟩ = some (.int .i64 a1_2) := (blk_cell HK2.out 2).trans rfl)
            | (go_at_call 84; (with_reducible refine (impl_KeyOk.calls k a1_0 true _ Q2.out).mono ?_); rintro e w' ⟨rfl, ⟨nd, rfl⟩⟩)
            | (go_at_call 85; (with_reducible refine (impl_isNum.calls a1_2 true _ Q3.out).mono ?_); rintro e w' ⟨rfl, ⟨nd2, rfl⟩⟩)
            | (go_at_call 87; refine (delete92 v5 t0 a1_0 w.heap.size w _ ?hO ?hB ?hX ?hN HL.out).mono ?_; (case hX => exact hx0); (case hO => (with_reducible repeat (first | apply Kd.R_alloc | apply Kd.R_drewN | apply Kd.R_drew)); exact HO2.out); (case hB => repeat (first | (with_reducible first | exact HB2.out | apply below_alloc | apply pw_below_drewN | apply below_drew1) | exact HB2.out)); (case hN => exact fun e => absurd (HNE.out _ e.symm) (by simp)); rintro e w3 ⟨v6, rfl, ho, hb⟩; have HO3 := Aside0.mk ho; have HB3 := Aside0.mk hb; clear ho hb))
          go_ret
          exact ⟨_, rfl, HO3.out, HB3.out⟩

/-! ### laws_markText: function 89 -/
def laws_markText.l0 : Nat → Int → ByteArray → Option (ByteArray)
  | 0, _, _ => none
  | k + 1, x0, x3 => if x0 > 0 then ((some (([(wrap64 (48 + (Int.tmod x0 10))) % 256] : List Int) : List Int)).bind fun y176 => (if (strOfNums y176).size + x3.size ≤ 9223372036854775807 then (laws_markText.l0 k (wrap64 (Int.tdiv x0 10)) ((strOfNums y176) ++ x3)) else (none))) else (if 1 + x3.size ≤ 9223372036854775807 then (some ((⟨#[109]⟩ : ByteArray) ++ x3)) else (none))
def laws_markText.f (k : Nat) (a0 : Int) : Option (ByteArray) := if a0 ≤ 0 then (some (⟨#[109, 48]⟩ : ByteArray)) else (laws_markText.l0 k a0 (⟨#[]⟩ : ByteArray))
theorem laws_markText.mono_l : ∀ k, (∀ y0 y1, LeO (laws_markText.l0 k y0 y1) (laws_markText.l0 (k + 1) y0 y1))
  | 0 => fun _ _ r h => by simp [laws_markText.l0] at h
  | k + 1 => by
    have ih0 := laws_markText.mono_l k
    · intro y0 y1
      unfold laws_markText.l0
      repeat' first
      | (with_reducible exact ih0 _ _)
      | (with_reducible exact LeO.refl _)
      | (with_reducible exact LeO.none _)
      | (with_reducible refine LeO.ite ?_ ?_)
      | (with_reducible refine LeO.bind ?_ (fun _ => ?_))
      | exact ih0 _ _
      | exact LeO.none _
      | refine LeO.ite ?_ ?_
      | refine LeO.bind ?_ (fun _ => ?_)
theorem laws_markText.mono : ∀ a0 k, LeO (laws_markText.f k a0) (laws_markText.f (k + 1) a0) := by
  intro a0 k
  have ih0 := laws_markText.mono_l k
  unfold laws_markText.f
  repeat' first
      | (with_reducible exact ih0 _ _)
      | (with_reducible exact LeO.refl _)
      | (with_reducible exact LeO.none _)
      | (with_reducible refine LeO.ite ?_ ?_)
      | (with_reducible refine LeO.bind ?_ (fun _ => ?_))
      | exact ih0 _ _
      | exact LeO.none _
      | refine LeO.ite ?_ ?_
      | refine LeO.bind ?_ (fun _ => ?_)
set_option maxHeartbeats 8000000 in
set_option maxRecDepth 100000 in
theorem laws_markText.calls (k : Nat) (a0 : Int) (r : ByteArray) (w : World) (h : laws_markText.f k a0 = some r) :
    Calls Try.prog 89 #[.int .i64 a0] w fun e w' => e = .returned (.string r) ∧ Below w.heap.size w w' := by
  have HB := Aside0.mk (Below.refl w.heap.size w)
  have H : (if a0 ≤ 0 then (some (⟨#[109, 48]⟩ : ByteArray)) else (laws_markText.l0 k a0 (⟨#[]⟩ : ByteArray))) = some r := h
  clear h
  by_cases c2 : a0 ≤ 0
  · rw [if_pos c2] at H
    have c2b0 : decide (a0 ≤ 0) = true := decide_eq_true c2
    clear c2
    obtain rfl := Option.some.inj H
    go_enter Try.func89, Try.ntmps89
    go_wp2
    go_ret
    exact ⟨by first | rfl | (simp [errW_none, errW_some] <;> rfl) | (simp [*, errW_none, errW_some] <;> rfl), by repeat (first | (with_reducible first | exact HB.out | apply below_alloc | apply pw_below_drewN | apply below_drew1) | exact HB.out)⟩
  · rw [if_neg c2] at H
    have c2b0 : decide (a0 ≤ 0) = false := decide_eq_false c2
    clear c2
    have H' := Aside0.mk H
    clear H
    go_enter Try.func89, Try.ntmps89
    go_wp2
    go_loopg [0, 3] k (fun kq v0 v3 w' => ∃ (x0_1 : Int) (x3_1 : ByteArray), v0 = .int .i64 x0_1 ∧ v3 = .string x3_1 ∧ Aside0 (laws_markText.l0 kq x0_1 x3_1 = some r) ∧ Aside0 (kq ≤ k) ∧ Aside0 (Below w.heap.size w w'))
    case atStart => exact ⟨(a0), ((⟨#[]⟩ : ByteArray)), (by first | rfl | (simp; done) | (simp [*]; done)), (by first | rfl | (simp; done) | (simp [*]; done)), H', ⟨Nat.le_refl _⟩, ⟨by repeat (first | (with_reducible first | exact HB.out | apply below_alloc | apply pw_below_drewN | apply below_drew1) | exact HB.out)⟩⟩
    case round =>
      clear H'
      try clear c2
      try clear c2b0
      try clear p2
      obtain ⟨x0_1, x3_1, rfl, rfl, HA, HK1, HB⟩ := hrel
      cases gk with
      | zero => exact absurd HA.out (by simp [laws_markText.l0])
      | succ k1 =>
        have H := HA.out
        clear HA
        simp only [laws_markText.l0] at H
        by_cases c3 : x0_1 > 0
        · rw [if_pos c3] at H
          have c3b0 : decide (0 < x0_1) = true := decide_eq_true c3
          clear c3
          obtain ⟨y176, hy176⟩ : ∃ y_ : List Int, y_ = (([(wrap64 (48 + (Int.tmod x0_1 10))) % 256] : List Int)) := ⟨_, rfl⟩
          replace H : (if (strOfNums y176).size + x3_1.size ≤ 9223372036854775807 then (laws_markText.l0 k1 (wrap64 (Int.tdiv x0_1 10)) ((strOfNums y176) ++ x3_1)) else (none)) = some r := by first | (rw [hy176]; with_reducible exact H) | (have H2_ := (Option.bind_some _ _).symm.trans H; rw [hy176]; with_reducible exact H2_) | (have H2_ := (Option.bind_some _ _).symm.trans H; with_reducible exact H2_) | with_reducible exact H | (rw [hy176]; exact H) | exact H
          have Ny176 := Aside0.mk hy176
          clear hy176
          by_cases c4 : (strOfNums y176).size + x3_1.size ≤ 9223372036854775807
          · rw [if_pos c4] at H
            have c4b0 := eq_true c4
            have c4b1 : decide ((strOfNums y176).size + x3_1.size ≤ 9223372036854775807) = true := decide_eq_true c4
            try have c4b2 : (9223372036854775807 < (strOfNums y176).size + x3_1.size) = False := eq_false (Nat.not_lt.2 c4)
            have H' := Aside0.mk H
            clear H
            go_wp2_with (first | ((with_reducible refine gate_dst (N := 12) rfl ?_); refine Kd.R_lit (Kd.int .u8) _ 5 ?hg (N := 12) ?hd (xs := ([(wrap64 (48 + (Int.tmod x0_1 10))) % 256] : List Int)) (inner := [.int .u8 ((wrap64 (48 + (Int.tmod x0_1 10))) % 256)]) (ok := fun _ => True) (okp := fun _ => True) ?hr ?hp (fun _ hk => hk) trivial (Below.refl _ _) (Nat.le_refl _) (by simp) ?_; (case hd => rfl); (case hg => rfl); (case hr => first | (go_simp; done) | (go_simp; rfl)); (case hp => exact (Reps.one (show Kd.M (Kd.int .u8) _ _ _ ((wrap64 (48 + (Int.tmod x0_1 10))) % 256) [.int .u8 ((wrap64 (48 + (Int.tmod x0_1 10))) % 256)] from rfl) (Reps.none _ _))); intro v177 w5 ho6 hb hg_ hnew_; clear hg_ hnew_; (first | rw [← Ny176.out] at ho6 | (simp only [Int.reduceToNat] at ho6; rw [← Ny176.out] at ho6)); have n0_ := Aside0.mk (Kd.R_lower ho6 (below_size (by repeat (first | (with_reducible first | exact HB.out | apply below_alloc | apply pw_below_drewN | apply below_drew1) | exact HB.out)))); have n1_ := Aside0.mk (below_step (by repeat (first | (with_reducible first | exact HB.out | apply below_alloc | apply pw_below_drewN | apply below_drew1) | exact HB.out)) hb); clear HB; have HO178 := n0_; have HB := n1_; clear n0_ n1_; clear hb ho6; have hcv7 := own_string (P := Try.prog) Try.underlying70 Try.underlying5 Try.underlying9 (Kd.own_of_R HO178.out)))
            go_roundg k1
            case measure => have := HK1.out; omega
            case rel => exact ⟨(wrap64 (Int.tdiv x0_1 10)), ((strOfNums y176) ++ x3_1), (by first | rfl | (simp; done) | (simp [*]; done)), (by first | rfl | (simp; done) | (simp [*]; done)), H', ⟨by have := HK1.out; omega⟩, ⟨by repeat (first | (with_reducible first | exact HB.out | apply below_alloc | apply pw_below_drewN | apply below_drew1) | exact HB.out)⟩⟩
          · rw [if_neg c4] at H
            exact absurd H (by simp)
        · rw [if_neg c3] at H
          have c3b0 : decide (0 < x0_1) = false := decide_eq_false c3
          clear c3
          by_cases c8 : 1 + x3_1.size ≤ 9223372036854775807
          · rw [if_pos c8] at H
            have c8b0 := eq_true c8
            have c8b1 : decide (1 + x3_1.size ≤ 9223372036854775807) = true := decide_eq_true c8
            try have c8b2 : (9223372036854775807 < 1 + x3_1.size) = False := eq_false (Nat.not_lt.2 c8)
            obtain rfl := Option.some.inj H
            go_wp2
            go_ret
            exact ⟨by first | rfl | (simp [errW_none, errW_some] <;> rfl) | (simp [*, errW_none, errW_some] <;> rfl), by repeat (first | (with_reducible first | exact HB.out | apply below_alloc | apply pw_below_drewN | apply below_drew1) | exact HB.out)⟩
          · rw [if_neg c8] at H
            exact absurd H (by simp)

/-! ### laws_markCellS: function 44 -/
def laws_markCellS.l0 : Nat → List (S92) → Int → Int → Option (Int × (List (S92)))
  | 0, _, _, _ => none
  | k + 1, x0, x1, x5 => if x5 < (x0.length : Int) then ((laws_markText.f k x1).bind fun t179 => (if 0 ≤ x5 then ((some (x0.set (x5 : Int).toNat (⟨t179, (rd_T92 x0 x5).f1⟩ : S92) : List (S92))).bind fun y180 => (laws_markCellS.l0 k (y180.set (x5 : Int).toNat (⟨(rd_T92 y180 x5).f0, wrap64 (x1 + 1)⟩ : S92)) (wrap64 ((wrap64 (x1 + 1)) + 1)) (wrap64 (x5 + 1)))) else (none))) else (some (x1, x0))
def laws_markCellS.f (k : Nat) (l0 : List (S92)) (a1 : Int) : Option (Int × (List (S92))) := laws_markCellS.l0 k l0 a1 0
theorem laws_markCellS.mono_l : ∀ k, (∀ y0 y1 y2, LeO (laws_markCellS.l0 k y0 y1 y2) (laws_markCellS.l0 (k + 1) y0 y1 y2))
  | 0 => fun _ _ _ r h => by simp [laws_markCellS.l0] at h
  | k + 1 => by
    have ih0 := laws_markCellS.mono_l k
    · intro y0 y1 y2
      unfold laws_markCellS.l0
      repeat' first
      | (with_reducible exact ih0 _ _ _)
      | (with_reducible exact laws_markText.mono _ _)
      | (with_reducible exact LeO.refl _)
      | (with_reducible exact LeO.none _)
      | (with_reducible refine LeO.ite ?_ ?_)
      | (with_reducible refine LeO.bind ?_ (fun _ => ?_))
      | exact ih0 _ _ _
      | exact laws_markText.mono _ _
      | exact LeO.none _
      | refine LeO.ite ?_ ?_
      | refine LeO.bind ?_ (fun _ => ?_)
theorem laws_markCellS.mono : ∀ a0 a1 k, LeO (laws_markCellS.f k a0 a1) (laws_markCellS.f (k + 1) a0 a1) := by
  intro a0 a1 k
  have ih0 := laws_markCellS.mono_l k
  unfold laws_markCellS.f
  repeat' first
      | (with_reducible exact ih0 _ _ _)
      | (with_reducible exact laws_markText.mono _ _)
      | (with_reducible exact LeO.refl _)
      | (with_reducible exact LeO.none _)
      | (with_reducible refine LeO.ite ?_ ?_)
      | (with_reducible refine LeO.bind ?_ (fun _ => ?_))
      | exact ih0 _ _ _
      | exact laws_markText.mono _ _
      | exact LeO.none _
      | refine LeO.ite ?_ ?_
      | refine LeO.bind ?_ (fun _ => ?_)
set_option maxHeartbeats 8000000 in
set_option maxRecDepth 100000 in
theorem laws_markCellS.calls (k : Nat) (P0_ : Nat → Prop) (u9000_ : Value) (l0 : List (S92)) (a1 : Int) (r1 : Int) (r2 : List (S92)) (w0 w : World) (hB : Below w0.heap.size w0 w) (ho0 : Kd.R k92 92 w w0.heap.size P0_ u9000_ l0) (h : laws_markCellS.f k l0 a1 = some (r1, r2)) :
    Calls Try.prog 44 #[u9000_, .int .i64 a1] w fun e w' => e = .returned (.int .i64 r1) ∧ Kd.R k92 92 w' w0.heap.size (fun k_ => (P0_ k_ ∨ w.heap.size ≤ k_)) u9000_ r2 ∧ Below w0.heap.size w0 w' ∧ Kept w w' (fun k_ => P0_ k_) := by
  have HO0 := Aside0.mk (show Kd.R k92 92 w w0.heap.size (fun k_ => (P0_ k_ ∨ w.heap.size ≤ k_)) u9000_ l0 from Kd.R_mono ho0 (fun k_ hk => (.inl hk)))
  have HK := Aside0.mk (Kept.refl w (fun k_ => P0_ k_))
  have HW0 := Aside0.mk hB.size
  have HB := Aside0.mk hB
  clear hB
  have H : (laws_markCellS.l0 k l0 a1 0) = some (r1, r2) := h
  clear h
  have H' := Aside0.mk H
  clear H
  go_enter Try.func44, Try.ntmps44
  go_wp2
  go_loopg [1, 5] k (fun kq v1 v5 w' => ∃ (x0_1 : List (S92)) (x1_1 : Int) (x5_1 : Int), v1 = .int .i64 x1_1 ∧ v5 = .int .i64 x5_1 ∧ Aside0 (laws_markCellS.l0 kq x0_1 x1_1 x5_1 = some (r1, r2)) ∧ Aside0 (kq ≤ k) ∧ Aside0 (Kd.R k92 92 w' w0.heap.size (fun k_ => (P0_ k_ ∨ w.heap.size ≤ k_)) u9000_ x0_1) ∧ Aside0 (Kept w w' (fun k_ => P0_ k_)) ∧ Aside0 (Below w0.heap.size w0 w'))
  case atStart => exact ⟨(l0), (a1), (0), (by first | rfl | (simp; done) | (simp [*]; done)), (by first | rfl | (simp; done) | (simp [*]; done)), H', ⟨Nat.le_refl _⟩, ⟨by (with_reducible repeat (first | apply Kd.R_alloc | apply Kd.R_drewN | apply Kd.R_drew)); exact HO0.out⟩, ⟨by repeat (first | (with_reducible first | exact HK.out | apply Kept.alloc | apply Kept.drewN | apply Kept.drew) | exact HK.out)⟩, ⟨by repeat (first | (with_reducible first | exact HB.out | apply below_alloc | apply pw_below_drewN | apply below_drew1) | exact HB.out)⟩⟩
  case round =>
    clear H'
    try clear p2
    obtain ⟨x0_1, x1_1, x5_1, rfl, rfl, HA, HK1, HO_0, HK, HB⟩ := hrel
    cases gk with
    | zero => exact absurd HA.out (by simp [laws_markCellS.l0])
    | succ k1 =>
      have H := HA.out
      clear HA
      simp only [laws_markCellS.l0] at H
      by_cases c3 : x5_1 < (x0_1.length : Int)
      · rw [if_pos c3] at H
        have c3b0 : decide (x5_1 < (x0_1.length : Int)) = true := decide_eq_true c3
        clear c3
        replace H := Option.bind_eq_some_iff.mp H
        obtain ⟨t179, A40, H⟩ := H
        replace H : (if 0 ≤ x5_1 then ((some (x0_1.set (x5_1 : Int).toNat (⟨t179, (rd_T92 x0_1 x5_1).f1⟩ : S92) : List (S92))).bind fun y180 => (laws_markCellS.l0 k1 (y180.set (x5_1 : Int).toNat (⟨(rd_T92 y180 x5_1).f0, wrap64 (x1_1 + 1)⟩ : S92)) (wrap64 ((wrap64 (x1_1 + 1)) + 1)) (wrap64 (x5_1 + 1)))) else (none)) = some (r1, r2) := H
        have A4 := Aside0.mk A40
        clear A40
        by_cases c5 : 0 ≤ x5_1
        · rw [if_pos c5] at H
          have c5b0 : decide (0 ≤ x5_1) = true := decide_eq_true c5
          clear c5
          obtain ⟨y180, hy180⟩ : ∃ y_ : List (S92), y_ = (x0_1.set (x5_1 : Int).toNat (⟨t179, (rd_T92 x0_1 x5_1).f1⟩ : S92)) := ⟨_, rfl⟩
          replace H : (laws_markCellS.l0 k1 (y180.set (x5_1 : Int).toNat (⟨(rd_T92 y180 x5_1).f0, wrap64 (x1_1 + 1)⟩ : S92)) (wrap64 ((wrap64 (x1_1 + 1)) + 1)) (wrap64 (x5_1 + 1))) = some (r1, r2) := by first | (rw [hy180]; with_reducible exact H) | (have H2_ := (Option.bind_some _ _).symm.trans H; rw [hy180]; with_reducible exact H2_) | (have H2_ := (Option.bind_some _ _).symm.trans H; with_reducible exact H2_) | with_reducible exact H | (rw [hy180]; exact H) | exact H
          have Ny180 := Aside0.mk hy180
          clear hy180
          obtain ⟨y181, hy181⟩ : ∃ y_ : List (S92), y_ = (y180.set (x5_1 : Int).toNat (⟨(rd_T92 y180 x5_1).f0, wrap64 (x1_1 + 1)⟩ : S92)) := ⟨_, rfl⟩
          replace H : (laws_markCellS.l0 k1 y181 (wrap64 ((wrap64 (x1_1 + 1)) + 1)) (wrap64 (x5_1 + 1))) = some (r1, r2) := by first | (rw [hy181]; with_reducible exact H) | (have H2_ := (Option.bind_some _ _).symm.trans H; rw [hy181]; with_reducible exact H2_) | (have H2_ := (Option.bind_some _ _).symm.trans H; with_reducible exact H2_) | with_reducible exact H | (rw [hy181]; exact H) | exact H
          have Ny181 := Aside0.mk hy181
          clear hy181
          have H' := Aside0.mk H
          clear H
          obtain ⟨Ao8, co8, eo8⟩ := Kd.R_slice HO_0.out
          subst eo8
          go_wp2_with (first | ((with_reducible refine gate_callee (f := 89) rfl ?_); refine goesL_ (some 15) rfl rfl Try.func89 (by kernel_rfl) rfl #[.int .i64 x1_1] rfl (by (try simp only [List.map_toArray, List.map_cons, List.map_nil]); first | done | rfl | (simp only [List.length_drop, List.length_take]; rfl)) ?_; (with_reducible refine (laws_markText.calls k1 x1_1 t179 _ A4.out).mono ?_); rintro e w9 ⟨rfl, hb⟩; refine ⟨_, rfl, ?_⟩; have n0_ := Aside0.mk (Kd.R_below (by (with_reducible repeat (first | apply Kd.R_alloc | apply Kd.R_drewN | apply Kd.R_drew)); exact HO_0.out) hb); have n1_ := Aside0.mk (Kept.below (S := (fun k_ => P0_ k_)) (by repeat (first | (with_reducible first | exact HK.out | apply Kept.alloc | apply Kept.drewN | apply Kept.drew) | exact HK.out)) hb); have n2_ := Aside0.mk (below_step (by repeat (first | (with_reducible first | exact HB.out | apply below_alloc | apply pw_below_drewN | apply below_drew1) | exact HB.out)) hb); clear HO_0; clear HK; clear HB; have HO_0 := n0_; have HK := n1_; have HB := n2_; clear n0_ n1_ n2_; (try clear hb); (try clear hb2); (try clear hk); (try clear hi); have p6 : 0 ≤ (x5_1 : Int) := of_decide_eq_true (by first | (with_reducible assumption) | assumption); have q6 : (x5_1 : Int) < ((x0_1.length : Int) : Int) := of_decide_eq_true (by first | (with_reducible assumption) | assumption); obtain ⟨go6, co6, eo6, gb6, gl6, cl6, HG6⟩ := Kd.R_form HO_0.out (by omega); (first | cases eo6 | (injection eo6 with ea_ en_ ec_; (first | subst ea_ | (injection ea_ with ea_; subst ea_)); subst ec_; clear en_)); have GB6 := Aside0.mk gb6; have GG6 := Aside0.mk HG6; clear gb6 gl6 HG6; have HMgo6 := Aside0.mk (show (P0_ go6 ∨ w.heap.size ≤ go6) from (HO_0.out.1 _ rfl)); obtain ⟨ce6, hcl6, hM6, hcc6, hfr6⟩ := Kd.R_elem HO_0.out z92 (x5_1 : Int) p6 q6; obtain rfl := k92_openM hM6; have hx6_0 : w9.cell? ⟨go6, (x5_1 : Int).toNat * 2, none⟩ = some (.string ((rd_T92 x0_1 x5_1).f0)) := hcc6 0 _ rfl; have hx6_1 : w9.cell? ⟨go6, (x5_1 : Int).toNat * 2 + 1, none⟩ = some (.int .i64 ((rd_T92 x0_1 x5_1).f1)) := hcc6 1 _ rfl; have hf6_0 : w9.frozen? ⟨go6, (x5_1 : Int).toNat * 2, none⟩ = false := hfr6 0; have hf6_1 : w9.frozen? ⟨go6, (x5_1 : Int).toNat * 2 + 1, none⟩ = false := hfr6 1; clear hcl6 hcc6 hfr6 hM6; replace p6 := eq_true p6; replace q6 := eq_true q6; have HX10 := Aside0.mk (show Kd.R k92 92 w9 w0.heap.size (fun k_ => (P0_ k_ ∨ w.heap.size ≤ k_)) (.slice (some ⟨go6, 0, none⟩) x0_1.length co8) x0_1 from (by (with_reducible repeat (first | apply Kd.R_alloc | apply Kd.R_drewN | apply Kd.R_drew)); exact HO_0.out)); obtain ⟨ce10, hcl10, hM10, hcc10, hfr10⟩ := Kd.R_elem HX10.out z92 (x5_1 : Int) (of_decide_eq_true (by first | (with_reducible assumption) | assumption)) (by have h_ : (x5_1 : Int) < ((x0_1.length : Int) : Int) := of_decide_eq_true (by first | (with_reducible assumption) | assumption); first | exact h_ | (have e_ := (Kd.R_reads' HO_0.out).1; omega) | simpa using h_); obtain rfl := k92_openM hM10; have HP10 := Kd.R_seg HX10.out (x5_1 : Int) (of_decide_eq_true (by first | (with_reducible assumption) | assumption)) (by have h_ : (x5_1 : Int) < ((x0_1.length : Int) : Int) := of_decide_eq_true (by first | (with_reducible assumption) | assumption); first | exact h_ | (have e_ := (Kd.R_reads' HO_0.out).1; omega) | simpa using h_) (seg := [.string t179]) (j := 0) hcl10 hcc10 (show 1 ≤ 2 from by decide) (x' := (⟨t179, (rd_T92 x0_1 x5_1).f1⟩ : S92)) (k92_mkM _ _ _ (⟨t179, (rd_T92 x0_1 x5_1).f1⟩ : S92) ) (fun _ hk => hk); have hx10_0 := hcc10 0 _ rfl; (try simp only [show (k92).sz = 2 from rfl, Nat.mul_one, Nat.add_zero] at hx10_0); have hf10_0 := hfr10 0; (try simp only [show (k92).sz = 2 from rfl, Nat.mul_one, Nat.add_zero] at hf10_0); clear hcl10 hcc10 hfr10 hM10) | ((with_reducible refine gate_store (t := 9) (p := 17) rfl ?_); refine store_event (t := 9) (p := 17) (v := ?vo_w11) (w1 := (w9.setCell ⟨go6, (x5_1 : Int).toNat * 2, none⟩ (.string t179))) ?hg ?ho ?hn ?hr ?_; (case ho => rfl); (case hg => rfl); (case hn => rfl); (case hr => first | (go_simp; done) | (go_simp; rfl)); intro w11 hw; have hg : w9.grownBy w11 (some go6) := (by rw [hw]; exact HP10.2); have hp_ : Kd.R k92 92 w11 w0.heap.size (fun k_ => (P0_ k_ ∨ w.heap.size ≤ k_)) (.slice (some ⟨go6, 0, none⟩) x0_1.length co8) y180 := (by rw [hw, Ny180.out]; exact HP10.1); clear HP10; have n0_ := Aside0.mk (hp_); have n1_ := Aside0.mk ((by rw [hw]; exact below_set (HB.out) GB6.out : Below w0.heap.size w0 w11)); have n2_ := Aside0.mk (Kept.of_grown (S := (fun k_ => P0_ k_)) hg (by repeat (first | (with_reducible first | exact HK.out | apply Kept.alloc | apply Kept.drewN | apply Kept.drew) | exact HK.out)) (fun k_ e_ => (HO_0.out.1 k_ e_))); clear HO_0; clear HB; clear HK; have HO_0 := n0_; have HB := n1_; have HK := n2_; clear n0_ n1_ n2_; clear hg hw hp_; have p7 : 0 ≤ (x5_1 : Int) := of_decide_eq_true (by first | (with_reducible assumption) | assumption); have q7 : (x5_1 : Int) < ((x0_1.length : Int) : Int) := of_decide_eq_true (by first | (with_reducible assumption) | assumption); obtain ⟨ce7, hcl7, hM7, hcc7, hfr7⟩ := Kd.R_elem HO_0.out z92 (x5_1 : Int) p7 q7; obtain rfl := k92_openM hM7; have hx7_0 : w11.cell? ⟨go6, (x5_1 : Int).toNat * 2, none⟩ = some (.string ((rd_T92 y180 x5_1).f0)) := hcc7 0 _ rfl; have hx7_1 : w11.cell? ⟨go6, (x5_1 : Int).toNat * 2 + 1, none⟩ = some (.int .i64 ((rd_T92 y180 x5_1).f1)) := hcc7 1 _ rfl; have hf7_0 : w11.frozen? ⟨go6, (x5_1 : Int).toNat * 2, none⟩ = false := hfr7 0; have hf7_1 : w11.frozen? ⟨go6, (x5_1 : Int).toNat * 2 + 1, none⟩ = false := hfr7 1; clear hcl7 hcc7 hfr7 hM7; replace p7 := eq_true p7; replace q7 := eq_true q7; have HX12 := Aside0.mk (show Kd.R k92 92 w11 w0.heap.size (fun k_ => (P0_ k_ ∨ w.heap.size ≤ k_)) (.slice (some ⟨go6, 0, none⟩) x0_1.length co8) y180 from (by (with_reducible repeat (first | apply Kd.R_alloc | apply Kd.R_drewN | apply Kd.R_drew)); exact HO_0.out)); obtain ⟨ce12, hcl12, hM12, hcc12, hfr12⟩ := Kd.R_elem HX12.out z92 (x5_1 : Int) (of_decide_eq_true (by first | (with_reducible assumption) | assumption)) (by have h_ : (x5_1 : Int) < ((x0_1.length : Int) : Int) := of_decide_eq_true (by first | (with_reducible assumption) | assumption); first | exact h_ | (have e_ := (Kd.R_reads' HO_0.out).1; omega) | simpa using h_); obtain rfl := k92_openM hM12; have HP12 := Kd.R_seg HX12.out (x5_1 : Int) (of_decide_eq_true (by first | (with_reducible assumption) | assumption)) (by have h_ : (x5_1 : Int) < ((x0_1.length : Int) : Int) := of_decide_eq_true (by first | (with_reducible assumption) | assumption); first | exact h_ | (have e_ := (Kd.R_reads' HO_0.out).1; omega) | simpa using h_) (seg := [.int .i64 (wrap64 (x1_1 + 1))]) (j := 1) hcl12 hcc12 (show 2 ≤ 2 from by decide) (x' := (⟨(rd_T92 y180 x5_1).f0, wrap64 (x1_1 + 1)⟩ : S92)) (k92_mkM _ _ _ (⟨(rd_T92 y180 x5_1).f0, wrap64 (x1_1 + 1)⟩ : S92) ) (fun _ hk => hk); have hx12_1 := hcc12 1 _ rfl; (try simp only [show (k92).sz = 2 from rfl, Nat.mul_one, Nat.add_zero] at hx12_1); have hf12_1 := hfr12 1; (try simp only [show (k92).sz = 2 from rfl, Nat.mul_one, Nat.add_zero] at hf12_1); clear hcl12 hcc12 hfr12 hM12) | ((with_reducible refine gate_store (t := 3) (p := 24) rfl ?_); refine store_event (t := 3) (p := 24) (v := ?vo_w13) (w1 := (w11.setCell ⟨go6, (x5_1 : Int).toNat * 2 + 1, none⟩ (.int .i64 (wrap64 (x1_1 + 1))))) ?hg ?ho ?hn ?hr ?_; (case ho => rfl); (case hg => rfl); (case hn => rfl); (case hr => first | (go_simp; done) | (go_simp; rfl)); intro w13 hw; have hg : w11.grownBy w13 (some go6) := (by rw [hw]; exact HP12.2); have hp_ : Kd.R k92 92 w13 w0.heap.size (fun k_ => (P0_ k_ ∨ w.heap.size ≤ k_)) (.slice (some ⟨go6, 0, none⟩) x0_1.length co8) y181 := (by rw [hw, Ny181.out]; exact HP12.1); clear HP12; have n0_ := Aside0.mk (hp_); have n1_ := Aside0.mk ((by rw [hw]; exact below_set (HB.out) GB6.out : Below w0.heap.size w0 w13)); have n2_ := Aside0.mk (Kept.of_grown (S := (fun k_ => P0_ k_)) hg (by repeat (first | (with_reducible first | exact HK.out | apply Kept.alloc | apply Kept.drewN | apply Kept.drew) | exact HK.out)) (fun k_ e_ => (HO_0.out.1 k_ e_))); clear HO_0; clear HB; clear HK; have HO_0 := n0_; have HB := n1_; have HK := n2_; clear n0_ n1_ n2_; clear hg hw hp_))
          go_roundg k1
          case measure => have := HK1.out; omega
          case rel => exact ⟨(y181), (wrap64 ((wrap64 (x1_1 + 1)) + 1)), (wrap64 (x5_1 + 1)), (by first | rfl | (simp; done) | (simp [*]; done)), (by first | rfl | (simp; done) | (simp [*]; done)), H', ⟨by have := HK1.out; omega⟩, ⟨by (with_reducible repeat (first | apply Kd.R_alloc | apply Kd.R_drewN | apply Kd.R_drew)); exact HO_0.out⟩, ⟨by repeat (first | (with_reducible first | exact HK.out | apply Kept.alloc | apply Kept.drewN | apply Kept.drew) | exact HK.out)⟩, ⟨by repeat (first | (with_reducible first | exact HB.out | apply below_alloc | apply pw_below_drewN | apply below_drew1) | exact HB.out)⟩⟩
        · rw [if_neg c5] at H
          exact absurd H (by simp)
      · rw [if_neg c3] at H
        have c3b0 : decide (x5_1 < (x0_1.length : Int)) = false := decide_eq_false c3
        clear c3
        simp only [Option.some.injEq, Prod.mk.injEq] at H
        obtain ⟨rfl, rfl⟩ := H
        obtain ⟨Ao14, co14, eo14⟩ := Kd.R_slice HO_0.out
        subst eo14
        go_wp2
        go_ret
        exact ⟨by first | rfl | (simp [errW_none, errW_some] <;> rfl) | (simp [*, errW_none, errW_some] <;> rfl), by (with_reducible repeat (first | apply Kd.R_alloc | apply Kd.R_drewN | apply Kd.R_drew)); exact HO_0.out, by repeat (first | (with_reducible first | exact HB.out | apply below_alloc | apply pw_below_drewN | apply below_drew1) | exact HB.out), by repeat (first | (with_reducible first | exact HK.out | apply Kept.alloc | apply Kept.drewN | apply Kept.drew) | exact HK.out)⟩

end Go.Proofs.Ytdompbebeognmaa.QFnExactUndone

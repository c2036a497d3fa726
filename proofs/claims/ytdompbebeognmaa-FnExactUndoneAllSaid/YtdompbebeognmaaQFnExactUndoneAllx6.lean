-- Written by a program of this session, for this claim.
import Derived.Test.YtdompbebeognmaaQFnExactUndoneAllx0
import Derived.Test.YtdompbebeognmaaQFnExactUndoneAllx5
namespace Go.Proofs.Ytdompbebeognmaa.QFnExactUndoneAll
open Go.RowKit Go.Proofs.YtdompbebeognmaaW.PrintWords Go.Proofs.YtdompbebeognmaaW.PrintLast Go.Proofs.YtdompbebeognmaaW.PrintMore
attribute [local go_sem] max2_int min2_int max_two min_two max_three min_three max_four min_four   -- for this text's walks alone
set_option linter.unusedVariables false
set_option linter.unusedSimpArgs false

/-! ### impl_withCell: function 86 -/
/-- slices.Insert at its end: append. -/
theorem own92_nil {w : World} {base : Nat} {xs : List S92} {v : Value} (h : w.ownsRow base 92 2 v xs.length (flat92 xs)) : (v = .slice none 0 0 ∧ xs = []) ∨ ∃ g cap cur, v = .slice (some ⟨g, 0, none⟩) xs.length cap ∧ base ≤ g ∧ w.heap[g]? = some (.cells cur 92 (0, 0)) ∧ xs.length ≤ cap ∧ cap ≤ 9223372036854775807 ∧ cur.size = cap * 2 ∧ cur.toList.take (xs.length * 2) = flat92 xs := by
  rcases h.2 with ⟨rfl, h0⟩ | ⟨g, cap, cur, hv, hb, hh, h1, h2, h3, h4⟩
  · exact .inl ⟨rfl, List.eq_nil_of_length_eq_zero h0⟩
  · exact .inr ⟨g, cap, cur, hv, hb, hh, h1, h2, h3, h4⟩
set_option maxHeartbeats 4000000 in
set_option maxRecDepth 100000 in
theorem insert92_room (g cap i vb : Nat) (cur : Array Value) (xs : List S92) (x : S92) (w : World) (hi : i < xs.length) (hroom : xs.length + 1 ≤ cap) (hc63 : cap ≤ 9223372036854775807) (hvb : vb ≠ g)
    (hg : w.heap[g]? = some (.cells cur 92 (0, 0))) (hsz : cur.size = cap * 2) (hcur : cur.toList.take (xs.length * 2) = flat92 xs) (hv : w.heap[vb]? = some (.cells #[.string x.f0, .int .i64 x.f1] 92 (0, 0))) :
    Calls Try.prog 105 #[.slice (some ⟨g, 0, none⟩) xs.length cap, .int .i64 i, .slice (some ⟨vb, 0, none⟩) 1 1] w fun e w' =>
      e = .returned (.slice (some ⟨g, 0, none⟩) (xs.length + 1) cap) ∧ ∃ cur2 : Array Value, cur2.size = cap * 2 ∧ cur2.toList.take ((xs.length + 1) * 2) = flat92 (xs.take i ++ x :: xs.drop i) ∧ w' = w.drew.setRow g cur2 := by
  obtain ⟨n, hn⟩ : ∃ n, n = xs.length := ⟨_, rfl⟩
  rw [← hn] at hi hroom hcur ⊢
  have hcs : ∀ j u, (flat92 xs)[j]? = some u → w.cell? ⟨g, j, none⟩ = some u := fun j u hj => by
    rw [← hcur, List.getElem?_take] at hj
    split at hj
    · rw [Array.getElem?_toList] at hj
      simp [World.cell?, hg, hj]
    · cases hj
  have hvs : ∀ j u, (enc92 x)[j]? = some u → w.cell? ⟨vb, 0 + j, none⟩ = some u := fun j u hj => by
    have : (#[Value.string x.f0, Value.int .i64 x.f1] : Array Value)[j]? = some u := by rw [← Array.getElem?_toList]; exact hj
    simp [World.cell?, hv, this]
  have u25 := run_underlying Try.underlying25
  have hdl : (flat92 (xs.drop i)).length = (n - i) * 2 := by rw [flat92_length, List.length_drop, ← hn]
  have hs92 : (Try.prog.info? 92).map (·.size) = some 2 := by kernel_rfl
  have hw1 : IntKind.i64.wrap ((i : Int) + 1) = (i : Int) + 1 := by rw [IntKind.wrap_i64]; omega
  have hw2 : IntKind.i64.wrap ((n : Int) + 1) = (n : Int) + 1 := by rw [IntKind.wrap_i64]; omega
  have hin : (i : Int) ≤ (n : Int) := by omega
  have hz2 : ¬ ((i : Int) = (n : Int)) := by omega
  have hz3 : ¬ ((cap : Int) < (n : Int) + 1) := by omega
  have hb1 : (0 : Int) ≤ (i : Int) + 1 := by omega
  have hb2 : ¬ (cap = i + 1) := by omega
  have hb3 : (i : Int) ≤ (n : Int) + 1 := by omega
  have hb4 : ¬ (cap = i) := by omega
  have htn : ((i : Int) + 1).toNat = i + 1 := by omega
  have htm : ((n : Int) + 1).toNat = n + 1 := by omega
  have hov : ∀ lb cb, (callFunc 112 #[.slice (some ⟨vb, 0, none⟩) 1 1, .slice (some ⟨g, (i + 1) * 2, none⟩) lb cb]).run Try.prog w = .ok (.value (.bool false)) w := fun lb cb => by
    have hsa : w.shape? vb = some (92, 2) := by simp [World.shape?, hv]
    have hsb : w.shape? g = some (92, cap * 2) := by simp [World.shape?, hg, hsz]
    rw [run_callFunc_extern Try.func112 (by kernel_rfl) (by kernel_rfl) (by kernel_rfl) (e := Extern.SlicesOverlaps.overlaps #[25, 25] #[4]) (by kernel_rfl),
      Lib.run_overlaps_apart w 25 4 92 Try.underlying25 2 Try.sizeOf92 ⟨vb, 0, none⟩ ⟨g, (i + 1) * 2, none⟩ 1 1 lb cb hvb 92 92 2 (cap * 2) hsa hsb (by omega) (by simp [World.frozen?, hv]) (by simp [World.frozen?, hv])]
    rfl
  have hdr : w.drew.heap[g]? = some (.cells cur 92 (0, 0)) := hg
  have hcp1 : ∀ ty dc sc, (Builtin.copy_ #[25, 25] ty #[.slice (some ⟨g, (i + 1) * 2, none⟩) (n - i) dc, .slice (some ⟨g, i * 2, none⟩) (n + 1 - i) sc]).run Try.prog w.drew = .ok (goInt ((n - i : Nat) : Int)) (w.drew.setRow g (cur.toList.take ((i + 1) * 2) ++ flat92 (xs.drop i) ++ cur.toList.drop ((i + 1) * 2 + (flat92 (xs.drop i)).length)).toArray) := fun ty dc sc =>
    run_copy_row2 w.drew 25 25 ty 92 g ((i + 1) * 2) (n - i) dc ⟨g, i * 2, none⟩ (n + 1 - i) sc cur 92 (flat92 (xs.drop i)) (n - i) Try.underlying25 hs92 hdr (by simp only [Nat.min_def]; split <;> omega) hdl
      (fun j u hj => by
        rw [Addr.add_lit]
        refine hcs (i * 2 + j) u ?_
        rwa [← flat92_drop, List.getElem?_drop] at hj)
      (by rw [hdl, hsz]; omega) (flat92_one _)
  obtain ⟨cur1, hcur1⟩ : ∃ cur1 : Array Value, cur1 = (cur.toList.take ((i + 1) * 2) ++ flat92 (xs.drop i) ++ cur.toList.drop ((i + 1) * 2 + (flat92 (xs.drop i)).length)).toArray := ⟨_, rfl⟩
  have hsz1 : cur1.size = cap * 2 := by
    rw [hcur1]
    simp only [List.size_toArray, List.length_append, List.length_take, List.length_drop, Array.length_toList, hdl, hsz]
    omega
  rw [← hcur1] at hcp1
  have hg1 : (w.drew.setRow g cur1).heap[g]? = some (.cells cur1 92 (0, 0)) := setRow_heap w.drew g cur cur1 92 _ hdr
  have hcp2 : ∀ ty dc, (Builtin.copy_ #[25, 25] ty #[.slice (some ⟨g, i * 2, none⟩) (n + 1 - i) dc, .slice (some ⟨vb, 0, none⟩) 1 1]).run Try.prog (w.drew.setRow g cur1) = .ok (goInt 1) ((w.drew.setRow g cur1).setRow g (cur1.toList.take (i * 2) ++ enc92 x ++ cur1.toList.drop (i * 2 + (enc92 x).length)).toArray) := fun ty dc =>
    run_copy_row2 (w.drew.setRow g cur1) 25 25 ty 92 g (i * 2) (n + 1 - i) dc ⟨vb, 0, none⟩ 1 1 cur1 92 (enc92 x) 1 Try.underlying25 hs92 hg1 (by simp only [Nat.min_def]; split <;> omega) rfl
      (fun j u hj => by
        rw [Addr.add_lit]
        have h1 : (w.drew.setRow g cur1).cell? ⟨vb, 0 + j, none⟩ = w.drew.cell? ⟨vb, 0 + j, none⟩ := World.cell?_of_block (setRow_other w.drew g vb cur1 hvb)
        rw [h1]
        exact hvs j u hj)
      (by show i * 2 + 2 ≤ _; rw [hsz1]; omega) (by intro u hu; simp only [enc92, List.mem_cons, List.not_mem_nil, or_false] at hu; rcases hu with rfl | rfl <;> rfl)
  obtain ⟨cur2, hcur2⟩ : ∃ cur2 : Array Value, cur2 = (cur1.toList.take (i * 2) ++ enc92 x ++ cur1.toList.drop (i * 2 + (enc92 x).length)).toArray := ⟨_, rfl⟩
  rw [← hcur2, setRow_setRow] at hcp2
  have hsz2 : cur2.size = cap * 2 := by
    rw [hcur2]
    simp only [List.size_toArray, List.length_append, List.length_take, List.length_drop, Array.length_toList, show (enc92 x).length = 2 from rfl, hsz1]
    omega
  have hfin : cur2.toList.take ((n + 1) * 2) = flat92 (xs.take i ++ x :: xs.drop i) := by
    have hc : cur.toList.take (i * 2) = flat92 (xs.take i) := by
      rw [← flat92_take, ← hcur, List.take_take, Nat.min_eq_left (by omega)]
    have hl1 : (cur.toList.take ((i + 1) * 2)).length = (i + 1) * 2 := by rw [List.length_take, Array.length_toList, hsz]; omega
    have h1 : cur1.toList.take (i * 2) = flat92 (xs.take i) := by
      rw [hcur1, List.append_assoc, List.take_append_of_le_length (by rw [hl1]; omega), List.take_take, Nat.min_eq_left (by omega), hc]
    have h2 : cur1.toList.drop (i * 2 + 2) = flat92 (xs.drop i) ++ cur.toList.drop ((i + 1) * 2 + (flat92 (xs.drop i)).length) := by
      rw [hcur1, List.append_assoc]
      have := List.drop_left (l₁ := cur.toList.take ((i + 1) * 2)) (l₂ := flat92 (xs.drop i) ++ cur.toList.drop ((i + 1) * 2 + (flat92 (xs.drop i)).length))
      rw [hl1] at this
      rw [show i * 2 + 2 = (i + 1) * 2 from by omega]
      exact this
    rw [hcur2, h1, show (enc92 x).length = 2 from rfl, h2, flat92_append, flat92]
    have hl : (flat92 (xs.take i) ++ enc92 x ++ flat92 (xs.drop i)).length = (n + 1) * 2 := by
      rw [List.length_append, List.length_append, hdl, flat92_length, List.length_take, ← hn, show (enc92 x).length = 2 from rfl]
      omega
    show List.take ((n + 1) * 2) (flat92 (xs.take i) ++ enc92 x ++ (flat92 (xs.drop i) ++ _)) = _
    rw [← List.append_assoc, List.take_append_of_le_length (by rw [hl]; exact Nat.le_refl _), ← hl, List.take_length, List.append_assoc]
  have HF := Aside0.mk (And.intro hsz2 hfin)
  clear hi hroom hcur hcs hvs hn hg hdr hsz hv hcur1 hcur2 hsz1 hg1 hsz2 hfin hdl hs92
  go_enter Try.func105, Try.ntmps105
  go_wp2_with (simp only [hov])
  go_region_law (refine step_copy_runI rfl _ _ 25 25 rfl _ _ (by simp [Act.eval, Act.put]) (by simp [Act.eval, Act.put]) (hcp1 _ _ _) ?_)
  go_wp2_with (at_builtin; refine wpList_copy_runI _ rfl _ _ 25 25 rfl _ _ rfl rfl (hcp2 _ _) ?_)
  go_ret
  exact ⟨rfl, cur2, HF.out.1, HF.out.2, rfl⟩
set_option maxHeartbeats 4000000 in
set_option maxRecDepth 100000 in
theorem insert92_grow (g cap i vb : Nat) (cur : Array Value) (xs : List S92) (x : S92) (w : World) (hi : i < xs.length) (hlen : xs.length ≤ cap) (hroom : cap < xs.length + 1) (hbig : (xs.length + 1) * 24 ≤ 140737488355328)
    (hg : w.heap[g]? = some (.cells cur 92 (0, 0))) (hsz : cur.size = cap * 2) (hcur : cur.toList.take (xs.length * 2) = flat92 xs) (hv : w.heap[vb]? = some (.cells #[.string x.f0, .int .i64 x.f1] 92 (0, 0))) :
    Calls Try.prog 105 #[.slice (some ⟨g, 0, none⟩) xs.length cap, .int .i64 i, .slice (some ⟨vb, 0, none⟩) 1 1] w fun e w' =>
      ∃ (g2 cap2 : Nat) (cur2 : Array Value), e = .returned (.slice (some ⟨g2, 0, none⟩) (xs.length + 1) cap2) ∧ w.heap.size ≤ g2 ∧ w'.heap[g2]? = some (.cells cur2 92 (0, 0)) ∧ xs.length + 1 ≤ cap2 ∧ cap2 ≤ 9223372036854775807 ∧ cur2.size = cap2 * 2 ∧ cur2.toList.take ((xs.length + 1) * 2) = flat92 (xs.take i ++ x :: xs.drop i) ∧ Below w.heap.size w w' := by
  obtain ⟨n, hn⟩ : ∃ n, n = xs.length := ⟨_, rfl⟩
  rw [← hn] at hi hroom hcur hlen hbig ⊢
  have hgw : g < w.heap.size := (Array.getElem?_eq_some_iff.1 hg).1
  have hvw : vb < w.heap.size := (Array.getElem?_eq_some_iff.1 hv).1
  have hcs : ∀ j u, (flat92 xs)[j]? = some u → w.cell? ⟨g, j, none⟩ = some u := fun j u hj => by
    rw [← hcur, List.getElem?_take] at hj
    split at hj
    · rw [Array.getElem?_toList] at hj
      simp [World.cell?, hg, hj]
    · cases hj
  have hvs : ∀ j u, (enc92 x)[j]? = some u → w.cell? ⟨vb, 0 + j, none⟩ = some u := fun j u hj => by
    have : (#[Value.string x.f0, Value.int .i64 x.f1] : Array Value)[j]? = some u := by rw [← Array.getElem?_toList]; exact hj
    simp [World.cell?, hv, this]
  have u25 := run_underlying Try.underlying25
  have hdl : (flat92 (xs.drop i)).length = (n - i) * 2 := by rw [flat92_length, List.length_drop, ← hn]
  have htl : (flat92 (xs.take i)).length = i * 2 := by rw [flat92_length, List.length_take, ← hn, Nat.min_eq_left (by omega)]
  have hs92 : (Try.prog.info? 92).map (·.size) = some 2 := by kernel_rfl
  obtain ⟨i0, hi0, hzz⟩ := Option.map_eq_some_iff.1 info92
  simp only [Prod.mk.injEq] at hzz
  obtain ⟨hz0, hz1, hz2⟩ := hzz
  have hkk : (n : Int) + 1 - (i : Int) = ((n + 1 - i : Nat) : Int) := by omega
  have hik : i + (n + 1 - i) = n + 1 := by omega
  have hold : (Builtin.firstCells i0.size i (.slice (some ⟨g, 0, none⟩) i cap)).run Try.prog w.drew = .ok (flat92 (xs.take i)).toArray w.drew := by
    rw [hz1]
    exact run_firstCells_some w.drew 2 i ⟨g, 0, none⟩ i cap (flat92 (xs.take i)) htl (fun j u hj => by
      rw [Addr.add_lit, Nat.zero_add]
      rw [← flat92_take, List.getElem?_take] at hj
      split at hj
      · exact hcs j u hj
      · cases hj)
  obtain ⟨G, hG⟩ : ∃ G, G = grownCap w (n + 1) cap 92 := ⟨_, rfl⟩
  obtain ⟨ROW, hROW⟩ : ∃ ROW : Array Value, ROW = (flat92 (xs.take i)).toArray ++ Builtin.zeroCells (Value.agg #[(.string ⟨#[]⟩), (.int .i64 0)]).cells (n + 1 - i) ++ Builtin.zeroCells (Value.agg #[(.string ⟨#[]⟩), (.int .i64 0)]).cells (G - (n + 1)) := ⟨_, rfl⟩
  have hGn : n + 1 ≤ G := by rw [hG]; exact grownCap_ge w _ _ _
  have hG63 : G ≤ 9223372036854775807 := by
    have := grownCap_le_maxLen w (n + 1) cap 92 (by unfold maxLen; omega)
    rw [← hG] at this
    unfold maxLen at this
    omega
  have hrz : ∀ ty, (Builtin.append_ #[25, 3] ty #[.slice (some ⟨g, 0, none⟩) i cap, .int .i64 ((n : Int) + 1 - (i : Int))]).run Try.prog w =
      .ok (.slice (some ⟨w.heap.size, 0, none⟩) (n + 1) G) (w.drew.alloc (.cells ROW 92)) := fun ty => by
    have h := Lib.run_append_grow_zeros w 25 3 ty 92 i0 _ .i64 .i64 Try.underlying25 Try.underlying3 hi0 hz0 (some ⟨g, 0, none⟩) i cap (flat92 (xs.take i)) hold (n + 1 - i) (by omega) (by omega) (by omega) (by omega) (by rw [hz2]; omega) (by rw [hz2, hik]; exact growslice_fits hroom hbig)
    rw [hik, ← hG, ← hROW] at h
    rw [hkk]
    exact h
  have hRs : ROW.size = G * 2 := by
    rw [hROW]
    simp only [Builtin.zeroCells, Value.cells, Array.size_append, List.size_toArray, Array.size_map, Array.size_range, htl]
    show i * 2 + (n + 1 - i) * 2 + (G - (n + 1)) * 2 = _
    omega
  have hRt : ROW.toList.take (i * 2) = flat92 (xs.take i) := by
    rw [hROW, Array.toList_append, Array.toList_append, List.append_assoc, List.take_append_of_le_length (by rw [List.toList_toArray, htl]; exact Nat.le_refl _), List.toList_toArray, ← htl, List.take_length]
  obtain ⟨row1, hrow1⟩ : ∃ row1 : Array Value, row1 = (ROW.toList.take (i * 2) ++ enc92 x ++ ROW.toList.drop (i * 2 + (enc92 x).length)).toArray := ⟨_, rfl⟩
  obtain ⟨row2, hrow2⟩ : ∃ row2 : Array Value, row2 = (row1.toList.take ((i + 1) * 2) ++ flat92 (xs.drop i) ++ row1.toList.drop ((i + 1) * 2 + (flat92 (xs.drop i)).length)).toArray := ⟨_, rfl⟩
  have hs1 : row1.size = G * 2 := by
    rw [hrow1]
    simp only [List.size_toArray, List.length_append, List.length_take, List.length_drop, Array.length_toList, show (enc92 x).length = 2 from rfl, hRs]
    omega
  have hs2 : row2.size = G * 2 := by
    rw [hrow2]
    simp only [List.size_toArray, List.length_append, List.length_take, List.length_drop, Array.length_toList, hdl, hs1]
    omega
  have hcpA : ∀ (W : World), W.heap[w.heap.size]? = some (.cells ROW 92 (0, 0)) → W.heap[vb]? = w.heap[vb]? → ∀ ty dc, (Builtin.copy_ #[25, 25] ty #[.slice (some ⟨w.heap.size, i * 2, none⟩) (n + 1 - i) dc, .slice (some ⟨vb, 0, none⟩) 1 1]).run Try.prog W = .ok (goInt 1) (W.setRow w.heap.size row1) := fun W hW1 hW2 ty dc => by
    rw [hrow1]
    exact run_copy_row2 W 25 25 ty 92 w.heap.size (i * 2) (n + 1 - i) dc ⟨vb, 0, none⟩ 1 1 ROW 92 (enc92 x) 1 Try.underlying25 hs92 hW1 (by simp only [Nat.min_def]; split <;> omega) rfl
      (fun j u hj => by
        rw [Addr.add_lit, World.cell?_of_block (w := w) hW2]
        exact hvs j u hj)
      (by show i * 2 + 2 ≤ _; rw [hRs]; omega) (by intro u hu; simp only [enc92, List.mem_cons, List.not_mem_nil, or_false] at hu; rcases hu with rfl | rfl <;> rfl)
  have hcpB : ∀ (W : World), W.heap[w.heap.size]? = some (.cells row1 92 (0, 0)) → W.heap[g]? = w.heap[g]? → ∀ ty dc sc, (Builtin.copy_ #[25, 25] ty #[.slice (some ⟨w.heap.size, (i + 1) * 2, none⟩) (n - i) dc, .slice (some ⟨g, i * 2, none⟩) (n - i) sc]).run Try.prog W = .ok (goInt ((n - i : Nat) : Int)) (W.setRow w.heap.size row2) := fun W hW1 hW2 ty dc sc => by
    rw [hrow2]
    exact run_copy_row2 W 25 25 ty 92 w.heap.size ((i + 1) * 2) (n - i) dc ⟨g, i * 2, none⟩ (n - i) sc row1 92 (flat92 (xs.drop i)) (n - i) Try.underlying25 hs92 hW1 (by simp only [Nat.min_def]; split <;> omega) hdl
      (fun j u hj => by
        rw [Addr.add_lit, World.cell?_of_block (w := w) hW2]
        refine hcs (i * 2 + j) u ?_
        rwa [← flat92_drop, List.getElem?_drop] at hj)
      (by rw [hdl, hs1]; omega) (flat92_one _)
  have hfin : row2.toList.take ((n + 1) * 2) = flat92 (xs.take i ++ x :: xs.drop i) := by
    have hl1 : (row1.toList.take ((i + 1) * 2)) = flat92 (xs.take i) ++ enc92 x := by
      rw [hrow1, hRt]
      have hl : (flat92 (xs.take i) ++ enc92 x).length = (i + 1) * 2 := by
        rw [List.length_append, htl, show (enc92 x).length = 2 from rfl]
        omega
      show List.take ((i + 1) * 2) (flat92 (xs.take i) ++ enc92 x ++ _) = _
      rw [List.take_append_of_le_length (by rw [hl]; exact Nat.le_refl _), ← hl, List.take_length]
    rw [hrow2, hl1, flat92_append, flat92]
    have hl : (flat92 (xs.take i) ++ enc92 x ++ flat92 (xs.drop i)).length = (n + 1) * 2 := by
      rw [List.length_append, List.length_append, hdl, htl, show (enc92 x).length = 2 from rfl]
      omega
    show List.take ((n + 1) * 2) (flat92 (xs.take i) ++ enc92 x ++ flat92 (xs.drop i) ++ _) = _
    rw [List.take_append_of_le_length (by rw [hl]; exact Nat.le_refl _), ← hl, List.take_length, List.append_assoc]
  have hw1 : IntKind.i64.wrap ((i : Int) + 1) = (i : Int) + 1 := by rw [IntKind.wrap_i64]; omega
  have hw2 : IntKind.i64.wrap ((n : Int) + 1) = (n : Int) + 1 := by rw [IntKind.wrap_i64]; omega
  have hin : (i : Int) ≤ (n : Int) := by omega
  have hz2' : ¬ ((i : Int) = (n : Int)) := by omega
  have hz3 : (cap : Int) < (n : Int) + 1 := by omega
  have hb1 : (0 : Int) ≤ (i : Int) + 1 := by omega
  have hb3 : (i : Int) ≤ (n : Int) + 1 := by omega
  have hb4 : ¬ (cap = i) := by omega
  have hGi : ¬ (G = i) := by omega
  have hGim : ¬ (G = i + 1) := by omega
  have htn : ((i : Int) + 1).toNat = i + 1 := by omega
  obtain ⟨W1, hW1⟩ : ∃ W1, W1 = (w.alloc (.cells ROW 92)).drew := ⟨_, rfl⟩
  have hW1a : W1.heap[w.heap.size]? = some (.cells ROW 92 (0, 0)) := by rw [hW1]; exact heap_alloc_new w _
  have hW1b : W1.heap[vb]? = w.heap[vb]? := by rw [hW1]; exact heap_alloc_old w _ hvw
  have hW1c : W1.heap[g]? = w.heap[g]? := by rw [hW1]; exact heap_alloc_old w _ hgw
  have hA := hcpA W1 hW1a hW1b
  have hB1 : Below w.heap.size w W1 := by rw [hW1]; exact below_drew1 ((Below.refl _ _).alloc (Nat.le_refl _) _)
  obtain ⟨W2, hW2⟩ : ∃ W2, W2 = W1.setRow w.heap.size row1 := ⟨_, rfl⟩
  have hW2a : W2.heap[w.heap.size]? = some (.cells row1 92 (0, 0)) := by rw [hW2]; exact setRow_heap W1 _ _ _ _ _ hW1a
  have hW2c : W2.heap[g]? = w.heap[g]? := by rw [hW2, setRow_other _ _ _ _ (by omega)]; exact hW1c
  have hB2 : Below w.heap.size w W2 := by rw [hW2]; exact below_setRow hB1 (Nat.le_refl _) _
  have hBB := hcpB W2.drew hW2a hW2c
  obtain ⟨W3, hW3⟩ : ∃ W3, W3 = W2.drew.setRow w.heap.size row2 := ⟨_, rfl⟩
  have hW3a : W3.heap[w.heap.size]? = some (.cells row2 92 (0, 0)) := by rw [hW3]; exact setRow_heap W2.drew _ _ _ _ _ hW2a
  have hB3 : Below w.heap.size w W3 := by rw [hW3]; exact below_setRow (below_drew1 hB2) (Nat.le_refl _) _
  rw [← hW2] at hA
  rw [← hW3] at hBB
  have hrz1 : ∀ ty, (Builtin.append_ #[25, 3] ty #[.slice (some ⟨g, 0, none⟩) i cap, .int .i64 ((n : Int) + 1 - (i : Int))]).run Try.prog w = .ok (.slice (some ⟨w.heap.size, 0, none⟩) (n + 1) G) W1 := fun ty => (hrz ty).trans (by rw [hW1]; rfl)
  obtain ⟨N, hN⟩ : ∃ N, N = w.heap.size := ⟨_, rfl⟩
  rw [← hN] at hA hBB hrz1 hW3a hB3 ⊢
  have HF := Aside0.mk (And.intro (And.intro hs2 hfin) (And.intro hW3a hB3))
  clear hcpA hcpB hW1 hW1a hW1b hW1c hB1 hW2 hW2a hW2c hB2 hW3 hrz hgw hvw hW3a hB3
  clear hkk hik hold hROW hG hz0 hz1 hz2 hi0 hRs hRt hcs hvs hcur hn hroom hdl htl hs1 hs2 hfin hrow1 hrow2 hbig hs92 hi hv hg hsz
  have HN := Aside0.mk hN
  clear hN
  go_enter Try.func105, Try.ntmps105
  go_wp2_with (at_builtin; refine Lib.wpList_append_run _ rfl _ _ _ _ rfl _ _ rfl rfl _ _ (hrz1 _) ?_)
  go_region_law (refine step_copy_runI rfl _ _ 25 25 rfl _ _ (by simp [Act.eval, Act.put]) (by simp [Act.eval, Act.put]) (hBB _ _ _) ?_)
  go_wp2
  go_ret
  exact ⟨N, G, row2, rfl, by rw [HN.out]; exact Nat.le_refl _, HF.out.2.1, hGn, hG63, HF.out.1.1, HF.out.1.2, HF.out.2.2⟩
set_option maxHeartbeats 4000000 in
set_option maxRecDepth 100000 in
/-- slices.Insert of one cell into a row of the call's own. -/
theorem insert92 (v : Value) (xs : List S92) (i vb : Nat) (x : S92) (w0 w : World) (hi : i ≤ xs.length) (HO : Kd.R k92 92 w w0.heap.size (fun _ => True) v xs) (HB : Below w0.heap.size w0 w)
    (hv : w.heap[vb]? = some (.cells #[.string x.f0, .int .i64 x.f1] 92 (0, 0))) (hne : some vb ≠ v.ownBlock) (hlen : xs.length + 1 < 5864062014805) :
    Calls Try.prog 105 #[v, .int .i64 i, .slice (some ⟨vb, 0, none⟩) 1 1] w fun e w' => ∃ v0_ : Value, e = .returned (v0_) ∧ Kd.R k92 92 w' w0.heap.size (fun _ => True) v0_ (xs.take i ++ x :: xs.drop i) ∧ Below w0.heap.size w0 w' := by
  by_cases hend : i = xs.length
  · subst hend
    have hbig : (xs.length + 1) * 24 ≤ 140737488355328 := by omega
    have hCv : Kd.C k92 w (some ⟨vb, 0, none⟩) 1 [x] := ⟨rfl, by omega, fun _ => ⟨_, rfl, fun j p hj => by
      cases j with
      | zero =>
        obtain rfl : x = p := by simpa using hj
        refine ⟨[.string x.f0, .int .i64 x.f1], rfl, k92_mk _ _, fun q u hq => ?_⟩
        have h2 : (#[Value.string x.f0, Value.int .i64 x.f1] : Array Value)[q]? = some u := by rw [← Array.getElem?_toList]; exact hq
        show w.cell? ((⟨vb, 0, none⟩ : Addr).add (0 * 2 + q)) = some u
        rw [Addr.add_lit]
        simp [World.cell?, hv, h2]
      | succ j => simp at hj⟩⟩
    have HC := Aside0.mk hCv
    have HO_ := Aside0.mk HO
    have HB_ := Aside0.mk HB
    have hz1 : ¬ ((1 : Int) = 0) := by decide
    rw [show xs.take xs.length ++ x :: xs.drop xs.length = xs ++ [x] from by rw [List.take_length, List.drop_length]]
    rcases own92_nil (own92 HO) with ⟨rfl, rfl⟩ | ⟨g, cap, cur, rfl, hb, hg, h1, h2, h3, h4⟩
    · clear HO HB hCv hv hne hi
      go_enter Try.func105, Try.ntmps105
      go_wp2_with ((with_reducible refine gate_builtin (b := .append) (xs := #[.tmp 23, .tmp 24]) rfl ?_); at_builtin; refine Kd.R_append_rows k92 (w0 := w0) w0.heap.size rfl (.tmp 23) (.tmp 24) 25 92 (.agg #[(.string ⟨#[]⟩), (.int .i64 0)]) 24 rfl Try.underlying25 info92 rfl (by decide) (by omega) (.slice none 0 0) [] [x] _ _ _ (fun _ => True) (fun _ => False) rfl rfl HO_.out HC.out (fun _ _ h => h) (fun _ h => h.elim) (fun _ _ => trivial) HB_.out (below_size HB_.out) (by simp) ?_; intro v7 w7 ho hb hg hat; have HO7 := Aside0.mk ho; have HB7 := Aside0.mk hb; clear HO_ HB_ ho hb hg hat)
      go_ret
      exact ⟨_, rfl, HO7.out, HB7.out⟩
    · clear HO HB hCv hv hne hi hg h3 h4 hb
      have hlz : (xs.length : Int) ≤ (xs.length : Int) := Int.le_refl _
      go_enter Try.func105, Try.ntmps105
      go_wp2_with ((with_reducible refine gate_builtin (b := .append) (xs := #[.tmp 23, .tmp 24]) rfl ?_); at_builtin; refine Kd.R_append_rows k92 (w0 := w0) w0.heap.size rfl (.tmp 23) (.tmp 24) 25 92 (.agg #[(.string ⟨#[]⟩), (.int .i64 0)]) 24 rfl Try.underlying25 info92 rfl (by decide) (by omega) _ xs [x] _ _ _ (fun _ => True) (fun _ => False) rfl rfl HO_.out HC.out (fun _ _ h => h) (fun _ h => h.elim) (fun _ _ => trivial) HB_.out (below_size HB_.out) hbig ?_; intro v7 w7 ho hb hg hat; have HO7 := Aside0.mk ho; have HB7 := Aside0.mk hb; clear HO_ HB_ ho hb hg hat)
      all_goals
        go_ret
        exact ⟨_, rfl, HO7.out, HB7.out⟩
  · have hlt : i < xs.length := by omega
    rcases own92_nil (own92 HO) with ⟨rfl, rfl⟩ | ⟨g, cap, cur, rfl, hb, hg, h1, h2, h3, h4⟩
    · simp at hlt
    · have hvb : vb ≠ g := fun e => hne (by rw [e]; rfl)
      have hl : (xs.take i ++ x :: xs.drop i).length = xs.length + 1 := by
        rw [List.length_append, List.length_cons, List.length_take, List.length_drop]
        omega
      by_cases hroom : xs.length + 1 ≤ cap
      · refine (insert92_room g cap i vb cur xs x w hlt hroom h2 hvb hg h3 h4 hv).mono ?_
        rintro e w' ⟨rfl, cur2, hs2, hf2, rfl⟩
        refine ⟨_, rfl, row92 ⟨flat92_length _, .inr ⟨g, cap, cur2, ?_, hb, setRow_heap w.drew g cur cur2 92 _ hg, by rw [hl]; exact hroom, h2, hs2, by rw [hl]; exact hf2⟩⟩, below_setRow (below_drew1 HB) hb _⟩
        rw [hl]
      · refine (insert92_grow g cap i vb cur xs x w hlt h1 (by omega) (by omega) hg h3 h4 hv).mono ?_
        rintro e w' ⟨g2, cap2, cur2, rfl, hgs, hg2, hc1, hc2, hs2, hf2, hbw⟩
        refine ⟨_, rfl, row92 ⟨flat92_length _, .inr ⟨g2, cap2, cur2, ?_, Nat.le_trans HB.size hgs, hg2, by rw [hl]; exact hc1, hc2, hs2, by rw [hl]; exact hf2⟩⟩, HB.trans (hbw.mono HB.size)⟩
        rw [hl]
/-- How many cells at the begin have a lesser key. -/
def posLt (key : ByteArray) : List S92 → Nat
  | [] => 0
  | x :: xs => if (Op.bytesLess x.f0.toList key.toList) = true then posLt key xs + 1 else 0
theorem posLt_le (key : ByteArray) : ∀ l : List S92, posLt key l ≤ l.length
  | [] => Nat.le_refl _
  | x :: xs => by
    have := posLt_le key xs
    simp only [posLt, List.length_cons]
    split <;> omega
/-- Cells of which the one with a key has a number. -/
def withC (l : List S92) (key : ByteArray) (n : Int) : List S92 :=
  if 0 ≤ idxBy92 (fun x => x.f0.toList == key.toList) l 0 then l.set (idxBy92 (fun x => x.f0.toList == key.toList) l 0).toNat ⟨(rd_T92 l (idxBy92 (fun x => x.f0.toList == key.toList) l 0)).f0, n⟩
  else l.take (posLt key l) ++ ⟨key, n⟩ :: l.drop (posLt key l)
theorem idxBy92_range (p : S92 → Bool) : ∀ (l : List S92) (i : Int), idxBy92 p l i = -1 ∨ i ≤ idxBy92 p l i ∧ idxBy92 p l i < i + l.length
  | [], i => .inl rfl
  | x :: xs, i => by
    simp only [idxBy92, List.length_cons]
    split
    · exact .inr ⟨Int.le_refl _, by omega⟩
    · rcases idxBy92_range p xs (i + 1) with h | h
      · exact .inl h
      · exact .inr ⟨by omega, by omega⟩
def impl_withCell.f (l0 : List (S92)) (a1 : ByteArray) (a2 : Int) : Option (List (S92)) := if l0.length + 1 < 5864062014805 then some (withC l0 a1 a2) else none
set_option maxHeartbeats 4000000 in
set_option maxRecDepth 100000 in
theorem impl_withCell.found (A0 : Option Addr) (c0 : Nat) (l0 : List (S92)) (a1 : ByteArray) (a2 : Int) (w : World) (hr0 : Kd.C k92 w A0 l0.length l0) (hc0 : l0.length ≤ c0) (hl : l0.length + 1 < 5864062014805) (j : Nat) (hj : idxBy92 (fun x => x.f0.toList == a1.toList) l0 0 = (j : Int)) (hjl : j < l0.length) :
    Calls Try.prog 86 #[.slice A0 l0.length c0, .string a1, .int .i64 a2] w fun e w' => ∃ v0_ : Value, e = .returned (v0_) ∧ Kd.R k92 92 w' w.heap.size (fun _ => True) v0_ (l0.set j ⟨(rd_T92 l0 (j : Int)).f0, a2⟩) ∧ Below w.heap.size w w' := by
  have hu := Try.underlying92
  have HR0 := Aside0.mk hr0
  have HC0 := Aside0.mk hc0
  have HCL := Aside0.mk (show impl_Cell_83.f l0 = some l0 by unfold impl_Cell_83.f; rw [if_pos (by omega)])
  have HCA := Aside0.mk (show impl_CellAt.f l0 a1 = some (j : Int) by unfold impl_CellAt.f; rw [hj])
  have HB := Aside0.mk (Below.refl w.heap.size w)
  have HJ := Aside0.mk hjl
  have h0 : (0 : Int) ≤ (j : Int) := by omega
  have h1 : (j : Int) < (l0.length : Int) := by omega
  clear hr0 hc0 hl hj hjl
  go_enter Try.func86, Try.ntmps86
  go_wp2_with (first
    | (go_at_call 83; (with_reducible refine (impl_Cell_83.calls A0 c0 l0 l0 _ HR0.out HC0.out HCL.out).mono ?_); rintro e w1 ⟨v7, rfl, ho, hb⟩; have HO := Aside0.mk ho; have HB1 := Aside0.mk hb; clear HB ho hb)
    | (go_at_call 17; (with_reducible refine (impl_CellAt.calls A0 c0 l0 a1 (j : Int) _ (Kd.C_below HR0.out HB1.out) HC0.out HCA.out).mono ?_); rintro e w2 ⟨rfl, hb⟩; have HO2 := Aside0.mk (Kd.R_below HO.out hb); have HB2 := Aside0.mk (HB1.out.trans (hb.mono HB1.out.size)); clear HO HB1 hb; obtain ⟨g7, c7, e7, hg7, hl7, cells7, hc7⟩ := Kd.R_form HO2.out (by omega); subst e7; obtain ⟨cj, hcl, hcM, hcc, hcf⟩ := Kd.R_elem HO2.out z92 (j : Int) (by omega) (by omega); obtain rfl := k92_openM hcM; have hx1 : w2.cell? ⟨g7, j * 2 + 1, none⟩ = some (.int .i64 (rd_T92 l0 (j : Int)).f1) := hcc 1 _ rfl; have hf1 : w2.frozen? ⟨g7, j * 2 + 1, none⟩ = false := hcf 1; have HST := Aside0.mk (Kd.R_seg HO2.out (j : Int) (by omega) (by omega) (seg := [.int .i64 a2]) (j := 1) rfl hcc (Nat.le_refl 2) (x' := (⟨(rd_T92 l0 (j : Int)).f0, a2⟩ : S92)) (k92_mkM w2 w.heap.size (fun _ => False) _) (fun _ h => h.elim)); have HG7 := Aside0.mk hg7; clear hcc hcf hcM hcl hc7 hl7 HO2 hg7))
  go_ret
  exact ⟨_, rfl, HST.out.1, below_set HB2.out HG7.out⟩
theorem posLt_full (key : ByteArray) (l : List S92) (k : Nat) (h : posLt key l = k + posLt key (l.drop k)) (hk : l.length ≤ k) : posLt key l = k := by
  rw [List.drop_eq_nil_of_le hk] at h
  exact h
set_option maxHeartbeats 4000000 in
set_option maxRecDepth 100000 in
theorem impl_withCell.other (A0 : Option Addr) (c0 : Nat) (l0 : List (S92)) (a1 : ByteArray) (a2 : Int) (w : World) (hr0 : Kd.C k92 w A0 l0.length l0) (hc0 : l0.length ≤ c0) (hl : l0.length + 1 < 5864062014805) (hj : idxBy92 (fun x => x.f0.toList == a1.toList) l0 0 = -1) :
    Calls Try.prog 86 #[.slice A0 l0.length c0, .string a1, .int .i64 a2] w fun e w' => ∃ v0_ : Value, e = .returned (v0_) ∧ Kd.R k92 92 w' w.heap.size (fun _ => True) v0_ (l0.take (posLt a1 l0) ++ ⟨a1, a2⟩ :: l0.drop (posLt a1 l0)) ∧ Below w.heap.size w w' := by
  have hu := Try.underlying92
  have HR0 := Aside0.mk hr0
  have HC0 := Aside0.mk hc0
  have HCL := Aside0.mk (show impl_Cell_83.f l0 = some l0 by unfold impl_Cell_83.f; rw [if_pos (by omega)])
  have HCA := Aside0.mk (show impl_CellAt.f l0 a1 = some (-1 : Int) by unfold impl_CellAt.f; rw [hj])
  have HB := Aside0.mk (Below.refl w.heap.size w)
  have HL := Aside0.mk hl
  have HPL := Aside0.mk (posLt_le a1 l0)
  clear hr0 hc0 hl hj
  go_enter Try.func86, Try.ntmps86
  go_wp2_with (first
    | (go_at_call 83; (with_reducible refine (impl_Cell_83.calls A0 c0 l0 l0 _ HR0.out HC0.out HCL.out).mono ?_); rintro e w1 ⟨v7, rfl, ho, hb⟩; have HO := Aside0.mk ho; have HB1 := Aside0.mk hb; clear HB ho hb)
    | (go_at_call 17; (with_reducible refine (impl_CellAt.calls A0 c0 l0 a1 (-1) _ (Kd.C_below HR0.out HB1.out) HC0.out HCA.out).mono ?_); rintro e w2 ⟨rfl, hb⟩; have HO2 := Aside0.mk (Kd.R_below HO.out hb); have HB2 := Aside0.mk (HB1.out.trans (hb.mono HB1.out.size)); clear HO HB1 hb))
  go_loopg [9] l0.length (fun gg s9 wr => ∃ kk : Nat, kk ≤ l0.length ∧ l0.length - kk ≤ gg ∧ s9 = .int .i64 kk ∧ Aside0 (Kd.R k92 92 wr w.heap.size (fun _ => True) v7 l0) ∧ Aside0 (Below w.heap.size w wr) ∧ Aside0 (posLt a1 l0 = kk + posLt a1 (l0.drop kk)))
  case atStart => exact ⟨0, Nat.zero_le _, by omega, rfl, HO2, HB2, ⟨by simp⟩⟩
  case round =>
    obtain ⟨kk, hkk, hg, rfl, HO3, HB3, A⟩ := hrel
    clear HO2 HB2 HCL HCA
    by_cases hlt : kk < l0.length
    · have hltz : (kk : Int) < (l0.length : Int) := by omega
      have hkb : (kk : Int) + 1 ≤ 9223372036854775807 := by have := HL.out; omega
      obtain ⟨ad, ea, hx0, hx1⟩ := at_T92 HR0.out (kk : Int) (by omega) hltz
      subst ea
      have hd : l0.drop kk = l0[kk] :: l0.drop (kk + 1) := List.drop_eq_getElem_cons hlt
      have hx : rd_T92 l0 (kk : Int) = l0[kk] := by unfold rd_T92; rw [Int.toNat_natCast, List.getD_eq_getElem?_getD, List.getElem?_eq_getElem hlt]; rfl
      have ha := A.out
      rw [hd, posLt, ← hx] at ha
      rw [Int.toNat_natCast] at hx0
      replace hx0 := pw_cell_below HB3.out hx0
      generalize (rd_T92 l0 (kk : Int)).f0 = key at hx0 ha
      clear hd hx hx1 A
      cases hq : Op.bytesLess key.toList a1.toList with
      | true =>
        rw [if_pos hq] at ha
        have HA := Aside0.mk ha
        clear ha
        go_wp2
        go_roundg (l0.length - (kk + 1))
        case measure => omega
        case rel => exact ⟨kk + 1, by omega, by omega, by go_num, HO3, HB3, ⟨by have := HA.out; omega⟩⟩
      | false =>
        rw [if_neg (by rw [hq]; decide), Nat.add_zero] at ha
        have HA := Aside0.mk ha
        clear ha
        go_wp2_with (go_at_call 105; refine (insert92 v7 l0 kk wr.heap.size ⟨a1, a2⟩ w _ hkk (Kd.R_alloc HO3.out _) (below_alloc HB3.out _) (heap_alloc_new wr _) (Kd.R_ne_new HO3.out 0) HL.out).mono ?_; rintro e w4 ⟨v4, rfl, ho, hb⟩; have HO4 := Aside0.mk ho; have HB4 := Aside0.mk hb; clear ho hb)
        go_ret
        rw [HA.out]
        exact ⟨_, rfl, HO4.out, HB4.out⟩
    · have hltz : ¬ (kk : Int) < (l0.length : Int) := by omega
      have HA := Aside0.mk (posLt_full a1 l0 kk A.out (by omega))
      clear A
      go_wp2_with (go_at_call 105; refine (insert92 v7 l0 kk wr.heap.size ⟨a1, a2⟩ w _ hkk (Kd.R_alloc HO3.out _) (below_alloc HB3.out _) (heap_alloc_new wr _) (Kd.R_ne_new HO3.out 0) HL.out).mono ?_; rintro e w4 ⟨v4, rfl, ho, hb⟩; have HO4 := Aside0.mk ho; have HB4 := Aside0.mk hb; clear ho hb)
      go_ret
      rw [HA.out]
      exact ⟨_, rfl, HO4.out, HB4.out⟩
theorem impl_withCell.calls (A0 : Option Addr) (c0 : Nat) (l0 : List (S92)) (a1 : ByteArray) (a2 : Int) (r : List (S92)) (w : World) (hr0 : Kd.C k92 w A0 l0.length l0) (hc0 : l0.length ≤ c0) (h : impl_withCell.f l0 a1 a2 = some r) :
    Calls Try.prog 86 #[.slice A0 l0.length c0, .string a1, .int .i64 a2] w fun e w' => ∃ v0_ : Value, e = .returned (v0_) ∧ Kd.R k92 92 w' w.heap.size (fun _ => True) v0_ r ∧ Below w.heap.size w w' := by
  unfold impl_withCell.f at h
  split at h
  · rename_i hl
    obtain rfl := Option.some.inj h
    unfold withC
    rcases idxBy92_range (fun x => x.f0.toList == a1.toList) l0 0 with hj | ⟨h0, h1⟩
    · rw [hj, if_neg (by decide)]
      exact impl_withCell.other A0 c0 l0 a1 a2 w hr0 hc0 hl hj
    · rw [if_pos h0]
      obtain ⟨j, hj⟩ := Int.eq_ofNat_of_zero_le h0
      rw [hj]
      exact impl_withCell.found A0 c0 l0 a1 a2 w hr0 hc0 hl j hj (by omega)
  · cases h

/-! ### impl_Undone: function 43 -/
theorem idxBy92_none (p : S92 → Bool) : ∀ (l : List S92) (i : Nat), idxBy92 p l (i : Int) = -1 → ∀ x ∈ l, p x = false
  | [], _, _, x, hx => by simp at hx
  | y :: ys, i, h, x, hx => by
    simp only [idxBy92] at h
    by_cases hy : p y = true
    · rw [if_pos hy] at h
      omega
    · rw [if_neg hy] at h
      rcases List.mem_cons.1 hx with rfl | hx
      · simpa using hy
      · exact idxBy92_none p ys (i + 1) h x hx
theorem idxBy92_some (p : S92 → Bool) : ∀ (l : List S92) (i j : Nat), idxBy92 p l (i : Int) = ((i + j : Nat) : Int) → (∀ x ∈ l.take j, p x = false) ∧ ∃ h : j < l.length, p l[j] = true
  | [], i, j, h => by simp only [idxBy92] at h; omega
  | y :: ys, i, j, h => by
    simp only [idxBy92] at h
    by_cases hy : p y = true
    · rw [if_pos hy] at h
      obtain rfl : j = 0 := by omega
      exact ⟨fun x hx => by simp at hx, by simp, hy⟩
    · rw [if_neg hy] at h
      cases j with
      | zero =>
        rcases idxBy92_range p ys ((i : Int) + 1) with h2 | h2 <;> omega
      | succ j =>
        obtain ⟨h1, h2, h3⟩ := idxBy92_some p ys (i + 1) j (by rw [show i + 1 + j = i + (j + 1) from by omega]; exact h)
        refine ⟨fun x hx => ?_, by simpa using h2, by simpa using h3⟩
        rw [List.take_succ_cons] at hx
        rcases List.mem_cons.1 hx with rfl | hx
        · simpa using hy
        · exact h1 x hx
theorem run_clear2 {P : Program} (w : World) (t e : TypeId) (z : Value) (ht : P.underlying t = some (.slice e)) (hv : ∀ w, (zeroValue e).run P w = .ok z w) (hz : z.cells.size = 2) (h1 : ∀ u ∈ z.cells.toList, u.oneCell' = true) (g o n c : Nat) (hn : 0 < n)
    (cur : Array Value) (tt : TypeId) (hg : w.heap[g]? = some (.cells cur tt (0, 0))) (hfit : o + n * 2 ≤ cur.size) :
    ∃ zs : List Value, zs.length = n * 2 ∧ ∀ ty, (Builtin.clear_ #[t] ty #[.slice (some ⟨g, o, none⟩) n c]).run P w = .ok (.tuple #[]) (w.setRow g (cur.toList.take o ++ zs ++ cur.toList.drop (o + zs.length)).toArray) := by
  have hl : (Builtin.zeroCells z.cells n).toList.length = n * 2 := by
    rw [Array.length_toList]
    simp only [Builtin.zeroCells, Array.size_map, Array.size_range, hz]
  have ho : ∀ u ∈ (Builtin.zeroCells z.cells n).toList, u.oneCell' = true := by
    intro u hu
    simp only [Builtin.zeroCells, Array.toList_map, List.mem_map] at hu
    obtain ⟨q, _, rfl⟩ := hu
    have hq : q % z.cells.size < z.cells.size := Nat.mod_lt _ (by omega)
    rw [getElem!_pos z.cells _ hq]
    exact h1 _ (by simp)
  have hst := run_storeCells_at P g o tt (Builtin.zeroCells z.cells n).toList 0 cur w hg (by rw [hl]; omega) ho
  refine ⟨(Builtin.zeroCells z.cells n).toList, hl, fun ty => ?_⟩
  obtain ⟨m, rfl⟩ : ∃ m, n = m + 1 := ⟨n - 1, by omega⟩
  simp only [Nat.add_zero] at hst
  simp [Builtin.clear_, run_underlying ht, hv, hst]
theorem impl_Undone.closure (key : ByteArray) (b : Nat) (x : S92) (W : World) (hk : W.cell? ⟨b, 0, none⟩ = some (.string key)) :
    Calls Try.prog 88 #[.agg #[.string x.f0, .int .i64 x.f1], .pointer (some ⟨b, 0, none⟩)] W fun e w' => e = .returned (.bool (x.f0.toList == key.toList)) ∧ Below W.heap.size W w' := by
  have hu := Try.underlying92
  have hu2 := Try.underlying32
  have hb := World.block_lt_of_cell? W _ hk
  go_enter Try.func88, Try.ntmps88
  go_wp2
  go_ret
  exact ⟨rfl, (Below.refl _ _).alloc (Nat.le_refl _) _⟩
/-- The plain side of slices.DeleteFunc's loop. -/
theorem del_step {p : S92 → Bool} {xs dk : List S92} {i j : Nat} (hi : (dk.take i) = (xs.take j).filter (fun x => !p x)) (hd : dk.drop j = xs.drop j) (hn : dk.length = xs.length) (hij : i < j) (hj : j < xs.length) :
    (p xs[j] = true → dk.take i = (xs.take (j + 1)).filter (fun x => !p x)) ∧ (p xs[j] = false → (dk.set i xs[j]).take (i + 1) = (xs.take (j + 1)).filter (fun x => !p x)) ∧ dk.drop (j + 1) = xs.drop (j + 1) ∧ (dk.set i xs[j]).drop (j + 1) = xs.drop (j + 1) := by
  have e : xs.take (j + 1) = xs.take j ++ [xs[j]] := List.take_succ_eq_append_getElem hj
  have hd2 : dk.drop (j + 1) = xs.drop (j + 1) := by rw [← List.drop_drop, ← List.drop_drop, hd]
  refine ⟨fun h => ?_, fun h => ?_, hd2, ?_⟩
  · rw [e, List.filter_append, ← hi]
    simp [h]
  · have hil : i < (dk.set i xs[j]).length := by rw [List.length_set]; omega
    rw [List.take_succ_eq_append_getElem hil, List.getElem_set_self, List.take_set_of_le (Nat.le_refl i), e, List.filter_append, ← hi]
    simp [h]
  · rw [List.drop_set_of_lt (by omega)]
    exact hd2
theorem read92 {W : World} {base g n cap : Nat} {ok : Nat → Prop} {dk : List S92} (h : Kd.R k92 92 W base ok (.slice (some ⟨g, 0, none⟩) n cap) dk) (j : Nat) (hj : j < n) :
    W.cell? ⟨g, j * 2, none⟩ = some (.string (rd_T92 dk (j : Int)).f0) ∧ W.cell? ⟨g, j * 2 + 1, none⟩ = some (.int .i64 (rd_T92 dk (j : Int)).f1) ∧ W.frozen? ⟨g, j * 2, none⟩ = false ∧ W.frozen? ⟨g, j * 2 + 1, none⟩ = false := by
  obtain ⟨c, _, hM, hc, hf⟩ := Kd.R_elem h z92 (j : Int) (by omega) (by omega)
  obtain rfl := k92_openM hM
  exact ⟨hc 0 _ rfl, hc 1 _ rfl, hf 0, hf 1⟩
set_option maxHeartbeats 8000000 in
set_option maxRecDepth 100000 in
theorem delete92 (v : Value) (xs : List S92) (key : ByteArray) (bu : Nat) (w0 w : World) (HO : Kd.R k92 92 w w0.heap.size (fun _ => True) v xs) (HB : Below w0.heap.size w0 w) (hk : w.cell? ⟨bu, 0, none⟩ = some (.string key)) (hne : some bu ≠ v.ownBlock) (hlen : xs.length < 5864062014805) :
    Calls Try.prog 87 #[v, .func (.func 88) #[] #[.pointer (some ⟨bu, 0, none⟩)]] w fun e w' => ∃ v0_ : Value, e = .returned (v0_) ∧ Kd.R k92 92 w' w0.heap.size (fun _ => True) v0_ (xs.filter fun x => !(x.f0.toList == key.toList)) ∧ Below w0.heap.size w0 w' := by
  have hu := Try.underlying92
  obtain ⟨A, c, rfl⟩ := Kd.R_slice HO
  obtain ⟨hn, hnc, hC⟩ := Kd.R_reads' HO
  have hbu := World.block_lt_of_cell? w _ hk
  have hIF := indexFunc92_any A c xs w hC (fun x => x.f0.toList == key.toList) 88 #[.pointer (some ⟨bu, 0, none⟩)] (enters_of Try.func88 (by kernel_rfl) rfl)
    (fun W x hW => (impl_Undone.closure key bu x W ((hW.cell (p := ⟨bu, 0, none⟩) hbu).trans hk)).mono fun e w' ⟨he, hb⟩ => ⟨he, hW.trans (hb.mono hW.size)⟩)
  obtain ⟨p, HP⟩ : ∃ p : S92 → Bool, Aside0 (p = fun x => x.f0.toList == key.toList) := ⟨_, ⟨rfl⟩⟩
  rw [← HP.out] at hIF
  have hfil : (xs.filter fun x => !(x.f0.toList == key.toList)) = xs.filter (fun x => !p x) := by rw [HP.out]
  rw [hfil]
  clear hfil
  have hIFa := Aside0.mk hIF
  have HO_ := Aside0.mk HO
  have HB_ := Aside0.mk HB
  clear hIF HO HB hC
  rcases idxBy92_range p xs 0 with hm | ⟨h0, h1⟩
  · have hall := idxBy92_none p xs 0 hm
    have hfil : xs.filter (fun x => !p x) = xs := List.filter_eq_self.2 (fun x hx => by rw [hall x hx]; rfl)
    rw [hfil]
    rw [hm] at hIFa
    clear hm hall hfil hnc hn hk hne hbu hlen
    go_enter Try.func87, Try.ntmps87
    go_wp2_with (go_at_call 69; refine hIFa.out.mono ?_; rintro e w1 ⟨rfl, hb⟩; have HO1 := Aside0.mk (Kd.R_below HO_.out hb); have HB1 := Aside0.mk (HB_.out.trans (hb.mono HB_.out.size)); clear HO_ HB_ hb)
    go_ret
    exact ⟨_, rfl, HO1.out, HB1.out⟩
  · obtain ⟨k0, hk0⟩ := Int.eq_ofNat_of_zero_le h0
    obtain ⟨hlow, hkl, hhit⟩ := idxBy92_some p xs 0 k0 (by rw [Nat.zero_add]; exact hk0)
    rw [hk0] at hIFa
    obtain ⟨g, c2, e, hg, _, _⟩ := Kd.R_form HO_.out (by omega)
    injection e with eA _ ec
    subst eA; subst ec
    have hbg : bu ≠ g := fun e => hne (by rw [e]; rfl)
    have hI0 : xs.take k0 = (xs.take (k0 + 1)).filter (fun x => !p x) := by
      rw [List.take_succ_eq_append_getElem hkl, List.filter_append, List.filter_eq_self.2 (fun x hx => by rw [hlow x hx]; rfl)]
      simp [hhit]
    have HI0 := Aside0.mk hI0
    have HG := Aside0.mk hg
    have HK := Aside0.mk hk
    have HNC := Aside0.mk hnc
    have HL := Aside0.mk hlen
    have hkz : (k0 : Int) + 1 ≤ 9223372036854775807 := by omega
    have hne1 : ((k0 : Int) == -1) = false := beq_eq_false_iff_ne.2 (by omega)
    clear h0 h1 hk0 hlow hhit hI0 hg hk hnc hn hne hbu hlen
    go_enter Try.func87, Try.ntmps87
    go_wp2_with (go_at_call 69; refine hIFa.out.mono ?_; rintro e w1 ⟨rfl, hb⟩; have HO1 := Aside0.mk (Kd.R_below HO_.out hb); have HB1 := Aside0.mk (HB_.out.trans (hb.mono HB_.out.size)); have HK1 := Aside0.mk ((hb.cell (p := ⟨bu, 0, none⟩) (World.block_lt_of_cell? w _ HK.out)).trans HK.out); clear HO_ HB_ hb HK)
    go_loopg [5, 6] xs.length (fun gg s5 s6 wr => ∃ (i j : Nat) (dk : List S92), s5 = .int .i64 i ∧ s6 = .int .i64 j ∧ i < j ∧ j ≤ xs.length ∧ xs.length - j ≤ gg ∧ Aside0 (dk.length = xs.length) ∧ Aside0 (dk.take i = (xs.take j).filter (fun x => !p x)) ∧ Aside0 (dk.drop j = xs.drop j) ∧ Aside0 (Kd.R k92 92 wr w0.heap.size (fun _ => True) (.slice (some ⟨g, 0, none⟩) xs.length c) dk) ∧ Aside0 (Below w0.heap.size w0 wr) ∧ Aside0 (wr.cell? ⟨bu, 0, none⟩ = some (.string key)))
    case atStart => exact ⟨k0, k0 + 1, xs, rfl, by go_num, by omega, by omega, by omega, ⟨rfl⟩, HI0, ⟨rfl⟩, HO1, HB1, HK1⟩
    case round =>
      obtain ⟨i, j, dk, rfl, rfl, hij, hjn, hgg, HN, HT, HD, HO2, HB2, HK2⟩ := hrel
      clear HO1 HB1 HK1 HI0 hIFa
      by_cases hlt : j < xs.length
      · have hltz : (j : Int) < (xs.length : Int) := by omega
        have hjb : (j : Int) + 1 ≤ 9223372036854775807 := by have := HL.out; omega
        have hib : (i : Int) + 1 ≤ 9223372036854775807 := by omega
        have hilz : (i : Int) < (xs.length : Int) := by omega
        obtain ⟨s1, s2, s3⟩ := del_step HT.out HD.out HN.out hij hlt
        obtain ⟨hx0, hx1, _, _⟩ := read92 HO2.out j hlt
        have he : rd_T92 dk (j : Int) = xs[j] := by
          have h1 := congrArg (fun l => l.head?) HD.out
          simp only [List.head?_drop] at h1
          unfold rd_T92
          rw [Int.toNat_natCast, List.getD_eq_getElem?_getD, h1, List.getElem?_eq_getElem hlt]
          rfl
        rw [he] at hx0 hx1
        have S1 := Aside0.mk s1
        have S2 := Aside0.mk s2
        have S3 := Aside0.mk s3
        clear s1 s2 s3 he HT HD
        generalize xs[j] = x at hx0 hx1 S1 S2 S3
        have hcall : Calls Try.prog 88 #[.agg #[.string x.f0, .int .i64 x.f1], .pointer (some ⟨bu, 0, none⟩)] (wr.alloc (.cells #[.string x.f0, .int .i64 x.f1] 92)) fun e w' => e = .returned (.bool (p x)) ∧ Below (wr.alloc (.cells #[.string x.f0, .int .i64 x.f1] 92)).heap.size (wr.alloc (.cells #[.string x.f0, .int .i64 x.f1] 92)) w' := by
          rw [HP.out]
          exact impl_Undone.closure key bu x _ (Lib.cell?_alloc_some _ HK2.out)
        have hnb : Below wr.heap.size wr (wr.alloc (.cells #[.string x.f0, .int .i64 x.f1] 92)) := below_alloc (Below.refl _ _) _
        have HNB := Aside0.mk hnb
        clear hnb
        cases hq : p x with
        | true =>
          rw [hq] at hcall
          have HCALL := Aside0.mk hcall
          have T1 := Aside0.mk (S1.out hq)
          have T2 := Aside0.mk S3.out.1
          clear S1 S2 S3 hcall hq
          go_wp2_with (go_at_call 88; refine HCALL.out.mono ?_; rintro e w2 ⟨rfl, hb⟩; have HB3 := Aside0.mk (HNB.out.trans (hb.mono HNB.out.size)); clear hb)
          go_roundg (xs.length - (j + 1))
          case measure => omega
          case rel => exact ⟨i, j + 1, dk, rfl, by go_num, by omega, by omega, by omega, HN, T1, T2, ⟨Kd.R_below HO2.out HB3.out⟩, ⟨HB2.out.trans (HB3.out.mono HB2.out.size)⟩, ⟨(HB3.out.cell (p := ⟨bu, 0, none⟩) (World.block_lt_of_cell? wr _ HK2.out)).trans HK2.out⟩⟩
        | false =>
          rw [hq] at hcall
          have HCALL := Aside0.mk hcall
          have T1 := Aside0.mk (S2.out hq)
          have T2 := Aside0.mk S3.out.2
          clear S1 S2 S3 hcall hq
          go_wp2_with (go_at_call 88; refine HCALL.out.mono ?_; rintro e w2 ⟨rfl, hb⟩; have hb0 : w2.cell? ⟨wr.heap.size, 0, none⟩ = some (.string x.f0) := (hb.cell (p := ⟨wr.heap.size, 0, none⟩) (by simp)).trans (by go_simp); have hb1 : w2.cell? ⟨wr.heap.size, 1, none⟩ = some (.int .i64 x.f1) := (hb.cell (p := ⟨wr.heap.size, 1, none⟩) (by simp)).trans (by go_simp); have HB3 := Aside0.mk (HNB.out.trans (hb.mono HNB.out.size)); clear hb; have HO3 := Aside0.mk (Kd.R_below HO2.out HB3.out); obtain ⟨hy0, hy1, hz0, hz1⟩ := read92 HO3.out i (by omega); have HST := Aside0.mk (Kd.R_seg HO3.out (i : Int) (by omega) (by omega) (c := [.string (rd_T92 dk (i : Int)).f0, .int .i64 (rd_T92 dk (i : Int)).f1]) (seg := [.string x.f0, .int .i64 x.f1]) (j := 0) rfl (by intro q u hq; match q, hq with | 0, hq => (injection hq with hq; subst hq; exact hy0) | 1, hq => (injection hq with hq; subst hq; exact hy1) | q + 2, hq => (cases hq)) (Nat.le_refl 2) (x' := x) (k92_mkM w2 w0.heap.size (fun _ => False) x) (fun _ h => h.elim)).1)
          go_roundg (xs.length - (j + 1))
          case measure => omega
          case rel => exact ⟨i + 1, j + 1, dk.set i x, by go_num, by go_num, by omega, by omega, by omega, ⟨by rw [List.length_set]; exact HN.out⟩, T1, T2, HST, ⟨below_set (below_set (HB2.out.trans (HB3.out.mono HB2.out.size)) HG.out) HG.out⟩, ⟨by rw [World.cell?_setCell_other _ _ _ _ (by intro q; injection q with q _ _; exact hbg q.symm), World.cell?_setCell_other _ _ _ _ (by intro q; injection q with q _ _; exact hbg q.symm)]; exact (HB3.out.cell (p := ⟨bu, 0, none⟩) (World.block_lt_of_cell? wr _ HK2.out)).trans HK2.out⟩⟩
      · obtain rfl : j = xs.length := by omega
        have hltz : ¬ (xs.length : Int) < (xs.length : Int) := by omega
        have ht := HT.out
        rw [List.take_length] at ht
        have hil : (xs.filter (fun x => !p x)).length = i := by
          rw [← ht, List.length_take, HN.out]
          omega
        rcases own92_nil (own92 HO2.out) with ⟨e, _⟩ | ⟨g', cap', cur, e, hb', hh, h1, h2, h3, h4⟩
        · cases e
        injection e with eA eN eC
        injection eA with eA
        injection eA with eA
        subst eA; subst eC
        obtain ⟨zs, hzl, hcl⟩ := run_clear2 (P := Try.prog) wr 25 92 (.agg #[(.string ⟨#[]⟩), (.int .i64 0)]) Try.underlying25 Try.zeroValue92 rfl (by intro u hu; simp only [Value.cells, List.mem_cons, List.not_mem_nil, or_false] at hu; rcases hu with rfl | rfl <;> rfl) g (i * 2) (xs.length - i) (c - i) (by omega) cur 92 hh (by rw [h3]; omega)
        obtain ⟨cur', hc'⟩ : ∃ cur' : Array Value, cur' = (cur.toList.take (i * 2) ++ zs ++ cur.toList.drop (i * 2 + zs.length)).toArray := ⟨_, rfl⟩
        rw [← hc'] at hcl
        have hs' : cur'.size = c * 2 := by
          rw [hc']
          simp only [List.size_toArray, List.length_append, List.length_take, List.length_drop, Array.length_toList, hzl, h3]
          omega
        have hf' : cur'.toList.take (i * 2) = flat92 (xs.filter (fun x => !p x)) := by
          rw [hc']
          show List.take (i * 2) (List.take (i * 2) cur.toList ++ zs ++ _) = _
          have hl : (List.take (i * 2) cur.toList).length = i * 2 := by rw [List.length_take, Array.length_toList, h3]; omega
          rw [List.append_assoc, List.take_append_of_le_length (by rw [hl]; exact Nat.le_refl _), List.take_take, Nat.min_self, ← ht, ← flat92_take, ← h4, List.take_take, Nat.min_eq_left (by omega)]
        have hfin : Kd.R k92 92 (wr.setRow g cur') w0.heap.size (fun _ => True) (.slice (some ⟨g, 0, none⟩) i c) (xs.filter (fun x => !p x)) :=
          row92 ⟨flat92_length _, .inr ⟨g, c, cur', by rw [hil], hb', setRow_heap wr g cur cur' 92 _ hh, by rw [hil]; omega, h2, hs', by rw [hil]; exact hf'⟩⟩
        have HFIN := Aside0.mk (And.intro hfin (below_setRow HB2.out hb' cur'))
        have hic : (i : Int) ≤ (c : Int) := by omega
        have hin : (i : Int) ≤ (xs.length : Int) := by omega
        have hci : ¬ (c = i) := by omega
        clear hc' hs' hf' hfin ht hil hzl h3 h4 hh h1 h2 hb' HO2 HB2 HK2 HT HD HN eN
        go_wp2
        go_ret
        exact ⟨_, rfl, HFIN.out.1, HFIN.out.2⟩
def impl_Undone.f (k : Nat) (l0 : List (S92)) (a1_0 : ByteArray) (a1_1 : Bool) (a1_2 : Int) : Option (List (S92)) :=
  (impl_Cell_83.f l0).bind fun t0 => (impl_CellsOk.f k l0).bind fun t1 => if t1 = true then ((impl_KeyOk.f k a1_0).bind fun t2 => if t2 = true then ((impl_isNum.f a1_2).bind fun t3 => if t3 = true then (if a1_1 = true then impl_withCell.f l0 a1_0 a1_2 else some (l0.filter fun x => !(x.f0.toList == a1_0.toList))) else some t0) else some t0) else some t0
theorem impl_Undone.mono : ∀ a0 a1 a2 a3 k, LeO (impl_Undone.f k a0 a1 a2 a3) (impl_Undone.f (k + 1) a0 a1 a2 a3) := fun a0 a1 a2 a3 k =>
  LeO.bind (LeO.refl _) fun _ => LeO.bind (impl_CellsOk.mono a0 k) fun _ => LeO.ite (LeO.bind (impl_KeyOk.mono a1 k) fun _ => LeO.refl _) (LeO.refl _)
set_option maxHeartbeats 8000000 in
set_option maxRecDepth 100000 in
theorem impl_Undone.calls (k : Nat) (A0 : Option Addr) (c0 : Nat) (l0 : List (S92)) (a1_0 : ByteArray) (a1_1 : Bool) (a1_2 : Int) (r : List (S92)) (w : World) (hr0 : Kd.C k92 w A0 l0.length l0) (hc0 : l0.length ≤ c0) (h : impl_Undone.f k l0 a1_0 a1_1 a1_2 = some r) :
    Calls Try.prog 43 #[.slice A0 l0.length c0, .agg #[.string a1_0, .bool a1_1, .int .i64 a1_2]] w fun e w' => ∃ v0_ : Value, e = .returned (v0_) ∧ Kd.R k92 92 w' w.heap.size (fun _ => True) v0_ r ∧ Below w.heap.size w w' := by
  have hu32 := Try.underlying32
  have hu92 := Try.underlying92
  obtain ⟨t0, q0, h⟩ := Option.bind_eq_some_iff.mp h
  obtain ⟨t1, q1, h⟩ := Option.bind_eq_some_iff.mp h
  have hlen : t0 = l0 ∧ l0.length < 5864062014805 := by
    unfold impl_Cell_83.f at q0
    split at q0
    · exact ⟨(Option.some.inj q0).symm, by assumption⟩
    · cases q0
  obtain ⟨rfl, hlen⟩ := hlen
  have HL := Aside0.mk hlen
  have Q0 := Aside0.mk q0
  have Q1 := Aside0.mk q1
  have HR0 := Aside0.mk hr0
  have HC0 := Aside0.mk hc0
  have hbx : Below w.heap.size w (w.alloc (.cells #[.string a1_0, .bool a1_1, .int .i64 a1_2] 32)) := below_alloc (Below.refl _ _) _
  have HX := Aside0.mk hbx
  have hbk : (w.alloc (.cells #[.string a1_0, .bool a1_1, .int .i64 a1_2] 32)).heap[w.heap.size]? = some (.cells #[.string a1_0, .bool a1_1, .int .i64 a1_2] 32 (0, 0)) := heap_alloc_new w _
  have HK := Aside0.mk hbk
  clear q0 q1 hr0 hc0 hbx hbk hlen
  cases t1 with
  | false =>
    obtain rfl := Option.some.inj h
    clear h
    go_enter Try.func43, Try.ntmps43
    go_wp2_with (first
      | (go_at_call 83; (with_reducible refine (impl_Cell_83.calls A0 c0 t0 t0 _ (Kd.C_below HR0.out HX.out) HC0.out Q0.out).mono ?_); rintro e w1 ⟨v5, rfl, ho, hb⟩; have HB1 := Aside0.mk (HX.out.trans (hb.mono HX.out.size)); have HO1 := Aside0.mk (Kd.R_lower ho HX.out.size); have HK1 := Aside0.mk (blk_below HK.out hb); clear ho hb HK HX)
      | (go_at_call 20; (with_reducible refine (impl_CellsOk.calls k A0 c0 t0 false _ (Kd.C_below HR0.out HB1.out) HC0.out Q1.out).mono ?_); rintro e w2 ⟨rfl, hb⟩; have HB2 := Aside0.mk (HB1.out.trans (hb.mono HB1.out.size)); have HO2 := Aside0.mk (Kd.R_below HO1.out hb); clear HB1 HO1 HK1 hb))
    go_ret
    exact ⟨_, rfl, HO2.out, HB2.out⟩
  | true =>
    replace h : ((impl_KeyOk.f k a1_0).bind fun t2 => if t2 = true then ((impl_isNum.f a1_2).bind fun t3 => if t3 = true then (if a1_1 = true then impl_withCell.f t0 a1_0 a1_2 else some (t0.filter fun x => !(x.f0.toList == a1_0.toList))) else some t0) else some t0) = some r := h
    obtain ⟨t2, q2, h⟩ := Option.bind_eq_some_iff.mp h
    have Q2 := Aside0.mk q2
    clear q2
    cases t2 with
    | false =>
      obtain rfl := Option.some.inj h
      clear h
      go_enter Try.func43, Try.ntmps43
      go_wp2_with (first
        | (go_at_call 83; (with_reducible refine (impl_Cell_83.calls A0 c0 t0 t0 _ (Kd.C_below HR0.out HX.out) HC0.out Q0.out).mono ?_); rintro e w1 ⟨v5, rfl, ho, hb⟩; have HB1 := Aside0.mk (HX.out.trans (hb.mono HX.out.size)); have HO1 := Aside0.mk (Kd.R_lower ho HX.out.size); have HK1 := Aside0.mk (blk_below HK.out hb); clear ho hb HK HX)
        | (go_at_call 20; (with_reducible refine (impl_CellsOk.calls k A0 c0 t0 true _ (Kd.C_below HR0.out HB1.out) HC0.out Q1.out).mono ?_); rintro e w2 ⟨rfl, hb⟩; have HB2 := Aside0.mk (HB1.out.trans (hb.mono HB1.out.size)); have HO2 := Aside0.mk (Kd.R_below HO1.out hb); have HK2 := Aside0.mk (blk_below HK1.out hb); clear HB1 HO1 HK1 hb; have hx0 : w2.cell? ⟨w.heap.size, 0, none⟩ = some (.string a1_0) := (blk_cell HK2.out 0).trans rfl)
        | (go_at_call 84; (with_reducible refine (impl_KeyOk.calls k a1_0 false _ Q2.out).mono ?_); rintro e w' ⟨rfl, ⟨nd, rfl⟩⟩))
      go_ret
      exact ⟨_, rfl, Kd.R_drewN HO2.out _, pw_below_drewN HB2.out _⟩
    | true =>
      replace h : ((impl_isNum.f a1_2).bind fun t3 => if t3 = true then (if a1_1 = true then impl_withCell.f t0 a1_0 a1_2 else some (t0.filter fun x => !(x.f0.toList == a1_0.toList))) else some t0) = some r := h
      obtain ⟨t3, q3, h⟩ := Option.bind_eq_some_iff.mp h
      have Q3 := Aside0.mk q3
      clear q3
      cases t3 with
      | false =>
        obtain rfl := Option.some.inj h
        clear h
        go_enter Try.func43, Try.ntmps43
        go_wp2_with (first
          | (go_at_call 83; (with_reducible refine (impl_Cell_83.calls A0 c0 t0 t0 _ (Kd.C_below HR0.out HX.out) HC0.out Q0.out).mono ?_); rintro e w1 ⟨v5, rfl, ho, hb⟩; have HB1 := Aside0.mk (HX.out.trans (hb.mono HX.out.size)); have HO1 := Aside0.mk (Kd.R_lower ho HX.out.size); have HK1 := Aside0.mk (blk_below HK.out hb); clear ho hb HK HX)
          | (go_at_call 20; (with_reducible refine (impl_CellsOk.calls k A0 c0 t0 true _ (Kd.C_below HR0.out HB1.out) HC0.out Q1.out).mono ?_); rintro e w2 ⟨rfl, hb⟩; have HB2 := Aside0.mk (HB1.out.trans (hb.mono HB1.out.size)); have HO2 := Aside0.mk (Kd.R_below HO1.out hb); have HK2 := Aside0.mk (blk_below HK1.out hb); clear HB1 HO1 HK1 hb; have hx0 : w2.cell? ⟨w.heap.size, 0, none⟩ = some (.string a1_0) := (blk_cell HK2.out 0).trans rfl; have hx2 : w2.cell? ⟨w.heap.size, 2, none⟩ = some (.int .i64 a1_2) := (blk_cell HK2.out 2).trans rfl)
          | (go_at_call 84; (with_reducible refine (impl_KeyOk.calls k a1_0 true _ Q2.out).mono ?_); rintro e w' ⟨rfl, ⟨nd, rfl⟩⟩)
          | (go_at_call 85; (with_reducible refine (impl_isNum.calls a1_2 false _ Q3.out).mono ?_); rintro e w' ⟨rfl, ⟨nd2, rfl⟩⟩))
        go_ret
        exact ⟨_, rfl, by (with_reducible repeat (first | apply Kd.R_alloc | apply Kd.R_drewN | apply Kd.R_drew)); exact HO2.out, by repeat (first | (with_reducible first | exact HB2.out | apply below_alloc | apply pw_below_drewN | apply below_drew1) | exact HB2.out)⟩
      | true =>
        replace h : (if a1_1 = true then impl_withCell.f t0 a1_0 a1_2 else some (t0.filter fun x => !(x.f0.toList == a1_0.toList))) = some r := h
        cases a1_1 with
        | true =>
          replace h : impl_withCell.f t0 a1_0 a1_2 = some r := h
          have Q4 := Aside0.mk h
          clear h
          go_enter Try.func43, Try.ntmps43
          go_wp2_with (first
            | (go_at_call 83; (with_reducible refine (impl_Cell_83.calls A0 c0 t0 t0 _ (Kd.C_below HR0.out HX.out) HC0.out Q0.out).mono ?_); rintro e w1 ⟨v5, rfl, ho, hb⟩; have HB1 := Aside0.mk (HX.out.trans (hb.mono HX.out.size)); have HO1 := Aside0.mk (Kd.R_lower ho HX.out.size); have HK1 := Aside0.mk (blk_below HK.out hb); clear ho hb HK HX)
            | (go_at_call 20; (with_reducible refine (impl_CellsOk.calls k A0 c0 t0 true _ (Kd.C_below HR0.out HB1.out) HC0.out Q1.out).mono ?_); rintro e w2 ⟨rfl, hb⟩; have HB2 := Aside0.mk (HB1.out.trans (hb.mono HB1.out.size)); have HO2 := Aside0.mk (Kd.R_below HO1.out hb); have HK2 := Aside0.mk (blk_below HK1.out hb); clear HB1 HO1 HK1 hb; have hx0 : w2.cell? ⟨w.heap.size, 0, none⟩ = some (.string a1_0) := (blk_cell HK2.out 0).trans rfl; have hx1 : w2.cell? ⟨w.heap.size, 1, none⟩ = some (.bool true) := (blk_cell HK2.out 1).trans rfl; have hx2 : w2.cell? ⟨w.heap.size, 2, none⟩ = some (.int .i64 a1_2) := (blk_cell HK2.out 2).trans rfl)
            | (go_at_call 84; (with_reducible refine (impl_KeyOk.calls k a1_0 true _ Q2.out).mono ?_); rintro e w' ⟨rfl, ⟨nd, rfl⟩⟩)
            | (go_at_call 85; (with_reducible refine (impl_isNum.calls a1_2 true _ Q3.out).mono ?_); rintro e w' ⟨rfl, ⟨nd2, rfl⟩⟩)
            | (go_at_call 86; (with_reducible refine (impl_withCell.calls A0 c0 t0 a1_0 a1_2 r _ ?hC HC0.out Q4.out).mono ?_); (case hC => exact Kd.C_below HR0.out (by repeat (first | (with_reducible first | exact HB2.out | apply below_alloc | apply pw_below_drewN | apply below_drew1) | exact HB2.out))); rintro e w3 ⟨v6, rfl, ho, hb⟩; have HO3 := Aside0.mk (Kd.R_lower ho HB2.out.size); have HB3 := Aside0.mk (below_step (by repeat (first | (with_reducible first | exact HB2.out | apply below_alloc | apply pw_below_drewN | apply below_drew1) | exact HB2.out)) hb); clear ho hb))
          go_ret
          exact ⟨_, rfl, HO3.out, HB3.out⟩
        | false =>
          obtain rfl := Option.some.inj h
          clear h
          go_enter Try.func43, Try.ntmps43
          go_wp2_with (first
            | (go_at_call 83; (with_reducible refine (impl_Cell_83.calls A0 c0 t0 t0 _ (Kd.C_below HR0.out HX.out) HC0.out Q0.out).mono ?_); rintro e w1 ⟨v5, rfl, ho, hb⟩; have HB1 := Aside0.mk (HX.out.trans (hb.mono HX.out.size)); have HNE := Aside0.mk (Kd.R_base ho); have HO1 := Aside0.mk (Kd.R_lower ho HX.out.size); have HK1 := Aside0.mk (blk_below HK.out hb); clear ho hb HK HX)
            | (go_at_call 20; (with_reducible refine (impl_CellsOk.calls k A0 c0 t0 true _ (Kd.C_below HR0.out HB1.out) HC0.out Q1.out).mono ?_); rintro e w2 ⟨rfl, hb⟩; have HB2 := Aside0.mk (HB1.out.trans (hb.mono HB1.out.size)); have HO2 := Aside0.mk (Kd.R_below HO1.out hb); have HK2 := Aside0.mk (blk_below HK1.out hb); clear HB1 HO1 HK1 hb; have hx0 : w2.cell? ⟨w.heap.size, 0, none⟩ = some (.string a1_0) := (blk_cell HK2.out 0).trans rfl; have hx1 : w2.cell? ⟨w.heap.size, 1, none⟩ = some (.bool false) := (blk_cell HK2.out 1).trans rfl; have hx2 : w2.cell? ⟨w.heap.size, 2, none⟩ = some (.int .i64 a1_2) := (blk_cell HK2.out 2).trans rfl)
            | (go_at_call 84; (with_reducible refine (impl_KeyOk.calls k a1_0 true _ Q2.out).mono ?_); rintro e w' ⟨rfl, ⟨nd, rfl⟩⟩)
            | (go_at_call 85; (with_reducible refine (impl_isNum.calls a1_2 true _ Q3.out).mono ?_); rintro e w' ⟨rfl, ⟨nd2, rfl⟩⟩)
            | (go_at_call 87; refine (delete92 v5 t0 a1_0 w.heap.size w _ ?hO ?hB ?hX ?hN HL.out).mono ?_; (case hX => exact hx0); (case hO => (with_reducible repeat (first | apply Kd.R_alloc | apply Kd.R_drewN | apply Kd.R_drew)); exact HO2.out); (case hB => repeat (first | (with_reducible first | exact HB2.out | apply below_alloc | apply pw_below_drewN | apply below_drew1) | exact HB2.out)); (case hN => exact fun e => absurd (HNE.out _ e.symm) (by simp)); rintro e w3 ⟨v6, rfl, ho, hb⟩; have HO3 := Aside0.mk ho; have HB3 := Aside0.mk hb; clear ho hb))
          go_ret
          exact ⟨_, rfl, HO3.out, HB3.out⟩

/-! ### impl_UndoneAll: function 49 -/
def impl_UndoneAll.l0 : Nat → List (S32) → List (S92) → Int → Option ((List (S92)))
  | 0, _, _, _ => none
  | k + 1, x1, x5, x6 => if x6 ≥ 0 then (if 0 ≤ x6 then (if x6 < (x1.length : Int) then ((impl_Undone.f k x5 ((rd_T32 x1 x6).f0) ((rd_T32 x1 x6).f1) ((rd_T32 x1 x6).f2)).bind fun t209 => (impl_UndoneAll.l0 k x1 t209 (wrap64 (x6 - 1)))) else (none)) else (none)) else (some x5)
def impl_UndoneAll.f (k : Nat) (l0 : List (S92)) (l1 : List (S32)) : Option ((List (S92))) := (impl_Cell_83.f l0).bind fun t205 => (impl_UndoneAll.l0 k l1 t205 (wrap64 ((l1.length : Int) - 1)))
theorem impl_UndoneAll.mono_l : ∀ k, (∀ y0 y1 y2, LeO (impl_UndoneAll.l0 k y0 y1 y2) (impl_UndoneAll.l0 (k + 1) y0 y1 y2))
  | 0 => fun _ _ _ r h => by simp [impl_UndoneAll.l0] at h
  | k + 1 => by
    have ih0 := impl_UndoneAll.mono_l k
    · intro y0 y1 y2
      unfold impl_UndoneAll.l0
      repeat' first
      | (with_reducible exact ih0 _ _ _)
      | (with_reducible exact impl_Undone.mono _ _ _ _ _)
      | (with_reducible exact LeO.refl _)
      | (with_reducible exact LeO.none _)
      | (with_reducible refine LeO.ite ?_ ?_)
      | (with_reducible refine LeO.bind ?_ (fun _ => ?_))
      | exact ih0 _ _ _
      | exact impl_Undone.mono _ _ _ _ _
      | exact LeO.none _
      | refine LeO.ite ?_ ?_
      | refine LeO.bind ?_ (fun _ => ?_)
theorem impl_UndoneAll.mono : ∀ a0 a1 k, LeO (impl_UndoneAll.f k a0 a1) (impl_UndoneAll.f (k + 1) a0 a1) := by
  intro a0 a1 k
  have ih0 := impl_UndoneAll.mono_l k
  unfold impl_UndoneAll.f
  repeat' first
      | (with_reducible exact ih0 _ _ _)
      | (with_reducible exact impl_Undone.mono _ _ _ _ _)
      | (with_reducible exact LeO.refl _)
      | (with_reducible exact LeO.none _)
      | (with_reducible refine LeO.ite ?_ ?_)
      | (with_reducible refine LeO.bind ?_ (fun _ => ?_))
      | exact ih0 _ _ _
      | exact impl_Undone.mono _ _ _ _ _
      | exact LeO.none _
      | refine LeO.ite ?_ ?_
      | refine LeO.bind ?_ (fun _ => ?_)
set_option maxHeartbeats 8000000 in
set_option maxRecDepth 100000 in
theorem impl_UndoneAll.calls (k : Nat) (A0 : Option Addr) (c0 : Nat) (l0 : List (S92)) (A1 : Option Addr) (c1 : Nat) (l1 : List (S32)) (r : List (S92)) (w : World) (hr0 : Kd.C k92 w A0 l0.length l0) (hc0 : l0.length ≤ c0) (hr1 : Kd.C k32 w A1 l1.length l1) (hc1 : l1.length ≤ c1) (h : impl_UndoneAll.f k l0 l1 = some r) :
    Calls Try.prog 49 #[.slice A0 l0.length c0, .slice A1 l1.length c1] w fun e w' => ∃ v0_ : Value, e = .returned (v0_) ∧ Kd.R k92 92 w' w.heap.size (fun _ => True) v0_ r ∧ Below w.heap.size w w' := by
  have hu32 := Try.underlying32
  have HR0 := Aside0.mk hr0
  have HC0 := Aside0.mk hc0
  clear hr0 hc0
  have HR1 := Aside0.mk hr1
  have HC1 := Aside0.mk hc1
  clear hr1 hc1
  have HB := Aside0.mk (Below.refl w.heap.size w)
  have H : ((impl_Cell_83.f l0).bind fun t205 => (impl_UndoneAll.l0 k l1 t205 (wrap64 ((l1.length : Int) - 1)))) = some r := h
  clear h
  replace H := Option.bind_eq_some_iff.mp H
  obtain ⟨t205, A30, H⟩ := H
  replace H : (impl_UndoneAll.l0 k l1 t205 (wrap64 ((l1.length : Int) - 1))) = some r := H
  have A3 := Aside0.mk A30
  clear A30
  have H' := Aside0.mk H
  clear H
  go_enter Try.func49, Try.ntmps49
  go_wp2_with (first | ((with_reducible refine gate_callee (f := 83) rfl ?_); refine goesL_ (some 8) rfl rfl Try.func83 (by kernel_rfl) rfl #[.slice A0 l0.length c0] rfl (by (try simp only [List.map_toArray, List.map_cons, List.map_nil]); first | done | rfl | (simp only [List.length_drop, List.length_take]; rfl)) ?_; (with_reducible refine (impl_Cell_83.calls _ _ l0 t205 _ ?side1 ?side2 A3.out).mono ?_); (case side1 => repeat (first | exact HR0.out | (with_reducible refine Kd.C_alloc ?_ _) | (with_reducible refine Kd.C_drewN ?_ _) | (with_reducible refine Kd.C_drew ?_))); (case side2 => exact HC0.out); rintro e w4 ⟨v206, rfl, ho0, hb⟩; refine ⟨_, rfl, ?_⟩; have n0_ := Aside0.mk (Kd.R_lower ho0 (below_size (by repeat (first | (with_reducible first | exact HB.out | apply below_alloc | apply pw_below_drewN | apply below_drew1) | exact HB.out)))); have n1_ := Aside0.mk (below_step (by repeat (first | (with_reducible first | exact HB.out | apply below_alloc | apply pw_below_drewN | apply below_drew1) | exact HB.out)) hb); clear HB; have HO207 := n0_; have HB := n1_; clear n0_ n1_; (try clear hb); (try clear hb2); (try clear hk); (try clear hi); (try clear ho0)))
  go_loopg [5, 6] k (fun kq v5 v6 w' => ∃ (x5_1 : List (S92)) (x6_1 : Int), v6 = .int .i64 x6_1 ∧ Aside0 (impl_UndoneAll.l0 kq l1 x5_1 x6_1 = some r) ∧ Aside0 (kq ≤ k) ∧ Aside0 (Kd.R k92 92 w' w.heap.size (fun _ => True) v5 x5_1) ∧ Aside0 (Below w.heap.size w w'))
  case atStart => exact ⟨(t205), (wrap64 ((l1.length : Int) - 1)), (by first | rfl | (simp; done) | (simp [*]; done)), H', ⟨Nat.le_refl _⟩, ⟨by (with_reducible repeat (first | apply Kd.R_alloc | apply Kd.R_drewN | apply Kd.R_drew)); exact HO207.out⟩, ⟨by repeat (first | (with_reducible first | exact HB.out | apply below_alloc | apply pw_below_drewN | apply below_drew1) | exact HB.out)⟩⟩
  case round =>
    clear H'
    try clear c1
    try clear p2
    try clear c4
    obtain ⟨x5_1, x6_1, rfl, HA, HK1, HO_5, HB⟩ := hrel
    cases gk with
    | zero => exact absurd HA.out (by simp [impl_UndoneAll.l0])
    | succ k1 =>
      have H := HA.out
      clear HA
      simp only [impl_UndoneAll.l0] at H
      by_cases c5 : x6_1 ≥ 0
      · rw [if_pos c5] at H
        have c5b0 : decide (0 ≤ x6_1) = true := decide_eq_true c5
        clear c5
        by_cases c6 : 0 ≤ x6_1
        · rw [if_pos c6] at H
          have c6b0 : decide (0 ≤ x6_1) = true := decide_eq_true c6
          clear c6
          by_cases c7 : x6_1 < (l1.length : Int)
          · rw [if_pos c7] at H
            have c7b0 : decide (x6_1 < (l1.length : Int)) = true := decide_eq_true c7
            clear c7
            replace H := Option.bind_eq_some_iff.mp H
            obtain ⟨t209, A80, H⟩ := H
            replace H : (impl_UndoneAll.l0 k1 l1 t209 (wrap64 (x6_1 - 1))) = some r := H
            have A8 := Aside0.mk A80
            clear A80
            have H' := Aside0.mk H
            clear H
            have p208 : 0 ≤ (x6_1 : Int) := of_decide_eq_true (by first | (with_reducible assumption) | assumption)
            have q208 : x6_1 < (l1.length : Int) := of_decide_eq_true (by first | (with_reducible assumption) | assumption)
            obtain ⟨ad208, e208, hx208_0, hx208_1, hx208_2⟩ := at_T32 HR1.out x6_1 p208 q208
            cases e208
            replace hx208_0 := (HB.out.cell (World.block_lt_of_cell? w _ hx208_0)).trans hx208_0
            replace hx208_1 := (HB.out.cell (World.block_lt_of_cell? w _ hx208_1)).trans hx208_1
            replace hx208_2 := (HB.out.cell (World.block_lt_of_cell? w _ hx208_2)).trans hx208_2
            replace p208 := eq_true p208
            replace q208 := eq_true q208
            obtain ⟨Ao9, co9, eo9⟩ := Kd.R_slice HO_5.out
            subst eo9
            go_wp2_with (first | ((with_reducible refine gate_callee (f := 43) rfl ?_); refine goesL_ (some 21) rfl rfl Try.func43 (by kernel_rfl) rfl #[.slice Ao9 x5_1.length co9, .agg #[.string ((rd_T32 l1 x6_1).f0), .bool ((rd_T32 l1 x6_1).f1), .int .i64 ((rd_T32 l1 x6_1).f2)]] rfl (by (try simp only [List.map_toArray, List.map_cons, List.map_nil]); first | done | rfl | (simp only [List.length_drop, List.length_take]; rfl)) ?_; (with_reducible refine (impl_Undone.calls k1 _ _ x5_1 ((rd_T32 l1 x6_1).f0) ((rd_T32 l1 x6_1).f1) ((rd_T32 l1 x6_1).f2) t209 _ ?side1 ?side2 A8.out).mono ?_); (case side1 => repeat (first | exact (Kd.R_reads' HO_5.out).2.2 | (with_reducible refine Kd.C_alloc ?_ _) | (with_reducible refine Kd.C_drewN ?_ _) | (with_reducible refine Kd.C_drew ?_))); (case side2 => exact (Kd.R_reads' HO_5.out).2.1); rintro e w10 ⟨v210, rfl, ho0, hb⟩; refine ⟨_, rfl, ?_⟩; have n0_ := Aside0.mk (Kd.R_elder' (by (with_reducible repeat (first | apply Kd.R_alloc | apply Kd.R_drewN | apply Kd.R_drew)); exact HO_5.out) (Kd.R_base ho0) hb); have n1_ := Aside0.mk (Kd.R_lower (Kd.R_new' ho0 (Kd.R_lt (by (with_reducible repeat (first | apply Kd.R_alloc | apply Kd.R_drewN | apply Kd.R_drew)); exact HO_5.out))) (below_size (by repeat (first | (with_reducible first | exact HB.out | apply below_alloc | apply pw_below_drewN | apply below_drew1) | exact HB.out)))); have n2_ := Aside0.mk (below_step (by repeat (first | (with_reducible first | exact HB.out | apply below_alloc | apply pw_below_drewN | apply below_drew1) | exact HB.out)) hb); clear HO_5; clear HB; have HO_5 := n0_; have HO211 := n1_; have HB := n2_; clear n0_ n1_ n2_; (try clear hb); (try clear hb2); (try clear hk); (try clear hi); (try clear ho0)))
            go_roundg k1
            case measure => have := HK1.out; omega
            case rel => exact ⟨(t209), (wrap64 (x6_1 - 1)), (by first | rfl | (simp; done) | (simp [*]; done)), H', ⟨by have := HK1.out; omega⟩, ⟨by (with_reducible repeat (first | apply Kd.R_alloc | apply Kd.R_drewN | apply Kd.R_drew)); exact Kd.R_mono HO211.out (fun _ hk => trivial)⟩, ⟨by repeat (first | (with_reducible first | exact HB.out | apply below_alloc | apply pw_below_drewN | apply below_drew1) | exact HB.out)⟩⟩
          · rw [if_neg c7] at H
            exact absurd H (by simp)
        · rw [if_neg c6] at H
          exact absurd H (by simp)
      · rw [if_neg c5] at H
        have c5b0 : decide (0 ≤ x6_1) = false := decide_eq_false c5
        clear c5
        obtain rfl := Option.some.inj H
        go_wp2
        go_ret
        exact ⟨_, by first | rfl | (simp [errW_none, errW_some] <;> rfl) | (simp [*, errW_none, errW_some] <;> rfl), by (with_reducible repeat (first | apply Kd.R_alloc | apply Kd.R_drewN | apply Kd.R_drew)); exact HO_5.out, by repeat (first | (with_reducible first | exact HB.out | apply below_alloc | apply pw_below_drewN | apply below_drew1) | exact HB.out)⟩

/-! ### laws_eqUndo: function 23 -/
def laws_eqUndo.f (a0_0 : ByteArray) (a0_1 : Bool) (a0_2 : Int) (a1_0 : ByteArray) (a1_1 : Bool) (a1_2 : Int) : Option (Bool) := if a0_0.toList = a1_0.toList then (if (a0_1 != a1_1) = true then (some false) else (if a0_2 = a1_2 then (some true) else (some false))) else (some false)
set_option maxHeartbeats 8000000 in
set_option maxRecDepth 100000 in
theorem laws_eqUndo.calls (a0_0 : ByteArray) (a0_1 : Bool) (a0_2 : Int) (a1_0 : ByteArray) (a1_1 : Bool) (a1_2 : Int) (r : Bool) (w : World) (h : laws_eqUndo.f a0_0 a0_1 a0_2 a1_0 a1_1 a1_2 = some r) :
    Calls Try.prog 23 #[.agg #[.string a0_0, .bool a0_1, .int .i64 a0_2], .agg #[.string a1_0, .bool a1_1, .int .i64 a1_2]] w fun e w' => e = .returned (.bool r) ∧ Below w.heap.size w w' := by
  have hu32 := Try.underlying32
  have HB := Aside0.mk (Below.refl w.heap.size w)
  have H : (if a0_0.toList = a1_0.toList then (if (a0_1 != a1_1) = true then (some false) else (if a0_2 = a1_2 then (some true) else (some false))) else (some false)) = some r := h
  clear h
  by_cases c3 : a0_0.toList = a1_0.toList
  · rw [if_pos c3] at H
    have c3b0 : (a0_0.toList == a1_0.toList) = true := beq_iff_eq.mpr c3
    have c3b1 : (a0_0.toList != a1_0.toList) = false := bne_eq_false_iff_eq.mpr c3
    clear c3
    by_cases c4 : (a0_1 != a1_1) = true
    · rw [if_pos c4] at H
      have c4b0 : (a0_1 != a1_1) = true := c4
      (try (have c4b1 : decide (a0_1 = a1_1) = false := by simpa using c4))
      (try (have c4b2 : (a0_1 == a1_1) = false := by simpa using c4))
      (try (have c4b3 : ¬ (a0_1 = a1_1) := by simpa using c4))
      clear c4
      obtain rfl := Option.some.inj H
      go_enter Try.func23, Try.ntmps23
      go_wp2_with (first | ((with_reducible refine gate_dst (N := 2) rfl ?_); refine box_event ?hg (N := 2) ?hd (cs := #[.string a0_0, .bool a0_1, .int .i64 a0_2]) (t := 32) ?hr ?_; (case hd => rfl); (case hg => rfl); (case hr => first | (go_simp; done) | (go_simp; rfl)); intro gb212 hg w5 hbox hb; have n0_ := Aside0.mk (below_step (by repeat (first | (with_reducible first | exact HB.out | apply below_alloc | apply pw_below_drewN | apply below_drew1) | exact HB.out)) hb); have n1_ := Aside0.mk (hbox); have n2_ := Aside0.mk ((by rw [hg]; exact (below_size (by repeat (first | (with_reducible first | exact HB.out | apply below_alloc | apply pw_below_drewN | apply below_drew1) | exact HB.out))) : w.heap.size ≤ gb212)); have n3_ := Aside0.mk ((by rw [hg]; exact (below_size (by repeat (first | (with_reducible first | exact HB.out | apply below_alloc | apply pw_below_drewN | apply below_drew1) | exact HB.out))) : w.heap.size ≤ gb212)); clear HB; have HB := n0_; have BK212 := n1_; have GW212 := n2_; have GE212 := n3_; clear n0_ n1_ n2_ n3_; clear hb hbox hg) | ((with_reducible refine gate_dst (N := 3) rfl ?_); refine box_event ?hg (N := 3) ?hd (cs := #[.string a1_0, .bool a1_1, .int .i64 a1_2]) (t := 32) ?hr ?_; (case hd => rfl); (case hg => rfl); (case hr => first | (go_simp; done) | (go_simp; rfl)); intro gb213 hg w6 hbox hb; have n0_ := Aside0.mk (blk_below (g := gb212) (o := .cells #[.string a0_0, .bool a0_1, .int .i64 a0_2] 32 (0, 0)) (by (with_reducible repeat (first | refine blk_drewN ?_ _ | refine blk_drew ?_ | refine blk_alloc ?_ _)); exact BK212.out) hb); have n1_ := Aside0.mk (below_step (by repeat (first | (with_reducible first | exact HB.out | apply below_alloc | apply pw_below_drewN | apply below_drew1 | refine below_set ?_ GE212.out) | exact HB.out)) hb); have n2_ := Aside0.mk (hbox); have n3_ := Aside0.mk ((by rw [hg]; exact (below_size (by repeat (first | (with_reducible first | exact HB.out | apply below_alloc | apply pw_below_drewN | apply below_drew1 | refine below_set ?_ GE212.out) | exact HB.out))) : w.heap.size ≤ gb213)); have n4_ := Aside0.mk ((by rw [hg]; exact (below_size (by repeat (first | (with_reducible first | exact HB.out | apply below_alloc | apply pw_below_drewN | apply below_drew1 | refine below_set ?_ GE212.out) | exact HB.out))) : w.heap.size ≤ gb213)); have n5_ := Aside0.mk ((by rw [hg]; exact Nat.ne_of_lt (blk_lt (g := gb212) (o := .cells #[.string a0_0, .bool a0_1, .int .i64 a0_2] 32 (0, 0)) (by (with_reducible repeat (first | refine blk_drewN ?_ _ | refine blk_drew ?_ | refine blk_alloc ?_ _)); exact BK212.out)) : gb212 ≠ gb213)); have n6_ := Aside0.mk ((by rw [hg]; exact Nat.ne_of_gt (blk_lt (g := gb212) (o := .cells #[.string a0_0, .bool a0_1, .int .i64 a0_2] 32 (0, 0)) (by (with_reducible repeat (first | refine blk_drewN ?_ _ | refine blk_drew ?_ | refine blk_alloc ?_ _)); exact BK212.out)) : gb213 ≠ gb212)); clear BK212; clear HB; have BK212 := n0_; have HB := n1_; have BK213 := n2_; have GW213 := n3_; have GE213 := n4_; have NB212_213 := n5_; have NB213_212 := n6_; clear n0_ n1_ n2_ n3_ n4_ n5_ n6_; clear hb hbox hg; have hnb7 := NB212_213.out; have hnc7 := NB213_212.out; have hcz8_0 : w6.cell? ⟨gb212, 0, none⟩ = some (.string a0_0) := (blk_cell BK212.out 0).trans rfl; have hcz8_1 : w6.cell? ⟨gb212, 1, none⟩ = some (.bool a0_1) := (blk_cell BK212.out 1).trans rfl; have hcz8_2 : w6.cell? ⟨gb212, 2, none⟩ = some (.int .i64 a0_2) := (blk_cell BK212.out 2).trans rfl; have hfz8_0 := blk_frozen BK212.out 0; have hfz8_1 := blk_frozen BK212.out 1; have hfz8_2 := blk_frozen BK212.out 2; have hcz9_0 : w6.cell? ⟨gb213, 0, none⟩ = some (.string a1_0) := (blk_cell BK213.out 0).trans rfl; have hcz9_1 : w6.cell? ⟨gb213, 1, none⟩ = some (.bool a1_1) := (blk_cell BK213.out 1).trans rfl; have hcz9_2 : w6.cell? ⟨gb213, 2, none⟩ = some (.int .i64 a1_2) := (blk_cell BK213.out 2).trans rfl; have hfz9_0 := blk_frozen BK213.out 0; have hfz9_1 := blk_frozen BK213.out 1; have hfz9_2 := blk_frozen BK213.out 2))
      go_ret
      exact ⟨by first | rfl | (simp [errW_none, errW_some] <;> rfl) | (simp [*, errW_none, errW_some] <;> rfl), by repeat (first | (with_reducible first | exact HB.out | apply below_alloc | apply pw_below_drewN | apply below_drew1 | refine below_set ?_ GE212.out | refine below_set ?_ GE213.out) | exact HB.out)⟩
    · rw [if_neg c4] at H
      have c4b0 : (a0_1 != a1_1) = false := by simpa using c4
      (try (have c4b1 : decide (a0_1 = a1_1) = true := by simpa using c4))
      (try (have c4b2 : (a0_1 == a1_1) = true := by simpa using c4))
      clear c4
      by_cases c10 : a0_2 = a1_2
      · rw [if_pos c10] at H
        have c10b0 : (a0_2 == a1_2) = true := beq_iff_eq.mpr c10
        have c10b1 : (a0_2 != a1_2) = false := bne_eq_false_iff_eq.mpr c10
        clear c10
        obtain rfl := Option.some.inj H
        go_enter Try.func23, Try.ntmps23
        go_wp2_with (first | ((with_reducible refine gate_dst (N := 2) rfl ?_); refine box_event ?hg (N := 2) ?hd (cs := #[.string a0_0, .bool a0_1, .int .i64 a0_2]) (t := 32) ?hr ?_; (case hd => rfl); (case hg => rfl); (case hr => first | (go_simp; done) | (go_simp; rfl)); intro gb212 hg w11 hbox hb; have n0_ := Aside0.mk (below_step (by repeat (first | (with_reducible first | exact HB.out | apply below_alloc | apply pw_below_drewN | apply below_drew1) | exact HB.out)) hb); have n1_ := Aside0.mk (hbox); have n2_ := Aside0.mk ((by rw [hg]; exact (below_size (by repeat (first | (with_reducible first | exact HB.out | apply below_alloc | apply pw_below_drewN | apply below_drew1) | exact HB.out))) : w.heap.size ≤ gb212)); have n3_ := Aside0.mk ((by rw [hg]; exact (below_size (by repeat (first | (with_reducible first | exact HB.out | apply below_alloc | apply pw_below_drewN | apply below_drew1) | exact HB.out))) : w.heap.size ≤ gb212)); clear HB; have HB := n0_; have BK212 := n1_; have GW212 := n2_; have GE212 := n3_; clear n0_ n1_ n2_ n3_; clear hb hbox hg) | ((with_reducible refine gate_dst (N := 3) rfl ?_); refine box_event ?hg (N := 3) ?hd (cs := #[.string a1_0, .bool a1_1, .int .i64 a1_2]) (t := 32) ?hr ?_; (case hd => rfl); (case hg => rfl); (case hr => first | (go_simp; done) | (go_simp; rfl)); intro gb213 hg w12 hbox hb; have n0_ := Aside0.mk (blk_below (g := gb212) (o := .cells #[.string a0_0, .bool a0_1, .int .i64 a0_2] 32 (0, 0)) (by (with_reducible repeat (first | refine blk_drewN ?_ _ | refine blk_drew ?_ | refine blk_alloc ?_ _)); exact BK212.out) hb); have n1_ := Aside0.mk (below_step (by repeat (first | (with_reducible first | exact HB.out | apply below_alloc | apply pw_below_drewN | apply below_drew1 | refine below_set ?_ GE212.out) | exact HB.out)) hb); have n2_ := Aside0.mk (hbox); have n3_ := Aside0.mk ((by rw [hg]; exact (below_size (by repeat (first | (with_reducible first | exact HB.out | apply below_alloc | apply pw_below_drewN | apply below_drew1 | refine below_set ?_ GE212.out) | exact HB.out))) : w.heap.size ≤ gb213)); have n4_ := Aside0.mk ((by rw [hg]; exact (below_size (by repeat (first | (with_reducible first | exact HB.out | apply below_alloc | apply pw_below_drewN | apply below_drew1 | refine below_set ?_ GE212.out) | exact HB.out))) : w.heap.size ≤ gb213)); have n5_ := Aside0.mk ((by rw [hg]; exact Nat.ne_of_lt (blk_lt (g := gb212) (o := .cells #[.string a0_0, .bool a0_1, .int .i64 a0_2] 32 (0, 0)) (by (with_reducible repeat (first | refine blk_drewN ?_ _ | refine blk_drew ?_ | refine blk_alloc ?_ _)); exact BK212.out)) : gb212 ≠ gb213)); have n6_ := Aside0.mk ((by rw [hg]; exact Nat.ne_of_gt (blk_lt (g := gb212) (o := .cells #[.string a0_0, .bool a0_1, .int .i64 a0_2] 32 (0, 0)) (by (with_reducible repeat (first | refine blk_drewN ?_ _ | refine blk_drew ?_ | refine blk_alloc ?_ _)); exact BK212.out)) : gb213 ≠ gb212)); clear BK212; clear HB; have BK212 := n0_; have HB := n1_; have BK213 := n2_; have GW213 := n3_; have GE213 := n4_; have NB212_213 := n5_; have NB213_212 := n6_; clear n0_ n1_ n2_ n3_ n4_ n5_ n6_; clear hb hbox hg; have hnb13 := NB212_213.out; have hnc13 := NB213_212.out; have hcz14_0 : w12.cell? ⟨gb212, 0, none⟩ = some (.string a0_0) := (blk_cell BK212.out 0).trans rfl; have hcz14_1 : w12.cell? ⟨gb212, 1, none⟩ = some (.bool a0_1) := (blk_cell BK212.out 1).trans rfl; have hcz14_2 : w12.cell? ⟨gb212, 2, none⟩ = some (.int .i64 a0_2) := (blk_cell BK212.out 2).trans rfl; have hfz14_0 := blk_frozen BK212.out 0; have hfz14_1 := blk_frozen BK212.out 1; have hfz14_2 := blk_frozen BK212.out 2; have hcz15_0 : w12.cell? ⟨gb213, 0, none⟩ = some (.string a1_0) := (blk_cell BK213.out 0).trans rfl; have hcz15_1 : w12.cell? ⟨gb213, 1, none⟩ = some (.bool a1_1) := (blk_cell BK213.out 1).trans rfl; have hcz15_2 : w12.cell? ⟨gb213, 2, none⟩ = some (.int .i64 a1_2) := (blk_cell BK213.out 2).trans rfl; have hfz15_0 := blk_frozen BK213.out 0; have hfz15_1 := blk_frozen BK213.out 1; have hfz15_2 := blk_frozen BK213.out 2))
        go_ret
        exact ⟨by first | rfl | (simp [errW_none, errW_some] <;> rfl) | (simp [*, errW_none, errW_some] <;> rfl), by repeat (first | (with_reducible first | exact HB.out | apply below_alloc | apply pw_below_drewN | apply below_drew1 | refine below_set ?_ GE212.out | refine below_set ?_ GE213.out) | exact HB.out)⟩
      · rw [if_neg c10] at H
        have c10b0 : (a0_2 == a1_2) = false := beq_eq_false_iff_ne.mpr c10
        have c10b1 : (a0_2 != a1_2) = true := bne_iff_ne.mpr c10
        obtain rfl := Option.some.inj H
        go_enter Try.func23, Try.ntmps23
        go_wp2_with (first | ((with_reducible refine gate_dst (N := 2) rfl ?_); refine box_event ?hg (N := 2) ?hd (cs := #[.string a0_0, .bool a0_1, .int .i64 a0_2]) (t := 32) ?hr ?_; (case hd => rfl); (case hg => rfl); (case hr => first | (go_simp; done) | (go_simp; rfl)); intro gb212 hg w16 hbox hb; have n0_ := Aside0.mk (below_step (by repeat (first | (with_reducible first | exact HB.out | apply below_alloc | apply pw_below_drewN | apply below_drew1) | exact HB.out)) hb); have n1_ := Aside0.mk (hbox); have n2_ := Aside0.mk ((by rw [hg]; exact (below_size (by repeat (first | (with_reducible first | exact HB.out | apply below_alloc | apply pw_below_drewN | apply below_drew1) | exact HB.out))) : w.heap.size ≤ gb212)); have n3_ := Aside0.mk ((by rw [hg]; exact (below_size (by repeat (first | (with_reducible first | exact HB.out | apply below_alloc | apply pw_below_drewN | apply below_drew1) | exact HB.out))) : w.heap.size ≤ gb212)); clear HB; have HB := n0_; have BK212 := n1_; have GW212 := n2_; have GE212 := n3_; clear n0_ n1_ n2_ n3_; clear hb hbox hg) | ((with_reducible refine gate_dst (N := 3) rfl ?_); refine box_event ?hg (N := 3) ?hd (cs := #[.string a1_0, .bool a1_1, .int .i64 a1_2]) (t := 32) ?hr ?_; (case hd => rfl); (case hg => rfl); (case hr => first | (go_simp; done) | (go_simp; rfl)); intro gb213 hg w17 hbox hb; have n0_ := Aside0.mk (blk_below (g := gb212) (o := .cells #[.string a0_0, .bool a0_1, .int .i64 a0_2] 32 (0, 0)) (by (with_reducible repeat (first | refine blk_drewN ?_ _ | refine blk_drew ?_ | refine blk_alloc ?_ _)); exact BK212.out) hb); have n1_ := Aside0.mk (below_step (by repeat (first | (with_reducible first | exact HB.out | apply below_alloc | apply pw_below_drewN | apply below_drew1 | refine below_set ?_ GE212.out) | exact HB.out)) hb); have n2_ := Aside0.mk (hbox); have n3_ := Aside0.mk ((by rw [hg]; exact (below_size (by repeat (first | (with_reducible first | exact HB.out | apply below_alloc | apply pw_below_drewN | apply below_drew1 | refine below_set ?_ GE212.out) | exact HB.out))) : w.heap.size ≤ gb213)); have n4_ := Aside0.mk ((by rw [hg]; exact (below_size (by repeat (first | (with_reducible first | exact HB.out | apply below_alloc | apply pw_below_drewN | apply below_drew1 | refine below_set ?_ GE212.out) | exact HB.out))) : w.heap.size ≤ gb213)); have n5_ := Aside0.mk ((by rw [hg]; exact Nat.ne_of_lt (blk_lt (g := gb212) (o := .cells #[.string a0_0, .bool a0_1, .int .i64 a0_2] 32 (0, 0)) (by (with_reducible repeat (first | refine blk_drewN ?_ _ | refine blk_drew ?_ | refine blk_alloc ?_ _)); exact BK212.out)) : gb212 ≠ gb213)); have n6_ := Aside0.mk ((by rw [hg]; exact Nat.ne_of_gt (blk_lt (g := gb212) (o := .cells #[.string a0_0, .bool a0_1, .int .i64 a0_2] 32 (0, 0)) (by (with_reducible repeat (first | refine blk_drewN ?_ _ | refine blk_drew ?_ | refine blk_alloc ?_ _)); exact BK212.out)) : gb213 ≠ gb212)); clear BK212; clear HB; have BK212 := n0_; have HB := n1_; have BK213 := n2_; have GW213 := n3_; have GE213 := n4_; have NB212_213 := n5_; have NB213_212 := n6_; clear n0_ n1_ n2_ n3_ n4_ n5_ n6_; clear hb hbox hg; have hnb18 := NB212_213.out; have hnc18 := NB213_212.out; have hcz19_0 : w17.cell? ⟨gb212, 0, none⟩ = some (.string a0_0) := (blk_cell BK212.out 0).trans rfl; have hcz19_1 : w17.cell? ⟨gb212, 1, none⟩ = some (.bool a0_1) := (blk_cell BK212.out 1).trans rfl; have hcz19_2 : w17.cell? ⟨gb212, 2, none⟩ = some (.int .i64 a0_2) := (blk_cell BK212.out 2).trans rfl; have hfz19_0 := blk_frozen BK212.out 0; have hfz19_1 := blk_frozen BK212.out 1; have hfz19_2 := blk_frozen BK212.out 2; have hcz20_0 : w17.cell? ⟨gb213, 0, none⟩ = some (.string a1_0) := (blk_cell BK213.out 0).trans rfl; have hcz20_1 : w17.cell? ⟨gb213, 1, none⟩ = some (.bool a1_1) := (blk_cell BK213.out 1).trans rfl; have hcz20_2 : w17.cell? ⟨gb213, 2, none⟩ = some (.int .i64 a1_2) := (blk_cell BK213.out 2).trans rfl; have hfz20_0 := blk_frozen BK213.out 0; have hfz20_1 := blk_frozen BK213.out 1; have hfz20_2 := blk_frozen BK213.out 2))
        go_ret
        exact ⟨by first | rfl | (simp [errW_none, errW_some] <;> rfl) | (simp [*, errW_none, errW_some] <;> rfl), by repeat (first | (with_reducible first | exact HB.out | apply below_alloc | apply pw_below_drewN | apply below_drew1 | refine below_set ?_ GE212.out | refine below_set ?_ GE213.out) | exact HB.out)⟩
  · rw [if_neg c3] at H
    have c3b0 : (a0_0.toList == a1_0.toList) = false := beq_eq_false_iff_ne.mpr c3
    have c3b1 : (a0_0.toList != a1_0.toList) = true := bne_iff_ne.mpr c3
    obtain rfl := Option.some.inj H
    go_enter Try.func23, Try.ntmps23
    go_wp2_with (first | ((with_reducible refine gate_dst (N := 2) rfl ?_); refine box_event ?hg (N := 2) ?hd (cs := #[.string a0_0, .bool a0_1, .int .i64 a0_2]) (t := 32) ?hr ?_; (case hd => rfl); (case hg => rfl); (case hr => first | (go_simp; done) | (go_simp; rfl)); intro gb212 hg w21 hbox hb; have n0_ := Aside0.mk (below_step (by repeat (first | (with_reducible first | exact HB.out | apply below_alloc | apply pw_below_drewN | apply below_drew1) | exact HB.out)) hb); have n1_ := Aside0.mk (hbox); have n2_ := Aside0.mk ((by rw [hg]; exact (below_size (by repeat (first | (with_reducible first | exact HB.out | apply below_alloc | apply pw_below_drewN | apply below_drew1) | exact HB.out))) : w.heap.size ≤ gb212)); have n3_ := Aside0.mk ((by rw [hg]; exact (below_size (by repeat (first | (with_reducible first | exact HB.out | apply below_alloc | apply pw_below_drewN | apply below_drew1) | exact HB.out))) : w.heap.size ≤ gb212)); clear HB; have HB := n0_; have BK212 := n1_; have GW212 := n2_; have GE212 := n3_; clear n0_ n1_ n2_ n3_; clear hb hbox hg) | ((with_reducible refine gate_dst (N := 3) rfl ?_); refine box_event ?hg (N := 3) ?hd (cs := #[.string a1_0, .bool a1_1, .int .i64 a1_2]) (t := 32) ?hr ?_; (case hd => rfl); (case hg => rfl); (case hr => first | (go_simp; done) | (go_simp; rfl)); intro gb213 hg w22 hbox hb; have n0_ := Aside0.mk (blk_below (g := gb212) (o := .cells #[.string a0_0, .bool a0_1, .int .i64 a0_2] 32 (0, 0)) (by (with_reducible repeat (first | refine blk_drewN ?_ _ | refine blk_drew ?_ | refine blk_alloc ?_ _)); exact BK212.out) hb); have n1_ := Aside0.mk (below_step (by repeat (first | (with_reducible first | exact HB.out | apply below_alloc | apply pw_below_drewN | apply below_drew1 | refine below_set ?_ GE212.out) | exact HB.out)) hb); have n2_ := Aside0.mk (hbox); have n3_ := Aside0.mk ((by rw [hg]; exact (below_size (by repeat (first | (with_reducible first | exact HB.out | apply below_alloc | apply pw_below_drewN | apply below_drew1 | refine below_set ?_ GE212.out) | exact HB.out))) : w.heap.size ≤ gb213)); have n4_ := Aside0.mk ((by rw [hg]; exact (below_size (by repeat (first | (with_reducible first | exact HB.out | apply below_alloc | apply pw_below_drewN | apply below_drew1 | refine below_set ?_ GE212.out) | exact HB.out))) : w.heap.size ≤ gb213)); have n5_ := Aside0.mk ((by rw [hg]; exact Nat.ne_of_lt (blk_lt (g := gb212) (o := .cells #[.string a0_0, .bool a0_1, .int .i64 a0_2] 32 (0, 0)) (by (with_reducible repeat (first | refine blk_drewN ?_ _ | refine blk_drew ?_ | refine blk_alloc ?_ _)); exact BK212.out)) : gb212 ≠ gb213)); have n6_ := Aside0.mk ((by rw [hg]; exact Nat.ne_of_gt (blk_lt (g := gb212) (o := .cells #[.string a0_0, .bool a0_1, .int .i64 a0_2] 32 (0, 0)) (by (with_reducible repeat (first | refine blk_drewN ?_ _ | refine blk_drew ?_ | refine blk_alloc ?_ _)); exact BK212.out)) : gb213 ≠ gb212)); clear BK212; clear HB; have BK212 := n0_; have HB := n1_; have BK213 := n2_; have GW213 := n3_; have GE213 := n4_; have NB212_213 := n5_; have NB213_212 := n6_; clear n0_ n1_ n2_ n3_ n4_ n5_ n6_; clear hb hbox hg; have hnb23 := NB212_213.out; have hnc23 := NB213_212.out; have hcz24_0 : w22.cell? ⟨gb212, 0, none⟩ = some (.string a0_0) := (blk_cell BK212.out 0).trans rfl; have hcz24_1 : w22.cell? ⟨gb212, 1, none⟩ = some (.bool a0_1) := (blk_cell BK212.out 1).trans rfl; have hcz24_2 : w22.cell? ⟨gb212, 2, none⟩ = some (.int .i64 a0_2) := (blk_cell BK212.out 2).trans rfl; have hfz24_0 := blk_frozen BK212.out 0; have hfz24_1 := blk_frozen BK212.out 1; have hfz24_2 := blk_frozen BK212.out 2; have hcz25_0 : w22.cell? ⟨gb213, 0, none⟩ = some (.string a1_0) := (blk_cell BK213.out 0).trans rfl; have hcz25_1 : w22.cell? ⟨gb213, 1, none⟩ = some (.bool a1_1) := (blk_cell BK213.out 1).trans rfl; have hcz25_2 : w22.cell? ⟨gb213, 2, none⟩ = some (.int .i64 a1_2) := (blk_cell BK213.out 2).trans rfl; have hfz25_0 := blk_frozen BK213.out 0; have hfz25_1 := blk_frozen BK213.out 1; have hfz25_2 := blk_frozen BK213.out 2))
    go_ret
    exact ⟨by first | rfl | (simp [errW_none, errW_some] <;> rfl) | (simp [*, errW_none, errW_some] <;> rfl), by repeat (first | (with_reducible first | exact HB.out | apply below_alloc | apply pw_below_drewN | apply below_drew1 | refine below_set ?_ GE212.out | refine below_set ?_ GE213.out) | exact HB.out)⟩

end Go.Proofs.Ytdompbebeognmaa.QFnExactUndoneAll

/- Plain lemmas: what reads as data of a type is of the type's kind (numbers, bools, strings, slices, structs); no condition. -/
import Derived.ChangeArms
import Derived.Deep.Slices
import Derived.ChangeOld
import Derived.Test.YtjbbdjdbffaidaaDoorWWords
set_option linter.unusedVariables false
set_option linter.unusedSimpArgs false
namespace Go.Proofs.YtjbbdjdbffaidaaDoor.Lib
open Go.RowKit Go.Proofs.YtjbbdjdbffaidaaDoorW.PrintWords

/-- What reads as data of type t is of the kind d, and G holds of it. -/
def Opens (P : Program) (t : TypeId) {α : Type} (d : Kd α) (G : α → Prop) : Prop :=
  ∀ (H : Type) (enc : TypeId × Value → H) (w : World) (fuel : Nat) (cs : List Value) (x : DataW H × List MemPlace),
    DataW.trod enc P w 0 (fun _ => true) true fuel t cs = some x → ∃ a : α, d.K w a cs ∧ G a
/-- The same of the fields from place off on. -/
def OpensFs (P : Program) (fs : List Field) (off : Nat) {α : Type} (d : Kd α) (G : α → Prop) : Prop :=
  ∀ (H : Type) (enc : TypeId × Value → H) (w : World) (n : Nat) (cs : List Value), cs.length = off + d.sz →
    (∀ f ∈ fs, ∃ x, DataW.trod enc P w 0 (fun _ => true) true n f.type ((cs.drop f.offset).take (P.cellsOf f.type)) = some x) → ∃ a : α, d.K w a (cs.drop off) ∧ G a
section
variable {P : Program} {t e : TypeId} {α β : Type} {d : Kd α} {d2 : Kd β} {G : α → Prop} {G2 : β → Prop}
theorem Opens.int {k : IntKind} (ht : P.underlying t = some (.int k)) : Opens P t (Kd.int k) (fun a => (Lit.int k a).wf = true) := by
  intro H enc w fuel cs x h
  obtain ⟨n, rfl, _, hw⟩ := DataW.trod_int ht h
  exact ⟨n, rfl, hw⟩
theorem Opens.bool (ht : P.underlying t = some .bool) : Opens P t Kd.bool (fun _ => True) := by
  intro H enc w fuel cs x h
  obtain ⟨b, rfl, _⟩ := DataW.trod_bool ht h
  exact ⟨b, rfl, trivial⟩
theorem Opens.string (ht : P.underlying t = some .string) : Opens P t Kd.string (fun s => s.size ≤ 9223372036854775807) := by
  intro H enc w fuel cs x h
  obtain ⟨s, rfl, _, hs⟩ := DataW.trod_string ht h
  simp only [maxLen] at hs
  exact ⟨s, rfl, by omega⟩
theorem list_of (R : Nat → α → Prop) : ∀ n : Nat, (∀ j, j < n → ∃ a, R j a) → ∃ l : List α, l.length = n ∧ ∀ j a, l[j]? = some a → R j a
  | 0, _ => ⟨[], rfl, fun j a h => by simp at h⟩
  | n + 1, h => by
    obtain ⟨l, hl, hr⟩ := list_of R n (fun j hj => h j (by omega))
    obtain ⟨a, ha⟩ := h n (by omega)
    refine ⟨l ++ [a], by simp [hl], fun j b hb => ?_⟩
    rcases Nat.lt_or_ge j n with hj | hj
    · rw [List.getElem?_append_left (by omega)] at hb
      exact hr j b hb
    · have hjl : j < (l ++ [a]).length := (List.getElem?_eq_some_iff.1 hb).1
      obtain rfl : j = n := by simp at hjl; omega
      rw [List.getElem?_append_right (by omega)] at hb
      simp only [hl, Nat.sub_self, List.getElem?_cons_zero, Option.some.injEq] at hb
      rw [← hb]
      exact ha
theorem Opens.slice (ht : P.underlying t = some (.slice e)) (hd : Opens P e d G) (hs : P.cellsOf e = d.sz) : Opens P t (Kd.slice e d) (fun xs => xs.length ≤ 9223372036854775807 ∧ ∀ x ∈ xs, G x) := by
  intro H enc w fuel cs x h
  rcases Go.Deep.open_slice ht h with ⟨rfl, _⟩ | ⟨a, len, cap, m, n, D, Pl, rfl, _, hl, hm, hmm, _, hi⟩
  · exact ⟨[], ⟨none, 0, rfl, Nat.le_refl _, rfl, by simp, fun hp => absurd hp (by simp)⟩, by simp, fun x hx => by simp at hx⟩
  · have hlm : len ≤ m := by rw [hmm]; split <;> omega
    simp only [maxLen] at hm
    obtain ⟨l, hll, hlr⟩ := list_of (fun j b => ∃ c, w.cells? 0 (a.add (j * P.cellsOf e)) (P.cellsOf e) = some c ∧ d.K w b c ∧ G b) len (fun j hj => by
      obtain ⟨c, hc, htr⟩ := hi j (by omega)
      obtain ⟨b, hb, hg⟩ := hd H enc w n c _ htr
      exact ⟨b, c, hc, hb, hg⟩)
    refine ⟨l, ⟨some a, cap, by rw [hll], by omega, rfl, by omega, fun _ => ⟨a, rfl, fun j p hj => ?_⟩⟩, by omega, fun b hb => ?_⟩
    · obtain ⟨c, hc, hk, _⟩ := hlr j p hj
      obtain ⟨_, hcl, hat⟩ := World.cells?_some hc
      refine ⟨c, by rw [hcl, hs], hk, fun i u hu => ?_⟩
      have hil : i < P.cellsOf e := by rw [← hcl]; exact (List.getElem?_eq_some_iff.1 hu).1
      rw [← hs, ← Go.Deep.add_add, hat i hil, hu]
    · obtain ⟨j, hj⟩ := List.getElem?_of_mem hb
      obtain ⟨c, _, _, hg⟩ := hlr j b hj
      exact hg
theorem OpensFs.last {f : Field} {off : Nat} (hd : Opens P f.type d G) (ho : f.offset = off) (hs : P.cellsOf f.type = d.sz) : OpensFs P [f] off d G := by
  intro H enc w n cs hl h
  obtain ⟨x, hx⟩ := h f (List.mem_singleton.2 rfl)
  obtain ⟨a, ha, hg⟩ := hd H enc w n _ x hx
  refine ⟨a, ?_, hg⟩
  rw [ho, hs, List.take_of_length_le (by rw [List.length_drop]; omega)] at ha
  exact ha
theorem OpensFs.cons {f : Field} {fs : List Field} {off off2 : Nat} (hd : Opens P f.type d G) (ho : f.offset = off) (hs : P.cellsOf f.type = d.sz) (h2 : OpensFs P fs off2 d2 G2) (ho2 : off2 = off + d.sz) :
    OpensFs P (f :: fs) off (Kd.pair d d2) (fun x => G x.1 ∧ G2 x.2) := by
  intro H enc w n cs hl h
  have hl' : cs.length = off + (d.sz + d2.sz) := hl
  obtain ⟨x, hx⟩ := h f (List.mem_cons_self ..)
  obtain ⟨a, ha, hg⟩ := hd H enc w n _ x hx
  obtain ⟨b, hb, hg2⟩ := h2 H enc w n cs (by omega) (fun f2 hf2 => h f2 (List.mem_cons_of_mem _ hf2))
  rw [ho, hs] at ha
  refine ⟨(a, b), ⟨_, _, ?_, ha, hb⟩, hg, hg2⟩
  rw [ho2, ← List.drop_drop, List.take_append_drop]
theorem Opens.struct {fs : Array Field} (ht : P.underlying t = some (.struct fs)) (hs : P.cellsOf t = d.sz) (hf : OpensFs P fs.toList 0 d G) : Opens P t d G := by
  intro H enc w fuel cs x h
  obtain ⟨xs, n, _, _, hl, hlen, hg⟩ := DataW.trod_struct ht h
  obtain ⟨a, ha, hga⟩ := hf H enc w n cs (by omega) (fun f hfm => by
    obtain ⟨i, hi⟩ := List.getElem?_of_mem hfm
    have hi' : fs[i]? = some f := by simpa using hi
    have hil : i < xs.length := by rw [hlen]; exact (Array.getElem?_eq_some_iff.1 hi').1
    exact ⟨xs[i], (hg i f hi').trans (List.getElem?_eq_getElem hil)⟩)
  exact ⟨a, ha, hga⟩
theorem Opens.iso {f : β → α} (g : α → β) (hfg : ∀ a, f (g a) = a) (h : Opens P t d G) : Opens P t (Kd.iso d f) (fun b => G (f b)) := by
  intro H enc w fuel cs x hx
  obtain ⟨a, ha, hga⟩ := h H enc w fuel cs x hx
  refine ⟨g a, ?_, ?_⟩
  · show d.K w (f (g a)) cs
    rw [hfg]
    exact ha
  · show G (f (g a))
    rw [hfg]
    exact hga
theorem Opens.imp {G' : α → Prop} (h : Opens P t d G) (hG : ∀ a, G a → G' a) : Opens P t d G' := by
  intro H enc w fuel cs x hx
  obtain ⟨a, ha, hga⟩ := h H enc w fuel cs x hx
  exact ⟨a, ha, hG a hga⟩
/-- An argument. -/
theorem Opens.arg {H : Type} {enc : TypeId × Value → H} {w : World} {v : Value} {x : DataW H} {ps : List MemPlace} (h : Opens P t d G) (ht : DataW.Trod enc P w 0 (fun _ => true) true t v x ps) : ∃ a : α, d.K w a v.cells.toList ∧ G a := by
  obtain ⟨fuel, hf⟩ := ht
  exact h H enc w fuel _ _ hf
theorem trod_lt_ {H : Type} {enc : TypeId × Value → H} {w : World} {v : Value} {x : DataW H} {ps : List MemPlace} (ht : DataW.Trod enc P w 0 (fun _ => true) true t v x ps) : ∀ y ∈ ps, y.block < w.heap.size := by
  obtain ⟨m, hm⟩ := ht
  exact DataW.trod_lt m _ _ _ hm
end
end Go.Proofs.YtjbbdjdbffaidaaDoor.Lib

/-
  An alphabet, and a slice of integers, among the arguments: opened.
-/
import Derived.Test.YtafbgfdidmepaaaDoorAlFew
import Derived.ProofKit
import Derived.OpenShut
import Derived.Lib.SmallJoins
import Derived.Deep.Strs
import Derived.ChangeSlices
set_option linter.unusedVariables false
set_option maxRecDepth 100000
namespace Go.Proofs.YtafbgfdidmepaaaDoor
open Go.RowKit Go.ChangeShapes Go.WideShapes

theorem add_pl (g off j : Nat) : (⟨g, off, none⟩ : Addr).add j = ⟨g, off + j, none⟩ := by unfold Addr.add; split <;> simp_all
theorem cell_plain {w : World} {a : Addr} {v : Value} (h : w.cell? (a.add 0) = some v) : ∃ g o, a = ⟨g, o, none⟩ ∧ g < w.heap.size := by
  obtain ⟨g, o, sp⟩ := a
  unfold World.cell? Addr.add at h
  simp only [if_true] at h
  split at h
  · rename_i hg
    cases sp with
    | none => exact ⟨g, o, rfl, (Array.getElem?_eq_some_iff.1 hg).1⟩
    | some x => simp at h
  · cases h
theorem strAt_of {w : World} {a : Addr} {n m : Nat} {S : Nat → ByteArray} (hnm : n ≤ m) (h : ∀ i, i < m → w.cell? (a.add i) = some (.string (S i)) ∧ (S i).size ≤ maxLen) :
    StrAt w (some a) ((List.range n).map fun i => (S i).data.toList) := by
  intro hn
  simp only [List.length_map, List.length_range] at hn
  obtain ⟨g, o, rfl, hg⟩ := cell_plain (h 0 (by omega)).1
  refine ⟨g, o, rfl, hg, fun j s hj => ?_⟩
  rw [List.getElem?_map] at hj
  by_cases hjn : j < n
  · rw [List.getElem?_range hjn] at hj
    injection hj with hj
    subst hj
    have := (h j (by omega)).1
    rw [add_pl] at this
    exact this
  · rw [List.getElem?_eq_none (by simp; omega)] at hj
    cases hj
theorem intAt_of {w : World} {a : Addr} {n : Nat} {z : List Int} (h : ∀ i, i < z.length → w.cell? (a.add i) = some (.int .i64 (z.getD i 0))) : IntAt w (some a) (z.take n) := by
  intro hn
  rw [List.length_take] at hn
  obtain ⟨g, o, rfl, hg⟩ := cell_plain (h 0 (by omega))
  refine ⟨g, o, rfl, hg, fun j s hj => ?_⟩
  rw [List.getElem?_take] at hj
  split at hj
  · have hl : j < z.length := (List.getElem?_eq_some_iff.1 hj).1
    have := h j hl
    rw [add_pl, List.getD_eq_getElem?_getD, hj] at this
    exact this
  · cases hj

section
variable {H : Type} {enc : TypeId × Value → H} {w : World} {base : Nat} {spare : Nat → Bool} {held : Bool}
theorem open_intAt {t : TypeId} {fuel : Nat} {v : Value} {x : DataW H × List MemPlace} (ht : Tryd.prog.underlying t = some (.slice 3)) (h : DataW.trod enc Tryd.prog w base spare held fuel t [v] = some x) :
    ∃ A c l, v = .slice A l.length c ∧ IntAt w A l ∧ l.length ≤ 9223372036854775807 ∧ l.length ≤ c := by
  rcases open_ints ht Tryd.underlying3 (by kernel_rfl) h with ⟨hcs, _⟩ | ⟨a, len, cap, zs, hcs, _, hl, hm, hz, _, hcell, _⟩
  · injection hcs with hcs
    exact ⟨none, 0, [], hcs, IntAt.nil _, by simp, Nat.le_refl _⟩
  · injection hcs with hcs
    have hlen : len ≤ zs.length := by rw [hz]; split <;> omega
    refine ⟨some a, cap, zs.take len, ?_, intAt_of hcell, ?_, by rw [List.length_take]; omega⟩
    · rw [List.length_take, Nat.min_eq_left hlen]; exact hcs
    · rw [List.length_take]; unfold maxLen at hm; omega
theorem open_strAt {t : TypeId} {fuel : Nat} {v : Value} {x : DataW H × List MemPlace} (ht : Tryd.prog.underlying t = some (.slice 9)) (h : DataW.trod enc Tryd.prog w base spare held fuel t [v] = some x) :
    ∃ A c l, v = .slice A l.length c ∧ StrAt w A l ∧ l.length ≤ 9223372036854775807 ∧ (∀ s ∈ l, s.length ≤ 9223372036854775807) ∧ l.length ≤ c := by
  rcases Go.Deep.open_strs ht Tryd.underlying9 (by kernel_rfl) h with ⟨hcs, _⟩ | ⟨a, len, cap, m, S, hcs, _, hl, hm, hmm, _, hcell⟩
  · injection hcs with hcs
    exact ⟨none, 0, [], hcs, StrAt.nil _, by simp, by simp, Nat.le_refl _⟩
  · injection hcs with hcs
    have hlen : len ≤ m := by rw [hmm]; split <;> omega
    refine ⟨some a, cap, (List.range len).map fun i => (S i).data.toList, ?_, strAt_of hlen hcell, ?_, fun s hs => ?_, by rw [List.length_map, List.length_range]; exact hl⟩
    · rw [List.length_map, List.length_range]; exact hcs
    · rw [List.length_map, List.length_range]; unfold maxLen at hm; omega
    · obtain ⟨i, hi, rfl⟩ := List.mem_map.1 hs
      have := (hcell i (by have := List.mem_range.1 hi; omega)).2
      unfold maxLen at this
      exact this
theorem open_alph_cap {r : Reach} {b0 : Nat} {v : Value} {d : DataW H} {p : List MemPlace} (hv : Value.okWide Tryd.prog w r b0 25 v) (h : DataW.Trod enc Tryd.prog w base spare held 25 v d p) :
    ∃ a A c A' c', v = alv a A c A' c' ∧ StrAt w A a.letters ∧ IntAt w A' a.small ∧ Sized a ∧ a.letters.length ≤ c ∧ a.small.length ≤ c' := by
  obtain ⟨v0, v1, v2, y0, y1, y2, n, rfl, _, _, h0, h1, h2⟩ := Go.Joins.open_agg3 Tryd.underlying25 (by kernel_rfl) (by kernel_rfl) hv h
  obtain ⟨s, hs, _, hsz⟩ := DataW.trod_string Tryd.underlying9 h0
  injection hs with hs
  subst hs
  obtain ⟨A, c, l, rfl, hA, hl, hll, hc⟩ := open_strAt Tryd.underlying22 h1
  obtain ⟨A', c', l', rfl, hA', hl', hc'⟩ := open_intAt Tryd.underlying23 h2
  exact ⟨⟨s.data.toList, l, l'⟩, A, c, A', c', rfl, hA, hA', ⟨hl, hl', hsz, hll⟩, hc, hc'⟩
theorem open_alph {r : Reach} {b0 : Nat} {v : Value} {d : DataW H} {p : List MemPlace} (hv : Value.okWide Tryd.prog w r b0 25 v) (h : DataW.Trod enc Tryd.prog w base spare held 25 v d p) :
    ∃ a A c A' c', v = alv a A c A' c' ∧ StrAt w A a.letters ∧ IntAt w A' a.small ∧ Sized a := by
  obtain ⟨a, A, c, A', c', h1, h2, h3, h4, _⟩ := open_alph_cap hv h
  exact ⟨a, A, c, A', c', h1, h2, h3, h4⟩
theorem open_intsl {r : Reach} {b0 : Nat} {v : Value} {d : DataW H} {p : List MemPlace} (hv : Value.okWide Tryd.prog w r b0 23 v) (h : DataW.Trod enc Tryd.prog w base spare held 23 v d p) :
    ∃ A c l, v = .slice A l.length c ∧ IntAt w A l ∧ l.length ≤ 9223372036854775807 := by
  obtain ⟨f, hf⟩ := h
  obtain ⟨a, n, c, rfl⟩ := okWide_slice Tryd.underlying23 hv
  obtain ⟨A, c, l, h1, h2, h3, _⟩ := open_intAt Tryd.underlying23 (by simpa [Value.cells] using hf)
  exact ⟨A, c, l, h1, h2, h3⟩
end
end Go.Proofs.YtafbgfdidmepaaaDoor

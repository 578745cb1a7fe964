/-
  Slices of strings and of integers that read as lists.
-/
import Derived.Test.YtldnfdghkdibmaaGreatDoorWalkBase
import Derived.Test.YtldnfdghkdibmaaGreatDoorLater
import Derived.Test.YtldnfdghkdibmaaGreatDoorAlSpec
set_option linter.unusedVariables false
namespace Go.Proofs.YtldnfdghkdibmaaGreatDoor
open Go.RowKit

/-- a slice that reads as these strings -/
def StrAt (w : World) (A : Option Addr) (l : List (List UInt8)) : Prop :=
  0 < l.length → ∃ g off, A = some ⟨g, off, none⟩ ∧ g < w.heap.size ∧ ∀ (j : Nat) s, l[j]? = some s → w.cell? ⟨g, off + j, none⟩ = some (.string (bs s))
/-- a slice that reads as these integers -/
def IntAt (w : World) (A : Option Addr) (l : List Int) : Prop :=
  0 < l.length → ∃ g off, A = some ⟨g, off, none⟩ ∧ g < w.heap.size ∧ ∀ (j : Nat) k, l[j]? = some k → w.cell? ⟨g, off + j, none⟩ = some (.int .i64 k)
section
variable {w w' : World} {A : Option Addr}
theorem StrAt.bel {l : List (List UInt8)} (h : StrAt w A l) (hb : Below w.heap.size w w') : StrAt w' A l := fun hl => by
  obtain ⟨g, off, h1, h2, h3⟩ := h hl
  exact ⟨g, off, h1, Nat.lt_of_lt_of_le h2 hb.size, fun j u hu => (hb.cell (p := ⟨g, off + j, none⟩) h2).trans (h3 j u hu)⟩
theorem IntAt.bel {l : List Int} (h : IntAt w A l) (hb : Below w.heap.size w w') : IntAt w' A l := fun hl => by
  obtain ⟨g, off, h1, h2, h3⟩ := h hl
  exact ⟨g, off, h1, Nat.lt_of_lt_of_le h2 hb.size, fun j u hu => (hb.cell (p := ⟨g, off + j, none⟩) h2).trans (h3 j u hu)⟩
theorem StrAt.at_ {l : List (List UInt8)} (h : StrAt w A l) (j : Nat) (hj : j < l.length) : ∃ g off, A = some ⟨g, off, none⟩ ∧ g < w.heap.size ∧ w.cell? ⟨g, off + j, none⟩ = some (.string (bs l[j])) := by
  obtain ⟨g, off, h1, h2, h3⟩ := h (by omega)
  exact ⟨g, off, h1, h2, h3 j _ (List.getElem?_eq_getElem hj)⟩
theorem IntAt.at_ {l : List Int} (h : IntAt w A l) (j : Nat) (hj : j < l.length) : ∃ g off, A = some ⟨g, off, none⟩ ∧ g < w.heap.size ∧ w.cell? ⟨g, off + j, none⟩ = some (.int .i64 l[j]) := by
  obtain ⟨g, off, h1, h2, h3⟩ := h (by omega)
  exact ⟨g, off, h1, h2, h3 j _ (List.getElem?_eq_getElem hj)⟩
theorem StrAt.take {l : List (List UInt8)} (h : StrAt w A l) (n : Nat) : StrAt w A (l.take n) := fun hl => by
  rw [List.length_take] at hl
  obtain ⟨g, off, h1, h2, h3⟩ := h (by omega)
  refine ⟨g, off, h1, h2, fun j s hj => h3 j s ?_⟩
  rw [List.getElem?_take] at hj
  split at hj
  · exact hj
  · cases hj
theorem IntAt.take {l : List Int} (h : IntAt w A l) (n : Nat) : IntAt w A (l.take n) := fun hl => by
  rw [List.length_take] at hl
  obtain ⟨g, off, h1, h2, h3⟩ := h (by omega)
  refine ⟨g, off, h1, h2, fun j s hj => h3 j s ?_⟩
  rw [List.getElem?_take] at hj
  split at hj
  · exact hj
  · cases hj
theorem StrAt.nil (A : Option Addr) : StrAt w A [] := fun h => by simp at h
theorem IntAt.nil (A : Option Addr) : IntAt w A [] := fun h => by simp at h
theorem IntAt.of_row {base n c : Nat} {e : TypeId} {l : List Int} (h : w.ownsRow base e 1 (.slice A n c) l.length (l.map (Value.int .i64))) : IntAt w A l := fun hl => by
  obtain ⟨h1, h2⟩ := h
  rcases h2 with ⟨_, h2⟩ | ⟨g, cap, cur, hv, hb, hh, hc1, hc2, hc3, hc4⟩
  · omega
  · injection hv with hA hn hc
    subst hA
    have hlt : g < w.heap.size := Blk.lt (t := e) (cs := cur) hh
    refine ⟨g, 0, rfl, hlt, fun j u hu => ?_⟩
    have hu' : (l.map (Value.int .i64))[j]? = some (.int .i64 u) := by rw [List.getElem?_map, hu]; rfl
    rw [Nat.zero_add, cell_of_row w g j cur _ _ hh]
    rw [← hc4, List.getElem?_take] at hu'
    split at hu'
    · simpa using hu'
    · cases hu'
end

theorem wf_nat (k : Nat) (h : k ≤ 9223372036854775807) : (Lit.int .i64 (k : Int)).wf = true := by
  show (decide (IntKind.i64.min ≤ (k : Int)) && decide ((k : Int) ≤ IntKind.i64.max)) = true
  rw [Bool.and_eq_true, decide_eq_true_eq, decide_eq_true_eq]
  show -9223372036854775808 ≤ (k : Int) ∧ (k : Int) ≤ 9223372036854775807
  omega

/-- the value of an alphabet -/
abbrev alv (a : Al.Alph) (A : Option Addr) (c : Nat) (A' : Option Addr) (c' : Nat) : Value := .agg #[.string (bs a.name), .slice A a.letters.length c, .slice A' a.small.length c']
/-- few letters, of few bytes -/
structure Few (a : Al.Alph) : Prop where
  n : a.letters.length ≤ 70
  len : ∀ l ∈ a.letters, l.length ≤ 20
  s : a.small.length ≤ 70
  name : a.name.length ≤ 100
end Go.Proofs.YtldnfdghkdibmaaGreatDoor

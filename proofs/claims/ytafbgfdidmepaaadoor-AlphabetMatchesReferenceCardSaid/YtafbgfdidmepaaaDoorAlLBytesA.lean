/-
  AlphabetBytes, first part: what its loops reckon, in plain lists; its inner function letter.
-/
import Derived.Test.YtafbgfdidmepaaaDoorAlBox
import Derived.Test.YtafbgfdidmepaaaDoorAlLaw3
import Derived.Test.YtafbgfdidmepaaaDoorAlPlaces
import Derived.Test.YtafbgfdidmepaaaDoorRefBytes
set_option linter.unusedVariables false
namespace Go.Proofs.YtafbgfdidmepaaaDoor
open Go.RowKit

namespace Al
def inR (S : List Int) (x : Int) : Bool := decide (0 ≤ x) && decide (x < S.length)
def fixAt (S : List Int) (x : Int) : Bool := S.getD x.toNat 0 == x
def n0 (l : List UInt8) : Bool := (decide (0 < l.length) && decide (l.length ≤ 24)) && (match l with | [] => false | c :: _ => Lx.isLetter c)
def cnt (a : Alph) : Bool := (decide (1 ≤ a.letters.length) && decide (a.letters.length ≤ 64)) && (a.small.length == a.letters.length)
theorem formed_split {a : Alph} (hp : a.letters.all printedB = true) :
    formedB a = ((((cnt a && noTwice a.letters) && a.small.all (inR a.small)) && a.small.all (fixAt a.small)) && (n0 a.name && a.name.all Lx.isWord)) := by
  unfold formedB cnt Lx.nameB n0
  rw [hp, Bool.and_true]
  by_cases h : a.small.length = a.letters.length
  · have hs : a.small.all (smallAt a.letters.length a.small) = (a.small.all (inR a.small) && a.small.all (fixAt a.small)) := by
      rw [Bool.eq_iff_iff, Bool.and_eq_true, List.all_eq_true, List.all_eq_true, List.all_eq_true]
      unfold smallAt inR fixAt
      rw [h]
      simp only [Bool.and_eq_true]
      exact ⟨fun H => ⟨fun x hx => (H x hx).1, fun x hx => (H x hx).2⟩, fun H x hx => ⟨H.1 x hx, H.2 x hx⟩⟩
    rw [hs]
    ac_rfl
  · have h2 : (a.small.length == a.letters.length) = false := by rw [beq_eq_false_iff_ne]; exact h
    rw [h2]
    simp
theorem all_snoc {α : Type} (f : α → Bool) (l : List α) (k : Nat) (h : k < l.length) : (l.take (k + 1)).all f = ((l.take k).all f && f l[k]) := by
  rw [take_snoc l k h, List.all_append]
  simp
theorem take_all_false {α : Type} (f : α → Bool) (l : List α) (k : Nat) (h : (l.take k).all f = false) : l.all f = false := by
  rw [← Bool.not_eq_true] at h ⊢
  intro h2
  exact h (List.all_eq_true.2 fun x hx => List.all_eq_true.1 h2 x (List.mem_of_mem_take hx))
theorem and_take_false {α : Type} {f : α → Bool} {l : List α} {k : Nat} {G : Bool} (h : (G && (l.take k).all f) = false) : (G && l.all f) = false := by
  rw [Bool.and_eq_false_iff] at h ⊢
  rcases h with h | h
  · exact .inl h
  · exact .inr (take_all_false f l k h)
theorem noTwice_next (L : List (List UInt8)) (k : Nat) (h : k < L.length) : noTwice (L.take (k + 1)) = (noTwice (L.take k) && (L.take k).all fun x => !(x == L[k])) := by
  rw [take_snoc L k h, noTwice_snoc]
  congr 1
  rw [Bool.eq_iff_iff, Bool.not_eq_true', List.all_eq_true, ← Bool.not_eq_true, List.contains_iff_mem]
  constructor
  · intro hn x hx
    rw [Bool.not_eq_true', beq_eq_false_iff_ne]
    rintro rfl
    exact hn hx
  · intro H hm
    have := H _ hm
    simp at this
end Al

theorem blet_any (c : UInt8) (w : World) : Calls Tryd.prog 23 #[.int .u8 c.toNat] w fun e w' => e = .returned (.bool (Lx.isLetter c)) ∧ w' = w := by
  rw [letter_nat]
  generalize (c.toNat : Int) = x
  by_cases h1 : (97 : Int) ≤ x <;> by_cases h2 : x ≤ 122 <;> by_cases h3 : (65 : Int) ≤ x <;> by_cases h4 : x ≤ 90 <;> first | (exfalso; omega) | skip
  all_goals
    simp only [h1, h2, h3, h4, decide_true, decide_false, Bool.and_true, Bool.and_false, Bool.or_true, Bool.or_false, Bool.true_and, Bool.false_and]
    go_enter Tryd.func23, Tryd.ntmps23
    go_wp2
    go_ret
    exact ⟨rfl, rfl⟩
end Go.Proofs.YtafbgfdidmepaaaDoor

/-
  The map of letters to their indices, as it reads. No program in sight.
-/
import Derived.Test.YtldnfdghkdibmaaGreatDoorMP
import Derived.Maps.Views
set_option linter.unusedVariables false
namespace Go.Proofs.YtldnfdghkdibmaaGreatDoor
namespace Al
open Go.Maps

/-- the first n letters with their indices -/
def idxD (L : List (List UInt8)) : Nat → DataW Unit
  | 0 => .map []
  | n + 1 => (idxD L n).put (.string (letterAt L (n : Int))) (.lit (.int .i64 (n : Int)))
theorem idxD_map (L : List (List UInt8)) (n : Nat) : IsMap (idxD L n) := by
  induction n with
  | zero => exact isMap_empty
  | succ n ih => exact ih.put _ _
theorem has_idxD (L : List (List UInt8)) (s : List UInt8) : ∀ n, n ≤ L.length → has (idxD L n) (.string s) = (L.take n).contains s := by
  intro n
  induction n with
  | zero => intro _; rfl
  | succ n ih =>
    intro hn
    have hl := letterAt_nat L n (by omega)
    have ht : L.take (n + 1) = L.take n ++ [L[n]] := by rw [List.take_succ_eq_append_getElem (by omega)]
    rw [idxD, hl]
    rw [ht]
    by_cases h : s = L[n]
    · subst h
      rw [has_put_same (idxD_map L n) (show WideAt.IsKeyLit (.string L[n]) from trivial)]
      symm
      rw [List.contains_iff_mem]
      exact List.mem_append_right _ (List.mem_singleton.2 rfl)
    · rw [has_put_other (by intro he; injection he with he; exact h he), ih (by omega), List.contains_append]
      simp [h]
theorem has_all (L : List (List UInt8)) (s : List UInt8) : has (idxD L L.length) (.string s) = L.contains s := by
  rw [has_idxD L s _ (Nat.le_refl _), List.take_length]
theorem at_idxD {L : List (List UInt8)} (hd : noTwice L = true) (i : Nat) (hi : i < L.length) (z : DataW Unit) : ∀ n, i < n → n ≤ L.length → (idxD L n).atKey (.string L[i]) z = .lit (.int .i64 (i : Int)) := by
  intro n
  induction n with
  | zero => intro h; omega
  | succ n ih =>
    intro h1 h2
    rw [idxD, letterAt_nat L n (by omega)]
    by_cases h : i = n
    · subst h
      exact atKey_put_same (idxD_map L i) (show WideAt.IsKeyLit (.string L[i]) from trivial) _ _
    · rw [atKey_put_other]
      · exact ih (by omega) (by omega)
      · intro he
        injection he with he
        exact h (noTwice_inj hd hi (by omega) he)
theorem at_all {L : List (List UInt8)} (hd : noTwice L = true) {s : List UInt8} (hs : L.contains s = true) (z : DataW Unit) : (idxD L L.length).atKey (.string s) z = .lit (.int .i64 (idx L s : Nat)) := by
  have h1 := idx_lt hs
  have h2 := idx_get hs
  rw [List.getElem?_eq_getElem h1] at h2
  have h3 := Option.some.inj h2
  have := at_idxD hd (idx L s) h1 z L.length h1 (Nat.le_refl _)
  rw [h3] at this
  exact this
end Al
end Go.Proofs.YtldnfdghkdibmaaGreatDoor

/-
  One step of each loop of layer 40, in plain Lean. No program in sight.
-/
import Derived.Test.YtgjdbnkeamjhhaaDoorSoSpec
set_option linter.unusedVariables false
namespace Go.Proofs.YtgjdbnkeamjhhaaDoor
namespace Snd
theorem take_getD {α : Type} (l : List α) (d : α) (k : Nat) (h : k < l.length) : l.take (k + 1) = l.take k ++ [l.getD k d] := by
  rw [List.take_succ_eq_append_getElem h, List.getD_eq_getElem?_getD, List.getElem?_eq_getElem h]
  rfl
theorem mem_getD {α : Type} (l : List α) (d : α) (k : Nat) (h : k < l.length) : l.getD k d ∈ l := by
  rw [List.getD_eq_getElem?_getD, List.getElem?_eq_getElem h]
  exact List.getElem_mem h
theorem all_step {α : Type} (l : List α) (d : α) (p : α → Bool) (k : Nat) (h : k < l.length) : (l.take (k + 1)).all p = ((l.take k).all p && p (l.getD k d)) := by
  rw [take_getD l d k h, List.all_append, List.all_cons, List.all_nil, Bool.and_true]
theorem any_step {α : Type} (l : List α) (d : α) (p : α → Bool) (k : Nat) (h : k < l.length) : (l.take (k + 1)).any p = ((l.take k).any p || p (l.getD k d)) := by
  rw [take_getD l d k h, List.any_append, List.any_cons, List.any_nil, Bool.or_false]
theorem all_end {α : Type} (l : List α) (p : α → Bool) (k : Nat) (h : l.length ≤ k) : (l.take k).all p = l.all p := by rw [List.take_of_length_le h]
theorem all_no {α : Type} (l : List α) (d : α) (p : α → Bool) (k : Nat) (h : k < l.length) (hp : p (l.getD k d) = false) : l.all p = false := by
  rw [← Bool.not_eq_true, List.all_eq_true]
  intro ha
  have := ha _ (mem_getD l d k h)
  rw [hp] at this; cases this
theorem any_yes {α : Type} (l : List α) (d : α) (p : α → Bool) (k : Nat) (h : k < l.length) (hp : p (l.getD k d) = true) : l.any p = true :=
  List.any_eq_true.2 ⟨_, mem_getD l d k h, hp⟩
theorem rising_step : ∀ (ws : List Str) (k : Nat), k < ws.length → rising (ws.take (k + 1)) = (rising (ws.take k) && (k == 0 || Op.bytesLess (ws.getD (k - 1) []) (ws.getD k [])))
  | [], k, h => by cases h
  | [a], k, h => by
    obtain rfl : k = 0 := by simpa using h
    rfl
  | a :: b :: r, 0, h => rfl
  | a :: b :: r, 1, h => by
    show (Op.bytesLess a b && true) = (true && (false || Op.bytesLess a b))
    simp
  | a :: b :: r, k + 2, h => by
    have ih := rising_step (b :: r) (k + 1) (by simpa using h)
    have e1 : (a :: b :: r).take (k + 2 + 1) = a :: b :: r.take (k + 1) := rfl
    have e2 : (a :: b :: r).take (k + 2) = a :: b :: r.take k := rfl
    have e3 : (b :: r).take (k + 1 + 1) = b :: r.take (k + 1) := rfl
    have e4 : (b :: r).take (k + 1) = b :: r.take k := rfl
    rw [e3, e4] at ih
    rw [e1, e2, rising, rising, ih]
    have e5 : (a :: b :: r).getD (k + 2 - 1) [] = (b :: r).getD (k + 1 - 1) [] := rfl
    have e6 : (a :: b :: r).getD (k + 2) [] = (b :: r).getD (k + 1) [] := rfl
    rw [e5, e6, Bool.and_assoc]
    rfl
theorem rising_take : ∀ (ws : List Str) (k : Nat), rising ws = true → rising (ws.take k) = true := by
  intro ws k h
  rcases Nat.lt_or_ge k ws.length with hk | hk
  · have key : ∀ n, k + n ≤ ws.length → rising (ws.take (k + n)) = true → rising (ws.take k) = true := by
      intro n
      induction n with
      | zero => intro _ h; exact h
      | succ n ih =>
        intro hn h
        rw [← Nat.add_assoc, rising_step ws (k + n) (by omega), Bool.and_eq_true] at h
        exact ih (by omega) h.1
    refine key (ws.length - k) (by omega) ?_
    rw [List.take_of_length_le (by omega)]
    exact h
  · rw [List.take_of_length_le hk]; exact h
theorem rising_no (ws : List Str) (k : Nat) (hk : k < ws.length) (h0 : 0 < k) (h : Op.bytesLess (ws.getD (k - 1) []) (ws.getD k []) = false) : rising ws = false := by
  rw [← Bool.not_eq_true]
  intro hr
  have := rising_take ws (k + 1) hr
  rw [rising_step ws k hk, h, Bool.and_eq_true] at this
  have h1 : (k == 0) = false := by rw [beq_eq_false_iff_ne]; omega
  rw [h1] at this
  cases this.2
theorem fresh_step (l : List Conf) (d : Conf) (k : Nat) (h : k < l.length) : fresh (l.take (k + 1)) = (fresh (l.take k) && !((l.take k).any (same (l.getD k d)))) := by
  rw [take_getD l d k h, fresh_snoc]
theorem fresh_no (l : List Conf) (d : Conf) (k : Nat) (h : k < l.length) (ha : (l.take k).any (same (l.getD k d)) = true) : fresh l = false := by
  rw [← Bool.not_eq_true]
  intro hf
  have := fresh_take l hf (k + 1)
  rw [fresh_step l d k h, ha] at this
  simp at this
theorem same_val (c d : Conf) : same c d = ((c.1 == d.1 && c.2 == d.2) || (c.1 == d.2 && c.2 == d.1)) := by
  rw [Bool.eq_iff_iff, same_iff]
  simp only [Bool.or_eq_true, Bool.and_eq_true, beq_iff_eq]
  unfold flip
  constructor
  · rintro (rfl | rfl)
    · exact .inl ⟨rfl, rfl⟩
    · exact .inr ⟨rfl, rfl⟩
  · rintro (⟨h1, h2⟩ | ⟨h1, h2⟩)
    · exact .inl (Prod.ext h1 h2)
    · exact .inr (Prod.ext h1 h2)
theorem letB_nat (c : UInt8) : letB c = (!(decide ((c.toNat : Int) < 97)) && !(decide ((122 : Int) < c.toNat))) := by
  unfold letB
  rw [Bool.eq_iff_iff]
  simp only [Bool.and_eq_true, decide_eq_true_eq, Bool.not_eq_true', decide_eq_false_iff_not]
  omega
end Snd
end Go.Proofs.YtgjdbnkeamjhhaaDoor

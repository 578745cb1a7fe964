/-
  Letters: what it returns.
-/
import Derived.Test.YtafbgfdidmepaaaDoorRF
set_option linter.unusedVariables false
namespace Go.Proofs.YtafbgfdidmepaaaDoor
open Go.RowKit
open R
set_option maxRecDepth 100000 in
theorem letters_vc (nm : List UInt8) (ls : List (List UInt8)) (sm : List Int) (s : List UInt8) (h : cLetters.pre ((nm, ls, sm), s)) :
    /-VC fun (nm : List UInt8) (ls : List (List UInt8)) (sm : List Int) (s : List UInt8) => vcOf Tryd.prog [cAt] (anLetters ls s) cLetters Tryd.f28 ((nm, ls, sm), s) -/
    bif s == [] then ([], (6 : Int), (0 : Int)) = Al.readL ls s else (∃ (p' : List Int × Nat), (p'.snd ≤ s.length ∧ p'.fst.length ≤ (24 : Nat) ∧ ∃ (p'_1 : Nat), (List.drop p'.snd s).length <
    p'_1 ∧ Al.readL ls s = Al.collect p'.fst (Al.places ls p'_1 p'.snd (List.drop p'.snd s))) ∧ (True ∧ (0 : Int) = (↑p'.snd : Int) ∧ s = s ∧ True ∧ True) ∧ ((nm = nm ∧ ls = ls ∧ sm = sm ∧ True)
    ∧ True) ∧ (p'.fst = [] ∧ True) ∧ True) ∧ ∀ (p : List Int × Nat), (p.snd ≤ s.length ∧ p.fst.length ≤ (24 : Nat) ∧ ∃ (p' : Nat), (List.drop p.snd s).length < p' ∧ Al.readL ls s = Al.collect
    p.fst (Al.places ls p' p.snd (List.drop p.snd s))) → bif decide ((↑p.snd : Int) < (↑s.length : Int)) then (FewP (nm, ls, sm) ∧ (0 : Int) ≤ (↑p.snd : Int) ∧ (↑p.snd : Int) ≤ (↑s.length : Int)
    ∧ s.length ≤ (1000000 : Nat)) ∧ bif decide (Al.best ls (List.drop (↑p.snd : Int).toNat s) ls.length < (0 : Int)) then ([], (3 : Int), (↑p.snd : Int)) = Al.readL ls s else bif (↑p.fst.length
    : Int) == (24 : Int) then ([], (2 : Int), (↑p.snd : Int)) = Al.readL ls s else (p.fst.length + [Al.best ls (List.drop (↑p.snd : Int).toNat s) ls.length].length) * (8 : Nat) ≤
    (140737488355328 : Nat) ∧ ((0 : Int) ≤ Al.best ls (List.drop (↑p.snd : Int).toNat s) ls.length ∧ Al.best ls (List.drop (↑p.snd : Int).toNat s) ls.length < (↑ls.length : Int)) ∧
    ((-9223372036854775808 : Int) ≤ (↑p.snd : Int) + (↑(ls.getD (Al.best ls (List.drop (↑p.snd : Int).toNat s) ls.length).toNat []).length : Int) ∧ (↑p.snd : Int) + (↑(ls.getD (Al.best ls
    (List.drop (↑p.snd : Int).toNat s) ls.length).toNat []).length : Int) ≤ (9223372036854775807 : Int)) ∧ ∃ (p' : List Int × Nat), (p'.snd ≤ s.length ∧ p'.fst.length ≤ (24 : Nat) ∧ ∃ (p'_1 :
    Nat), (List.drop p'.snd s).length < p'_1 ∧ Al.readL ls s = Al.collect p'.fst (Al.places ls p'_1 p'.snd (List.drop p'.snd s))) ∧ s.length - p'.snd < s.length - p.snd ∧ (True ∧ (↑p.snd : Int)
    + (↑(ls.getD (Al.best ls (List.drop (↑p.snd : Int).toNat s) ls.length).toNat []).length : Int) = (↑p'.snd : Int) ∧ s = s ∧ True ∧ True) ∧ ((nm = nm ∧ ls = ls ∧ sm = sm ∧ True) ∧ True) ∧
    (p.fst ++ [Al.best ls (List.drop (↑p.snd : Int).toNat s) ls.length] = p'.fst ∧ True) ∧ True else (p.fst, (0 : Int), (0 : Int)) = Al.readL ls s
    /-CV-/ := by
  obtain ⟨⟨hfew, hf⟩, hs⟩ := h
  have h70 : ls.length ≤ 70 := hfew.1
  have hs : s.length ≤ 1000000 := hs
  have hlet : ∀ l ∈ ls, 1 ≤ l.length ∧ l.length ≤ 3 := Al.formed_letters hf
  have hnt : Al.noTwice ls = true := Al.formed_noTwice hf
  have hbest : ∀ s', Al.best ls s' ls.length = Al.atR ls s' := Al.best_all hlet hnt
  simp only [true_and, and_true]
  refine bifP (fun hb => ?_) fun hs0 => ?_
  · have hb : s = [] := by simpa using hb
    subst hb; rfl
  have hs0 : s ≠ [] := by simpa using hs0
  have hrd : Al.readL ls s = Al.collect [] (Al.places ls (s.length + 1) 0 s) := by unfold Al.readL; rw [if_neg hs0]
  refine ⟨⟨([], 0), ⟨Nat.zero_le _, Nat.zero_le _, s.length + 1, by show s.length < _; omega, hrd⟩, rfl, rfl⟩, ?_⟩
  rintro ⟨out, i⟩ ⟨hi, ho, f, hfu, hr⟩
  have hi : i ≤ s.length := hi
  have ho : out.length ≤ 24 := ho
  have hfu : (s.drop i).length < f := hfu
  have hr : Al.readL ls s = Al.collect out (Al.places ls f i (s.drop i)) := hr
  show bif decide ((i : Int) < (s.length : Int)) then _ else _
  have hti : ((i : Int).toNat) = i := rfl
  refine bifP (fun hb => ?_) fun hb => ?_
  · have hil : i < s.length := by have := of_decide_eq_true hb; omega
    rw [List.length_drop] at hfu
    obtain ⟨g, rfl⟩ : ∃ g, f = g + 1 := ⟨f - 1, by omega⟩
    obtain ⟨c, r, hcr⟩ : ∃ c r, s.drop i = c :: r := by
      cases h : s.drop i with
      | nil => have := congrArg List.length h; rw [List.length_drop] at this; simp at this; omega
      | cons c r => exact ⟨c, r, rfl⟩
    show (FewP (nm, ls, sm) ∧ (0 : Int) ≤ (i : Int) ∧ (i : Int) ≤ (s.length : Int) ∧ s.length ≤ 1000000) ∧ _
    simp only [hti, hbest]
    have hat : Al.atR ls (s.drop i) = match Al.first ls (s.drop i) with | none => -1 | some (k, _) => k := rfl
    refine ⟨⟨hfew, by omega, by omega, hs⟩, ?_⟩
    cases hfi : Al.first ls (s.drop i) with
    | none =>
      rw [hfi] at hat
      rw [show Al.atR ls (s.drop i) = -1 from hat]
      show ([], (3 : Int), (i : Int)) = Al.readL ls s
      rw [hr, hcr]
      rw [hcr] at hfi
      unfold Al.places
      simp only [hfi]
      rfl
    | some km =>
      obtain ⟨k, m⟩ := km
      rw [hfi] at hat
      rw [show Al.atR ls (s.drop i) = (k : Int) from hat]
      obtain ⟨m1, m3, ml, mc, mk, _⟩ := Al.first_some hfi
      have hk : k < ls.length := by rw [mk]; exact Al.idx_lt mc
      have hg : ls.getD k [] = (s.drop i).take m := by rw [mk, List.getD_eq_getElem?_getD, Al.idx_get mc]; rfl
      have hlen : (ls.getD ((k : Int).toNat) []).length = m := by show (ls.getD k []).length = m; rw [hg, List.length_take]; omega
      rw [List.length_drop] at ml
      have hpl : Al.places ls (g + 1) i (s.drop i) = (i, (k : Int)) :: Al.places ls g (i + m) (s.drop (i + m)) := by
        rw [← List.drop_drop, hcr]
        rw [hcr] at hfi
        conv => lhs; unfold Al.places
        simp only [hfi]
      rw [hpl] at hr
      have hco : Al.collect out ((i, (k : Int)) :: Al.places ls g (i + m) (s.drop (i + m))) = if (k : Int) < 0 then ([], 3, (i : Int)) else if out.length = 24 then ([], 2, (i : Int)) else Al.collect (out ++ [(k : Int)]) (Al.places ls g (i + m) (s.drop (i + m))) := rfl
      rw [if_neg (by omega)] at hco
      rw [decide_eq_false (by omega : ¬ (k : Int) < 0)]
      show bif (out.length : Int) == 24 then ([], (2 : Int), (i : Int)) = Al.readL ls s else _
      refine bifP (fun h24 => ?_) fun h24 => ?_
      · have h24 : out.length = 24 := by have := beq_iff_eq.1 h24; omega
        rw [hr, hco, if_pos h24]
      have h24 : out.length ≠ 24 := by have := beq_eq_false_iff_ne.1 h24; omega
      rw [if_neg h24] at hco
      rw [hlen]
      refine ⟨by show (out.length + 1) * 8 ≤ _; omega, ⟨by omega, by omega⟩, ⟨by show _ ≤ (i : Int) + _; omega, by show (i : Int) + _ ≤ _; omega⟩, (out ++ [(k : Int)], i + m), ⟨by show i + m ≤ _; omega, by rw [List.length_append]; show out.length + 1 ≤ 24; omega, g, by rw [List.length_drop]; show s.length - (i + m) < g; omega, hr.trans hco⟩, by show s.length - (i + m) < s.length - i; omega, by show (i : Int) + m = ((i + m : Nat) : Int); omega, rfl⟩
  · have hpl : i = s.length := by have := of_decide_eq_false hb; omega
    subst hpl
    rw [hr, List.drop_length]
    cases f with
    | zero => rfl
    | succ f => rfl
set_option maxRecDepth 100000 in
theorem letters_holds : cLetters.Holds Tryd.prog := by
  refine holdsF (cons := [cAt]) Tryd.func28 (by kernel_rfl) (by kernel_rfl) mixed (by kernel_rfl) (fun c h => by obtain rfl := List.mem_singleton.1 h; exact at_holds) (fun p => anLetters p.1.2.1 p.2) fun p hp => ?_
  obtain ⟨⟨nm, ls, sm⟩, s⟩ := p
  refine cast ?_ (letters_vc nm ls sm s hp)
  kernel_rfl
end Go.Proofs.YtafbgfdidmepaaaDoor

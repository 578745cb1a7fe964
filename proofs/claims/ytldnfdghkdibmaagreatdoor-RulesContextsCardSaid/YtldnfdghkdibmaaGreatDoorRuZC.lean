/-
  Layer 11: RulesTexts.
-/
import Derived.Test.YtldnfdghkdibmaaGreatDoorRuZA
set_option linter.unusedVariables false
namespace Go.Proofs.YtldnfdghkdibmaaGreatDoor
open Go.RowKit
open R
def cTextsL : Con := .of 9 [ckRules, ckRules, ckAl, ckAl, ckStr] [.one .bool] (fun p => BigR p.1 ∧ BigR p.2.1 ∧ BigA p.2.2.1 ∧ BigA p.2.2.2.1 ∧ CK.Big ckStr p.2.2.2.2) (fun _ => true)
def consTexts : List Con := [cHead11, cFewA11, cFewR, cTextR, cParse, cSame, cValidP]
theorem few_of_fewRB {r : Rul.Rules} (h : fewRB r = true) : FewR r := by
  unfold fewRB at h
  simp only [Bool.and_eq_true, decide_eq_true_eq, List.all_eq_true] at h
  obtain ⟨h1, h2, h3, h4⟩ := h
  refine ⟨by omega, by omega, by omega, fun x hx => ?_⟩
  have := h2 x hx
  unfold small60 at this
  simp only [Bool.and_eq_true, decide_eq_true_eq] at this
  exact ⟨by omega, by omega, by omega⟩
theorem few_of_fewAB {p : AlP} (h : fewAB p = true) : FewP p := by
  unfold fewAB at h
  simp only [Bool.and_eq_true, decide_eq_true_eq, List.all_eq_true] at h
  exact ⟨h.1, h.2.1, h.2.2.1, h.2.2.2⟩
theorem few_formed {r : Rul.Rules} (h : Rul.formedB r = true) : FewR r := by
  obtain ⟨h1, h2, h3, h4, h5, _⟩ := Rul.formed_out h
  have := Rul.nameB_len h1
  have := Rul.nameB_len h2
  refine ⟨by omega, by omega, by omega, fun x hx => ?_⟩
  obtain ⟨q1, q2, q3, _⟩ := Rul.okRule_out (List.all_eq_true.1 h5 x hx)
  have := (Rul.plain_text q1).2.2
  have := (Rul.plain_text q2).2.2
  have := (Rul.plain_text q3).2.2
  exact ⟨by omega, by omega, by omega⟩
theorem valid_formed {r : Rul.Rules} {f t : Al.Alph} (h : Rul.validB r f t = true) : Rul.formedB r = true := by
  unfold Rul.validB at h
  rw [Bool.and_eq_true] at h
  exact h.1
theorem rules_beq {a b : Rul.Rules} : (a.1 == b.1 && (a.2.1 == b.2.1 && a.2.2 == b.2.2)) = true ↔ a = b := by
  constructor
  · intro hh
    simp only [Bool.and_eq_true, beq_iff_eq] at hh
    exact Prod.ext hh.1 (Prod.ext hh.2.1 hh.2.2)
  · rintro rfl; simp
end Go.Proofs.YtldnfdghkdibmaaGreatDoor

/-
  Layer 11: RulesTexts.
-/
import Derived.Test.YtldnfdghkdibmaaGreatDoorRuZC
set_option linter.unusedVariables false
namespace Go.Proofs.YtldnfdghkdibmaaGreatDoor
open Go.RowKit
open R
/-SUB decide ([].length ==> decide (([] : List UInt8).length -/
set_option maxRecDepth 100000 in
theorem textsl_vc (a b : Rul.Rules) (f t : AlP) (s : List UInt8) (h : cTextsL.pre (a, b, f, t, s)) :
    /-VC fun (a b : Rul.Rules) (f t : AlP) (s : List UInt8) => vcOf Tryz.prog consTexts [] cTextsL Tryz.f9 (a, b, f, t, s) -/
    True ∧ (BigR (a.fst, a.snd.fst, a.snd.snd) ∧ BigA (f.fst, f.snd.fst, f.snd.snd) ∧ BigA (t.fst, t.snd.fst, t.snd.snd)) ∧ bif !(fewRB (a.fst, a.snd.fst, a.snd.snd) && (fewAB (f.fst, f.snd.fst,
    f.snd.snd) && (fewAB (t.fst, t.snd.fst, t.snd.snd) && decide (([] : List UInt8).length ≤ (100 : Nat))))) then true = true else BigR (b.fst, b.snd.fst, b.snd.snd) ∧ bif !fewRB (b.fst,
    b.snd.fst, b.snd.snd) then true = true else bif decide ((3000 : Int) < (↑s.length : Int)) then true = true else FewR (a.fst, a.snd.fst, a.snd.snd) ∧ FewR (b.fst, b.snd.fst, b.snd.snd) ∧ bif
    (Rul.textB (a.fst, a.snd.fst, a.snd.snd)).snd != (0 : Int) then bif (Rul.textB (a.fst, a.snd.fst, a.snd.snd)).snd != (1 : Int) then false = true else bif !(Rul.textB (a.fst, a.snd.fst,
    a.snd.snd)).fst == [] then false = true else (FewR (a.fst, a.snd.fst, a.snd.snd) ∧ FewP (f.fst, f.snd.fst, f.snd.snd) ∧ FewP (t.fst, t.snd.fst, t.snd.snd)) ∧ bif Rul.validB (a.fst,
    a.snd.fst, a.snd.snd) (alOf (f.fst, f.snd.fst, f.snd.snd)) (alOf (t.fst, t.snd.fst, t.snd.snd)) then false = true else bif (Rul.textB (a.fst, a.snd.fst, a.snd.snd)).snd == (0 : Int) then
    (Rul.textB (a.fst, a.snd.fst, a.snd.snd)).fst.length ≤ (1000000 : Nat) ∧ bif (Rul.parseB (Rul.textB (a.fst, a.snd.fst, a.snd.snd)).fst).snd.fst != (0 : Int) then false = true else bif
    (Rul.parseB (Rul.textB (a.fst, a.snd.fst, a.snd.snd)).fst).snd.snd != (0 : Int) then false = true else ((Rul.parseB (Rul.textB (a.fst, a.snd.fst, a.snd.snd)).fst).fst.snd.snd.length ≤
    (1000000000 : Nat) ∧ a.snd.snd.length ≤ (1000000000 : Nat)) ∧ bif !((Rul.parseB (Rul.textB (a.fst, a.snd.fst, a.snd.snd)).fst).fst.fst == a.fst && ((Rul.parseB (Rul.textB (a.fst, a.snd.fst,
    a.snd.snd)).fst).fst.snd.fst == a.snd.fst && (Rul.parseB (Rul.textB (a.fst, a.snd.fst, a.snd.snd)).fst).fst.snd.snd == a.snd.snd)) then false = true else bif (Rul.textB (b.fst, b.snd.fst,
    b.snd.snd)).snd == (0 : Int) then (a.snd.snd.length ≤ (1000000000 : Nat) ∧ b.snd.snd.length ≤ (1000000000 : Nat)) ∧ bif !((Rul.textB (a.fst, a.snd.fst, a.snd.snd)).fst == (Rul.textB (b.fst,
    b.snd.fst, b.snd.snd)).fst) == (a.fst == b.fst && (a.snd.fst == b.snd.fst && a.snd.snd == b.snd.snd)) then false = true else s.length ≤ (1000000 : Nat) ∧ bif (Rul.parseB s).snd.fst != (0 :
    Int) then bif (↑(Rul.parseB s).fst.snd.snd.length : Int) == (0 : Int) then bif (Rul.parseB s).fst.fst == [] then bif (Rul.parseB s).fst.snd.fst == [] then decide ((Rul.parseB s).snd.snd ≤
    (↑s.length : Int)) = true else false = true else false = true else false = true else FewR ((Rul.parseB s).fst.fst, (Rul.parseB s).fst.snd.fst, (Rul.parseB s).fst.snd.snd) ∧ (Rul.textB
    ((Rul.parseB s).fst.fst, (Rul.parseB s).fst.snd.fst, (Rul.parseB s).fst.snd.snd)).fst.length ≤ (1000000 : Nat) ∧ bif (Rul.parseB s).snd.snd == (0 : Int) then bif (Rul.textB ((Rul.parseB
    s).fst.fst, (Rul.parseB s).fst.snd.fst, (Rul.parseB s).fst.snd.snd)).snd == (0 : Int) then bif (Rul.parseB (Rul.textB ((Rul.parseB s).fst.fst, (Rul.parseB s).fst.snd.fst, (Rul.parseB
    s).fst.snd.snd)).fst).snd.fst == (0 : Int) then ((Rul.parseB s).fst.snd.snd.length ≤ (1000000000 : Nat) ∧ (Rul.parseB (Rul.textB ((Rul.parseB s).fst.fst, (Rul.parseB s).fst.snd.fst,
    (Rul.parseB s).fst.snd.snd)).fst).fst.snd.snd.length ≤ (1000000000 : Nat)) ∧ ((Rul.parseB s).fst.fst == (Rul.parseB (Rul.textB ((Rul.parseB s).fst.fst, (Rul.parseB s).fst.snd.fst,
    (Rul.parseB s).fst.snd.snd)).fst).fst.fst && ((Rul.parseB s).fst.snd.fst == (Rul.parseB (Rul.textB ((Rul.parseB s).fst.fst, (Rul.parseB s).fst.snd.fst, (Rul.parseB
    s).fst.snd.snd)).fst).fst.snd.fst && (Rul.parseB s).fst.snd.snd == (Rul.parseB (Rul.textB ((Rul.parseB s).fst.fst, (Rul.parseB s).fst.snd.fst, (Rul.parseB s).fst.snd.snd)).fst).fst.snd.snd))
    = true else false = true else false = true else false = true else s.length ≤ (1000000 : Nat) ∧ bif (Rul.parseB s).snd.fst != (0 : Int) then bif (↑(Rul.parseB s).fst.snd.snd.length : Int) ==
    (0 : Int) then bif (Rul.parseB s).fst.fst == [] then bif (Rul.parseB s).fst.snd.fst == [] then decide ((Rul.parseB s).snd.snd ≤ (↑s.length : Int)) = true else false = true else false = true
    else false = true else FewR ((Rul.parseB s).fst.fst, (Rul.parseB s).fst.snd.fst, (Rul.parseB s).fst.snd.snd) ∧ (Rul.textB ((Rul.parseB s).fst.fst, (Rul.parseB s).fst.snd.fst, (Rul.parseB
    s).fst.snd.snd)).fst.length ≤ (1000000 : Nat) ∧ bif (Rul.parseB s).snd.snd == (0 : Int) then bif (Rul.textB ((Rul.parseB s).fst.fst, (Rul.parseB s).fst.snd.fst, (Rul.parseB
    s).fst.snd.snd)).snd == (0 : Int) then bif (Rul.parseB (Rul.textB ((Rul.parseB s).fst.fst, (Rul.parseB s).fst.snd.fst, (Rul.parseB s).fst.snd.snd)).fst).snd.fst == (0 : Int) then
    ((Rul.parseB s).fst.snd.snd.length ≤ (1000000000 : Nat) ∧ (Rul.parseB (Rul.textB ((Rul.parseB s).fst.fst, (Rul.parseB s).fst.snd.fst, (Rul.parseB s).fst.snd.snd)).fst).fst.snd.snd.length ≤
    (1000000000 : Nat)) ∧ ((Rul.parseB s).fst.fst == (Rul.parseB (Rul.textB ((Rul.parseB s).fst.fst, (Rul.parseB s).fst.snd.fst, (Rul.parseB s).fst.snd.snd)).fst).fst.fst && ((Rul.parseB
    s).fst.snd.fst == (Rul.parseB (Rul.textB ((Rul.parseB s).fst.fst, (Rul.parseB s).fst.snd.fst, (Rul.parseB s).fst.snd.snd)).fst).fst.snd.fst && (Rul.parseB s).fst.snd.snd == (Rul.parseB
    (Rul.textB ((Rul.parseB s).fst.fst, (Rul.parseB s).fst.snd.fst, (Rul.parseB s).fst.snd.snd)).fst).fst.snd.snd)) = true else false = true else false = true else false = true else s.length ≤
    (1000000 : Nat) ∧ bif (Rul.parseB s).snd.fst != (0 : Int) then bif (↑(Rul.parseB s).fst.snd.snd.length : Int) == (0 : Int) then bif (Rul.parseB s).fst.fst == [] then bif (Rul.parseB
    s).fst.snd.fst == [] then decide ((Rul.parseB s).snd.snd ≤ (↑s.length : Int)) = true else false = true else false = true else false = true else FewR ((Rul.parseB s).fst.fst, (Rul.parseB
    s).fst.snd.fst, (Rul.parseB s).fst.snd.snd) ∧ (Rul.textB ((Rul.parseB s).fst.fst, (Rul.parseB s).fst.snd.fst, (Rul.parseB s).fst.snd.snd)).fst.length ≤ (1000000 : Nat) ∧ bif (Rul.parseB
    s).snd.snd == (0 : Int) then bif (Rul.textB ((Rul.parseB s).fst.fst, (Rul.parseB s).fst.snd.fst, (Rul.parseB s).fst.snd.snd)).snd == (0 : Int) then bif (Rul.parseB (Rul.textB ((Rul.parseB
    s).fst.fst, (Rul.parseB s).fst.snd.fst, (Rul.parseB s).fst.snd.snd)).fst).snd.fst == (0 : Int) then ((Rul.parseB s).fst.snd.snd.length ≤ (1000000000 : Nat) ∧ (Rul.parseB (Rul.textB
    ((Rul.parseB s).fst.fst, (Rul.parseB s).fst.snd.fst, (Rul.parseB s).fst.snd.snd)).fst).fst.snd.snd.length ≤ (1000000000 : Nat)) ∧ ((Rul.parseB s).fst.fst == (Rul.parseB (Rul.textB
    ((Rul.parseB s).fst.fst, (Rul.parseB s).fst.snd.fst, (Rul.parseB s).fst.snd.snd)).fst).fst.fst && ((Rul.parseB s).fst.snd.fst == (Rul.parseB (Rul.textB ((Rul.parseB s).fst.fst, (Rul.parseB
    s).fst.snd.fst, (Rul.parseB s).fst.snd.snd)).fst).fst.snd.fst && (Rul.parseB s).fst.snd.snd == (Rul.parseB (Rul.textB ((Rul.parseB s).fst.fst, (Rul.parseB s).fst.snd.fst, (Rul.parseB
    s).fst.snd.snd)).fst).fst.snd.snd)) = true else false = true else false = true else false = true else bif (Rul.textB (a.fst, a.snd.fst, a.snd.snd)).snd == (0 : Int) then (Rul.textB (a.fst,
    a.snd.fst, a.snd.snd)).fst.length ≤ (1000000 : Nat) ∧ bif (Rul.parseB (Rul.textB (a.fst, a.snd.fst, a.snd.snd)).fst).snd.fst != (0 : Int) then false = true else bif (Rul.parseB (Rul.textB
    (a.fst, a.snd.fst, a.snd.snd)).fst).snd.snd != (0 : Int) then false = true else ((Rul.parseB (Rul.textB (a.fst, a.snd.fst, a.snd.snd)).fst).fst.snd.snd.length ≤ (1000000000 : Nat) ∧
    a.snd.snd.length ≤ (1000000000 : Nat)) ∧ bif !((Rul.parseB (Rul.textB (a.fst, a.snd.fst, a.snd.snd)).fst).fst.fst == a.fst && ((Rul.parseB (Rul.textB (a.fst, a.snd.fst,
    a.snd.snd)).fst).fst.snd.fst == a.snd.fst && (Rul.parseB (Rul.textB (a.fst, a.snd.fst, a.snd.snd)).fst).fst.snd.snd == a.snd.snd)) then false = true else bif (Rul.textB (b.fst, b.snd.fst,
    b.snd.snd)).snd == (0 : Int) then (a.snd.snd.length ≤ (1000000000 : Nat) ∧ b.snd.snd.length ≤ (1000000000 : Nat)) ∧ bif !((Rul.textB (a.fst, a.snd.fst, a.snd.snd)).fst == (Rul.textB (b.fst,
    b.snd.fst, b.snd.snd)).fst) == (a.fst == b.fst && (a.snd.fst == b.snd.fst && a.snd.snd == b.snd.snd)) then false = true else s.length ≤ (1000000 : Nat) ∧ bif (Rul.parseB s).snd.fst != (0 :
    Int) then bif (↑(Rul.parseB s).fst.snd.snd.length : Int) == (0 : Int) then bif (Rul.parseB s).fst.fst == [] then bif (Rul.parseB s).fst.snd.fst == [] then decide ((Rul.parseB s).snd.snd ≤
    (↑s.length : Int)) = true else false = true else false = true else false = true else FewR ((Rul.parseB s).fst.fst, (Rul.parseB s).fst.snd.fst, (Rul.parseB s).fst.snd.snd) ∧ (Rul.textB
    ((Rul.parseB s).fst.fst, (Rul.parseB s).fst.snd.fst, (Rul.parseB s).fst.snd.snd)).fst.length ≤ (1000000 : Nat) ∧ bif (Rul.parseB s).snd.snd == (0 : Int) then bif (Rul.textB ((Rul.parseB
    s).fst.fst, (Rul.parseB s).fst.snd.fst, (Rul.parseB s).fst.snd.snd)).snd == (0 : Int) then bif (Rul.parseB (Rul.textB ((Rul.parseB s).fst.fst, (Rul.parseB s).fst.snd.fst, (Rul.parseB
    s).fst.snd.snd)).fst).snd.fst == (0 : Int) then ((Rul.parseB s).fst.snd.snd.length ≤ (1000000000 : Nat) ∧ (Rul.parseB (Rul.textB ((Rul.parseB s).fst.fst, (Rul.parseB s).fst.snd.fst,
    (Rul.parseB s).fst.snd.snd)).fst).fst.snd.snd.length ≤ (1000000000 : Nat)) ∧ ((Rul.parseB s).fst.fst == (Rul.parseB (Rul.textB ((Rul.parseB s).fst.fst, (Rul.parseB s).fst.snd.fst,
    (Rul.parseB s).fst.snd.snd)).fst).fst.fst && ((Rul.parseB s).fst.snd.fst == (Rul.parseB (Rul.textB ((Rul.parseB s).fst.fst, (Rul.parseB s).fst.snd.fst, (Rul.parseB
    s).fst.snd.snd)).fst).fst.snd.fst && (Rul.parseB s).fst.snd.snd == (Rul.parseB (Rul.textB ((Rul.parseB s).fst.fst, (Rul.parseB s).fst.snd.fst, (Rul.parseB s).fst.snd.snd)).fst).fst.snd.snd))
    = true else false = true else false = true else false = true else s.length ≤ (1000000 : Nat) ∧ bif (Rul.parseB s).snd.fst != (0 : Int) then bif (↑(Rul.parseB s).fst.snd.snd.length : Int) ==
    (0 : Int) then bif (Rul.parseB s).fst.fst == [] then bif (Rul.parseB s).fst.snd.fst == [] then decide ((Rul.parseB s).snd.snd ≤ (↑s.length : Int)) = true else false = true else false = true
    else false = true else FewR ((Rul.parseB s).fst.fst, (Rul.parseB s).fst.snd.fst, (Rul.parseB s).fst.snd.snd) ∧ (Rul.textB ((Rul.parseB s).fst.fst, (Rul.parseB s).fst.snd.fst, (Rul.parseB
    s).fst.snd.snd)).fst.length ≤ (1000000 : Nat) ∧ bif (Rul.parseB s).snd.snd == (0 : Int) then bif (Rul.textB ((Rul.parseB s).fst.fst, (Rul.parseB s).fst.snd.fst, (Rul.parseB
    s).fst.snd.snd)).snd == (0 : Int) then bif (Rul.parseB (Rul.textB ((Rul.parseB s).fst.fst, (Rul.parseB s).fst.snd.fst, (Rul.parseB s).fst.snd.snd)).fst).snd.fst == (0 : Int) then
    ((Rul.parseB s).fst.snd.snd.length ≤ (1000000000 : Nat) ∧ (Rul.parseB (Rul.textB ((Rul.parseB s).fst.fst, (Rul.parseB s).fst.snd.fst, (Rul.parseB s).fst.snd.snd)).fst).fst.snd.snd.length ≤
    (1000000000 : Nat)) ∧ ((Rul.parseB s).fst.fst == (Rul.parseB (Rul.textB ((Rul.parseB s).fst.fst, (Rul.parseB s).fst.snd.fst, (Rul.parseB s).fst.snd.snd)).fst).fst.fst && ((Rul.parseB
    s).fst.snd.fst == (Rul.parseB (Rul.textB ((Rul.parseB s).fst.fst, (Rul.parseB s).fst.snd.fst, (Rul.parseB s).fst.snd.snd)).fst).fst.snd.fst && (Rul.parseB s).fst.snd.snd == (Rul.parseB
    (Rul.textB ((Rul.parseB s).fst.fst, (Rul.parseB s).fst.snd.fst, (Rul.parseB s).fst.snd.snd)).fst).fst.snd.snd)) = true else false = true else false = true else false = true else s.length ≤
    (1000000 : Nat) ∧ bif (Rul.parseB s).snd.fst != (0 : Int) then bif (↑(Rul.parseB s).fst.snd.snd.length : Int) == (0 : Int) then bif (Rul.parseB s).fst.fst == [] then bif (Rul.parseB
    s).fst.snd.fst == [] then decide ((Rul.parseB s).snd.snd ≤ (↑s.length : Int)) = true else false = true else false = true else false = true else FewR ((Rul.parseB s).fst.fst, (Rul.parseB
    s).fst.snd.fst, (Rul.parseB s).fst.snd.snd) ∧ (Rul.textB ((Rul.parseB s).fst.fst, (Rul.parseB s).fst.snd.fst, (Rul.parseB s).fst.snd.snd)).fst.length ≤ (1000000 : Nat) ∧ bif (Rul.parseB
    s).snd.snd == (0 : Int) then bif (Rul.textB ((Rul.parseB s).fst.fst, (Rul.parseB s).fst.snd.fst, (Rul.parseB s).fst.snd.snd)).snd == (0 : Int) then bif (Rul.parseB (Rul.textB ((Rul.parseB
    s).fst.fst, (Rul.parseB s).fst.snd.fst, (Rul.parseB s).fst.snd.snd)).fst).snd.fst == (0 : Int) then ((Rul.parseB s).fst.snd.snd.length ≤ (1000000000 : Nat) ∧ (Rul.parseB (Rul.textB
    ((Rul.parseB s).fst.fst, (Rul.parseB s).fst.snd.fst, (Rul.parseB s).fst.snd.snd)).fst).fst.snd.snd.length ≤ (1000000000 : Nat)) ∧ ((Rul.parseB s).fst.fst == (Rul.parseB (Rul.textB
    ((Rul.parseB s).fst.fst, (Rul.parseB s).fst.snd.fst, (Rul.parseB s).fst.snd.snd)).fst).fst.fst && ((Rul.parseB s).fst.snd.fst == (Rul.parseB (Rul.textB ((Rul.parseB s).fst.fst, (Rul.parseB
    s).fst.snd.fst, (Rul.parseB s).fst.snd.snd)).fst).fst.snd.fst && (Rul.parseB s).fst.snd.snd == (Rul.parseB (Rul.textB ((Rul.parseB s).fst.fst, (Rul.parseB s).fst.snd.fst, (Rul.parseB
    s).fst.snd.snd)).fst).fst.snd.snd)) = true else false = true else false = true else false = true
    /-CV-/ := by
  simp only [true_and, and_true]
  obtain ⟨g1, g2, g3, g4, g5⟩ := h
  refine ⟨⟨g1, g3, g4⟩, bifP (fun _ => trivial) fun h1 => ⟨g2, bifP (fun _ => trivial) fun h2 => bifP (fun _ => trivial) fun h3 => ?_⟩⟩
  have h1 : (fewRB a && (fewAB f && (fewAB t && decide (([] : List UInt8).length ≤ 100)))) = true := by
    have h1 : (!(fewRB a && (fewAB f && (fewAB t && decide (([] : List UInt8).length ≤ 100))))) = false := h1
    simpa using h1
  simp only [Bool.and_eq_true] at h1
  have hb : fewRB b = true := by
    have h2 : (!fewRB b) = false := h2
    simpa using h2
  have hs : s.length ≤ 3000 := by have := of_decide_eq_false h3; omega
  have fa := few_of_fewRB h1.1
  have fb := few_of_fewRB hb
  have ff := few_of_fewAB h1.2.1
  have ft := few_of_fewAB h1.2.2.1
  have hpo := Rul.parse_out (s := s) (by omega)
  have hla : a.2.2.length ≤ 1000 := fa.2.2.1
  have hlb : b.2.2.length ≤ 1000 := fb.2.2.1
  have hpf := parse_few (s := s) (by omega)
  have tail1 : (Rul.parseB s).2.1 ≠ 0 → (Rul.parseB s).1 = ([], [], []) ∧ (Rul.parseB s).2.2 ≤ s.length := fun h => by
    rcases hpo with ⟨q, _⟩ | ⟨_, q⟩
    · exact absurd q h
    · exact q
  have tail2 : (Rul.parseB s).2.1 = 0 → (Rul.parseB s).2.2 = 0 ∧ Rul.formedB (Rul.parseB s).1 = true := fun h => by
    rcases hpo with ⟨_, q⟩ | ⟨q, _⟩
    · exact q
    · exact absurd h q
  have ta : Rul.textB (a.1, a.2.1, a.2.2) = if Rul.formedB a then (Rul.textL a, 0) else ([], 1) := rfl
  have tb : Rul.textB (b.1, b.2.1, b.2.2) = if Rul.formedB b then (Rul.textL b, 0) else ([], 1) := rfl
  refine ⟨fa, fb, ?_⟩
  cases hfa : Rul.formedB a
  · rw [hfa, if_neg Bool.noConfusion] at ta
    rw [ta]
    have hva : Rul.validB (a.1, a.2.1, a.2.2) (alOf (f.1, f.2.1, f.2.2)) (alOf (t.1, t.2.1, t.2.2)) = false := by
      cases hh : Rul.validB (a.1, a.2.1, a.2.2) (alOf (f.1, f.2.1, f.2.2)) (alOf (t.1, t.2.1, t.2.2))
      · rfl
      · have hh : Rul.formedB a = true := valid_formed hh
        rw [hfa] at hh; cases hh
    rw [hva]
    refine ⟨⟨fa, ff, ft⟩, ?_⟩
    refine ⟨by omega, bifP (fun e1 => ?_) fun e1 => ?_⟩
    · have e1 : (Rul.parseB s).2.1 ≠ 0 := bne_iff_ne.1 e1
      obtain ⟨q1, q2⟩ := tail1 e1
      rw [q1]
      exact decide_eq_true q2
    · have e1 : (Rul.parseB s).2.1 = 0 := bne_eq_false_iff_eq.1 e1
      obtain ⟨q1, q2⟩ := tail2 e1
      have tq : Rul.textB ((Rul.parseB s).1.1, (Rul.parseB s).1.2.1, (Rul.parseB s).1.2.2) = (Rul.textL (Rul.parseB s).1, 0) := by
        show Rul.textB (Rul.parseB s).1 = _; unfold Rul.textB; rw [if_pos q2]
      have hl := Rul.textL_len q2
      have hpt := Rul.parse_text q2
      rw [tq]
      dsimp only
      rw [hpt, q1]
      exact ⟨few_formed q2, by omega, ⟨by omega, by show (Rul.parseB s).1.2.2.length ≤ _; omega⟩, rules_beq.2 rfl⟩
  · rw [hfa, if_pos rfl] at ta
    rw [ta]
    have hpa := Rul.parse_text hfa
    have hla2 := Rul.textL_len hfa
    dsimp only
    rw [hpa]
    refine ⟨by omega, ⟨by show a.2.2.length ≤ _; omega, by omega⟩, ?_⟩
    have hself : (!(a.1 == a.1 && (a.2.1 == a.2.1 && a.2.2 == a.2.2))) = false := by simp
    show bif (!(a.1 == a.1 && (a.2.1 == a.2.1 && a.2.2 == a.2.2))) then _ else _
    rw [hself]
    cases hfb : Rul.formedB b
    · rw [hfb, if_neg Bool.noConfusion] at tb
      rw [tb]
      refine ⟨by omega, bifP (fun e1 => ?_) fun e1 => ?_⟩
      · have e1 : (Rul.parseB s).2.1 ≠ 0 := bne_iff_ne.1 e1
        obtain ⟨q1, q2⟩ := tail1 e1
        rw [q1]
        exact decide_eq_true q2
      · have e1 : (Rul.parseB s).2.1 = 0 := bne_eq_false_iff_eq.1 e1
        obtain ⟨q1, q2⟩ := tail2 e1
        have tq : Rul.textB ((Rul.parseB s).1.1, (Rul.parseB s).1.2.1, (Rul.parseB s).1.2.2) = (Rul.textL (Rul.parseB s).1, 0) := by
          show Rul.textB (Rul.parseB s).1 = _; unfold Rul.textB; rw [if_pos q2]
        have hl := Rul.textL_len q2
        have hpt := Rul.parse_text q2
        rw [tq]
        dsimp only
        rw [hpt, q1]
        exact ⟨few_formed q2, by omega, ⟨by omega, by show (Rul.parseB s).1.2.2.length ≤ _; omega⟩, rules_beq.2 rfl⟩
    · rw [hfb, if_pos rfl] at tb
      rw [tb]
      dsimp only
      have hsame : (!((Rul.textL a == Rul.textL b) == (a.1 == b.1 && (a.2.1 == b.2.1 && a.2.2 == b.2.2)))) = false := by
        have : (Rul.textL a == Rul.textL b) = (a.1 == b.1 && (a.2.1 == b.2.1 && a.2.2 == b.2.2)) := by
          rw [Bool.eq_iff_iff, beq_iff_eq, rules_beq]
          exact ⟨fun h => Rul.text_inj hfa hfb h, fun h => by rw [h]⟩
        rw [this]; simp
      refine ⟨⟨by omega, by omega⟩, ?_⟩
      show bif (!((Rul.textL a == Rul.textL b) == (a.1 == b.1 && (a.2.1 == b.2.1 && a.2.2 == b.2.2)))) then _ else _
      rw [hsame]
      refine ⟨by omega, bifP (fun e1 => ?_) fun e1 => ?_⟩
      · have e1 : (Rul.parseB s).2.1 ≠ 0 := bne_iff_ne.1 e1
        obtain ⟨q1, q2⟩ := tail1 e1
        rw [q1]
        exact decide_eq_true q2
      · have e1 : (Rul.parseB s).2.1 = 0 := bne_eq_false_iff_eq.1 e1
        obtain ⟨q1, q2⟩ := tail2 e1
        have tq : Rul.textB ((Rul.parseB s).1.1, (Rul.parseB s).1.2.1, (Rul.parseB s).1.2.2) = (Rul.textL (Rul.parseB s).1, 0) := by
          show Rul.textB (Rul.parseB s).1 = _; unfold Rul.textB; rw [if_pos q2]
        have hl := Rul.textL_len q2
        have hpt := Rul.parse_text q2
        rw [tq]
        dsimp only
        rw [hpt, q1]
        exact ⟨few_formed q2, by omega, ⟨by omega, by show (Rul.parseB s).1.2.2.length ≤ _; omega⟩, rules_beq.2 rfl⟩
set_option maxRecDepth 100000 in
theorem textsl_holds : cTextsL.Holds Tryz.prog := by
  refine holdsF (cons := consTexts) Tryz.func9 (by kernel_rfl) (by kernel_rfl) mixed (by kernel_rfl) (fun c h => by
    rcases List.mem_cons.1 h with rfl | h
    · exact head11_holds
    rcases List.mem_cons.1 h with rfl | h
    · exact fewa11_holds
    rcases List.mem_cons.1 h with rfl | h
    · exact fewr_holds
    rcases List.mem_cons.1 h with rfl | h
    · exact textr_holds
    rcases List.mem_cons.1 h with rfl | h
    · exact parse_holds
    rcases List.mem_cons.1 h with rfl | h
    · exact same_holds
    · obtain rfl := List.mem_singleton.1 h; exact validr_holds) (fun _ => []) fun p hp => ?_
  obtain ⟨a, b, f, t, s⟩ := p
  refine cast ?_ (textsl_vc a b f t s hp)
  kernel_rfl
end Go.Proofs.YtldnfdghkdibmaaGreatDoor

/-
  Layer 11: the statements' small functions.
-/
import Derived.Test.YtldnfdghkdibmaaGreatDoorRuX
set_option linter.unusedVariables false
namespace Go.Proofs.YtldnfdghkdibmaaGreatDoor
open Go.RowKit
open R
set_option maxRecDepth 100000 in
theorem texts_vc (a b : List (List UInt8)) (h : cTexts.pre (a, b)) :
    /-VC fun (a b : List (List UInt8)) => vcOf Tryz.prog [] (anTexts a b) cTexts Tryz.f15 (a, b) -/
    bif (↑a.length : Int) != (↑b.length : Int) then false = (a == b) else (∃ (p' : Nat), (p' ≤ a.length ∧ List.take p' a = List.take p' b) ∧ ((0 : Int) = (↑p' : Int) ∧ a = a ∧ b = b ∧ True) ∧
    True ∧ True ∧ True ∧ True ∧ True ∧ True ∧ True) ∧ ∀ (p : Nat), p ≤ a.length ∧ List.take p a = List.take p b → bif decide ((↑p : Int) < (↑a.length : Int)) then ((0 : Int) ≤ (↑p : Int) ∧ (↑p :
    Int) < (↑a.length : Int)) ∧ ((0 : Int) ≤ (↑p : Int) ∧ (↑p : Int) < (↑b.length : Int)) ∧ bif !a.getD (↑p : Int).toNat [] == b.getD (↑p : Int).toNat [] then false = (a == b) else
    ((-9223372036854775808 : Int) ≤ (↑p : Int) + (1 : Int) ∧ (↑p : Int) + (1 : Int) ≤ (9223372036854775807 : Int)) ∧ ∃ (p' : Nat), (p' ≤ a.length ∧ List.take p' a = List.take p' b) ∧ a.length -
    p' < a.length - p ∧ ((↑p : Int) + (1 : Int) = (↑p' : Int) ∧ a = a ∧ b = b ∧ True) ∧ True ∧ True ∧ True ∧ True ∧ True ∧ True ∧ True else true = (a == b)
    /-CV-/ := by
  simp only [true_and, and_true]
  exact same_loop [] a b (Nat.le_trans h.1 (by omega)) _ (fun e => e.symm) _ (fun e => e.symm)
set_option maxRecDepth 100000 in
theorem same_vc (a1 a2 b1 b2 : List UInt8) (a b : List Rul.Rule) (h : cSame.pre ((a1, a2, a), b1, b2, b)) :
    /-VC fun (a1 a2 b1 b2 : List UInt8) (a b : List Rul.Rule) => vcOf Tryz.prog [] (anSame a b) cSame Tryz.f19 ((a1, a2, a), b1, b2, b) -/
    bif !a1 == b1 then false = (a1 == b1 && (a2 == b2 && a == b)) else bif !a2 == b2 then false = (a1 == b1 && (a2 == b2 && a == b)) else bif (↑a.length : Int) != (↑b.length : Int) then false =
    (a1 == b1 && (a2 == b2 && a == b)) else (∃ (p' : Nat), (p' ≤ a.length ∧ List.take p' a = List.take p' b) ∧ ((0 : Int) = (↑p' : Int) ∧ True ∧ True ∧ True) ∧ ((b1 = b1 ∧ b2 = b2 ∧ b = b ∧
    True) ∧ (a1 = a1 ∧ a2 = a2 ∧ a = a ∧ True) ∧ True) ∧ True ∧ True ∧ True ∧ True ∧ True ∧ True) ∧ ∀ (p : Nat), p ≤ a.length ∧ List.take p a = List.take p b → bif decide ((↑p : Int) <
    (↑a.length : Int)) then ((0 : Int) ≤ (↑p : Int) ∧ (↑p : Int) < (↑a.length : Int)) ∧ ((0 : Int) ≤ (↑p : Int) ∧ (↑p : Int) < (↑b.length : Int)) ∧ bif !((a.getD (↑p : Int).toNat ([], [], [],
    false)).fst == (b.getD (↑p : Int).toNat ([], [], [], false)).fst && ((a.getD (↑p : Int).toNat ([], [], [], false)).snd.fst == (b.getD (↑p : Int).toNat ([], [], [], false)).snd.fst &&
    ((a.getD (↑p : Int).toNat ([], [], [], false)).snd.snd.fst == (b.getD (↑p : Int).toNat ([], [], [], false)).snd.snd.fst && ((a.getD (↑p : Int).toNat ([], [], [], false)).snd.snd.snd ==
    (b.getD (↑p : Int).toNat ([], [], [], false)).snd.snd.snd && true)))) then false = (a1 == b1 && (a2 == b2 && a == b)) else ((-9223372036854775808 : Int) ≤ (↑p : Int) + (1 : Int) ∧ (↑p : Int)
    + (1 : Int) ≤ (9223372036854775807 : Int)) ∧ ∃ (p' : Nat), (p' ≤ a.length ∧ List.take p' a = List.take p' b) ∧ a.length - p' < a.length - p ∧ ((↑p : Int) + (1 : Int) = (↑p' : Int) ∧ True ∧
    True ∧ True) ∧ ((b1 = b1 ∧ b2 = b2 ∧ b = b ∧ True) ∧ (a1 = a1 ∧ a2 = a2 ∧ a = a ∧ True) ∧ True) ∧ True ∧ True ∧ True ∧ True ∧ True ∧ True else true = (a1 == b1 && (a2 == b2 && a == b))
    /-CV-/ := by
  simp only [true_and, and_true]
  refine bifP (fun h1 => ?_) fun h1 => bifP (fun h2 => ?_) fun h2 => ?_
  · rw [show (a1 == b1) = false by simpa using h1]; rfl
  · rw [show (a1 == b1) = true by simpa using h1, show (a2 == b2) = false by simpa using h2]; rfl
  · have e1 : (a1 == b1) = true := by simpa using h1
    have e2 : (a2 == b2) = true := by simpa using h2
    have h : a.length ≤ 1000000000 := h.1
    simp only [Bool.and_true]
    exact same_loop ([], [], [], false) a b (by omega) _ (fun e => by rw [e1, e2, e]; rfl) _ (fun e => by rw [e1, e2, e]; rfl)
set_option maxRecDepth 100000 in
theorem few_vc (r1 r2 : List UInt8) (l : List Rul.Rule) (h : cFewR.pre (r1, r2, l)) :
    /-VC fun (r1 r2 : List UInt8) (l : List Rul.Rule) => vcOf Tryz.prog [] (anFew (r1, r2, l)) cFewR Tryz.f28 (r1, r2, l) -/
    (∃ (p' : Nat), (p' ≤ l.length ∧ p' ≤ (90 : Nat) ∧ (List.take p' l).all small60 = true) ∧ ((0 : Int) = (↑p' : Int) ∧ True ∧ True) ∧ ((r1 = r1 ∧ r2 = r2 ∧ l = l ∧ True) ∧ True) ∧ True ∧ True ∧
    True ∧ True ∧ True ∧ True) ∧ ∀ (p : Nat), p ≤ l.length ∧ p ≤ (90 : Nat) ∧ (List.take p l).all small60 = true → bif decide ((↑p : Int) < (↑l.length : Int)) then bif decide ((↑p : Int) < (90 :
    Int)) then ((0 : Int) ≤ (↑p : Int) ∧ (↑p : Int) < (↑l.length : Int)) ∧ bif decide ((60 : Int) < (↑(l.getD (↑p : Int).toNat ([], [], [], false)).fst.length : Int)) then false = fewRB (r1, r2,
    l) else ((0 : Int) ≤ (↑p : Int) ∧ (↑p : Int) < (↑l.length : Int)) ∧ bif decide ((60 : Int) < (↑(l.getD (↑p : Int).toNat ([], [], [], false)).snd.fst.length : Int)) then false = fewRB (r1,
    r2, l) else ((0 : Int) ≤ (↑p : Int) ∧ (↑p : Int) < (↑l.length : Int)) ∧ bif decide ((60 : Int) < (↑(l.getD (↑p : Int).toNat ([], [], [], false)).snd.snd.fst.length : Int)) then false = fewRB
    (r1, r2, l) else ((-9223372036854775808 : Int) ≤ (↑p : Int) + (1 : Int) ∧ (↑p : Int) + (1 : Int) ≤ (9223372036854775807 : Int)) ∧ ∃ (p' : Nat), (p' ≤ l.length ∧ p' ≤ (90 : Nat) ∧ (List.take
    p' l).all small60 = true) ∧ l.length - p' < l.length - p ∧ ((↑p : Int) + (1 : Int) = (↑p' : Int) ∧ True ∧ True) ∧ ((r1 = r1 ∧ r2 = r2 ∧ l = l ∧ True) ∧ True) ∧ True ∧ True ∧ True ∧ True ∧
    True ∧ True else bif decide ((↑l.length : Int) ≤ (90 : Int)) then bif decide ((↑r1.length : Int) ≤ (60 : Int)) then decide ((↑r2.length : Int) ≤ (60 : Int)) = fewRB (r1, r2, l) else false =
    fewRB (r1, r2, l) else false = fewRB (r1, r2, l) else bif decide ((↑l.length : Int) ≤ (90 : Int)) then bif decide ((↑r1.length : Int) ≤ (60 : Int)) then decide ((↑r2.length : Int) ≤ (60 :
    Int)) = fewRB (r1, r2, l) else false = fewRB (r1, r2, l) else false = fewRB (r1, r2, l)
    /-CV-/ := by
  simp only [true_and, and_true]
  have hfin : ∀ p, p ≤ l.length ∧ p ≤ 90 ∧ (List.take p l).all small60 = true → (l.length ≤ p ∨ 90 ≤ p) →
      bif decide ((l.length : Int) ≤ 90) then bif decide ((r1.length : Int) ≤ 60) then decide ((r2.length : Int) ≤ 60) = fewRB (r1, r2, l) else false = fewRB (r1, r2, l) else false = fewRB (r1, r2, l) := fun p ⟨hp, h9, ha⟩ hq => by
    have hv : fewRB (r1, r2, l) = (decide (l.length ≤ 90) && (l.all small60 && (decide (r1.length ≤ 60) && decide (r2.length ≤ 60)))) := rfl
    rw [hv]
    refine bifP (fun h1 => ?_) fun h1 => ?_
    · have h1 : l.length ≤ 90 := by have := of_decide_eq_true h1; omega
      rw [List.take_of_length_le (by omega)] at ha
      rw [ha, decide_eq_true h1]
      refine bifP (fun h2 => ?_) fun h2 => ?_
      · rw [decide_eq_true (p := r1.length ≤ 60) (by have := of_decide_eq_true h2; omega)]
        have e : decide ((r2.length : Int) ≤ 60) = decide (r2.length ≤ 60) := decide_eq_decide.2 (by omega)
        rw [e]; rfl
      · rw [decide_eq_false (p := r1.length ≤ 60) (by have := of_decide_eq_false h2; omega)]; rfl
    · rw [decide_eq_false (p := l.length ≤ 90) (by have := of_decide_eq_false h1; omega)]; rfl
  refine ⟨⟨0, ⟨Nat.zero_le _, Nat.zero_le _, rfl⟩, rfl⟩, fun p hp => bifP (fun h1 => bifP (fun h2 => ?_) fun h2 => hfin p hp (.inr (by have := of_decide_eq_false h2; omega))) fun h1 => hfin p hp (.inl (by have := of_decide_eq_false h1; omega))⟩
  have hlt : p < l.length := by have := of_decide_eq_true h1; omega
  have hl9 : p < 90 := by have := of_decide_eq_true h2; omega
  have hxk := getD_some l ([], [], [], false) p hlt
  have hti : ((p : Int)).toNat = p := rfl
  rw [hti]
  have hm := List.mem_of_getElem? hxk
  generalize l.getD p ([], [], [], false) = x at *
  have no : small60 x = false → false = fewRB (r1, r2, l) := fun hx => by
    have hv : fewRB (r1, r2, l) = (decide (l.length ≤ 90) && (l.all small60 && (decide (r1.length ≤ 60) && decide (r2.length ≤ 60)))) := rfl
    rw [hv, all_no hm hx]; simp
  have hs : small60 x = (decide (x.1.length ≤ 60) && (decide (x.2.1.length ≤ 60) && decide (x.2.2.1.length ≤ 60))) := rfl
  refine ⟨⟨by omega, by omega⟩, bifP (fun h3 => no ?_) fun h3 => ⟨⟨by omega, by omega⟩, bifP (fun h4 => no ?_) fun h4 => ⟨⟨by omega, by omega⟩, bifP (fun h5 => no ?_) fun h5 => ⟨⟨by omega, by omega⟩, p + 1, ⟨by omega, by omega, all_more hxk hp.2.2 ?_⟩, by omega, by omega⟩⟩⟩⟩
  · rw [hs, decide_eq_false (p := x.1.length ≤ 60) (by have := of_decide_eq_true h3; omega)]; rfl
  · rw [hs, decide_eq_false (p := x.2.1.length ≤ 60) (by have := of_decide_eq_true h4; omega)]; simp
  · rw [hs, decide_eq_false (p := x.2.2.1.length ≤ 60) (by have := of_decide_eq_true h5; omega)]; simp
  · rw [hs, decide_eq_true (p := x.1.length ≤ 60) (by have := of_decide_eq_false h3; omega), decide_eq_true (p := x.2.1.length ≤ 60) (by have := of_decide_eq_false h4; omega), decide_eq_true (p := x.2.2.1.length ≤ 60) (by have := of_decide_eq_false h5; omega)]; rfl
set_option maxRecDepth 100000 in
theorem fewa_vc (r : Rul.Rules) (f t : AlP) (s : List UInt8) (h : cFewA11.pre (r, f, t, s)) :
    /-VC fun (r : Rul.Rules) (f t : AlP) (s : List UInt8) => vcOf Tryz.prog [cFewR, cFewAl] [] cFewA11 Tryz.f11 (r, f, t, s) -/
    BigR (r.fst, r.snd.fst, r.snd.snd) ∧ bif fewRB (r.fst, r.snd.fst, r.snd.snd) then BigA (f.fst, f.snd.fst, f.snd.snd) ∧ bif fewAB (f.fst, f.snd.fst, f.snd.snd) then BigA (t.fst, t.snd.fst,
    t.snd.snd) ∧ bif fewAB (t.fst, t.snd.fst, t.snd.snd) then decide ((↑s.length : Int) ≤ (100 : Int)) = (fewRB r && (fewAB f && (fewAB t && decide (s.length ≤ (100 : Nat))))) else false =
    (fewRB r && (fewAB f && (fewAB t && decide (s.length ≤ (100 : Nat))))) else false = (fewRB r && (fewAB f && (fewAB t && decide (s.length ≤ (100 : Nat))))) else false = (fewRB r && (fewAB f
    && (fewAB t && decide (s.length ≤ (100 : Nat)))))
    /-CV-/ := by
  have e : decide ((s.length : Int) ≤ 100) = decide (s.length ≤ 100) := decide_eq_decide.2 (by omega)
  rw [e]
  refine ⟨h.1, bifP (fun h1 => ⟨h.2.1, bifP (fun h2 => ⟨h.2.2, bifP (fun h3 => ?_) fun h3 => ?_⟩) fun h2 => ?_⟩) fun h1 => ?_⟩
  · rw [show fewRB r = true from h1, show fewAB f = true from h2, show fewAB t = true from h3]; rfl
  · rw [show fewRB r = true from h1, show fewAB f = true from h2, show fewAB t = false from h3]; rfl
  · rw [show fewRB r = true from h1, show fewAB f = false from h2]; rfl
  · rw [show fewRB r = false from h1]; rfl
set_option maxRecDepth 100000 in
theorem letters_vc (n a b c : List UInt8) :
    /-VC fun (n a b c : List UInt8) => vcOf Tryz.prog [] [] cLetters Tryz.f29 (n, a, b, c) -/
    (n, [a, b, c], [(0 : Int), (1 : Int), (2 : Int)]) = (n, [a, b, c], [(0 : Int), (1 : Int), (2 : Int)])
    /-CV-/ := by
  rfl
set_option maxRecDepth 100000 in
theorem example_vc :
    /-VC vcOf Tryz.prog [] [] cExample Tryz.f30 () -/
    ([(112 : UInt8)], [(113 : UInt8)], [([(97 : UInt8)], [(120 : UInt8)], [], false), ([(98 : UInt8)], [(121 : UInt8)], [], false), ([(110 : UInt8)], [(122 : UInt8)], [], false), ([(110 :
    UInt8)], [(121 : UInt8)], [(98 : UInt8)], false), ([(97 : UInt8), (98 : UInt8)], [(122 : UInt8)], [], false), ([(97 : UInt8)], [], [], true)]) = exR
    /-CV-/ := by
  rfl
set_option maxRecDepth 100000 in
theorem head_vc :
    /-VC vcOf Tryz.prog consHead [] cHead11 Tryz.f10 () -/
    True ∧ True ∧ True ∧ (FewR ([(112 : UInt8)], [(113 : UInt8)], [([(97 : UInt8)], [(120 : UInt8)], [], false), ([(98 : UInt8)], [(121 : UInt8)], [], false), ([(110 : UInt8)], [(122 : UInt8)],
    [], false), ([(110 : UInt8)], [(121 : UInt8)], [(98 : UInt8)], false), ([(97 : UInt8), (98 : UInt8)], [(122 : UInt8)], [], false), ([(97 : UInt8)], [], [], true)]) ∧ FewP ([(112 : UInt8)],
    [[(97 : UInt8)], [(98 : UInt8)], [(110 : UInt8)]], [(0 : Int), (1 : Int), (2 : Int)]) ∧ FewP ([(113 : UInt8)], [[(120 : UInt8)], [(121 : UInt8)], [(122 : UInt8)]], [(0 : Int), (1 : Int), (2
    : Int)]) ∧ [(97 : UInt8), (98 : UInt8)].length ≤ (1000000 : Nat)) ∧ True ∧ (FewR ([(112 : UInt8)], [(113 : UInt8)], [([(97 : UInt8)], [(120 : UInt8)], [], false), ([(98 : UInt8)], [(121 :
    UInt8)], [], false), ([(110 : UInt8)], [(122 : UInt8)], [], false), ([(110 : UInt8)], [(121 : UInt8)], [(98 : UInt8)], false), ([(97 : UInt8), (98 : UInt8)], [(122 : UInt8)], [], false),
    ([(97 : UInt8)], [], [], true)]) ∧ FewP ([(112 : UInt8)], [[(97 : UInt8)], [(98 : UInt8)], [(110 : UInt8)]], [(0 : Int), (1 : Int), (2 : Int)]) ∧ FewP ([(113 : UInt8)], [[(120 : UInt8)],
    [(121 : UInt8)], [(122 : UInt8)]], [(0 : Int), (1 : Int), (2 : Int)]) ∧ [(97 : UInt8)].length ≤ (1000000 : Nat)) ∧ True ∧ (FewR ([(112 : UInt8)], [(113 : UInt8)], [([(97 : UInt8)], [(120 :
    UInt8)], [], false), ([(98 : UInt8)], [(121 : UInt8)], [], false), ([(110 : UInt8)], [(122 : UInt8)], [], false), ([(110 : UInt8)], [(121 : UInt8)], [(98 : UInt8)], false), ([(97 : UInt8),
    (98 : UInt8)], [(122 : UInt8)], [], false), ([(97 : UInt8)], [], [], true)]) ∧ FewP ([(112 : UInt8)], [[(97 : UInt8)], [(98 : UInt8)], [(110 : UInt8)]], [(0 : Int), (1 : Int), (2 : Int)]) ∧
    FewP ([(113 : UInt8)], [[(120 : UInt8)], [(121 : UInt8)], [(122 : UInt8)]], [(0 : Int), (1 : Int), (2 : Int)]) ∧ [(110 : UInt8), (98 : UInt8)].length ≤ (1000000 : Nat)) ∧ True ∧ (FewR ([(112
    : UInt8)], [(113 : UInt8)], [([(97 : UInt8)], [(120 : UInt8)], [], false), ([(98 : UInt8)], [(121 : UInt8)], [], false), ([(110 : UInt8)], [(122 : UInt8)], [], false), ([(110 : UInt8)],
    [(121 : UInt8)], [(98 : UInt8)], false), ([(97 : UInt8), (98 : UInt8)], [(122 : UInt8)], [], false), ([(97 : UInt8)], [], [], true)]) ∧ FewP ([(112 : UInt8)], [[(97 : UInt8)], [(98 :
    UInt8)], [(110 : UInt8)]], [(0 : Int), (1 : Int), (2 : Int)]) ∧ FewP ([(113 : UInt8)], [[(120 : UInt8)], [(121 : UInt8)], [(122 : UInt8)]], [(0 : Int), (1 : Int), (2 : Int)]) ∧ [(120 :
    UInt8)].length ≤ (1000000 : Nat)) ∧ [(114 : UInt8), (117 : UInt8), (108 : UInt8), (101 : UInt8), (115 : UInt8), (32 : UInt8), (112 : UInt8), (32 : UInt8), (116 : UInt8), (111 : UInt8), (32 :
    UInt8), (113 : UInt8), (59 : UInt8), (32 : UInt8), (34 : UInt8), (110 : UInt8), (34 : UInt8), (32 : UInt8), (116 : UInt8), (111 : UInt8), (32 : UInt8), (34 : UInt8), (121 : UInt8), (34 :
    UInt8), (32 : UInt8), (98 : UInt8), (101 : UInt8), (102 : UInt8), (111 : UInt8), (114 : UInt8), (101 : UInt8), (32 : UInt8), (34 : UInt8), (98 : UInt8), (34 : UInt8), (59 : UInt8)].length ≤
    (1000000 : Nat) ∧ [(114 : UInt8), (117 : UInt8), (108 : UInt8), (101 : UInt8), (115 : UInt8), (32 : UInt8), (112 : UInt8), (32 : UInt8), (116 : UInt8), (111 : UInt8), (32 : UInt8), (113 :
    UInt8), (59 : UInt8), (32 : UInt8), (34 : UInt8), (97 : UInt8), (34 : UInt8), (32 : UInt8), (116 : UInt8), (111 : UInt8), (32 : UInt8), (34 : UInt8), (34 : UInt8), (59 : UInt8), (32 :
    UInt8), (34 : UInt8), (97 : UInt8), (34 : UInt8), (32 : UInt8), (116 : UInt8), (111 : UInt8), (32 : UInt8), (34 : UInt8), (34 : UInt8), (59 : UInt8)].length ≤ (1000000 : Nat) ∧ ((Rul.setOf
    (Rul.tabs (List.map (Rul.openR [[(97 : UInt8)], [(98 : UInt8)], [(110 : UInt8)]]) [([(97 : UInt8)], [(120 : UInt8)], [], false), ([(98 : UInt8)], [(121 : UInt8)], [], false), ([(110 :
    UInt8)], [(122 : UInt8)], [], false), ([(110 : UInt8)], [(121 : UInt8)], [(98 : UInt8)], false), ([(97 : UInt8), (98 : UInt8)], [(122 : UInt8)], [], false), ([(97 : UInt8)], [], [], true)])
    ([] ++ [(↑(Al.idx [[(97 : UInt8)], [(98 : UInt8)], [(110 : UInt8)]] (List.take (nat_lit 0 + (1 : Nat)) [(97 : UInt8), (98 : UInt8)])) : Int)] ++ [(↑(Al.idx [[(97 : UInt8)], [(98 : UInt8)],
    [(110 : UInt8)]] (List.take (nat_lit 0 + (1 : Nat)) [(98 : UInt8)])) : Int)]) ([] ++ [(↑(Al.idx [[(97 : UInt8)], [(98 : UInt8)], [(110 : UInt8)]] (List.take (nat_lit 0 + (1 : Nat)) [(97 :
    UInt8), (98 : UInt8)])) : Int)] ++ [(↑(Al.idx [[(97 : UInt8)], [(98 : UInt8)], [(110 : UInt8)]] (List.take (nat_lit 0 + (1 : Nat)) [(98 : UInt8)])) : Int)]).length ([] ++ [(↑(Al.idx [[(97 :
    UInt8)], [(98 : UInt8)], [(110 : UInt8)]] (List.take (nat_lit 0 + (1 : Nat)) [(97 : UInt8), (98 : UInt8)])) : Int)] ++ [(↑(Al.idx [[(97 : UInt8)], [(98 : UInt8)], [(110 : UInt8)]] (List.take
    (nat_lit 0 + (1 : Nat)) [(98 : UInt8)])) : Int)]).length)).length ≤ (1000000000 : Nat) ∧ [[(120 : UInt8), (121 : UInt8)], [(122 : UInt8)]].length ≤ (1000000000 : Nat)) ∧ ((Rul.setOf
    (Rul.tabs (List.map (Rul.openR [[(97 : UInt8)], [(98 : UInt8)], [(110 : UInt8)]]) [([(97 : UInt8)], [(120 : UInt8)], [], false), ([(98 : UInt8)], [(121 : UInt8)], [], false), ([(110 :
    UInt8)], [(122 : UInt8)], [], false), ([(110 : UInt8)], [(121 : UInt8)], [(98 : UInt8)], false), ([(97 : UInt8), (98 : UInt8)], [(122 : UInt8)], [], false), ([(97 : UInt8)], [], [], true)])
    ([] ++ [(↑(Al.idx [[(97 : UInt8)], [(98 : UInt8)], [(110 : UInt8)]] (List.take (nat_lit 0 + (1 : Nat)) [(97 : UInt8)])) : Int)]) ([] ++ [(↑(Al.idx [[(97 : UInt8)], [(98 : UInt8)], [(110 :
    UInt8)]] (List.take (nat_lit 0 + (1 : Nat)) [(97 : UInt8)])) : Int)]).length ([] ++ [(↑(Al.idx [[(97 : UInt8)], [(98 : UInt8)], [(110 : UInt8)]] (List.take (nat_lit 0 + (1 : Nat)) [(97 :
    UInt8)])) : Int)]).length)).length ≤ (1000000000 : Nat) ∧ [[], [(120 : UInt8)]].length ≤ (1000000000 : Nat)) ∧ ((Rul.setOf (Rul.tabs (List.map (Rul.openR [[(97 : UInt8)], [(98 : UInt8)],
    [(110 : UInt8)]]) [([(97 : UInt8)], [(120 : UInt8)], [], false), ([(98 : UInt8)], [(121 : UInt8)], [], false), ([(110 : UInt8)], [(122 : UInt8)], [], false), ([(110 : UInt8)], [(121 :
    UInt8)], [(98 : UInt8)], false), ([(97 : UInt8), (98 : UInt8)], [(122 : UInt8)], [], false), ([(97 : UInt8)], [], [], true)]) ([] ++ [(↑(Al.idx [[(97 : UInt8)], [(98 : UInt8)], [(110 :
    UInt8)]] (List.take (nat_lit 0 + (1 : Nat)) [(110 : UInt8), (98 : UInt8)])) : Int)] ++ [(↑(Al.idx [[(97 : UInt8)], [(98 : UInt8)], [(110 : UInt8)]] (List.take (nat_lit 0 + (1 : Nat)) [(98 :
    UInt8)])) : Int)]) ([] ++ [(↑(Al.idx [[(97 : UInt8)], [(98 : UInt8)], [(110 : UInt8)]] (List.take (nat_lit 0 + (1 : Nat)) [(110 : UInt8), (98 : UInt8)])) : Int)] ++ [(↑(Al.idx [[(97 :
    UInt8)], [(98 : UInt8)], [(110 : UInt8)]] (List.take (nat_lit 0 + (1 : Nat)) [(98 : UInt8)])) : Int)]).length ([] ++ [(↑(Al.idx [[(97 : UInt8)], [(98 : UInt8)], [(110 : UInt8)]] (List.take
    (nat_lit 0 + (1 : Nat)) [(110 : UInt8), (98 : UInt8)])) : Int)] ++ [(↑(Al.idx [[(97 : UInt8)], [(98 : UInt8)], [(110 : UInt8)]] (List.take (nat_lit 0 + (1 : Nat)) [(98 : UInt8)])) :
    Int)]).length)).length ≤ (1000000000 : Nat) ∧ [[(121 : UInt8), (121 : UInt8)], [(122 : UInt8), (121 : UInt8)]].length ≤ (1000000000 : Nat)) ∧ ((0 : Int) ≤ (0 : Int) ∧ (0 : Int) < (↑([] ++
    [(List.take (Lx.span Lx.inText [(110 : UInt8), (34 : UInt8), (32 : UInt8), (116 : UInt8), (111 : UInt8), (32 : UInt8), (34 : UInt8), (121 : UInt8), (34 : UInt8), (32 : UInt8), (98 : UInt8),
    (101 : UInt8), (102 : UInt8), (111 : UInt8), (114 : UInt8), (101 : UInt8), (32 : UInt8), (34 : UInt8), (98 : UInt8), (34 : UInt8), (59 : UInt8)]) [(110 : UInt8), (34 : UInt8), (32 : UInt8),
    (116 : UInt8), (111 : UInt8), (32 : UInt8), (34 : UInt8), (121 : UInt8), (34 : UInt8), (32 : UInt8), (98 : UInt8), (101 : UInt8), (102 : UInt8), (111 : UInt8), (114 : UInt8), (101 : UInt8),
    (32 : UInt8), (34 : UInt8), (98 : UInt8), (34 : UInt8), (59 : UInt8)], List.take (Lx.span Lx.inText [(121 : UInt8), (34 : UInt8), (32 : UInt8), (98 : UInt8), (101 : UInt8), (102 : UInt8),
    (111 : UInt8), (114 : UInt8), (101 : UInt8), (32 : UInt8), (34 : UInt8), (98 : UInt8), (34 : UInt8), (59 : UInt8)]) [(121 : UInt8), (34 : UInt8), (32 : UInt8), (98 : UInt8), (101 : UInt8),
    (102 : UInt8), (111 : UInt8), (114 : UInt8), (101 : UInt8), (32 : UInt8), (34 : UInt8), (98 : UInt8), (34 : UInt8), (59 : UInt8)], List.take (Lx.span Lx.inText [(98 : UInt8), (34 : UInt8),
    (59 : UInt8)]) [(98 : UInt8), (34 : UInt8), (59 : UInt8)], false)]).length : Int)) ∧ True ∧ (FewR ([(112 : UInt8)], [(113 : UInt8)], [([(97 : UInt8)], [(120 : UInt8)], [], false), ([(98 :
    UInt8)], [(121 : UInt8)], [], false), ([(110 : UInt8)], [(122 : UInt8)], [], false), ([(110 : UInt8)], [(121 : UInt8)], [(98 : UInt8)], false), ([(97 : UInt8), (98 : UInt8)], [(122 :
    UInt8)], [], false), ([(97 : UInt8)], [], [], true)]) ∧ FewP ([(112 : UInt8)], [[(97 : UInt8)], [(98 : UInt8)], [(110 : UInt8)]], [(0 : Int), (1 : Int), (2 : Int)]) ∧ FewP ([(113 : UInt8)],
    [[(120 : UInt8)], [(121 : UInt8)], [(122 : UInt8)]], [(0 : Int), (1 : Int), (2 : Int)])) ∧ True ∧ (FewR ([(112 : UInt8)], [(113 : UInt8)], [([(97 : UInt8)], [(120 : UInt8)], [], false),
    ([(98 : UInt8)], [(121 : UInt8)], [], false), ([(110 : UInt8)], [(122 : UInt8)], [], false), ([(110 : UInt8)], [(121 : UInt8)], [(98 : UInt8)], false), ([(97 : UInt8), (98 : UInt8)], [(122 :
    UInt8)], [], false), ([(97 : UInt8)], [], [], true)]) ∧ FewP ([(113 : UInt8)], [[(120 : UInt8)], [(121 : UInt8)], [(122 : UInt8)]], [(0 : Int), (1 : Int), (2 : Int)]) ∧ FewP ([(112 :
    UInt8)], [[(97 : UInt8)], [(98 : UInt8)], [(110 : UInt8)]], [(0 : Int), (1 : Int), (2 : Int)])) ∧ (!Rul.validB ([(112 : UInt8)], [(113 : UInt8)], [([(97 : UInt8)], [(120 : UInt8)], [],
    false), ([(98 : UInt8)], [(121 : UInt8)], [], false), ([(110 : UInt8)], [(122 : UInt8)], [], false), ([(110 : UInt8)], [(121 : UInt8)], [(98 : UInt8)], false), ([(97 : UInt8), (98 : UInt8)],
    [(122 : UInt8)], [], false), ([(97 : UInt8)], [], [], true)]) (alOf ([(113 : UInt8)], [[(120 : UInt8)], [(121 : UInt8)], [(122 : UInt8)]], [(0 : Int), (1 : Int), (2 : Int)])) (alOf ([(112 :
    UInt8)], [[(97 : UInt8)], [(98 : UInt8)], [(110 : UInt8)]], [(0 : Int), (1 : Int), (2 : Int)]))) = true
    /-CV-/ := by
  simp only [true_and, and_true]
  have hE : FewR exR := ⟨by decide, by decide, by decide, show ∀ x ∈ exR.2.2, x.1.length ≤ 1000 ∧ x.2.1.length ≤ 1000 ∧ x.2.2.1.length ≤ 1000 by decide⟩
  have hP : FewP ([112], [[97], [98], [110]], [0, 1, 2]) := ⟨by decide, by decide, by decide, by decide⟩
  have hQ : FewP ([113], [[120], [121], [122]], [0, 1, 2]) := ⟨by decide, by decide, by decide, by decide⟩
  unfold exR at hE
  repeat' (first | exact hE | exact hP | exact hQ | refine And.intro ?_ ?_)
  all_goals first | exact of_decide_eq_true (by kernel_rfl) | kernel_rfl
set_option maxRecDepth 100000 in
theorem fewal_vc (n : List UInt8) (ls : List (List UInt8)) (sm : List Int) (h : cFewAl.pre (n, ls, sm)) :
    /-VC fun (n : List UInt8) (ls : List (List UInt8)) (sm : List Int) => vcOf Tryz.prog [] (anFewAl ls) cFewAl Tryz.f31 (n, ls, sm) -/
    (∃ (p' : Nat), (p' ≤ ls.length ∧ p' ≤ (70 : Nat) ∧ ((List.take p' ls).all fun (l : List UInt8) => decide (l.length ≤ (20 : Nat))) = true) ∧ ((0 : Int) = (↑p' : Int) ∧ True ∧ True) ∧ ((n = n
    ∧ ls = ls ∧ sm = sm ∧ True) ∧ True) ∧ True ∧ True ∧ True ∧ True ∧ True ∧ True) ∧ ∀ (p : Nat), p ≤ ls.length ∧ p ≤ (70 : Nat) ∧ ((List.take p ls).all fun (l : List UInt8) => decide (l.length
    ≤ (20 : Nat))) = true → bif decide ((↑p : Int) < (↑ls.length : Int)) then bif decide ((↑p : Int) < (70 : Int)) then ((0 : Int) ≤ (↑p : Int) ∧ (↑p : Int) < (↑ls.length : Int)) ∧ bif decide
    ((20 : Int) < (↑(ls.getD (↑p : Int).toNat []).length : Int)) then false = fewAB (n, ls, sm) else ((-9223372036854775808 : Int) ≤ (↑p : Int) + (1 : Int) ∧ (↑p : Int) + (1 : Int) ≤
    (9223372036854775807 : Int)) ∧ ∃ (p' : Nat), (p' ≤ ls.length ∧ p' ≤ (70 : Nat) ∧ ((List.take p' ls).all fun (l : List UInt8) => decide (l.length ≤ (20 : Nat))) = true) ∧ ls.length - p' <
    ls.length - p ∧ ((↑p : Int) + (1 : Int) = (↑p' : Int) ∧ True ∧ True) ∧ ((n = n ∧ ls = ls ∧ sm = sm ∧ True) ∧ True) ∧ True ∧ True ∧ True ∧ True ∧ True ∧ True else bif decide ((↑ls.length :
    Int) ≤ (70 : Int)) then bif decide ((↑sm.length : Int) ≤ (70 : Int)) then decide ((↑n.length : Int) ≤ (100 : Int)) = fewAB (n, ls, sm) else false = fewAB (n, ls, sm) else false = fewAB (n,
    ls, sm) else bif decide ((↑ls.length : Int) ≤ (70 : Int)) then bif decide ((↑sm.length : Int) ≤ (70 : Int)) then decide ((↑n.length : Int) ≤ (100 : Int)) = fewAB (n, ls, sm) else false =
    fewAB (n, ls, sm) else false = fewAB (n, ls, sm)
    /-CV-/ := by
  simp only [true_and, and_true]
  have hv : fewAB (n, ls, sm) = (decide (ls.length ≤ 70) && (ls.all (fun l => decide (List.length l ≤ 20)) && (decide (sm.length ≤ 70) && decide (n.length ≤ 100)))) := rfl
  have hfin : ∀ p, p ≤ ls.length ∧ p ≤ 70 ∧ ((List.take p ls).all fun l => decide (List.length l ≤ 20)) = true → (ls.length ≤ p ∨ 70 ≤ p) →
      bif decide ((ls.length : Int) ≤ 70) then bif decide ((sm.length : Int) ≤ 70) then decide ((n.length : Int) ≤ 100) = fewAB (n, ls, sm) else false = fewAB (n, ls, sm) else false = fewAB (n, ls, sm) := fun p ⟨hp, h9, ha⟩ hq => by
    rw [hv]
    refine bifP (fun h1 => ?_) fun h1 => ?_
    · have h1 : ls.length ≤ 70 := by have := of_decide_eq_true h1; omega
      rw [List.take_of_length_le (by omega)] at ha
      rw [ha, decide_eq_true h1]
      refine bifP (fun h2 => ?_) fun h2 => ?_
      · rw [decide_eq_true (p := sm.length ≤ 70) (by have := of_decide_eq_true h2; omega)]
        have e : decide ((n.length : Int) ≤ 100) = decide (n.length ≤ 100) := decide_eq_decide.2 (by omega)
        rw [e]; rfl
      · rw [decide_eq_false (p := sm.length ≤ 70) (by have := of_decide_eq_false h2; omega)]; rfl
    · rw [decide_eq_false (p := ls.length ≤ 70) (by have := of_decide_eq_false h1; omega)]; rfl
  refine ⟨⟨0, ⟨Nat.zero_le _, Nat.zero_le _, rfl⟩, rfl⟩, fun p hp => bifP (fun h1 => bifP (fun h2 => ?_) fun h2 => hfin p hp (.inr (by have := of_decide_eq_false h2; omega))) fun h1 => hfin p hp (.inl (by have := of_decide_eq_false h1; omega))⟩
  have hlt : p < ls.length := by have := of_decide_eq_true h1; omega
  have hl9 : p < 70 := by have := of_decide_eq_true h2; omega
  have hxk := getD_some ls [] p hlt
  have hti : ((p : Int)).toNat = p := rfl
  rw [hti]
  have hm := List.mem_of_getElem? hxk
  generalize ls.getD p [] = x at *
  refine ⟨⟨by omega, by omega⟩, bifP (fun h3 => ?_) fun h3 => ⟨⟨by omega, by omega⟩, p + 1, ⟨by omega, by omega, all_more hxk hp.2.2 (decide_eq_true (by have := of_decide_eq_false h3; omega))⟩, by omega, by omega⟩⟩
  rw [hv, all_no hm (decide_eq_false (by have := of_decide_eq_true h3; omega))]; simp
set_option maxRecDepth 100000 in
theorem ints_vc (a b : List Int) (h : cIntsR.pre (a, b)) :
    /-VC fun (a b : List Int) => vcOf Tryz.prog [] (anIntsR a b) cIntsR Tryz.f44 (a, b) -/
    bif (↑a.length : Int) != (↑b.length : Int) then false = (a == b) else (∃ (p' : Nat), (p' ≤ a.length ∧ List.take p' a = List.take p' b) ∧ ((0 : Int) = (↑p' : Int) ∧ a = a ∧ b = b ∧ True) ∧
    True ∧ True ∧ True ∧ True ∧ True ∧ True ∧ True) ∧ ∀ (p : Nat), p ≤ a.length ∧ List.take p a = List.take p b → bif decide ((↑p : Int) < (↑a.length : Int)) then ((0 : Int) ≤ (↑p : Int) ∧ (↑p :
    Int) < (↑a.length : Int)) ∧ ((0 : Int) ≤ (↑p : Int) ∧ (↑p : Int) < (↑b.length : Int)) ∧ bif a.getD (↑p : Int).toNat (0 : Int) != b.getD (↑p : Int).toNat (0 : Int) then false = (a == b) else
    ((-9223372036854775808 : Int) ≤ (↑p : Int) + (1 : Int) ∧ (↑p : Int) + (1 : Int) ≤ (9223372036854775807 : Int)) ∧ ∃ (p' : Nat), (p' ≤ a.length ∧ List.take p' a = List.take p' b) ∧ a.length -
    p' < a.length - p ∧ ((↑p : Int) + (1 : Int) = (↑p' : Int) ∧ a = a ∧ b = b ∧ True) ∧ True ∧ True ∧ True ∧ True ∧ True ∧ True ∧ True else true = (a == b)
    /-CV-/ := by
  simp only [true_and, and_true]
  exact same_loop 0 a b h.1 _ (fun e => e.symm) _ (fun e => e.symm)
set_option maxRecDepth 100000 in
theorem texts_holds : cTexts.Holds Tryz.prog := by
  refine holdsF (cons := []) Tryz.func15 (by kernel_rfl) (by kernel_rfl) mixed (by kernel_rfl) (fun c h => by cases h) (fun p => anTexts p.1 p.2) fun p hp => ?_
  obtain ⟨a, b⟩ := p
  refine cast ?_ (texts_vc a b hp)
  kernel_rfl
set_option maxRecDepth 100000 in
theorem intsr_holds : cIntsR.Holds Tryz.prog := by
  refine holdsF (cons := []) Tryz.func44 (by kernel_rfl) (by kernel_rfl) mixed (by kernel_rfl) (fun c h => by cases h) (fun p => anIntsR p.1 p.2) fun p hp => ?_
  obtain ⟨a, b⟩ := p
  refine cast ?_ (ints_vc a b hp)
  kernel_rfl
set_option maxRecDepth 100000 in
theorem same_holds : cSame.Holds Tryz.prog := by
  refine holdsF (cons := []) Tryz.func19 (by kernel_rfl) (by kernel_rfl) mixed (by kernel_rfl) (fun c h => by cases h) (fun p => anSame p.1.2.2 p.2.2.2) fun p hp => ?_
  obtain ⟨⟨a1, a2, a⟩, b1, b2, b⟩ := p
  refine cast ?_ (same_vc a1 a2 b1 b2 a b hp)
  kernel_rfl
set_option maxRecDepth 100000 in
theorem fewr_holds : cFewR.Holds Tryz.prog := by
  refine holdsF (cons := []) Tryz.func28 (by kernel_rfl) (by kernel_rfl) mixed (by kernel_rfl) (fun c h => by cases h) (fun p => anFew p) fun p hp => ?_
  obtain ⟨r1, r2, l⟩ := p
  refine cast ?_ (few_vc r1 r2 l hp)
  kernel_rfl
set_option maxRecDepth 100000 in
theorem fewal_holds : cFewAl.Holds Tryz.prog := by
  refine holdsF (cons := []) Tryz.func31 (by kernel_rfl) (by kernel_rfl) mixed (by kernel_rfl) (fun c h => by cases h) (fun p => anFewAl p.2.1) fun p hp => ?_
  obtain ⟨n, ls, sm⟩ := p
  refine cast ?_ (fewal_vc n ls sm hp)
  kernel_rfl
set_option maxRecDepth 100000 in
theorem fewa11_holds : cFewA11.Holds Tryz.prog := by
  refine holdsF (cons := [cFewR, cFewAl]) Tryz.func11 (by kernel_rfl) (by kernel_rfl) mixed (by kernel_rfl) (fun c h => by
    rcases List.mem_cons.1 h with rfl | h
    · exact fewr_holds
    · obtain rfl := List.mem_singleton.1 h; exact fewal_holds) (fun _ => []) fun p hp => ?_
  obtain ⟨r, f, t, s⟩ := p
  refine cast ?_ (fewa_vc r f t s hp)
  kernel_rfl
set_option maxRecDepth 100000 in
theorem letters_holds : cLetters.Holds Tryz.prog := by
  refine holdsF (cons := []) Tryz.func29 (by kernel_rfl) (by kernel_rfl) mixed (by kernel_rfl) (fun c h => by cases h) (fun _ => []) fun p hp => ?_
  obtain ⟨n, a, b, c⟩ := p
  have key : ∀ (T G : Prop), T = G → T → G := fun T G h a => h ▸ a
  apply key ((n, [a, b, c], [(0 : Int), (1 : Int), (2 : Int)]) = (n, [a, b, c], [(0 : Int), (1 : Int), (2 : Int)]))
  · kernel_rfl
  · exact letters_vc n a b c
set_option maxRecDepth 100000 in
theorem example_holds : cExample.Holds Tryz.prog := by
  refine holdsF (cons := []) Tryz.func30 (by kernel_rfl) (by kernel_rfl) mixed (by kernel_rfl) (fun c h => by cases h) (fun _ => []) fun p hp => ?_
  refine cast ?_ example_vc
  kernel_rfl
set_option maxRecDepth 100000 in
theorem head11_holds : cHead11.Holds Tryz.prog := by
  refine holdsF (cons := consHead) Tryz.func10 (by kernel_rfl) (by kernel_rfl) mixed (by kernel_rfl) (fun c h => by
    rcases List.mem_cons.1 h with rfl | h
    · exact letters_holds
    rcases List.mem_cons.1 h with rfl | h
    · exact example_holds
    rcases List.mem_cons.1 h with rfl | h
    · exact writ_holds
    rcases List.mem_cons.1 h with rfl | h
    · exact parse_holds
    rcases List.mem_cons.1 h with rfl | h
    · exact texts_holds
    · obtain rfl := List.mem_singleton.1 h; exact validr_holds) (fun _ => []) fun p hp => ?_
  refine cast ?_ head_vc
  kernel_rfl
end Go.Proofs.YtldnfdghkdibmaaGreatDoor

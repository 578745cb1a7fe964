/-
  Layer 11: RulesPlain.
-/
import Derived.Test.YtldnfdghkdibmaaGreatDoorRuZJ
set_option linter.unusedVariables false
namespace Go.Proofs.YtldnfdghkdibmaaGreatDoor
open Go.RowKit
open R
set_option maxRecDepth 100000 in
theorem plainl_vc (r1 r2 : List UInt8) (l : List Rul.Rule) (f1 : List UInt8) (f2 : List (List UInt8)) (f3 : List Int) (t : AlP) (s : List UInt8) (h : cPlainL.pre ((r1, r2, l), (f1, f2, f3), t, s)) :
    /-VC fun (r1 r2 : List UInt8) (l : List Rul.Rule) (f1 : List UInt8) (f2 : List (List UInt8)) (f3 : List Int) (t : AlP) (s : List UInt8) => vcOf Tryz.prog consPlain (anPlain l f2 (Al.readB (alOf (f1, f2, f3)) s).1) cPlainL Tryz.f3 ((r1, r2, l), (f1, f2, f3), t, s) -/
    True ∧ (BigR (r1, r2, l) ∧ BigA (f1, f2, f3) ∧ BigA (t.fst, t.snd.fst, t.snd.snd)) ∧ bif !(fewRB (r1, r2, l) && (fewAB (f1, f2, f3) && (fewAB (t.fst, t.snd.fst, t.snd.snd) && decide
    (s.length ≤ (100 : Nat))))) then true = true else (FewR (r1, r2, l) ∧ FewP (f1, f2, f3) ∧ FewP (t.fst, t.snd.fst, t.snd.snd)) ∧ bif !Rul.validB (r1, r2, l) (alOf (f1, f2, f3)) (alOf (t.fst,
    t.snd.fst, t.snd.snd)) then true = true else (∃ (p' : Nat), (p' ≤ l.length ∧ (List.take p' l).all (okP f2) = true ∧ distinct (List.take p' l)) ∧ ((0 : Int) = (↑p' : Int) ∧ s = s ∧ True ∧
    True ∧ True ∧ true = true ∧ True) ∧ ((r1 = r1 ∧ r2 = r2 ∧ l = l ∧ True) ∧ (f1 = f1 ∧ f2 = f2 ∧ f3 = f3 ∧ True) ∧ (t.fst = t.fst ∧ t.snd.fst = t.snd.fst ∧ t.snd.snd = t.snd.snd ∧ True) ∧
    True) ∧ True ∧ True ∧ True ∧ True ∧ True ∧ True) ∧ ∀ (p : Nat), p ≤ l.length ∧ (List.take p l).all (okP f2) = true ∧ distinct (List.take p l) → bif decide ((↑p : Int) < (↑l.length : Int))
    then ((0 : Int) ≤ (↑p : Int) ∧ (↑p : Int) < (↑l.length : Int)) ∧ (FewP (f1, f2, f3) ∧ (l.getD (↑p : Int).toNat ([], [], [], false)).fst.length ≤ (1000000 : Nat)) ∧ bif (Al.readB (alOf (f1,
    f2, f3)) (l.getD (↑p : Int).toNat ([], [], [], false)).fst).snd.fst != (0 : Int) then true = true else bif (↑(Al.readB (alOf (f1, f2, f3)) (l.getD (↑p : Int).toNat ([], [], [],
    false)).fst).fst.length : Int) != (1 : Int) then true = true else ((0 : Int) ≤ (↑p : Int) ∧ (↑p : Int) < (↑l.length : Int)) ∧ bif !(l.getD (↑p : Int).toNat ([], [], [], false)).snd.snd.fst
    == [] then true = true else ((0 : Int) ≤ (↑p : Int) ∧ (↑p : Int) < (↑l.length : Int)) ∧ bif (l.getD (↑p : Int).toNat ([], [], [], false)).snd.snd.snd then true = true else (∃ (p' : Nat),
    ((↑p' : Int) ≤ (↑p : Int) ∧ ∀ (y : Rul.Rule), y ∈ List.take p' l → y.fst ≠ (xAt l (↑p : Int).toNat).fst) ∧ ((0 : Int) = (↑p' : Int) ∧ s = s ∧ True ∧ True ∧ True ∧ true = true ∧ (↑p : Int) =
    (↑p : Int) ∧ True) ∧ ((r1 = r1 ∧ r2 = r2 ∧ l = l ∧ True) ∧ (f1 = f1 ∧ f2 = f2 ∧ f3 = f3 ∧ True) ∧ (t.fst = t.fst ∧ t.snd.fst = t.snd.fst ∧ t.snd.snd = t.snd.snd ∧ True) ∧ True) ∧ True ∧ True
    ∧ True ∧ True ∧ True ∧ True) ∧ ∀ (p_1 : Nat), ((↑p_1 : Int) ≤ (↑p : Int) ∧ ∀ (y : Rul.Rule), y ∈ List.take p_1 l → y.fst ≠ (xAt l (↑p : Int).toNat).fst) → bif decide ((↑p_1 : Int) < (↑p :
    Int)) then ((0 : Int) ≤ (↑p_1 : Int) ∧ (↑p_1 : Int) < (↑l.length : Int)) ∧ ((0 : Int) ≤ (↑p : Int) ∧ (↑p : Int) < (↑l.length : Int)) ∧ bif (l.getD (↑p_1 : Int).toNat ([], [], [], false)).fst
    == (l.getD (↑p : Int).toNat ([], [], [], false)).fst then true = true else ((-9223372036854775808 : Int) ≤ (↑p_1 : Int) + (1 : Int) ∧ (↑p_1 : Int) + (1 : Int) ≤ (9223372036854775807 : Int))
    ∧ ∃ (p' : Nat), ((↑p' : Int) ≤ (↑p : Int) ∧ ∀ (y : Rul.Rule), y ∈ List.take p' l → y.fst ≠ (xAt l (↑p : Int).toNat).fst) ∧ (↑p : Int).toNat - p' < (↑p : Int).toNat - p_1 ∧ ((↑p_1 : Int) + (1
    : Int) = (↑p' : Int) ∧ s = s ∧ True ∧ True ∧ True ∧ true = true ∧ (↑p : Int) = (↑p : Int) ∧ True) ∧ ((r1 = r1 ∧ r2 = r2 ∧ l = l ∧ True) ∧ (f1 = f1 ∧ f2 = f2 ∧ f3 = f3 ∧ True) ∧ (t.fst =
    t.fst ∧ t.snd.fst = t.snd.fst ∧ t.snd.snd = t.snd.snd ∧ True) ∧ True) ∧ True ∧ True ∧ True ∧ True ∧ True ∧ True else ((-9223372036854775808 : Int) ≤ (↑p : Int) + (1 : Int) ∧ (↑p : Int) + (1
    : Int) ≤ (9223372036854775807 : Int)) ∧ ∃ (p' : Nat), (p' ≤ l.length ∧ (List.take p' l).all (okP f2) = true ∧ distinct (List.take p' l)) ∧ l.length - p' < l.length - p ∧ ((↑p : Int) + (1 :
    Int) = (↑p' : Int) ∧ s = s ∧ True ∧ True ∧ True ∧ true = true ∧ True) ∧ ((r1 = r1 ∧ r2 = r2 ∧ l = l ∧ True) ∧ (f1 = f1 ∧ f2 = f2 ∧ f3 = f3 ∧ True) ∧ (t.fst = t.fst ∧ t.snd.fst = t.snd.fst ∧
    t.snd.snd = t.snd.snd ∧ True) ∧ True) ∧ True ∧ True ∧ True ∧ True ∧ True ∧ True else (FewR (r1, r2, l) ∧ FewP (f1, f2, f3) ∧ FewP (t.fst, t.snd.fst, t.snd.snd) ∧ s.length ≤ (1000000 : Nat))
    ∧ (FewP (f1, f2, f3) ∧ s.length ≤ (1000000 : Nat)) ∧ bif (Al.readB (alOf (f1, f2, f3)) s).snd.fst != (0 : Int) then bif (Rul.writingsB (r1, r2, l) (alOf (f1, f2, f3)) (alOf (t.fst,
    t.snd.fst, t.snd.snd)) s).snd == (1 : Int) then ((↑(Rul.writingsB (r1, r2, l) (alOf (f1, f2, f3)) (alOf (t.fst, t.snd.fst, t.snd.snd)) s).fst.length : Int) == (0 : Int)) = true else false =
    true else (∃ (p' : Nat), p' ≤ (Al.readB (alOf (f1, f2, f3)) s).fst.length ∧ ([] = wantP f2 l (List.take p' (Al.readB (alOf (f1, f2, f3)) s).fst) ∧ true = wholeP f2 l (List.take p' (Al.readB
    (alOf (f1, f2, f3)) s).fst) ∧ (0 : Int) = (↑p' : Int) ∧ True ∧ True ∧ true = true ∧ (Rul.writingsB (r1, r2, l) (alOf (f1, f2, f3)) (alOf (t.fst, t.snd.fst, t.snd.snd)) s).fst =
    (Rul.writingsB (r1, r2, l) (alOf (f1, f2, f3)) (alOf (t.fst, t.snd.fst, t.snd.snd)) s).fst ∧ (Rul.writingsB (r1, r2, l) (alOf (f1, f2, f3)) (alOf (t.fst, t.snd.fst, t.snd.snd)) s).snd =
    (Rul.writingsB (r1, r2, l) (alOf (f1, f2, f3)) (alOf (t.fst, t.snd.fst, t.snd.snd)) s).snd ∧ (Al.readB (alOf (f1, f2, f3)) s).fst = (Al.readB (alOf (f1, f2, f3)) s).fst ∧ True) ∧ ((r1 = r1 ∧
    r2 = r2 ∧ l = l ∧ True) ∧ (f1 = f1 ∧ f2 = f2 ∧ f3 = f3 ∧ True) ∧ True) ∧ True ∧ True ∧ True ∧ True ∧ True ∧ True) ∧ ∀ (p : Nat), p ≤ (Al.readB (alOf (f1, f2, f3)) s).fst.length → bif decide
    ((↑p : Int) < (↑(Al.readB (alOf (f1, f2, f3)) s).fst.length : Int)) then (∃ (p' : Nat), p' ≤ l.length ∧ (wantP f2 l (List.take p (Al.readB (alOf (f1, f2, f3)) s).fst) = wantP f2 l (List.take
    (↑p : Int).toNat (Al.readB (alOf (f1, f2, f3)) s).fst) ++ tosOf f2 (List.take p' l) ((Al.readB (alOf (f1, f2, f3)) s).fst.getD (↑p : Int).toNat (0 : Int)) ∧ false = (List.take p' l).any (hit
    f2 ((Al.readB (alOf (f1, f2, f3)) s).fst.getD (↑p : Int).toNat (0 : Int))) ∧ (0 : Int) = (↑p' : Int) ∧ True ∧ True ∧ true = true ∧ (Rul.writingsB (r1, r2, l) (alOf (f1, f2, f3)) (alOf
    (t.fst, t.snd.fst, t.snd.snd)) s).fst = (Rul.writingsB (r1, r2, l) (alOf (f1, f2, f3)) (alOf (t.fst, t.snd.fst, t.snd.snd)) s).fst ∧ (Rul.writingsB (r1, r2, l) (alOf (f1, f2, f3)) (alOf
    (t.fst, t.snd.fst, t.snd.snd)) s).snd = (Rul.writingsB (r1, r2, l) (alOf (f1, f2, f3)) (alOf (t.fst, t.snd.fst, t.snd.snd)) s).snd ∧ (Al.readB (alOf (f1, f2, f3)) s).fst = (Al.readB (alOf
    (f1, f2, f3)) s).fst ∧ wholeP f2 l (List.take p (Al.readB (alOf (f1, f2, f3)) s).fst) = wholeP f2 l (List.take p (Al.readB (alOf (f1, f2, f3)) s).fst) ∧ (↑p : Int) = (↑p : Int) ∧ True) ∧
    ((r1 = r1 ∧ r2 = r2 ∧ l = l ∧ True) ∧ (f1 = f1 ∧ f2 = f2 ∧ f3 = f3 ∧ True) ∧ True) ∧ True ∧ True ∧ True ∧ True ∧ True ∧ True) ∧ ∀ (p_1 : Nat), p_1 ≤ l.length → bif decide ((↑p_1 : Int) <
    (↑l.length : Int)) then ((0 : Int) ≤ (↑p : Int) ∧ (↑p : Int) < (↑(Al.readB (alOf (f1, f2, f3)) s).fst.length : Int)) ∧ bif decide ((0 : Int) ≤ (Al.readB (alOf (f1, f2, f3)) s).fst.getD (↑p :
    Int).toNat (0 : Int)) then ((0 : Int) ≤ (↑p : Int) ∧ (↑p : Int) < (↑(Al.readB (alOf (f1, f2, f3)) s).fst.length : Int)) ∧ bif decide ((Al.readB (alOf (f1, f2, f3)) s).fst.getD (↑p :
    Int).toNat (0 : Int) < (↑f2.length : Int)) then ((0 : Int) ≤ (↑p : Int) ∧ (↑p : Int) < (↑(Al.readB (alOf (f1, f2, f3)) s).fst.length : Int)) ∧ ((0 : Int) ≤ (Al.readB (alOf (f1, f2, f3))
    s).fst.getD (↑p : Int).toNat (0 : Int) ∧ (Al.readB (alOf (f1, f2, f3)) s).fst.getD (↑p : Int).toNat (0 : Int) < (↑f2.length : Int)) ∧ ((0 : Int) ≤ (↑p_1 : Int) ∧ (↑p_1 : Int) < (↑l.length :
    Int)) ∧ bif f2.getD ((Al.readB (alOf (f1, f2, f3)) s).fst.getD (↑p : Int).toNat (0 : Int)).toNat [] == (l.getD (↑p_1 : Int).toNat ([], [], [], false)).fst then ((0 : Int) ≤ (↑p_1 : Int) ∧
    (↑p_1 : Int) < (↑l.length : Int)) ∧ (wantP f2 l (List.take (↑p : Int).toNat (Al.readB (alOf (f1, f2, f3)) s).fst) ++ tosOf f2 (List.take p_1 l) ((Al.readB (alOf (f1, f2, f3)) s).fst.getD (↑p
    : Int).toNat (0 : Int))).length + (l.getD (↑p_1 : Int).toNat ([], [], [], false)).snd.fst.length ≤ (9223372036854775807 : Nat) ∧ ((-9223372036854775808 : Int) ≤ (↑p_1 : Int) + (1 : Int) ∧
    (↑p_1 : Int) + (1 : Int) ≤ (9223372036854775807 : Int)) ∧ ∃ (p' : Nat), p' ≤ l.length ∧ l.length - p' < l.length - p_1 ∧ (wantP f2 l (List.take (↑p : Int).toNat (Al.readB (alOf (f1, f2, f3))
    s).fst) ++ tosOf f2 (List.take p_1 l) ((Al.readB (alOf (f1, f2, f3)) s).fst.getD (↑p : Int).toNat (0 : Int)) ++ (l.getD (↑p_1 : Int).toNat ([], [], [], false)).snd.fst = wantP f2 l
    (List.take (↑p : Int).toNat (Al.readB (alOf (f1, f2, f3)) s).fst) ++ tosOf f2 (List.take p' l) ((Al.readB (alOf (f1, f2, f3)) s).fst.getD (↑p : Int).toNat (0 : Int)) ∧ true = (List.take p'
    l).any (hit f2 ((Al.readB (alOf (f1, f2, f3)) s).fst.getD (↑p : Int).toNat (0 : Int))) ∧ (↑p_1 : Int) + (1 : Int) = (↑p' : Int) ∧ True ∧ True ∧ true = true ∧ (Rul.writingsB (r1, r2, l) (alOf
    (f1, f2, f3)) (alOf (t.fst, t.snd.fst, t.snd.snd)) s).fst = (Rul.writingsB (r1, r2, l) (alOf (f1, f2, f3)) (alOf (t.fst, t.snd.fst, t.snd.snd)) s).fst ∧ (Rul.writingsB (r1, r2, l) (alOf (f1,
    f2, f3)) (alOf (t.fst, t.snd.fst, t.snd.snd)) s).snd = (Rul.writingsB (r1, r2, l) (alOf (f1, f2, f3)) (alOf (t.fst, t.snd.fst, t.snd.snd)) s).snd ∧ (Al.readB (alOf (f1, f2, f3)) s).fst =
    (Al.readB (alOf (f1, f2, f3)) s).fst ∧ wholeP f2 l (List.take p (Al.readB (alOf (f1, f2, f3)) s).fst) = wholeP f2 l (List.take p (Al.readB (alOf (f1, f2, f3)) s).fst) ∧ (↑p : Int) = (↑p :
    Int) ∧ True) ∧ ((r1 = r1 ∧ r2 = r2 ∧ l = l ∧ True) ∧ (f1 = f1 ∧ f2 = f2 ∧ f3 = f3 ∧ True) ∧ True) ∧ True ∧ True ∧ True ∧ True ∧ True ∧ True else ((-9223372036854775808 : Int) ≤ (↑p_1 : Int)
    + (1 : Int) ∧ (↑p_1 : Int) + (1 : Int) ≤ (9223372036854775807 : Int)) ∧ ∃ (p' : Nat), p' ≤ l.length ∧ l.length - p' < l.length - p_1 ∧ (wantP f2 l (List.take (↑p : Int).toNat (Al.readB (alOf
    (f1, f2, f3)) s).fst) ++ tosOf f2 (List.take p_1 l) ((Al.readB (alOf (f1, f2, f3)) s).fst.getD (↑p : Int).toNat (0 : Int)) = wantP f2 l (List.take (↑p : Int).toNat (Al.readB (alOf (f1, f2,
    f3)) s).fst) ++ tosOf f2 (List.take p' l) ((Al.readB (alOf (f1, f2, f3)) s).fst.getD (↑p : Int).toNat (0 : Int)) ∧ (List.take p_1 l).any (hit f2 ((Al.readB (alOf (f1, f2, f3)) s).fst.getD
    (↑p : Int).toNat (0 : Int))) = (List.take p' l).any (hit f2 ((Al.readB (alOf (f1, f2, f3)) s).fst.getD (↑p : Int).toNat (0 : Int))) ∧ (↑p_1 : Int) + (1 : Int) = (↑p' : Int) ∧ True ∧ True ∧
    true = true ∧ (Rul.writingsB (r1, r2, l) (alOf (f1, f2, f3)) (alOf (t.fst, t.snd.fst, t.snd.snd)) s).fst = (Rul.writingsB (r1, r2, l) (alOf (f1, f2, f3)) (alOf (t.fst, t.snd.fst, t.snd.snd))
    s).fst ∧ (Rul.writingsB (r1, r2, l) (alOf (f1, f2, f3)) (alOf (t.fst, t.snd.fst, t.snd.snd)) s).snd = (Rul.writingsB (r1, r2, l) (alOf (f1, f2, f3)) (alOf (t.fst, t.snd.fst, t.snd.snd))
    s).snd ∧ (Al.readB (alOf (f1, f2, f3)) s).fst = (Al.readB (alOf (f1, f2, f3)) s).fst ∧ wholeP f2 l (List.take p (Al.readB (alOf (f1, f2, f3)) s).fst) = wholeP f2 l (List.take p (Al.readB
    (alOf (f1, f2, f3)) s).fst) ∧ (↑p : Int) = (↑p : Int) ∧ True) ∧ ((r1 = r1 ∧ r2 = r2 ∧ l = l ∧ True) ∧ (f1 = f1 ∧ f2 = f2 ∧ f3 = f3 ∧ True) ∧ True) ∧ True ∧ True ∧ True ∧ True ∧ True ∧ True
    else ((-9223372036854775808 : Int) ≤ (↑p_1 : Int) + (1 : Int) ∧ (↑p_1 : Int) + (1 : Int) ≤ (9223372036854775807 : Int)) ∧ ∃ (p' : Nat), p' ≤ l.length ∧ l.length - p' < l.length - p_1 ∧
    (wantP f2 l (List.take (↑p : Int).toNat (Al.readB (alOf (f1, f2, f3)) s).fst) ++ tosOf f2 (List.take p_1 l) ((Al.readB (alOf (f1, f2, f3)) s).fst.getD (↑p : Int).toNat (0 : Int)) = wantP f2
    l (List.take (↑p : Int).toNat (Al.readB (alOf (f1, f2, f3)) s).fst) ++ tosOf f2 (List.take p' l) ((Al.readB (alOf (f1, f2, f3)) s).fst.getD (↑p : Int).toNat (0 : Int)) ∧ (List.take p_1
    l).any (hit f2 ((Al.readB (alOf (f1, f2, f3)) s).fst.getD (↑p : Int).toNat (0 : Int))) = (List.take p' l).any (hit f2 ((Al.readB (alOf (f1, f2, f3)) s).fst.getD (↑p : Int).toNat (0 : Int)))
    ∧ (↑p_1 : Int) + (1 : Int) = (↑p' : Int) ∧ True ∧ True ∧ true = true ∧ (Rul.writingsB (r1, r2, l) (alOf (f1, f2, f3)) (alOf (t.fst, t.snd.fst, t.snd.snd)) s).fst = (Rul.writingsB (r1, r2, l)
    (alOf (f1, f2, f3)) (alOf (t.fst, t.snd.fst, t.snd.snd)) s).fst ∧ (Rul.writingsB (r1, r2, l) (alOf (f1, f2, f3)) (alOf (t.fst, t.snd.fst, t.snd.snd)) s).snd = (Rul.writingsB (r1, r2, l)
    (alOf (f1, f2, f3)) (alOf (t.fst, t.snd.fst, t.snd.snd)) s).snd ∧ (Al.readB (alOf (f1, f2, f3)) s).fst = (Al.readB (alOf (f1, f2, f3)) s).fst ∧ wholeP f2 l (List.take p (Al.readB (alOf (f1,
    f2, f3)) s).fst) = wholeP f2 l (List.take p (Al.readB (alOf (f1, f2, f3)) s).fst) ∧ (↑p : Int) = (↑p : Int) ∧ True) ∧ ((r1 = r1 ∧ r2 = r2 ∧ l = l ∧ True) ∧ (f1 = f1 ∧ f2 = f2 ∧ f3 = f3 ∧
    True) ∧ True) ∧ True ∧ True ∧ True ∧ True ∧ True ∧ True else ((-9223372036854775808 : Int) ≤ (↑p_1 : Int) + (1 : Int) ∧ (↑p_1 : Int) + (1 : Int) ≤ (9223372036854775807 : Int)) ∧ ∃ (p' :
    Nat), p' ≤ l.length ∧ l.length - p' < l.length - p_1 ∧ (wantP f2 l (List.take (↑p : Int).toNat (Al.readB (alOf (f1, f2, f3)) s).fst) ++ tosOf f2 (List.take p_1 l) ((Al.readB (alOf (f1, f2,
    f3)) s).fst.getD (↑p : Int).toNat (0 : Int)) = wantP f2 l (List.take (↑p : Int).toNat (Al.readB (alOf (f1, f2, f3)) s).fst) ++ tosOf f2 (List.take p' l) ((Al.readB (alOf (f1, f2, f3))
    s).fst.getD (↑p : Int).toNat (0 : Int)) ∧ (List.take p_1 l).any (hit f2 ((Al.readB (alOf (f1, f2, f3)) s).fst.getD (↑p : Int).toNat (0 : Int))) = (List.take p' l).any (hit f2 ((Al.readB
    (alOf (f1, f2, f3)) s).fst.getD (↑p : Int).toNat (0 : Int))) ∧ (↑p_1 : Int) + (1 : Int) = (↑p' : Int) ∧ True ∧ True ∧ true = true ∧ (Rul.writingsB (r1, r2, l) (alOf (f1, f2, f3)) (alOf
    (t.fst, t.snd.fst, t.snd.snd)) s).fst = (Rul.writingsB (r1, r2, l) (alOf (f1, f2, f3)) (alOf (t.fst, t.snd.fst, t.snd.snd)) s).fst ∧ (Rul.writingsB (r1, r2, l) (alOf (f1, f2, f3)) (alOf
    (t.fst, t.snd.fst, t.snd.snd)) s).snd = (Rul.writingsB (r1, r2, l) (alOf (f1, f2, f3)) (alOf (t.fst, t.snd.fst, t.snd.snd)) s).snd ∧ (Al.readB (alOf (f1, f2, f3)) s).fst = (Al.readB (alOf
    (f1, f2, f3)) s).fst ∧ wholeP f2 l (List.take p (Al.readB (alOf (f1, f2, f3)) s).fst) = wholeP f2 l (List.take p (Al.readB (alOf (f1, f2, f3)) s).fst) ∧ (↑p : Int) = (↑p : Int) ∧ True) ∧
    ((r1 = r1 ∧ r2 = r2 ∧ l = l ∧ True) ∧ (f1 = f1 ∧ f2 = f2 ∧ f3 = f3 ∧ True) ∧ True) ∧ True ∧ True ∧ True ∧ True ∧ True ∧ True else bif wholeP f2 l (List.take p (Al.readB (alOf (f1, f2, f3))
    s).fst) then ((-9223372036854775808 : Int) ≤ (↑p : Int) + (1 : Int) ∧ (↑p : Int) + (1 : Int) ≤ (9223372036854775807 : Int)) ∧ ∃ (p' : Nat), p' ≤ (Al.readB (alOf (f1, f2, f3)) s).fst.length ∧
    (Al.readB (alOf (f1, f2, f3)) s).fst.length - p' < (Al.readB (alOf (f1, f2, f3)) s).fst.length - p ∧ (wantP f2 l (List.take (↑p : Int).toNat (Al.readB (alOf (f1, f2, f3)) s).fst) ++ tosOf f2
    (List.take p_1 l) ((Al.readB (alOf (f1, f2, f3)) s).fst.getD (↑p : Int).toNat (0 : Int)) = wantP f2 l (List.take p' (Al.readB (alOf (f1, f2, f3)) s).fst) ∧ (List.take p_1 l).any (hit f2
    ((Al.readB (alOf (f1, f2, f3)) s).fst.getD (↑p : Int).toNat (0 : Int))) = wholeP f2 l (List.take p' (Al.readB (alOf (f1, f2, f3)) s).fst) ∧ (↑p : Int) + (1 : Int) = (↑p' : Int) ∧ True ∧ True
    ∧ true = true ∧ (Rul.writingsB (r1, r2, l) (alOf (f1, f2, f3)) (alOf (t.fst, t.snd.fst, t.snd.snd)) s).fst = (Rul.writingsB (r1, r2, l) (alOf (f1, f2, f3)) (alOf (t.fst, t.snd.fst,
    t.snd.snd)) s).fst ∧ (Rul.writingsB (r1, r2, l) (alOf (f1, f2, f3)) (alOf (t.fst, t.snd.fst, t.snd.snd)) s).snd = (Rul.writingsB (r1, r2, l) (alOf (f1, f2, f3)) (alOf (t.fst, t.snd.fst,
    t.snd.snd)) s).snd ∧ (Al.readB (alOf (f1, f2, f3)) s).fst = (Al.readB (alOf (f1, f2, f3)) s).fst ∧ True) ∧ ((r1 = r1 ∧ r2 = r2 ∧ l = l ∧ True) ∧ (f1 = f1 ∧ f2 = f2 ∧ f3 = f3 ∧ True) ∧ True)
    ∧ True ∧ True ∧ True ∧ True ∧ True ∧ True else ((-9223372036854775808 : Int) ≤ (↑p : Int) + (1 : Int) ∧ (↑p : Int) + (1 : Int) ≤ (9223372036854775807 : Int)) ∧ ∃ (p' : Nat), p' ≤ (Al.readB
    (alOf (f1, f2, f3)) s).fst.length ∧ (Al.readB (alOf (f1, f2, f3)) s).fst.length - p' < (Al.readB (alOf (f1, f2, f3)) s).fst.length - p ∧ (wantP f2 l (List.take (↑p : Int).toNat (Al.readB
    (alOf (f1, f2, f3)) s).fst) ++ tosOf f2 (List.take p_1 l) ((Al.readB (alOf (f1, f2, f3)) s).fst.getD (↑p : Int).toNat (0 : Int)) = wantP f2 l (List.take p' (Al.readB (alOf (f1, f2, f3))
    s).fst) ∧ false = wholeP f2 l (List.take p' (Al.readB (alOf (f1, f2, f3)) s).fst) ∧ (↑p : Int) + (1 : Int) = (↑p' : Int) ∧ True ∧ True ∧ true = true ∧ (Rul.writingsB (r1, r2, l) (alOf (f1,
    f2, f3)) (alOf (t.fst, t.snd.fst, t.snd.snd)) s).fst = (Rul.writingsB (r1, r2, l) (alOf (f1, f2, f3)) (alOf (t.fst, t.snd.fst, t.snd.snd)) s).fst ∧ (Rul.writingsB (r1, r2, l) (alOf (f1, f2,
    f3)) (alOf (t.fst, t.snd.fst, t.snd.snd)) s).snd = (Rul.writingsB (r1, r2, l) (alOf (f1, f2, f3)) (alOf (t.fst, t.snd.fst, t.snd.snd)) s).snd ∧ (Al.readB (alOf (f1, f2, f3)) s).fst =
    (Al.readB (alOf (f1, f2, f3)) s).fst ∧ True) ∧ ((r1 = r1 ∧ r2 = r2 ∧ l = l ∧ True) ∧ (f1 = f1 ∧ f2 = f2 ∧ f3 = f3 ∧ True) ∧ True) ∧ True ∧ True ∧ True ∧ True ∧ True ∧ True else bif !wholeP
    f2 l (List.take p (Al.readB (alOf (f1, f2, f3)) s).fst) then bif (Rul.writingsB (r1, r2, l) (alOf (f1, f2, f3)) (alOf (t.fst, t.snd.fst, t.snd.snd)) s).snd == (0 : Int) then
    ((↑(Rul.writingsB (r1, r2, l) (alOf (f1, f2, f3)) (alOf (t.fst, t.snd.fst, t.snd.snd)) s).fst.length : Int) == (0 : Int)) = true else false = true else bif (Rul.writingsB (r1, r2, l) (alOf
    (f1, f2, f3)) (alOf (t.fst, t.snd.fst, t.snd.snd)) s).snd == (0 : Int) then bif (↑(Rul.writingsB (r1, r2, l) (alOf (f1, f2, f3)) (alOf (t.fst, t.snd.fst, t.snd.snd)) s).fst.length : Int) ==
    (1 : Int) then ((0 : Int) ≤ (0 : Int) ∧ (0 : Int) < (↑(Rul.writingsB (r1, r2, l) (alOf (f1, f2, f3)) (alOf (t.fst, t.snd.fst, t.snd.snd)) s).fst.length : Int)) ∧ ((Rul.writingsB (r1, r2, l)
    (alOf (f1, f2, f3)) (alOf (t.fst, t.snd.fst, t.snd.snd)) s).fst.getD (Int.toNat (0 : Int)) [] == wantP f2 l (List.take p (Al.readB (alOf (f1, f2, f3)) s).fst)) = true else false = true else
    false = true
    /-CV-/ := by
  simp only [true_and, and_true]
  obtain ⟨g1, g2, g3, g4⟩ := h
  refine ⟨⟨g1, g2, g3⟩, bifP (fun _ => trivial) fun h1 => ?_⟩
  have h1 : (fewRB (r1, r2, l) && (fewAB (f1, f2, f3) && (fewAB t && decide (s.length ≤ 100)))) = true := by
    have h1 : (!(fewRB (r1, r2, l) && (fewAB (f1, f2, f3) && (fewAB t && decide (s.length ≤ 100))))) = false := h1
    simpa using h1
  simp only [Bool.and_eq_true, decide_eq_true_eq] at h1
  obtain ⟨k1, k2, k3, k4⟩ := h1
  have fr := few_of_fewRB k1
  have ff := few_of_fewAB k2
  have ft := few_of_fewAB k3
  have hm60 : ∀ x ∈ l, x.1.length ≤ 60 ∧ x.2.1.length ≤ 60 ∧ x.2.2.1.length ≤ 60 := fun x hx => by
    unfold fewRB at k1
    simp only [Bool.and_eq_true, List.all_eq_true] at k1
    have := k1.2.1 x hx
    unfold small60 at this
    simp only [Bool.and_eq_true, decide_eq_true_eq] at this
    exact this
  have hl90 : l.length ≤ 90 := by
    unfold fewRB at k1
    simp only [Bool.and_eq_true, decide_eq_true_eq] at k1
    exact k1.1
  refine ⟨⟨fr, ff, ft⟩, bifP (fun _ => trivial) fun hv => ?_⟩
  have hv : Rul.validB (r1, r2, l) (alOf (f1, f2, f3)) (alOf t) = true := by
    have hv : (!Rul.validB (r1, r2, l) (alOf (f1, f2, f3)) (alOf t)) = false := hv
    simpa using hv
  have hva : Al.validB (alOf (f1, f2, f3)) = true := by
    unfold Rul.validB at hv
    simp only [Bool.and_eq_true] at hv
    exact hv.2.1
  have hre : ∀ x, Al.readB (alOf (f1, f2, f3)) x = Al.readL f2 x := fun x => by unfold Al.readB; rw [if_pos hva]; rfl
  have hpos := (Rul.pos_of hv).1
  have hw0 : Rul.writingsB (r1, r2, l) (alOf (f1, f2, f3)) (alOf (t.1, t.2.1, t.2.2)) s = if (Al.readL f2 s).2.1 == 0 then Rul.writeL (l.map (Rul.openR f2)) (Al.readL f2 s).1 else ([], 1) := by
    show Rul.writingsB (r1, r2, l) (alOf (f1, f2, f3)) (alOf t) s = _
    unfold Rul.writingsB
    rw [hv, Bool.true_and]; rfl
  refine ⟨⟨0, ⟨Nat.zero_le _, rfl, List.Pairwise.nil⟩, rfl⟩, fun p hp => bifP (fun hb => ?_) fun hb => ?_⟩
  · obtain ⟨hpl, hall, hdis⟩ := hp
    have hlt : p < l.length := by have := of_decide_eq_true hb; omega
    have hx := getD_some l ([], [], [], false) p hlt
    have hmem := List.mem_of_getElem? hx
    have q : ((p : Int)).toNat = p := rfl
    have hxa : xAt l p = l.getD p ([], [], [], false) := rfl
    rw [q, hxa]
    have h60 := hm60 _ hmem
    have htk : l.take (p + 1) = l.take p ++ [l.getD p ([], [], [], false)] := by rw [List.take_add_one, hx]; rfl
    generalize l.getD p ([], [], [], false) = x at *
    rw [hre]
    refine ⟨⟨by omega, by omega⟩, ⟨ff, by omega⟩, bifP (fun _ => trivial) fun e1 => bifP (fun _ => trivial) fun e2 => ⟨⟨by omega, by omega⟩, bifP (fun _ => trivial) fun e3 => ⟨⟨by omega, by omega⟩, bifP (fun _ => trivial) fun e4 => ?_⟩⟩⟩
    have hok : okP f2 x = true := by
      unfold okP
      have a1 : (Al.readL f2 x.1).2.1 = 0 := bne_eq_false_iff_eq.1 e1
      have a2 : (Al.readL f2 x.1).1.length = 1 := by have := bne_eq_false_iff_eq.1 e2; omega
      have a3 : (x.2.2.1 == []) = true := by
        have e3 : (!(x.2.2.1 == [])) = false := e3
        simpa using e3
      have a4 : x.2.2.2 = false := e4
      rw [a1, a2, a3, a4]; rfl
    refine ⟨⟨0, ⟨by omega, fun y hy => by cases hy⟩, rfl⟩, fun j hj => bifP (fun hc => ?_) fun hc => ?_⟩
    · have hjp : j < p := by have := of_decide_eq_true hc; omega
      have hyj := getD_some l ([], [], [], false) j (by omega)
      have qj : ((j : Int)).toNat = j := rfl
      rw [qj]
      refine ⟨⟨by omega, by omega⟩, ⟨by omega, by omega⟩, bifP (fun _ => trivial) fun e5 => ⟨⟨by omega, by omega⟩, j + 1, ⟨by omega, fun y hy => ?_⟩, by omega, by omega⟩⟩
      rw [List.take_add_one, hyj] at hy
      rcases List.mem_append.1 hy with hy | hy
      · exact hj.2 y hy
      · have hy : y = l.getD j ([], [], [], false) := by simpa using hy
        subst hy
        exact beq_eq_false_iff_ne.1 e5
    · have hjp : j = p := by have := of_decide_eq_false hc; have := hj.1; omega
      subst hjp
      refine ⟨⟨by omega, by omega⟩, j + 1, ⟨by omega, ?_, ?_⟩, by omega, by omega⟩
      · rw [htk, List.all_append, hall]; simpa using hok
      · unfold distinct at hdis ⊢
        rw [htk]
        refine List.pairwise_append.2 ⟨hdis, List.pairwise_singleton _ _, fun y hy z hz => ?_⟩
        obtain rfl := List.mem_singleton.1 hz
        exact hj.2 y hy
  · obtain ⟨hpl, hall, hdis⟩ := hp
    have hle : l.length ≤ p := by have := of_decide_eq_false hb; omega
    rw [List.take_of_length_le hle] at hall hdis
    rw [hre, hw0]
    refine ⟨⟨fr, ff, ft, by omega⟩, ⟨ff, by omega⟩, bifP (fun e1 => ?_) fun e1 => ?_⟩
    · have e1 : ¬ (Al.readL f2 s).2.1 = 0 := bne_iff_ne.1 e1
      rw [if_neg (by rw [beq_iff_eq]; exact e1)]
      rfl
    · have e1 : (Al.readL f2 s).2.1 = 0 := bne_eq_false_iff_eq.1 e1
      have hro := Al.read_ok (a := alOf (f1, f2, f3)) (s := s) (by rw [hre]; exact e1)
      rw [hre] at hro
      have hrange : ∀ c ∈ (Al.readL f2 s).1, 0 ≤ c ∧ c < (f2.length : Int) := Al.inRange_mem hro.2.2.2.2.1
      have hw24 := hro.2.2.2.2.2.2
      have hwr := write_plain (a := alOf (f1, f2, f3)) (w := (Al.readL f2 s).1) hva hpos hall hdis hrange
      have hwr : Rul.writeL (l.map (Rul.openR f2)) (Al.readL f2 s).1 = (if wholeP f2 l (Al.readL f2 s).1 then [wantP f2 l (Al.readL f2 s).1] else [], 0) := hwr
      rw [if_pos (by rw [beq_iff_eq]; exact e1), hwr]
      clear hwr hro hw0
      generalize (Al.readL f2 s).1 = w at *
      refine ⟨⟨0, Nat.zero_le _, rfl, rfl, rfl⟩, fun i hi => bifP (fun hc => ?_) fun hc => ?_⟩
      · have hlt : i < w.length := by have := of_decide_eq_true hc; omega
        have q : ((i : Int)).toNat = i := rfl
        rw [q]
        have hcm := List.mem_of_getElem? (getD_some w 0 i hlt)
        obtain ⟨c0, c1⟩ := hrange _ hcm
        obtain ⟨n1, n2⟩ := want_next (L := f2) (l := l) hlt
        have hwl := want_len (L := f2) (m := 60) l (fun x hx => (hm60 x hx).2.1) (w.take i)
        rw [List.length_take, Nat.min_eq_left (by omega)] at hwl
        have hwl : (wantP f2 l (w.take i)).length ≤ 1000000 := by
          have : 60 * l.length * i ≤ 60 * 90 * 24 := Nat.mul_le_mul (by omega) (by omega)
          omega
        generalize w.getD i 0 = c at *
        refine ⟨⟨0, Nat.zero_le _, by simp [tosOf], rfl, rfl⟩, fun j hj => bifP (fun hd => ?_) fun hd => ?_⟩
        · have hjl : j < l.length := by have := of_decide_eq_true hd; omega
          have hy := getD_some l ([], [], [], false) j hjl
          have qj : ((j : Int)).toNat = j := rfl
          rw [qj]
          have hym := hm60 _ (List.mem_of_getElem? hy)
          obtain ⟨t1, t2⟩ := tos_next (L := f2) hy c
          have htl := tos_len (L := f2) (m := 60) (l.take j) (fun x hx => (hm60 x (List.mem_of_mem_take hx)).2.1) c
          rw [List.length_take, Nat.min_eq_left (by omega)] at htl
          have hhit : hit f2 c (l.getD j ([], [], [], false)) = (decide (0 ≤ c) && (decide (c < (f2.length : Int)) && f2.getD c.toNat [] == (l.getD j ([], [], [], false)).1)) := rfl
          generalize l.getD j ([], [], [], false) = y at *
          rw [decide_eq_true c0, decide_eq_true c1, Bool.true_and, Bool.true_and] at hhit
          refine ⟨⟨by omega, by omega⟩, bifP (fun _ => ⟨⟨by omega, by omega⟩, bifP (fun _ => ⟨⟨by omega, by omega⟩, ⟨c0, c1⟩, ⟨by omega, by omega⟩, bifP (fun e => ?_) fun e => ?_⟩) fun e => absurd c1 (of_decide_eq_false e)⟩) fun e => absurd c0 (of_decide_eq_false e)⟩
          · rw [e] at hhit
            rw [hhit, if_pos rfl] at t1
            rw [hhit, Bool.or_true] at t2
            refine ⟨⟨by omega, by omega⟩, by rw [List.length_append]; omega, ⟨by omega, by omega⟩, j + 1, by omega, by omega, ?_, t2.symm, by omega⟩
            rw [t1, List.append_assoc]
          · rw [e] at hhit
            rw [hhit, if_neg Bool.noConfusion, List.append_nil] at t1
            rw [hhit, Bool.or_false] at t2
            exact ⟨⟨by omega, by omega⟩, j + 1, by omega, by omega, by rw [t1], t2.symm, by omega⟩
        · have hjl : l.length ≤ j := by have := of_decide_eq_false hd; omega
          rw [List.take_of_length_le hjl]
          refine bifP (fun e => ?_) fun e => ?_
          · refine ⟨⟨by omega, by omega⟩, i + 1, by omega, by omega, n1.symm, ?_, by omega⟩
            rw [n2, show wholeP f2 l (w.take i) = true from e, Bool.true_and]
          · refine ⟨⟨by omega, by omega⟩, i + 1, by omega, by omega, n1.symm, ?_, by omega⟩
            rw [n2, show wholeP f2 l (w.take i) = false from e, Bool.false_and]
      · have hle2 : w.length ≤ i := by have := of_decide_eq_false hc; omega
        rw [List.take_of_length_le hle2]
        cases hwh : wholeP f2 l w
        · rfl
        · exact ⟨⟨by omega, by show (0 : Int) < 1; omega⟩, by simp⟩
set_option maxRecDepth 100000 in
theorem plainl_holds : cPlainL.Holds Tryz.prog := by
  refine holdsF (cons := consPlain) Tryz.func3 (by kernel_rfl) (by kernel_rfl) mixed (by kernel_rfl) (fun c h => by
    rcases List.mem_cons.1 h with rfl | h
    · exact head11_holds
    rcases List.mem_cons.1 h with rfl | h
    · exact fewa11_holds
    rcases List.mem_cons.1 h with rfl | h
    · exact validr_holds
    rcases List.mem_cons.1 h with rfl | h
    · exact pread_holds
    · obtain rfl := List.mem_singleton.1 h; exact writ_holds) (fun p => anPlain p.1.2.2 p.2.1.2.1 (Al.readB (alOf p.2.1) p.2.2.2).1) fun p hp => ?_
  obtain ⟨⟨r1, r2, l⟩, ⟨f1, f2, f3⟩, t, s⟩ := p
  refine cast ?_ (plainl_vc r1 r2 l f1 f2 f3 t s hp)
  kernel_rfl
end Go.Proofs.YtldnfdghkdibmaaGreatDoor

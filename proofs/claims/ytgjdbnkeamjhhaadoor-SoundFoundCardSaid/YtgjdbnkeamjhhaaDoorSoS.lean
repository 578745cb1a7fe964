/-
  Layer 40: SoundFound.
-/
import Derived.Test.YtgjdbnkeamjhhaaDoorSoR
set_option linter.unusedVariables false
namespace Go.Proofs.YtgjdbnkeamjhhaaDoor
open Go.RowKit
open R
set_option maxRecDepth 100000 in
theorem found_vc (c : CfP) (x y : List UInt8) (h : cFound.pre (c, x, y)) :
    /-VC fun (c : CfP) (x y : List UInt8) => vcOf Tryd.prog consLaw (anFound c x y) cFound Tryd.f5 (c, x, y) -/
    True ∧ [x, y].length ≤ (1000000 : Nat) ∧ bif !fewLB (c, [x, y]) then true = true else bif x == y then true = true else (LongC c ∧ x.length ≤ (1000000 : Nat) ∧ y.length ≤ (1000000 : Nat)) ∧
    bif !Snd.alikeB c x y then true = true else (∃ (p' : Nat), (∀ (m : Nat), m < p' → No x y m c ∧ List.take m x = List.take m y ∧ m ≤ x.length ∧ m ≤ y.length) ∧ ((0 : Int) = (↑p' : Int) ∧ c = c
    ∧ x = x ∧ y = y ∧ true = true ∧ True) ∧ True ∧ True ∧ True) ∧ ∀ (p : Nat), (∀ (m : Nat), m < p → No x y m c ∧ List.take m x = List.take m y ∧ m ≤ x.length ∧ m ≤ y.length) → bif decide ((↑p :
    Int) ≤ (↑x.length : Int)) then bif decide ((↑p : Int) ≤ (↑y.length : Int)) then ((0 : Int) ≤ (0 : Int) ∧ (0 : Int) ≤ (↑p : Int) ∧ (↑p : Int) ≤ (↑x.length : Int)) ∧ ((0 : Int) ≤ (0 : Int) ∧
    (0 : Int) ≤ (↑p : Int) ∧ (↑p : Int) ≤ (↑y.length : Int)) ∧ bif List.drop (Int.toNat (0 : Int)) (List.take (↑p : Int).toNat x) == List.drop (Int.toNat (0 : Int)) (List.take (↑p : Int).toNat
    y) then (∃ (p' : Nat), (p' ≤ List.length c ∧ No x y (↑p : Int).toNat (List.take p' c)) ∧ ((0 : Int) = (↑p' : Int) ∧ c = c ∧ x = x ∧ y = y ∧ true = true ∧ (↑p : Int) = (↑p : Int) ∧ True) ∧
    True ∧ True ∧ True) ∧ ∀ (p_1 : Nat), p_1 ≤ List.length c ∧ No x y (↑p : Int).toNat (List.take p_1 c) → bif decide ((↑p_1 : Int) < (↑(List.length c) : Int)) then (∃ (p' : Nat), (p' ≤ (2 :
    Nat) ∧ ((1 : Nat) ≤ p' → ¬Hit x y (↑p : Int).toNat (List.getD c (↑p_1 : Int).toNat ([], [])).fst (List.getD c (↑p_1 : Int).toNat ([], [])).snd) ∧ ((2 : Nat) ≤ p' → ¬Hit x y (↑p : Int).toNat
    (List.getD c (↑p_1 : Int).toNat ([], [])).snd (List.getD c (↑p_1 : Int).toNat ([], [])).fst)) ∧ ((0 : Int) = (↑p' : Int) ∧ c = c ∧ x = x ∧ y = y ∧ true = true ∧ (↑p : Int) = (↑p : Int) ∧
    (↑p_1 : Int) = (↑p_1 : Int) ∧ True) ∧ True ∧ True ∧ True) ∧ ∀ (p_2 : Nat), p_2 ≤ (2 : Nat) ∧ ((1 : Nat) ≤ p_2 → ¬Hit x y (↑p : Int).toNat (List.getD c (↑p_1 : Int).toNat ([], [])).fst
    (List.getD c (↑p_1 : Int).toNat ([], [])).snd) ∧ ((2 : Nat) ≤ p_2 → ¬Hit x y (↑p : Int).toNat (List.getD c (↑p_1 : Int).toNat ([], [])).snd (List.getD c (↑p_1 : Int).toNat ([], [])).fst) →
    bif decide ((↑p_2 : Int) < (2 : Int)) then ((0 : Int) ≤ (↑p_1 : Int) ∧ (↑p_1 : Int) < (↑(List.length c) : Int)) ∧ ((0 : Int) ≤ (↑p_1 : Int) ∧ (↑p_1 : Int) < (↑(List.length c) : Int)) ∧ bif
    (↑p_2 : Int) == (1 : Int) then ((-9223372036854775808 : Int) ≤ (↑p : Int) + (↑(List.getD c (↑p_1 : Int).toNat ([], [])).snd.length : Int) ∧ (↑p : Int) + (↑(List.getD c (↑p_1 : Int).toNat
    ([], [])).snd.length : Int) ≤ (9223372036854775807 : Int)) ∧ bif decide ((↑p : Int) + (↑(List.getD c (↑p_1 : Int).toNat ([], [])).snd.length : Int) ≤ (↑x.length : Int)) then
    ((-9223372036854775808 : Int) ≤ (↑p : Int) + (↑(List.getD c (↑p_1 : Int).toNat ([], [])).fst.length : Int) ∧ (↑p : Int) + (↑(List.getD c (↑p_1 : Int).toNat ([], [])).fst.length : Int) ≤
    (9223372036854775807 : Int)) ∧ bif decide ((↑p : Int) + (↑(List.getD c (↑p_1 : Int).toNat ([], [])).fst.length : Int) ≤ (↑y.length : Int)) then ((-9223372036854775808 : Int) ≤ (↑p : Int) +
    (↑(List.getD c (↑p_1 : Int).toNat ([], [])).snd.length : Int) ∧ (↑p : Int) + (↑(List.getD c (↑p_1 : Int).toNat ([], [])).snd.length : Int) ≤ (9223372036854775807 : Int)) ∧ ((0 : Int) ≤ (↑p :
    Int) ∧ (↑p : Int) ≤ (↑p : Int) + (↑(List.getD c (↑p_1 : Int).toNat ([], [])).snd.length : Int) ∧ (↑p : Int) + (↑(List.getD c (↑p_1 : Int).toNat ([], [])).snd.length : Int) ≤ (↑x.length :
    Int)) ∧ bif List.drop (↑p : Int).toNat (List.take ((↑p : Int) + (↑(List.getD c (↑p_1 : Int).toNat ([], [])).snd.length : Int)).toNat x) == (List.getD c (↑p_1 : Int).toNat ([], [])).snd then
    ((-9223372036854775808 : Int) ≤ (↑p : Int) + (↑(List.getD c (↑p_1 : Int).toNat ([], [])).fst.length : Int) ∧ (↑p : Int) + (↑(List.getD c (↑p_1 : Int).toNat ([], [])).fst.length : Int) ≤
    (9223372036854775807 : Int)) ∧ ((0 : Int) ≤ (↑p : Int) ∧ (↑p : Int) ≤ (↑p : Int) + (↑(List.getD c (↑p_1 : Int).toNat ([], [])).fst.length : Int) ∧ (↑p : Int) + (↑(List.getD c (↑p_1 :
    Int).toNat ([], [])).fst.length : Int) ≤ (↑y.length : Int)) ∧ bif List.drop (↑p : Int).toNat (List.take ((↑p : Int) + (↑(List.getD c (↑p_1 : Int).toNat ([], [])).fst.length : Int)).toNat y)
    == (List.getD c (↑p_1 : Int).toNat ([], [])).fst then ((-9223372036854775808 : Int) ≤ (↑p : Int) + (↑(List.getD c (↑p_1 : Int).toNat ([], [])).snd.length : Int) ∧ (↑p : Int) + (↑(List.getD c
    (↑p_1 : Int).toNat ([], [])).snd.length : Int) ≤ (9223372036854775807 : Int)) ∧ ((0 : Int) ≤ (↑p : Int) + (↑(List.getD c (↑p_1 : Int).toNat ([], [])).snd.length : Int) ∧ (↑p : Int) +
    (↑(List.getD c (↑p_1 : Int).toNat ([], [])).snd.length : Int) ≤ (↑x.length : Int) ∧ (↑x.length : Int) ≤ (↑x.length : Int)) ∧ ((-9223372036854775808 : Int) ≤ (↑p : Int) + (↑(List.getD c (↑p_1
    : Int).toNat ([], [])).fst.length : Int) ∧ (↑p : Int) + (↑(List.getD c (↑p_1 : Int).toNat ([], [])).fst.length : Int) ≤ (9223372036854775807 : Int)) ∧ ((0 : Int) ≤ (↑p : Int) + (↑(List.getD
    c (↑p_1 : Int).toNat ([], [])).fst.length : Int) ∧ (↑p : Int) + (↑(List.getD c (↑p_1 : Int).toNat ([], [])).fst.length : Int) ≤ (↑y.length : Int) ∧ (↑y.length : Int) ≤ (↑y.length : Int)) ∧
    bif List.drop ((↑p : Int) + (↑(List.getD c (↑p_1 : Int).toNat ([], [])).snd.length : Int)).toNat (List.take (↑x.length : Int).toNat x) == List.drop ((↑p : Int) + (↑(List.getD c (↑p_1 :
    Int).toNat ([], [])).fst.length : Int)).toNat (List.take (↑y.length : Int).toNat y) then true = true else ((-9223372036854775808 : Int) ≤ (↑p_2 : Int) + (1 : Int) ∧ (↑p_2 : Int) + (1 : Int)
    ≤ (9223372036854775807 : Int)) ∧ ∃ (p' : Nat), (p' ≤ (2 : Nat) ∧ ((1 : Nat) ≤ p' → ¬Hit x y (↑p : Int).toNat (List.getD c (↑p_1 : Int).toNat ([], [])).fst (List.getD c (↑p_1 : Int).toNat
    ([], [])).snd) ∧ ((2 : Nat) ≤ p' → ¬Hit x y (↑p : Int).toNat (List.getD c (↑p_1 : Int).toNat ([], [])).snd (List.getD c (↑p_1 : Int).toNat ([], [])).fst)) ∧ (2 : Nat) - p' < (2 : Nat) - p_2
    ∧ ((↑p_2 : Int) + (1 : Int) = (↑p' : Int) ∧ c = c ∧ x = x ∧ y = y ∧ true = true ∧ (↑p : Int) = (↑p : Int) ∧ (↑p_1 : Int) = (↑p_1 : Int) ∧ True) ∧ True ∧ True ∧ True else
    ((-9223372036854775808 : Int) ≤ (↑p_2 : Int) + (1 : Int) ∧ (↑p_2 : Int) + (1 : Int) ≤ (9223372036854775807 : Int)) ∧ ∃ (p' : Nat), (p' ≤ (2 : Nat) ∧ ((1 : Nat) ≤ p' → ¬Hit x y (↑p :
    Int).toNat (List.getD c (↑p_1 : Int).toNat ([], [])).fst (List.getD c (↑p_1 : Int).toNat ([], [])).snd) ∧ ((2 : Nat) ≤ p' → ¬Hit x y (↑p : Int).toNat (List.getD c (↑p_1 : Int).toNat ([],
    [])).snd (List.getD c (↑p_1 : Int).toNat ([], [])).fst)) ∧ (2 : Nat) - p' < (2 : Nat) - p_2 ∧ ((↑p_2 : Int) + (1 : Int) = (↑p' : Int) ∧ c = c ∧ x = x ∧ y = y ∧ true = true ∧ (↑p : Int) = (↑p
    : Int) ∧ (↑p_1 : Int) = (↑p_1 : Int) ∧ True) ∧ True ∧ True ∧ True else ((-9223372036854775808 : Int) ≤ (↑p_2 : Int) + (1 : Int) ∧ (↑p_2 : Int) + (1 : Int) ≤ (9223372036854775807 : Int)) ∧ ∃
    (p' : Nat), (p' ≤ (2 : Nat) ∧ ((1 : Nat) ≤ p' → ¬Hit x y (↑p : Int).toNat (List.getD c (↑p_1 : Int).toNat ([], [])).fst (List.getD c (↑p_1 : Int).toNat ([], [])).snd) ∧ ((2 : Nat) ≤ p' →
    ¬Hit x y (↑p : Int).toNat (List.getD c (↑p_1 : Int).toNat ([], [])).snd (List.getD c (↑p_1 : Int).toNat ([], [])).fst)) ∧ (2 : Nat) - p' < (2 : Nat) - p_2 ∧ ((↑p_2 : Int) + (1 : Int) = (↑p'
    : Int) ∧ c = c ∧ x = x ∧ y = y ∧ true = true ∧ (↑p : Int) = (↑p : Int) ∧ (↑p_1 : Int) = (↑p_1 : Int) ∧ True) ∧ True ∧ True ∧ True else ((-9223372036854775808 : Int) ≤ (↑p_2 : Int) + (1 :
    Int) ∧ (↑p_2 : Int) + (1 : Int) ≤ (9223372036854775807 : Int)) ∧ ∃ (p' : Nat), (p' ≤ (2 : Nat) ∧ ((1 : Nat) ≤ p' → ¬Hit x y (↑p : Int).toNat (List.getD c (↑p_1 : Int).toNat ([], [])).fst
    (List.getD c (↑p_1 : Int).toNat ([], [])).snd) ∧ ((2 : Nat) ≤ p' → ¬Hit x y (↑p : Int).toNat (List.getD c (↑p_1 : Int).toNat ([], [])).snd (List.getD c (↑p_1 : Int).toNat ([], [])).fst)) ∧
    (2 : Nat) - p' < (2 : Nat) - p_2 ∧ ((↑p_2 : Int) + (1 : Int) = (↑p' : Int) ∧ c = c ∧ x = x ∧ y = y ∧ true = true ∧ (↑p : Int) = (↑p : Int) ∧ (↑p_1 : Int) = (↑p_1 : Int) ∧ True) ∧ True ∧ True
    ∧ True else ((-9223372036854775808 : Int) ≤ (↑p_2 : Int) + (1 : Int) ∧ (↑p_2 : Int) + (1 : Int) ≤ (9223372036854775807 : Int)) ∧ ∃ (p' : Nat), (p' ≤ (2 : Nat) ∧ ((1 : Nat) ≤ p' → ¬Hit x y
    (↑p : Int).toNat (List.getD c (↑p_1 : Int).toNat ([], [])).fst (List.getD c (↑p_1 : Int).toNat ([], [])).snd) ∧ ((2 : Nat) ≤ p' → ¬Hit x y (↑p : Int).toNat (List.getD c (↑p_1 : Int).toNat
    ([], [])).snd (List.getD c (↑p_1 : Int).toNat ([], [])).fst)) ∧ (2 : Nat) - p' < (2 : Nat) - p_2 ∧ ((↑p_2 : Int) + (1 : Int) = (↑p' : Int) ∧ c = c ∧ x = x ∧ y = y ∧ true = true ∧ (↑p : Int)
    = (↑p : Int) ∧ (↑p_1 : Int) = (↑p_1 : Int) ∧ True) ∧ True ∧ True ∧ True else ((-9223372036854775808 : Int) ≤ (↑p : Int) + (↑(List.getD c (↑p_1 : Int).toNat ([], [])).fst.length : Int) ∧ (↑p
    : Int) + (↑(List.getD c (↑p_1 : Int).toNat ([], [])).fst.length : Int) ≤ (9223372036854775807 : Int)) ∧ bif decide ((↑p : Int) + (↑(List.getD c (↑p_1 : Int).toNat ([], [])).fst.length : Int)
    ≤ (↑x.length : Int)) then ((-9223372036854775808 : Int) ≤ (↑p : Int) + (↑(List.getD c (↑p_1 : Int).toNat ([], [])).snd.length : Int) ∧ (↑p : Int) + (↑(List.getD c (↑p_1 : Int).toNat ([],
    [])).snd.length : Int) ≤ (9223372036854775807 : Int)) ∧ bif decide ((↑p : Int) + (↑(List.getD c (↑p_1 : Int).toNat ([], [])).snd.length : Int) ≤ (↑y.length : Int)) then
    ((-9223372036854775808 : Int) ≤ (↑p : Int) + (↑(List.getD c (↑p_1 : Int).toNat ([], [])).fst.length : Int) ∧ (↑p : Int) + (↑(List.getD c (↑p_1 : Int).toNat ([], [])).fst.length : Int) ≤
    (9223372036854775807 : Int)) ∧ ((0 : Int) ≤ (↑p : Int) ∧ (↑p : Int) ≤ (↑p : Int) + (↑(List.getD c (↑p_1 : Int).toNat ([], [])).fst.length : Int) ∧ (↑p : Int) + (↑(List.getD c (↑p_1 :
    Int).toNat ([], [])).fst.length : Int) ≤ (↑x.length : Int)) ∧ bif List.drop (↑p : Int).toNat (List.take ((↑p : Int) + (↑(List.getD c (↑p_1 : Int).toNat ([], [])).fst.length : Int)).toNat x)
    == (List.getD c (↑p_1 : Int).toNat ([], [])).fst then ((-9223372036854775808 : Int) ≤ (↑p : Int) + (↑(List.getD c (↑p_1 : Int).toNat ([], [])).snd.length : Int) ∧ (↑p : Int) + (↑(List.getD c
    (↑p_1 : Int).toNat ([], [])).snd.length : Int) ≤ (9223372036854775807 : Int)) ∧ ((0 : Int) ≤ (↑p : Int) ∧ (↑p : Int) ≤ (↑p : Int) + (↑(List.getD c (↑p_1 : Int).toNat ([], [])).snd.length :
    Int) ∧ (↑p : Int) + (↑(List.getD c (↑p_1 : Int).toNat ([], [])).snd.length : Int) ≤ (↑y.length : Int)) ∧ bif List.drop (↑p : Int).toNat (List.take ((↑p : Int) + (↑(List.getD c (↑p_1 :
    Int).toNat ([], [])).snd.length : Int)).toNat y) == (List.getD c (↑p_1 : Int).toNat ([], [])).snd then ((-9223372036854775808 : Int) ≤ (↑p : Int) + (↑(List.getD c (↑p_1 : Int).toNat ([],
    [])).fst.length : Int) ∧ (↑p : Int) + (↑(List.getD c (↑p_1 : Int).toNat ([], [])).fst.length : Int) ≤ (9223372036854775807 : Int)) ∧ ((0 : Int) ≤ (↑p : Int) + (↑(List.getD c (↑p_1 :
    Int).toNat ([], [])).fst.length : Int) ∧ (↑p : Int) + (↑(List.getD c (↑p_1 : Int).toNat ([], [])).fst.length : Int) ≤ (↑x.length : Int) ∧ (↑x.length : Int) ≤ (↑x.length : Int)) ∧
    ((-9223372036854775808 : Int) ≤ (↑p : Int) + (↑(List.getD c (↑p_1 : Int).toNat ([], [])).snd.length : Int) ∧ (↑p : Int) + (↑(List.getD c (↑p_1 : Int).toNat ([], [])).snd.length : Int) ≤
    (9223372036854775807 : Int)) ∧ ((0 : Int) ≤ (↑p : Int) + (↑(List.getD c (↑p_1 : Int).toNat ([], [])).snd.length : Int) ∧ (↑p : Int) + (↑(List.getD c (↑p_1 : Int).toNat ([], [])).snd.length :
    Int) ≤ (↑y.length : Int) ∧ (↑y.length : Int) ≤ (↑y.length : Int)) ∧ bif List.drop ((↑p : Int) + (↑(List.getD c (↑p_1 : Int).toNat ([], [])).fst.length : Int)).toNat (List.take (↑x.length :
    Int).toNat x) == List.drop ((↑p : Int) + (↑(List.getD c (↑p_1 : Int).toNat ([], [])).snd.length : Int)).toNat (List.take (↑y.length : Int).toNat y) then true = true else
    ((-9223372036854775808 : Int) ≤ (↑p_2 : Int) + (1 : Int) ∧ (↑p_2 : Int) + (1 : Int) ≤ (9223372036854775807 : Int)) ∧ ∃ (p' : Nat), (p' ≤ (2 : Nat) ∧ ((1 : Nat) ≤ p' → ¬Hit x y (↑p :
    Int).toNat (List.getD c (↑p_1 : Int).toNat ([], [])).fst (List.getD c (↑p_1 : Int).toNat ([], [])).snd) ∧ ((2 : Nat) ≤ p' → ¬Hit x y (↑p : Int).toNat (List.getD c (↑p_1 : Int).toNat ([],
    [])).snd (List.getD c (↑p_1 : Int).toNat ([], [])).fst)) ∧ (2 : Nat) - p' < (2 : Nat) - p_2 ∧ ((↑p_2 : Int) + (1 : Int) = (↑p' : Int) ∧ c = c ∧ x = x ∧ y = y ∧ true = true ∧ (↑p : Int) = (↑p
    : Int) ∧ (↑p_1 : Int) = (↑p_1 : Int) ∧ True) ∧ True ∧ True ∧ True else ((-9223372036854775808 : Int) ≤ (↑p_2 : Int) + (1 : Int) ∧ (↑p_2 : Int) + (1 : Int) ≤ (9223372036854775807 : Int)) ∧ ∃
    (p' : Nat), (p' ≤ (2 : Nat) ∧ ((1 : Nat) ≤ p' → ¬Hit x y (↑p : Int).toNat (List.getD c (↑p_1 : Int).toNat ([], [])).fst (List.getD c (↑p_1 : Int).toNat ([], [])).snd) ∧ ((2 : Nat) ≤ p' →
    ¬Hit x y (↑p : Int).toNat (List.getD c (↑p_1 : Int).toNat ([], [])).snd (List.getD c (↑p_1 : Int).toNat ([], [])).fst)) ∧ (2 : Nat) - p' < (2 : Nat) - p_2 ∧ ((↑p_2 : Int) + (1 : Int) = (↑p'
    : Int) ∧ c = c ∧ x = x ∧ y = y ∧ true = true ∧ (↑p : Int) = (↑p : Int) ∧ (↑p_1 : Int) = (↑p_1 : Int) ∧ True) ∧ True ∧ True ∧ True else ((-9223372036854775808 : Int) ≤ (↑p_2 : Int) + (1 :
    Int) ∧ (↑p_2 : Int) + (1 : Int) ≤ (9223372036854775807 : Int)) ∧ ∃ (p' : Nat), (p' ≤ (2 : Nat) ∧ ((1 : Nat) ≤ p' → ¬Hit x y (↑p : Int).toNat (List.getD c (↑p_1 : Int).toNat ([], [])).fst
    (List.getD c (↑p_1 : Int).toNat ([], [])).snd) ∧ ((2 : Nat) ≤ p' → ¬Hit x y (↑p : Int).toNat (List.getD c (↑p_1 : Int).toNat ([], [])).snd (List.getD c (↑p_1 : Int).toNat ([], [])).fst)) ∧
    (2 : Nat) - p' < (2 : Nat) - p_2 ∧ ((↑p_2 : Int) + (1 : Int) = (↑p' : Int) ∧ c = c ∧ x = x ∧ y = y ∧ true = true ∧ (↑p : Int) = (↑p : Int) ∧ (↑p_1 : Int) = (↑p_1 : Int) ∧ True) ∧ True ∧ True
    ∧ True else ((-9223372036854775808 : Int) ≤ (↑p_2 : Int) + (1 : Int) ∧ (↑p_2 : Int) + (1 : Int) ≤ (9223372036854775807 : Int)) ∧ ∃ (p' : Nat), (p' ≤ (2 : Nat) ∧ ((1 : Nat) ≤ p' → ¬Hit x y
    (↑p : Int).toNat (List.getD c (↑p_1 : Int).toNat ([], [])).fst (List.getD c (↑p_1 : Int).toNat ([], [])).snd) ∧ ((2 : Nat) ≤ p' → ¬Hit x y (↑p : Int).toNat (List.getD c (↑p_1 : Int).toNat
    ([], [])).snd (List.getD c (↑p_1 : Int).toNat ([], [])).fst)) ∧ (2 : Nat) - p' < (2 : Nat) - p_2 ∧ ((↑p_2 : Int) + (1 : Int) = (↑p' : Int) ∧ c = c ∧ x = x ∧ y = y ∧ true = true ∧ (↑p : Int)
    = (↑p : Int) ∧ (↑p_1 : Int) = (↑p_1 : Int) ∧ True) ∧ True ∧ True ∧ True else ((-9223372036854775808 : Int) ≤ (↑p_2 : Int) + (1 : Int) ∧ (↑p_2 : Int) + (1 : Int) ≤ (9223372036854775807 :
    Int)) ∧ ∃ (p' : Nat), (p' ≤ (2 : Nat) ∧ ((1 : Nat) ≤ p' → ¬Hit x y (↑p : Int).toNat (List.getD c (↑p_1 : Int).toNat ([], [])).fst (List.getD c (↑p_1 : Int).toNat ([], [])).snd) ∧ ((2 : Nat)
    ≤ p' → ¬Hit x y (↑p : Int).toNat (List.getD c (↑p_1 : Int).toNat ([], [])).snd (List.getD c (↑p_1 : Int).toNat ([], [])).fst)) ∧ (2 : Nat) - p' < (2 : Nat) - p_2 ∧ ((↑p_2 : Int) + (1 : Int)
    = (↑p' : Int) ∧ c = c ∧ x = x ∧ y = y ∧ true = true ∧ (↑p : Int) = (↑p : Int) ∧ (↑p_1 : Int) = (↑p_1 : Int) ∧ True) ∧ True ∧ True ∧ True else ((-9223372036854775808 : Int) ≤ (↑p_1 : Int) +
    (1 : Int) ∧ (↑p_1 : Int) + (1 : Int) ≤ (9223372036854775807 : Int)) ∧ ∃ (p' : Nat), (p' ≤ List.length c ∧ No x y (↑p : Int).toNat (List.take p' c)) ∧ List.length c - p' < List.length c - p_1
    ∧ ((↑p_1 : Int) + (1 : Int) = (↑p' : Int) ∧ c = c ∧ x = x ∧ y = y ∧ true = true ∧ (↑p : Int) = (↑p : Int) ∧ True) ∧ True ∧ True ∧ True else ((-9223372036854775808 : Int) ≤ (↑p : Int) + (1 :
    Int) ∧ (↑p : Int) + (1 : Int) ≤ (9223372036854775807 : Int)) ∧ ∃ (p' : Nat), (∀ (m : Nat), m < p' → No x y m c ∧ List.take m x = List.take m y ∧ m ≤ x.length ∧ m ≤ y.length) ∧ x.length + (1
    : Nat) - p' < x.length + (1 : Nat) - p ∧ ((↑p : Int) + (1 : Int) = (↑p' : Int) ∧ c = c ∧ x = x ∧ y = y ∧ true = true ∧ True) ∧ True ∧ True ∧ True else false = true else false = true else
    false = true
    /-CV-/ := by
  have hlen : [x, y].length ≤ 1000000 := by show 2 ≤ 1000000; omega
  simp only [true_and, and_true]
  refine ⟨hlen, bifP (fun _ => trivial) fun hf => bifP (fun _ => trivial) fun hxy => ?_⟩
  have hf : fewLB (c, [x, y]) = true := by simpa using hf
  obtain ⟨hc, hws⟩ := few_out hf
  have hx : x.length ≤ 100 := hws x (by simp)
  have hy : y.length ≤ 100 := hws y (by simp)
  have hL := long_of hc
  have hcn : c.length ≤ 30 := hc.1
  have hxy : x ≠ y := beq_eq_false_iff_ne.1 hxy
  refine ⟨⟨hL, by omega, by omega⟩, bifP (fun _ => trivial) fun ha => ?_⟩
  have ha : Snd.alikeB c x y = true := by simpa using ha
  obtain ⟨_, _, _, hs⟩ := Snd.alike_out ha
  obtain ⟨n0, hn0, hx0, hy0, q, hq, hhit⟩ : ∃ n, x.take n = y.take n ∧ n ≤ x.length ∧ n ≤ y.length ∧ ∃ q ∈ c, Hit x y n q.1 q.2 ∨ Hit x y n q.2 q.1 := by
    rcases Snd.sounds_iff.1 hs with e | ⟨q, hq, hr⟩
    · exact absurd e hxy
    · have key : ∀ a b u v : List UInt8, x = u ++ a ++ v → y = u ++ b ++ v → x.take u.length = y.take u.length ∧ u.length ≤ x.length ∧ u.length ≤ y.length ∧ Hit x y u.length a b := fun a b u v e1 e2 => by
        subst e1; subst e2
        refine ⟨?_, by simp, by simp, by simp, by simp, ?_, ?_, ?_⟩
        · rw [List.append_assoc, List.append_assoc, List.take_left, List.take_left]
        · rw [← List.length_append, List.take_left, List.drop_left]
        · rw [← List.length_append, List.take_left, List.drop_left]
        · rw [← List.length_append, ← List.length_append, List.drop_left, List.drop_left]
      rcases hr with ⟨u, v, e1, e2⟩ | ⟨u, v, e1, e2⟩
      · obtain ⟨k1, k2, k3, k4⟩ := key _ _ u v e1 e2
        exact ⟨_, k1, k2, k3, q, hq, .inl k4⟩
      · obtain ⟨k1, k2, k3, k4⟩ := key _ _ u v e1 e2
        exact ⟨_, k1, k2, k3, q, hq, .inr k4⟩
  refine ⟨⟨0, fun m hm => by omega, rfl⟩, ?_⟩
  intro p hinv
  have hpn : p ≤ n0 := by
    rcases Nat.lt_or_ge n0 p with h | h
    · have := (hinv n0 h).1 q hq
      rcases hhit with h' | h'
      · exact absurd h' this.1
      · exact absurd h' this.2
    · exact h
  have hti : ((p : Int).toNat) = p := rfl
  have htz : (Int.toNat 0) = 0 := rfl
  have htk : x.take p = y.take p := by
    have := congrArg (List.take p) hn0
    rwa [List.take_take, List.take_take, Nat.min_eq_left hpn] at this
  refine bifP (fun h1 => bifP (fun h2 => ⟨⟨by omega, by omega, by omega⟩, ⟨by omega, by omega, by omega⟩, bifP (fun h3 => ?_) fun h3 => ?_⟩) fun h2 => ?_) fun h1 => ?_
  rotate_left
  · rw [hti, htk, beq_self_eq_true] at h3; cases h3
  · have := of_decide_eq_false h2; omega
  · have := of_decide_eq_false h1; omega
  have h1 : p ≤ x.length := by omega
  have h2 : p ≤ y.length := by omega
  clear h3
  simp only [hti]
  refine ⟨⟨0, ⟨Nat.zero_le _, fun z hz => by cases hz⟩, rfl⟩, ?_⟩
  rintro k ⟨hk, hno⟩
  have htk2 : ((k : Int).toNat) = k := rfl
  simp only [htk2]
  refine bifP (fun hb => ?_) fun hb => ?_
  · have hkl : k < c.length := by have := of_decide_eq_true hb; omega
    have hmem := Snd.mem_getD c ([], []) k hkl
    have hql := hc.2 _ hmem
    have htake := Snd.take_getD c ([], []) k hkl
    generalize c.getD k ([], []) = Q at *
    obtain ⟨a, b⟩ := Q
    have hal : a.length ≤ 100 := hql.1
    have hbl : b.length ≤ 100 := hql.2
    dsimp only
    refine ⟨⟨0, ⟨Nat.zero_le _, fun h => by omega, fun h => by omega⟩, rfl⟩, ?_⟩
    rintro m ⟨hm, hm1, hm2⟩
    have hm1 : 1 ≤ m → ¬ Hit x y p a b := hm1
    have hm2 : 2 ≤ m → ¬ Hit x y p b a := hm2
    refine bifP (fun hb => ?_) fun hb => ?_
    · have hml : m < 2 := by have := of_decide_eq_true hb; omega
      have nxt : (m = 0 → ¬ Hit x y p a b) → (m = 1 → ¬ Hit x y p b a) → (-9223372036854775808 ≤ (m : Int) + 1 ∧ (m : Int) + 1 ≤ 9223372036854775807) ∧ ∃ p' : Nat, (p' ≤ 2 ∧ (1 ≤ p' → ¬ Hit x y p a b) ∧ (2 ≤ p' → ¬ Hit x y p b a)) ∧ 2 - p' < 2 - m ∧ (m : Int) + 1 = (p' : Int) := fun g0 g1 => by
        refine ⟨⟨by omega, by omega⟩, m + 1, ⟨by omega, fun _ => ?_, fun h => g1 (by omega)⟩, by omega, by omega⟩
        by_cases e : m = 0
        · exact g0 e
        · exact hm1 (by omega)
      refine ⟨⟨by omega, by omega⟩, ⟨by omega, by omega⟩, bifP (fun hb1 => ?_) fun hb1 => ?_⟩
      · have hm1' : m = 1 := by have := beq_iff_eq.1 hb1; omega
        have nx : ¬ Hit x y p b a → _ := fun g => nxt (fun h => by omega) (fun _ => g)
        refine ⟨⟨by omega, by omega⟩, bifP (fun h1 => ⟨⟨by omega, by omega⟩, bifP (fun h2 => ?_) fun h2 => nx fun hh => ?_⟩) fun h1 => nx fun hh => ?_⟩
        rotate_left
        · have := of_decide_eq_false h2; have := hh.2.1; omega
        · have := of_decide_eq_false h1; have := hh.1; omega
        have h1 : p + b.length ≤ x.length := by have := of_decide_eq_true h1; omega
        have h2 : p + a.length ≤ y.length := by have := of_decide_eq_true h2; omega
        refine ⟨⟨by omega, by omega⟩, ⟨by omega, by omega, by omega⟩, bifP (fun h3 => ⟨⟨by omega, by omega⟩, ⟨by omega, by omega, by omega⟩, bifP (fun h4 => ⟨⟨by omega, by omega⟩, ⟨by omega, by omega, by omega⟩, ⟨by omega, by omega⟩, ⟨by omega, by omega, by omega⟩, bifP (fun _ => trivial) fun h5 => nx fun hh => ?_⟩) fun h4 => nx fun hh => ?_⟩) fun h3 => nx fun hh => ?_⟩
        · have e : List.drop (p + b.length) (List.take x.length x) = List.drop (p + a.length) (List.take y.length y) := by
            rw [List.take_length, List.take_length]; exact hh.2.2.2.2
          exact (beq_eq_false_iff_ne.1 h5) e
        · exact (beq_eq_false_iff_ne.1 h4) hh.2.2.2.1
        · exact (beq_eq_false_iff_ne.1 h3) hh.2.2.1
      · have hm0 : m = 0 := by have := beq_eq_false_iff_ne.1 hb1; omega
        have nx : ¬ Hit x y p a b → _ := fun g => nxt (fun _ => g) (fun h => by omega)
        refine ⟨⟨by omega, by omega⟩, bifP (fun h1 => ⟨⟨by omega, by omega⟩, bifP (fun h2 => ?_) fun h2 => nx fun hh => ?_⟩) fun h1 => nx fun hh => ?_⟩
        rotate_left
        · have := of_decide_eq_false h2; have := hh.2.1; omega
        · have := of_decide_eq_false h1; have := hh.1; omega
        have h1 : p + a.length ≤ x.length := by have := of_decide_eq_true h1; omega
        have h2 : p + b.length ≤ y.length := by have := of_decide_eq_true h2; omega
        refine ⟨⟨by omega, by omega⟩, ⟨by omega, by omega, by omega⟩, bifP (fun h3 => ⟨⟨by omega, by omega⟩, ⟨by omega, by omega, by omega⟩, bifP (fun h4 => ⟨⟨by omega, by omega⟩, ⟨by omega, by omega, by omega⟩, ⟨by omega, by omega⟩, ⟨by omega, by omega, by omega⟩, bifP (fun _ => trivial) fun h5 => nx fun hh => ?_⟩) fun h4 => nx fun hh => ?_⟩) fun h3 => nx fun hh => ?_⟩
        · have e : List.drop (p + a.length) (List.take x.length x) = List.drop (p + b.length) (List.take y.length y) := by
            rw [List.take_length, List.take_length]; exact hh.2.2.2.2
          exact (beq_eq_false_iff_ne.1 h5) e
        · exact (beq_eq_false_iff_ne.1 h4) hh.2.2.2.1
        · exact (beq_eq_false_iff_ne.1 h3) hh.2.2.1
    · have hm2' : m = 2 := by have := of_decide_eq_false hb; omega
      subst hm2'
      refine ⟨⟨by omega, by omega⟩, k + 1, ⟨by omega, ?_⟩, by omega, by omega⟩
      intro z hz
      rw [htake, List.mem_append] at hz
      rcases hz with hz | hz
      · exact hno z hz
      · rw [List.mem_singleton.1 hz]
        exact ⟨hm1 (by omega), hm2 (by omega)⟩
  · have hkl : c.length ≤ k := by have := of_decide_eq_false hb; omega
    rw [List.take_of_length_le hkl] at hno
    refine ⟨⟨by omega, by omega⟩, p + 1, fun m hm => ?_, by omega, by omega⟩
    by_cases e : m = p
    · subst e; exact ⟨hno, htk, h1, h2⟩
    · exact hinv m (by omega)
set_option maxRecDepth 100000 in
theorem found_holds : cFound.Holds Tryd.prog := by
  refine holdsF (cons := consLaw) Tryd.func5 (by kernel_rfl) (by kernel_rfl) mixed (by kernel_rfl) consLaw_hold (fun p => anFound p.1 p.2.1 p.2.2) fun p hp => ?_
  obtain ⟨c, x, y⟩ := p
  refine cast ?_ (found_vc c x y hp)
  kernel_rfl
end Go.Proofs.YtgjdbnkeamjhhaaDoor

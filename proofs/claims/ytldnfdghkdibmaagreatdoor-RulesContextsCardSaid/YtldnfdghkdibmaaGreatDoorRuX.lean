/-
  Layer 11: contracts of the statements' small functions.
-/
import Derived.Test.YtldnfdghkdibmaaGreatDoorRuE
import Derived.Test.YtldnfdghkdibmaaGreatDoorRuV
import Derived.Test.YtldnfdghkdibmaaGreatDoorMP
set_option linter.unusedVariables false
namespace Go.Proofs.YtldnfdghkdibmaaGreatDoor
open Go.RowKit
open R
def cTexts : Con := .of 15 [ckStrs, ckStrs] [.one .bool] (fun p => List.length p.1 ≤ 1000000000 ∧ List.length p.2 ≤ 1000000000) (fun p => p.1 == p.2)
def anTexts (a b : List (List UInt8)) : List (Nat × Ann) := [ann 0 Nat [0, 1] (fun k => [(5, R.int .i64 k)]) (fun k => k ≤ a.length ∧ a.take k = b.take k) (fun k => a.length - k)]
def cSame : Con := .of 19 [ckRules, ckRules] [.one .bool] (fun p => List.length p.1.2.2 ≤ 1000000000 ∧ List.length p.2.2.2 ≤ 1000000000) (fun p => p.1.1 == p.2.1 && (p.1.2.1 == p.2.2.1 && p.1.2.2 == p.2.2.2))
def anSame (a b : List Rul.Rule) : List (Nat × Ann) := [ann 0 Nat [2, 3] (fun k => [(5, R.int .i64 k)]) (fun k => k ≤ a.length ∧ a.take k = b.take k) (fun k => a.length - k)]
def small60 (x : Rul.Rule) : Bool := decide (x.1.length ≤ 60) && (decide (x.2.1.length ≤ 60) && decide (x.2.2.1.length ≤ 60))
def fewRB (r : Rul.Rules) : Bool := decide (r.2.2.length ≤ 90) && (r.2.2.all small60 && (decide (r.1.length ≤ 60) && decide (r.2.1.length ≤ 60)))
def BigR (r : Rul.Rules) : Prop := CK.Big ckRules r
def BigA (p : AlP) : Prop := CK.Big ckAl p
def cFewR : Con := .of 28 [ckRules] [.one .bool] BigR fewRB
def anFew (r : Rul.Rules) : List (Nat × Ann) := [ann 0 Nat [1] (fun k => [(3, R.int .i64 k)]) (fun k => k ≤ r.2.2.length ∧ k ≤ 90 ∧ (r.2.2.take k).all small60 = true) (fun k => r.2.2.length - k)]
def fewAB (p : AlP) : Bool := decide (p.2.1.length ≤ 70) && (p.2.1.all (fun l => decide (List.length l ≤ 20)) && (decide (p.2.2.length ≤ 70) && decide (p.1.length ≤ 100)))
def cFewAl : Con := .of 31 [ckAl] [.one .bool] BigA fewAB
def anFewAl (ls : List (List UInt8)) : List (Nat × Ann) := [ann 0 Nat [1] (fun k => [(3, R.int .i64 k)]) (fun k => k ≤ ls.length ∧ k ≤ 70 ∧ (ls.take k).all (fun l => decide (List.length l ≤ 20)) = true) (fun k => ls.length - k)]
def cIntsR : Con := .of 44 [ckInts, ckInts] [.one .bool] (fun p => List.length p.1 ≤ 1000000000000000 ∧ List.length p.2 ≤ 1000000000000000) (fun p => p.1 == p.2)
def anIntsR (a b : List Int) : List (Nat × Ann) := [ann 0 Nat [0, 1] (fun k => [(5, R.int .i64 k)]) (fun k => k ≤ a.length ∧ a.take k = b.take k) (fun k => a.length - k)]
def cFewA11 : Con := .of 11 [ckRules, ckAl, ckAl, ckStr] [.one .bool] (fun p => BigR p.1 ∧ BigA p.2.1 ∧ BigA p.2.2.1) (fun p => fewRB p.1 && (fewAB p.2.1 && (fewAB p.2.2.1 && decide (List.length p.2.2.2 ≤ 100))))
def cLetters : Con := .of 29 [ckStr, ckStr, ckStr, ckStr] [ckAl] (fun _ => True) (fun p => (p.1, [p.2.1, p.2.2.1, p.2.2.2], [0, 1, 2]))
def exR : Rul.Rules := ([112], [113], [([97], [120], [], false), ([98], [121], [], false), ([110], [122], [], false), ([110], [121], [98], false), ([97, 98], [122], [], false), ([97], [], [], true)])
def cExample : Con := .of 30 [] [ckRules] (fun _ => True) (fun _ => exR)
def cHead11 : Con := .of 10 [] [.one .bool] (fun _ => True) (fun _ => true)
def consHead : List Con := [cLetters, cExample, cWrit, cParse, cTexts, cValidP]
theorem take_all {α : Type} {a b : List α} (hl : a.length = b.length) {k : Nat} (hk : a.length ≤ k) (h : a.take k = b.take k) : a = b := by
  rw [List.take_of_length_le hk, List.take_of_length_le (by omega)] at h
  exact h
theorem take_more {α : Type} {a b : List α} {k : Nat} {x y : α} (hx : a[k]? = some x) (hy : b[k]? = some y) (h : a.take k = b.take k) (e : x = y) : a.take (k + 1) = b.take (k + 1) := by
  rw [List.take_add_one, List.take_add_one, hx, hy, h, e]
theorem getD_some {α : Type} (l : List α) (d : α) (k : Nat) (h : k < l.length) : l[k]? = some (l.getD k d) := by
  rw [List.getD_eq_getElem?_getD, List.getElem?_eq_getElem h]; rfl
theorem all_no {α : Type} {l : List α} {f : α → Bool} {x : α} (h : x ∈ l) (hf : f x = false) : l.all f = false := by
  cases hh : l.all f
  · rfl
  · have := List.all_eq_true.1 hh x h; rw [hf] at this; cases this
theorem all_more {α : Type} {l : List α} {f : α → Bool} {k : Nat} {x : α} (hx : l[k]? = some x) (h : (l.take k).all f = true) (hf : f x = true) : (l.take (k + 1)).all f = true := by
  rw [List.take_add_one, hx, List.all_append, h]
  simpa using hf
/-- two lists held against each other -/
theorem same_loop {α : Type} [BEq α] [LawfulBEq α] (d : α) (a b : List α) (h : a.length ≤ 1000000000000000) (A : Prop) (hno : (a == b) = false → A) (B : Prop) (hyes : (a == b) = true → B) :
    bif (a.length : Int) != (b.length : Int) then A else (∃ p' : Nat, (p' ≤ a.length ∧ a.take p' = b.take p') ∧ (0 : Int) = (p' : Int)) ∧ ∀ p : Nat, p ≤ a.length ∧ a.take p = b.take p →
      bif decide ((p : Int) < (a.length : Int)) then ((0 : Int) ≤ (p : Int) ∧ (p : Int) < (a.length : Int)) ∧ ((0 : Int) ≤ (p : Int) ∧ (p : Int) < (b.length : Int)) ∧
        bif !(a.getD (p : Int).toNat d == b.getD (p : Int).toNat d) then A else ((-9223372036854775808 : Int) ≤ (p : Int) + 1 ∧ (p : Int) + 1 ≤ 9223372036854775807) ∧ ∃ p' : Nat, (p' ≤ a.length ∧ a.take p' = b.take p') ∧ a.length - p' < a.length - p ∧ (p : Int) + 1 = (p' : Int) else B := by
  refine bifP (fun hb => hno ?_) fun hb => ⟨⟨0, ⟨Nat.zero_le _, rfl⟩, rfl⟩, fun p ⟨hp, ht⟩ => bifP (fun hc => ?_) fun hc => ?_⟩
  · have hl : a.length ≠ b.length := by have := bne_iff_ne.1 hb; omega
    rw [beq_eq_false_iff_ne]; intro e; exact hl (by rw [e])
  · have hl : a.length = b.length := by have := bne_eq_false_iff_eq.1 hb; omega
    have hlt : p < a.length := by have := of_decide_eq_true hc; omega
    refine ⟨⟨by omega, by omega⟩, ⟨by omega, by omega⟩, bifP (fun he => hno ?_) fun he => ⟨⟨by omega, by omega⟩, p + 1, ⟨by omega, ?_⟩, by omega, by omega⟩⟩
    · rw [beq_eq_false_iff_ne]
      intro e
      rw [e] at he
      simp at he
    · have he : a.getD p d = b.getD p d := by
        have he : (!(a.getD p d == b.getD p d)) = false := he
        simpa using he
      exact take_more (getD_some a d p hlt) (getD_some b d p (by omega)) ht he
  · have hl : a.length = b.length := by have := bne_eq_false_iff_eq.1 hb; omega
    refine hyes ?_
    rw [beq_iff_eq]
    exact take_all hl (by have := of_decide_eq_false hc; omega) ht
end Go.Proofs.YtldnfdghkdibmaaGreatDoor

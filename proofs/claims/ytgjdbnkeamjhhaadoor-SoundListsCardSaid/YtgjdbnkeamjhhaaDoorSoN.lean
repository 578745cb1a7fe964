/-
  Layer 40: the examples of the chapter.
-/
import Derived.Test.YtgjdbnkeamjhhaaDoorSoM
set_option linter.unusedVariables false
namespace Go.Proofs.YtgjdbnkeamjhhaaDoor
open Go.RowKit
open R
set_option maxRecDepth 100000 in
theorem sample_vc :
    /-VC vcOf Tryd.prog [] [] cSample Tryd.f19 () -/
    [([(98 : UInt8)], [(112 : UInt8)]), ([(97 : UInt8), (110 : UInt8)], [(101 : UInt8), (110 : UInt8)])] = smp
    /-CV-/ := by
  rfl
set_option maxRecDepth 100000 in
theorem head_vc :
    /-VC vcOf Tryd.prog consHead [] cHead Tryd.f10 () -/
    True ∧ (LongW ([(101 : UInt8), (110 : UInt8)], [[(98 : UInt8), (97 : UInt8), (110 : UInt8)], [(98 : UInt8), (101 : UInt8), (110 : UInt8)], [(108 : UInt8), (97 : UInt8), (110 : UInt8)], [(112
    : UInt8), (97 : UInt8), (110 : UInt8)], [(112 : UInt8), (101 : UInt8), (110 : UInt8)]]) ∧ LongC smp ∧ [(98 : UInt8), (97 : UInt8), (110 : UInt8)].length ≤ (1000000 : Nat)) ∧ (LongW ([(101 :
    UInt8), (110 : UInt8)], [[(98 : UInt8), (97 : UInt8), (110 : UInt8)], [(98 : UInt8), (101 : UInt8), (110 : UInt8)], [(108 : UInt8), (97 : UInt8), (110 : UInt8)], [(112 : UInt8), (97 :
    UInt8), (110 : UInt8)], [(112 : UInt8), (101 : UInt8), (110 : UInt8)]]) ∧ LongC smp ∧ [(98 : UInt8), (65 : UInt8), (110 : UInt8)].length ≤ (1000000 : Nat)) ∧ (LongC smp ∧ [(98 : UInt8), (97
    : UInt8), (100 : UInt8)].length ≤ (1000000 : Nat) ∧ [(112 : UInt8), (97 : UInt8), (100 : UInt8)].length ≤ (1000000 : Nat)) ∧ (LongC smp ∧ [(112 : UInt8), (97 : UInt8), (100 : UInt8)].length
    ≤ (1000000 : Nat) ∧ [(98 : UInt8), (97 : UInt8), (100 : UInt8)].length ≤ (1000000 : Nat)) ∧ (LongC smp ∧ [(98 : UInt8), (97 : UInt8), (98 : UInt8)].length ≤ (1000000 : Nat) ∧ [(112 : UInt8),
    (97 : UInt8), (112 : UInt8)].length ≤ (1000000 : Nat)) ∧ (LongC smp ∧ [(98 : UInt8), (97 : UInt8), (98 : UInt8)].length ≤ (1000000 : Nat) ∧ [(112 : UInt8), (97 : UInt8), (98 : UInt8)].length
    ≤ (1000000 : Nat)) ∧ (LongC smp ∧ [(98 : UInt8), (97 : UInt8), (98 : UInt8)].length ≤ (1000000 : Nat) ∧ [(98 : UInt8), (97 : UInt8), (112 : UInt8)].length ≤ (1000000 : Nat)) ∧ (LongC smp ∧
    [(98 : UInt8), (97 : UInt8), (110 : UInt8)].length ≤ (1000000 : Nat) ∧ [(112 : UInt8), (101 : UInt8), (110 : UInt8)].length ≤ (1000000 : Nat)) ∧ (Snd.nearL [[(98 : UInt8), (97 : UInt8), (110
    : UInt8)], [(98 : UInt8), (101 : UInt8), (110 : UInt8)], [(108 : UInt8), (97 : UInt8), (110 : UInt8)], [(112 : UInt8), (97 : UInt8), (110 : UInt8)], [(112 : UInt8), (101 : UInt8), (110 :
    UInt8)]] smp [(98 : UInt8), (97 : UInt8), (110 : UInt8)] [[(98 : UInt8), (97 : UInt8), (110 : UInt8)], [(98 : UInt8), (101 : UInt8), (110 : UInt8)], [(108 : UInt8), (97 : UInt8), (110 :
    UInt8)], [(112 : UInt8), (97 : UInt8), (110 : UInt8)], [(112 : UInt8), (101 : UInt8), (110 : UInt8)]].length).length ≤ (1000000000000000 : Nat) ∧ LongW ([(101 : UInt8), (110 : UInt8)], [[(98
    : UInt8), (97 : UInt8), (110 : UInt8)], [(98 : UInt8), (101 : UInt8), (110 : UInt8)], [(108 : UInt8), (97 : UInt8), (110 : UInt8)], [(112 : UInt8), (97 : UInt8), (110 : UInt8)], [(112 :
    UInt8), (101 : UInt8), (110 : UInt8)]]) ∧ LongC smp ∧ Snd.properB smp = true
    /-CV-/ := by
  have hS : LongC smp := ⟨by decide, by decide⟩
  have hW : LongW ([101, 110], [[98, 97, 110], [98, 101, 110], [108, 97, 110], [112, 97, 110], [112, 101, 110]]) := ⟨by decide, by decide, by decide⟩
  exact ⟨trivial, ⟨hW, hS, by decide⟩, ⟨hW, hS, by decide⟩, ⟨hS, by decide, by decide⟩, ⟨hS, by decide, by decide⟩, ⟨hS, by decide, by decide⟩, ⟨hS, by decide, by decide⟩, ⟨hS, by decide, by decide⟩, ⟨hS, by decide, by decide⟩, by decide +kernel, hW, hS, by decide +kernel⟩
set_option maxRecDepth 100000 in
theorem sample_holds : cSample.Holds Tryd.prog := by
  refine holdsF (cons := []) Tryd.func19 (by kernel_rfl) (by kernel_rfl) mixed (by kernel_rfl) (fun c h => by cases h) (fun _ => []) fun p hp => ?_
  refine cast ?_ sample_vc
  kernel_rfl
set_option maxRecDepth 100000 in
theorem head_holds : cHead.Holds Tryd.prog := by
  refine holdsF (cons := consHead) Tryd.func10 (by kernel_rfl) (by kernel_rfl) mixed (by kernel_rfl) (fun c h => by
    unfold consHead at h
    rcases List.mem_cons.1 h with rfl | h
    · exact sample_holds
    rcases List.mem_cons.1 h with rfl | h
    · exact near_holds
    rcases List.mem_cons.1 h with rfl | h
    · exact alike_holds
    rcases List.mem_cons.1 h with rfl | h
    · exact ints_holds
    rcases List.mem_cons.1 h with rfl | h
    · exact valid_holds
    · obtain rfl := List.mem_singleton.1 h; exact proper_holds) (fun _ => []) fun p hp => ?_
  refine cast ?_ head_vc
  kernel_rfl
end Go.Proofs.YtgjdbnkeamjhhaaDoor

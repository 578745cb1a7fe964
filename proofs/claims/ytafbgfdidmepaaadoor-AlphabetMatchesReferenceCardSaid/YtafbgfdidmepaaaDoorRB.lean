/-
  The reference's small functions on alphabets.
-/
import Derived.Test.YtafbgfdidmepaaaDoorRA
set_option linter.unusedVariables false
namespace Go.Proofs.YtafbgfdidmepaaaDoor
open Go.RowKit
open R

theorem begins_vc (s t : List UInt8) :
    /-VC fun (s t : List UInt8) => vcOf Tryd.prog [] [] cBegins Tryd.f35 (s, t) -/
    bif decide ((↑t.length : Int) ≤ (↑s.length : Int)) then ((0 : Int) ≤ (0 : Int) ∧ (0 : Int) ≤ (↑t.length : Int) ∧ (↑t.length : Int) ≤ (↑s.length : Int)) ∧ (List.drop (Int.toNat (0 : Int))
    (List.take (↑t.length : Int).toNat s) == t) = t.isPrefixOf s else false = t.isPrefixOf s
    /-CV-/ := by
  by_cases h : t.length ≤ s.length
  · simp only [Int.ofNat_le, h, decide_true, cond_true, Int.toNat_zero, List.drop_zero, Int.toNat_natCast]
    refine ⟨⟨Int.le_refl _, Int.natCast_nonneg _, trivial⟩, ?_⟩
    rw [Bool.eq_iff_iff, beq_iff_eq, List.isPrefixOf_iff_prefix, List.prefix_iff_eq_take]
    exact eq_comm
  · simp only [Int.ofNat_le, h, decide_false, cond_false]
    symm
    rw [← Bool.not_eq_true, List.isPrefixOf_iff_prefix]
    exact fun hp => h hp.length_le
set_option maxRecDepth 100000 in
theorem begins_holds : cBegins.Holds Tryd.prog := by
  refine holdsF (cons := []) Tryd.func35 (by kernel_rfl) (by kernel_rfl) mixed (by kernel_rfl) (fun _ h => by cases h) (fun _ => []) fun p _ => ?_
  obtain ⟨s, t⟩ := p
  refine cast ?_ (begins_vc s t)
  kernel_rfl
end Go.Proofs.YtafbgfdidmepaaaDoor

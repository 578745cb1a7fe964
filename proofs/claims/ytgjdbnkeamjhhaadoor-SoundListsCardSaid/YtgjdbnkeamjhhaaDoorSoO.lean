/-
  Layer 40: the statements' contracts.
-/
import Derived.Test.YtgjdbnkeamjhhaaDoorSoN
set_option linter.unusedVariables false
namespace Go.Proofs.YtgjdbnkeamjhhaaDoor
open Go.RowKit
open R
abbrev ckStr : CK := .one .str
def cHeard : Con := .of 14 [ckStr] [.one .bool] (fun s => List.length s ≤ 1000000) Snd.heardB
def anHeard (s : List UInt8) : List (Nat × Ann) := [ann 0 Nat [0] (fun k => [(3, R.int .i64 k)]) (fun k => k ≤ s.length ∧ (s.take k).all Snd.letB = true) (fun k => s.length - k)]
theorem few_out {c : CfP} {ws : List (List UInt8)} (h : fewLB (c, ws) = true) : (c.length ≤ 30 ∧ ∀ x ∈ c, x.1.length ≤ 100 ∧ x.2.length ≤ 100) ∧ ∀ s ∈ ws, s.length ≤ 100 := by
  unfold fewLB fewCB at h
  simp only [Bool.and_eq_true, List.all_eq_true, decide_eq_true_eq] at h
  exact ⟨⟨h.2.1, h.2.2⟩, h.1⟩
theorem long_of {c : CfP} (h : c.length ≤ 30 ∧ ∀ x ∈ c, x.1.length ≤ 100 ∧ x.2.length ≤ 100) : LongC c := ⟨by omega, fun x hx => by have := h.2 x hx; omega⟩
def cBoth : Con := .of 3 [ckCf, ckStr, ckStr] [.one .bool] (fun p => CK.Big ckCf p.1 ∧ CK.Big ckStr p.2.1 ∧ CK.Big ckStr p.2.2) (fun _ => true)
def cMade : Con := .of 4 [ckCf, ckStr, ckStr, .one (.int .u8)] [.one .bool] (fun p => CK.Big ckCf p.1 ∧ CK.Big ckStr p.2.1 ∧ CK.Big ckStr p.2.2.1 ∧ CK.Big (.one (.int .u8)) p.2.2.2) (fun _ => true)
def cMore : Con := .of 6 [ckCf, .one (.int .u8), ckStr, ckStr] [.one .bool] (fun p => CK.Big ckCf p.1 ∧ CK.Big (.one (.int .u8)) p.2.1 ∧ CK.Big ckStr p.2.2.1 ∧ CK.Big ckStr p.2.2.2) (fun _ => true)
def consLaw : List Con := [cHead, cFewL, cProper, cAlike, cHeard]
end Go.Proofs.YtgjdbnkeamjhhaaDoor

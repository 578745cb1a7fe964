/-
  Contracts of Letters, Read, Join, Fold of the reference.
-/
import Derived.Test.YtafbgfdidmepaaaDoorRE
set_option linter.unusedVariables false
namespace Go.Proofs.YtafbgfdidmepaaaDoor
open Go.RowKit
open R
def iRow (ks : List Int) : Row := ⟨3, .one (.int .i64), ks⟩
def cLetters : Con := .of 28 [ckAl, .one .str] [.one (.sl (.one (.int .i64))), .one (.int .i64), .one (.int .i64)] (fun p => FormP p.1 ∧ List.length p.2 ≤ 1000000) (fun p => Al.readL p.1.2.1 p.2)
def anLetters (ls : List (List UInt8)) (s : List UInt8) : List (Nat × Ann) :=
  [annR 0 (List Int × Nat) [1, 2] (fun p => [(7, ownAV 30), (8, R.int .i64 p.2)]) (fun p => [(30, iRow p.1)])
    (fun p => p.2 ≤ s.length ∧ List.length p.1 ≤ 24 ∧ ∃ f, List.length (s.drop p.2) < f ∧ Al.readL ls s = Al.collect p.1 (Al.places ls f p.2 (s.drop p.2))) (fun p => s.length - p.2)]
end Go.Proofs.YtafbgfdidmepaaaDoor

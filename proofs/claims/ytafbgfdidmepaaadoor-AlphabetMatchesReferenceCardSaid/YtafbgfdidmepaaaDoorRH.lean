/-
  Contracts of Read, Join, Fold of the reference.
-/
import Derived.Test.YtafbgfdidmepaaaDoorRG
set_option linter.unusedVariables false
namespace Go.Proofs.YtafbgfdidmepaaaDoor
open Go.RowKit
open R
def cRead : Con := .of 14 [ckAl, .one .str] [.one (.sl (.one (.int .i64))), .one (.int .i64), .one (.int .i64)] (fun p => FewP p.1 ∧ List.length p.2 ≤ 1000000) (fun p => Al.readB (alOf p.1) p.2)
def cJoin : Con := .of 16 [ckAl, .one (.sl (.one (.int .i64)))] [.one .str, .one (.int .i64)] (fun p => FewP p.1 ∧ List.length p.2 ≤ 1000000) (fun p => Al.joinB (alOf p.1) p.2)
def anJoin (ls : List (List UInt8)) (ks : List Int) : List (Nat × Ann) :=
  [ann 0 Nat [1, 2] (fun k => [(6, R.str (Al.joinL ls (ks.take k))), (7, R.int .i64 k)]) (fun k => k ≤ ks.length ∧ Al.inRange ls.length (ks.take k) = true) (fun k => ks.length - k)]
def cFold : Con := .of 18 [ckAl, .one .str] [.one .str, .one (.int .i64)] (fun p => FewP p.1 ∧ List.length p.2 ≤ 1000000) (fun p => Al.foldB (alOf p.1) p.2)
def anFold (ls : List (List UInt8)) (sm ks : List Int) : List (Nat × Ann) :=
  [ann 0 Nat [1, 2, 6] (fun k => [(9, R.str (Al.joinL ls ((ks.take k).map fun k => sm.getD k.toNat 0))), (10, R.int .i64 k)]) (fun k => k ≤ ks.length) (fun k => ks.length - k)]
end Go.Proofs.YtafbgfdidmepaaaDoor

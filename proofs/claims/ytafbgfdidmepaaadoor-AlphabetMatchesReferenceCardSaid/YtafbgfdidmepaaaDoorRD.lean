/-
  Contracts of follows, Valid, Letters, Read, Join, Fold of the reference.
-/
import Derived.Test.YtafbgfdidmepaaaDoorRC
set_option linter.unusedVariables false
namespace Go.Proofs.YtafbgfdidmepaaaDoor
open Go.RowKit
open R
/-- letters of 1 to 3 bytes, no two the same -/
def FormP (p : AlP) : Prop := FewP p ∧ Al.formedB (alOf p) = true
def cFollows (f : Nat) : Con := .of 36 [ckAl, .one .str] [.one .bool] (fun p => FormP p.1 ∧ List.length p.2 < f) (fun p => Al.follows p.1.2.1 f p.2)
def anFollows (f : Nat) (ls : List (List UInt8)) (s : List UInt8) : List (Nat × Ann) :=
  [ann 0 Nat [1, 2] (fun k => [(5, R.int .i64 k)]) (fun k => k ≤ ls.length ∧ (ls.take k).any (fun l => s.isPrefixOf l || (l.isPrefixOf s && Al.follows ls f (s.drop l.length))) = false) (fun k => ls.length - k)]
def cValid : Con := .of 20 [ckAl] [.one .bool] FewP (fun p => Al.validB (alOf p))
def anValid (ls : List (List UInt8)) : List (Nat × Ann) :=
  [ann 0 Nat [1] (fun k => [(3, R.int .i64 k)]) (fun i => i ≤ ls.length ∧ ∀ i' < i, ∀ k < ls.length, Al.refClash ls i' k = false) (fun i => ls.length - i),
   annS 2 Nat [1, 3] (fun k => [(4, R.int .i64 k)]) (fun _ => []) (fun st k => k ≤ ls.length ∧ ∀ k' < k, Al.refClash ls (st.intOf 3).toNat k' = false) (fun st k => ls.length - k)]
end Go.Proofs.YtafbgfdidmepaaaDoor

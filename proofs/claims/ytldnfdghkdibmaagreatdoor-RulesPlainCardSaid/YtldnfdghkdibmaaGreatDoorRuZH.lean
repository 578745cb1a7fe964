/-
  Layer 11: RulesPlain: contract, loops.
-/
import Derived.Test.YtldnfdghkdibmaaGreatDoorRuZC
set_option linter.unusedVariables false
namespace Go.Proofs.YtldnfdghkdibmaaGreatDoor
open Go.RowKit
open R
def R.bx (st : St) (i : Nat) : Nat × List Cell := (i, match st.box i with
  | some l => l
  | none => [])
def okP (L : List (List UInt8)) (x : Rul.Rule) : Bool := (Al.readL L x.1).2.1 == 0 && ((Al.readL L x.1).1.length == 1 && (x.2.2.1 == [] && !x.2.2.2))
def hit (L : List (List UInt8)) (c : Int) (x : Rul.Rule) : Bool := decide (0 ≤ c) && (decide (c < L.length) && L.getD c.toNat [] == x.1)
def tosOf (L : List (List UInt8)) (l : List Rul.Rule) (c : Int) : List UInt8 := (l.filter (hit L c)).flatMap fun x => x.2.1
def wantP (L : List (List UInt8)) (l : List Rul.Rule) (w : List Int) : List UInt8 := w.flatMap (tosOf L l)
def wholeP (L : List (List UInt8)) (l : List Rul.Rule) (w : List Int) : Bool := w.all fun c => l.any (hit L c)
def xAt (l : List Rul.Rule) (k : Nat) : Rul.Rule := l.getD k ([], [], [], false)
def distinct (l : List Rul.Rule) : Prop := l.Pairwise fun x y => x.1 ≠ y.1
def anPlain (l : List Rul.Rule) (L : List (List UInt8)) (w : List Int) : List (Nat × Ann) :=
  [(0, { ι := Nat, at_ := fun st k => { st.head [3, 4, 5, 6, 9] [(10, R.int .i64 k)] [] with boxes := [R.bx st 4, R.bx st 5, R.bx st 6] }, inv := fun _ k => k ≤ l.length ∧ (l.take k).all (okP L) = true ∧ distinct (l.take k), mu := fun _ k => l.length - k }),
   (2, { ι := Nat, at_ := fun st j => { st.head [3, 4, 5, 6, 9, 10] [(14, R.int .i64 j)] [] with boxes := [R.bx st 4, R.bx st 5, R.bx st 6] }, inv := fun st j => (j : Int) ≤ st.intOf 10 ∧ ∀ y ∈ l.take j, y.1 ≠ (xAt l (st.intOf 10).toNat).1, mu := fun st j => (st.intOf 10).toNat - j }),
   (4, { ι := Nat, at_ := fun st i => { st.head [4, 5, 9, 15, 16, 17] [(20, R.str (wantP L l (w.take i))), (21, R.bool (wholeP L l (w.take i))), (22, R.int .i64 i)] [] with boxes := [R.bx st 4, R.bx st 5] }, inv := fun _ i => i ≤ w.length, mu := fun _ i => w.length - i }),
   (6, { ι := Nat, at_ := fun st j => { st.head [4, 5, 9, 15, 16, 17, 21, 22] [(20, R.str (wantP L l (w.take (st.intOf 22).toNat) ++ tosOf L (l.take j) (w.getD (st.intOf 22).toNat 0))), (23, R.bool ((l.take j).any (hit L (w.getD (st.intOf 22).toNat 0)))), (24, R.int .i64 j)] [] with boxes := [R.bx st 4, R.bx st 5] }, inv := fun _ j => j ≤ l.length, mu := fun _ j => l.length - j })]
def cPlainL : Con := .of 3 [ckRules, ckAl, ckAl, ckStr] [.one .bool] (fun p => BigR p.1 ∧ BigA p.2.1 ∧ BigA p.2.2.1 ∧ CK.Big ckStr p.2.2.2) (fun _ => true)
def consPlain : List Con := [cHead11, cFewA11, cValidP, cPRead, cWrit]
end Go.Proofs.YtldnfdghkdibmaaGreatDoor

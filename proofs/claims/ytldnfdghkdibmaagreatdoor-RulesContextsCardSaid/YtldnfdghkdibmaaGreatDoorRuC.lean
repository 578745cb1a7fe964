/-
  Layer 11: formed, Writings: contracts, loops.
-/
import Derived.Test.YtldnfdghkdibmaaGreatDoorRuA
import Derived.Test.YtldnfdghkdibmaaGreatDoorRuI
set_option linter.unusedVariables false
namespace Go.Proofs.YtldnfdghkdibmaaGreatDoor
open Go.RowKit
open R
def eqRule : Rul.Rule → Rul.Rule → Bool := fun x y => x.1 == y.1 && (x.2.1 == y.2.1 && (x.2.2.1 == y.2.2.1 && x.2.2.2 == y.2.2.2))
theorem eqRule_eq (x y : Rul.Rule) : eqRule x y = (x == y) := rfl
theorem get_seen (x : Rul.Rule) : ∀ l : List Rul.Rule, (Mp.get eqRule x (l.map fun y => (y, true))).getD false = l.contains x
  | [] => rfl
  | y :: r => by
    show (if eqRule x y then some true else Mp.get eqRule x (r.map fun y => (y, true))).getD false = _
    rw [eqRule_eq, List.contains_cons]
    cases h : (x == y)
    · rw [if_neg (by simp), get_seen x r, Bool.false_or]
    · rw [if_pos rfl, Bool.true_or]; rfl
theorem put_seen (x : Rul.Rule) : ∀ l : List Rul.Rule, l.contains x = false → Mp.put eqRule x true (l.map fun y => (y, true)) = (l ++ [x]).map fun y => (y, true)
  | [], _ => rfl
  | y :: r, h => by
    rw [List.contains_cons, Bool.or_eq_false_iff] at h
    show (if eqRule x y then (x, true) :: r.map (fun y => (y, true)) else (y, true) :: Mp.put eqRule x true (r.map fun y => (y, true))) = _
    rw [eqRule_eq, h.1, if_neg (by simp), put_seen x r h.2]; rfl
def seenRow (l : List Rul.Rule) : MRow := ⟨127, ckRule, .one .bool, l.map fun x => (x, true)⟩
def anFormed (r : Rul.Rules) : List (Nat × Ann) :=
  [annM 0 Nat [1, 2, 3, 8, 9] (fun k => [(10, R.int .i64 k)]) (fun _ => []) (fun k => [(6, seenRow (r.2.2.take k))])
    (fun k => k ≤ r.2.2.length ∧ (r.2.2.take k).all Rul.okRule = true ∧ Rul.once (r.2.2.take k) = true) (fun k => r.2.2.length - k)]
abbrev NX : Type := List (Int × List (List UInt8 × Bool))
def nestRow (xs : NX) : NRow := ⟨74, .one (.int .i64), 73, .one .str, .one .bool, xs⟩
def R.nestXs (st : St) : NX :=
  match st.nest with
  | some ⟨_, .one (.int _), _, .one .str, .one .bool, xs⟩ => xs
  | _ => []
def eqI : Int → Int → Bool := fun a b => a == b
/-- the texts at a number of letters -/
def tabAt (xs : NX) (n : Nat) : List (List UInt8) := ((Mp.get eqI (n : Int) xs).getD []).map (·.1)
structure Tb (xs : NX) (Q : Nat → List UInt8 → Prop) : Prop where
  mem : ∀ n s, s ∈ tabAt xs n ↔ Q n s
  nodup : ∀ n, (tabAt xs n).Nodup
def rsOf (r : Rul.Rules) (f : AlP) : List Rul.Opened := r.2.2.map (Rul.openR f.2.1)
def wOf (f : AlP) (word : List UInt8) : List Int := (Al.readB (alOf f) word).1
def rAt (rs : List Rul.Opened) (i : Nat) : Rul.Opened := rs.getD i (([], [], [], false), [], [])
def inOut (rs : List Rul.Opened) (w : List Int) (k : Nat) (xs : NX) : Prop := k ≤ w.length ∧ (List.range k).any (Rul.tooMany rs w) = false ∧ Tb xs (Rul.Stage rs w k [])
def inMid (rs : List Rul.Opened) (w : List Int) (k i : Nat) (xs : NX) : Prop := i ≤ rs.length ∧ Tb xs (Rul.Stage rs w k (rs.take i))
def inIn (rs : List Rul.Opened) (w : List Int) (k i : Nat) (xs0 xs : NX) (left : List (List UInt8 × Bool)) : Prop :=
  (Mp.get eqI ((k + (rAt rs i).2.1.length : Nat) : Int) xs).isSome = true ∧ ∃ done, (tabAt xs0 k).Perm (done ++ left.map (·.1)) ∧ Tb xs fun n s => Rul.Stage rs w k (rs.take i) n s ∨ (n = k + (rAt rs i).2.1.length ∧ ∃ s' ∈ done, s = s' ++ (rAt rs i).1.2.1)
def R.box18 (st : St) : List Cell :=
  match st.box 18 with
  | some l => l
  | none => []
def anWrit (rs : List Rul.Opened) (w : List Int) : List (Nat × Ann) :=
  [(0, { ι := Nat × NX, at_ := fun st p => { st.head [10, 12, 15, 44] [(45, R.int .i64 p.1)] [] with boxes := [], maps := [], nest := some (nestRow p.2), iters := [] }, inv := fun _ p => inOut rs w p.1 p.2, mu := fun _ p => w.length - p.1 }),
   (2, { ι := Nat × NX, at_ := fun st p => { st.head [10, 12, 15, 16, 44, 45, 53, 54] [(55, R.int .i64 p.1)] [] with boxes := [], maps := [], nest := some (nestRow p.2), iters := [] }, inv := fun st p => inMid rs w (st.intOf 16).toNat p.1 p.2, mu := fun _ p => rs.length - p.1 }),
   (4, { ι := NX × List (List UInt8 × Bool), at_ := fun st p => { st.head [10, 12, 15, 16, 18, 19, 44, 45, 53, 54, 55, 80] [] [] with boxes := [(18, R.box18 st)], maps := [], nest := some (nestRow p.1), iters := [(80, ⟨.inner (.one (.int .i64)) (st.intOf 16), .one .str, .one .bool, p.2, none⟩)] }, inv := fun st p => inIn rs w (st.intOf 16).toNat (st.intOf 55).toNat (R.nestXs st) p.1 p.2, mu := fun _ p => p.2.length })]
def cWrit : Con := .of 14 [ckRules, ckAl, ckAl, ckStr] [ckStrs, ckInt] (fun p => FewR p.1 ∧ FewP p.2.1 ∧ FewP p.2.2.1 ∧ List.length p.2.2.2 ≤ 1000000) (fun p => Rul.writingsB p.1 (alOf p.2.1) (alOf p.2.2.1) p.2.2.2)
end Go.Proofs.YtldnfdghkdibmaaGreatDoor

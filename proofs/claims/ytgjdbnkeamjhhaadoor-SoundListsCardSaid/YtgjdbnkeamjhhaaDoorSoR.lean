/-
  Layer 40: SoundFound, SoundNear, SoundOrder, SoundLists: contracts, loops.
-/
import Derived.Test.YtgjdbnkeamjhhaaDoorSoP
set_option linter.unusedVariables false
namespace Go.Proofs.YtgjdbnkeamjhhaaDoor
open Go.RowKit
open R
/-- both texts have a, b at n, and the same behind -/
def Hit (x y : List UInt8) (n : Nat) (a b : List UInt8) : Prop :=
  n + a.length ≤ x.length ∧ n + b.length ≤ y.length ∧ (x.take (n + a.length)).drop n = a ∧ (y.take (n + b.length)).drop n = b ∧ x.drop (n + a.length) = y.drop (n + b.length)
def No (x y : List UInt8) (n : Nat) (c : CfP) : Prop := ∀ p ∈ c, ¬ Hit x y n p.1 p.2 ∧ ¬ Hit x y n p.2 p.1
def cFound : Con := .of 5 [ckCf, ckStr, ckStr] [.one .bool] (fun p => CK.Big ckCf p.1 ∧ CK.Big ckStr p.2.1 ∧ CK.Big ckStr p.2.2) (fun _ => true)
def anFound (c : CfP) (x y : List UInt8) : List (Nat × Ann) :=
  [annS 0 Nat [0, 1, 2, 7] (fun n => [(8, R.int .i64 n)]) (fun _ => []) (fun _ n => ∀ m, m < n → No x y m c ∧ x.take m = y.take m ∧ m ≤ x.length ∧ m ≤ y.length) (fun _ n => x.length + 1 - n),
   annS 2 Nat [0, 1, 2, 7, 8] (fun k => [(9, R.int .i64 k)]) (fun _ => []) (fun st k => k ≤ c.length ∧ No x y (st.intOf 8).toNat (c.take k)) (fun _ k => c.length - k),
   annS 4 Nat [0, 1, 2, 7, 8, 9] (fun m => [(10, R.int .i64 m)]) (fun _ => []) (fun st m => m ≤ 2 ∧ (1 ≤ m → ¬ Hit x y (st.intOf 8).toNat (c.getD (st.intOf 9).toNat ([], [])).1 (c.getD (st.intOf 9).toNat ([], [])).2) ∧ (2 ≤ m → ¬ Hit x y (st.intOf 8).toNat (c.getD (st.intOf 9).toNat ([], [])).2 (c.getD (st.intOf 9).toNat ([], [])).1)) (fun _ m => 2 - m)]
/-- how many of a list's numbers lie below i -/
def cnt (N : List Int) (i : Nat) : Nat := (N.filter fun k => decide (k < (i : Int))).length
def cSNear : Con := .of 7 [ckWl, ckCf, ckStr] [.one .bool] (fun p => CK.Big ckWl p.1 ∧ CK.Big ckCf p.2.1 ∧ CK.Big ckStr p.2.2) (fun _ => true)
def anSNear (ws : List (List UInt8)) (N : List Int) : List (Nat × Ann) :=
  [ann 0 Nat [1, 2, 3, 7, 8] (fun i => [(10, R.int .i64 (cnt N i : Nat)), (11, R.int .i64 i)]) (fun i => i ≤ ws.length) (fun i => ws.length - i)]
def cOrder : Con := .of 8 [ckCf, .one (.int .u32), ckStr, ckStr] [.one .bool] (fun p => CK.Big ckCf p.1 ∧ CK.Big (.one (.int .u32)) p.2.1 ∧ CK.Big ckStr p.2.2.1 ∧ CK.Big ckStr p.2.2.2) (fun _ => true)
def cfRow (c : CfP) : Row := ⟨29, kCf, c⟩
def anOrder (c : CfP) : List (Nat × Ann) :=
  [annR 0 (Nat × CfP) [0, 1, 2, 3, 9] (fun p => [(10, ownAV 45), (11, R.int .i64 ((p.1 : Int) - 1))]) (fun p => [(45, cfRow p.2)]) (fun p => p.1 ≤ c.length ∧ Snd.Turned (c.drop p.1).reverse p.2) (fun p => p.1)]
/-- the words kept so far, the places among them of those in N -/
def bitB (kept : Int) (i : Nat) : Bool := IntKind.u64.wrap ((BitVec.ofInt IntKind.u64.bits (kept.fdiv (2 ^ min (Int.toNat (i : Int)) IntKind.u64.bits)) &&& BitVec.ofInt IntKind.u64.bits 1).toNat : Nat) == 0
def keptS (ws : List (List UInt8)) (N : List Int) (kept : Int) : Nat → List (List UInt8) × List Int
  | 0 => ([], [])
  | i + 1 => if bitB kept i then keptS ws N kept i else ((keptS ws N kept i).1 ++ [ws.getD i []], if N.contains (i : Int) then (keptS ws N kept i).2 ++ [((keptS ws N kept i).1.length : Int)] else (keptS ws N kept i).2)
def cLists : Con := .of 9 [ckWl, ckCf, ckStr, .one (.int .u64)] [.one .bool] (fun p => CK.Big ckWl p.1 ∧ CK.Big ckCf p.2.1 ∧ CK.Big ckStr p.2.2.1 ∧ CK.Big (.one (.int .u64)) p.2.2.2) (fun _ => true)
def strRow (ss : List (List UInt8)) : Row := ⟨9, .one .str, ss⟩
/-- as annS, with a variable given anew -/
def annBx (l : Nat) (ι : Type) (live : List Nat) (over : ι → List (Nat × AV)) (rows : ι → List (Nat × Row)) (b : Nat) (cells : ι → List Cell) (inv : ι → Prop) (mu : ι → Nat) : Nat × Ann :=
  (l, { ι := ι, at_ := fun st p => { st.head live (over p) (rows p) with boxes := (b, cells p) :: dropKey b st.boxes }, inv := fun _ p => inv p, mu := fun _ p => mu p })
def anLists (lang : List UInt8) (ws : List (List UInt8)) (N : List Int) (kept : Int) : List (Nat × Ann) :=
  [annBx 0 Nat [1, 2, 3, 4, 9, 10, 11, 12] (fun i => [(13, ownAV 74), (14, R.int .i64 (cnt N i : Nat)), (15, R.int .i64 i)]) (fun i => [(74, iRow (keptS ws N kept i).2), (83, strRow (keptS ws N kept i).1)])
    12 (fun _ => [.val .str lang, .own 83]) (fun i => i ≤ ws.length) (fun i => ws.length - i)]
def consLaw2 : List Con := [cHead, cFewL, cFewW, cNear, cProper, cAlike, cHeard, cValid, cInts]
end Go.Proofs.YtgjdbnkeamjhhaaDoor

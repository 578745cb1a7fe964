/-
  Layer 40: contracts of the functions that all its statements share.
-/
import Derived.Test.YtgjdbnkeamjhhaaDoorMR
import Derived.Test.YtgjdbnkeamjhhaaDoorSoNear
import Derived.Test.YtgjdbnkeamjhhaaDoorSoStep
set_option linter.unusedVariables false
namespace Go.Proofs.YtgjdbnkeamjhhaaDoor
open Go.RowKit
open R
theorem mixed : Tryd.prog.follows .mixedOrders = true := by kernel_rfl
/-- a word list, confusions among the arguments -/
abbrev ckWl : CK := .agg (.cons .str (.one (.sl (.one .str))))
abbrev kCf : Kds := .cons .str (.one .str)
abbrev ckCf : CK := .one (.sl kCf)
abbrev ckStrs : CK := .one (.sl (.one .str))
abbrev ckInts : CK := .one (.sl (.one (.int .i64)))
abbrev WlP : Type := List UInt8 × List (List UInt8)
abbrev CfP : Type := List (List UInt8 × List UInt8)
def iRow (ks : List Int) : Row := ⟨3, .one (.int .i64), ks⟩
/-- few confusions, few words, of few bytes -/
def fewCB (c : CfP) : Bool := decide (c.length ≤ 30) && c.all (fun x => decide (x.1.length ≤ 100) && decide (x.2.length ≤ 100))
def fewWB (l : WlP) : Bool := decide (l.2.length ≤ 40) && (decide (l.1.length ≤ 100) && l.2.all (fun s => decide (s.length ≤ 100)))
def fewLB (p : CfP × List (List UInt8)) : Bool := p.2.all (fun s => decide (s.length ≤ 100)) && fewCB p.1
def cFewC : Con := .of 20 [ckCf] [.one .bool] (fun _ => True) fewCB
def anFewC (c : CfP) : List (Nat × Ann) :=
  [ann 0 Nat [0] (fun k => [(3, R.int .i64 k)]) (fun k => k ≤ 30 ∧ k ≤ c.length ∧ (c.take k).all (fun x => decide (x.1.length ≤ 100) && decide (x.2.length ≤ 100)) = true) (fun k => c.length - k)]
def cFewW : Con := .of 15 [ckWl] [.one .bool] (fun _ => True) fewWB
def anFewW (ws : List (List UInt8)) : List (Nat × Ann) :=
  [ann 0 Nat [1] (fun k => [(3, R.int .i64 k)]) (fun k => k ≤ 40 ∧ k ≤ ws.length ∧ (ws.take k).all (fun s => decide (s.length ≤ 100)) = true) (fun k => ws.length - k)]
def cInts : Con := .of 18 [ckInts, ckInts] [.one .bool] (fun p => List.length p.1 ≤ 1000000000000000) (fun p => p.1 == p.2)
def anInts (a b : List Int) : List (Nat × Ann) :=
  [ann 0 Nat [0, 1] (fun k => [(5, R.int .i64 k)]) (fun k => k ≤ a.length ∧ a.take k = b.take k) (fun k => a.length - k)]
def cFewL : Con := .of 11 [ckCf, ckStrs] [.one .bool] (fun p => List.length p.2 ≤ 1000000) fewLB
def anFewL (ws : List (List UInt8)) : List (Nat × Ann) :=
  [ann 0 Nat [0, 1] (fun k => [(5, R.int .i64 k)]) (fun k => k ≤ ws.length ∧ (ws.take k).all (fun s => decide (s.length ≤ 100)) = true) (fun k => ws.length - k)]
/-! the program's own -/
def LongC (c : CfP) : Prop := c.length ≤ 1000000 ∧ ∀ x ∈ c, x.1.length ≤ 1000000 ∧ x.2.length ≤ 1000000
def LongW (l : WlP) : Prop := l.1.length ≤ 1000 ∧ l.2.length ≤ 1000000 ∧ ∀ s ∈ l.2, s.length ≤ 1000000
def cLet : Con := .of 21 [.one .str, .one (.int .i64), .one (.int .i64)] [.one .bool] (fun p => List.length p.1 ≤ 1000000) (fun p => Snd.lettersB p.1 p.2.1 p.2.2)
abbrev kTok : Kds := .cons (.int .i64) (.cons (.int .i64) (.cons (.int .i64) (.one .str)))
def tokP (t : Lx.Tok) : Int × Int × Int × List UInt8 := (t.kind, t.pos, t.n, t.text)
def lexP (s : List UInt8) : List (Int × Int × Int × List UInt8) × Int × Int := ((Lx.lex s).1.map tokP, (Lx.lex s).2.1, (Lx.lex s).2.2)
def cLex : Con := .of 26 [.one .str] [.one (.sl kTok), .one (.int .i64), .one (.int .i64)] (fun s => List.length s ≤ 1000) lexP
def cValid : Con := .of 17 [ckWl] [.one .bool] LongW (fun p => Snd.validB p.1 p.2)
def anValid (ws : List (List UInt8)) : List (Nat × Ann) :=
  [ann 0 Nat [1, 39, 40] (fun k => [(41, R.int .i64 k)]) (fun k => k ≤ ws.length ∧ (ws.take k).all (fun s => Snd.lettersB s 3 8) = true ∧ Snd.rising (ws.take k) = true) (fun k => ws.length - k)]
def cProper : Con := .of 12 [ckCf] [.one .bool] LongC Snd.properB
def cAlike : Con := .of 13 [ckCf, .one .str, .one .str] [.one .bool] (fun p => LongC p.1 ∧ List.length p.2.1 ≤ 1000000 ∧ List.length p.2.2 ≤ 1000000) (fun p => Snd.alikeB p.1 p.2.1 p.2.2)
def cNear : Con := .of 16 [ckWl, ckCf, .one .str] [ckInts, .one (.int .i64)] (fun p => LongW p.1 ∧ LongC p.2.1 ∧ List.length p.2.2 ≤ 1000000) (fun p => Snd.nearB p.1.1 p.1.2 p.2.1 p.2.2)
end Go.Proofs.YtgjdbnkeamjhhaaDoor

/-
  Contracts of the reference's functions on alphabets.
-/
import Derived.Test.YtafbgfdidmepaaaDoorMR
import Derived.Test.YtafbgfdidmepaaaDoorAlLaw4
import Derived.Test.YtafbgfdidmepaaaDoorRefName
set_option linter.unusedVariables false
namespace Go.Proofs.YtafbgfdidmepaaaDoor
open Go.RowKit
open R
theorem mixed : Tryd.prog.follows .mixedOrders = true := by kernel_rfl
/-- an alphabet among the arguments -/
abbrev ckAl : CK := .agg (.cons .str (.cons (.sl (.one .str)) (.one (.sl (.one (.int .i64))))))
abbrev AlP : Type := List UInt8 × List (List UInt8) × List Int
def alOf (p : AlP) : Al.Alph := ⟨p.1, p.2.1, p.2.2⟩
/-- few letters, of few bytes -/
def FewP (p : AlP) : Prop := p.2.1.length ≤ 70 ∧ (∀ l ∈ p.2.1, l.length ≤ 20) ∧ p.2.2.length ≤ 70 ∧ p.1.length ≤ 100
def cBegins : Con := .of 35 [.one .str, .one .str] [.one .bool] (fun _ => True) (fun p => p.2.isPrefixOf p.1)
def cName : Con := .of 44 [.one .str] [.one .bool] (fun s => List.length s ≤ 1000000) Lx.nameB
theorem name_holds : cName.Holds Tryd.prog := holds_str_bool Tryd.func44 (by kernel_rfl) (by kernel_rfl) fun s w h => (rname_any (bs s) w (by rw [bs_size]; omega)).mono fun e w' ⟨he, hw⟩ => ⟨he, by rw [hw]; exact bel_refl w⟩
/-- the loop of At -/
def anAt (ls : List (List UInt8)) (s : List UInt8) : List (Nat × Ann) :=
  [ann 0 Nat [1, 2, 3] (fun k => [(7, R.int .i64 (Al.best ls s k)), (8, R.int .i64 k)]) (fun k => k ≤ ls.length) (fun k => ls.length - k)]
def cAt : Con := .of 40 [ckAl, .one .str, .one (.int .i64)] [.one (.int .i64)] (fun p => FewP p.1 ∧ 0 ≤ p.2.2 ∧ p.2.2 ≤ List.length p.2.1 ∧ List.length p.2.1 ≤ 1000000) (fun p => Al.best p.1.2.1 (List.drop (Int.toNat p.2.2) p.2.1) p.1.2.1.length)
/-- formed's loops -/
def anFormed (nm : List UInt8) (ls : List (List UInt8)) (sm : List Int) : List (Nat × Ann) :=
  [annS 0 Nat [1] (fun k => [(3, R.int .i64 k)]) (fun _ => []) (fun _ k => k ≤ ls.length ∧ (ls.take k).all Al.printedB = true ∧ Al.noTwice (ls.take k) = true ∧ ∀ x ∈ sm.take k, 0 ≤ x ∧ x < ls.length) (fun _ k => ls.length - k),
   annS 2 Nat [1, 3, 4] (fun k => [(5, R.int .i64 k)]) (fun _ => []) (fun st k => k ≤ (st.strOf 4).length ∧ ((st.strOf 4).take k).all Al.okByte = true) (fun st k => (st.strOf 4).length - k),
   annS 4 Nat [1, 3, 4] (fun k => [(6, R.int .i64 k)]) (fun _ => []) (fun st k => (k : Int) ≤ st.intOf 3 ∧ (ls.take k).contains (st.strOf 4) = false) (fun st k => (st.intOf 3).toNat - k),
   annS 6 Nat [1] (fun k => [(7, R.int .i64 k)]) (fun _ => []) (fun _ k => k ≤ sm.length ∧ ∀ x ∈ sm.take k, sm.getD x.toNat 0 = x) (fun _ k => sm.length - k)]
def cFormed : Con := .of 34 [ckAl] [.one .bool] FewP (fun p => Al.formedB (alOf p))
end Go.Proofs.YtafbgfdidmepaaaDoor

/-
  The program's Join of alphabets as a contract.
-/
import Derived.Test.YtldnfdghkdibmaaGreatDoorPAl
import Derived.Test.YtldnfdghkdibmaaGreatDoorAlJoin
set_option linter.unusedVariables false
namespace Go.Proofs.YtldnfdghkdibmaaGreatDoor
open Go.RowKit
open R
def cPJoin : Con := .of 21 [ckAl, .one (.sl (.one (.int .i64)))] [.one .str, .one (.int .i64)] (fun p => FewP p.1 ∧ List.length p.2 ≤ 1000000) (fun p => Al.joinB (alOf p.1) p.2)
theorem pjoin_holds : cPJoin.Holds Tryz.prog := by
  refine ⟨⟨⟨_, Tryz.func21, by kernel_rfl, by kernel_rfl⟩, fun F' hF p r hr => by injection hF with hF; subst hF; exact hr⟩, fun p vs w S hS hp hvs => ?_⟩
  obtain ⟨p, ks⟩ := p
  obtain ⟨v, v2, rfl, hv, hv2⟩ := two_args hvs
  obtain ⟨A, A', c, c', rfl, hA, hB⟩ := alv_rep (p := p) hv
  obtain ⟨K, ck, rfl, hK⟩ := int_rep (ls := ks) hv2
  refine (join_any (alOf p) A A' K c c' ck ks w (few_of hp.1) hA hB hK hp.2).mono ?_
  rintro e w' ⟨rfl, hbl⟩
  refine ⟨Al.joinB (alOf p) ks, _, rfl, rfl, ⟨_, rfl, rfl, ?_⟩, hbl⟩
  intro i x hx
  match i, hx with
  | 0, hx => injection hx with hx; subst hx; exact ⟨_, rfl, rfl⟩
  | 1, hx => injection hx with hx; subst hx; exact ⟨_, rfl, rfl⟩
end Go.Proofs.YtldnfdghkdibmaaGreatDoor

/-
  Layer 11: the kinds of the arguments' types.
-/
import Derived.Test.YtldnfdghkdibmaaGreatDoorRuZA
set_option linter.unusedVariables false
namespace Go.Proofs.YtldnfdghkdibmaaGreatDoor
open Go.RowKit
open R
theorem kt_str : CKT Tryz.prog (.one .str) 9 := Tryz.underlying9
theorem kt_al : CKT Tryz.prog ckAl 28 :=
  ⟨⟨_, Tryz.underlying28⟩, by kernel_rfl, ⟨_, _, _, Tryz.underlying28, rfl, rfl, by kernel_rfl, Tryz.underlying9, ⟨_, _, rfl, rfl, by kernel_rfl, ⟨_, Tryz.underlying25, by kernel_rfl, .inl Tryz.underlying9⟩, ⟨_, rfl, rfl, by kernel_rfl, ⟨_, Tryz.underlying26, by kernel_rfl, .inl Tryz.underlying3⟩⟩⟩⟩⟩
theorem kds_rule : KdsT Tryz.prog kRule 36 :=
  ⟨_, _, _, Tryz.underlying36, rfl, rfl, by kernel_rfl, Tryz.underlying9, ⟨_, _, rfl, rfl, by kernel_rfl, Tryz.underlying9, ⟨_, _, rfl, rfl, by kernel_rfl, Tryz.underlying9, ⟨_, rfl, rfl, by kernel_rfl, Tryz.underlying4⟩⟩⟩⟩
theorem kt_rule : CKT Tryz.prog ckRule 36 := ⟨⟨_, Tryz.underlying36⟩, by kernel_rfl, kds_rule⟩
theorem kt_rules : CKT Tryz.prog ckRules 24 :=
  ⟨⟨_, Tryz.underlying24⟩, by kernel_rfl, ⟨_, _, _, Tryz.underlying24, rfl, rfl, by kernel_rfl, Tryz.underlying9, ⟨_, _, rfl, rfl, by kernel_rfl, Tryz.underlying9, ⟨_, rfl, rfl, by kernel_rfl, ⟨_, Tryz.underlying22, by kernel_rfl, kds_rule⟩⟩⟩⟩⟩
end Go.Proofs.YtldnfdghkdibmaaGreatDoor

/-
  Layer 40: the kinds of the arguments' types.
-/
import Derived.Test.YtgjdbnkeamjhhaaGreatDoorSoM
set_option linter.unusedVariables false
namespace Go.Proofs.YtgjdbnkeamjhhaaGreatDoor
open Go.RowKit
open R
theorem kt_str : CKT Tryz.prog (.one .str) 9 := Tryz.underlying9
theorem kt_conf : CKT Tryz.prog ckCf 25 :=
  ⟨_, Tryz.underlying25, by kernel_rfl, ⟨_, _, _, Tryz.underlying54, rfl, rfl, by kernel_rfl, Tryz.underlying9, ⟨_, rfl, rfl, by kernel_rfl, Tryz.underlying9⟩⟩⟩
theorem kt_wl : CKT Tryz.prog ckWl 24 :=
  ⟨⟨_, Tryz.underlying24⟩, by kernel_rfl, ⟨_, _, _, Tryz.underlying24, rfl, rfl, by kernel_rfl, Tryz.underlying9, ⟨_, rfl, rfl, by kernel_rfl, ⟨_, Tryz.underlying22, by kernel_rfl, .inl Tryz.underlying9⟩⟩⟩⟩
end Go.Proofs.YtgjdbnkeamjhhaaGreatDoor

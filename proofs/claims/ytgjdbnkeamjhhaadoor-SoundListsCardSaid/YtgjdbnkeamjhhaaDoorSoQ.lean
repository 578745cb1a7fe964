/-
  Layer 40: the kinds of the arguments' types.
-/
import Derived.Test.YtgjdbnkeamjhhaaDoorSoM
set_option linter.unusedVariables false
namespace Go.Proofs.YtgjdbnkeamjhhaaDoor
open Go.RowKit
open R
theorem kt_str : CKT Tryd.prog (.one .str) 9 := Tryd.underlying9
theorem kt_conf : CKT Tryd.prog ckCf 22 :=
  ⟨_, Tryd.underlying22, by kernel_rfl, ⟨_, _, _, Tryd.underlying29, rfl, rfl, by kernel_rfl, Tryd.underlying9, ⟨_, rfl, rfl, by kernel_rfl, Tryd.underlying9⟩⟩⟩
theorem kt_wl : CKT Tryd.prog ckWl 34 :=
  ⟨⟨_, Tryd.underlying34⟩, by kernel_rfl, ⟨_, _, _, Tryd.underlying34, rfl, rfl, by kernel_rfl, Tryd.underlying9, ⟨_, rfl, rfl, by kernel_rfl, ⟨_, Tryd.underlying32, by kernel_rfl, .inl Tryd.underlying9⟩⟩⟩⟩
end Go.Proofs.YtgjdbnkeamjhhaaDoor

/-
  The reference's Name: what it returns.
-/
import Derived.Test.YtgjdbnkeamjhhaaGreatDoorRefBytes
set_option linter.unusedVariables false
namespace Go.Proofs.YtgjdbnkeamjhhaaGreatDoor
open Go.RowKit
attribute [local go_sem] alloc_drewN setCell_drewN setRow_drewN Later.cell Later.frozen wrap64_nat wrap64_add wrap64_succ

set_option maxRecDepth 100000 in
set_option maxHeartbeats 1000000 in
theorem rname_any (s : ByteArray) (w : World) (hs : s.size ≤ 9223372036854775807) : Calls Tryz.prog 26 #[.string s] w fun e w' => e = .returned (.bool (Lx.nameB s.data.toList)) ∧ w' = w := by
  go_enter Tryz.func26, Tryz.ntmps26
  go_wp2
  go_loop [3] (fun i => ∃ k : Nat, k ≤ s.size ∧ i = .int .i64 k ∧ s.data.toList.all Lx.isWord = (s.data.toList.drop k).all Lx.isWord) (fun i => s.size - (intOf i).toNat)
  case atStart => exact ⟨0, by omega, rfl, rfl⟩
  case round =>
    obtain ⟨k, hk, rfl, hc⟩ := hrel
    have HC := Lib.hid hc
    clear hc
    by_cases hlt : k < s.size
    · have hd := drop_get s k hlt
      have HD := Lib.hid hd
      clear hd
      have hb : s[k].toNat < 256 := UInt8.toNat_lt s[k]
      go_wp2_with fail
      refine (rword_any s[k] _).mono ?_
      rintro e w' ⟨rfl, rfl⟩
      cases hwd : Lx.isWord s[k]
      · have HWD := Lib.hid hwd
        clear hwd
        go_wp2
        go_ret
        refine ⟨?_, rfl⟩
        refine ret_bool ?_
        unfold Lx.nameB
        rw [HC.out, HD.out, List.all_cons, HWD.out]
        rfl
      · have HWD := Lib.hid hwd
        clear hwd
        go_wp2
        go_round
        case rel =>
          refine ⟨k + 1, by omega, by go_num, ?_⟩
          rw [HC.out, HD.out, List.all_cons, HWD.out]
          rfl
        case measure => simp [intOf]; omega
    · have hd : s.data.toList.drop k = [] := List.drop_eq_nil_of_le (by rw [← size_list]; omega)
      have hall : s.data.toList.all Lx.isWord = true := by rw [HC.out, hd]; rfl
      have HA := Lib.hid hall
      have HSL := Lib.hid (size_list s)
      clear hd hall HC
      by_cases h0 : 0 < s.size
      · by_cases h24 : s.size ≤ 24
        · have hdg := drop_get s 0 h0
          rw [List.drop_zero] at hdg
          have HD := Lib.hid hdg
          clear hdg
          have hb : s[0].toNat < 256 := UInt8.toNat_lt s[0]
          go_wp2_with fail
          refine (rletter_any s[0] _).mono ?_
          rintro e w' ⟨rfl, rfl⟩
          have hfin : Lx.nameB s.data.toList = Lx.isLetter s[0] := by
            have h1 : decide (0 < s.data.toList.length) = true := by rw [decide_eq_true_eq, ← HSL.out]; exact h0
            have h2 : decide (s.data.toList.length ≤ 24) = true := by rw [decide_eq_true_eq, ← HSL.out]; exact h24
            unfold Lx.nameB
            rw [HA.out, h1, h2, HD.out]
            rfl
          have HF := Lib.hid hfin
          clear hfin
          go_wp2
          go_ret
          exact ⟨ret_bool HF.out.symm, rfl⟩
        · have hfin : Lx.nameB s.data.toList = false := by
            have h2 : decide (s.data.toList.length ≤ 24) = false := by rw [decide_eq_false_iff_not, ← HSL.out]; exact h24
            unfold Lx.nameB
            rw [HA.out, h2]
            simp
          have HF := Lib.hid hfin
          clear hfin
          go_wp2
          go_ret
          exact ⟨ret_bool HF.out.symm, rfl⟩
      · have hfin : Lx.nameB s.data.toList = false := by
          have h1 : decide (0 < s.data.toList.length) = false := by rw [decide_eq_false_iff_not, ← HSL.out]; exact h0
          unfold Lx.nameB
          rw [HA.out, h1]
          simp
        have HF := Lib.hid hfin
        clear hfin
        go_wp2
        go_ret
        exact ⟨ret_bool HF.out.symm, rfl⟩
theorem rname_is (s : ByteArray) (w : World) (hs : s.size ≤ 9223372036854775807) {b : Bool} (h : Lx.nameB s.data.toList = b) : Calls Tryz.prog 26 #[.string s] w fun e w' => e = .returned (.bool b) ∧ w' = w := by
  subst h
  exact rname_any s w hs
end Go.Proofs.YtgjdbnkeamjhhaaGreatDoor

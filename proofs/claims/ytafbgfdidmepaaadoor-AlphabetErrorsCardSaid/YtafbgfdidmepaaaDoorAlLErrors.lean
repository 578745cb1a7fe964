/-
  AlphabetErrors: it returns true.
-/
import Derived.Test.YtafbgfdidmepaaaDoorAlBox
import Derived.Test.YtafbgfdidmepaaaDoorAlLaw3
set_option linter.unusedVariables false
namespace Go.Proofs.YtafbgfdidmepaaaDoor
open Go.RowKit Go.Maps
attribute [local go_sem] alloc_drewN setCell_drewN setRow_drewN Later.cell Later.frozen wrap64_nat wrap64_add wrap64_succ

set_option maxRecDepth 100000 in
set_option maxHeartbeats 2000000 in
theorem lerr_any (a : Al.Alph) (A A' : Option Addr) (c c' : Nat) (s : List UInt8) (w : World) (hz : Sized a) (hA : StrAt w A a.letters) (hS : IntAt w A' a.small) (hs : s.length ≤ 9223372036854775807) :
    Calls Tryd.prog 7 #[alv a A c A' c', .string (bs s)] w fun e w' => e = .returned (.bool true) ∧ Below w.heap.size w w' := by
  go_enter Tryd.func7, Tryd.ntmps7
  go_wp2_with fail
  have S0 := Lib.hid (Box.new c c' hA hS)
  clear hA hS
  refine (ahead_any _).mono ?_
  rintro e w1 ⟨rfl, b1⟩
  have S1 := Lib.hid (S0.out.next b1)
  have k0 := S1.out.c0
  have k1 := S1.out.c1
  have k2 := S1.out.c2
  clear b1
  have hsz1 := S1.out.lt
  cases hfw : (fewB a && decide (s.length ≤ 300))
  · have HFW := Lib.hid hfw
    clear hfw
    go_wp2_with fail
    refine (few_at HFW.out A A' c c' _ hz S1.out.hA hs).mono ?_
    rintro e w2 ⟨rfl, b2⟩
    have B2 := Lib.hid (bel_trans S1.out.bel b2)
    clear b2
    go_wp2
    go_ret
    exact ⟨rfl, B2.out⟩
  · obtain ⟨hF, h300⟩ := few_out hfw
    have HFW := Lib.hid hfw
    have HF := Lib.hid hF
    clear hfw hF
    cases hv : Al.validB a
    · have HV := Lib.hid hv
      clear hv
      go_wp2_with fail
      refine (few_at HFW.out A A' c c' _ hz S1.out.hA hs).mono ?_
      rintro e w2 ⟨rfl, b2⟩
      have S2 := Lib.hid (S1.out.next b2)
      clear k0 k1 k2 b2
      have k0 := S2.out.c0
      have k1 := S2.out.c1
      have k2 := S2.out.c2
      go_wp2_with fail
      refine (valid_at HV.out A A' c c' _ HF.out S2.out.hA S2.out.hS).mono ?_
      rintro e w3 ⟨rfl, b3⟩
      have B3 := Lib.hid (bel_trans S2.out.bel b3)
      clear b3
      go_wp2
      go_ret
      exact ⟨rfl, B3.out⟩
    · have HV := Lib.hid hv
      clear hv
      have HL := fun ks e o (hr : Al.readB a s = (ks, e, o)) he => Al.errors_law HV.out hr he
      have HE := fun ks e o (hr : Al.readB a s = (ks, e, o)) he he2 => Al.errors_else HV.out hr he he2
      obtain ⟨ks, er, o, hr⟩ : ∃ ks er o, Al.readB a s = (ks, er, o) := ⟨_, _, _, rfl⟩
      have HR := Lib.hid hr
      replace HL := Lib.hid (HL ks er o hr)
      replace HE := Lib.hid (HE ks er o hr)
      clear hr
      go_wp2_with fail
      refine (few_at HFW.out A A' c c' _ hz S1.out.hA hs).mono ?_
      rintro e w2 ⟨rfl, b2⟩
      have S2 := Lib.hid (S1.out.next b2)
      clear k0 k1 k2 b2
      have k0 := S2.out.c0
      have k1 := S2.out.c1
      have k2 := S2.out.c2
      go_wp2_with fail
      refine (valid_at HV.out A A' c c' _ HF.out S2.out.hA S2.out.hS).mono ?_
      rintro e w3 ⟨rfl, b3⟩
      have S3 := Lib.hid (S2.out.next b3)
      clear k0 k1 k2 b3
      have k0 := S3.out.c0
      have k1 := S3.out.c1
      have k2 := S3.out.c2
      go_wp2_with fail
      refine (read_at HR.out A A' c c' _ HF.out S3.out.hA S3.out.hS (by omega)).mono ?_
      rintro e w4 ⟨R, cr, rfl, i4, b4⟩
      have S4 := Lib.hid (S3.out.next b4)
      clear k0 k1 k2 b4 i4
      have k0 := S4.out.c0
      have k1 := S4.out.c1
      have k2 := S4.out.c2
      by_cases h3 : er = 3 ∨ er = 2
      · obtain ⟨p, rfl, hp, hp0, hp1⟩ := HL.out h3
        have HP0 := Lib.hid hp0
        have HP1 := Lib.hid hp1
        have h3' : (er != 3 && er != 2) = false := by rcases h3 with rfl | rfl <;> rfl
        clear hp0
        have hlt4 := S4.out.lt
        have hex : (bs s).extract 0 p = bs (s.take p) := by rw [extract_bs, bs_list, List.drop_zero, Nat.sub_zero]
        obtain ⟨ks2, er2, o2, hr2⟩ : ∃ ks2 er2 o2, Al.readB a (s.take p) = (ks2, er2, o2) := ⟨_, _, _, rfl⟩
        have HR2 := Lib.hid hr2
        have hp2 := hp1
        rw [hr2] at hp2
        have HP2 := Lib.hid hp2
        clear hr2 hp1 hp2
        have hlt' : decide ((p : Int) < 0) = false := by simp
        have hge' : decide ((p : Int) ≥ (s.length : Int)) = false := by rw [decide_eq_false_iff_not]; omega
        clear HL HE
        clear HR h3'
        rcases h3 with rfl | rfl
        · go_wp2
          refine wp_region_later_mid 4 (by kernel_rfl) (by kernel_rfl) ?_
          simp only [List.take_succ_cons, List.take_zero, List.drop_succ_cons, List.drop_zero]
          repeat (go_big_quiet_step ((fail)))
          refine wpQuiet_nil ?_
          rintro _ ⟨x, rfl⟩
          have S5 := Lib.hid (S4.out.next x.bel)
          go_wp2_with fail
          try rw [hex]
          refine (read_at HR2.out A A' c c' _ HF.out S5.out.hA S5.out.hS (by rw [List.length_take]; omega)).mono ?_
          rintro e w6 ⟨R6, c6, rfl, i6, b6⟩
          have B6 := Lib.hid (bel_trans S5.out.bel b6)
          clear i6 b6
          go_wp2_with fail
          repeat (go_big_quiet_step ((fail)))
          refine wpQuiet_nil ?_
          by_cases h0 : p = 0
          · subst h0
            go_wp2
            go_ret
            exact ⟨rfl, B6.out⟩
          · obtain ⟨rfl, hl⟩ := HP2.out (by omega)
            go_wp2
            go_ret
            exact ⟨rfl, B6.out⟩
        · go_wp2
          refine wp_region_later_mid 4 (by kernel_rfl) (by kernel_rfl) ?_
          simp only [List.take_succ_cons, List.take_zero, List.drop_succ_cons, List.drop_zero]
          repeat (go_big_quiet_step ((fail)))
          refine wpQuiet_nil ?_
          rintro _ ⟨x, rfl⟩
          have S5 := Lib.hid (S4.out.next x.bel)
          go_wp2_with fail
          try rw [hex]
          refine (read_at HR2.out A A' c c' _ HF.out S5.out.hA S5.out.hS (by rw [List.length_take]; omega)).mono ?_
          rintro e w6 ⟨R6, c6, rfl, i6, b6⟩
          have B6 := Lib.hid (bel_trans S5.out.bel b6)
          clear i6 b6
          go_wp2_with fail
          repeat (go_big_quiet_step ((fail)))
          refine wpQuiet_nil ?_
          by_cases h0 : p = 0
          · exact absurd (HP0.out h0) (by decide)
          · obtain ⟨rfl, hl⟩ := HP2.out (by omega)
            have hl' : ks2.length = 24 := by simpa using hl
            clear hl
            have hl2 : (ks2.length : Int) = 24 := by omega
            go_wp2
            go_ret
            exact ⟨ret_bool (by simp [hl2]), B6.out⟩
      · have h3a : er ≠ 3 := fun h => h3 (.inl h)
        have h3b : er ≠ 2 := fun h => h3 (.inr h)
        have h3a' : (er != 3) = true := by rw [bne_iff_ne]; exact h3a
        have h3b' : (er != 2) = true := by rw [bne_iff_ne]; exact h3b
        obtain ⟨rfl, hse⟩ := HE.out h3a h3b
        have hse' : ((er == 0) == !(bs s).toList.isEmpty) = true := by
          rw [Lib.toList_data, bs_list, beq_iff_eq]
          by_cases h0 : er = 0
          · have hne := hse.1 h0
            rw [h0]
            cases s with
            | nil => exact absurd rfl hne
            | cons x t => rfl
          · have : s = [] := by
              rcases s with _ | ⟨x, t⟩
              · rfl
              · exact absurd (hse.2 (by simp)) h0
            subst this
            rw [beq_eq_false_iff_ne.2 h0]; rfl
        clear h3 h3a h3b hse
        go_wp2
        go_ret
        exact ⟨by first | rfl | (rw [hse']; rfl), S4.out.bel⟩
end Go.Proofs.YtafbgfdidmepaaaDoor

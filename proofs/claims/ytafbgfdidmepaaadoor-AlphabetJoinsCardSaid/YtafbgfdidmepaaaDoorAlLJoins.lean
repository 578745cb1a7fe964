/-
  AlphabetJoins: it returns true.
-/
import Derived.Test.YtafbgfdidmepaaaDoorAlBox
import Derived.Test.YtafbgfdidmepaaaDoorAlLaw2
set_option linter.unusedVariables false
namespace Go.Proofs.YtafbgfdidmepaaaDoor
open Go.RowKit Go.Maps
attribute [local go_sem] alloc_drewN setCell_drewN setRow_drewN Later.cell Later.frozen wrap64_nat wrap64_add wrap64_succ

set_option maxRecDepth 100000 in
set_option maxHeartbeats 2000000 in
theorem ljoins_any (a : Al.Alph) (A A' : Option Addr) (c c' : Nat) (x : List Int) (XA : Option Addr) (cx : Nat) (y : List Int) (YA : Option Addr) (cy : Nat) (w : World) (hz : Sized a) (hA : StrAt w A a.letters) (hS : IntAt w A' a.small) (hX : IntAt w XA x) (hx : x.length ≤ 9223372036854775807) (hY : IntAt w YA y) (hy : y.length ≤ 9223372036854775807) :
    Calls Tryd.prog 5 #[alv a A c A' c', .slice XA x.length cx, .slice YA y.length cy] w fun e w' => e = .returned (.bool true) ∧ Below w.heap.size w w' := by
  go_enter Tryd.func5, Tryd.ntmps5
  go_wp2_with fail
  have S0 := Lib.hid (Box.new c c' hA hS)
  clear hA hS
  have X := Lib.hid (IntAt.bel hX (bel_alloc (bel_refl w) (.cells #[.string (bs a.name), .slice A a.letters.length c, .slice A' a.small.length c'] 25)))
  clear hX
  have Y := Lib.hid (IntAt.bel hY (bel_alloc (bel_refl w) (.cells #[.string (bs a.name), .slice A a.letters.length c, .slice A' a.small.length c'] 25)))
  clear hY
  refine (ahead_any _).mono ?_
  rintro e w1 ⟨rfl, b1⟩
  have S1 := Lib.hid (S0.out.next b1)
  have k0 := S1.out.c0
  have k1 := S1.out.c1
  have k2 := S1.out.c2
  have X := Lib.hid (X.out.bel b1)
  have Y := Lib.hid (Y.out.bel b1)
  clear b1
  have hsz1 := S1.out.lt
  cases hfw : fewB a
  · have HFW := Lib.hid hfw
    clear hfw
    go_wp2_with fail
    refine (few_at (s := []) (few_nil.trans HFW.out) A A' c c' _ hz S1.out.hA (by simp)).mono ?_
    rintro e w2 ⟨rfl, b2⟩
    have S2 := Lib.hid (S1.out.next b2)
    have X := Lib.hid (X.out.bel b2)
    have Y := Lib.hid (Y.out.bel b2)
    clear k0 k1 k2 b2
    have k0 := S2.out.c0
    have k1 := S2.out.c1
    have k2 := S2.out.c2
    go_wp2
    go_ret
    exact ⟨rfl, by first | exact S2.out.bel | (have := S2.out.bel; rwa [World.drewN_drewN] at this)⟩
  · have hF := fewB_few hfw
    have HFW := Lib.hid hfw
    have HF := Lib.hid hF
    clear hfw hF
    by_cases hx40 : x.length ≤ 40
    · have hx40' : decide ((x.length : Int) > 40) = false := by rw [decide_eq_false_iff_not]; omega
      by_cases hy40 : y.length ≤ 40
      · have hy40' : decide ((y.length : Int) > 40) = false := by rw [decide_eq_false_iff_not]; omega
        cases hv : Al.validB a
        · have HV := Lib.hid hv
          clear hv
          go_wp2_with fail
          refine (few_at (s := []) (few_nil.trans HFW.out) A A' c c' _ hz S1.out.hA (by simp)).mono ?_
          rintro e w2 ⟨rfl, b2⟩
          have S2 := Lib.hid (S1.out.next b2)
          have X := Lib.hid (X.out.bel b2)
          have Y := Lib.hid (Y.out.bel b2)
          clear k0 k1 k2 b2
          have k0 := S2.out.c0
          have k1 := S2.out.c1
          have k2 := S2.out.c2
          go_wp2_with fail
          refine (valid_at HV.out A A' c c' _ HF.out S2.out.hA S2.out.hS).mono ?_
          rintro e w3 ⟨rfl, b3⟩
          have S3 := Lib.hid (S2.out.next b3)
          have X := Lib.hid (X.out.bel b3)
          have Y := Lib.hid (Y.out.bel b3)
          clear k0 k1 k2 b3
          have k0 := S3.out.c0
          have k1 := S3.out.c1
          have k2 := S3.out.c2
          go_wp2
          go_ret
          exact ⟨rfl, by first | exact S3.out.bel | (have := S3.out.bel; rwa [World.drewN_drewN] at this)⟩
        · have HV := Lib.hid hv
          have hjl := fun h => Al.joins_law (a := a) hv (x := x) h
          have hji := fun h h' => Al.joins_inj (a := a) hv (x := x) (y := y) h h'
          have hje := @Al.join_err a x
          obtain ⟨s, es, hs⟩ : ∃ s es, Al.joinB a x = (s, es) := ⟨_, _, rfl⟩
          obtain ⟨t, et, ht⟩ : ∃ t et, Al.joinB a y = (t, et) := ⟨_, _, rfl⟩
          rw [hs] at hjl hje
          rw [hs, ht] at hji
          dsimp only at hjl hje hji
          have HJS := Lib.hid hs
          have HJT := Lib.hid ht
          clear hs ht hv
          by_cases he : es = 0
          · obtain ⟨q1, q2⟩ := hjl he
            subst he
            injection q1 with q1 _
            have hsl : s.length ≤ 1000000 := by
              have := Al.joinL_le HF.out.len x
              rw [← q1] at this
              omega
            rw [← q1] at q2
            have Q2 := Lib.hid q2
            have HJI := Lib.hid hji
            clear q1 q2 hjl hje hji
            go_wp2_with fail
            refine (few_at (s := []) (few_nil.trans HFW.out) A A' c c' _ hz S1.out.hA (by simp)).mono ?_
            rintro e w2 ⟨rfl, b2⟩
            have S2 := Lib.hid (S1.out.next b2)
            have X := Lib.hid (X.out.bel b2)
            have Y := Lib.hid (Y.out.bel b2)
            clear k0 k1 k2 b2
            have k0 := S2.out.c0
            have k1 := S2.out.c1
            have k2 := S2.out.c2
            go_wp2_with fail
            refine (valid_at HV.out A A' c c' _ HF.out S2.out.hA S2.out.hS).mono ?_
            rintro e w3 ⟨rfl, b3⟩
            have S3 := Lib.hid (S2.out.next b3)
            have X := Lib.hid (X.out.bel b3)
            have Y := Lib.hid (Y.out.bel b3)
            clear k0 k1 k2 b3
            have k0 := S3.out.c0
            have k1 := S3.out.c1
            have k2 := S3.out.c2
            go_wp2_with fail
            refine (join_at HJS.out A A' XA c c' cx _ HF.out S3.out.hA S3.out.hS X.out (by omega)).mono ?_
            rintro e w4 ⟨rfl, b4⟩
            have S4 := Lib.hid (S3.out.next b4)
            have X := Lib.hid (X.out.bel b4)
            have Y := Lib.hid (Y.out.bel b4)
            clear k0 k1 k2 b4
            have k0 := S4.out.c0
            have k1 := S4.out.c1
            have k2 := S4.out.c2
            go_wp2_with fail
            refine (join_at HJT.out A A' YA c c' cy _ HF.out S4.out.hA S4.out.hS Y.out (by omega)).mono ?_
            rintro e w5 ⟨rfl, b5⟩
            have S5 := Lib.hid (S4.out.next b5)
            have X := Lib.hid (X.out.bel b5)
            have Y := Lib.hid (Y.out.bel b5)
            clear k0 k1 k2 b5
            have k0 := S5.out.c0
            have k1 := S5.out.c1
            have k2 := S5.out.c2
            go_wp2_with fail
            refine (read_at Q2.out A A' c c' _ HF.out S5.out.hA S5.out.hS hsl).mono ?_
            rintro e w6 ⟨R, cr, rfl, iI1, b6⟩
            have S6 := Lib.hid (S5.out.next b6)
            have X := Lib.hid (X.out.bel b6)
            have Y := Lib.hid (Y.out.bel b6)
            have I1 := Lib.hid iI1
            clear iI1
            clear k0 k1 k2 b6
            have k0 := S6.out.c0
            have k1 := S6.out.c1
            have k2 := S6.out.c2
            have hxx : (x == x) = true := beq_self_eq_true x
            by_cases hf : et = 0
            · subst hf
              have hst : ((bs s).toList == (bs t).toList) = (x == y) := by
                rw [Lib.toList_data, Lib.toList_data, bs_list, bs_list, Bool.eq_iff_iff, beq_iff_eq, beq_iff_eq]
                have := HJI.out
                simpa using this
              have HST := Lib.hid hst
              clear hst
              go_wp2_with fail
              refine (ints_any R XA cr cx x x _ I1.out X.out (by omega) (by omega)).mono ?_
              rintro e w7 ⟨rfl, n7, rfl⟩
              have S7 := Lib.hid (S6.out.drewN n7)
              have X := Lib.hid (X.out.bel (bel_drewN (bel_refl _) n7))
              have Y := Lib.hid (Y.out.bel (bel_drewN (bel_refl _) n7))
              have I1 := Lib.hid (I1.out.bel (bel_drewN (bel_refl _) n7))
              clear k0 k1 k2
              have k0 := S7.out.c0
              have k1 := S7.out.c1
              have k2 := S7.out.c2
              go_wp2_with fail
              refine (ints_any XA YA cx cy x y _ X.out Y.out (by omega) (by omega)).mono ?_
              rintro e w8 ⟨rfl, n8, rfl⟩
              have S8 := Lib.hid (S7.out.drewN n8)
              have X := Lib.hid (X.out.bel (bel_drewN (bel_refl _) n8))
              have Y := Lib.hid (Y.out.bel (bel_drewN (bel_refl _) n8))
              have I1 := Lib.hid (I1.out.bel (bel_drewN (bel_refl _) n8))
              clear k0 k1 k2
              have k0 := S8.out.c0
              have k1 := S8.out.c1
              have k2 := S8.out.c2
              go_wp2
              go_ret
              exact ⟨by first | rfl | (exact ret_bool (by simp [HST.out])) | skip, by first | exact S8.out.bel | (have := S8.out.bel; rwa [World.drewN_drewN] at this)⟩
            · have hf' : (et != 0) = true := by rw [bne_iff_ne]; exact hf
              go_wp2_with fail
              refine (ints_any R XA cr cx x x _ I1.out X.out (by omega) (by omega)).mono ?_
              rintro e w7 ⟨rfl, n7, rfl⟩
              have S7 := Lib.hid (S6.out.drewN n7)
              have X := Lib.hid (X.out.bel (bel_drewN (bel_refl _) n7))
              have Y := Lib.hid (Y.out.bel (bel_drewN (bel_refl _) n7))
              have I1 := Lib.hid (I1.out.bel (bel_drewN (bel_refl _) n7))
              clear k0 k1 k2
              have k0 := S7.out.c0
              have k1 := S7.out.c1
              have k2 := S7.out.c2
              go_wp2
              go_ret
              exact ⟨by first | rfl | (exact ret_bool (by simp)), by first | exact S7.out.bel | (have := S7.out.bel; rwa [World.drewN_drewN] at this)⟩
          · have h0 := hje he
            injection h0 with h01 h02
            subst h01
            subst h02
            clear hjl hje hji he
            have hse1 : (bs ([] : List UInt8)).toList = [] := by rw [Lib.toList_data, bs_list]
            have hse2 : (bs ([] : List UInt8)).toList.isEmpty = true := by rw [hse1]; rfl
            go_wp2_with fail
            refine (few_at (s := []) (few_nil.trans HFW.out) A A' c c' _ hz S1.out.hA (by simp)).mono ?_
            rintro e w2 ⟨rfl, b2⟩
            have S2 := Lib.hid (S1.out.next b2)
            have X := Lib.hid (X.out.bel b2)
            have Y := Lib.hid (Y.out.bel b2)
            clear k0 k1 k2 b2
            have k0 := S2.out.c0
            have k1 := S2.out.c1
            have k2 := S2.out.c2
            go_wp2_with fail
            refine (valid_at HV.out A A' c c' _ HF.out S2.out.hA S2.out.hS).mono ?_
            rintro e w3 ⟨rfl, b3⟩
            have S3 := Lib.hid (S2.out.next b3)
            have X := Lib.hid (X.out.bel b3)
            have Y := Lib.hid (Y.out.bel b3)
            clear k0 k1 k2 b3
            have k0 := S3.out.c0
            have k1 := S3.out.c1
            have k2 := S3.out.c2
            go_wp2_with fail
            refine (join_at HJS.out A A' XA c c' cx _ HF.out S3.out.hA S3.out.hS X.out (by omega)).mono ?_
            rintro e w4 ⟨rfl, b4⟩
            have S4 := Lib.hid (S3.out.next b4)
            have X := Lib.hid (X.out.bel b4)
            have Y := Lib.hid (Y.out.bel b4)
            clear k0 k1 k2 b4
            have k0 := S4.out.c0
            have k1 := S4.out.c1
            have k2 := S4.out.c2
            go_wp2_with fail
            refine (join_at HJT.out A A' YA c c' cy _ HF.out S4.out.hA S4.out.hS Y.out (by omega)).mono ?_
            rintro e w5 ⟨rfl, b5⟩
            have S5 := Lib.hid (S4.out.next b5)
            have X := Lib.hid (X.out.bel b5)
            have Y := Lib.hid (Y.out.bel b5)
            clear k0 k1 k2 b5
            have k0 := S5.out.c0
            have k1 := S5.out.c1
            have k2 := S5.out.c2
            go_wp2
            go_ret
            exact ⟨rfl, by first | exact S5.out.bel | (have := S5.out.bel; rwa [World.drewN_drewN] at this)⟩
      · have hy40' : decide ((y.length : Int) > 40) = true := by rw [decide_eq_true_eq]; omega
        go_wp2_with fail
        refine (few_at (s := []) (few_nil.trans HFW.out) A A' c c' _ hz S1.out.hA (by simp)).mono ?_
        rintro e w2 ⟨rfl, b2⟩
        have S2 := Lib.hid (S1.out.next b2)
        have X := Lib.hid (X.out.bel b2)
        have Y := Lib.hid (Y.out.bel b2)
        clear k0 k1 k2 b2
        have k0 := S2.out.c0
        have k1 := S2.out.c1
        have k2 := S2.out.c2
        go_wp2
        go_ret
        exact ⟨rfl, by first | exact S2.out.bel | (have := S2.out.bel; rwa [World.drewN_drewN] at this)⟩
    · have hx40' : decide ((x.length : Int) > 40) = true := by rw [decide_eq_true_eq]; omega
      go_wp2_with fail
      refine (few_at (s := []) (few_nil.trans HFW.out) A A' c c' _ hz S1.out.hA (by simp)).mono ?_
      rintro e w2 ⟨rfl, b2⟩
      have S2 := Lib.hid (S1.out.next b2)
      have X := Lib.hid (X.out.bel b2)
      have Y := Lib.hid (Y.out.bel b2)
      clear k0 k1 k2 b2
      have k0 := S2.out.c0
      have k1 := S2.out.c1
      have k2 := S2.out.c2
      go_wp2
      go_ret
      exact ⟨rfl, by first | exact S2.out.bel | (have := S2.out.bel; rwa [World.drewN_drewN] at this)⟩
end Go.Proofs.YtafbgfdidmepaaaDoor

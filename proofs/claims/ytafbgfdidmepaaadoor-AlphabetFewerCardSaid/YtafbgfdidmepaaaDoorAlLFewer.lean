/-
  AlphabetFewer: it returns true.
-/
import Derived.Test.YtafbgfdidmepaaaDoorAlBox
import Derived.Test.YtafbgfdidmepaaaDoorAlLaw3
set_option linter.unusedVariables false
namespace Go.Proofs.YtafbgfdidmepaaaDoor
open Go.RowKit Go.Maps
attribute [local go_sem] alloc_drewN setCell_drewN setRow_drewN Later.cell Later.frozen wrap64_nat wrap64_add wrap64_succ

theorem valid_take {a : Al.Alph} {n : Nat} {b : Bool} (h : Al.validB ⟨a.name, a.letters.take n, a.small.take n⟩ = b) (hn : n ≤ a.letters.length) (hn' : n ≤ a.small.length) (A A' : Option Addr) (c c' : Nat) (w : World) (hF : Few a) (hA : StrAt w A a.letters) (hS : IntAt w A' a.small) :
    Calls Tryd.prog 19 #[.agg #[.string (bs a.name), .slice A n c, .slice A' n c']] w fun e w' => e = .returned (.bool b) ∧ Below w.heap.size w w' := by
  have hF' : Few ⟨a.name, a.letters.take n, a.small.take n⟩ := ⟨by simp only [List.length_take]; have := hF.n; omega, fun l hl => hF.len l (List.mem_of_mem_take hl), by simp only [List.length_take]; have := hF.s; omega, hF.name⟩
  have := valid_at h A A' c c' w hF' (hA.take n) (hS.take n)
  simpa only [alv, List.length_take, Nat.min_eq_left hn, Nat.min_eq_left hn'] using this

set_option maxRecDepth 100000 in
set_option maxHeartbeats 2000000 in
theorem lfewer_any (a : Al.Alph) (A A' : Option Addr) (c c' : Nat) (w : World) (hz : Sized a) (hA : StrAt w A a.letters) (hS : IntAt w A' a.small) (hc : a.letters.length ≤ c) (hc' : a.small.length ≤ c') :
    Calls Tryd.prog 9 #[alv a A c A' c'] w fun e w' => e = .returned (.bool true) ∧ Below w.heap.size w w' := by
  go_enter Tryd.func9, Tryd.ntmps9
  go_wp2_with fail
  have S0 := Lib.hid (Box.new c c' hA hS)
  clear hA hS
  refine (ahead_any _).mono ?_
  rintro e w1 ⟨rfl, b1⟩
  have S1 := Lib.hid (S0.out.next b1)
  have k0 := S1.out.c0
  have k1 := S1.out.c1
  have k2 := S1.out.c2
  clear b1
  have hsz1 := S1.out.lt
  cases hfw : fewB a
  · have HFW := Lib.hid hfw
    clear hfw
    go_wp2_with fail
    refine (few_at (s := []) (few_nil.trans HFW.out) A A' c c' _ hz S1.out.hA (by simp)).mono ?_
    rintro e w2 ⟨rfl, b2⟩
    have S2 := Lib.hid (S1.out.next b2)
    clear k0 k1 k2 b2
    have k0 := S2.out.c0
    have k1 := S2.out.c1
    have k2 := S2.out.c2
    go_wp2
    go_ret
    exact ⟨rfl, by first | exact S2.out.bel | (have := S2.out.bel; rwa [World.drewN_drewN] at this)⟩
  · have hF := fewB_few hfw
    have HFW := Lib.hid hfw
    have HF := Lib.hid hF
    clear hfw hF
    have h70 := HF.out.n
    have hs70 := HF.out.s
    by_cases h2 : 2 ≤ a.letters.length
    · obtain ⟨n, hn⟩ : ∃ n, a.letters.length = n + 1 := ⟨a.letters.length - 1, by omega⟩
      have hn1 : 1 ≤ n := by omega
      have hn2 : a.letters.length ≤ n + 1 := Nat.le_of_eq hn
      have hn3 : n + 1 ≤ a.letters.length := Nat.le_of_eq hn.symm
      have hw1 : wrap64 ((a.letters.length : Int) - 1) = (n : Int) := by rw [IntWalk.wrap64_in _ ⟨by omega, by omega⟩]; omega
      have hw2 : wrap64 ((n : Int) + 1) = (n : Int) + 1 := IntWalk.wrap64_in _ ⟨by omega, by omega⟩
      have hd1 : ¬ ((n : Int) < 1) := by omega
      have HN := Lib.hid hn
      clear hn
      by_cases hsm : a.small.length = n + 1
      · have hsm' : ((a.small.length : Int) != (n : Int) + 1) = false := by rw [hsm]; simp
        have hsm2 : a.small.length ≤ n + 1 := Nat.le_of_eq hsm
        have hsm3 : n + 1 ≤ a.small.length := Nat.le_of_eq hsm.symm
        clear hsm
        cases hv : Al.validB a
        · have HV := Lib.hid hv
          clear hv
          go_wp2_with fail
          refine (few_at (s := []) (few_nil.trans HFW.out) A A' c c' _ hz S1.out.hA (by simp)).mono ?_
          rintro e w2 ⟨rfl, b2⟩
          have S2 := Lib.hid (S1.out.next b2)
          clear k0 k1 k2 b2
          have k0 := S2.out.c0
          have k1 := S2.out.c1
          have k2 := S2.out.c2
          go_wp2_with fail
          refine (valid_at HV.out A A' c c' _ HF.out S2.out.hA S2.out.hS).mono ?_
          rintro e w3 ⟨rfl, b3⟩
          have S3 := Lib.hid (S2.out.next b3)
          clear k0 k1 k2 b3
          have k0 := S3.out.c0
          have k1 := S3.out.c1
          have k2 := S3.out.c2
          go_wp2
          go_ret
          exact ⟨rfl, by first | exact S3.out.bel | (have := S3.out.bel; rwa [World.drewN_drewN] at this)⟩
        · have HV := Lib.hid hv
          clear hv
          go_wp2_with fail
          refine (few_at (s := []) (few_nil.trans HFW.out) A A' c c' _ hz S1.out.hA (by simp)).mono ?_
          rintro e w2 ⟨rfl, b2⟩
          have S2 := Lib.hid (S1.out.next b2)
          clear k0 k1 k2 b2
          have k0 := S2.out.c0
          have k1 := S2.out.c1
          have k2 := S2.out.c2
          go_wp2_with fail
          refine (valid_at HV.out A A' c c' _ HF.out S2.out.hA S2.out.hS).mono ?_
          rintro e w3 ⟨rfl, b3⟩
          have S3 := Lib.hid (S2.out.next b3)
          clear k0 k1 k2 b3
          have k0 := S3.out.c0
          have k1 := S3.out.c1
          have k2 := S3.out.c2
          have hltw := S3.out.lt
          obtain ⟨gs, os, rfl, hgs, hcs⟩ := S3.out.hS (by omega)
          obtain ⟨ga, oa, rfl, hga, hca⟩ := S3.out.hA (by omega)
          have GS := Lib.hid (And.intro hgs hcs)
          clear hgs hcs hga hca
          go_wp2
          go_loopw [5] (fun v wr => ∃ k : Nat, v = .int .i64 k ∧ k ≤ n ∧ wr = w3 ∧ ∀ i, i < k → a.small.getD i 0 ≠ (n : Int)) (fun v _ => n - (intOf v).toNat)
          case atStart => exact ⟨0, rfl, Nat.zero_le _, rfl, fun i hi => absurd hi (Nat.not_lt_zero i)⟩
          case round =>
            obtain ⟨k, rfl, hk, rfl, hall⟩ := hrel
            have HALL := Lib.hid hall
            clear hall
            by_cases hlt : k < n
            · have hks : k < a.small.length := by omega
              have hck := GS.out.2 k a.small[k] (List.getElem?_eq_getElem hks)
              have hgd : a.small.getD k 0 = a.small[k] := by rw [List.getD_eq_getElem?_getD, List.getElem?_eq_getElem hks]; rfl
              generalize a.small[k] = x at *
              by_cases hxn : x = (n : Int)
              · subst hxn
                go_wp2
                go_ret
                exact ⟨rfl, S3.out.bel⟩
              · have hxn' : (x == (n : Int)) = false := by rw [beq_eq_false_iff_ne]; exact hxn
                go_wp2
                go_roundw
                case rel =>
                  refine ⟨k + 1, by go_num, hlt, by first | rfl | trivial, fun i hi => ?_⟩
                  by_cases hik : i = k
                  · subst hik; rw [hgd]; exact hxn
                  · exact HALL.out i (by omega)
                case measure => simp [intOf]; omega
            · obtain rfl : k = n := by omega
              have hfl := Al.fewer_law HV.out HN.out hn1 HALL.out
              have hkl : a.letters.length - 1 = k := by omega
              rw [← hkl] at hfl
              have HFL := Lib.hid hfl
              clear hfl hkl
              have hcl : k ≤ c := by omega
              have hcs : k ≤ c' := by omega
              go_wp2
              refine wp_region_later_mid 13 (by kernel_rfl) (by kernel_rfl) ?_
              simp only [List.take_succ_cons, List.take_zero, List.drop_succ_cons, List.drop_zero]
              repeat (go_big_quiet_step ((fail)))
              refine wpQuiet_nil ?_
              rintro _ ⟨y, rfl⟩
              have S9 := Lib.hid (S3.out.next y.bel)
              go_wp2_with fail
              refine (valid_take HFL.out (by omega) (by omega) _ _ c c' _ HF.out S9.out.hA S9.out.hS).mono ?_
              rintro e w9 ⟨rfl, b9⟩
              have B9 := Lib.hid (bel_trans S9.out.bel b9)
              clear b9
              go_wp2_with fail
              repeat (go_big_quiet_step ((fail)))
              refine wpQuiet_nil ?_
              go_wp2
              go_ret
              exact ⟨rfl, B9.out⟩
      · have hsm' : ((a.small.length : Int) != (n : Int) + 1) = true := by rw [bne_iff_ne]; omega
        go_wp2_with fail
        refine (few_at (s := []) (few_nil.trans HFW.out) A A' c c' _ hz S1.out.hA (by simp)).mono ?_
        rintro e w2 ⟨rfl, b2⟩
        have S2 := Lib.hid (S1.out.next b2)
        clear k0 k1 k2 b2
        have k0 := S2.out.c0
        have k1 := S2.out.c1
        have k2 := S2.out.c2
        go_wp2
        go_ret
        exact ⟨rfl, by first | exact S2.out.bel | (have := S2.out.bel; rwa [World.drewN_drewN] at this)⟩
    · have hd1 : decide (wrap64 ((a.letters.length : Int) - 1) < 1) = true := by rw [IntWalk.wrap64_in _ ⟨by omega, by omega⟩, decide_eq_true_eq]; omega
      go_wp2_with fail
      refine (few_at (s := []) (few_nil.trans HFW.out) A A' c c' _ hz S1.out.hA (by simp)).mono ?_
      rintro e w2 ⟨rfl, b2⟩
      have S2 := Lib.hid (S1.out.next b2)
      clear k0 k1 k2 b2
      have k0 := S2.out.c0
      have k1 := S2.out.c1
      have k2 := S2.out.c2
      go_wp2
      go_ret
      exact ⟨rfl, by first | exact S2.out.bel | (have := S2.out.bel; rwa [World.drewN_drewN] at this)⟩
end Go.Proofs.YtafbgfdidmepaaaDoor

/-
  AlphabetFolds: it returns true.
-/
import Derived.Test.YtafbgfdidmepaaaDoorAlBox
import Derived.Test.YtafbgfdidmepaaaDoorAlLaw2
set_option linter.unusedVariables false
namespace Go.Proofs.YtafbgfdidmepaaaDoor
open Go.RowKit Go.Maps
attribute [local go_sem] alloc_drewN setCell_drewN setRow_drewN Later.cell Later.frozen wrap64_nat wrap64_add wrap64_succ

set_option maxRecDepth 100000 in
set_option maxHeartbeats 2000000 in
theorem lfolds_any (a : Al.Alph) (A A' : Option Addr) (c c' : Nat) (s : List UInt8) (w : World) (hz : Sized a) (hA : StrAt w A a.letters) (hS : IntAt w A' a.small) (hs : s.length ≤ 9223372036854775807) :
    Calls Tryd.prog 6 #[alv a A c A' c', .string (bs s)] w fun e w' => e = .returned (.bool true) ∧ Below w.heap.size w w' := by
  go_enter Tryd.func6, Tryd.ntmps6
  go_wp2_with fail
  have S0 := Lib.hid (Box.new c c' hA hS)
  clear hA hS
  refine (ahead_any _).mono ?_
  rintro e w1 ⟨rfl, b1⟩
  have S1 := Lib.hid (S0.out.next b1)
  have k0 := S1.out.c0
  have k1 := S1.out.c1
  have k2 := S1.out.c2
  clear b1
  have hsz1 := S1.out.lt
  cases hfw : (fewB a && decide (s.length ≤ 300))
  · have HFW := Lib.hid hfw
    clear hfw
    go_wp2_with fail
    refine (few_at HFW.out A A' c c' _ hz S1.out.hA hs).mono ?_
    rintro e w2 ⟨rfl, b2⟩
    have S2 := Lib.hid (S1.out.next b2)
    clear k0 k1 k2 b2
    have k0 := S2.out.c0
    have k1 := S2.out.c1
    have k2 := S2.out.c2
    go_wp2
    go_ret
    exact ⟨rfl, by first | exact S2.out.bel | (have := S2.out.bel; rwa [World.drewN_drewN] at this)⟩
  · obtain ⟨hF, h300⟩ := few_out hfw
    have HFW := Lib.hid hfw
    have HF := Lib.hid hF
    clear hfw hF
    obtain ⟨t, et, ht⟩ : ∃ t et, Al.foldB a s = (t, et) := ⟨_, _, rfl⟩
    obtain ⟨ks, er, o, hr⟩ : ∃ ks er o, Al.readB a s = (ks, er, o) := ⟨_, _, _, rfl⟩
    have hno := @Al.folds_none a s
    have hok := @Al.fold_ok a s
    have hfl := @Al.folds_law a s
    have hro := @Al.read_ok a s
    rw [ht, hr] at hno hok
    rw [ht, hr] at hfl
    rw [hr] at hro
    dsimp only at hno hok hfl hro
    have HT := Lib.hid ht
    have HR := Lib.hid hr
    clear ht hr
    by_cases he : et = 0
    · have her := hok he
      obtain ⟨q1, q2, q3⟩ := hfl her
      obtain ⟨hv, z1, z2, z3, hin, hne, h24⟩ := hro her
      clear z1 z2 z3
      subst he
      subst her
      have hfo := Al.valid_formed hv
      obtain ⟨hsl, _⟩ := Al.formed_small hfo
      have ht2 : t = Al.joinL a.letters (ks.map fun k => a.small.getD k.toNat 0) := congrArg Prod.fst q1
      have htl : t.length ≤ 1000000 := by
        have := Al.joinL_le HF.out.len (ks.map fun k => a.small.getD k.toNat 0)
        rw [List.length_map, ← ht2] at this
        omega
      have Q2 := Lib.hid q2
      have Q3 := Lib.hid q3
      have HIN := Lib.hid hin
      have HSL := Lib.hid hsl
      clear q1 q2 q3 hv hin hne hfo hsl ht2 hno hok hfl hro
      go_wp2_with fail
      refine (few_at HFW.out A A' c c' _ hz S1.out.hA hs).mono ?_
      rintro e w2 ⟨rfl, b2⟩
      have S2 := Lib.hid (S1.out.next b2)
      clear k0 k1 k2 b2
      have k0 := S2.out.c0
      have k1 := S2.out.c1
      have k2 := S2.out.c2
      go_wp2_with fail
      refine (fold_at HT.out A A' c c' _ HF.out S2.out.hA S2.out.hS (by omega)).mono ?_
      rintro e w3 ⟨rfl, b3⟩
      have S3 := Lib.hid (S2.out.next b3)
      clear k0 k1 k2 b3
      have k0 := S3.out.c0
      have k1 := S3.out.c1
      have k2 := S3.out.c2
      go_wp2_with fail
      refine (read_at HR.out A A' c c' _ HF.out S3.out.hA S3.out.hS (by omega)).mono ?_
      rintro e w4 ⟨R, cr, rfl, iI1, b4⟩
      have S4 := Lib.hid (S3.out.next b4)
      have I1 := Lib.hid iI1
      clear iI1
      clear k0 k1 k2 b4
      have k0 := S4.out.c0
      have k1 := S4.out.c1
      have k2 := S4.out.c2
      go_wp2_with fail
      refine (fold_at Q3.out A A' c c' _ HF.out S4.out.hA S4.out.hS htl).mono ?_
      rintro e w5 ⟨rfl, b5⟩
      have S5 := Lib.hid (S4.out.next b5)
      have I1 := Lib.hid (I1.out.bel b5)
      clear k0 k1 k2 b5
      have k0 := S5.out.c0
      have k1 := S5.out.c1
      have k2 := S5.out.c2
      go_wp2_with fail
      refine (read_at Q2.out A A' c c' _ HF.out S5.out.hA S5.out.hS htl).mono ?_
      rintro e w6 ⟨M, cm, rfl, iI2, b6⟩
      have S6 := Lib.hid (S5.out.next b6)
      have I1 := Lib.hid (I1.out.bel b6)
      have I2 := Lib.hid iI2
      clear iI2
      clear k0 k1 k2 b6
      have k0 := S6.out.c0
      have k1 := S6.out.c1
      have k2 := S6.out.c2
      have hml : ((ks.map fun k => a.small.getD k.toNat 0).length : Int) = ks.length := by rw [List.length_map]
      have hst : ((bs t).data == (bs t).data) = true := by simp
      have hlw := S6.out.lt
      go_wp2
      go_loopw [16] (fun v wr => ∃ k : Nat, v = .int .i64 k ∧ k ≤ ks.length ∧ ∃ n, wr = w6.drewN n) (fun v _ => ks.length - (intOf v).toNat)
      case atStart => exact ⟨0, rfl, Nat.zero_le _, 0, rfl⟩
      case round =>
        obtain ⟨k, rfl, hk, n, rfl⟩ := hrel
        by_cases hlt : k < ks.length
        · obtain ⟨gl, ol, rfl, hgl, hcl⟩ := I1.out.at_ k hlt
          obtain ⟨gm, om, rfl, hgm, hcm⟩ := I2.out.at_ k (by rw [List.length_map]; exact hlt)
          have hkr := Al.inRange_mem HIN.out ks[k] (List.getElem_mem hlt)
          rw [List.getElem_map] at hcm
          generalize ks[k] = x at *
          obtain ⟨X, rfl⟩ : ∃ X : Nat, x = X := ⟨x.toNat, by omega⟩
          have hX : X < a.small.length := by rw [HSL.out]; omega
          obtain ⟨gs, os, rfl, hgs, hcs⟩ := S6.out.hS.at_ X hX
          rw [Int.toNat_natCast, List.getD_eq_getElem?_getD, List.getElem?_eq_getElem hX, Option.getD_some] at hcm
          generalize a.small[X] = y at *
          have hd1 : decide ((X : Int) < 0) = false := by simp
          have hd2 : decide ((X : Int) ≥ (a.small.length : Int)) = false := by rw [decide_eq_false_iff_not]; omega
          have hlm : k < (ks.map fun k => a.small.getD k.toNat 0).length := by rw [List.length_map]; exact hlt
          go_wp2
          go_quiet (fail)
          go_wp2
          go_roundw
          case rel => exact ⟨k + 1, by go_num, hlt, _, by first | rfl | rw [World.drewN_drewN]⟩
          case measure => simp [intOf]; omega
        · go_wp2
          go_ret
          exact ⟨rfl, bel_drewN S6.out.bel n⟩
    · have her : er ≠ 0 := fun h => he (congrArg Prod.snd (hfl h).1)
      have h0 := hno her
      injection h0 with h01 h02
      subst h01
      subst h02
      have her' : (er != 0) = true := by rw [bne_iff_ne]; exact her
      clear hno hok hfl hro he her
      have hse1 : (bs ([] : List UInt8)).toList = [] := by rw [Lib.toList_data, bs_list]
      have hse2 : (bs ([] : List UInt8)).toList.isEmpty = true := by rw [hse1]; rfl
      go_wp2_with fail
      refine (few_at HFW.out A A' c c' _ hz S1.out.hA hs).mono ?_
      rintro e w2 ⟨rfl, b2⟩
      have S2 := Lib.hid (S1.out.next b2)
      clear k0 k1 k2 b2
      have k0 := S2.out.c0
      have k1 := S2.out.c1
      have k2 := S2.out.c2
      go_wp2_with fail
      refine (fold_at HT.out A A' c c' _ HF.out S2.out.hA S2.out.hS (by omega)).mono ?_
      rintro e w3 ⟨rfl, b3⟩
      have S3 := Lib.hid (S2.out.next b3)
      clear k0 k1 k2 b3
      have k0 := S3.out.c0
      have k1 := S3.out.c1
      have k2 := S3.out.c2
      go_wp2_with fail
      refine (read_at HR.out A A' c c' _ HF.out S3.out.hA S3.out.hS (by omega)).mono ?_
      rintro e w4 ⟨R, cr, rfl, iI1, b4⟩
      have S4 := Lib.hid (S3.out.next b4)
      have I1 := Lib.hid iI1
      clear iI1
      clear k0 k1 k2 b4
      have k0 := S4.out.c0
      have k1 := S4.out.c1
      have k2 := S4.out.c2
      go_wp2
      go_ret
      exact ⟨rfl, by first | exact S4.out.bel | (have := S4.out.bel; rwa [World.drewN_drewN] at this)⟩
end Go.Proofs.YtafbgfdidmepaaaDoor

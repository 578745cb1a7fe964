/-
  AlphabetBytes: it returns true.
-/
import Derived.Test.YtafbgfdidmepaaaDoorAlBox
import Derived.Test.YtafbgfdidmepaaaDoorAlLBytesA
import Derived.Deep.LoopGhost
import Derived.Deep.CutBlock
import Derived.Deep.DeepCutAuto
set_option linter.unusedVariables false
namespace Go.Proofs.YtafbgfdidmepaaaDoor
open Go.RowKit Go.Maps
attribute [local go_sem] alloc_drewN setCell_drewN setRow_drewN Later.cell Later.frozen wrap64_nat wrap64_add wrap64_succ

set_option maxRecDepth 100000 in
set_option maxHeartbeats 2000000 in
theorem lbytes_any (a : Al.Alph) (A A' : Option Addr) (c c' : Nat) (w : World) (hz : Sized a) (hA : StrAt w A a.letters) (hS : IntAt w A' a.small) :
    Calls Tryd.prog 10 #[alv a A c A' c'] w fun e w' => e = .returned (.bool true) ∧ Below w.heap.size w w' := by
  go_enter Tryd.func10, Tryd.ntmps10
  go_wp2_with fail
  have S0 := Lib.hid (Box.new c c' hA hS)
  clear hA hS
  refine (ahead_any _).mono ?_
  rintro e w1 ⟨rfl, b1⟩
  have S1 := Lib.hid (S0.out.next b1)
  have k0 := S1.out.c0
  have k1 := S1.out.c1
  have k2 := S1.out.c2
  clear b1
  have hsz1 := S1.out.lt
  cases hfw : fewB a
  · have HFW := Lib.hid hfw
    clear hfw
    go_wp2_with fail
    refine (few_at (s := []) (few_nil.trans HFW.out) A A' c c' _ hz S1.out.hA (by simp)).mono ?_
    rintro e w2 ⟨rfl, b2⟩
    have S2 := Lib.hid (S1.out.next b2)
    clear k0 k1 k2 b2
    have k0 := S2.out.c0
    have k1 := S2.out.c1
    have k2 := S2.out.c2
    go_wp2
    go_ret
    exact ⟨rfl, by first | exact S2.out.bel | (have := S2.out.bel; rwa [World.drewN_drewN] at this)⟩
  · have hF := fewB_few hfw
    have HFW := Lib.hid hfw
    have HF := Lib.hid hF
    clear hfw hF
    have h70 := HF.out.n
    have hs70 := HF.out.s
    have hn100 := HF.out.name
    go_wp2_with fail
    refine (few_at (s := []) (few_nil.trans HFW.out) A A' c c' _ hz S1.out.hA (by simp)).mono ?_
    rintro e w2 ⟨rfl, b2⟩
    have S2 := Lib.hid (S1.out.next b2)
    clear k0 k1 k2 b2
    have k0 := S2.out.c0
    have k1 := S2.out.c1
    have k2 := S2.out.c2
    have hwl := S2.out.lt
    go_upto_region 4 with fail
    go_cut [4] (fun v wx => v = .bool (Al.cnt a) ∧ wx = w2)
    case first =>
      by_cases h1 : 1 ≤ a.letters.length
      · by_cases h2 : a.letters.length ≤ 64
        · cases h3 : ((a.small.length : Int) == (a.letters.length : Int))
          · have hc : Al.cnt a = false := by unfold Al.cnt; rw [beq_eq_false_iff_ne] at h3; simp; omega
            have HC := Lib.hid hc
            clear hc
            go_wp2_with fail
            go_meet
            exact ⟨by rw [HC.out], rfl⟩
          · have hc : Al.cnt a = true := by unfold Al.cnt; rw [beq_iff_eq] at h3; simp; omega
            have HC := Lib.hid hc
            clear hc
            go_wp2_with fail
            go_meet
            exact ⟨by rw [HC.out], rfl⟩
        · have hc : Al.cnt a = false := by unfold Al.cnt; simp; omega
          have HC := Lib.hid hc
          clear hc
          go_wp2_with fail
          go_meet
          exact ⟨by rw [HC.out], rfl⟩
      · have hc : Al.cnt a = false := by unfold Al.cnt; simp; omega
        have HC := Lib.hid hc
        clear hc
        go_wp2_with fail
        go_meet
        exact ⟨by rw [HC.out], rfl⟩
    case rest =>
    obtain ⟨rfl, hwc⟩ := hcut
    subst wc
    go_wp2
    go_loopg [4, 5] a.letters.length (fun gh v1 v2 wr => ∃ k : Nat, k + gh = a.letters.length ∧ v2 = .int .i64 k ∧ v1 = .bool (Al.cnt a && Al.noTwice (a.letters.take k)) ∧ wr = w2 ∧ (a.letters.take k).all Al.printedB = true ∧ ∀ x ∈ a.letters.take k, x.length = (a.letters.getD 0 []).length)
    case atStart => exact ⟨0, by omega, rfl, by rw [List.take_zero]; simp [Al.noTwice], rfl, by rw [List.take_zero]; rfl, by rw [List.take_zero]; simp⟩
    case round =>
      obtain ⟨k, hkg, rfl, rfl, hwr, hpr, hlen⟩ := hrel
      subst wr
      have HPR := Lib.hid hpr
      have HLEN := Lib.hid hlen
      clear hpr hlen
      cases gk with
      | zero =>
        have hke : a.letters.take k = a.letters := List.take_of_length_le (by omega)
        have hpr2 := HPR.out
        have hln2 := HLEN.out
        rw [hke] at hpr2 hln2
        have hval := (Al.bytes_law hln2).trans (Al.formed_split hpr2)
        rw [hke]
        have HVAL := Lib.hid hval
        clear hval hke hpr2 hln2 HPR HLEN
        obtain ⟨G1, hG1⟩ : ∃ G1, (Al.cnt a && Al.noTwice a.letters) = G1 := ⟨_, rfl⟩
        rw [hG1] at HVAL ⊢
        clear hG1
        have hk3 : ¬ ((k : Int) < (a.letters.length : Int)) := by omega
        go_upto_block 6 with fail
        go_cut [4] (fun v wx => v = .bool (G1 && a.small.all (Al.inR a.small)) ∧ ∃ n, wx = w2.drewN n)
        case first =>
          as_aux_lemma =>
            go_wp2_with fail
            go_loopg [4, 9] a.small.length (fun g4 v1 v2 wr => ∃ j n : Nat, j + g4 = a.small.length ∧ v2 = .int .i64 j ∧ v1 = .bool (G1 && (a.small.take j).all (Al.inR a.small)) ∧ wr = w2.drewN n)
            case atStart => exact ⟨0, 0, by omega, rfl, by rw [List.take_zero]; simp, rfl⟩
            case round =>
              obtain ⟨j, n, hjg, rfl, rfl, hwr⟩ := hrel
              subst wr
              obtain ⟨B, hB⟩ : ∃ B, (G1 && (a.small.take j).all (Al.inR a.small)) = B := ⟨_, rfl⟩
              rw [hB]
              have HB := Lib.hid hB
              clear hB
              cases B
              · go_wp2_with fail
                go_meet
                exact ⟨by rw [Al.and_take_false HB.out], n, rfl⟩
              · cases gk with
                | zero =>
                  have hj3 : ¬ ((j : Int) < (a.small.length : Int)) := by omega
                  have hall : (G1 && a.small.all (Al.inR a.small)) = true := by have := HB.out; rwa [List.take_of_length_le (by omega)] at this
                  have HALL := Lib.hid hall
                  clear hall
                  go_wp2_with fail
                  go_meet
                  exact ⟨by rw [HALL.out], n, rfl⟩
                | succ g4 =>
                  have hjl : j < a.small.length := by omega
                  have hj3 : ((j : Int) < (a.small.length : Int)) := by omega
                  obtain ⟨gs, os, rfl, hgs, hcs⟩ := S2.out.hS.at_ j hjl
                  have HAJ := Lib.hid (Al.all_snoc (Al.inR a.small) a.small j hjl)
                  have hin : Al.inR a.small a.small[j] = (decide (0 ≤ a.small[j]) && decide (a.small[j] < (a.small.length : Int))) := rfl
                  have HIN := Lib.hid hin
                  clear hin
                  generalize a.small[j] = x at *
                  by_cases hx0 : 0 ≤ x
                  · by_cases hx1 : x < (a.small.length : Int)
                    · have hd0 : decide (x ≥ 0) = true := by rw [decide_eq_true_eq]; omega
                      have hd1 : decide (x < (a.small.length : Int)) = true := by rw [decide_eq_true_eq]; omega
                      have hq : Al.inR a.small x = true := by rw [HIN.out, decide_eq_true hx0, hd1]; rfl
                      have HQ := Lib.hid hq
                      clear hq
                      go_wp2
                      go_quiet (fail)
                      go_wp2
                      go_roundg g4
                      case measure => omega
                      case rel => exact ⟨j + 1, _, by omega, by go_num, by rw [HAJ.out, ← Bool.and_assoc, HB.out, HQ.out]; rfl, by first | rfl | rw [World.drewN_drewN]⟩
                    · have hd0 : decide (x ≥ 0) = true := by rw [decide_eq_true_eq]; omega
                      have hd1 : decide (x < (a.small.length : Int)) = false := by rw [decide_eq_false_iff_not]; omega
                      have hq : Al.inR a.small x = false := by rw [HIN.out, hd1, Bool.and_false]
                      have HQ := Lib.hid hq
                      clear hq
                      go_wp2
                      go_quiet (fail)
                      go_wp2
                      go_roundg g4
                      case measure => omega
                      case rel => exact ⟨j + 1, _, by omega, by go_num, by rw [HAJ.out, ← Bool.and_assoc, HB.out, HQ.out]; rfl, by first | rfl | rw [World.drewN_drewN]⟩
                  · have hd0 : decide (x ≥ 0) = false := by rw [decide_eq_false_iff_not]; omega
                    have hq : Al.inR a.small x = false := by rw [HIN.out, decide_eq_false hx0, Bool.false_and]
                    have HQ := Lib.hid hq
                    clear hq
                    go_wp2
                    go_quiet (fail)
                    go_wp2
                    go_roundg g4
                    case measure => omega
                    case rel => exact ⟨j + 1, _, by omega, by go_num, by rw [HAJ.out, ← Bool.and_assoc, HB.out, HQ.out]; rfl, by first | rfl | rw [World.drewN_drewN]⟩
        case rest =>
        obtain ⟨rfl, n4, hwc⟩ := hcut
        subst wc
        have hrng : ∀ {G : Bool}, (G1 && a.small.all (Al.inR a.small)) = true → ∀ x ∈ a.small, 0 ≤ x ∧ x < (a.small.length : Int) := fun h x hx => by
          rw [Bool.and_eq_true, List.all_eq_true] at h
          have := h.2 x hx
          unfold Al.inR at this
          simpa using this
        have HRNG := Lib.hid (@hrng true)
        clear hrng
        obtain ⟨G2, hG2⟩ : ∃ G2, (G1 && a.small.all (Al.inR a.small)) = G2 := ⟨_, rfl⟩
        rw [hG2] at HVAL HRNG ⊢
        clear hG2
        go_upto_block 8 with fail
        go_cut [4] (fun v wx => v = .bool (G2 && a.small.all (Al.fixAt a.small)) ∧ ∃ n, wx = w2.drewN n)
        case first =>
          as_aux_lemma =>
            go_wp2_with fail
            go_loopg [4, 10] a.small.length (fun g4 v1 v2 wr => ∃ j n : Nat, j + g4 = a.small.length ∧ v2 = .int .i64 j ∧ v1 = .bool (G2 && (a.small.take j).all (Al.fixAt a.small)) ∧ wr = w2.drewN n)
            case atStart => exact ⟨0, n4, by omega, rfl, by rw [List.take_zero]; simp, rfl⟩
            case round =>
              obtain ⟨j, n, hjg, rfl, rfl, hwr⟩ := hrel
              subst wr
              obtain ⟨B, hB⟩ : ∃ B, (G2 && (a.small.take j).all (Al.fixAt a.small)) = B := ⟨_, rfl⟩
              rw [hB]
              have HB := Lib.hid hB
              clear hB
              cases B
              · go_wp2_with fail
                go_meet
                exact ⟨by rw [Al.and_take_false HB.out], n, rfl⟩
              · cases gk with
                | zero =>
                  have hj3 : ¬ ((j : Int) < (a.small.length : Int)) := by omega
                  have hall : (G2 && a.small.all (Al.fixAt a.small)) = true := by have := HB.out; rwa [List.take_of_length_le (by omega)] at this
                  have HALL := Lib.hid hall
                  clear hall
                  go_wp2_with fail
                  go_meet
                  exact ⟨by rw [HALL.out], n, rfl⟩
                | succ g4 =>
                  have hjl : j < a.small.length := by omega
                  have hj3 : ((j : Int) < (a.small.length : Int)) := by omega
                  obtain ⟨gs, os, rfl, hgs, hcall⟩ := S2.out.hS (by omega)
                  have hcs := hcall j a.small[j] (List.getElem?_eq_getElem hjl)
                  have HAJ := Lib.hid (Al.all_snoc (Al.fixAt a.small) a.small j hjl)
                  have hxr := HRNG.out (by have := HB.out; rw [Bool.and_eq_true] at this; exact this.1) a.small[j] (List.getElem_mem hjl)
                  have hin : Al.fixAt a.small a.small[j] = (a.small.getD a.small[j].toNat 0 == a.small[j]) := rfl
                  generalize a.small[j] = x at *
                  obtain ⟨X, rfl⟩ : ∃ X : Nat, x = X := ⟨x.toNat, by omega⟩
                  have hX : X < a.small.length := by omega
                  have hcy := hcall X a.small[X] (List.getElem?_eq_getElem hX)
                  rw [Int.toNat_natCast, List.getD_eq_getElem?_getD, List.getElem?_eq_getElem hX, Option.getD_some] at hin
                  have HIN := Lib.hid hin
                  clear hin hcall
                  generalize a.small[X] = y at *
                  go_wp2
                  go_quiet (fail)
                  go_wp2
                  go_roundg g4
                  case measure => omega
                  case rel => exact ⟨j + 1, _, by omega, by go_num, by rw [HAJ.out, ← Bool.and_assoc, HB.out, HIN.out, Bool.true_and], by first | rfl | rw [World.drewN_drewN]⟩
        case rest =>
        obtain ⟨rfl, n5, hwc⟩ := hcut
        subst wc
        clear HRNG
        obtain ⟨G3, hG3⟩ : ∃ G3, (G2 && a.small.all (Al.fixAt a.small)) = G3 := ⟨_, rfl⟩
        rw [hG3] at HVAL ⊢
        clear hG3
        obtain ⟨NB, hNB⟩ : ∃ NB, bs a.name = NB := ⟨_, rfl⟩
        have hNd : a.name = NB.data.toList := by rw [← hNB]; rfl
        have hNs : NB.size ≤ 100 := by rw [← hNB]; exact hn100
        rw [hNB] at k0
        have HND := Lib.hid hNd
        clear hNB hNd
        go_upto_region 29 with fail
        go_cut [12] (fun v wx => v = .bool (Al.n0 a.name) ∧ wx = w2.drewN n5)
        case first =>
          as_aux_lemma =>
            by_cases h1 : 1 ≤ NB.size
            · by_cases h2 : NB.size ≤ 24
              · have h0 : 0 < NB.size := h1
                have hb : NB[0].toNat < 256 := UInt8.toNat_lt NB[0]
                have hv : Al.n0 a.name = Lx.isLetter NB[0] := by
                  unfold Al.n0
                  have e := drop_get NB 0 h0
                  rw [List.drop_zero] at e
                  rw [HND.out, ← size_list, decide_eq_true h0, decide_eq_true h2, e]
                  rfl
                have HV := Lib.hid hv
                clear hv
                go_wp2_with fail
                refine (blet_any NB[0] _).mono ?_
                rintro e w' ⟨rfl, rfl⟩
                go_wp2_with fail
                go_meet
                exact ⟨by rw [HV.out], rfl⟩
              · have hv : Al.n0 a.name = false := by
                  unfold Al.n0
                  rw [HND.out, ← size_list, decide_eq_false h2, Bool.and_false, Bool.false_and]
                have HV := Lib.hid hv
                clear hv
                go_wp2_with fail
                go_meet
                exact ⟨by rw [HV.out], rfl⟩
            · have hv : Al.n0 a.name = false := by
                unfold Al.n0
                rw [HND.out, ← size_list, decide_eq_false (by omega), Bool.false_and, Bool.false_and]
              have HV := Lib.hid hv
              clear hv
              go_wp2_with fail
              go_meet
              exact ⟨by rw [HV.out], rfl⟩
        case rest =>
        obtain ⟨rfl, hwc⟩ := hcut
        subst wc
        obtain ⟨N0, hN0⟩ : ∃ N0, Al.n0 a.name = N0 := ⟨_, rfl⟩
        rw [hN0] at HVAL ⊢
        clear hN0
        go_wp2
        go_loopg [12, 13] NB.size (fun g6 v1 v2 wr => ∃ j : Nat, j + g6 = NB.size ∧ v2 = .int .i64 j ∧ v1 = .bool (N0 && (NB.data.toList.take j).all Lx.isWord) ∧ wr = w2.drewN n5)
        case atStart => exact ⟨0, by omega, rfl, by rw [List.take_zero]; simp, rfl⟩
        case round =>
          obtain ⟨j, hjg, rfl, rfl, hwr⟩ := hrel
          subst wr
          obtain ⟨B, hB⟩ : ∃ B, (N0 && (NB.data.toList.take j).all Lx.isWord) = B := ⟨_, rfl⟩
          rw [hB]
          have HB := Lib.hid hB
          clear hB
          cases gk with
          | zero =>
            as_aux_lemma =>
              have hval : Al.validB a = (G3 && B) := by
                have h := HB.out
                rw [List.take_of_length_le (by rw [← size_list]; omega), ← HND.out] at h
                rw [HVAL.out, h]
              have HVAL2 := Lib.hid hval
              have hj3 : ¬ ((j : Int) < (a.name.length : Int)) := by
                have e : a.name.length = NB.size := by rw [HND.out, size_list]
                rw [e]; omega
              clear hval k0 HVAL
              have k0 := S2.out.c0
              cases G3 <;> cases B
              all_goals
                go_wp2_with fail
                refine (valid_at HVAL2.out A A' c c' _ HF.out (S2.out.drewN n5).hA (S2.out.drewN n5).hS).mono ?_
                rintro e w9 ⟨rfl, b9⟩
                have B9 := Lib.hid (bel_trans (bel_drewN S2.out.bel n5) b9)
                clear b9
                go_wp2
                go_ret
                exact ⟨rfl, B9.out⟩
          | succ g6 =>
            as_aux_lemma =>
              have hj : j < NB.size := by omega
              have hb : NB[j].toNat < 256 := UInt8.toNat_lt NB[j]
              have HTJ := Lib.hid (show NB.data.toList.take (j + 1) = NB.data.toList.take j ++ [NB[j]] from Al.take_snoc NB.data.toList j (by rw [← size_list]; exact hj))
              have HNXT : Hid ((N0 && (NB.data.toList.take (j + 1)).all Lx.isWord) = (B && Lx.isWord NB[j])) := by
                show _ = _
                rw [HTJ.out, List.all_append, ← Bool.and_assoc, HB.out]
                simp
              cases B
              · go_wp2
                go_roundg g6
                case measure => omega
                case rel => exact ⟨j + 1, by omega, by go_num, by rw [HNXT.out]; rfl, rfl⟩
              · have HW := Lib.hid (word_nat NB[j])
                have HD := Lib.hid (digit_nat NB[j])
                cases hl : Lx.isLetter NB[j]
                · by_cases h48 : (48 : Int) ≤ NB[j].toNat
                  · by_cases h57 : (NB[j].toNat : Int) ≤ 57
                    · have HQ : Hid (Lx.isWord NB[j] = true) := by show _ = _; rw [HW.out, HD.out, decide_eq_true h48, decide_eq_true h57]; simp
                      have HL := Lib.hid hl
                      clear hl
                      go_wp2_with fail
                      refine (blet_any NB[j] _).mono ?_
                      rintro e w' ⟨rfl, rfl⟩
                      rw [HL.out]
                      go_wp2
                      go_roundg g6
                      case measure => omega
                      case rel => exact ⟨j + 1, by omega, by go_num, by rw [HNXT.out, HQ.out]; rfl, rfl⟩
                    · cases h95 : ((NB[j].toNat : Int) == 95)
                      all_goals
                        have HQ := Lib.hid (show Lx.isWord NB[j] = _ by rw [HW.out, HD.out, hl, decide_eq_true h48, decide_eq_false h57, h95])
                        have HL := Lib.hid hl
                        clear hl
                        go_wp2_with fail
                        refine (blet_any NB[j] _).mono ?_
                        rintro e w' ⟨rfl, rfl⟩
                        rw [HL.out]
                        go_wp2
                        go_roundg g6
                        case measure => omega
                        case rel => exact ⟨j + 1, by omega, by go_num, by rw [HNXT.out, HQ.out]; first | rfl | (simp [h57]; done) | (simp [h57]; omega), rfl⟩
                  · cases h95 : ((NB[j].toNat : Int) == 95)
                    all_goals
                      have HQ := Lib.hid (show Lx.isWord NB[j] = _ by rw [HW.out, HD.out, hl, decide_eq_false h48, h95])
                      have HL := Lib.hid hl
                      clear hl
                      go_wp2_with fail
                      refine (blet_any NB[j] _).mono ?_
                      rintro e w' ⟨rfl, rfl⟩
                      rw [HL.out]
                      go_wp2
                      go_roundg g6
                      case measure => omega
                      case rel => exact ⟨j + 1, by omega, by go_num, by rw [HNXT.out, HQ.out]; first | rfl | (simp [h48]; done) | (simp [h48]; omega), rfl⟩
                · have HQ : Hid (Lx.isWord NB[j] = true) := by show _ = _; rw [HW.out, hl]; rfl
                  have HL := Lib.hid hl
                  clear hl
                  go_wp2_with fail
                  refine (blet_any NB[j] _).mono ?_
                  rintro e w' ⟨rfl, rfl⟩
                  rw [HL.out]
                  go_wp2
                  go_roundg g6
                  case measure => omega
                  case rel => exact ⟨j + 1, by omega, by go_num, by rw [HNXT.out, HQ.out]; rfl, rfl⟩
      | succ gg =>
        as_aux_lemma =>
          have hlt : k < a.letters.length := by omega
          have hk2 : ((k : Int) < (a.letters.length : Int)) := by omega
          obtain ⟨ga, oa, rfl, hga, hca⟩ := S2.out.hA (by omega)
          have hcx := hca k a.letters[k] (List.getElem?_eq_getElem hlt)
          have hc0 := hca 0 a.letters[0] (List.getElem?_eq_getElem (by omega))
          rw [Nat.add_zero] at hc0
          have hlk := HF.out.len _ (List.getElem_mem hlt)
          have HNX := Lib.hid (Al.noTwice_next a.letters k hlt)
          have HPX := Lib.hid (Al.all_snoc Al.printedB a.letters k hlt)
          have HTK := Lib.hid (Al.take_snoc a.letters k hlt)
          have hg0 : (a.letters.getD 0 []).length = (bs a.letters[0]).size := by rw [List.getD_eq_getElem?_getD, List.getElem?_eq_getElem (by omega)]; rfl
          have HG0 := Lib.hid hg0
          have HCA := Lib.hid hca
          clear hg0 hca
          generalize bs a.letters[0] = T0 at *
          obtain ⟨T, hT⟩ : ∃ T, bs a.letters[k] = T := ⟨_, rfl⟩
          have hTd : a.letters[k] = T.data.toList := by rw [← hT]; rfl
          rw [hT] at hcx
          have hlk2 : T.size ≤ 20 := by rw [← hT]; exact hlk
          have HNX2 : Hid (Al.noTwice (a.letters.take (k + 1)) = (Al.noTwice (a.letters.take k) && (a.letters.take k).all fun x => !(x == T.data.toList))) := by have := HNX.out; rw [hTd] at this; exact this
          have HPX2 : Hid ((a.letters.take (k + 1)).all Al.printedB = ((a.letters.take k).all Al.printedB && Al.printedB T.data.toList)) := by have := HPX.out; rw [hTd] at this; exact this
          have HTK2 : Hid (a.letters.take (k + 1) = a.letters.take k ++ [T.data.toList]) := by have := HTK.out; rw [hTd] at this; exact this
          clear HNX HPX HTK hT hTd hlk
          by_cases hs : (T.size : Int) = T0.size
          · have hs' : ((T.size : Int) != (T0.size : Int)) = false := by rw [hs]; simp
            have hs1 : T.size ≤ T0.size := by omega
            have hs2 : T0.size ≤ T.size := by omega
            clear hs
            by_cases hl1 : 1 ≤ T.size
            · by_cases hl3 : T.size ≤ 3
              · go_wp2
                go_loopg [7] T.size (fun g2 v wr => ∃ j : Nat, j + g2 = T.size ∧ v = .int .i64 j ∧ wr = w2 ∧ (T.data.toList.take j).all Al.okByte = true)
                case atStart => exact ⟨0, by omega, rfl, rfl, by rw [List.take_zero]; rfl⟩
                case round =>
                  obtain ⟨j, hjg, rfl, hwr, hob⟩ := hrel
                  subst wr
                  have HOB := Lib.hid hob
                  clear hob
                  cases gk with
                  | zero =>
                    as_aux_lemma =>
                      have hall : T.data.toList.all Al.okByte = true := by
                        have := HOB.out
                        rwa [List.take_of_length_le (by rw [← size_list]; omega)] at this
                      have hprT : Al.printedB T.data.toList = true := by
                        unfold Al.printedB
                        rw [hall, ← size_list, decide_eq_true hl1, decide_eq_true hl3]
                        rfl
                      have HPRT := Lib.hid hprT
                      clear hprT hall
                      go_wp2
                      go_loopg [4, 8] k (fun g3 v1 v2 wr => ∃ j : Nat, j + g3 = k ∧ v2 = .int .i64 j ∧ v1 = .bool ((Al.cnt a && Al.noTwice (a.letters.take k)) && (a.letters.take j).all fun x => !(x == T.data.toList)) ∧ wr = w2)
                      case atStart => exact ⟨0, by omega, rfl, by rw [List.take_zero]; simp, rfl⟩
                      case round =>
                        obtain ⟨j, hjg, rfl, rfl, hwr⟩ := hrel
                        subst wr
                        cases gk with
                        | zero =>
                          go_wp2
                          go_roundg gg
                          case measure => omega
                          case rel =>
                            refine ⟨k + 1, by omega, by go_num, ?_, rfl, ?_, ?_⟩
                            · obtain rfl : j = k := by omega
                              rw [HNX2.out, Bool.and_assoc]
                            · rw [HPX2.out, HPR.out, HPRT.out]
                              rfl
                            · rw [HTK2.out]
                              intro x hx
                              rcases List.mem_append.1 hx with h | h
                              · exact HLEN.out x h
                              · rw [List.mem_singleton.1 h, HG0.out, ← size_list]
                                omega
                        | succ g3 =>
                          have hjl : j < a.letters.length := by omega
                          have hjk : ((j : Int) < (k : Int)) := by omega
                          have hcj := HCA.out j a.letters[j] (List.getElem?_eq_getElem hjl)
                          have hlj := HF.out.len _ (List.getElem_mem hjl)
                          have HAJ := Lib.hid (Al.all_snoc (fun x => !(x == T.data.toList)) a.letters j hjl)
                          obtain ⟨Y, hY⟩ : ∃ Y, bs a.letters[j] = Y := ⟨_, rfl⟩
                          have hYd : a.letters[j] = Y.data.toList := by rw [← hY]; rfl
                          have hYl : Y.size ≤ 20 := by rw [← hY]; exact hlj
                          have HAJ2 : Hid ((a.letters.take (j + 1)).all (fun x => !(x == T.data.toList)) = ((a.letters.take j).all (fun x => !(x == T.data.toList)) && !(Y.data.toList == T.data.toList))) := by have := HAJ.out; rw [hYd] at this; exact this
                          rw [hY] at hcj
                          clear HAJ hY hYd hlj
                          obtain ⟨B, hB⟩ : ∃ B, ((Al.cnt a && Al.noTwice (a.letters.take k)) && (a.letters.take j).all fun x => !(x == T.data.toList)) = B := ⟨_, rfl⟩
                          rw [hB]
                          have HB := Lib.hid hB
                          clear hB
                          cases B
                          · go_wp2
                            go_roundg g3
                            case measure => omega
                            case rel => exact ⟨j + 1, by omega, by go_num, by rw [HAJ2.out, ← Bool.and_assoc, HB.out]; rfl, rfl⟩
                          · have hst : (Y.toList == T.toList) = (Y.data.toList == T.data.toList) := by rw [Lib.toList_data, Lib.toList_data]
                            go_wp2
                            go_roundg g3
                            case measure => omega
                            case rel => exact ⟨j + 1, by omega, by go_num, by rw [HAJ2.out, ← Bool.and_assoc, HB.out]; first | rfl | (simp; done) | (rw [← hst]; simp), rfl⟩
                  | succ g2 =>
                    have hj : j < T.size := by omega
                    have hb : T[j].toNat < 256 := UInt8.toNat_lt T[j]
                    have hobn := okByte_nat T[j]
                    have htk : T.data.toList.take (j + 1) = T.data.toList.take j ++ [T[j]] := Al.take_snoc T.data.toList j (by rw [← size_list]; exact hj)
                    have HTJ := Lib.hid htk
                    clear htk
                    by_cases h1 : (T[j].toNat : Int) < 33
                    · clear hobn
                      go_wp2
                      repeat (first | rw [Exit.noGoto_ret] | simp only [Exit.inBlock, Exit.then])
                      go_ret
                      exact ⟨rfl, S2.out.bel⟩
                    · by_cases h2 : (126 : Int) < T[j].toNat
                      · clear hobn
                        go_wp2
                        repeat (first | rw [Exit.noGoto_ret] | simp only [Exit.inBlock, Exit.then])
                        go_ret
                        exact ⟨rfl, S2.out.bel⟩
                      · cases h3 : ((T[j].toNat : Int) == 34)
                        · have ho : Al.okByte T[j] = true := by
                            rw [hobn, decide_eq_false h2, decide_eq_false h1, h3]
                            rfl
                          have HO := Lib.hid ho
                          clear ho hobn
                          go_wp2
                          go_roundg g2
                          case measure => omega
                          case rel =>
                            refine ⟨j + 1, by omega, by go_num, rfl, ?_⟩
                            rw [HTJ.out, List.all_append, HOB.out]
                            simp [HO.out]
                        · clear hobn
                          go_wp2
                          repeat (first | rw [Exit.noGoto_ret] | simp only [Exit.inBlock, Exit.then])
                          go_ret
                          exact ⟨rfl, S2.out.bel⟩
              · go_wp2
                repeat (first | rw [Exit.noGoto_ret] | simp only [Exit.inBlock, Exit.then])
                go_ret
                exact ⟨rfl, S2.out.bel⟩
            · go_wp2
              repeat (first | rw [Exit.noGoto_ret] | simp only [Exit.inBlock, Exit.then])
              go_ret
              exact ⟨rfl, S2.out.bel⟩
          · have hs' : ((T.size : Int) != (T0.size : Int)) = true := by rw [bne_iff_ne]; exact hs
            clear hs
            go_wp2
            repeat (first | rw [Exit.noGoto_ret] | simp only [Exit.inBlock, Exit.then])
            go_ret
            exact ⟨rfl, S2.out.bel⟩
end Go.Proofs.YtafbgfdidmepaaaDoor

/-
  The reference's next at digits: what it returns at every offset.
-/
import Derived.Test.YtpnenbodmonkiaaDoorRef04A
import Derived.Test.YtpnenbodmonkiaaDoorLexNext2
import Derived.Test.YtpnenbodmonkiaaDoorLexLaw
import Derived.Deep.CutRange
import Derived.Deep.CutBlock
import Derived.StillTailTactics
import Derived.RegionTactic
import Derived.BigRegion
set_option linter.unusedVariables false
namespace Go.Proofs.YtpnenbodmonkiaaDoor
open Go.RowKit
attribute [local go_sem] alloc_drewN setCell_drewN setRow_drewN


theorem dec_step (s : ByteArray) (i j : Nat) (h1 : i ≤ j) (h : j < s.size) : Lx.decVal ((s.data.toList.drop i).take (j + 1 - i)) = 10 * Lx.decVal ((s.data.toList.drop i).take (j - i)) + (s[j].toNat - 48) := by
  have e : j + 1 - i = (j - i) + 1 := by omega
  have hx := get_list s j h
  rw [e, List.take_add_one, List.getElem?_drop, show i + (j - i) = j from by omega, hx]
  simp [Lx.decVal, List.foldl_append]
theorem dig_between (s : ByteArray) (i k : Nat) (hm : Lx.span Lx.isDigit (s.data.toList.drop i) = k - i) : ∀ j, i ≤ j → j < k → ∀ h : j < s.size, 48 ≤ s[j].toNat ∧ s[j].toNat ≤ 57 := by
  intro j h1 h2 h3
  have hx := get_list s j h3
  have ht := Lx.take_span Lx.isDigit (s.data.toList.drop i) s[j] (by
    rw [hm]
    refine List.mem_of_getElem? (i := j - i) ?_
    rw [List.getElem?_take, if_pos (by omega), List.getElem?_drop, show i + (j - i) = j from by omega, hx])
  unfold Lx.isDigit at ht
  rw [Bool.and_eq_true] at ht
  have a := of_decide_eq_true ht.1
  have b := of_decide_eq_true ht.2
  exact ⟨a, b⟩
theorem dec_bound (s : ByteArray) (i k j : Nat) (hm : Lx.span Lx.isDigit (s.data.toList.drop i) = k - i) (h13 : k - i ≤ 13) (h1 : i ≤ j) (h2 : j ≤ k) : Lx.decVal ((s.data.toList.drop i).take (j - i)) < 10000000000000 := by
  have hd : ∀ c ∈ (s.data.toList.drop i).take (j - i), Lx.isDigit c = true := by
    intro c hc
    refine Lx.take_span Lx.isDigit (s.data.toList.drop i) c ?_
    rw [hm]
    have e : (s.data.toList.drop i).take (j - i) = ((s.data.toList.drop i).take (k - i)).take (j - i) := by rw [List.take_take]; congr 1; omega
    rw [e] at hc
    exact List.mem_of_mem_take hc
  have h := Lx.decVal_lt _ hd
  have hl : ((s.data.toList.drop i).take (j - i)).length ≤ 13 := by rw [List.length_take]; omega
  have := Nat.pow_le_pow_right (n := 10) (by omega) hl
  omega
set_option maxRecDepth 100000 in
set_option maxHeartbeats 4000000 in
theorem rnext_digit (s : ByteArray) (i : Nat) (w : World) (hs : s.size ≤ 4611686018427387904) (hi : i < s.size) (hl : Lx.cls s[i] = 4) :
    Calls Tryd.prog 26 #[.string s, .int .i64 i] w fun e w' =>
      e = .returned (.tuple #[(Lx.scan (s.data.toList.drop i)).out i, .int .i64 (Lx.scan (s.data.toList.drop i)).err]) ∧ Below w.heap.size w w' := by
  have hd := drop_get s i hi
  have hl1 : Lx.isLetter s[i] = false := by rw [Lx.cls_letter, hl]; rfl
  have hl2 : Lx.isDigit s[i] = true := by rw [Lx.cls_digit, hl]; rfl
  have hsc := Lx.scan_digit s[i] (s.data.toList.drop (i + 1)) hl
  rw [← hd, List.drop_drop] at hsc
  have hsp : Lx.span Lx.isDigit (s.data.toList.drop i) = Lx.span Lx.isDigit (s.data.toList.drop (i + 1)) + 1 := by rw [hd, Lx.span_cons' hl2]
  have HSC := Lib.hid hsc
  have HSP := Lib.hid hsp
  have HL1 := Lib.hid hl1
  have HL2 := Lib.hid hl2
  clear hsc hd hl1 hl2 hl hsp
  have hb0 : s[i].toNat < 256 := UInt8.toNat_lt s[i]
  go_enter Tryd.func26, Tryd.ntmps26
  go_wp2_with fail
  refine (rletter_any s[i] _).mono ?_
  rintro e w' ⟨rfl, rfl⟩
  rw [HL1.out]
  go_wp2_with fail
  refine (rdigit_any s[i] _).mono ?_
  rintro e w' ⟨rfl, rfl⟩
  rw [HL2.out]
  go_wp2_with fail
  go_loop [6] (fun v => ∃ k : Nat, i + 1 ≤ k ∧ k ≤ s.size ∧ v = .int .i64 k ∧ i + 1 + Lx.span Lx.isDigit (s.data.toList.drop (i + 1)) = k + Lx.span Lx.isDigit (s.data.toList.drop k)) (fun v => s.size - (intOf v).toNat)
  case atStart => exact ⟨i + 1, by omega, by omega, by go_num, rfl⟩
  case round =>
    obtain ⟨k, hk1, hk2, rfl, hr⟩ := hrel
    have HR := Lib.hid hr
    clear hr
    by_cases hlt : k < s.size
    · have hdk := drop_get s k hlt
      have HDK := Lib.hid hdk
      clear hdk
      have hbk : s[k].toNat < 256 := UInt8.toNat_lt s[k]
      cases hwd : Lx.isDigit s[k]
      · have he : i + 1 + Lx.span Lx.isDigit (s.data.toList.drop (i + 1)) = k := by rw [HR.out, HDK.out, Lx.span_stop' hwd]; rfl
        have HE := Lib.hid he
        have HWD := Lib.hid hwd
        clear hwd HR
        have hm : Lx.span Lx.isDigit (s.data.toList.drop i) = k - i := by rw [HSP.out]; omega
        have hk0 : i + (k - i) = k := by omega
        have hsc2 := HSC.out
        rw [hm, hk0] at hsc2
        have hdg : ∀ j, i ≤ j → j < k → ∀ h : j < s.size, 48 ≤ s[j].toNat ∧ s[j].toNat ≤ 57 := dig_between s i k hm
        have hstep : ∀ j, i ≤ j → j < k → ∀ h : j < s.size, Lx.decVal ((s.data.toList.drop i).take (j + 1 - i)) = 10 * Lx.decVal ((s.data.toList.drop i).take (j - i)) + (s[j].toNat - 48) := fun j h1 h2 h3 => dec_step s i j h1 h3
        have hlt : k - i ≤ 13 → ∀ j, i ≤ j → j ≤ k → Lx.decVal ((s.data.toList.drop i).take (j - i)) < 10000000000000 := fun h13 j h1 h2 => dec_bound s i k j hm h13 h1 h2
        have HDIG := Lib.hid hdg
        have HSTEP := Lib.hid hstep
        have HLT0 := Lib.hid hlt
        clear HSC hm hk0 hdg hstep hlt HSP
        have HSC := Lib.hid hsc2
        clear hsc2
        clear he
        by_cases h13 : 13 < k - i
        · have h13' : 13 < (k : Int) - (i : Int) := by omega
          go_wp2_with fail
          refine (rdigit_any s[k] _).mono ?_
          rintro e w' ⟨rfl, rfl⟩
          rw [HWD.out]
          go_wp2_with fail
          refine bodyPost_ret (v := .tuple #[.agg #[.int .i64 0, .int .i64 0, .int .i64 0, .string { data := #[] }], .int .i64 4]) (by simp [results, Tryd.results26, go_sem]) rfl ⟨?_, ?_⟩
          · rw [HSC.out, if_pos (by simp [h13])]; rfl
          · exact bel_alloc (bel_alloc (bel_refl w) _) _
        · have h13' : ¬ (13 < (k : Int) - (i : Int)) := by omega
          have HLT := Lib.hid (HLT0.out (by omega))
          have hcl : Lx.clsAt (s.data.toList.drop k) = Lx.cls s[k] := by rw [HDK.out]; rfl
          have hwb : Lx.isWord s[k] = (Lx.cls s[k] == 3 || Lx.cls s[k] == 5) := by
            rw [Lx.cls_word]
            have := HWD.out
            rw [Lx.cls_digit] at this
            rw [this, Bool.or_false]
          have HCL := Lib.hid hcl
          clear hcl
          cases hb : (Lx.cls s[k] == 3 || Lx.cls s[k] == 5)
          · rw [hb] at hwb
            have HB := Lib.hid hb
            have HWB := Lib.hid hwb
            clear hb hwb
            go_wp2_with fail
            refine (rdigit_any s[k] _).mono ?_
            rintro e w' ⟨rfl, rfl⟩
            rw [HWD.out]
            go_wp2_with fail
            refine (rword_any s[k] _).mono ?_
            rintro e w' ⟨rfl, rfl⟩
            rw [HWB.out]
            have H14 : RowKit.Hid (Lx.scan (s.data.toList.drop i) = ⟨0, 2, Lx.decVal ((s.data.toList.drop i).take (k - i)), (s.data.toList.drop i).take (k - i), k - i⟩) := Lib.hid (by rw [HSC.out, HCL.out, if_neg (by rw [Bool.or_assoc, HB.out]; simp; omega)])
            clear HSC HE
            go_wp2_with fail
            go_loopw [9] (fun v wr => ∃ j n : Nat, i ≤ j ∧ j ≤ k ∧ v = .int .i64 j ∧ wr = ((w.alloc (.cells #[.int .i64 0, .int .i64 0, .int .i64 0, .string { data := #[] }] 30)).alloc (.cells #[.int .i64 2, .int .i64 i, .int .i64 (Lx.decVal ((s.data.toList.drop i).take (j - i))), .string { data := #[] }] 30)).drewN n) (fun v _ => k - (intOf v).toNat)
            case atStart => exact ⟨i, 0, by omega, by omega, rfl, by rw [Nat.sub_self]; rfl⟩
            case round =>
              obtain ⟨j, n, hj1, hj2, rfl, rfl⟩ := hrel
              by_cases hjk : j < k
              · have hjs : j < s.size := by omega
                have hbj : s[j].toNat < 256 := UInt8.toNat_lt s[j]
                obtain ⟨d1, d2⟩ := HDIG.out j hj1 hjk hjs
                have hst := HSTEP.out j hj1 hjk hjs
                have HST := Lib.hid hst
                have hlt := HLT.out j hj1 hj2
                clear hst
                generalize Lx.decVal ((s.data.toList.drop i).take (j - i)) = X at *
                go_wp2_with fail
                go_region
                all_goals go_wp2_with fail
                all_goals go_roundw
                case rel =>
                  refine ⟨j + 1, n + 1, by omega, by omega, by go_num, ?_⟩
                  rw [HST.out, show ((10 * X + (s[j].toNat - 48) : Nat) : Int) = 10 * (X : Int) + ((s[j].toNat : Int) - 48) from by omega]
                case measure => simp [intOf]; omega
              · obtain rfl : j = k := by omega
                have hx := extract_bs s i j
                go_wp2
                refine bodyPost_ret (v := .tuple #[.agg #[.int .i64 2, .int .i64 i, .int .i64 (Lx.decVal ((s.data.toList.drop i).take (j - i))), .string (bs ((s.data.toList.drop i).take (j - i)))], .int .i64 0]) ?_ rfl ⟨?_, ?_⟩
                · simp [results, Tryd.results26, go_sem]
                · rw [H14.out]; rfl
                · exact bel_drewN (bel_alloc (bel_alloc (bel_refl w) _) _) _
          · rw [hb] at hwb
            have HB := Lib.hid hb
            have HWB := Lib.hid hwb
            clear hb hwb
            go_wp2_with fail
            refine (rdigit_any s[k] _).mono ?_
            rintro e w' ⟨rfl, rfl⟩
            rw [HWD.out]
            go_wp2_with fail
            refine (rword_any s[k] _).mono ?_
            rintro e w' ⟨rfl, rfl⟩
            rw [HWB.out]
            go_wp2_with fail
            refine bodyPost_ret (v := .tuple #[.agg #[.int .i64 0, .int .i64 0, .int .i64 0, .string { data := #[] }], .int .i64 4]) (by simp [results, Tryd.results26, go_sem]) rfl ⟨?_, ?_⟩
            · rw [HSC.out, if_pos (by rw [HCL.out, Bool.or_assoc, HB.out]; simp)]; rfl
            · exact bel_alloc (bel_alloc (bel_refl w) _) _
      · have he : i + 1 + Lx.span Lx.isDigit (s.data.toList.drop (i + 1)) = k + 1 + Lx.span Lx.isDigit (s.data.toList.drop (k + 1)) := by rw [HR.out, HDK.out, Lx.span_cons' hwd]; omega
        have HE := Lib.hid he
        have HWD := Lib.hid hwd
        clear hwd HR he
        go_wp2_with fail
        refine (rdigit_any s[k] _).mono ?_
        rintro e w' ⟨rfl, rfl⟩
        rw [HWD.out]
        go_wp2
        go_round
        case rel => exact ⟨k + 1, by omega, by omega, by go_num, HE.out⟩
        case measure => simp [intOf]; omega
    · have hdk : s.data.toList.drop k = [] := List.drop_eq_nil_of_le (by rw [← size_list]; omega)
      have he : i + 1 + Lx.span Lx.isDigit (s.data.toList.drop (i + 1)) = k := by rw [HR.out, hdk]; rfl
      have HE := Lib.hid he
      have HDK := Lib.hid hdk
      clear hdk HR
      have hm : Lx.span Lx.isDigit (s.data.toList.drop i) = k - i := by rw [HSP.out]; omega
      have hk0 : i + (k - i) = k := by omega
      have hsc2 := HSC.out
      rw [hm, hk0] at hsc2
      have hdg : ∀ j, i ≤ j → j < k → ∀ h : j < s.size, 48 ≤ s[j].toNat ∧ s[j].toNat ≤ 57 := dig_between s i k hm
      have hstep : ∀ j, i ≤ j → j < k → ∀ h : j < s.size, Lx.decVal ((s.data.toList.drop i).take (j + 1 - i)) = 10 * Lx.decVal ((s.data.toList.drop i).take (j - i)) + (s[j].toNat - 48) := fun j h1 h2 h3 => dec_step s i j h1 h3
      have hlt : k - i ≤ 13 → ∀ j, i ≤ j → j ≤ k → Lx.decVal ((s.data.toList.drop i).take (j - i)) < 10000000000000 := fun h13 j h1 h2 => dec_bound s i k j hm h13 h1 h2
      have HDIG := Lib.hid hdg
      have HSTEP := Lib.hid hstep
      have HLT0 := Lib.hid hlt
      clear HSC hm hk0 hdg hstep hlt HSP
      have HSC := Lib.hid hsc2
      clear hsc2
      clear he
      by_cases h13 : 13 < k - i
      · have h13' : 13 < (k : Int) - (i : Int) := by omega
        go_wp2_with fail
        refine bodyPost_ret (v := .tuple #[.agg #[.int .i64 0, .int .i64 0, .int .i64 0, .string { data := #[] }], .int .i64 4]) (by simp [results, Tryd.results26, go_sem]) rfl ⟨?_, ?_⟩
        · rw [HSC.out, if_pos (by simp [h13])]; rfl
        · exact bel_alloc (bel_alloc (bel_refl w) _) _
      · have h13' : ¬ (13 < (k : Int) - (i : Int)) := by omega
        have HLT := Lib.hid (HLT0.out (by omega))
        go_wp2_with fail
        have H14 : RowKit.Hid (Lx.scan (s.data.toList.drop i) = ⟨0, 2, Lx.decVal ((s.data.toList.drop i).take (k - i)), (s.data.toList.drop i).take (k - i), k - i⟩) := Lib.hid (by rw [HSC.out, HDK.out, if_neg (by simp [Lx.clsAt]; omega)])
        clear HSC HE
        go_loopw [9] (fun v wr => ∃ j n : Nat, i ≤ j ∧ j ≤ k ∧ v = .int .i64 j ∧ wr = ((w.alloc (.cells #[.int .i64 0, .int .i64 0, .int .i64 0, .string { data := #[] }] 30)).alloc (.cells #[.int .i64 2, .int .i64 i, .int .i64 (Lx.decVal ((s.data.toList.drop i).take (j - i))), .string { data := #[] }] 30)).drewN n) (fun v _ => k - (intOf v).toNat)
        case atStart => exact ⟨i, 0, by omega, by omega, rfl, by rw [Nat.sub_self]; rfl⟩
        case round =>
          obtain ⟨j, n, hj1, hj2, rfl, rfl⟩ := hrel
          by_cases hjk : j < k
          · have hjs : j < s.size := by omega
            have hbj : s[j].toNat < 256 := UInt8.toNat_lt s[j]
            obtain ⟨d1, d2⟩ := HDIG.out j hj1 hjk hjs
            have hst := HSTEP.out j hj1 hjk hjs
            have HST := Lib.hid hst
            have hlt := HLT.out j hj1 hj2
            clear hst
            generalize Lx.decVal ((s.data.toList.drop i).take (j - i)) = X at *
            go_wp2_with fail
            go_region
            all_goals go_wp2_with fail
            all_goals go_roundw
            case rel =>
              refine ⟨j + 1, n + 1, by omega, by omega, by go_num, ?_⟩
              rw [HST.out, show ((10 * X + (s[j].toNat - 48) : Nat) : Int) = 10 * (X : Int) + ((s[j].toNat : Int) - 48) from by omega]
            case measure => simp [intOf]; omega
          · obtain rfl : j = k := by omega
            have hx := extract_bs s i j
            go_wp2
            refine bodyPost_ret (v := .tuple #[.agg #[.int .i64 2, .int .i64 i, .int .i64 (Lx.decVal ((s.data.toList.drop i).take (j - i))), .string (bs ((s.data.toList.drop i).take (j - i)))], .int .i64 0]) ?_ rfl ⟨?_, ?_⟩
            · simp [results, Tryd.results26, go_sem]
            · rw [H14.out]; rfl
            · exact bel_drewN (bel_alloc (bel_alloc (bel_refl w) _) _) _
end Go.Proofs.YtpnenbodmonkiaaDoor

/-
  The reference's lexer: bytes, gaps.
-/
import Derived.Test.YtpnenbodmonkiaaDoorLexSpec
import Derived.Test.YtpnenbodmonkiaaDoorLexNext
import Derived.Test.YtpnenbodmonkiaaDoorLater
set_option linter.unusedVariables false
namespace Go.Proofs.YtpnenbodmonkiaaDoor
open Go.RowKit
attribute [local go_sem] alloc_drewN setCell_drewN setRow_drewN

theorem letter_nat (c : UInt8) : Lx.isLetter c = ((decide ((97 : Int) ≤ c.toNat) && decide ((c.toNat : Int) ≤ 122)) || (decide ((65 : Int) ≤ c.toNat) && decide ((c.toNat : Int) ≤ 90))) := by
  have h := Lx.byClass (fun c => Lx.isLetter c == ((decide ((97 : Int) ≤ c.toNat) && decide ((c.toNat : Int) ≤ 122)) || (decide ((65 : Int) ≤ c.toNat) && decide ((c.toNat : Int) ≤ 90)))) (by decide +kernel) c
  rwa [beq_iff_eq] at h
theorem digit_nat (c : UInt8) : Lx.isDigit c = (decide ((48 : Int) ≤ c.toNat) && decide ((c.toNat : Int) ≤ 57)) := by
  have h := Lx.byClass (fun c => Lx.isDigit c == (decide ((48 : Int) ≤ c.toNat) && decide ((c.toNat : Int) ≤ 57))) (by decide +kernel) c
  rwa [beq_iff_eq] at h
theorem word_nat (c : UInt8) : Lx.isWord c = (Lx.isLetter c || (Lx.isDigit c || ((c.toNat : Int) == 95))) := by
  have h := Lx.byClass (fun c => Lx.isWord c == (Lx.isLetter c || (Lx.isDigit c || ((c.toNat : Int) == 95)))) (by decide +kernel) c
  rwa [beq_iff_eq] at h

theorem rletter_any (c : UInt8) (w : World) : Calls Tryd.prog 28 #[.int .u8 c.toNat] w fun e w' => e = .returned (.bool (Lx.isLetter c)) ∧ w' = w := by
  rw [letter_nat]
  generalize (c.toNat : Int) = x
  by_cases h1 : (97 : Int) ≤ x <;> by_cases h2 : x ≤ 122 <;> by_cases h3 : (65 : Int) ≤ x <;> by_cases h4 : x ≤ 90 <;> first | (exfalso; omega) | skip
  all_goals
    simp only [h1, h2, h3, h4, decide_true, decide_false, Bool.and_true, Bool.and_false, Bool.or_true, Bool.or_false, Bool.true_and, Bool.false_and]
    go_enter Tryd.func28, Tryd.ntmps28
    go_wp2
    go_ret
    exact ⟨rfl, rfl⟩
theorem rdigit_any (c : UInt8) (w : World) : Calls Tryd.prog 37 #[.int .u8 c.toNat] w fun e w' => e = .returned (.bool (Lx.isDigit c)) ∧ w' = w := by
  rw [digit_nat]
  generalize (c.toNat : Int) = x
  by_cases h1 : (48 : Int) ≤ x <;> by_cases h2 : x ≤ 57 <;> first | (exfalso; omega) | skip
  all_goals
    simp only [h1, h2, decide_true, decide_false, Bool.and_true, Bool.and_false, Bool.true_and, Bool.false_and]
    go_enter Tryd.func37, Tryd.ntmps37
    go_wp2
    go_ret
    exact ⟨rfl, rfl⟩
theorem rword_any (c : UInt8) (w : World) : Calls Tryd.prog 27 #[.int .u8 c.toNat] w fun e w' => e = .returned (.bool (Lx.isWord c)) ∧ w' = w := by
  rw [word_nat]
  cases hl : Lx.isLetter c
  · cases hd : Lx.isDigit c
    · rcases Bool.eq_false_or_eq_true ((c.toNat : Int) == 95) with h5 | h5
      all_goals
        rw [h5]
        go_enter Tryd.func27, Tryd.ntmps27
        go_wp2_with fail
        refine (rletter_any c _).mono ?_
        rintro e w' ⟨rfl, rfl⟩
        rw [hl]
        go_wp2_with fail
        refine (rdigit_any c _).mono ?_
        rintro e w' ⟨rfl, rfl⟩
        rw [hd]
        go_wp2
        go_ret
        exact ⟨rfl, rfl⟩
    · go_enter Tryd.func27, Tryd.ntmps27
      go_wp2_with fail
      refine (rletter_any c _).mono ?_
      rintro e w' ⟨rfl, rfl⟩
      rw [hl]
      go_wp2_with fail
      refine (rdigit_any c _).mono ?_
      rintro e w' ⟨rfl, rfl⟩
      rw [hd]
      go_wp2
      go_ret
      exact ⟨rfl, rfl⟩
  · go_enter Tryd.func27, Tryd.ntmps27
    go_wp2_with fail
    refine (rletter_any c _).mono ?_
    rintro e w' ⟨rfl, rfl⟩
    rw [hl]
    go_wp2
    go_ret
    exact ⟨rfl, rfl⟩

/-- a text has a byte -/
def hasB (l : List UInt8) (c : UInt8) : Bool := l.contains c
set_option maxHeartbeats 400000 in
theorem rhas_any (s : ByteArray) (c : UInt8) (w : World) (hs : s.size ≤ 4611686018427387904) : Calls Tryd.prog 36 #[.string s, .int .u8 c.toNat] w fun e w' => e = .returned (.bool (hasB s.data.toList c)) ∧ w' = w := by
  go_enter Tryd.func36, Tryd.ntmps36
  go_wp2
  go_loop [5] (fun i => ∃ k : Nat, k ≤ s.size ∧ i = .int .i64 k ∧ hasB s.data.toList c = hasB (s.data.toList.drop k) c) (fun i => s.size - (intOf i).toNat)
  case atStart => exact ⟨0, by omega, rfl, rfl⟩
  case round =>
    obtain ⟨k, hk, rfl, hc⟩ := hrel
    have HC := Lib.hid hc
    clear hc
    by_cases hlt : k < s.size
    · have hd := drop_get s k hlt
      have HD := Lib.hid hd
      clear hd
      have hb : s[k].toNat < 256 := UInt8.toNat_lt s[k]
      by_cases he : s[k] = c
      · have he' : ((s[k].toNat : Int) == (c.toNat : Int)) = true := by rw [he]; simp
        have HE := Lib.hid he
        clear he
        go_wp2
        go_ret
        refine ⟨?_, rfl⟩
        rw [HC.out, HD.out, HE.out]
        exact ret_bool (by simp [hasB])
      · have he' : ((s[k].toNat : Int) == (c.toNat : Int)) = false := by
          rw [beq_eq_false_iff_ne]
          intro h
          exact he (UInt8.toNat_inj.1 (by omega))
        have HE := Lib.hid he
        clear he
        go_wp2
        go_round
        case rel =>
          refine ⟨k + 1, by omega, by go_num, ?_⟩
          rw [HC.out, HD.out]
          have := HE.out
          simp [hasB]
          intro h
          exact absurd h.symm this
        case measure => simp [intOf]; omega
    · have hk2 : k = s.size := by omega
      have hd : s.data.toList.drop k = [] := List.drop_eq_nil_of_le (by rw [← size_list]; omega)
      have HD := Lib.hid hd
      clear hd
      have HK := Lib.hid hk2
      clear hk2
      go_wp2
      go_ret
      refine ⟨?_, rfl⟩
      rw [HC.out, HD.out]
      rfl

set_option maxRecDepth 100000 in
set_option maxHeartbeats 1000000 in
theorem rgap_any (s : ByteArray) (i : Int) (w : World) (hs : s.size ≤ 4611686018427387904) (hi0 : 0 ≤ i) (hi : i ≤ s.size) :
    Calls Tryd.prog 25 #[.string s, .int .i64 i] w fun e w' => e = .returned (.int .i64 (i.toNat + Lx.gap (s.data.toList.drop i.toNat) : Nat)) ∧ ∃ n, w' = w.drewN n := by
  obtain ⟨i, rfl⟩ := Int.eq_ofNat_of_zero_le hi0
  rw [Int.toNat_natCast]
  have hi' : i ≤ s.size := by omega
  clear hi hi0
  go_enter Tryd.func25, Tryd.ntmps25
  go_wp2
  go_loopw [1] (fun v wr => ∃ k n : Nat, k ≤ s.size ∧ v = .int .i64 k ∧ wr = w.drewN n ∧ i + Lx.gap (s.data.toList.drop i) = k + Lx.gapc false (s.data.toList.drop k)) (fun v _ => s.size - (intOf v).toNat)
  case atStart => exact ⟨i, 0, hi', rfl, rfl, rfl⟩
  case round =>
    obtain ⟨k, n, hk, rfl, rfl, hr⟩ := hrel
    have HR := Lib.hid hr
    clear hr hi'
    by_cases hlt : k < s.size
    · have hd := drop_get s k hlt
      have hb : s[k].toNat < 256 := UInt8.toNat_lt s[k]
      have hblank : hasB [32, 9, 10] s[k] = Lx.isBlank s[k] := by
        have h := Lx.byClass (fun c => hasB [32, 9, 10] c == Lx.isBlank c) (by decide +kernel) s[k]
        rwa [beq_iff_eq] at h
      have HD := Lib.hid hd
      clear hd
      cases hq : Lx.isBlank s[k]
      · rw [hq] at hblank
        have HQ := Lib.hid hq
        have HB := Lib.hid hblank
        clear hq hblank
        by_cases h35 : s[k] = 35
        · have h35' : ((s[k].toNat : Int) == 35) = true := by rw [h35]; rfl
          have H35 := Lib.hid h35
          clear h35
          go_wp2_with fail
          refine (rhas_any _ s[k] _ (by show 3 ≤ _; omega)).mono ?_
          rintro e w' ⟨rfl, rfl⟩
          rw [show (({ data := #[32, 9, 10] } : ByteArray).data.toList) = [32, 9, 10] from rfl, HB.out]
          go_wp2
          go_loopw [1] (fun v wq => ∃ j m : Nat, k ≤ j ∧ j ≤ s.size ∧ v = .int .i64 j ∧ wq = w.drewN m ∧ i + Lx.gap (s.data.toList.drop i) = j + Lx.gapc true (s.data.toList.drop j)) (fun v _ => s.size - (intOf v).toNat)
          case atStart =>
            refine ⟨k, n, Nat.le_refl _, hk, rfl, rfl, ?_⟩
            rw [HR.out, HD.out, H35.out]
            rfl
          case round =>
            obtain ⟨j, m, hkj, hj, rfl, rfl, hr2⟩ := hrel
            have HR2 := Lib.hid hr2
            clear hr2
            by_cases hjl : j < s.size
            · have hd := drop_get s j hjl
              have HD2 := Lib.hid hd
              clear hd
              have hb2 : s[j].toNat < 256 := UInt8.toNat_lt s[j]
              by_cases h10 : s[j] = 10
              · have h10' : ((s[j].toNat : Int) != 10) = false := by rw [h10]; rfl
                have hkj2 : k ≠ j := by
                  rintro rfl
                  rw [H35.out] at h10
                  cases h10
                have H10 := Lib.hid h10
                clear h10
                go_wp2
                go_roundw
                case rel =>
                  refine ⟨j, _, hj, rfl, rfl, ?_⟩
                  rw [HR2.out, HD2.out, H10.out]
                  rfl
                case measure => simp [intOf]; omega
              · have h10' : ((s[j].toNat : Int) != 10) = true := by
                  rw [bne_iff_ne]
                  intro h
                  exact h10 (UInt8.toNat_inj.1 (by show _ = 10; omega))
                have h10b : (s[j] == 10) = false := by simpa using h10
                have H10 := Lib.hid h10b
                clear h10 h10b
                go_wp2
                go_roundw
                case rel =>
                  refine ⟨j + 1, _, by omega, by omega, by go_num, rfl, ?_⟩
                  rw [HR2.out, HD2.out]
                  simp only [Lx.gapc, H10.out, Bool.false_eq_true, if_false]
                  omega
                case measure => simp [intOf]; omega
            · have hd : s.data.toList.drop j = [] := List.drop_eq_nil_of_le (by rw [← size_list]; omega)
              have HD2 := Lib.hid hd
              clear hd
              go_wp2
              go_roundw
              case rel =>
                refine ⟨j, _, hj, rfl, rfl, ?_⟩
                rw [HR2.out, HD2.out]
                rfl
              case measure => simp [intOf]; omega
        · have h35' : ((s[k].toNat : Int) == 35) = false := by
            rw [beq_eq_false_iff_ne]
            intro h
            exact h35 (UInt8.toNat_inj.1 (by show _ = 35; omega))
          have h35b : (s[k] == 35) = false := by simpa using h35
          have H35 := Lib.hid h35b
          clear h35 h35b
          go_wp2_with fail
          refine (rhas_any _ s[k] _ (by show 3 ≤ _; omega)).mono ?_
          rintro e w' ⟨rfl, rfl⟩
          rw [show (({ data := #[32, 9, 10] } : ByteArray).data.toList) = [32, 9, 10] from rfl, HB.out]
          go_wp2
          go_ret
          refine ⟨?_, _, rfl⟩
          rw [HR.out, HD.out]
          simp only [Lx.gapc, HQ.out, H35.out, Bool.false_eq_true, if_false]
          rfl
      · rw [hq] at hblank
        have HQ := Lib.hid hq
        have HB := Lib.hid hblank
        clear hq hblank
        go_wp2_with fail
        refine (rhas_any _ s[k] _ (by show 3 ≤ _; omega)).mono ?_
        rintro e w' ⟨rfl, rfl⟩
        rw [show (({ data := #[32, 9, 10] } : ByteArray).data.toList) = [32, 9, 10] from rfl, HB.out]
        go_wp2
        go_roundw
        case rel =>
          refine ⟨k + 1, _, by omega, by go_num, rfl, ?_⟩
          rw [HR.out, HD.out]
          simp only [Lx.gapc, HQ.out, if_true]
          omega
        case measure => simp [intOf]; omega
    · have hd : s.data.toList.drop k = [] := List.drop_eq_nil_of_le (by rw [← size_list]; omega)
      have HD := Lib.hid hd
      clear hd
      go_wp2
      go_ret
      refine ⟨?_, _, rfl⟩
      rw [HR.out, HD.out]
      rfl

theorem rgaps_any (s : ByteArray) (w : World) (hs : s.size ≤ 4611686018427387904) :
    Calls Tryd.prog 17 #[.string s] w fun e w' => e = .returned (.bool (Lx.gap s.data.toList == s.data.toList.length)) ∧ ∃ n, w' = w.drewN n := by
  have hx : (Lx.gap s.data.toList == s.data.toList.length) = ((Lx.gap s.data.toList : Int) == (s.size : Int)) := by
    rw [← size_list, Bool.eq_iff_iff, beq_iff_eq, beq_iff_eq]
    omega
  rw [hx]
  clear hx
  go_enter Tryd.func17, Tryd.ntmps17
  go_wp2_with fail
  refine (rgap_any s 0 _ hs (by omega) (by omega)).mono ?_
  rintro e w' ⟨rfl, n, rfl⟩
  rw [show (0 : Int).toNat = 0 from rfl, List.drop_zero, Nat.zero_add]
  go_wp2
  go_ret
  exact ⟨rfl, _, rfl⟩
theorem rgaps_is (G : List UInt8) (w : World) (hs : G.length ≤ 4611686018427387904) {b : Bool} (h : (Lx.gap G == G.length) = b) :
    Calls Tryd.prog 17 #[.string (bs G)] w fun e w' => e = .returned (.bool b) ∧ ∃ n, w' = w.drewN n := by
  subst h
  exact rgaps_any (bs G) w hs
end Go.Proofs.YtpnenbodmonkiaaDoor

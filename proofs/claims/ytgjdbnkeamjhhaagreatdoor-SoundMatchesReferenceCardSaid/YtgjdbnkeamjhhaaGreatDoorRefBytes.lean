/-
  The reference's letter, digit and word: what each returns.
-/
import Derived.Test.YtgjdbnkeamjhhaaGreatDoorLexSpec
import Derived.Test.YtgjdbnkeamjhhaaGreatDoorLexNext
import Derived.Test.YtgjdbnkeamjhhaaGreatDoorLater
set_option linter.unusedVariables false
namespace Go.Proofs.YtgjdbnkeamjhhaaGreatDoor
open Go.RowKit
attribute [local go_sem] alloc_drewN setCell_drewN setRow_drewN

theorem letter_nat (c : UInt8) : Lx.isLetter c = ((decide ((97 : Int) ≤ c.toNat) && decide ((c.toNat : Int) ≤ 122)) || (decide ((65 : Int) ≤ c.toNat) && decide ((c.toNat : Int) ≤ 90))) := by
  have h := Lx.byClass (fun c => Lx.isLetter c == ((decide ((97 : Int) ≤ c.toNat) && decide ((c.toNat : Int) ≤ 122)) || (decide ((65 : Int) ≤ c.toNat) && decide ((c.toNat : Int) ≤ 90)))) (by decide +kernel) c
  rwa [beq_iff_eq] at h
theorem digit_nat (c : UInt8) : Lx.isDigit c = (decide ((48 : Int) ≤ c.toNat) && decide ((c.toNat : Int) ≤ 57)) := by
  have h := Lx.byClass (fun c => Lx.isDigit c == (decide ((48 : Int) ≤ c.toNat) && decide ((c.toNat : Int) ≤ 57))) (by decide +kernel) c
  rwa [beq_iff_eq] at h
theorem word_nat (c : UInt8) : Lx.isWord c = (Lx.isLetter c || (Lx.isDigit c || ((c.toNat : Int) == 95))) := by
  have h := Lx.byClass (fun c => Lx.isWord c == (Lx.isLetter c || (Lx.isDigit c || ((c.toNat : Int) == 95)))) (by decide +kernel) c
  rwa [beq_iff_eq] at h

theorem rletter_any (c : UInt8) (w : World) : Calls Tryz.prog 38 #[.int .u8 c.toNat] w fun e w' => e = .returned (.bool (Lx.isLetter c)) ∧ w' = w := by
  rw [letter_nat]
  generalize (c.toNat : Int) = x
  by_cases h1 : (97 : Int) ≤ x <;> by_cases h2 : x ≤ 122 <;> by_cases h3 : (65 : Int) ≤ x <;> by_cases h4 : x ≤ 90 <;> first | (exfalso; omega) | skip
  all_goals
    simp only [h1, h2, h3, h4, decide_true, decide_false, Bool.and_true, Bool.and_false, Bool.or_true, Bool.or_false, Bool.true_and, Bool.false_and]
    go_enter Tryz.func38, Tryz.ntmps38
    go_wp2
    go_ret
    exact ⟨rfl, rfl⟩
theorem rdigit_any (c : UInt8) (w : World) : Calls Tryz.prog 59 #[.int .u8 c.toNat] w fun e w' => e = .returned (.bool (Lx.isDigit c)) ∧ w' = w := by
  rw [digit_nat]
  generalize (c.toNat : Int) = x
  by_cases h1 : (48 : Int) ≤ x <;> by_cases h2 : x ≤ 57 <;> first | (exfalso; omega) | skip
  all_goals
    simp only [h1, h2, decide_true, decide_false, Bool.and_true, Bool.and_false, Bool.true_and, Bool.false_and]
    go_enter Tryz.func59, Tryz.ntmps59
    go_wp2
    go_ret
    exact ⟨rfl, rfl⟩
theorem rword_any (c : UInt8) (w : World) : Calls Tryz.prog 37 #[.int .u8 c.toNat] w fun e w' => e = .returned (.bool (Lx.isWord c)) ∧ w' = w := by
  rw [word_nat]
  cases hl : Lx.isLetter c
  · cases hd : Lx.isDigit c
    · rcases Bool.eq_false_or_eq_true ((c.toNat : Int) == 95) with h5 | h5
      all_goals
        rw [h5]
        go_enter Tryz.func37, Tryz.ntmps37
        go_wp2_with fail
        refine (rletter_any c _).mono ?_
        rintro e w' ⟨rfl, rfl⟩
        rw [hl]
        go_wp2_with fail
        refine (rdigit_any c _).mono ?_
        rintro e w' ⟨rfl, rfl⟩
        rw [hd]
        go_wp2
        go_ret
        exact ⟨rfl, rfl⟩
    · go_enter Tryz.func37, Tryz.ntmps37
      go_wp2_with fail
      refine (rletter_any c _).mono ?_
      rintro e w' ⟨rfl, rfl⟩
      rw [hl]
      go_wp2_with fail
      refine (rdigit_any c _).mono ?_
      rintro e w' ⟨rfl, rfl⟩
      rw [hd]
      go_wp2
      go_ret
      exact ⟨rfl, rfl⟩
  · go_enter Tryz.func37, Tryz.ntmps37
    go_wp2_with fail
    refine (rletter_any c _).mono ?_
    rintro e w' ⟨rfl, rfl⟩
    rw [hl]
    go_wp2
    go_ret
    exact ⟨rfl, rfl⟩

end Go.Proofs.YtgjdbnkeamjhhaaGreatDoor

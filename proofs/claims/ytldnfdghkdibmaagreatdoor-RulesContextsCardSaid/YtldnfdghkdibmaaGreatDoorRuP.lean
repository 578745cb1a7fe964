/-
  plain: what it returns.
-/
import Derived.Test.YtldnfdghkdibmaaGreatDoorPLex
import Derived.Test.YtldnfdghkdibmaaGreatDoorMP
import Derived.Test.YtldnfdghkdibmaaGreatDoorShelf
import Derived.Laws.RangeAny
set_option linter.unusedVariables false
namespace Go.Proofs.YtldnfdghkdibmaaGreatDoor
open Go.RowKit
open R
attribute [local go_sem] alloc_drewN setCell_drewN setRow_drewN
/-- a rune that no letter has -/
def oddR (r : Nat) : Bool := decide (r < 33) || (decide (126 < r) || r == 34)
theorem oddR_byte (c : UInt8) : oddR c.toNat = !Al.okByte c := by
  unfold oddR Al.okByte
  have h1 : decide (c.toNat < 33) = !decide (33 ≤ c) := by rw [← decide_not]; exact decide_eq_decide.2 (by rw [UInt8.le_iff_toNat_le]; show c.toNat < 33 ↔ ¬ 33 ≤ c.toNat; omega)
  have h2 : decide (126 < c.toNat) = !decide (c ≤ 126) := by rw [← decide_not]; exact decide_eq_decide.2 (by rw [UInt8.le_iff_toNat_le]; show 126 < c.toNat ↔ ¬ c.toNat ≤ 126; omega)
  have h3 : (c.toNat == 34) = (c == 34) := by
    rw [Bool.eq_iff_iff, beq_iff_eq, beq_iff_eq]
    exact ⟨fun h => UInt8.toNat_inj.1 h, fun h => by rw [h]; rfl⟩
  rw [h1, h2, h3]
  cases decide (33 ≤ c) <;> cases decide (c ≤ 126) <;> cases (c == 34) <;> rfl
theorem idx_odd (s : List UInt8) : ∀ (f pos : Nat), s.length - pos ≤ f → decide (0 ≤ Lib.idxFuncFrom oddR true (bs s) f pos) = !((s.drop pos).all Al.okByte)
  | 0, pos, h => by
    rw [List.drop_eq_nil_of_le (by omega)]
    unfold Lib.idxFuncFrom
    rfl
  | f + 1, pos, h => by
    unfold Lib.idxFuncFrom
    by_cases hlt : pos < s.length
    · have hlt' : pos < (bs s).size := hlt
      rw [if_pos hlt', List.drop_eq_getElem_cons hlt, List.all_cons]
      have hg : (bs s)[pos]'hlt' = s[pos] := rfl
      by_cases ha : s[pos].toNat < 128
      · have hd := decode_ascii (bs s) pos hlt' (by rw [hg]; exact ha)
        rw [hg] at hd
        rw [hd, oddR_byte]
        cases hk : Al.okByte s[pos]
        · simp
        · rw [Bool.not_true, if_neg Bool.noConfusion, idx_odd s f (pos + 1) (by omega), Bool.true_and]
      · have hd := decode_high (bs s) pos hlt' (by rw [hg]; omega)
        have ho : oddR (Utf8.decode (bs s) pos).1 = true := by
          unfold oddR
          rw [decide_eq_true (p := 126 < (Utf8.decode (bs s) pos).1) (by omega)]
          simp
        have hk : Al.okByte s[pos] = false := by
          unfold Al.okByte
          have : decide (s[pos] ≤ 126) = false := decide_eq_false (by rw [UInt8.le_iff_toNat_le]; show ¬ s[pos].toNat ≤ 126; omega)
          rw [this]; simp
        rw [ho, if_pos rfl]
        erw [hk]
        rw [Bool.false_and, Bool.not_false]
        exact decide_eq_true (by omega)
    · rw [if_neg (show ¬ pos < (bs s).size from hlt), List.drop_eq_nil_of_le (by omega)]
      rfl
theorem contains_odd (s : List UInt8) : decide (0 ≤ Lib.idxFunc oddR true (bs s)) = !(s.all Al.okByte) := by
  have := idx_odd s s.length 0 (by omega)
  rwa [List.drop_zero] at this
theorem odd_at (w : World) : PredAt Tryz.prog 108 #[] encR oddR w := fun W r _ => by
  unfold FnGives oddR
  by_cases h1 : (r : Int) < 33
  · rw [decide_eq_true (show r < 33 by omega)]
    go_enter Tryz.func108, Tryz.ntmps108
    go_wp2; go_ret
    exact ⟨rfl, 0, rfl⟩
  · rw [decide_eq_false (show ¬ r < 33 by omega)]
    by_cases h2 : (126 : Int) < r
    · rw [decide_eq_true (show 126 < r by omega)]
      go_enter Tryz.func108, Tryz.ntmps108
      go_wp2; go_ret
      exact ⟨rfl, 0, rfl⟩
    · rw [decide_eq_false (show ¬ 126 < r by omega)]
      have h3 : ((r : Int) == 34) = (r == 34) := by rw [Bool.eq_iff_iff, beq_iff_eq, beq_iff_eq]; omega
      rw [← h3]
      go_enter Tryz.func108, Tryz.ntmps108
      go_wp2; go_ret
      exact ⟨rfl, 0, rfl⟩
set_option maxRecDepth 100000 in
theorem plain_any (s : List UInt8) (lo hi : Int) (w : World) (hs : s.length ≤ 1000000000) :
    Calls Tryz.prog 82 #[.string (bs s), .int .i64 lo, .int .i64 hi] w fun e w' => e = .returned (.bool (Rul.plainB s lo hi)) ∧ Below w.heap.size w w' := by
  have hsz : (bs s).size = s.length := rfl
  have hv : Rul.plainB s lo hi = (s.all Al.okByte && (decide (lo ≤ (s.length : Int)) && decide ((s.length : Int) ≤ hi))) := rfl
  have cC := fun W => Tryz.strings_ContainsFunc 108 #[] (enters_of Tryz.func108 (by kernel_rfl) rfl) oddR (bs s) W (odd_at W)
  rw [contains_odd] at cC
  have HV := Lib.hid hv
  have HC := Lib.hid cC
  clear hv cC
  go_enter Tryz.func82, Tryz.ntmps82
  by_cases h1 : lo ≤ (s.length : Int)
  · by_cases h2 : (s.length : Int) ≤ hi
    · have hf := HV.out
      rw [decide_eq_true h1, decide_eq_true h2] at hf
      have HF := Lib.hid hf
      clear hf
      go_wp2_with fail
      refine (HC.out _).mono ?_
      rintro e w' ⟨rfl, hb⟩
      go_wp2
      go_ret
      exact ⟨ret_bool (by rw [HF.out]; cases s.all Al.okByte <;> rfl), hb⟩
    · have hf := HV.out
      rw [decide_eq_true h1, decide_eq_false h2] at hf
      have HF := Lib.hid hf
      clear hf
      go_wp2
      go_ret
      exact ⟨ret_bool (by rw [HF.out]; simp), bel_refl w⟩
  · have hf := HV.out
    rw [decide_eq_false h1] at hf
    have HF := Lib.hid hf
    clear hf
    go_wp2
    go_ret
    exact ⟨ret_bool (by rw [HF.out]; simp), bel_refl w⟩
end Go.Proofs.YtldnfdghkdibmaaGreatDoor

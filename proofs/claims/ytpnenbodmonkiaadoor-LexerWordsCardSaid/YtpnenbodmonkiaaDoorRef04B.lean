/-
  The reference's Name and Decimal: what each returns.
-/
import Derived.Test.YtpnenbodmonkiaaDoorLexLists
import Derived.Test.YtpnenbodmonkiaaDoorRef04A
set_option linter.unusedVariables false
namespace Go.Proofs.YtpnenbodmonkiaaDoor
open Go.RowKit
attribute [local go_sem] alloc_drewN setCell_drewN setRow_drewN Later.cell Later.frozen wrap64_nat wrap64_add wrap64_succ

namespace Lx
/-- a name -/
def nameB (l : List UInt8) : Bool := l.all isWord && (decide (0 < l.length) && decide (l.length ≤ 24)) && (match l with | [] => false | c :: _ => isLetter c)
/-- the decimal digits of a number -/
def dec (n : Nat) : List UInt8 := if n < 10 then [UInt8.ofNat (48 + n)] else dec (n / 10) ++ [UInt8.ofNat (48 + n % 10)]
termination_by n
decreasing_by omega
theorem dec_small {n : Nat} (h : n < 10) : dec n = [UInt8.ofNat (48 + n)] := by rw [dec, if_pos h]
theorem dec_big {n : Nat} (h : ¬ n < 10) : dec n = dec (n / 10) ++ dec (n % 10) := by rw [dec, if_neg h, dec_small (n := n % 10) (by omega)]
theorem dec_big' {n : Nat} (h : ¬ n < 10) : dec n = dec (n / 10) ++ [UInt8.ofNat (48 + n % 10)] := by rw [dec, if_neg h]
theorem dec_pos (n : Nat) : 1 ≤ (dec n).length := by
  by_cases h : n < 10
  · rw [dec_small h]; simp
  · rw [dec_big' h]; simp
theorem dec_len (k : Nat) : ∀ n, n < 10 ^ (k + 1) → (dec n).length ≤ k + 1 := by
  induction k with
  | zero => intro n h; rw [dec_small (by simpa using h)]; simp
  | succ k ih =>
    intro n h
    by_cases h10 : n < 10
    · rw [dec_small h10]; simp
    · rw [dec_big' h10, List.length_append, List.length_singleton]
      have h2 := ih (n / 10) (by rw [Nat.pow_succ] at h; omega)
      omega
theorem digit_byte (d : Nat) (h : d < 10) : isDigit (UInt8.ofNat (48 + d)) = true ∧ (UInt8.ofNat (48 + d)).toNat - 48 = d := by
  have H : ∀ d : Fin 10, isDigit (UInt8.ofNat (48 + d.val)) = true ∧ (UInt8.ofNat (48 + d.val)).toNat - 48 = d.val := by decide +kernel
  exact H ⟨d, h⟩
theorem decVal_snoc (l : List UInt8) (c : UInt8) : decVal (l ++ [c]) = 10 * decVal l + (c.toNat - 48) := by simp [decVal, List.foldl_append]
theorem dec_val (n : Nat) : decVal (dec n) = n := by
  induction n using Nat.strongRecOn with
  | _ n ih =>
    by_cases h : n < 10
    · rw [dec_small h]
      have := decVal_snoc [] (UInt8.ofNat (48 + n))
      rw [List.nil_append] at this
      rw [this, (digit_byte n h).2]
      simp [decVal]
    · rw [dec_big' h, decVal_snoc, ih (n / 10) (by omega), (digit_byte (n % 10) (by omega)).2]
      omega
theorem dec_digits (n : Nat) : ∀ c ∈ dec n, isDigit c = true := by
  induction n using Nat.strongRecOn with
  | _ n ih =>
    by_cases h : n < 10
    · rw [dec_small h]
      intro c hc
      rw [List.mem_singleton] at hc
      rw [hc]
      exact (digit_byte n h).1
    · rw [dec_big' h]
      intro c hc
      rw [List.mem_append] at hc
      rcases hc with hc | hc
      · exact ih (n / 10) (by omega) c hc
      · rw [List.mem_singleton] at hc
        rw [hc]
        exact (digit_byte (n % 10) (by omega)).1
theorem dec_slice (n : Nat) (h : n < 10) : ByteArray.extract { data := #[48, 49, 50, 51, 52, 53, 54, 55, 56, 57] } n (n + 1) = bs (dec n) := by
  rw [dec_small h, extract_bs]
  congr 1
  have H : ∀ d : Fin 10, ([48, 49, 50, 51, 52, 53, 54, 55, 56, 57].drop d.val).take (d.val + 1 - d.val) = [UInt8.ofNat (48 + d.val)] := by decide +kernel
  exact H ⟨n, h⟩
end Lx

set_option maxRecDepth 100000 in
set_option maxHeartbeats 1000000 in
theorem rdec_any (n : Nat) : n ≤ 9999999999999 → ∀ w : World, Calls Tryd.prog 21 #[.int .i64 n] w fun e w' => e = .returned (.string (bs (Lx.dec n))) ∧ Below w.heap.size w w' := by
  induction n using Nat.strongRecOn with
  | _ n ih =>
    intro hn w
    by_cases h : n < 10
    · have hx := Lx.dec_slice n h
      have HX := Lib.hid hx
      have hn1 : n + 1 ≤ 10 := by omega
      have hn2 : n + 1 ≤ 9223372036854775807 := by omega
      clear hx ih
      go_enter Tryd.func21, Tryd.ntmps21
      go_wp2
      go_ret
      refine ⟨?_, bel_refl w⟩
      rw [← HX.out]
      rfl
    · have i1 := fun w => ih (n / 10) (by omega) (by omega) w
      have i2 := fun w => ih (n % 10) (by omega) (by omega) w
      have hd := Lx.dec_big h
      have hq : (n : Int).tdiv 10 = ((n / 10 : Nat) : Int) := rfl
      have hr : (n : Int).tmod 10 = ((n % 10 : Nat) : Int) := rfl
      have I1 := Lib.hid i1
      have I2 := Lib.hid i2
      have HD := Lib.hid hd
      have l1 := Lx.dec_len 12 (n / 10) (by omega)
      have l2 := Lx.dec_len 12 (n % 10) (by omega)
      have l3 : (Lx.dec (n / 10)).length + (Lx.dec (n % 10)).length ≤ 9223372036854775807 := by omega
      clear i1 i2 hd ih
      go_enter Tryd.func21, Tryd.ntmps21
      go_wp2_with fail
      refine (I1.out _).mono ?_
      rintro e w1 ⟨rfl, hb1⟩
      have HB1 := Lib.hid hb1
      clear hb1
      go_wp2_with fail
      refine (I2.out _).mono ?_
      rintro e w2 ⟨rfl, hb2⟩
      have HB2 := Lib.hid hb2
      clear hb2
      go_wp2
      go_ret
      refine ⟨?_, bel_trans HB1.out HB2.out⟩
      rw [HD.out]
      show Ending.returned (.string (bs (Lx.dec (n / 10)) ++ bs (Lx.dec (n % 10)))) = _
      rw [app_bs, bs_list, bs_list]

set_option maxRecDepth 100000 in
set_option maxHeartbeats 1000000 in
theorem rname_any (s : ByteArray) (w : World) (hs : s.size ≤ 9223372036854775807) : Calls Tryd.prog 20 #[.string s] w fun e w' => e = .returned (.bool (Lx.nameB s.data.toList)) ∧ w' = w := by
  go_enter Tryd.func20, Tryd.ntmps20
  go_wp2
  go_loop [3] (fun i => ∃ k : Nat, k ≤ s.size ∧ i = .int .i64 k ∧ s.data.toList.all Lx.isWord = (s.data.toList.drop k).all Lx.isWord) (fun i => s.size - (intOf i).toNat)
  case atStart => exact ⟨0, by omega, rfl, rfl⟩
  case round =>
    obtain ⟨k, hk, rfl, hc⟩ := hrel
    have HC := Lib.hid hc
    clear hc
    by_cases hlt : k < s.size
    · have hd := drop_get s k hlt
      have HD := Lib.hid hd
      clear hd
      have hb : s[k].toNat < 256 := UInt8.toNat_lt s[k]
      go_wp2_with fail
      refine (rword_any s[k] _).mono ?_
      rintro e w' ⟨rfl, rfl⟩
      cases hwd : Lx.isWord s[k]
      · have HWD := Lib.hid hwd
        clear hwd
        go_wp2
        go_ret
        refine ⟨?_, rfl⟩
        refine ret_bool ?_
        unfold Lx.nameB
        rw [HC.out, HD.out, List.all_cons, HWD.out]
        rfl
      · have HWD := Lib.hid hwd
        clear hwd
        go_wp2
        go_round
        case rel =>
          refine ⟨k + 1, by omega, by go_num, ?_⟩
          rw [HC.out, HD.out, List.all_cons, HWD.out]
          rfl
        case measure => simp [intOf]; omega
    · have hd : s.data.toList.drop k = [] := List.drop_eq_nil_of_le (by rw [← size_list]; omega)
      have hall : s.data.toList.all Lx.isWord = true := by rw [HC.out, hd]; rfl
      have HA := Lib.hid hall
      have HSL := Lib.hid (size_list s)
      clear hd hall HC
      by_cases h0 : 0 < s.size
      · by_cases h24 : s.size ≤ 24
        · have hdg := drop_get s 0 h0
          rw [List.drop_zero] at hdg
          have HD := Lib.hid hdg
          clear hdg
          have hb : s[0].toNat < 256 := UInt8.toNat_lt s[0]
          go_wp2_with fail
          refine (rletter_any s[0] _).mono ?_
          rintro e w' ⟨rfl, rfl⟩
          have hfin : Lx.nameB s.data.toList = Lx.isLetter s[0] := by
            have h1 : decide (0 < s.data.toList.length) = true := by rw [decide_eq_true_eq, ← HSL.out]; exact h0
            have h2 : decide (s.data.toList.length ≤ 24) = true := by rw [decide_eq_true_eq, ← HSL.out]; exact h24
            unfold Lx.nameB
            rw [HA.out, h1, h2, HD.out]
            rfl
          have HF := Lib.hid hfin
          clear hfin
          go_wp2
          go_ret
          exact ⟨ret_bool HF.out.symm, rfl⟩
        · have hfin : Lx.nameB s.data.toList = false := by
            have h2 : decide (s.data.toList.length ≤ 24) = false := by rw [decide_eq_false_iff_not, ← HSL.out]; exact h24
            unfold Lx.nameB
            rw [HA.out, h2]
            simp
          have HF := Lib.hid hfin
          clear hfin
          go_wp2
          go_ret
          exact ⟨ret_bool HF.out.symm, rfl⟩
      · have hfin : Lx.nameB s.data.toList = false := by
          have h1 : decide (0 < s.data.toList.length) = false := by rw [decide_eq_false_iff_not, ← HSL.out]; exact h0
          unfold Lx.nameB
          rw [HA.out, h1]
          simp
        have HF := Lib.hid hfin
        clear hfin
        go_wp2
        go_ret
        exact ⟨ret_bool HF.out.symm, rfl⟩
theorem rname_is (s : ByteArray) (w : World) (hs : s.size ≤ 9223372036854775807) {b : Bool} (h : Lx.nameB s.data.toList = b) : Calls Tryd.prog 20 #[.string s] w fun e w' => e = .returned (.bool b) ∧ w' = w := by
  subst h
  exact rname_any s w hs
end Go.Proofs.YtpnenbodmonkiaaDoor

/-
  letters: what it returns.
-/
import Derived.Test.YtgjdbnkeamjhhaaDoorSoA
import Derived.Laws.RangeAny
set_option linter.unusedVariables false
namespace Go.Proofs.YtgjdbnkeamjhhaaDoor
open Go.RowKit
open R
attribute [local go_sem] alloc_drewN setCell_drewN setRow_drewN
theorem get_bs (s : List UInt8) (i : Nat) (h : i < (bs s).size) : (bs s)[i]'h = s.getD i 0 := by
  rw [List.getD_eq_getElem?_getD, List.getElem?_eq_getElem (show i < s.length from h)]
  rfl
/-- the rune at hand, as far as it matters -/
theorem rune_is (s : List UInt8) (i : Nat) (h : i < (bs s).size) : 1 ≤ (Utf8.decode (bs s) i).2 ∧
    (Snd.letB (s.getD i 0) = true → Utf8.decode (bs s) i = ((s.getD i 0).toNat, 1) ∧ 97 ≤ (s.getD i 0).toNat ∧ (s.getD i 0).toNat ≤ 122) ∧
    (Snd.letB (s.getD i 0) = false → (Utf8.decode (bs s) i).1 < 97 ∨ 122 < (Utf8.decode (bs s) i).1) := by
  have hg := get_bs s i h
  by_cases ha : ((bs s)[i]'h).toNat < 128
  · have hd := decode_ascii (bs s) i h ha
    rw [hg] at hd ha
    rw [hd]
    refine ⟨Nat.le_refl _, fun hl => ?_, fun hl => ?_⟩
    · unfold Snd.letB at hl
      simp only [Bool.and_eq_true, decide_eq_true_eq] at hl
      exact ⟨rfl, hl.1, hl.2⟩
    · unfold Snd.letB at hl
      simp only [Bool.and_eq_false_iff, decide_eq_false_iff_not] at hl
      show (s.getD i 0).toNat < 97 ∨ 122 < (s.getD i 0).toNat
      omega
  · have hd := decode_high (bs s) i h (by omega)
    rw [hg] at ha
    refine ⟨hd.2, fun hl => ?_, fun _ => by omega⟩
    unfold Snd.letB at hl
    simp only [Bool.and_eq_true, decide_eq_true_eq] at hl
    omega
set_option maxRecDepth 100000 in
set_option maxHeartbeats 1000000 in
theorem slet_any (s : List UInt8) (lo hi : Int) (w : World) (hs : s.length ≤ 1000000) :
    Calls Tryd.prog 21 #[.string (bs s), .int .i64 lo, .int .i64 hi] w fun e w' => e = .returned (.bool (Snd.lettersB s lo hi)) ∧ Below w.heap.size w w' := by
  have hsz : (bs s).size = s.length := rfl
  have bel : ∀ pos, Below w.heap.size w (w.iter (bs s) pos) := fun pos => bel_alloc (bel_refl w) _
  have HB := Lib.hid bel
  clear bel
  go_enter Tryd.func21, Tryd.ntmps21
  go_wp2
  go_loopw [8] (fun v wr => ∃ pos, wr = w.iter (bs s) pos ∧ (s.take pos).all Snd.letB = true) (fun _ wr => s.length - wr.iterPos w.heap.size)
  case atStart => exact ⟨0, rfl, rfl⟩
  case round =>
    obtain ⟨pos, rfl, ha⟩ := hrel
    have HA := Lib.hid ha
    clear ha
    by_cases hlt : pos < s.length
    · have hlt' : pos < (bs s).size := hlt
      have hnx : ∀ ty, (Instr.next (.pointer (some ⟨w.heap.size, 0, none⟩)) true ty).run Tryd.prog (w.iter (bs s) pos) = _ := fun ty => run_next_any w (bs s) pos ty hlt'
      obtain ⟨r1, r2, r3⟩ := rune_is s pos hlt'
      cases hl : Snd.letB (s.getD pos 0)
      · have hf : Snd.lettersB s lo hi = false := by
          unfold Snd.lettersB
          rw [Snd.all_no s 0 Snd.letB pos hlt hl]; rfl
        have HF := Lib.hid hf
        have h3 := r3 hl
        clear hf hl r1 r2 r3
        generalize Utf8.decode (bs s) pos = D at *
        by_cases h97 : (D.1 : Int) < 97
        · go_wp2
          go_ret
          exact ⟨ret_bool HF.out.symm, HB.out _⟩
        · have h122 : (122 : Int) < D.1 := by omega
          go_wp2
          go_ret
          exact ⟨ret_bool HF.out.symm, HB.out _⟩
      · obtain ⟨hd, h1, h2⟩ := r2 hl
        have hst : (s.take (pos + 1)).all Snd.letB = true := by rw [Snd.all_step s 0 Snd.letB pos hlt, HA.out, hl]; rfl
        have HST := Lib.hid hst
        rw [hd] at hnx
        clear hst hl r1 r2 r3 hd
        generalize (s.getD pos 0).toNat = b at *
        have h97 : ¬ (b : Int) < 97 := by omega
        have h122 : ¬ (122 : Int) < b := by omega
        go_wp2
        go_roundw
        case rel => exact ⟨pos + 1, rfl, HST.out⟩
        case measure => simp; omega
    · have hnx : ∀ ty, (Instr.next (.pointer (some ⟨w.heap.size, 0, none⟩)) true ty).run Tryd.prog (w.iter (bs s) pos) = _ := fun ty => run_next_end w (bs s) pos ty hlt
      have hv : Snd.lettersB s lo hi = (decide (lo ≤ (s.length : Int)) && decide ((s.length : Int) ≤ hi)) := by
        unfold Snd.lettersB
        rw [← Snd.all_end s Snd.letB pos (by omega), HA.out]; rfl
      have HV := Lib.hid hv
      clear hv
      by_cases h1 : lo ≤ (s.length : Int)
      · by_cases h2 : (s.length : Int) ≤ hi
        · have hf := HV.out
          rw [decide_eq_true h1, decide_eq_true h2] at hf
          have HF := Lib.hid hf
          clear hf
          go_wp2
          go_ret
          exact ⟨ret_bool (by rw [HF.out]; first | rfl | simp [h1, h2]), HB.out _⟩
        · have hf := HV.out
          rw [decide_eq_true h1, decide_eq_false h2] at hf
          have HF := Lib.hid hf
          clear hf
          go_wp2
          go_ret
          exact ⟨ret_bool (by rw [HF.out]; first | rfl | simp [h1, h2]), HB.out _⟩
      · have hf := HV.out
        rw [decide_eq_false h1] at hf
        have HF := Lib.hid hf
        clear hf
        go_wp2
        go_ret
        exact ⟨ret_bool (by rw [HF.out]; first | rfl | simp [h1]), HB.out _⟩
end Go.Proofs.YtgjdbnkeamjhhaaDoor

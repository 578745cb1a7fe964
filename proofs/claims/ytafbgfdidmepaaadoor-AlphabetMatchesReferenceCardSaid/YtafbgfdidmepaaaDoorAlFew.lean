/-
  few, Few, Ints, sample: what they return.
-/
import Derived.Test.YtafbgfdidmepaaaDoorAlFold
import Derived.Test.YtafbgfdidmepaaaDoorLater
set_option linter.unusedVariables false
namespace Go.Proofs.YtafbgfdidmepaaaDoor
open Go.RowKit Go.Maps
attribute [local go_sem] alloc_drewN setCell_drewN setRow_drewN

/-- what an alphabet of an argument has: sizes of this machine -/
structure Sized (a : Al.Alph) : Prop where
  n : a.letters.length ≤ 9223372036854775807
  s : a.small.length ≤ 9223372036854775807
  name : a.name.length ≤ 9223372036854775807
  len : ∀ l ∈ a.letters, l.length ≤ 9223372036854775807
def fewB (a : Al.Alph) : Bool := (a.letters.take 70).all (fun l => decide (l.length ≤ 20)) && (decide (a.letters.length ≤ 70) && (decide (a.small.length ≤ 70) && decide (a.name.length ≤ 100)))
theorem fewB_few {a : Al.Alph} (h : fewB a = true) : Few a := by
  unfold fewB at h
  simp only [Bool.and_eq_true, decide_eq_true_eq, List.all_eq_true] at h
  obtain ⟨h1, h2, h3, h4⟩ := h
  rw [List.take_of_length_le h2] at h1
  exact ⟨h2, h1, h3, h4⟩

set_option maxRecDepth 100000 in
set_option maxHeartbeats 2000000 in
theorem rfew_any (a : Al.Alph) (A A' : Option Addr) (c c' : Nat) (w : World) (hz : Sized a) (hA : StrAt w A a.letters) :
    Calls Tryd.prog 25 #[alv a A c A' c'] w fun e w' => e = .returned (.bool (fewB a)) ∧ Below w.heap.size w w' := by
  have z1 := hz.n
  have z2 := hz.s
  have z3 : (bs a.name).size ≤ 9223372036854775807 := hz.name
  have HZ := Lib.hid hz.len
  have HA := Lib.hid hA
  clear hz hA
  go_enter Tryd.func25, Tryd.ntmps25
  go_wp2
  go_loop [3] (fun v => ∃ k : Nat, v = .int .i64 k ∧ k ≤ a.letters.length ∧ k ≤ 70 ∧ (a.letters.take k).all (fun l => decide (l.length ≤ 20)) = true) (fun v => a.letters.length - (intOf v).toNat)
  case atStart => exact ⟨0, rfl, Nat.zero_le _, by omega, rfl⟩
  case round =>
    obtain ⟨k, rfl, hk, hk70, hall⟩ := hrel
    have HALL := Lib.hid hall
    clear hall
    by_cases hlt : k < a.letters.length ∧ k < 70
    · obtain ⟨h1, h2⟩ := hlt
      have h1' : (k : Int) < (a.letters.length : Int) := by omega
      have h2' : (k : Int) < 70 := by omega
      obtain ⟨g, off, rfl, hg, hcx⟩ := HA.out.at_ k h1
      have hlx : (bs a.letters[k]).size ≤ 9223372036854775807 := HZ.out _ (List.getElem_mem h1)
      have htk := Al.take_snoc a.letters k h1
      have hmem : a.letters[k] ∈ a.letters.take 70 := by
        rw [List.mem_take_iff_getElem]
        exact ⟨k, by omega, rfl⟩
      have HTK := Lib.hid htk
      have HMEM := Lib.hid hmem
      clear htk hmem
      generalize a.letters[k] = x at *
      by_cases h20 : x.length ≤ 20
      · have h20' : ¬ (20 : Int) < (x.length : Int) := by omega
        go_wp2
        go_round
        case rel =>
          refine ⟨k + 1, by go_num, h1, h2, ?_⟩
          rw [HTK.out, List.all_append, HALL.out]
          simp [h20]
        case measure => simp [intOf]; omega
      · have h20' : (20 : Int) < (x.length : Int) := by omega
        have hf : fewB a = false := by
          unfold fewB
          have : (a.letters.take 70).all (fun l => decide (l.length ≤ 20)) = false := by
            rw [List.all_eq_false]
            exact ⟨x, HMEM.out, by simpa using h20⟩
          rw [this]
          rfl
        have HF := Lib.hid hf
        clear hf
        go_wp2
        go_ret
        exact ⟨ret_bool HF.out.symm, bel_alloc (bel_refl w) _⟩
    · have hall70 : (a.letters.take 70).all (fun l => decide (l.length ≤ 20)) = true := by
        have := HALL.out
        by_cases h70 : k = 70
        · rw [h70] at this; exact this
        · rw [List.take_of_length_le (by omega)] at this
          rw [List.all_eq_true] at this ⊢
          exact fun l hl => this l (List.mem_of_mem_take hl)
      have hf : fewB a = (decide (a.letters.length ≤ 70) && (decide (a.small.length ≤ 70) && decide (a.name.length ≤ 100))) := by
        unfold fewB
        rw [hall70, Bool.true_and]
      have HF := Lib.hid hf
      clear hf hall70 HALL
      have hlt0 := Lib.hid hlt
      clear hlt
      by_cases b1 : a.letters.length ≤ 70
      · by_cases b2 : a.small.length ≤ 70
        · by_cases b3 : a.name.length ≤ 100
          · have hf := HF.out
            rw [decide_eq_true b1, decide_eq_true b2, decide_eq_true b3] at hf
            have HF2 := Lib.hid hf
            clear hf
            have b1' : (a.letters.length : Int) ≤ 70 := by omega
            have b2' : (a.small.length : Int) ≤ 70 := by omega
            have b3' : (a.name.length : Int) ≤ 100 := by omega
            by_cases hlt1 : k < a.letters.length
            · have hlt1' : (k : Int) < (a.letters.length : Int) := by omega
              have hlt2' : decide ((k : Int) < 70) = false := by rw [decide_eq_false_iff_not]; have := hlt0.out; omega
              go_wp2
              go_ret
              exact ⟨by rw [HF2.out]; first | (simp; done) | (simp; omega), bel_alloc (bel_refl w) _⟩
            · have hlt1' : ¬ (k : Int) < (a.letters.length : Int) := by omega
              go_wp2
              go_ret
              exact ⟨by rw [HF2.out]; first | (simp; done) | (simp; omega), bel_alloc (bel_refl w) _⟩
          · have hf := HF.out
            rw [decide_eq_true b1, decide_eq_true b2, decide_eq_false b3] at hf
            have HF2 := Lib.hid hf
            clear hf
            have b1' : (a.letters.length : Int) ≤ 70 := by omega
            have b2' : (a.small.length : Int) ≤ 70 := by omega
            have b3' : ¬ (a.name.length : Int) ≤ 100 := by omega
            by_cases hlt1 : k < a.letters.length
            · have hlt1' : (k : Int) < (a.letters.length : Int) := by omega
              have hlt2' : decide ((k : Int) < 70) = false := by rw [decide_eq_false_iff_not]; have := hlt0.out; omega
              go_wp2
              go_ret
              exact ⟨by rw [HF2.out]; first | (simp; done) | (simp; omega), bel_alloc (bel_refl w) _⟩
            · have hlt1' : ¬ (k : Int) < (a.letters.length : Int) := by omega
              go_wp2
              go_ret
              exact ⟨by rw [HF2.out]; first | (simp; done) | (simp; omega), bel_alloc (bel_refl w) _⟩
        · have hf := HF.out
          rw [decide_eq_true b1, decide_eq_false b2] at hf
          have HF2 := Lib.hid hf
          clear hf
          have b1' : (a.letters.length : Int) ≤ 70 := by omega
          have b2' : ¬ (a.small.length : Int) ≤ 70 := by omega
          by_cases hlt1 : k < a.letters.length
          · have hlt1' : (k : Int) < (a.letters.length : Int) := by omega
            have hlt2' : decide ((k : Int) < 70) = false := by rw [decide_eq_false_iff_not]; have := hlt0.out; omega
            go_wp2
            go_ret
            exact ⟨by rw [HF2.out]; first | rfl | (simp; done) | (simp; omega), bel_alloc (bel_refl w) _⟩
          · have hlt1' : ¬ (k : Int) < (a.letters.length : Int) := by omega
            go_wp2
            go_ret
            exact ⟨by rw [HF2.out]; first | rfl | (simp; done) | (simp; omega), bel_alloc (bel_refl w) _⟩
      · have hf := HF.out
        rw [decide_eq_false b1] at hf
        have HF2 := Lib.hid hf
        clear hf
        have b1' : ¬ (a.letters.length : Int) ≤ 70 := by omega
        by_cases hlt1 : k < a.letters.length
        · have hlt1' : (k : Int) < (a.letters.length : Int) := by omega
          have hlt2' : decide ((k : Int) < 70) = false := by rw [decide_eq_false_iff_not]; have := hlt0.out; omega
          go_wp2
          go_ret
          exact ⟨by rw [HF2.out]; first | rfl | (simp; done) | (simp; omega), bel_alloc (bel_refl w) _⟩
        · exfalso
          have := hlt0.out
          omega

theorem few_any (a : Al.Alph) (A A' : Option Addr) (c c' : Nat) (s : List UInt8) (w : World) (hz : Sized a) (hA : StrAt w A a.letters) (hs : s.length ≤ 9223372036854775807) :
    Calls Tryd.prog 12 #[alv a A c A' c', .string (bs s)] w fun e w' => e = .returned (.bool (fewB a && decide (s.length ≤ 300))) ∧ Below w.heap.size w w' := by
  have hs2 : (bs s).size ≤ 9223372036854775807 := hs
  go_enter Tryd.func12, Tryd.ntmps12
  go_wp2_with fail
  refine (rfew_any a A A' c c' _ hz (hA.bel (bel_alloc (bel_refl w) _))).mono ?_
  rintro e w1 ⟨rfl, hb1⟩
  have HB := Lib.hid (bel_trans (bel_alloc (bel_refl w) _) hb1)
  clear hb1
  cases hf : fewB a
  · have HF := Lib.hid hf
    clear hf
    go_wp2
    go_ret
    exact ⟨ret_bool (by rw [HF.out]; rfl), HB.out⟩
  · have HF := Lib.hid hf
    clear hf
    by_cases h3 : s.length ≤ 300
    · have h3' : (s.length : Int) ≤ 300 := by omega
      go_wp2
      go_ret
      exact ⟨by rw [HF.out]; simp [h3], HB.out⟩
    · have h3' : ¬ (s.length : Int) ≤ 300 := by omega
      go_wp2
      go_ret
      exact ⟨by rw [HF.out]; first | (simp [h3]; done) | (simp [h3]; omega), HB.out⟩

set_option maxRecDepth 100000 in
set_option maxHeartbeats 2000000 in
theorem ints_any (A B : Option Addr) (c d : Nat) (x y : List Int) (w : World) (hA : IntAt w A x) (hB : IntAt w B y) (hx : x.length ≤ 1000000000000000) (hy : y.length ≤ 1000000000000000) :
    Calls Tryd.prog 21 #[.slice A x.length c, .slice B y.length d] w fun e w' => e = .returned (.bool (x == y)) ∧ ∃ n, w' = w.drewN n := by
  by_cases hl : x.length = y.length
  · have hl' : ((x.length : Int) != (y.length : Int)) = false := by rw [hl]; simp
    have HL := Lib.hid hl
    clear hl
    go_enter Tryd.func21, Tryd.ntmps21
    go_wp2
    go_loopw [5] (fun v wr => ∃ k n : Nat, v = .int .i64 k ∧ k ≤ x.length ∧ wr = w.drewN n ∧ x.take k = y.take k) (fun v _ => x.length - (intOf v).toNat)
    case atStart => exact ⟨0, 0, rfl, Nat.zero_le _, rfl, rfl⟩
    case round =>
      obtain ⟨k, n, rfl, hk, rfl, ht⟩ := hrel
      have HT := Lib.hid ht
      clear ht
      by_cases hlt : k < x.length
      · have hlt2 : k < y.length := by rw [← HL.out]; exact hlt
        have hlt' : (k : Int) < (x.length : Int) := by omega
        have hlt2' : (k : Int) < (y.length : Int) := by omega
        obtain ⟨g, off, rfl, hg, hc1⟩ := hA.at_ k hlt
        obtain ⟨g2, off2, rfl, hg2, hc2⟩ := hB.at_ k hlt2
        have t1 := Al.take_snoc x k hlt
        have t2 := Al.take_snoc y k hlt2
        have T1 := Lib.hid t1
        have T2 := Lib.hid t2
        have hne : x[k] ≠ y[k] → x ≠ y := fun h e => h (by subst e; rfl)
        have HNE := Lib.hid hne
        clear t1 t2 hne
        generalize x[k] = p at *
        generalize y[k] = q at *
        by_cases hpq : p = q
        · subst hpq
          have hp : (p != p) = false := by simp
          go_wp2
          go_quiet (fail)
          go_wp2
          go_roundw
          case rel => exact ⟨k + 1, _, by go_num, hlt, rfl, by rw [T1.out, T2.out, HT.out]⟩
          case measure => simp [intOf]; omega
        · have hp : (p != q) = true := by rw [bne_iff_ne]; exact hpq
          have hf : (x == y) = false := by rw [beq_eq_false_iff_ne]; exact HNE.out hpq
          have HF := Lib.hid hf
          clear hf hpq
          go_wp2
          go_quiet (fail)
          go_wp2
          go_ret
          exact ⟨ret_bool HF.out.symm, n + nq, by rw [World.drewN_drewN]⟩
      · have hf : (x == y) = true := by
          rw [beq_iff_eq]
          have h := HT.out
          have hkk : k = x.length := by omega
          rw [hkk, List.take_length, HL.out, List.take_length] at h
          exact h
        have HF := Lib.hid hf
        clear hf
        go_wp2
        go_ret
        exact ⟨ret_bool HF.out.symm, _, rfl⟩
  · have hl' : ((x.length : Int) != (y.length : Int)) = true := by rw [bne_iff_ne]; omega
    have hf : (x == y) = false := by rw [beq_eq_false_iff_ne]; rintro rfl; exact hl rfl
    have HF := Lib.hid hf
    clear hl hf
    go_enter Tryd.func21, Tryd.ntmps21
    go_wp2
    go_ret
    exact ⟨ret_bool HF.out.symm, 0, rfl⟩

/-- the alphabet of the chapter's examples -/
def smp : Al.Alph := ⟨[108, 97, 116, 105, 110], [[97], [97, 98], [99], [65], [67]], [0, 1, 2, 0, 2]⟩
theorem smp_few : Few smp := ⟨by decide, by decide, by decide, by decide⟩
set_option maxRecDepth 100000 in
theorem sample_any (w : World) : Calls Tryd.prog 24 #[] w fun e w' => ∃ A A', e = .returned (alv smp A 5 A' 5) ∧ StrAt w' A smp.letters ∧ IntAt w' A' smp.small ∧ Below w.heap.size w w' := by
  go_enter Tryd.func24, Tryd.ntmps24
  go_wp2
  refine bodyPost_ret (v := alv smp (some ⟨w.heap.size + 1, 0, none⟩) 5 (some ⟨w.heap.size + 1 + 1, 0, none⟩) 5) ?_ rfl ⟨_, _, rfl, ?_, ?_, bel_alloc (bel_alloc (bel_alloc (bel_refl w) _) _) _⟩
  · exact results_cell_zero rfl _ _ w.heap.size 25 _ _ rfl (((Blk.new w _ _).alloc _).alloc _) Tryd.underlying25 rfl (by kernel_rfl)
  · intro _
    have hb := (Blk.new (w.alloc (.cells #[.string { data := #[108, 97, 116, 105, 110] }, .slice (some ⟨w.heap.size + 1, 0, none⟩) 5 5, .slice (some ⟨w.heap.size + 1 + 1, 0, none⟩) 5 5] 25)) 9 #[.string { data := #[97] }, .string { data := #[97, 98] }, .string { data := #[99] }, .string { data := #[65] }, .string { data := #[67] }]).alloc (.cells #[.int .i64 0, .int .i64 1, .int .i64 2, .int .i64 0, .int .i64 2] 3)
    simp only [World.size_alloc] at hb
    refine ⟨w.heap.size + 1, 0, rfl, by simp, fun j s h => ?_⟩
    rw [Nat.zero_add, hb.cell j]
    match j, h with
    | 0, h => injection h with h; subst h; rfl
    | 1, h => injection h with h; subst h; rfl
    | 2, h => injection h with h; subst h; rfl
    | 3, h => injection h with h; subst h; rfl
    | 4, h => injection h with h; subst h; rfl
    | j + 5, h => cases h
  · intro _
    have hb := Blk.new ((w.alloc (.cells #[.string { data := #[108, 97, 116, 105, 110] }, .slice (some ⟨w.heap.size + 1, 0, none⟩) 5 5, .slice (some ⟨w.heap.size + 1 + 1, 0, none⟩) 5 5] 25)).alloc (.cells #[.string { data := #[97] }, .string { data := #[97, 98] }, .string { data := #[99] }, .string { data := #[65] }, .string { data := #[67] }] 9)) 3 #[.int .i64 0, .int .i64 1, .int .i64 2, .int .i64 0, .int .i64 2]
    simp only [World.size_alloc] at hb
    refine ⟨w.heap.size + 1 + 1, 0, rfl, by simp, fun j s h => ?_⟩
    rw [Nat.zero_add, hb.cell j]
    match j, h with
    | 0, h => injection h with h; subst h; rfl
    | 1, h => injection h with h; subst h; rfl
    | 2, h => injection h with h; subst h; rfl
    | 3, h => injection h with h; subst h; rfl
    | 4, h => injection h with h; subst h; rfl
    | j + 5, h => cases h
end Go.Proofs.YtafbgfdidmepaaaDoor

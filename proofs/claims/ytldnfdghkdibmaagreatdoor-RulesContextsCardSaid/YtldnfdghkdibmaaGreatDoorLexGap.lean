/-
  The lexer's scanner: what 'gap' returns, at every scanner in memory.
-/
import Derived.Test.YtldnfdghkdibmaaGreatDoorLexScan
import Derived.WalkSmall
namespace Go.Proofs.YtldnfdghkdibmaaGreatDoor
open Go.RowKit
namespace Lx

theorem cls_blank (c : UInt8) : (cls c == 1) = isBlank c := by
  have H : ∀ c : Fin 256, (cls (UInt8.ofNat c.val) == 1) = isBlank (UInt8.ofNat c.val) := by decide +kernel
  have h := H ⟨c.toNat, UInt8.toNat_lt c⟩
  simpa using h
theorem cls_hash (c : UInt8) : (cls c == 2) = (c == 35) := by
  have H : ∀ c : Fin 256, (cls (UInt8.ofNat c.val) == 2) = (UInt8.ofNat c.val == 35) := by decide +kernel
  have h := H ⟨c.toNat, UInt8.toNat_lt c⟩
  simpa using h

theorem gap_blank (l : List UInt8) : gap l = span isBlank l + gap (l.drop (span isBlank l)) := by
  induction l with
  | nil => simp [span, gap, gapc]
  | cons c r ih =>
    cases h : isBlank c
    · rw [span_stop h]; simp
    · rw [span_cons h]
      have : gap (c :: r) = gap r + 1 := by simp [gap, gapc, h]
      rw [this, ih]
      simp only [List.drop_succ_cons]
      omega
theorem blank_stop (l : List UInt8) : clsAt (l.drop (span isBlank l)) ≠ 1 := by
  induction l with
  | nil => simp [span, clsAt]
  | cons c r ih =>
    cases h : isBlank c
    · rw [span_stop h]
      intro e
      have := cls_blank c
      simp only [List.drop_zero, clsAt] at e
      rw [e, h] at this
      cases this
    · rw [span_cons h]
      exact ih
theorem gap_not (l : List UInt8) (h1 : clsAt l ≠ 1) (h2 : clsAt l ≠ 2) : gap l = 0 := by
  cases l with
  | nil => rfl
  | cons c r =>
    have hb : isBlank c = false := by rw [← cls_blank]; simpa [clsAt] using h1
    have hh : (c == 35) = false := by rw [← cls_hash]; simpa [clsAt] using h2
    simp only [gap, gapc, hb, hh, Bool.false_eq_true, if_false]
theorem gap_hash (l : List UInt8) (h2 : clsAt l = 2) : gap l = gapc true l := by
  cases l with
  | nil => cases h2
  | cons c r =>
    have hh : (c == 35) = true := by rw [← cls_hash]; simpa [clsAt] using h2
    obtain rfl : c = 35 := by simpa using hh
    show gapc false (35 :: r) = gapc true (35 :: r)
    rfl
theorem gapc_none (l : List UInt8) (h : Lib.indexByte l 10 < 0) : gapc true l = l.length := by
  induction l with
  | nil => rfl
  | cons c r ih =>
    unfold Lib.indexByte at h
    have hge := Lib.indexByte_ge r 10
    by_cases hc : (c == 10) = true
    · rw [if_pos hc] at h; omega
    · rw [if_neg hc] at h
      by_cases hr : (Lib.indexByte r 10 == -1) = true
      · have hr' : Lib.indexByte r 10 = -1 := by simpa using hr
        have := ih (by omega)
        simp only [gapc, hc, Bool.false_eq_true, if_false, this, List.length_cons]
      · rw [if_neg hr] at h
        have hr' : Lib.indexByte r 10 ≠ -1 := by simpa using hr
        omega
theorem gapc_some (l : List UInt8) (h : 0 ≤ Lib.indexByte l 10) : (Lib.indexByte l 10).toNat ≤ l.length ∧ gapc true l = (Lib.indexByte l 10).toNat + gap (l.drop (Lib.indexByte l 10).toNat) := by
  induction l with
  | nil => exact absurd h (by decide)
  | cons c r ih =>
    unfold Lib.indexByte at h ⊢
    have hge := Lib.indexByte_ge r 10
    by_cases hc : (c == 10) = true
    · rw [if_pos hc]
      obtain rfl : c = 10 := by simpa using hc
      refine ⟨Nat.zero_le _, ?_⟩
      show gapc true (10 :: r) = 0 + gapc false (10 :: r)
      simp [gapc, isBlank]
    · rw [if_neg hc] at h ⊢
      by_cases hr : (Lib.indexByte r 10 == -1) = true
      · rw [if_pos hr] at h; omega
      · rw [if_neg hr] at h ⊢
        have hr' : Lib.indexByte r 10 ≠ -1 := by simpa using hr
        have h0 : 0 ≤ Lib.indexByte r 10 := by omega
        obtain ⟨ih1, ih2⟩ := ih h0
        have e : (Lib.indexByte r 10 + 1).toNat = (Lib.indexByte r 10).toNat + 1 := by omega
        rw [e]
        refine ⟨by simpa using ih1, ?_⟩
        simp only [gapc, hc, Bool.false_eq_true, if_false, List.drop_succ_cons]
        omega
theorem hash_pos (l : List UInt8) (h : clsAt l = 2) : Lib.indexByte l 10 ≠ 0 := by
  cases l with
  | nil => cases h
  | cons c r =>
    have hh : (c == 35) = true := by rw [← cls_hash]; simpa [clsAt] using h
    obtain rfl : c = 35 := by simpa using hh
    have hge := Lib.indexByte_ge r 10
    unfold Lib.indexByte
    rw [if_neg (by decide)]
    split
    · omega
    · rename_i h2
      have h2' : Lib.indexByte r 10 ≠ -1 := by simpa using h2
      omega
end Lx

theorem among_blank : among [1] = Lx.isBlank := by
  funext c
  rw [← Lx.cls_blank]
  have h : ∀ n : Nat, ([1] : List Int).contains (n : Int) = (n == 1) := by
    intro n
    rw [Bool.eq_iff_iff]
    simp
    omega
  exact h _

/-- the cell of a slice of classes that was just made -/
theorem one_class (w : World) (bk : Nat) (hbk : bk = w.heap.size) (x : Int) (t : TypeId) : ∀ j, j < [x].length → (w.alloc (.cells #[.int .i64 x] t)).cell? ⟨bk, 0 + j, none⟩ = some (.int .i64 ([x].getD j 0)) := by
  intro j hj
  subst hbk
  obtain rfl : j = 0 := by simpa using hj
  simp [World.cell?_alloc_at]

set_option maxHeartbeats 1000000 in
theorem gap_any (b : Nat) (s : ByteArray) (i : Int) (w : World) (hs : s.size ≤ 4611686018427387904) (hi0 : 0 ≤ i) (hi : i ≤ s.size) (hb : b < w.heap.size) (h : Scan w b s) :
    Calls Tryz.prog 40 #[.pointer (some ⟨b, 0, none⟩), .int .i64 i] w fun e w' =>
      e = .returned (.int .i64 (i.toNat + Lx.gap (s.data.toList.drop i.toNat) : Nat)) ∧ Below w.heap.size w w' := by
  obtain ⟨i, rfl⟩ := Int.eq_ofNat_of_zero_le hi0
  rw [Int.toNat_natCast]
  have hi' : i ≤ s.size := by omega
  clear hi hi0
  go_enter Tryz.func40, Tryz.ntmps40
  go_wp2_with fail
  refine (while_any b s i _ 1 1 [1] _ hs hi' (by exact h.below ((Below.refl w.heap.size w).alloc (Nat.le_refl _) _) hb) rfl (by omega) (by omega) (by exact one_class w _ rfl 1 _)).mono ?_
  rintro e w' ⟨rfl, m, rfl⟩
  rw [among_blank]
  have hg := Lx.gap_blank (s.data.toList.drop i)
  have hst := Lx.blank_stop (s.data.toList.drop i)
  have hle := span_le Lx.isBlank (s.data.toList.drop i)
  rw [List.drop_drop] at hg hst
  rw [List.length_drop, ← size_list] at hle
  have HG := Lib.hid hg
  have HST := Lib.hid hst
  clear hg hst
  generalize Lx.span Lx.isBlank (s.data.toList.drop i) = n0 at *
  have hb0 : Below w.heap.size w ((w.alloc (.cells #[.int .i64 1] 3)).drewN m) := belN ((Below.refl w.heap.size w).alloc (Nat.le_refl _) _) m
  go_wp2
  go_loopw [1, 5] (fun v _ wr => ∃ k : Nat, k ≤ s.size ∧ v = .int .i64 k ∧ Below w.heap.size w wr ∧ i + Lx.gap (s.data.toList.drop i) = k + Lx.gap (s.data.toList.drop k) ∧ Lx.clsAt (s.data.toList.drop k) ≠ 1) (fun v _ _ => s.size - (intOf v).toNat)
  case atStart => exact ⟨i + n0, by omega, by go_num, hb0, by rw [HG.out]; omega, HST.out⟩
  case round =>
    obtain ⟨k, hk, rfl, hbr, hrest, hst⟩ := hrel
    clear HG HST hb0
    have HR := Lib.hid hrest; clear hrest
    have HST := Lib.hid hst; clear hst
    have hSr := h.below hbr hb
    have hsz := hbr.size
    go_wp2_with fail
    refine (at_any b s k _ (by omega) (by omega) hSr).mono ?_
    rintro e w' ⟨rfl, m1, rfl⟩
    rw [Int.toNat_natCast]
    by_cases hc : Lx.clsAt (s.data.toList.drop k) = 2
    · rw [hc]
      have hlt : k < s.size := by
        rcases Nat.lt_or_ge k s.size with hlt | hge
        · exact hlt
        · rw [List.drop_eq_nil_of_le (by rw [← size_list]; exact hge)] at hc; cases hc
      have h0 := hSr.text
      have HGH := Lib.hid (Lx.gap_hash _ hc)
      have hpos := Lx.hash_pos _ hc
      have HC := Lib.hid hc; clear hc
      go_wp2_with fail
      refine (Tryz.strings_IndexByte _ _ _).mono ?_
      rintro e w' ⟨rfl, rfl⟩
      have hdl : (s.extract k s.size).data.toList = s.data.toList.drop k := by
        rw [extract_bs, bs_list]
        exact List.take_of_length_le (by rw [List.length_drop, ← size_list]; omega)
      rw [hdl]
      clear hdl
      have h10 : (Int.toNat 10).toUInt8 = 10 := rfl
      rw [h10]
      clear h10
      have hge := Lib.indexByte_ge (s.data.toList.drop k) 10
      by_cases hneg : Lib.indexByte (s.data.toList.drop k) 10 < 0
      · have hnone := Lib.hid (Lx.gapc_none _ hneg)
        generalize Lib.indexByte (s.data.toList.drop k) 10 = o at *
        go_wp2
        go_ret
        refine ⟨?_, belN hbr _⟩
        rw [HR.out, HGH.out, hnone.out, List.length_drop, ← size_list]
        exact ret_int (by omega)
      · have hs2 := Lx.gapc_some (s.data.toList.drop k) (by omega)
        obtain ⟨hs2, hs3⟩ := hs2
        rw [List.length_drop, ← size_list] at hs2
        rw [List.drop_drop] at hs3
        have HS3 := Lib.hid hs3; clear hs3
        generalize Lib.indexByte (s.data.toList.drop k) 10 = o at *
        obtain ⟨q, rfl⟩ := Int.eq_ofNat_of_zero_le (show 0 ≤ o by omega)
        have hq : q ≤ s.size - k := by simpa using hs2
        have hq1 : 1 ≤ q := by omega
        have hq2 : Lx.gapc true (s.data.toList.drop k) = q + Lx.gap (s.data.toList.drop (k + q)) := HS3.out
        have HQ2 := Lib.hid hq2
        clear HS3 hq2 hs2 hge hneg hpos
        go_wp2_with fail
        have hkq : (k : Int) + q = ((k + q : Nat) : Int) := by omega
        rw [hkq]
        clear hkq
        refine (while_any b s (k + q) _ 1 1 [1] _ hs (by omega) (by exact (hSr.drewN _).below ((Below.refl _ _).alloc (Nat.le_refl _) _) (by simp; omega)) rfl (by omega) (by omega) (by exact one_class (wr.drewN m1) _ rfl 1 _)).mono ?_
        rintro e w' ⟨rfl, m2, rfl⟩
        rw [among_blank]
        have hg := Lx.gap_blank (s.data.toList.drop (k + q))
        have hst := Lx.blank_stop (s.data.toList.drop (k + q))
        have hle := span_le Lx.isBlank (s.data.toList.drop (k + q))
        rw [List.drop_drop] at hg hst
        rw [List.length_drop, ← size_list] at hle
        have HG := Lib.hid hg
        have HST := Lib.hid hst
        clear hg hst
        generalize Lx.span Lx.isBlank (s.data.toList.drop (k + q)) = n1 at *
        go_wp2
        go_roundw
        case rel =>
          refine ⟨k + q + n1, by omega, by go_num, ?_, ?_, HST.out⟩
          · exact belN ((belN hbr m1).alloc (by simpa using hsz) _) m2
          · rw [HR.out, HGH.out, HQ2.out, HG.out]
            omega
        case measure => simp [intOf]; omega
    · have hg0 := Lib.hid (Lx.gap_not _ HST.out hc)
      have hcn : ((Lx.clsAt (s.data.toList.drop k) : Int) == 2) = false := by
        rw [beq_eq_false_iff_ne]
        omega
      clear hc
      generalize Lx.clsAt (s.data.toList.drop k) = cc at *
      go_wp2
      go_ret
      refine ⟨?_, belN hbr _⟩
      rw [HR.out, hg0.out]
      rfl
end Go.Proofs.YtldnfdghkdibmaaGreatDoor

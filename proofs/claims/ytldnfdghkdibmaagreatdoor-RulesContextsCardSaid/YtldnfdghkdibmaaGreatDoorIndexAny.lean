/-
  strings.IndexAny at every text, where the characters are two ASCII bytes: the library's contract wants a text of ASCII bytes.
-/
import Derived.Test.YtldnfdghkdibmaaGreatDoorWalkBase
import Derived.Laws.Runes
import Derived.Laws.RangeAny
import Derived.Lib.OthersKept
namespace Go.Proofs.YtldnfdghkdibmaaGreatDoor
open Go.RowKit

set_option maxRecDepth 100000 in
set_option maxHeartbeats 1000000 in
theorem indexRune_error (s : ByteArray) (hs : s.size = 2) (w : World) (ha : ∀ (j : Nat) (h : j < s.size), (s[j]'h).toNat < 128) :
    Calls Tryz.prog 101 #[.string s, .int .i32 65533] w fun e w' => e = .returned (.int .i64 (-1)) ∧ Below w.heap.size w w' := by
  have HS := Lib.hid hs
  have HA := Lib.hid ha; clear ha
  have hs2 : s.size ≤ 2 := by omega
  clear hs
  go_enter Tryz.func101, Tryz.ntmps101
  go_wp2
  go_loopg [5, 6] 2 (fun g _ _ wx => ∃ i : Nat, i + g = 2 ∧ wx = w.iter s i)
  case atStart => exact ⟨0, rfl, rfl⟩
  case round =>
    obtain ⟨i, hig, rfl⟩ := hrel
    cases gk with
    | zero =>
      have hnx := fun ty => run_next_end (P := Tryz.prog) w s i ty (by rw [HS.out]; omega)
      go_wp2
      go_ret
      exact ⟨rfl, (Below.refl _ _).alloc (Nat.le_refl _) _⟩
    | succ g =>
      have hi : i < s.size := by rw [HS.out]; omega
      have hx128 := HA.out i hi
      have hnx := fun ty => run_next_ascii (P := Tryz.prog) w s i ty hi hx128
      generalize s[i] = x at *
      have hne : ((x.toNat : Int) == 65533) = false := by rw [beq_eq_false_iff_ne]; omega
      go_wp2
      go_roundg g
      case measure => omega
      case rel => exact ⟨i + 1, by omega, rfl⟩

set_option maxRecDepth 100000 in
set_option maxHeartbeats 1000000 in
theorem indexRune_high (s : ByteArray) (hs : s.size = 2) (r : Int) (w : World) (ha : ∀ (j : Nat) (h : j < s.size), (s[j]'h).toNat < 128) (h1 : 128 ≤ r) (h2 : Utf8.valid r = true) (h3 : r ≠ 65533) :
    Calls Tryz.prog 101 #[.string s, .int .i32 r] w fun e w' => e = .returned (.int .i64 (-1)) ∧ Below w.heap.size w w' := by
  have HS := Lib.hid hs
  have HA := Lib.hid ha; clear ha
  have hs2 : s.size ≤ 2 := by omega
  have hs3 : 2 ≤ s.size := by omega
  clear hs
  obtain ⟨e1, e2, e3⟩ := encode_facts r h2 h1
  have hlt0 : ¬ r < 128 := by omega
  have hnr : (r == 65533) = false := by rw [beq_eq_false_iff_ne]; exact h3
  have hvr : Lib.validRune r = true := by
    have e := validRune_eq r
    rw [h2] at e
    exact e.symm
  clear h2
  go_enter Tryz.func101, Tryz.ntmps101
  go_wp2_with (first | (go_at_call 131; refine (Tryz.utf8_ValidRune _ _).mono ?_; rintro e w' ⟨rfl, rfl⟩))
  go_step3
  go_wp2
  generalize Utf8.encode r = rs at *
  obtain ⟨i, hi⟩ : ∃ i, rs.size = i + 1 := ⟨rs.size - 1, by omega⟩
  have ei : (rs.size : Int) - 1 = (i : Int) := by omega
  rw [ei]
  clear ei
  have hir : i < rs.size := by omega
  have e4 : 128 ≤ (rs[i]'hir).toNat := by
    have e5 : rs.size - 1 = i := by omega
    simp only [e5] at e3
    exact e3 hir
  clear e3
  have hi1 : 1 ≤ i := by omega
  have HI := Lib.hid hi; clear hi
  refine wp_loop_rounds 1 ?_
  rw [rounds_succ]
  by_cases h2 : i < s.size
  · have hne : ((s[i].toNat : Int) != (rs[i].toNat : Int)) = true := by
      have a2 := HA.out i h2
      rw [bne_iff_ne]
      omega
    have hz : Lib.indexByte (List.take (s.size - (i + 1)) (List.drop (i + 1) s.data.toList)) rs[i] = -1 := by
      rw [List.drop_eq_nil_of_le (by rw [← Lib.size_eq]; omega), List.take_nil]
      rfl
    go_wp2
    go_step3
    go_wp2
    go_quiet (fail)
    go_wp2
    go_quiet ((go_at_call 74; exact quiet_add_same (Tryz.strings_IndexByte _ _ _)))
    go_wp2
    repeat (first | rw [Exit.noGoto_ret] | simp only [Exit.inBlock, Exit.then])
    go_ret
    exact ⟨rfl, belN (Below.refl _ _) _⟩
  · go_wp2
    repeat (first | rw [Exit.noGoto_ret] | simp only [Exit.inBlock, Exit.then])
    go_ret
    exact ⟨rfl, Below.refl _ _⟩

/-- every rune of 128 and more: no ASCII text has it -/
theorem indexRune_none (s : ByteArray) (hs : s.size = 2) (r : Int) (w : World) (ha : ∀ (j : Nat) (h : j < s.size), (s[j]'h).toNat < 128) (h : r = 65533 ∨ (128 ≤ r ∧ Utf8.valid r = true)) :
    Calls Tryz.prog 101 #[.string s, .int .i32 r] w fun e w' => e = .returned (.int .i64 (-1)) ∧ Below w.heap.size w w' := by
  by_cases h3 : r = 65533
  · subst h3; exact indexRune_error s hs w ha
  · rcases h with h | ⟨h1, h2⟩
    · exact absurd h h3
    · exact indexRune_high s hs r w ha h1 h2 h3

/-- what a rune of several bytes, or a wrong one, is -/
theorem decode_high (s : ByteArray) (i : Nat) (hi : i < s.size) (h : ¬ (s[i]'hi).toNat < 128) :
    1 ≤ (Utf8.decode s i).2 ∧ i + (Utf8.decode s i).2 ≤ s.size ∧ ((Utf8.decode s i).1 = 65533 ∨ (128 ≤ (Utf8.decode s i).1 ∧ Utf8.valid (Utf8.decode s i).1 = true)) ∧
      ∀ j (hj : j < s.size), i ≤ j → j < i + (Utf8.decode s i).2 → ¬ (s[j]'hj).toNat < 128 := by
  have e : ∀ k (hk : i + k < s.size), (s.get! (i + k)).toNat = (s[i + k]'hk).toNat := fun k hk => by
    have : s.get! (i + k) = s[i + k]'hk := by simp [ByteArray.get!, getElem!_pos, hk]; rfl
    rw [this]
  have e0 : (s.get! (i + 0)).toNat = (s[i]'hi).toNat := e 0 hi
  have hb : ∀ k, k < 4 → (decide (i + k < s.size) && (s.get! (i + k)).toNat / 64 == 2) = true → ∀ hj : i + k < s.size, ¬ (s[i + k]'hj).toNat < 128 := fun k _ hc hj => by
    rw [Bool.and_eq_true] at hc
    have h2 : (s.get! (i + k)).toNat / 64 = 2 := by simpa using hc.2
    rw [e k hj] at h2
    omega
  have hl : ∀ k, (decide (i + k < s.size) && (s.get! (i + k)).toNat / 64 == 2) = true → i + k < s.size := fun k hc => by
    rw [Bool.and_eq_true] at hc
    simpa using hc.1
  have one : ∀ j (hj : j < s.size), i ≤ j → j < i + 1 → ¬ (s[j]'hj).toNat < 128 := fun j hj h1 h2 => by
    obtain rfl : j = i := by omega
    exact h
  have l0 : (s[i]'hi).toNat < 256 := UInt8.toNat_lt _
  have l : ∀ k, (s.get! k).toNat < 256 := fun k => UInt8.toNat_lt _
  have l1 := l (i + 1)
  have l2 := l (i + 2)
  have l3 := l (i + 3)
  unfold Utf8.decode
  simp only [e0]
  rw [if_neg h]
  have bad : 1 ≤ 1 ∧ i + 1 ≤ s.size ∧ (Utf8.runeError = 65533 ∨ (128 ≤ Utf8.runeError ∧ Utf8.valid (Utf8.runeError : Nat) = true)) ∧ ∀ j (hj : j < s.size), i ≤ j → j < i + 1 → ¬ (s[j]'hj).toNat < 128 :=
    ⟨by omega, by omega, .inl rfl, one⟩
  split
  · rename_i h2
    rw [Bool.and_eq_true] at h2
    have c1 := h2.2
    split
    · refine ⟨by simp, by have := hl 1 c1; simp; omega, .inr ⟨by simp only []; omega, ?_⟩, ?_⟩
      · simp only [Utf8.valid]
        simp
        omega
      · intro j hj h3 h4
        by_cases hj0 : j = i
        · subst hj0; exact h
        · obtain rfl : j = i + 1 := by simp only [] at h4; omega
          exact hb 1 (by omega) c1 hj
    · exact bad
  · split
    · rename_i h2
      rw [Bool.and_eq_true, Bool.and_eq_true] at h2
      have c1 := h2.1.2
      have c2 := h2.2
      split
      · rename_i h5
        rw [Bool.and_eq_true] at h5
        have h6 : 2048 ≤ _ := of_decide_eq_true h5.1
        refine ⟨by simp, by have := hl 2 c2; simp; omega, .inr ⟨by simp only []; omega, by simpa using h5.2⟩, ?_⟩
        intro j hj h3 h4
        by_cases hj0 : j = i
        · subst hj0; exact h
        · by_cases hj1 : j = i + 1
          · subst hj1; exact hb 1 (by omega) c1 hj
          · obtain rfl : j = i + 2 := by simp only [] at h4; omega
            exact hb 2 (by omega) c2 hj
      · exact bad
    · split
      · rename_i h2
        rw [Bool.and_eq_true, Bool.and_eq_true, Bool.and_eq_true] at h2
        have c1 := h2.1.1.2
        have c2 := h2.1.2
        have c3 := h2.2
        split
        · rename_i h5
          rw [Bool.and_eq_true] at h5
          have h6 : 65536 ≤ _ := of_decide_eq_true h5.1
          refine ⟨by simp, by have := hl 3 c3; simp; omega, .inr ⟨by simp only []; omega, by simpa using h5.2⟩, ?_⟩
          intro j hj h3 h4
          by_cases hj0 : j = i
          · subst hj0; exact h
          · by_cases hj1 : j = i + 1
            · subst hj1; exact hb 1 (by omega) c1 hj
            · by_cases hj2 : j = i + 2
              · subst hj2; exact hb 2 (by omega) c2 hj
              · obtain rfl : j = i + 3 := by simp only [] at h4; omega
                exact hb 3 (by omega) c3 hj
        · exact bad
      · exact bad
set_option maxRecDepth 100000 in
set_option maxHeartbeats 1000000 in
theorem indexAny_short (s chars : ByteArray) (hc : chars.size = 2) (w : World) (h8 : s.size ≤ 8) (hac : ∀ (j : Nat) (h : j < chars.size), (chars[j]'h).toNat < 128) :
    Calls Tryz.prog 76 #[.string s, .string chars] w fun e w' => e = .returned (.int .i64 (Lib.indexAny s.data.toList chars.data.toList)) ∧ Below w.heap.size w w' := by
  have hemp : chars.toList.isEmpty = false := by
    rw [Lib.toList_data]
    cases h : chars.data.toList with
    | nil => have := Lib.size_eq chars; rw [h, List.length_nil] at this; omega
    | cons _ _ => rfl
  have hcon : ∀ x : UInt8, ¬ x.toNat < 128 → chars.data.toList.contains x = false := fun x hx => by
    rw [List.contains_eq_any_beq, List.any_eq_false]
    intro y hy
    obtain ⟨j, hj, rfl⟩ := List.mem_iff_getElem.1 hy
    have hj' : j < chars.size := by rw [size_list]; exact hj
    have h1 := hac j hj'
    have h2 := get_list chars j hj'
    rw [List.getElem?_eq_getElem hj] at h2
    injection h2 with h2
    intro he
    have he' : x = chars.data.toList[j] := by simpa using he
    rw [he', h2] at hx
    exact hx h1
  have HCON := Lib.hid hcon; clear hcon
  have HAC := Lib.hid hac; clear hac
  have hn1 : ((chars.size : Int) == 1) = false := beq_eq_false_iff_ne.2 (by omega)
  have HC := Lib.hid hc; clear hc
  have h8z : decide ((8 : Int) < (s.size : Int)) = false := decide_eq_false (by omega)
  have hg0 : (w.iter s 0).heap[w.heap.size]? = some (.stringIter s 0) := World.iter_heap w s 0
  have hb0 : Below w.heap.size w (w.iter s 0) := (Below.refl _ _).alloc (Nat.le_refl _) _
  have hz0 : w.heap.size < (w.iter s 0).heap.size := by show w.heap.size < (w.heap.push _).size; simp
  go_enter Tryz.func76, Tryz.ntmps76
  go_wp2_with (go_at_call 102; refine (Tryz.strings_shouldUseASCIISet _ _).mono ?_; rintro e w' ⟨rfl, rfl⟩; rw [h8z])
  go_loopg [9, 10] s.size (fun g _ _ wx => ∃ i : Nat, i + g = s.size ∧ wx.heap[w'.heap.size]? = some (.stringIter s i) ∧ Below w'.heap.size w' wx ∧ w'.heap.size < wx.heap.size ∧ Lib.NoAny s.data.toList chars.data.toList i)
  case atStart => exact ⟨0, by omega, hg0, hb0, hz0, Lib.NoAny.zero _ _⟩
  case round =>
    obtain ⟨i, hig, hit, hbx, hlt, hno⟩ := hrel
    clear hg0 hb0 hz0
    have HN := Lib.hid hno
    clear hno
    have HB := Lib.hid hbx
    clear hbx
    by_cases hi : i < s.size
    · have hnx := fun ty => Lib.run_next_any_at (P := Tryz.prog) wr w'.heap.size s i ty hit hi
      have hdle := decode_le s i
      have hxl : s.data.toList[i]? = some s[i] := get_list s i hi
      by_cases ha : s[i].toNat < 128
      · rw [decode_ascii s i hi ha] at hnx hdle
        simp only [] at hnx
        have Hx := Lib.hid hxl; clear hxl
        have HIT := Lib.hid hit; clear hit
        generalize s[i] = x at *
        have hcn := Lib.contains_iff_indexByte chars.data.toList x
        have hback : ((x.toNat : Int)).toNat.toUInt8 = x := by simp
        cases hin : chars.data.toList.contains x
        · rw [hin] at hcn
          have hlt2 : ¬ ((0 : Int) ≤ Lib.indexByte chars.data.toList x) := of_decide_eq_false hcn.symm
          clear hcn
          have HIN := Lib.hid hin; clear hin
          go_wp2_with (go_at_call 101; refine (Tryz.strings_IndexRune_ascii _ _ _ (by omega) (by omega)).mono ?_; rintro e w' ⟨rfl, hw⟩; rw [hw, hback])
          go_roundg (s.size - (i + 1))
          case measure => omega
          case rel => exact ⟨i + 1, by omega, Lib.iterAt_heap _ _ _ _ _ HIT.out, Lib.below_iterAt HB.out (Nat.le_refl _) _ _, by rw [Lib.iterAt_size]; exact hlt, HN.out.succ Hx.out HIN.out⟩
        · rw [hin] at hcn
          have hge : (0 : Int) ≤ Lib.indexByte chars.data.toList x := of_decide_eq_true hcn.symm
          clear hcn
          have HIN := Lib.hid hin; clear hin
          go_wp2_with (go_at_call 101; refine (Tryz.strings_IndexRune_ascii _ _ _ (by omega) (by omega)).mono ?_; rintro e w' ⟨rfl, hw⟩; rw [hw, hback])
          go_ret
          exact ⟨by rw [Lib.indexAny_hit HN.out Hx.out HIN.out]; rfl, Lib.below_iterAt HB.out (Nat.le_refl _) _ _⟩
      · obtain ⟨d1, d2, d3, d4⟩ := decode_high s i hi ha
        have hall : Lib.NoAny s.data.toList chars.data.toList (i + (Utf8.decode s i).2) := by
          intro j b hj hb
          by_cases hji : j < i
          · exact HN.out j b hji hb
          · have hjs : j < s.size := by
              rw [Lib.size_eq]
              rcases Nat.lt_or_ge j s.data.toList.length with hjl | hjl
              · exact hjl
              · rw [List.getElem?_eq_none hjl] at hb; cases hb
            rw [get_list s j hjs] at hb
            injection hb with hb
            rw [← hb]
            exact HCON.out _ (d4 j hjs (by omega) hj)
        have HALL := Lib.hid hall
        clear hall d4 ha hxl
        have HD3 := Lib.hid d3; clear d3
        have HIT := Lib.hid hit; clear hit
        generalize Utf8.decode s i = dc at *
        obtain ⟨r, n⟩ := dc
        simp only [] at hnx d1 d2 hdle
        have hr3 : (r : Int) = 65533 ∨ (128 ≤ (r : Int) ∧ Utf8.valid r = true) := by
          rcases HD3.out with h | h
          · left; simp only [] at h; omega
          · right; simp only [] at h; exact ⟨by omega, h.2⟩
        have HR3 := Lib.hid hr3
        clear hr3
        go_wp2_with fail
        refine (indexRune_none chars HC.out r _ HAC.out HR3.out).mono ?_
        rintro e w2 ⟨rfl, hb2⟩
        have HB2 := Lib.hid hb2; clear hb2
        go_wp2
        go_roundg (s.size - (i + n))
        case measure => omega
        case rel =>
          have hz2 := HB2.out.size
          rw [Lib.iterAt_size] at hz2
          refine ⟨i + n, by omega, ?_, ?_, by omega, HALL.out⟩
          · rw [HB2.out.block _ (by rw [Lib.iterAt_size]; exact hlt)]
            exact Lib.iterAt_heap _ _ _ _ _ HIT.out
          · exact (Lib.below_iterAt HB.out (Nat.le_refl _) _ _).trans (HB2.out.mono (by rw [Lib.iterAt_size]; omega))
    · have hnx := fun ty => Lib.run_next_end_at (P := Tryz.prog) wr w'.heap.size s i ty hit hi
      have hii : i = s.data.toList.length := by rw [← Lib.size_eq]; omega
      have HI := Lib.hid hii
      clear hii
      have HIT := Lib.hid hit
      clear hit
      go_wp2
      go_ret
      exact ⟨by rw [Lib.indexAny_none (by rw [← HI.out]; exact HN.out)]; rfl, HB.out⟩

theorem zero_ascii : ∀ w, (zeroValue 147).run Tryz.prog w = .ok (.agg (Array.replicate 256 (.bool false))) w := fun _ => by kernel_rfl

/-- strings.IndexAny at a quote and a line feed, at every text -/
theorem indexAny_quote (s : ByteArray) (w : World) (hs : s.size < 4294967281) :
    Calls Tryz.prog 76 #[.string s, .string { data := #[34, 10] }] w fun e w' => e = .returned (.int .i64 (Lib.indexAny s.data.toList [34, 10])) ∧ Below w.heap.size w w' := by
  have ha : ∀ (j : Nat) (h : j < (⟨#[34, 10]⟩ : ByteArray).size), ((⟨#[34, 10]⟩ : ByteArray)[j]'h).toNat < 128 := by
    intro j h
    have h2 : (⟨#[34, 10]⟩ : ByteArray).size = 2 := rfl
    rw [h2] at h
    match j, h with
    | 0, _ => show (34 : UInt8).toNat < 128; decide
    | 1, _ => show (10 : UInt8).toNat < 128; decide
  by_cases h8 : s.size ≤ 8
  · exact indexAny_short s ⟨#[34, 10]⟩ rfl w h8 ha
  · refine (Tryz.strings_IndexAny_long zero_ascii s ⟨#[34, 10]⟩ w (Nat.le_refl 2) (by omega) hs (by show 2 < 4294967281; omega) ?_).mono ?_
    · intro j b hb
      have h2 : j < 2 := by
        rcases Nat.lt_or_ge j 2 with h | h
        · exact h
        · rw [List.getElem?_eq_none (by simpa using h)] at hb; cases hb
      have hb' : ([34, 10] : List UInt8)[j]? = some b := hb
      match j, h2 with
      | 0, _ => injection hb' with hb'; subst hb'; decide
      | 1, _ => injection hb' with hb'; subst hb'; decide
    · rintro e w' ⟨rfl, rfl⟩
      exact ⟨rfl, ((Below.refl _ _).alloc (Nat.le_refl _) _).alloc (by simp) _⟩
end Go.Proofs.YtldnfdghkdibmaaGreatDoor

/-
  The lexer's scanner: what 'next' returns, the remaining classes; and at every offset before the text's end.
-/
import Derived.Test.YtldnfdghkdibmaaGreatDoorLexNext
namespace Go.Proofs.YtldnfdghkdibmaaGreatDoor
open Go.RowKit
attribute [local go_sem] alloc_drewN setCell_drewN setRow_drewN

theorem info_token : (Tryz.prog.info? 45).map (·.size) = some 4 := by kernel_rfl

/-- the block of a token's result, with its facts -/
theorem tok_block (w : World) (m : Nat) (w3 : World) (hb3 : Below (((w.alloc (.cells #[.int .i64 0, .int .i64 0, .int .i64 0, .string { data := #[] }] 45)).drewN m).heap.size) ((w.alloc (.cells #[.int .i64 0, .int .i64 0, .int .i64 0, .string { data := #[] }] 45)).drewN m) w3) :
    Below w.heap.size w w3 ∧ Blk w3 w.heap.size 45 #[.int .i64 0, .int .i64 0, .int .i64 0, .string { data := #[] }] :=
  ⟨bel_trans (bel_drewN (bel_alloc (bel_refl w) _) _) hb3, ((Blk.new w _ _).drewN _).bel hb3⟩

set_option maxRecDepth 100000 in
set_option maxHeartbeats 2000000 in
theorem next_quote (b : Nat) (s : ByteArray) (i : Nat) (w : World) (hs : s.size ≤ 20000) (hi : i < s.size) (hb : b < w.heap.size) (h : Scan w b s) (hc : Lx.cls s[i] = 6) :
    Calls Tryz.prog 41 #[.pointer (some ⟨b, 0, none⟩), .int .i64 i] w fun e w' =>
      e = .returned (.tuple #[(Lx.scan (s.data.toList.drop i)).out i, .int .i64 ((Lx.scan (s.data.toList.drop i)).fin i), .int .i64 (Lx.scan (s.data.toList.drop i)).err]) ∧ Below w.heap.size w w' := by
  have hsc := Lx.scan_quote s[i] (s.data.toList.drop (i + 1)) hc
  have hd := drop_get s i hi
  rw [← hd] at hsc
  have hc0 : Lx.clsAt (s.data.toList.drop i) = 6 := by rw [hd]; exact hc
  have HC := Lib.hid hc0
  clear hc hc0 hd
  have h0 := h.text
  obtain ⟨R, hR⟩ : ∃ R, s.extract (i + 1) s.size = R := ⟨_, rfl⟩
  have hRl : R.data.toList = s.data.toList.drop (i + 1) := by
    rw [← hR, Lib.extract_data]
    exact List.take_of_length_le (by rw [List.length_drop, ← size_list]; exact Nat.le_refl _)
  have hRs : R.size = s.size - (i + 1) := by rw [size_list, hRl, List.length_drop, ← size_list]
  have hRs' : R.size ≤ 20000 := by omega
  rw [← hRl] at hsc
  have HSC := Lib.hid hsc; clear hsc
  have HRS := Lib.hid hRs; clear hRs
  obtain ⟨hin1, hin2⟩ := Lx.indexAny_in R.data.toList
  have HIN1 := Lib.hid hin1
  have HIN2 := Lib.hid hin2
  clear hin1 hin2 hRl
  have hge := Lib.indexAny_ge [34, 10] R.data.toList
  go_enter Tryz.func41, Tryz.ntmps41
  go_wp2_with fail
  refine (at_any b s i _ (by omega) (by omega) (by exact h.alloc hb _)).mono ?_
  rintro e w' ⟨rfl, m1, rfl⟩
  rw [Int.toNat_natCast, HC.out]
  go_wp2_with fail
  refine (indexAny_quote R _ (by omega)).mono ?_
  rintro e w3 ⟨rfl, hb3⟩
  have hS3 : Scan w3 b s := ((h.alloc hb _).drewN _).below hb3 (by simp; omega)
  obtain ⟨hbelow, hblk⟩ := tok_block w m1 w3 hb3
  have t0 := hS3.text
  have k0 := hblk.cell 0
  have k1 := hblk.cell 1
  have k2 := hblk.cell 2
  have k3 := hblk.cell 3
  have f0 := hblk.frozen 0
  have f1 := hblk.frozen 1
  have f2 := hblk.frozen 2
  have f3 := hblk.frozen 3
  have HB := Lib.hid hbelow
  have HBLK := Lib.hid hblk
  clear hb3 hbelow hblk hS3
  by_cases hneg : Lib.indexAny R.data.toList [34, 10] < 0
  · have hh := HIN1.out hneg
    have hsb : Lx.scan (s.data.toList.drop i) = Lx.bad 6 := by rw [HSC.out, hh]; rfl
    have HSB := Lib.hid hsb
    clear hsb hh HSC HIN1 HIN2
    generalize Lib.indexAny R.data.toList [34, 10] = o at *
    go_wp2
    refine bodyPost_ret (results_cell_two rfl _ _ w.heap.size 45 _ _ rfl ((((HBLK.out.set_ 0 _).set_ 1 _).set_ 2 _).set_ 3 _) Tryz.underlying45 rfl (by kernel_rfl)) rfl ⟨?_, ?_⟩
    · rw [HSB.out]; rfl
    · exact bel_set (bel_set (bel_set (bel_set HB.out (Nat.le_refl _) _) (Nat.le_refl _) _) (Nat.le_refl _) _) (Nat.le_refl _) _
  · obtain ⟨p1, p2, p3⟩ := HIN2.out (by omega)
    rw [← size_list] at p2
    have HSC' := HSC.out
    generalize Lib.indexAny R.data.toList [34, 10] = o at *
    obtain ⟨q, rfl⟩ := Int.eq_ofNat_of_zero_le (show 0 ≤ o by omega)
    have p1' : Lx.span Lx.inText R.data.toList = q := by simpa using p1
    rw [p1'] at p2 p3 HSC'
    have hget := get_list R q p2
    rw [hget] at p3
    have hhd : (R.data.toList.drop q).head? = some R[q] := by rw [List.head?_drop, hget]
    rw [hhd] at HSC'
    have HX := extract_bs R 0 q
    rw [Nat.sub_zero, List.drop_zero] at HX
    clear p1 p1' HIN1 HIN2 hget hhd HSC
    by_cases h10 : R[q] = 10
    · have hsb : Lx.scan (s.data.toList.drop i) = Lx.bad 6 := by rw [HSC', h10]; rfl
      have HSB := Lib.hid hsb
      have h10' : ((R[q].toNat : Int) == 10) = true := by rw [h10]; rfl
      clear hsb HSC' h10 p3
      go_wp2
      refine bodyPost_ret (results_cell_two rfl _ _ w.heap.size 45 _ _ rfl ((((HBLK.out.set_ 0 _).set_ 1 _).set_ 2 _).set_ 3 _) Tryz.underlying45 rfl (by kernel_rfl)) rfl ⟨?_, ?_⟩
      · rw [HSB.out]; rfl
      · exact bel_set (bel_set (bel_set (bel_set HB.out (Nat.le_refl _) _) (Nat.le_refl _) _) (Nat.le_refl _) _) (Nat.le_refl _) _
    · have h34 : R[q] = 34 := by
        rcases p3 with h | h
        · injection h
        · injection h with h; exact absurd h h10
      have h10' : ((R[q].toNat : Int) == 10) = false := by rw [h34]; rfl
      rw [h34] at HSC'
      rw [if_pos (beq_self_eq_true _)] at HSC'
      have HSC := Lib.hid HSC'
      have HX' := Lib.hid HX
      clear HSC' h10 p3 h34
      by_cases h4 : 400 < q
      · have hsb : Lx.scan (s.data.toList.drop i) = Lx.bad 2 := by rw [HSC.out, if_pos h4]
        have HSB := Lib.hid hsb
        clear hsb HSC
        go_wp2
        refine bodyPost_ret (results_cell_two rfl _ _ w.heap.size 45 _ _ rfl ((((HBLK.out.set_ 0 _).set_ 1 _).set_ 2 _).set_ 3 _) Tryz.underlying45 rfl (by kernel_rfl)) rfl ⟨?_, ?_⟩
        · rw [HSB.out]; rfl
        · exact bel_set (bel_set (bel_set (bel_set HB.out (Nat.le_refl _) _) (Nat.le_refl _) _) (Nat.le_refl _) _) (Nat.le_refl _) _
      · have hsb : Lx.scan (s.data.toList.drop i) = ⟨0, 3, 0, R.data.toList.take q, q + 2⟩ := by rw [HSC.out, if_neg h4]
        have HSB := Lib.hid hsb
        clear hsb HSC
        go_wp2
        refine bodyPost_ret (results_cell_two rfl _ _ w.heap.size 45 _ _ rfl ((((HBLK.out.set_ 0 _).set_ 1 _).set_ 2 _).set_ 3 _) Tryz.underlying45 rfl (by kernel_rfl)) rfl ⟨?_, ?_⟩
        · rw [HSB.out]
          simp only [Lx.Sc.out, Lx.Sc.fin, if_true]
          rw [← Nat.add_assoc]
          rfl
        · exact bel_set (bel_set (bel_set (bel_set HB.out (Nat.le_refl _) _) (Nat.le_refl _) _) (Nat.le_refl _) _) (Nat.le_refl _) _

set_option maxRecDepth 100000 in
set_option maxHeartbeats 2000000 in
theorem next_mark (b : Nat) (s : ByteArray) (i : Nat) (w : World) (hs : s.size ≤ 20000) (hi : i < s.size) (hb : b < w.heap.size) (h : Scan w b s) (hc : Lx.cls s[i] = 7) :
    Calls Tryz.prog 41 #[.pointer (some ⟨b, 0, none⟩), .int .i64 i] w fun e w' =>
      e = .returned (.tuple #[(Lx.scan (s.data.toList.drop i)).out i, .int .i64 ((Lx.scan (s.data.toList.drop i)).fin i), .int .i64 (Lx.scan (s.data.toList.drop i)).err]) ∧ Below w.heap.size w w' := by
  have hsc := Lx.scan_mark s[i] (s.data.toList.drop (i + 1)) hc
  have hd := drop_get s i hi
  rw [← hd] at hsc
  have hc0 : Lx.clsAt (s.data.toList.drop i) = 7 := by rw [hd]; exact hc
  have HC := Lib.hid hc0
  have h0 := h.text
  obtain ⟨R, hR⟩ : ∃ R, s.extract (i + 1) s.size = R := ⟨_, rfl⟩
  have hRl : R.data.toList = s.data.toList.drop (i + 1) := by
    rw [← hR, Lib.extract_data]
    exact List.take_of_length_le (by rw [List.length_drop, ← size_list]; exact Nat.le_refl _)
  have hpre : Lib.hasPrefix R.data.toList [61] = ((s.data.toList.drop (i + 1)).head? == some 61) := by
    rw [hRl]
    cases s.data.toList.drop (i + 1) with
    | nil => rfl
    | cons c r =>
      simp only [Lib.hasPrefix, List.isPrefixOf, List.head?_cons, Bool.and_true]
      rw [Bool.eq_iff_iff]
      simp
      exact eq_comm
  have HPRE := Lib.hid hpre
  clear hpre
  rcases Bool.eq_false_or_eq_true ((s.data.toList.drop (i + 1)).head? == some 61) with hq | hq
  · have hlt : i + 1 < s.size := by
      rcases Nat.lt_or_ge (i + 1) s.size with h1 | h1
      · exact h1
      · rw [List.drop_eq_nil_of_le (by rw [← size_list]; exact h1)] at hq; cases hq
    have hxt : s.extract i (i + 2) = bs [s[i], 61] := by
      rw [extract_bs, show i + 2 - i = 2 from by omega, hd]
      have h2 := drop_get s (i + 1) hlt
      rw [h2] at hq ⊢
      have h3 : s[i + 1] = 61 := by simpa using hq
      rw [h3]
      rfl
    rw [if_pos hq] at hsc
    have HSC := Lib.hid hsc
    have HXT := Lib.hid hxt
    clear hsc hd hc hRl hc0
    go_enter Tryz.func41, Tryz.ntmps41
    go_wp2_with fail
    refine (at_any b s i _ (by omega) (by omega) (by exact h.alloc hb _)).mono ?_
    rintro e w' ⟨rfl, m1, rfl⟩
    rw [Int.toNat_natCast, HC.out]
    go_wp2_with fail
    refine (Tryz.strings_HasPrefix R _ _).mono ?_
    rintro e w' ⟨rfl, rfl⟩
    rw [show (({ data := #[61] } : ByteArray).data.toList) = [61] from rfl, HPRE.out]
    rw [hq]
    clear hq
    go_wp2
    refine bodyPost_ret (results_cell_two rfl _ _ w.heap.size 45 _ _ rfl (by exact (Blk.new w _ _).drewN _) Tryz.underlying45 rfl (by kernel_rfl)) rfl ⟨?_, ?_⟩
    · rw [HSC.out, HXT.out]; rfl
    · exact bel_drewN (bel_alloc (bel_refl w) _) _
  · rw [if_neg (by rw [hq]; decide)] at hsc
    have HSC := Lib.hid hsc
    clear hsc hd hc hRl hc0
    go_enter Tryz.func41, Tryz.ntmps41
    go_wp2_with fail
    refine (at_any b s i _ (by omega) (by omega) (by exact h.alloc hb _)).mono ?_
    rintro e w' ⟨rfl, m1, rfl⟩
    rw [Int.toNat_natCast, HC.out]
    go_wp2_with fail
    refine (Tryz.strings_HasPrefix R _ _).mono ?_
    rintro e w' ⟨rfl, rfl⟩
    rw [show (({ data := #[61] } : ByteArray).data.toList) = [61] from rfl, HPRE.out]
    rw [hq]
    clear hq
    go_wp2
    refine bodyPost_ret (results_cell_two rfl _ _ w.heap.size 45 _ _ rfl (by exact (Blk.new w _ _).drewN _) Tryz.underlying45 rfl (by kernel_rfl)) rfl ⟨?_, ?_⟩
    · rw [HSC.out]; rfl
    · exact bel_drewN (bel_alloc (bel_refl w) _) _

set_option maxRecDepth 100000 in
set_option maxHeartbeats 2000000 in
theorem next_angle (b : Nat) (s : ByteArray) (i : Nat) (w : World) (hs : s.size ≤ 20000) (hi : i < s.size) (hb : b < w.heap.size) (h : Scan w b s) (hc : Lx.cls s[i] = 8) :
    Calls Tryz.prog 41 #[.pointer (some ⟨b, 0, none⟩), .int .i64 i] w fun e w' =>
      e = .returned (.tuple #[(Lx.scan (s.data.toList.drop i)).out i, .int .i64 ((Lx.scan (s.data.toList.drop i)).fin i), .int .i64 (Lx.scan (s.data.toList.drop i)).err]) ∧ Below w.heap.size w w' := by
  have hsc := Lx.scan_angle s[i] (s.data.toList.drop (i + 1)) hc
  have hd := drop_get s i hi
  rw [← hd] at hsc
  have hc0 : Lx.clsAt (s.data.toList.drop i) = 8 := by rw [hd]; exact hc
  have HC := Lib.hid hc0
  have h0 := h.text
  obtain ⟨R, hR⟩ : ∃ R, s.extract (i + 1) s.size = R := ⟨_, rfl⟩
  have hRl : R.data.toList = s.data.toList.drop (i + 1) := by
    rw [← hR, Lib.extract_data]
    exact List.take_of_length_le (by rw [List.length_drop, ← size_list]; exact Nat.le_refl _)
  have hpre : Lib.hasPrefix R.data.toList [61] = ((s.data.toList.drop (i + 1)).head? == some 61) := by
    rw [hRl]
    cases s.data.toList.drop (i + 1) with
    | nil => rfl
    | cons c r =>
      simp only [Lib.hasPrefix, List.isPrefixOf, List.head?_cons, Bool.and_true]
      rw [Bool.eq_iff_iff]
      simp
      exact eq_comm
  have HPRE := Lib.hid hpre
  clear hpre
  rcases Bool.eq_false_or_eq_true ((s.data.toList.drop (i + 1)).head? == some 61) with hq | hq
  · have hlt : i + 1 < s.size := by
      rcases Nat.lt_or_ge (i + 1) s.size with h1 | h1
      · exact h1
      · rw [List.drop_eq_nil_of_le (by rw [← size_list]; exact h1)] at hq; cases hq
    have hxt : s.extract i (i + 2) = bs [s[i], 61] := by
      rw [extract_bs, show i + 2 - i = 2 from by omega, hd]
      have h2 := drop_get s (i + 1) hlt
      rw [h2] at hq ⊢
      have h3 : s[i + 1] = 61 := by simpa using hq
      rw [h3]
      rfl
    rw [if_pos hq] at hsc
    have HSC := Lib.hid hsc
    have HXT := Lib.hid hxt
    clear hsc hd hc hRl hc0
    go_enter Tryz.func41, Tryz.ntmps41
    go_wp2_with fail
    refine (at_any b s i _ (by omega) (by omega) (by exact h.alloc hb _)).mono ?_
    rintro e w' ⟨rfl, m1, rfl⟩
    rw [Int.toNat_natCast, HC.out]
    go_wp2_with fail
    refine (Tryz.strings_HasPrefix R _ _).mono ?_
    rintro e w' ⟨rfl, rfl⟩
    rw [show (({ data := #[61] } : ByteArray).data.toList) = [61] from rfl, HPRE.out]
    rw [hq]
    clear hq
    go_wp2
    refine bodyPost_ret (results_cell_two rfl _ _ w.heap.size 45 _ _ rfl (by exact (Blk.new w _ _).drewN _) Tryz.underlying45 rfl (by kernel_rfl)) rfl ⟨?_, ?_⟩
    · rw [HSC.out, HXT.out]; rfl
    · exact bel_drewN (bel_alloc (bel_refl w) _) _
  · rw [if_neg (by rw [hq]; decide)] at hsc
    have hxt : s.extract i (i + 1) = bs [s[i]] := by
      rw [extract_bs, show i + 1 - i = 1 from by omega, hd]
      rfl
    have HSC := Lib.hid hsc
    have HXT := Lib.hid hxt
    clear hsc hd hc hRl hc0 hxt
    go_enter Tryz.func41, Tryz.ntmps41
    go_wp2_with fail
    refine (at_any b s i _ (by omega) (by omega) (by exact h.alloc hb _)).mono ?_
    rintro e w' ⟨rfl, m1, rfl⟩
    rw [Int.toNat_natCast, HC.out]
    go_wp2_with fail
    refine (Tryz.strings_HasPrefix R _ _).mono ?_
    rintro e w' ⟨rfl, rfl⟩
    rw [show (({ data := #[61] } : ByteArray).data.toList) = [61] from rfl, HPRE.out]
    rw [hq]
    clear hq
    go_wp2
    refine bodyPost_ret (results_cell_two rfl _ _ w.heap.size 45 _ _ rfl (by exact (Blk.new w _ _).drewN _) Tryz.underlying45 rfl (by kernel_rfl)) rfl ⟨?_, ?_⟩
    · rw [HSC.out, HXT.out]; rfl
    · exact bel_drewN (bel_alloc (bel_refl w) _) _

set_option maxRecDepth 100000 in
set_option maxHeartbeats 2000000 in
theorem next_sym (b : Nat) (s : ByteArray) (i : Nat) (w : World) (hs : s.size ≤ 20000) (hi : i < s.size) (hb : b < w.heap.size) (h : Scan w b s) (hc : Lx.cls s[i] = 9) :
    Calls Tryz.prog 41 #[.pointer (some ⟨b, 0, none⟩), .int .i64 i] w fun e w' =>
      e = .returned (.tuple #[(Lx.scan (s.data.toList.drop i)).out i, .int .i64 ((Lx.scan (s.data.toList.drop i)).fin i), .int .i64 (Lx.scan (s.data.toList.drop i)).err]) ∧ Below w.heap.size w w' := by
  have hsc := Lx.scan_sym s[i] (s.data.toList.drop (i + 1)) hc
  have hd := drop_get s i hi
  rw [← hd] at hsc
  have hc0 : Lx.clsAt (s.data.toList.drop i) = 9 := by rw [hd]; exact hc
  have HC := Lib.hid hc0
  have h0 := h.text
  have hxt : s.extract i (i + 1) = bs [s[i]] := by
    rw [extract_bs, show i + 1 - i = 1 from by omega, hd]
    rfl
  have HSC := Lib.hid hsc
  have HXT := Lib.hid hxt
  clear hsc hd hc hc0 hxt
  go_enter Tryz.func41, Tryz.ntmps41
  go_wp2_with fail
  refine (at_any b s i _ (by omega) (by omega) (by exact h.alloc hb _)).mono ?_
  rintro e w' ⟨rfl, m1, rfl⟩
  rw [Int.toNat_natCast, HC.out]
  go_wp2
  refine bodyPost_ret (results_cell_two rfl _ _ w.heap.size 45 _ _ rfl (by exact (Blk.new w _ _).drewN _) Tryz.underlying45 rfl (by kernel_rfl)) rfl ⟨?_, ?_⟩
  · rw [HSC.out, HXT.out]; rfl
  · exact bel_drewN (bel_alloc (bel_refl w) _) _

set_option maxRecDepth 100000 in
set_option maxHeartbeats 2000000 in
theorem next_other (b : Nat) (s : ByteArray) (i : Nat) (w : World) (hs : s.size ≤ 20000) (hi : i < s.size) (hb : b < w.heap.size) (h : Scan w b s) (h3 : Lx.cls s[i] ≠ 3) (h4 : Lx.cls s[i] ≠ 4) (h6 : Lx.cls s[i] ≠ 6) (h7 : Lx.cls s[i] ≠ 7) (h8 : Lx.cls s[i] ≠ 8) (h9 : Lx.cls s[i] ≠ 9) :
    Calls Tryz.prog 41 #[.pointer (some ⟨b, 0, none⟩), .int .i64 i] w fun e w' =>
      e = .returned (.tuple #[(Lx.scan (s.data.toList.drop i)).out i, .int .i64 ((Lx.scan (s.data.toList.drop i)).fin i), .int .i64 (Lx.scan (s.data.toList.drop i)).err]) ∧ Below w.heap.size w w' := by
  have hsc := Lx.scan_other s[i] (s.data.toList.drop (i + 1)) h3 h4 h6 h7 h8 h9
  have hd := drop_get s i hi
  rw [← hd] at hsc
  have hc0 : Lx.clsAt (s.data.toList.drop i) = Lx.cls s[i] := by rw [hd]; rfl
  have HC := Lib.hid hc0
  have e3 : ((Lx.cls s[i] : Int) == 3) = false := by rw [beq_eq_false_iff_ne]; omega
  have e4 : ((Lx.cls s[i] : Int) == 4) = false := by rw [beq_eq_false_iff_ne]; omega
  have e6 : ((Lx.cls s[i] : Int) == 6) = false := by rw [beq_eq_false_iff_ne]; omega
  have e7 : ((Lx.cls s[i] : Int) == 7) = false := by rw [beq_eq_false_iff_ne]; omega
  have e8 : ((Lx.cls s[i] : Int) == 8) = false := by rw [beq_eq_false_iff_ne]; omega
  have e9 : ((Lx.cls s[i] : Int) == 9) = false := by rw [beq_eq_false_iff_ne]; omega
  have HSC := Lib.hid hsc
  clear hsc hd hc0
  go_enter Tryz.func41, Tryz.ntmps41
  go_wp2_with fail
  refine (at_any b s i _ (by omega) (by omega) (by exact h.alloc hb _)).mono ?_
  rintro e w' ⟨rfl, m1, rfl⟩
  rw [Int.toNat_natCast, HC.out]
  generalize Lx.cls s[i] = cc at *
  go_wp2
  refine bodyPost_ret (results_cell_two rfl _ _ w.heap.size 45 _ _ rfl (by exact (Blk.new w _ _).drewN _) Tryz.underlying45 rfl (by kernel_rfl)) rfl ⟨?_, ?_⟩
  · rw [HSC.out]; rfl
  · exact bel_drewN (bel_alloc (bel_refl w) _) _

/-- 'next' at every offset before the text's end -/
theorem next_any (b : Nat) (s : ByteArray) (i : Int) (w : World) (hs : s.size ≤ 20000) (hi0 : 0 ≤ i) (hi : i < s.size) (hb : b < w.heap.size) (h : Scan w b s) :
    Calls Tryz.prog 41 #[.pointer (some ⟨b, 0, none⟩), .int .i64 i] w fun e w' =>
      e = .returned (.tuple #[(Lx.scan (s.data.toList.drop i.toNat)).out i.toNat, .int .i64 ((Lx.scan (s.data.toList.drop i.toNat)).fin i.toNat), .int .i64 (Lx.scan (s.data.toList.drop i.toNat)).err]) ∧ Below w.heap.size w w' := by
  obtain ⟨i, rfl⟩ := Int.eq_ofNat_of_zero_le hi0
  rw [Int.toNat_natCast]
  have hi' : i < s.size := by omega
  by_cases h3 : Lx.cls s[i] = 3
  · exact next_letter b s i w hs hi' hb h h3
  by_cases h4 : Lx.cls s[i] = 4
  · exact next_digit b s i w hs hi' hb h h4
  by_cases h6 : Lx.cls s[i] = 6
  · exact next_quote b s i w hs hi' hb h h6
  by_cases h7 : Lx.cls s[i] = 7
  · exact next_mark b s i w hs hi' hb h h7
  by_cases h8 : Lx.cls s[i] = 8
  · exact next_angle b s i w hs hi' hb h h8
  by_cases h9 : Lx.cls s[i] = 9
  · exact next_sym b s i w hs hi' hb h h9
  exact next_other b s i w hs hi' hb h h3 h4 h6 h7 h8 h9
end Go.Proofs.YtldnfdghkdibmaaGreatDoor

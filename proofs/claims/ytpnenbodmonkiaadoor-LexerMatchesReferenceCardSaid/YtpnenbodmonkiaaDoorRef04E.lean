/-
  The reference's next at quotes and symbols: what it returns at every offset.
-/
import Derived.Test.YtpnenbodmonkiaaDoorRef04A
import Derived.Test.YtpnenbodmonkiaaDoorLexNext2
import Derived.Test.YtpnenbodmonkiaaDoorLexLaw
import Derived.Deep.CutRange
import Derived.Deep.CutBlock
import Derived.Test.YtpnenbodmonkiaaDoorRef04C
import Derived.Test.YtpnenbodmonkiaaDoorRef04D
set_option linter.unusedVariables false
namespace Go.Proofs.YtpnenbodmonkiaaDoor
open Go.RowKit
attribute [local go_sem] alloc_drewN setCell_drewN setRow_drewN

theorem nat_eq_false {a b : Nat} (h : a ≠ b) : ((a : Int) == (b : Int)) = false := by rw [beq_eq_false_iff_ne]; omega
set_option maxRecDepth 100000 in
set_option maxHeartbeats 4000000 in
theorem rnext_quote (s : ByteArray) (i : Nat) (w : World) (hs : s.size ≤ 4611686018427387904) (hi : i < s.size) (hl : Lx.cls s[i] = 6) :
    Calls Tryd.prog 26 #[.string s, .int .i64 i] w fun e w' =>
      e = .returned (.tuple #[(Lx.scan (s.data.toList.drop i)).out i, .int .i64 (Lx.scan (s.data.toList.drop i)).err]) ∧ Below w.heap.size w w' := by
  have hd := drop_get s i hi
  have hl1 : Lx.isLetter s[i] = false := by rw [Lx.cls_letter, hl]; rfl
  have hl2 : Lx.isDigit s[i] = false := by rw [Lx.cls_digit, hl]; rfl
  have hl3 : (s[i] == 34) = true := by rw [Lx.cls_quote, hl]; rfl
  have hc34 : ((s[i].toNat : Int) == 34) = true := by rw [beq_iff_eq] at hl3 ⊢; rw [hl3]; rfl
  have hsc := Lx.scan_quote s[i] (s.data.toList.drop (i + 1)) hl
  rw [← hd, List.drop_drop] at hsc
  have HSC := Lib.hid hsc
  have HL1 := Lib.hid hl1
  have HL2 := Lib.hid hl2
  clear hsc hd hl1 hl2 hl hl3
  have hb0 : s[i].toNat < 256 := UInt8.toNat_lt s[i]
  go_enter Tryd.func26, Tryd.ntmps26
  go_wp2_with fail
  refine (rletter_any s[i] _).mono ?_
  rintro e w' ⟨rfl, rfl⟩
  rw [HL1.out]
  go_wp2_with fail
  refine (rdigit_any s[i] _).mono ?_
  rintro e w' ⟨rfl, rfl⟩
  rw [HL2.out]
  go_wp2_with fail
  go_loop [6] (fun v => ∃ k : Nat, i + 1 ≤ k ∧ k ≤ s.size ∧ v = .int .i64 k ∧ i + 1 + Lx.span Lx.inText (s.data.toList.drop (i + 1)) = k + Lx.span Lx.inText (s.data.toList.drop k)) (fun v => s.size - (intOf v).toNat)
  case atStart => exact ⟨i + 1, by omega, by omega, by go_num, rfl⟩
  case round =>
    obtain ⟨k, hk1, hk2, rfl, hr⟩ := hrel
    have HR := Lib.hid hr
    clear hr
    by_cases hlt : k < s.size
    · have hdk := drop_get s k hlt
      have HDK := Lib.hid hdk
      clear hdk
      have hbk : s[k].toNat < 256 := UInt8.toNat_lt s[k]
      by_cases h34 : s[k] = 34
      · have hin : Lx.inText s[k] = false := by rw [h34]; rfl
        have he : i + 1 + Lx.span Lx.inText (s.data.toList.drop (i + 1)) = k := by rw [HR.out, HDK.out, Lx.span_stop' hin]; rfl
        have hq1 : ((s[k].toNat : Int) != 34) = false := by rw [h34]; rfl
        have hq2 : ((s[k].toNat : Int) == 10) = false := by rw [h34]; rfl
        have hm : Lx.span Lx.inText (s.data.toList.drop (i + 1)) = k - (i + 1) := by omega
        have hsc2 := HSC.out
        rw [hm, show i + 1 + (k - (i + 1)) = k from by omega, HDK.out, List.head?_cons, h34, if_pos (by decide)] at hsc2
        have HSC2 := Lib.hid hsc2
        clear hin he hm hsc2 HSC HR h34 HDK
        have hne : ((k : Int) == (s.size : Int)) = false := nat_eq_false (by omega)
        by_cases h4 : 400 < k - (i + 1)
        · have h4' : 400 < (k : Int) - (i : Int) - 1 := by omega
          go_wp2
          refine bodyPost_ret (v := .tuple #[.agg #[.int .i64 0, .int .i64 0, .int .i64 0, .string { data := #[] }], .int .i64 2]) (by simp [results, Tryd.results26, go_sem]) rfl ⟨?_, ?_⟩
          · rw [HSC2.out, if_pos h4]; rfl
          · exact bel_alloc (bel_alloc (bel_refl w) _) _
        · have h4' : ¬ (400 < (k : Int) - (i : Int) - 1) := by omega
          have hx := extract_bs s (i + 1) k
          go_wp2
          refine bodyPost_ret (v := .tuple #[.agg #[.int .i64 3, .int .i64 i, .int .i64 0, .string (bs ((s.data.toList.drop (i + 1)).take (k - (i + 1))))], .int .i64 0]) ?_ rfl ⟨?_, ?_⟩
          · simp [results, Tryd.results26, go_sem]
          · rw [HSC2.out, if_neg h4]; rfl
          · exact bel_alloc (bel_alloc (bel_refl w) _) _
      · have hq1 : ((s[k].toNat : Int) != 34) = true := by
          rw [bne_iff_ne]
          intro h
          exact h34 (UInt8.toNat_inj.1 (by show _ = 34; omega))
        by_cases h10 : s[k] = 10
        · have hin : Lx.inText s[k] = false := by rw [h10]; rfl
          have he : i + 1 + Lx.span Lx.inText (s.data.toList.drop (i + 1)) = k := by rw [HR.out, HDK.out, Lx.span_stop' hin]; rfl
          have hq2 : ((s[k].toNat : Int) != 10) = false := by rw [h10]; rfl
          have hq3 : ((s[k].toNat : Int) == 10) = true := by rw [h10]; rfl
          have hm : Lx.span Lx.inText (s.data.toList.drop (i + 1)) = k - (i + 1) := by omega
          have hsc2 := HSC.out
          rw [hm, show i + 1 + (k - (i + 1)) = k from by omega, HDK.out, List.head?_cons, h10, if_neg (by decide)] at hsc2
          have HSC2 := Lib.hid hsc2
          clear hin he hm hsc2 HSC HR h34 h10 HDK
          have hne : ((k : Int) == (s.size : Int)) = false := nat_eq_false (by omega)
          go_wp2
          refine bodyPost_ret (v := .tuple #[.agg #[.int .i64 0, .int .i64 0, .int .i64 0, .string { data := #[] }], .int .i64 6]) (by simp [results, Tryd.results26, go_sem]) rfl ⟨?_, ?_⟩
          · rw [HSC2.out]; rfl
          · exact bel_alloc (bel_alloc (bel_refl w) _) _
        · have hq2 : ((s[k].toNat : Int) != 10) = true := by
            rw [bne_iff_ne]
            intro h
            exact h10 (UInt8.toNat_inj.1 (by show _ = 10; omega))
          have hin : Lx.inText s[k] = true := by
            have n1 : (s[k] == 34) = false := by rw [beq_eq_false_iff_ne]; exact h34
            have n2 : (s[k] == 10) = false := by rw [beq_eq_false_iff_ne]; exact h10
            simp [Lx.inText, n1, n2]
          have he : i + 1 + Lx.span Lx.inText (s.data.toList.drop (i + 1)) = k + 1 + Lx.span Lx.inText (s.data.toList.drop (k + 1)) := by rw [HR.out, HDK.out, Lx.span_cons' hin]; omega
          have HE := Lib.hid he
          clear he hin h10 h34 HR HDK
          go_wp2
          go_round
          case rel => exact ⟨k + 1, by omega, by omega, by go_num, HE.out⟩
          case measure => simp [intOf]; omega
    · have hdk : s.data.toList.drop k = [] := List.drop_eq_nil_of_le (by rw [← size_list]; omega)
      have he : i + 1 + Lx.span Lx.inText (s.data.toList.drop (i + 1)) = k := by rw [HR.out, hdk]; rfl
      have hm : Lx.span Lx.inText (s.data.toList.drop (i + 1)) = k - (i + 1) := by omega
      have hsc2 := HSC.out
      rw [hm, show i + 1 + (k - (i + 1)) = k from by omega, hdk, if_neg (by decide)] at hsc2
      have HSC2 := Lib.hid hsc2
      clear he hm hsc2 HSC HR hdk
      have hne : ((k : Int) == (s.size : Int)) = true := by rw [beq_iff_eq]; omega
      go_wp2
      refine bodyPost_ret (v := .tuple #[.agg #[.int .i64 0, .int .i64 0, .int .i64 0, .string { data := #[] }], .int .i64 6]) (by simp [results, Tryd.results26, go_sem]) rfl ⟨?_, ?_⟩
      · rw [HSC2.out]; rfl
      · exact bel_alloc (bel_alloc (bel_refl w) _) _
theorem sym_one (c : UInt8) : hasB [33, 60, 62] c = (c == 33 || c == 60 || c == 62) := by
  have h := Lx.byClass (fun c => hasB [33, 60, 62] c == (c == 33 || c == 60 || c == 62)) (by decide +kernel) c
  rwa [beq_iff_eq] at h
theorem sym_two (c : UInt8) : hasB [59, 44, 46, 58, 40, 41, 91, 93, 123, 125, 61, 60, 62, 43, 45] c = (c == 60 || c == 62 || Lx.isSym c) := by
  have h := Lx.byClass (fun c => hasB [59, 44, 46, 58, 40, 41, 91, 93, 123, 125, 61, 60, 62, 43, 45] c == (c == 60 || c == 62 || Lx.isSym c)) (by decide +kernel) c
  rwa [beq_iff_eq] at h
set_option maxRecDepth 100000 in
set_option maxHeartbeats 4000000 in
theorem rnext_sym (s : ByteArray) (i : Nat) (w : World) (hs : s.size ≤ 4611686018427387904) (hi : i < s.size) (hl3 : Lx.cls s[i] ≠ 3) (hl4 : Lx.cls s[i] ≠ 4) (hl6 : Lx.cls s[i] ≠ 6) :
    Calls Tryd.prog 26 #[.string s, .int .i64 i] w fun e w' =>
      e = .returned (.tuple #[(Lx.scan (s.data.toList.drop i)).out i, .int .i64 (Lx.scan (s.data.toList.drop i)).err]) ∧ Below w.heap.size w w' := by
  have hd := drop_get s i hi
  have hl1 : Lx.isLetter s[i] = false := by rw [Lx.cls_letter, beq_eq_false_iff_ne]; exact hl3
  have hl2 : Lx.isDigit s[i] = false := by rw [Lx.cls_digit, beq_eq_false_iff_ne]; exact hl4
  have hl5 : (s[i] == 34) = false := by rw [Lx.cls_quote, beq_eq_false_iff_ne]; exact hl6
  have hc34 : ((s[i].toNat : Int) == 34) = false := by
    rw [beq_eq_false_iff_ne]
    intro h
    rw [beq_eq_false_iff_ne] at hl5
    exact hl5 (UInt8.toNat_inj.1 (by show _ = 34; omega))
  have hsc : Lx.scan (s.data.toList.drop i) = if (s[i] == 33 || s[i] == 60 || s[i] == 62) && (s.data.toList.drop (i + 1)).head? == some 61 then ⟨0, 4, 0, [s[i], 61], 2⟩ else if s[i] == 60 || s[i] == 62 || Lx.isSym s[i] then ⟨0, 4, 0, [s[i]], 1⟩ else Lx.bad 3 := by
    rw [hd, Lx.scan, if_neg (by rw [hl1]; decide), if_neg (by rw [hl2]; decide), if_neg (by rw [hl5]; decide)]
  have HSC0 := Lib.hid hsc
  have HL1 := Lib.hid hl1
  have HL2 := Lib.hid hl2
  clear hsc hd hl1 hl2 hl3 hl4 hl5 hl6
  have hb0 : s[i].toNat < 256 := UInt8.toNat_lt s[i]
  cases hb1 : hasB [33, 60, 62] s[i]
  · have hsc1 := HSC0.out
    rw [← sym_one, hb1, Bool.false_and, if_neg (by decide)] at hsc1
    have HSC1 := Lib.hid hsc1
    have HB1 := Lib.hid hb1
    clear hsc1 hb1 HSC0
    cases hb2 : hasB [59, 44, 46, 58, 40, 41, 91, 93, 123, 125, 61, 60, 62, 43, 45] s[i]
    · have hsc := HSC1.out
      rw [← sym_two, hb2, if_neg (by decide)] at hsc
      have HSC := Lib.hid hsc
      have HB2 := Lib.hid hb2
      clear hsc hb2 HSC1
      go_enter Tryd.func26, Tryd.ntmps26
      go_wp2_with fail
      refine (rletter_any s[i] _).mono ?_
      rintro e w' ⟨rfl, rfl⟩
      rw [HL1.out]
      go_wp2_with fail
      refine (rdigit_any s[i] _).mono ?_
      rintro e w' ⟨rfl, rfl⟩
      rw [HL2.out]
      go_wp2_with fail
      refine (rhas_any _ s[i] _ (by show 3 ≤ _; omega)).mono ?_
      rintro e w' ⟨rfl, rfl⟩
      rw [show (({ data := #[33, 60, 62] } : ByteArray).data.toList) = [33, 60, 62] from rfl, HB1.out]
      go_wp2_with fail
      refine (rhas_any _ s[i] _ (by show 15 ≤ _; omega)).mono ?_
      rintro e w' ⟨rfl, rfl⟩
      rw [show (({ data := #[59, 44, 46, 58, 40, 41, 91, 93, 123, 125, 61, 60, 62, 43, 45] } : ByteArray).data.toList) = [59, 44, 46, 58, 40, 41, 91, 93, 123, 125, 61, 60, 62, 43, 45] from rfl, HB2.out]
      go_wp2
      refine bodyPost_ret (v := .tuple #[.agg #[.int .i64 0, .int .i64 0, .int .i64 0, .string { data := #[] }], .int .i64 3]) (by simp [results, Tryd.results26, go_sem]) rfl ⟨?_, ?_⟩
      · rw [HSC.out]; rfl
      · exact bel_alloc (bel_alloc (bel_refl w) _) _
    · have hsc := HSC1.out
      rw [← sym_two, hb2, if_pos rfl] at hsc
      have HSC := Lib.hid hsc
      have HB2 := Lib.hid hb2
      clear hsc hb2 HSC1
      have hx : s.extract i (i + 1) = bs [s[i]] := by
        rw [extract_bs, drop_get s i hi, Nat.add_sub_cancel_left]
        rfl
      go_enter Tryd.func26, Tryd.ntmps26
      go_wp2_with fail
      refine (rletter_any s[i] _).mono ?_
      rintro e w' ⟨rfl, rfl⟩
      rw [HL1.out]
      go_wp2_with fail
      refine (rdigit_any s[i] _).mono ?_
      rintro e w' ⟨rfl, rfl⟩
      rw [HL2.out]
      go_wp2_with fail
      refine (rhas_any _ s[i] _ (by show 3 ≤ _; omega)).mono ?_
      rintro e w' ⟨rfl, rfl⟩
      rw [show (({ data := #[33, 60, 62] } : ByteArray).data.toList) = [33, 60, 62] from rfl, HB1.out]
      go_wp2_with fail
      refine (rhas_any _ s[i] _ (by show 15 ≤ _; omega)).mono ?_
      rintro e w' ⟨rfl, rfl⟩
      rw [show (({ data := #[59, 44, 46, 58, 40, 41, 91, 93, 123, 125, 61, 60, 62, 43, 45] } : ByteArray).data.toList) = [59, 44, 46, 58, 40, 41, 91, 93, 123, 125, 61, 60, 62, 43, 45] from rfl, HB2.out]
      go_wp2
      refine bodyPost_ret (v := .tuple #[.agg #[.int .i64 4, .int .i64 i, .int .i64 0, .string (bs [s[i]])], .int .i64 0]) ?_ rfl ⟨?_, ?_⟩
      · simp [results, Tryd.results26, go_sem]
      · rw [HSC.out]; rfl
      · exact bel_alloc (bel_alloc (bel_refl w) _) _
  · by_cases hlt : i + 1 < s.size
    · have hdk := drop_get s (i + 1) hlt
      have hbk : s[i + 1].toNat < 256 := UInt8.toNat_lt s[i + 1]
      by_cases h61 : s[i + 1] = 61
      · have hsc1 := HSC0.out
        rw [← sym_one, hb1, hdk, List.head?_cons, h61, if_pos (by decide)] at hsc1
        have HSC1 := Lib.hid hsc1
        have hx : s.extract i (i + 2) = bs [s[i], 61] := by
          rw [extract_bs, drop_get s i hi, hdk, h61, Nat.add_sub_cancel_left]
          rfl
        have h61' : ((s[i + 1].toNat : Int) == 61) = true := by rw [h61]; rfl
        have HB1 := Lib.hid hb1
        clear hsc1 hb1 HSC0 hdk h61
        go_enter Tryd.func26, Tryd.ntmps26
        go_wp2_with fail
        refine (rletter_any s[i] _).mono ?_
        rintro e w' ⟨rfl, rfl⟩
        rw [HL1.out]
        go_wp2_with fail
        refine (rdigit_any s[i] _).mono ?_
        rintro e w' ⟨rfl, rfl⟩
        rw [HL2.out]
        go_wp2_with fail
        refine (rhas_any _ s[i] _ (by show 3 ≤ _; omega)).mono ?_
        rintro e w' ⟨rfl, rfl⟩
        rw [show (({ data := #[33, 60, 62] } : ByteArray).data.toList) = [33, 60, 62] from rfl, HB1.out]
        go_wp2
        refine bodyPost_ret (v := .tuple #[.agg #[.int .i64 4, .int .i64 i, .int .i64 0, .string (bs [s[i], 61])], .int .i64 0]) ?_ rfl ⟨?_, ?_⟩
        · simp [results, Tryd.results26, go_sem]
        · rw [HSC1.out]; rfl
        · exact bel_alloc (bel_alloc (bel_refl w) _) _
      · have hsc1 := HSC0.out
        rw [hdk, List.head?_cons, if_neg] at hsc1
        · have HSC1 := Lib.hid hsc1
          have h61' : ((s[i + 1].toNat : Int) == 61) = false := by
            rw [beq_eq_false_iff_ne]
            intro h
            exact h61 (UInt8.toNat_inj.1 (by show _ = 61; omega))
          have HB1 := Lib.hid hb1
          clear hsc1 hb1 HSC0 hdk h61
          cases hb2 : hasB [59, 44, 46, 58, 40, 41, 91, 93, 123, 125, 61, 60, 62, 43, 45] s[i]
          · have hsc := HSC1.out
            rw [← sym_two, hb2, if_neg (by decide)] at hsc
            have HSC := Lib.hid hsc
            have HB2 := Lib.hid hb2
            clear hsc hb2 HSC1
            go_enter Tryd.func26, Tryd.ntmps26
            go_wp2_with fail
            refine (rletter_any s[i] _).mono ?_
            rintro e w' ⟨rfl, rfl⟩
            rw [HL1.out]
            go_wp2_with fail
            refine (rdigit_any s[i] _).mono ?_
            rintro e w' ⟨rfl, rfl⟩
            rw [HL2.out]
            go_wp2_with fail
            refine (rhas_any _ s[i] _ (by show 3 ≤ _; omega)).mono ?_
            rintro e w' ⟨rfl, rfl⟩
            rw [show (({ data := #[33, 60, 62] } : ByteArray).data.toList) = [33, 60, 62] from rfl, HB1.out]
            go_wp2_with fail
            refine (rhas_any _ s[i] _ (by show 15 ≤ _; omega)).mono ?_
            rintro e w' ⟨rfl, rfl⟩
            rw [show (({ data := #[59, 44, 46, 58, 40, 41, 91, 93, 123, 125, 61, 60, 62, 43, 45] } : ByteArray).data.toList) = [59, 44, 46, 58, 40, 41, 91, 93, 123, 125, 61, 60, 62, 43, 45] from rfl, HB2.out]
            go_wp2
            refine bodyPost_ret (v := .tuple #[.agg #[.int .i64 0, .int .i64 0, .int .i64 0, .string { data := #[] }], .int .i64 3]) (by simp [results, Tryd.results26, go_sem]) rfl ⟨?_, ?_⟩
            · rw [HSC.out]; rfl
            · exact bel_alloc (bel_alloc (bel_refl w) _) _
          · have hsc := HSC1.out
            rw [← sym_two, hb2, if_pos rfl] at hsc
            have HSC := Lib.hid hsc
            have HB2 := Lib.hid hb2
            clear hsc hb2 HSC1
            have hx : s.extract i (i + 1) = bs [s[i]] := by
              rw [extract_bs, drop_get s i hi, Nat.add_sub_cancel_left]
              rfl
            go_enter Tryd.func26, Tryd.ntmps26
            go_wp2_with fail
            refine (rletter_any s[i] _).mono ?_
            rintro e w' ⟨rfl, rfl⟩
            rw [HL1.out]
            go_wp2_with fail
            refine (rdigit_any s[i] _).mono ?_
            rintro e w' ⟨rfl, rfl⟩
            rw [HL2.out]
            go_wp2_with fail
            refine (rhas_any _ s[i] _ (by show 3 ≤ _; omega)).mono ?_
            rintro e w' ⟨rfl, rfl⟩
            rw [show (({ data := #[33, 60, 62] } : ByteArray).data.toList) = [33, 60, 62] from rfl, HB1.out]
            go_wp2_with fail
            refine (rhas_any _ s[i] _ (by show 15 ≤ _; omega)).mono ?_
            rintro e w' ⟨rfl, rfl⟩
            rw [show (({ data := #[59, 44, 46, 58, 40, 41, 91, 93, 123, 125, 61, 60, 62, 43, 45] } : ByteArray).data.toList) = [59, 44, 46, 58, 40, 41, 91, 93, 123, 125, 61, 60, 62, 43, 45] from rfl, HB2.out]
            go_wp2
            refine bodyPost_ret (v := .tuple #[.agg #[.int .i64 4, .int .i64 i, .int .i64 0, .string (bs [s[i]])], .int .i64 0]) ?_ rfl ⟨?_, ?_⟩
            · simp [results, Tryd.results26, go_sem]
            · rw [HSC.out]; rfl
            · exact bel_alloc (bel_alloc (bel_refl w) _) _
        · rw [Bool.and_eq_true, beq_iff_eq]
          rintro ⟨_, h⟩
          exact h61 (Option.some.inj h)
    · have hdk : s.data.toList.drop (i + 1) = [] := List.drop_eq_nil_of_le (by rw [← size_list]; omega)
      have hsc1 := HSC0.out
      rw [hdk, if_neg (by simp)] at hsc1
      have HSC1 := Lib.hid hsc1
      have HB1 := Lib.hid hb1
      clear hsc1 hb1 HSC0 hdk
      cases hb2 : hasB [59, 44, 46, 58, 40, 41, 91, 93, 123, 125, 61, 60, 62, 43, 45] s[i]
      · have hsc := HSC1.out
        rw [← sym_two, hb2, if_neg (by decide)] at hsc
        have HSC := Lib.hid hsc
        have HB2 := Lib.hid hb2
        clear hsc hb2 HSC1
        go_enter Tryd.func26, Tryd.ntmps26
        go_wp2_with fail
        refine (rletter_any s[i] _).mono ?_
        rintro e w' ⟨rfl, rfl⟩
        rw [HL1.out]
        go_wp2_with fail
        refine (rdigit_any s[i] _).mono ?_
        rintro e w' ⟨rfl, rfl⟩
        rw [HL2.out]
        go_wp2_with fail
        refine (rhas_any _ s[i] _ (by show 3 ≤ _; omega)).mono ?_
        rintro e w' ⟨rfl, rfl⟩
        rw [show (({ data := #[33, 60, 62] } : ByteArray).data.toList) = [33, 60, 62] from rfl, HB1.out]
        go_wp2_with fail
        refine (rhas_any _ s[i] _ (by show 15 ≤ _; omega)).mono ?_
        rintro e w' ⟨rfl, rfl⟩
        rw [show (({ data := #[59, 44, 46, 58, 40, 41, 91, 93, 123, 125, 61, 60, 62, 43, 45] } : ByteArray).data.toList) = [59, 44, 46, 58, 40, 41, 91, 93, 123, 125, 61, 60, 62, 43, 45] from rfl, HB2.out]
        go_wp2
        refine bodyPost_ret (v := .tuple #[.agg #[.int .i64 0, .int .i64 0, .int .i64 0, .string { data := #[] }], .int .i64 3]) (by simp [results, Tryd.results26, go_sem]) rfl ⟨?_, ?_⟩
        · rw [HSC.out]; rfl
        · exact bel_alloc (bel_alloc (bel_refl w) _) _
      · have hsc := HSC1.out
        rw [← sym_two, hb2, if_pos rfl] at hsc
        have HSC := Lib.hid hsc
        have HB2 := Lib.hid hb2
        clear hsc hb2 HSC1
        have hx : s.extract i (i + 1) = bs [s[i]] := by
          rw [extract_bs, drop_get s i hi, Nat.add_sub_cancel_left]
          rfl
        go_enter Tryd.func26, Tryd.ntmps26
        go_wp2_with fail
        refine (rletter_any s[i] _).mono ?_
        rintro e w' ⟨rfl, rfl⟩
        rw [HL1.out]
        go_wp2_with fail
        refine (rdigit_any s[i] _).mono ?_
        rintro e w' ⟨rfl, rfl⟩
        rw [HL2.out]
        go_wp2_with fail
        refine (rhas_any _ s[i] _ (by show 3 ≤ _; omega)).mono ?_
        rintro e w' ⟨rfl, rfl⟩
        rw [show (({ data := #[33, 60, 62] } : ByteArray).data.toList) = [33, 60, 62] from rfl, HB1.out]
        go_wp2_with fail
        refine (rhas_any _ s[i] _ (by show 15 ≤ _; omega)).mono ?_
        rintro e w' ⟨rfl, rfl⟩
        rw [show (({ data := #[59, 44, 46, 58, 40, 41, 91, 93, 123, 125, 61, 60, 62, 43, 45] } : ByteArray).data.toList) = [59, 44, 46, 58, 40, 41, 91, 93, 123, 125, 61, 60, 62, 43, 45] from rfl, HB2.out]
        go_wp2
        refine bodyPost_ret (v := .tuple #[.agg #[.int .i64 4, .int .i64 i, .int .i64 0, .string (bs [s[i]])], .int .i64 0]) ?_ rfl ⟨?_, ?_⟩
        · simp [results, Tryd.results26, go_sem]
        · rw [HSC.out]; rfl
        · exact bel_alloc (bel_alloc (bel_refl w) _) _

theorem rnext_any (s : ByteArray) (i : Nat) (w : World) (hs : s.size ≤ 4611686018427387904) (hi : i < s.size) :
    Calls Tryd.prog 26 #[.string s, .int .i64 i] w fun e w' =>
      e = .returned (.tuple #[(Lx.scan (s.data.toList.drop i)).out i, .int .i64 (Lx.scan (s.data.toList.drop i)).err]) ∧ Below w.heap.size w w' := by
  by_cases h3 : Lx.cls s[i] = 3
  · exact rnext_letter s i w hs hi (by rw [Lx.cls_letter, h3]; rfl)
  by_cases h4 : Lx.cls s[i] = 4
  · exact rnext_digit s i w hs hi h4
  by_cases h6 : Lx.cls s[i] = 6
  · exact rnext_quote s i w hs hi h6
  exact rnext_sym s i w hs hi h3 h4 h6
end Go.Proofs.YtpnenbodmonkiaaDoor

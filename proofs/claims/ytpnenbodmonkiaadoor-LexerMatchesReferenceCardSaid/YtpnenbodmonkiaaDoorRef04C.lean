/-
  The reference's next: what it returns at every offset.
-/
import Derived.Test.YtpnenbodmonkiaaDoorRef04A
import Derived.Test.YtpnenbodmonkiaaDoorLexNext2
import Derived.Test.YtpnenbodmonkiaaDoorLexLaw
import Derived.Deep.CutRange
import Derived.Deep.CutBlock
import Derived.StillTailTactics
set_option linter.unusedVariables false
namespace Go.Proofs.YtpnenbodmonkiaaDoor
open Go.RowKit
attribute [local go_sem] alloc_drewN setCell_drewN setRow_drewN

set_option maxRecDepth 100000 in
set_option maxHeartbeats 2000000 in
theorem rnext_letter (s : ByteArray) (i : Nat) (w : World) (hs : s.size ≤ 4611686018427387904) (hi : i < s.size) (hl : Lx.isLetter s[i] = true) :
    Calls Tryd.prog 26 #[.string s, .int .i64 i] w fun e w' =>
      e = .returned (.tuple #[(Lx.scan (s.data.toList.drop i)).out i, .int .i64 (Lx.scan (s.data.toList.drop i)).err]) ∧ Below w.heap.size w w' := by
  have hd := drop_get s i hi
  have hsc : Lx.scan (s.data.toList.drop i) = if 24 < Lx.span Lx.isWord (s.data.toList.drop (i + 1)) + 1 then Lx.bad 2 else ⟨0, 1, 0, (s.data.toList.drop i).take (Lx.span Lx.isWord (s.data.toList.drop (i + 1)) + 1), Lx.span Lx.isWord (s.data.toList.drop (i + 1)) + 1⟩ := by
    rw [hd, Lx.scan, if_pos hl]
  have HSC := Lib.hid hsc
  have HL := Lib.hid hl
  clear hsc hd hl
  have hb0 : s[i].toNat < 256 := UInt8.toNat_lt s[i]
  go_enter Tryd.func26, Tryd.ntmps26
  go_wp2_with fail
  refine (rletter_any s[i] _).mono ?_
  rintro e w' ⟨rfl, rfl⟩
  rw [HL.out]
  go_wp2_with fail
  go_loop [6] (fun v => ∃ k : Nat, i + 1 ≤ k ∧ k ≤ s.size ∧ v = .int .i64 k ∧ i + 1 + Lx.span Lx.isWord (s.data.toList.drop (i + 1)) = k + Lx.span Lx.isWord (s.data.toList.drop k)) (fun v => s.size - (intOf v).toNat)
  case atStart => exact ⟨i + 1, by omega, by omega, by go_num, rfl⟩
  case round =>
    obtain ⟨k, hk1, hk2, rfl, hr⟩ := hrel
    have HR := Lib.hid hr
    clear hr
    by_cases hlt : k < s.size
    · have hdk := drop_get s k hlt
      have HDK := Lib.hid hdk
      clear hdk
      have hbk : s[k].toNat < 256 := UInt8.toNat_lt s[k]
      cases hwd : Lx.isWord s[k]
      · have he : i + 1 + Lx.span Lx.isWord (s.data.toList.drop (i + 1)) = k := by rw [HR.out, HDK.out, Lx.span_stop' hwd]; rfl
        have HE := Lib.hid he
        have HWD := Lib.hid hwd
        clear hwd HR
        go_wp2_with fail
        refine (rword_any s[k] _).mono ?_
        rintro e w' ⟨rfl, rfl⟩
        rw [HWD.out]
        have hm : Lx.span Lx.isWord (s.data.toList.drop (i + 1)) + 1 = k - i := by omega
        have HSC2 : RowKit.Hid (Lx.scan (s.data.toList.drop i) = if 24 < k - i then Lx.bad 2 else ⟨0, 1, 0, (s.data.toList.drop i).take (k - i), k - i⟩) := Lib.hid (by rw [← hm]; exact HSC.out)
        clear hm HSC HE
        by_cases h24 : 24 < k - i
        · have h24' : 24 < (k : Int) - (i : Int) := by omega
          go_wp2
          refine bodyPost_ret (v := .tuple #[.agg #[.int .i64 0, .int .i64 0, .int .i64 0, .string { data := #[] }], .int .i64 2]) (by simp [results, Tryd.results26, go_sem]) rfl ⟨?_, ?_⟩
          · rw [HSC2.out, if_pos h24]; rfl
          · exact bel_alloc (bel_alloc (bel_refl w) _) _
        · have h24' : ¬ (24 < (k : Int) - (i : Int)) := by omega
          have hx := extract_bs s i k
          go_wp2
          refine bodyPost_ret (v := .tuple #[.agg #[.int .i64 1, .int .i64 i, .int .i64 0, .string (bs ((s.data.toList.drop i).take (k - i)))], .int .i64 0]) ?_ rfl ⟨?_, ?_⟩
          · simp [results, Tryd.results26, go_sem]
          · rw [HSC2.out, if_neg h24]; rfl
          · exact bel_alloc (bel_alloc (bel_refl w) _) _
      · have he : i + 1 + Lx.span Lx.isWord (s.data.toList.drop (i + 1)) = k + 1 + Lx.span Lx.isWord (s.data.toList.drop (k + 1)) := by rw [HR.out, HDK.out, Lx.span_cons' hwd]; omega
        have HE := Lib.hid he
        have HWD := Lib.hid hwd
        clear hwd HR he
        go_wp2_with fail
        refine (rword_any s[k] _).mono ?_
        rintro e w' ⟨rfl, rfl⟩
        rw [HWD.out]
        go_wp2
        go_round
        case rel => exact ⟨k + 1, by omega, by omega, by go_num, HE.out⟩
        case measure => simp [intOf]; omega
    · have hdk : s.data.toList.drop k = [] := List.drop_eq_nil_of_le (by rw [← size_list]; omega)
      have he : i + 1 + Lx.span Lx.isWord (s.data.toList.drop (i + 1)) = k := by rw [HR.out, hdk]; rfl
      have HE := Lib.hid he
      clear hdk HR
      have hm : Lx.span Lx.isWord (s.data.toList.drop (i + 1)) + 1 = k - i := by omega
      have HSC2 : RowKit.Hid (Lx.scan (s.data.toList.drop i) = if 24 < k - i then Lx.bad 2 else ⟨0, 1, 0, (s.data.toList.drop i).take (k - i), k - i⟩) := Lib.hid (by rw [← hm]; exact HSC.out)
      clear hm HSC HE
      by_cases h24 : 24 < k - i
      · have h24' : 24 < (k : Int) - (i : Int) := by omega
        go_wp2
        refine bodyPost_ret (v := .tuple #[.agg #[.int .i64 0, .int .i64 0, .int .i64 0, .string { data := #[] }], .int .i64 2]) (by simp [results, Tryd.results26, go_sem]) rfl ⟨?_, ?_⟩
        · rw [HSC2.out, if_pos h24]; rfl
        · exact bel_alloc (bel_alloc (bel_refl w) _) _
      · have h24' : ¬ (24 < (k : Int) - (i : Int)) := by omega
        have hx := extract_bs s i k
        go_wp2
        refine bodyPost_ret (v := .tuple #[.agg #[.int .i64 1, .int .i64 i, .int .i64 0, .string (bs ((s.data.toList.drop i).take (k - i)))], .int .i64 0]) ?_ rfl ⟨?_, ?_⟩
        · simp [results, Tryd.results26, go_sem]
        · rw [HSC2.out, if_neg h24]; rfl
        · exact bel_alloc (bel_alloc (bel_refl w) _) _

end Go.Proofs.YtpnenbodmonkiaaDoor

/-
  LexerBeginnings: the law's walk: it returns true at every text.
-/
import Derived.Test.YtpnenbodmonkiaaDoorLexTok
import Derived.Test.YtpnenbodmonkiaaDoorLexLaw
namespace Go.Proofs.YtpnenbodmonkiaaDoor
open Go.RowKit
attribute [local go_sem] alloc_drewN setCell_drewN setRow_drewN

/-- Lex at every text, its slice written out -/
theorem lex_got (s : ByteArray) (w : World) (hs : s.size ≤ 9223372036854775807) {ts : List Lx.Tok} {e a : Int} (h : Lx.lex s.data.toList = (ts, e, a)) :
    Calls Tryd.prog 12 #[.string s] w fun en w' => ∃ A c, en = .returned (.tuple #[.slice A ts.length c, .int .i64 e, .int .i64 a]) ∧ TokRow w' w.heap.size (.slice A ts.length c) ts ∧ Below w.heap.size w w' := by
  refine (lex_any s w hs).mono ?_
  rintro en w' ⟨v, rfl, h1, h2⟩
  rw [h] at h1 ⊢
  obtain ⟨A, c, rfl⟩ := slice_of_row h1
  exact ⟨A, c, rfl, h1, h2⟩

set_option maxRecDepth 100000 in
set_option maxHeartbeats 2000000 in
theorem begin_any (s : ByteArray) (w : World) (hs : s.size ≤ 9223372036854775807) :
    Calls Tryd.prog 7 #[.string s] w fun e w' => e = .returned (.bool true) ∧ Below w.heap.size w w' := by
  by_cases hbig : 3000 < s.size
  · go_enter Tryd.func7, Tryd.ntmps7
    go_wp2_with fail
    refine (head_any _).mono ?_
    rintro e w1 ⟨rfl, hb1⟩
    have HB1 := Lib.hid hb1
    clear hb1
    go_wp2
    go_ret
    exact ⟨rfl, HB1.out⟩
  · rcases Lx.lex_small s.data.toList (by rw [← size_list]; omega) with ⟨ts, h1, h2⟩ | ⟨er, a, h1, h2⟩
    · have H2 := Lib.hid h2
      clear h1 h2
      go_enter Tryd.func7, Tryd.ntmps7
      go_wp2_with fail
      refine (head_any _).mono ?_
      rintro e w1 ⟨rfl, hb1⟩
      have HB1 := Lib.hid hb1
      clear hb1
      go_wp2_with fail
      refine (lex_got s _ hs H2.out).mono ?_
      rintro e w2 ⟨A, c, rfl, _, hb2⟩
      have HB2 := Lib.hid hb2
      clear hb2
      go_wp2
      go_ret
      exact ⟨rfl, bel_trans HB1.out HB2.out⟩
    · obtain ⟨l1, l2, ⟨ts, l3⟩, l4⟩ := Lx.err_law h1
      rw [Nat.sub_zero] at l2 l3 l4
      have hne := h1.ne
      have ha : a < s.size := by rw [size_list]; exact l2
      have e3 := Lx.lex_ok (by rw [List.length_take, ← size_list]; omega) l3
      have e4 := Lx.lex_err (by rw [List.length_drop, ← size_list]; omega) l4
      have x3 : s.extract 0 a = bs (s.data.toList.take a) := by rw [extract_bs]; simp
      have x4 : s.extract a s.size = bs (s.data.toList.drop a) := by
        rw [extract_bs, List.take_of_length_le]
        rw [List.length_drop, ← size_list]
        exact Nat.le_refl _
      have H2 := Lib.hid h2
      have E3 := Lib.hid e3
      have E4 := Lib.hid e4
      have hz0 : (er == 0) = false := by rw [beq_eq_false_iff_ne]; exact hne
      have hsz : (s.data.toList.take a).length ≤ 9223372036854775807 := by rw [List.length_take, ← size_list]; omega
      have hsz2 : (s.data.toList.drop a).length ≤ 9223372036854775807 := by rw [List.length_drop, ← size_list]; omega
      clear h1 h2 e3 e4 l1 l2 l3 l4 hne
      go_enter Tryd.func7, Tryd.ntmps7
      go_wp2_with fail
      refine (head_any _).mono ?_
      rintro e w1 ⟨rfl, hb1⟩
      have HB1 := Lib.hid hb1
      clear hb1
      go_wp2_with fail
      refine (lex_got s _ hs H2.out).mono ?_
      rintro e w2 ⟨A, c, rfl, _, hb2⟩
      have HB2 := Lib.hid hb2
      clear hb2
      go_wp2_with fail
      refine (lex_got (bs (s.data.toList.take a)) _ hsz E3.out).mono ?_
      rintro e w3 ⟨A3, c3, rfl, _, hb3⟩
      have HB3 := Lib.hid hb3
      clear hb3
      go_wp2_with fail
      refine (lex_got (bs (s.data.toList.drop a)) _ hsz2 E4.out).mono ?_
      rintro e w4 ⟨A4, c4, rfl, _, hb4⟩
      have HB4 := Lib.hid hb4
      clear hb4
      go_wp2
      go_ret
      exact ⟨rfl, bel_trans (bel_trans (bel_trans HB1.out HB2.out) HB3.out) HB4.out⟩
end Go.Proofs.YtpnenbodmonkiaaDoor

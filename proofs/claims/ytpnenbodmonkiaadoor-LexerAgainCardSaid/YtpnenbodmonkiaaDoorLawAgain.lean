/-
  LexerAgain: the law's walk: it returns true at every text.
-/
import Derived.Test.YtpnenbodmonkiaaDoorLexLists
set_option linter.unusedVariables false
namespace Go.Proofs.YtpnenbodmonkiaaDoor
open Go.RowKit
attribute [local go_sem] alloc_drewN setCell_drewN setRow_drewN Later.cell Later.frozen wrap64_nat wrap64_add wrap64_succ

namespace Lx
theorem LexOk.allText_len {o : Nat} {l : List UInt8} {ts : List Tok} (h : LexOk o l ts) : (allText ts).length ≤ 2 * l.length := by
  induction h with
  | done => simp [allText]
  | tok o l ts h he hr ih =>
    have hw := width_le he
    have hw1 := width_pos he
    have hwl := written_scan_length (l.drop (gap l)) (o + gap l) he
    have hg := gap_le l
    rw [List.length_drop] at hw ih
    have e : allText ((scan (l.drop (gap l))).tok (o + gap l) :: ts) = ((scan (l.drop (gap l))).tok (o + gap l)).written ++ [32] ++ allText ts := by simp [allText]
    rw [e, List.length_append, List.length_append, hwl, List.length_singleton]
    omega
end Lx

set_option maxRecDepth 100000 in
set_option maxHeartbeats 4000000 in
theorem again_any (s : ByteArray) (w : World) (hs : s.size ≤ 9223372036854775807) :
    Calls Tryd.prog 5 #[.string s] w fun e w' => e = .returned (.bool true) ∧ Below w.heap.size w w' := by
  by_cases hbig : 2000 < s.size
  · go_enter Tryd.func5, Tryd.ntmps5
    go_wp2_with fail
    refine (head_any _).mono ?_
    rintro e w1 ⟨rfl, hb1⟩
    have HB1 := Lib.hid hb1
    clear hb1
    go_wp2
    go_ret
    exact ⟨rfl, HB1.out⟩
  · have hsl : s.data.toList.length ≤ 2000 := by rw [← size_list]; omega
    rcases Lx.lex_small s.data.toList (by omega) with ⟨ts, h1, h2⟩ | ⟨er, a, h1, h2⟩
    · have htl := h1.length_le
      have hal := h1.allText_len
      obtain ⟨ts', h3, h4⟩ := Lx.again h1 0
      have e3 := Lx.lex_ok (by omega) h3
      have H2 := Lib.hid h2
      have E3 := Lib.hid e3
      have H4 := Lib.hid h4
      have hl1 : ts.length ≤ 100000 := by omega
      have hl2 : (Lx.allText ts).length ≤ 100000000 := by omega
      have hl3 : (bs (Lx.allText ts)).size ≤ 9223372036854775807 := by rw [bs_size]; omega
      clear h1 h2 h3 e3 h4
      go_enter Tryd.func5, Tryd.ntmps5
      go_wp2_with fail
      refine (head_any _).mono ?_
      rintro e w1 ⟨rfl, hb1⟩
      have HB1 := Lib.hid hb1
      clear hb1
      go_wp2_with fail
      refine (lex_got s _ hs H2.out).mono ?_
      rintro e w2 ⟨A, c, rfl, hrow, hb2⟩
      have HT := Lib.hid (TokAt.of_row hrow)
      have HB2 := Lib.hid hb2
      clear hb2 hrow
      go_wp2_with fail
      refine (all_any A c ts _ HT.out hl1 hl2).mono ?_
      rintro e w3 ⟨rfl, hb3⟩
      have HB3 := Lib.hid hb3
      clear hb3
      go_wp2_with fail
      refine (lex_got (bs (Lx.allText ts)) _ hl3 E3.out).mono ?_
      rintro e w4 ⟨A4, c4, rfl, hrow4, hb4⟩
      have HT4 := Lib.hid (TokAt.of_row hrow4)
      have HB4 := Lib.hid hb4
      clear hb4 hrow4
      go_wp2_with fail
      refine (alike_true A A4 c c4 ts ts' _ ((HT.out.bel HB3.out).bel HB4.out) HT4.out H4.out hl1).mono ?_
      rintro e w5 ⟨rfl, n, rfl⟩
      go_wp2
      go_ret
      exact ⟨rfl, bel_drewN (bel_trans (bel_trans (bel_trans HB1.out HB2.out) HB3.out) HB4.out) _⟩
    · have hne := h1.ne
      have hz0 : (er != 0) = true := by rw [bne_iff_ne]; exact hne
      have H2 := Lib.hid h2
      clear h1 h2 hne
      go_enter Tryd.func5, Tryd.ntmps5
      go_wp2_with fail
      refine (head_any _).mono ?_
      rintro e w1 ⟨rfl, hb1⟩
      have HB1 := Lib.hid hb1
      clear hb1
      go_wp2_with fail
      refine (lex_got s _ hs H2.out).mono ?_
      rintro e w2 ⟨A, c, rfl, _, hb2⟩
      have HB2 := Lib.hid hb2
      clear hb2
      go_wp2
      go_ret
      exact ⟨rfl, bel_trans HB1.out HB2.out⟩
end Go.Proofs.YtpnenbodmonkiaaDoor

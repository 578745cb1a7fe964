/-
  LexerPlaces: the law's walk: it returns true at every text.
-/
import Derived.Test.YtpnenbodmonkiaaDoorLawLongest
import Derived.Test.YtpnenbodmonkiaaDoorRef04A
set_option linter.unusedVariables false
namespace Go.Proofs.YtpnenbodmonkiaaDoor
open Go.RowKit
attribute [local go_sem] alloc_drewN setCell_drewN setRow_drewN Later.cell Later.frozen wrap64_nat wrap64_add wrap64_succ

namespace Lx
/-- the first token of a text, and what is behind it -/
theorem LexOk.head {o : Nat} {l : List UInt8} {t : Tok} {ts : List Tok} (h : LexOk o l (t :: ts)) :
    t.pos = ((o + gap l : Nat) : Int) ∧ t.written = (l.drop (gap l)).take t.written.length ∧ 1 ≤ t.written.length ∧ gap l + t.written.length ≤ l.length ∧ LexOk (o + gap l + t.written.length) (l.drop (gap l + t.written.length)) ts := by
  cases h with
  | tok _ _ _ h he hr =>
    have h1 := written_scan (l.drop (gap l)) (o + gap l) he
    have h2 := written_scan_length (l.drop (gap l)) (o + gap l) he
    have hw := width_le he
    rw [List.length_drop] at hw
    have hw1 := width_pos he
    have hlt : gap l < l.length := by
      rcases Nat.lt_or_ge (gap l) l.length with h1 | h1
      · exact h1
      · exact absurd (List.drop_eq_nil_of_le h1) h
    exact ⟨rfl, by rw [h2]; exact h1, by omega, by omega, by rw [h2]; exact hr⟩
theorem LexOk.last {o : Nat} {l : List UInt8} (h : LexOk o l []) : gap l = l.length := by
  cases h with
  | done _ _ h =>
    have h1 := gap_le l
    have h2 := congrArg List.length h
    rw [List.length_drop] at h2
    simp at h2
    omega
end Lx

theorem str_ne (l : List UInt8) (h : 1 ≤ l.length) : (bs l).toList.isEmpty = false := by
  rw [Lib.toList_data, bs_list]
  cases l with
  | nil => simp at h
  | cons c r => rfl

set_option maxRecDepth 100000 in
set_option maxHeartbeats 4000000 in
theorem places_any (s : ByteArray) (w : World) (hs : s.size ≤ 9223372036854775807) :
    Calls Tryd.prog 4 #[.string s] w fun e w' => e = .returned (.bool true) ∧ Below w.heap.size w w' := by
  by_cases hbig : 3000 < s.size
  · go_enter Tryd.func4, Tryd.ntmps4
    go_wp2_with fail
    refine (head_any _).mono ?_
    rintro e w1 ⟨rfl, hb1⟩
    have HB1 := Lib.hid hb1
    clear hb1
    go_wp2
    go_ret
    exact ⟨rfl, HB1.out⟩
  · have hsl : s.data.toList.length ≤ 3000 := by rw [← size_list]; omega
    rcases Lx.lex_small s.data.toList (by omega) with ⟨ts, h1, h2⟩ | ⟨er, a, h1, h2⟩
    · have htl := h1.length_le
      have H1 := Lib.hid h1
      have H2 := Lib.hid h2
      clear h1 h2
      go_enter Tryd.func4, Tryd.ntmps4
      go_wp2_with fail
      refine (head_any _).mono ?_
      rintro e w1 ⟨rfl, hb1⟩
      have HB1 := Lib.hid hb1
      clear hb1
      go_wp2_with fail
      refine (lex_got s _ hs H2.out).mono ?_
      rintro e w2 ⟨A, c, rfl, hrow, hb2⟩
      have HROW := Lib.hid hrow
      have HB2 := Lib.hid hb2
      clear hb2 hrow
      go_wp2
      go_loopw [7, 8] (fun ev i wr => ∃ k E : Nat, i = .int .i64 k ∧ ev = .int .i64 E ∧ k ≤ ts.length ∧ E ≤ s.size ∧ Lx.LexOk E (s.data.toList.drop E) (ts.drop k) ∧ Below w2.heap.size w2 wr) (fun _ i _ => ts.length - (intOf i).toNat)
      case atStart => exact ⟨0, 0, rfl, rfl, Nat.zero_le _, Nat.zero_le _, H1.out, bel_refl _⟩
      case round =>
        obtain ⟨k, E, rfl, rfl, hk, hE, hok, hbr⟩ := hrel
        have HBR := Lib.hid hbr
        have HOK := Lib.hid hok
        clear hbr hok
        by_cases hlt : k < ts.length
        · have ht : ts[k]? = some ts[k] := List.getElem?_eq_getElem (by omega)
          obtain ⟨g, rfl, hg1, hg2, a0, a1, a2, a3⟩ := HROW.out.tok k _ ht
          have hcons := List.drop_eq_getElem_cons hlt
          have hok := HOK.out
          rw [hcons] at hok
          obtain ⟨q1, q2, q3, q4, q5⟩ := hok.head
          have tl1 := Lx.text_le ts[k]
          clear hok hcons ht HOK
          generalize ts[k] = t at *
          have hgr : g < wr.heap.size := Nat.lt_of_lt_of_le hg2 HBR.out.size
          have c0 := (HBR.out.cell (p := ⟨g, k * 4, none⟩) hg2).trans a0
          have c1 := (HBR.out.cell (p := ⟨g, k * 4 + 1, none⟩) hg2).trans a1
          have c2 := (HBR.out.cell (p := ⟨g, k * 4 + 2, none⟩) hg2).trans a2
          have c3 := (HBR.out.cell (p := ⟨g, k * 4 + 3, none⟩) hg2).trans a3
          clear a0 a1 a2 a3
          have hgap := Lx.gap_take (s.data.toList.drop E) (Lx.gap (s.data.toList.drop E))
          rw [Nat.min_self] at hgap
          have hgl := Lx.gap_le (s.data.toList.drop E)
          rw [List.length_drop, ← size_list] at q4 hgl
          rw [List.drop_drop] at q2 q5
          obtain ⟨p, hp⟩ : ∃ p, E + Lx.gap (s.data.toList.drop E) = p := ⟨_, rfl⟩
          have hx1 := extract_bs s E p
          rw [← hp, Nat.add_sub_cancel_left] at hx1
          have hgaps : (Lx.gap ((s.data.toList.drop E).take (Lx.gap (s.data.toList.drop E))) == ((s.data.toList.drop E).take (Lx.gap (s.data.toList.drop E))).length) = true := by
            rw [hgap, List.length_take, List.length_drop, ← size_list, beq_iff_eq]
            omega
          rw [hp] at hx1 q1 q2 q5
          rw [← Nat.add_assoc, hp] at q5
          have hpE : E ≤ p := by omega
          have hpl : p + t.written.length ≤ s.size := by omega
          generalize (s.data.toList.drop E).take (Lx.gap (s.data.toList.drop E)) = G at *
          clear hp hgap hgl q4
          obtain ⟨tk, tp, tn, tt⟩ := t
          simp only [] at q1 tl1 c0 c1 c2 c3
          subst q1
          obtain ⟨W, hW⟩ : ∃ W, Lx.Tok.written ⟨tk, p, tn, tt⟩ = W := ⟨_, rfl⟩
          rw [hW] at q2 q3 q5 hpl tl1
          have hx2 := extract_bs s p (p + W.length)
          rw [Nat.add_sub_cancel_left, ← q2] at hx2
          have hne := str_ne W q3
          have HW := Lib.hid hW
          have HGAPS := Lib.hid hgaps
          have Q5 := Lib.hid q5
          clear hW hgaps q5 q2
          have hl1 : tt.length ≤ 4611686018427387904 := by omega
          have hpw63 : p + W.length ≤ 9223372036854775807 := by omega
          have hGl : G.length ≤ 4611686018427387904 := by
            have := congrArg ByteArray.size hx1
            rw [bs_size, ByteArray.size_extract] at this
            omega
          have hnotlt : ¬ (p : Int) < (E : Int) := by omega
          go_wp2_with fail
          refine (width_w tk p tn tt W HW.out _ hl1).mono ?_
          rintro e x1 ⟨rfl, hx1b⟩
          have HX1 := Lib.hid hx1b
          clear hx1b
          have hg1x : g < x1.heap.size := Nat.lt_of_lt_of_le hgr HX1.out.size
          have d0 := (HX1.out.cell (p := ⟨g, k * 4, none⟩) hgr).trans c0
          have d1 := (HX1.out.cell (p := ⟨g, k * 4 + 1, none⟩) hgr).trans c1
          have d2 := (HX1.out.cell (p := ⟨g, k * 4 + 2, none⟩) hgr).trans c2
          have d3 := (HX1.out.cell (p := ⟨g, k * 4 + 3, none⟩) hgr).trans c3
          go_wp2
          refine wp_region_later (by kernel_rfl) (by kernel_rfl) ?_
          repeat (go_big_quiet_step ((first | (go_at_call 16; with_reducible exact calls_later (written_w tk p tn tt W HW.out _ hl1)) | (go_at_call 15; with_reducible exact calls_later (width_w tk p tn tt W HW.out _ hl1)) | (go_at_call 17; with_reducible exact calls_later_quiet (rgaps_is G _ hGl HGAPS.out)))))
          refine wpQuiet_nil ?_
          rintro _ ⟨x2, rfl⟩
          have hg2x : g < x2.val.heap.size := Nat.lt_of_lt_of_le hg1x x2.bel.size
          go_wp2_with fail
          refine (width_w tk p tn tt W HW.out _ hl1).mono ?_
          rintro e x3 ⟨rfl, hx3b⟩
          have HX3 := Lib.hid hx3b
          clear hx3b
          go_wp2
          go_roundw
          case rel =>
            exact ⟨k + 1, p + W.length, by go_num, by go_num, by omega, hpl, Q5.out, bel_trans (bel_trans (bel_trans HBR.out HX1.out) x2.bel) HX3.out⟩
          case measure => simp [intOf]; omega
        · have hts : ts.drop k = [] := List.drop_eq_nil_of_le (by omega)
          have hok := HOK.out
          rw [hts] at hok
          have hgl := hok.last
          have hx1 : s.extract E s.size = bs (s.data.toList.drop E) := by
            rw [extract_bs, List.take_of_length_le]
            rw [List.length_drop, ← size_list]
            exact Nat.le_refl _
          have hgaps : (Lx.gap (s.data.toList.drop E) == (s.data.toList.drop E).length) = true := by rw [hgl]; simp
          have hGl : (s.data.toList.drop E).length ≤ 4611686018427387904 := by rw [List.length_drop, ← size_list]; omega
          have HGAPS := Lib.hid hgaps
          clear hts hok hgl hgaps
          go_wp2_with fail
          refine (rgaps_is _ _ hGl HGAPS.out).mono ?_
          rintro e x1 ⟨rfl, n, rfl⟩
          go_wp2
          go_ret
          exact ⟨rfl, bel_drewN (bel_trans (bel_trans HB1.out HB2.out) HBR.out) _⟩
    · obtain ⟨l1, l2, _, _⟩ := Lx.err_law h1
      rw [Nat.sub_zero] at l2
      have hne := h1.ne
      have ha : a < s.size := by rw [size_list]; exact l2
      have hz0 : (er != 0) = true := by rw [bne_iff_ne]; exact hne
      have H2 := Lib.hid h2
      clear h1 h2 hne l1 l2
      go_enter Tryd.func4, Tryd.ntmps4
      go_wp2_with fail
      refine (head_any _).mono ?_
      rintro e w1 ⟨rfl, hb1⟩
      have HB1 := Lib.hid hb1
      clear hb1
      go_wp2_with fail
      refine (lex_got s _ hs H2.out).mono ?_
      rintro e w2 ⟨A, c, rfl, _, hb2⟩
      have HB2 := Lib.hid hb2
      clear hb2
      go_wp2
      go_ret
      exact ⟨rfl, bel_trans HB1.out HB2.out⟩
end Go.Proofs.YtpnenbodmonkiaaDoor

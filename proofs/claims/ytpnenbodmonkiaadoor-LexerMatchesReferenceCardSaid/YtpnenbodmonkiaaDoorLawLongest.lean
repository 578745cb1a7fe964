/-
  LexerLongest: the law's walk: it returns true at every text.
-/
import Derived.Test.YtpnenbodmonkiaaDoorLexTokFns
import Derived.Test.YtpnenbodmonkiaaDoorLawBegin
set_option linter.unusedVariables false
namespace Go.Proofs.YtpnenbodmonkiaaDoor
open Go.RowKit
attribute [local go_sem] alloc_drewN setCell_drewN setRow_drewN Later.cell Later.frozen wrap64_nat wrap64_add wrap64_succ

theorem tok_cell (a : List Lx.Tok) (j : Nat) (t : Lx.Tok) (h : a[j]? = some t) (r : Nat) (hr : r < 4) : (tokCells a)[j * 4 + r]? = t.cells[r]? := by
  induction a generalizing j with
  | nil => simp at h
  | cons x l ih =>
    have e : tokCells (x :: l) = x.cells ++ tokCells l := rfl
    have hl : x.cells.length = 4 := rfl
    cases j with
    | zero =>
      have hx : x = t := by simpa using h
      rw [e, Nat.zero_mul, Nat.zero_add, List.getElem?_append_left (by omega), hx]
    | succ j =>
      rw [e, List.getElem?_append_right (by omega), hl, show (j + 1) * 4 + r - 4 = j * 4 + r from by omega]
      exact ih j (by simpa using h)

/-- the four cells of a token of a row -/
theorem TokRow.tok {w : World} {base : Nat} {A : Option Addr} {n c : Nat} {l : List Lx.Tok} (h : TokRow w base (.slice A n c) l) (j : Nat) (t : Lx.Tok) (hj : l[j]? = some t) :
    ∃ g, A = some ⟨g, 0, none⟩ ∧ base ≤ g ∧ g < w.heap.size ∧ w.cell? ⟨g, j * 4, none⟩ = some (.int .i64 t.kind) ∧ w.cell? ⟨g, j * 4 + 1, none⟩ = some (.int .i64 t.pos) ∧
      w.cell? ⟨g, j * 4 + 2, none⟩ = some (.int .i64 t.n) ∧ w.cell? ⟨g, j * 4 + 3, none⟩ = some (.string (bs t.text)) := by
  have hlt := (List.getElem?_eq_some_iff.1 hj).1
  obtain ⟨g, h1, h2, h3, h4⟩ := h.cells (by omega)
  exact ⟨g, h1, h2, h3, h4 (j * 4 + 0) _ (tok_cell l j t hj 0 (by omega)), h4 _ _ (tok_cell l j t hj 1 (by omega)), h4 _ _ (tok_cell l j t hj 2 (by omega)), h4 _ _ (tok_cell l j t hj 3 (by omega))⟩

namespace Lx
/-- two tokens that follow each other: where they stand -/
theorem follow {o : Nat} {l : List UInt8} {ts : List Tok} (h : LexOk o l ts) (j : Nat) (t u : Tok) (ht : ts[j]? = some t) (hu : ts[j + 1]? = some u) (hadj : t.pos + t.written.length = u.pos) :
    (t.written ++ u.written).length ≤ l.length ∧ ∀ ts', LexOk 0 (t.written ++ u.written) ts' → ts'.length ≠ 1 := by
  induction h generalizing j with
  | done => simp at ht
  | tok o l ts h he hr ih =>
    cases j with
    | succ j =>
      obtain ⟨h1, h2⟩ := ih j (by simpa using ht) (by simpa using hu)
      refine ⟨?_, h2⟩
      rw [List.length_drop] at h1
      omega
    | zero =>
      have e1 : t = (scan (l.drop (gap l))).tok (o + gap l) := by simpa using ht.symm
      have hu' : ts[0]? = some u := by simpa using hu
      cases hr with
      | done => simp at hu'
      | tok _ _ ts2 h2 he2 hr2 =>
        have e2 := hu'
        simp only [List.getElem?_cons_zero, Option.some.injEq] at e2
        have e2 := e2.symm
        have hw1 := written_scan (l.drop (gap l)) (o + gap l) he
        have hl1 := written_scan_length (l.drop (gap l)) (o + gap l) he
        rw [← List.drop_drop] at h2 he2 e2
        generalize hx : l.drop (gap l) = x at *
        have hgx : gap x = 0 := by rw [← hx]; exact gap_idem l
        have hw2 := written_scan ((x.drop (scan x).width).drop (gap (x.drop (scan x).width))) (o + gap l + (scan x).width + gap (x.drop (scan x).width)) he2
        have hl2 := written_scan_length ((x.drop (scan x).width).drop (gap (x.drop (scan x).width))) (o + gap l + (scan x).width + gap (x.drop (scan x).width)) he2
        rw [← e1] at hw1 hl1
        rw [← e2] at hw2 hl2
        have p1 : t.pos = ((o + gap l : Nat) : Int) := by rw [e1]; rfl
        have p2 : u.pos = ((o + gap l + (scan x).width + gap (x.drop (scan x).width) : Nat) : Int) := by rw [e2]; rfl
        have hg0 : gap (x.drop (scan x).width) = 0 := by rw [p1, p2, hl1] at hadj; omega
        rw [hg0, List.drop_zero] at hw2 he2 hl2
        have hb1 := width_le he
        have hb2 := width_le he2
        rw [List.length_drop] at hb2
        have hxl : x.length ≤ l.length := by rw [← hx, List.length_drop]; omega
        have hcat : t.written ++ u.written = x.take ((scan x).width + (scan (x.drop (scan x).width)).width) := by
          rw [hw1, hw2, List.take_add]
        refine ⟨by rw [List.length_append, hl1, hl2]; omega, fun ts' hts => ?_⟩
        rw [hcat] at hts
        exact longest x he hgx he2 hg0 hts
end Lx

set_option maxRecDepth 100000 in
set_option maxHeartbeats 2000000 in
theorem longest_any (s : ByteArray) (w : World) (hs : s.size ≤ 9223372036854775807) :
    Calls Tryd.prog 9 #[.string s] w fun e w' => e = .returned (.bool true) ∧ Below w.heap.size w w' := by
  by_cases hbig : 3000 < s.size
  · go_enter Tryd.func9, Tryd.ntmps9
    go_wp2_with fail
    refine (head_any _).mono ?_
    rintro e w1 ⟨rfl, hb1⟩
    have HB1 := Lib.hid hb1
    clear hb1
    go_wp2
    go_ret
    exact ⟨rfl, HB1.out⟩
  · have hsl : s.data.toList.length ≤ 3000 := by rw [← size_list]; omega
    rcases Lx.lex_small s.data.toList (by omega) with ⟨ts, h1, h2⟩ | ⟨er, a, h1, h2⟩
    · have htl := h1.length_le
      have H1 := Lib.hid h1
      have H2 := Lib.hid h2
      clear h1 h2
      go_enter Tryd.func9, Tryd.ntmps9
      go_wp2_with fail
      refine (head_any _).mono ?_
      rintro e w1 ⟨rfl, hb1⟩
      have HB1 := Lib.hid hb1
      clear hb1
      go_wp2_with fail
      refine (lex_got s _ hs H2.out).mono ?_
      rintro e w2 ⟨A, c, rfl, hrow, hb2⟩
      have HROW := Lib.hid hrow
      have HB2 := Lib.hid hb2
      clear hb2 hrow
      go_wp2
      go_loopw [7] (fun i wr => ∃ k : Nat, i = .int .i64 (k + 1 : Nat) ∧ k ≤ ts.length ∧ Below w2.heap.size w2 wr) (fun i _ => ts.length + 1 - (intOf i).toNat)
      case atStart => exact ⟨0, rfl, Nat.zero_le _, bel_refl _⟩
      case round =>
        obtain ⟨k, rfl, hk, hbr⟩ := hrel
        have HBR := Lib.hid hbr
        clear hbr
        by_cases hlt : k + 1 < ts.length
        · have ht : ts[k]? = some ts[k] := List.getElem?_eq_getElem (by omega)
          have hu : ts[k + 1]? = some ts[k + 1] := List.getElem?_eq_getElem hlt
          obtain ⟨g, rfl, hg1, hg2, a0, a1, a2, a3⟩ := HROW.out.tok k _ ht
          obtain ⟨g', hgg, _, _, b0, b1, b2, b3⟩ := HROW.out.tok (k + 1) _ hu
          obtain rfl : g = g' := by simpa using hgg
          have HT := Lib.hid ht
          have HU := Lib.hid hu
          clear ht hu hgg
          generalize ts[k] = t at *
          generalize ts[k + 1] = u at *
          have hgr : g < wr.heap.size := Nat.lt_of_lt_of_le hg2 HBR.out.size
          have c0 := (HBR.out.cell (p := ⟨g, k * 4, none⟩) hg2).trans a0
          have c1 := (HBR.out.cell (p := ⟨g, k * 4 + 1, none⟩) hg2).trans a1
          have c2 := (HBR.out.cell (p := ⟨g, k * 4 + 2, none⟩) hg2).trans a2
          have c3 := (HBR.out.cell (p := ⟨g, k * 4 + 3, none⟩) hg2).trans a3
          have d0 := (HBR.out.cell (p := ⟨g, (k + 1) * 4, none⟩) hg2).trans b0
          have d1 := (HBR.out.cell (p := ⟨g, (k + 1) * 4 + 1, none⟩) hg2).trans b1
          have d2 := (HBR.out.cell (p := ⟨g, (k + 1) * 4 + 2, none⟩) hg2).trans b2
          have d3 := (HBR.out.cell (p := ⟨g, (k + 1) * 4 + 3, none⟩) hg2).trans b3
          clear a0 a1 a2 a3 b0 b1 b2 b3
          obtain ⟨p, hp, _, hp2⟩ := H1.out.place k t HT.out
          obtain ⟨q, hq, _, hq2⟩ := H1.out.place (k + 1) u HU.out
          have hfol := Lx.follow H1.out k t u HT.out HU.out
          have tl1 := Lx.text_le t
          have tl2 := Lx.text_le u
          obtain ⟨tk, tp, tn, tt⟩ := t
          obtain ⟨uk, up, un, ut⟩ := u
          simp only [] at hp hq hfol tl1 tl2
          subst hp
          subst hq
          obtain ⟨W, hW⟩ : ∃ W, Lx.Tok.written ⟨tk, p, tn, tt⟩ = W := ⟨_, rfl⟩
          obtain ⟨V, hV⟩ : ∃ V, Lx.Tok.written ⟨uk, q, un, ut⟩ = V := ⟨_, rfl⟩
          rw [hW] at hp2 hfol tl1
          rw [hV] at hq2 hfol tl2
          have HW := Lib.hid hW
          have HV := Lib.hid hV
          clear hW hV HT HU
          have hk63 : k ≤ 9223372036854775807 := by omega
          have hpw63 : p + W.length ≤ 9223372036854775807 := by omega
          by_cases hadj : ((p : Int) + (W.length : Int) != (q : Int)) = true
          · clear hfol
            go_wp2
            refine wp_region_later (by kernel_rfl) (by kernel_rfl) ?_
            repeat (go_big_quiet_step ((go_at_call 15; exact calls_later (width_w _ _ _ _ W HW.out _ (by omega)))))
            refine wpQuiet_nil ?_
            rintro _ ⟨x, rfl⟩
            go_wp2
            go_roundw
            case rel => exact ⟨k + 1, by go_num, by omega, bel_trans HBR.out x.bel⟩
            case measure => simp [intOf]; omega
          · have hadj' : ((p : Int) + (W.length : Int) != (q : Int)) = false := by simpa using hadj
            obtain ⟨f1, f2⟩ := hfol (by simpa using hadj)
            clear hadj
            have F2 := Lib.hid f2
            clear f2
            have hcat : (W ++ V).length ≤ 3000 := by omega
            rcases Lx.lex_small (W ++ V) (by omega) with ⟨ts', g1, g2⟩ | ⟨er, a, g1, g2⟩
            · have hne := F2.out ts' g1
              have hne' : ((ts'.length : Int) == 1) = false := by rw [beq_eq_false_iff_ne]; omega
              have G2 := Lib.hid g2
              clear g1 g2 hne
              go_wp2
              refine wp_region_later (by kernel_rfl) (by kernel_rfl) ?_
              repeat (go_big_quiet_step ((go_at_call 15; exact calls_later (width_w _ _ _ _ W HW.out _ (by omega)))))
              refine wpQuiet_nil ?_
              rintro _ ⟨x, rfl⟩
              have hl1 : tt.length ≤ 4611686018427387904 := by omega
              have hl2 : ut.length ≤ 4611686018427387904 := by omega
              have hWV : W.length + V.length ≤ 9223372036854775807 := by omega
              have hgx : g < x.val.heap.size := Nat.lt_of_lt_of_le hgr x.bel.size
              go_wp2
              refine wp_region_later_mid 12 (by kernel_rfl) (by kernel_rfl) ?_
              simp only [List.take_succ_cons, List.take_zero, List.drop_succ_cons, List.drop_zero]
              repeat (go_big_quiet_step ((first | (go_at_call 16; with_reducible exact calls_later (written_w tk p tn tt W HW.out _ hl1)) | (go_at_call 16; with_reducible exact calls_later (written_w uk q un ut V HV.out _ hl2)))))
              refine wpQuiet_nil ?_
              rintro _ ⟨y, rfl⟩
              rw [app_bs, bs_list, bs_list]
              go_wp2_with fail
              refine (lex_got (bs (W ++ V)) _ (by rw [bs_size]; omega) G2.out).mono ?_
              rintro e w5 ⟨A5, c5, rfl, _, hb5⟩
              have HB5 := Lib.hid hb5
              clear hb5
              go_wp2_with fail
              repeat (go_big_quiet_step ((fail)))
              refine wpQuiet_nil ?_
              go_wp2
              go_roundw
              case rel => exact ⟨k + 1, by go_num, by omega, bel_trans (bel_trans (bel_trans HBR.out x.bel) y.bel) HB5.out⟩
              case measure => simp [intOf]; omega
            · have hne := g1.ne
              have hne' : (er == 0) = false := by rw [beq_eq_false_iff_ne]; exact hne
              have G2 := Lib.hid g2
              clear g1 g2 hne
              go_wp2
              refine wp_region_later (by kernel_rfl) (by kernel_rfl) ?_
              repeat (go_big_quiet_step ((go_at_call 15; exact calls_later (width_w _ _ _ _ W HW.out _ (by omega)))))
              refine wpQuiet_nil ?_
              rintro _ ⟨x, rfl⟩
              have hl1 : tt.length ≤ 4611686018427387904 := by omega
              have hl2 : ut.length ≤ 4611686018427387904 := by omega
              have hWV : W.length + V.length ≤ 9223372036854775807 := by omega
              have hgx : g < x.val.heap.size := Nat.lt_of_lt_of_le hgr x.bel.size
              go_wp2
              refine wp_region_later_mid 12 (by kernel_rfl) (by kernel_rfl) ?_
              simp only [List.take_succ_cons, List.take_zero, List.drop_succ_cons, List.drop_zero]
              repeat (go_big_quiet_step ((first | (go_at_call 16; with_reducible exact calls_later (written_w tk p tn tt W HW.out _ hl1)) | (go_at_call 16; with_reducible exact calls_later (written_w uk q un ut V HV.out _ hl2)))))
              refine wpQuiet_nil ?_
              rintro _ ⟨y, rfl⟩
              rw [app_bs, bs_list, bs_list]
              go_wp2_with fail
              refine (lex_got (bs (W ++ V)) _ (by rw [bs_size]; omega) G2.out).mono ?_
              rintro e w5 ⟨A5, c5, rfl, _, hb5⟩
              have HB5 := Lib.hid hb5
              clear hb5
              go_wp2_with fail
              repeat (go_big_quiet_step ((fail)))
              refine wpQuiet_nil ?_
              go_wp2
              go_roundw
              case rel => exact ⟨k + 1, by go_num, by omega, bel_trans (bel_trans (bel_trans HBR.out x.bel) y.bel) HB5.out⟩
              case measure => simp [intOf]; omega
        · go_wp2
          go_ret
          exact ⟨rfl, bel_trans (bel_trans HB1.out HB2.out) HBR.out⟩
    · have hne := h1.ne
      have hz0 : (er == 0) = false := by rw [beq_eq_false_iff_ne]; exact hne
      have H2 := Lib.hid h2
      clear h1 h2 hne
      go_enter Tryd.func9, Tryd.ntmps9
      go_wp2_with fail
      refine (head_any _).mono ?_
      rintro e w1 ⟨rfl, hb1⟩
      have HB1 := Lib.hid hb1
      clear hb1
      go_wp2_with fail
      refine (lex_got s _ hs H2.out).mono ?_
      rintro e w2 ⟨A, c, rfl, _, hb2⟩
      have HB2 := Lib.hid hb2
      clear hb2
      go_wp2
      refine wp_loop_rounds 1 ?_
      rw [rounds_succ]
      go_wp2
      go_ret
      exact ⟨rfl, bel_trans HB1.out HB2.out⟩
end Go.Proofs.YtpnenbodmonkiaaDoor

/-
  LexerGaps: the law's walk: it returns true at every text, gaps and number.
-/
import Derived.Test.YtpnenbodmonkiaaDoorLexLists
import Derived.Test.YtpnenbodmonkiaaDoorLexGaps
import Derived.Test.YtpnenbodmonkiaaDoorRef04A
set_option linter.unusedVariables false
namespace Go.Proofs.YtpnenbodmonkiaaDoor
open Go.RowKit
attribute [local go_sem] alloc_drewN setCell_drewN setRow_drewN Later.cell Later.frozen wrap64_nat wrap64_add wrap64_succ

/-- the whole text, in one piece -/
def spread (s g : ByteArray) (m : Nat) : List UInt8 := (g.data.toList ++ [10]) ++ (s.data.toList.take m ++ ((g.data.toList ++ [10]) ++ (s.data.toList.drop m ++ (10 :: g.data.toList))))
theorem spread_bs (s g : ByteArray) (m : Nat) (hm : m ≤ s.size) : g ++ { data := #[10] } ++ s.extract 0 m ++ (g ++ { data := #[10] }) ++ s.extract m s.size ++ { data := #[10] } ++ g = bs (spread s g m) := by
  have h1 : s.extract 0 m = bs (s.data.toList.take m) := by rw [extract_bs]; simp
  have h2 : s.extract m s.size = bs (s.data.toList.drop m) := by
    rw [extract_bs, List.take_of_length_le]
    rw [List.length_drop, ← size_list]
    exact Nat.le_refl _
  rw [h1, h2]
  simp only [app_bs, bs_list]
  congr 1
  simp [spread]
theorem spread_len (s g : ByteArray) (m : Nat) : (spread s g m).length = s.size + 3 * g.size + 3 := by
  have h1 := size_list s
  have h2 := size_list g
  simp only [spread, List.length_append, List.length_cons, List.length_nil, List.length_take, List.length_drop]
  omega

set_option maxRecDepth 100000 in
set_option maxHeartbeats 4000000 in
theorem gaps_out (s g : ByteArray) (v : Int) (w : World) (hs : s.size ≤ 9223372036854775807) (hg : g.size ≤ 9223372036854775807) (h : 1500 < s.size ∨ 300 < g.size ∨ (g.size ≤ 300 ∧ (Lx.gap g.data.toList == g.data.toList.length) = false)) :
    Calls Tryd.prog 8 #[.string s, .string g, .int .u16 v] w fun e w' => e = .returned (.bool true) ∧ Below w.heap.size w w' := by
  by_cases h1 : 1500 < s.size
  · clear h
    go_enter Tryd.func8, Tryd.ntmps8
    go_wp2_with fail
    refine (head_any _).mono ?_
    rintro e w1 ⟨rfl, hb1⟩
    have HB1 := Lib.hid hb1
    clear hb1
    go_wp2
    go_ret
    exact ⟨rfl, HB1.out⟩
  · by_cases h2 : 300 < g.size
    · clear h
      go_enter Tryd.func8, Tryd.ntmps8
      go_wp2_with fail
      refine (head_any _).mono ?_
      rintro e w1 ⟨rfl, hb1⟩
      have HB1 := Lib.hid hb1
      clear hb1
      go_wp2
      go_ret
      exact ⟨rfl, HB1.out⟩
    · have hgl : (bs g.data.toList) = g := rfl
      have h3 : (Lx.gap g.data.toList == g.data.toList.length) = false := by
        rcases h with h | h | h
        · exact absurd h h1
        · exact absurd h h2
        · exact h.2
      have H3 := Lib.hid h3
      have hgz : g.data.toList.length ≤ 4611686018427387904 := by rw [← size_list]; omega
      have HC : ∀ w : World, Calls Tryd.prog 17 #[.string g] w fun e w' => e = .returned (.bool false) ∧ ∃ n, w' = w.drewN n := fun w => by
        have := rgaps_is g.data.toList w hgz H3.out
        rw [hgl] at this
        exact this
      have HCC := Lib.hid HC
      clear h h3 HC hgl
      go_enter Tryd.func8, Tryd.ntmps8
      go_wp2_with fail
      refine (head_any _).mono ?_
      rintro e w1 ⟨rfl, hb1⟩
      have HB1 := Lib.hid hb1
      clear hb1
      go_wp2_with fail
      refine (HCC.out _).mono ?_
      rintro e w2 ⟨rfl, n, rfl⟩
      go_wp2
      go_ret
      exact ⟨rfl, bel_drewN HB1.out _⟩

set_option maxRecDepth 100000 in
set_option maxHeartbeats 4000000 in
theorem gaps_err (s g : ByteArray) (v : Int) (w : World) (hs : s.size ≤ 1500) (hg : g.size ≤ 300) (h : (Lx.gap g.data.toList == g.data.toList.length) = true) (ts : List Lx.Tok) (er a : Int) (h1 : Lx.lex s.data.toList = (ts, er, a)) (hne : er ≠ 0) :
    Calls Tryd.prog 8 #[.string s, .string g, .int .u16 v] w fun e w' => e = .returned (.bool true) ∧ Below w.heap.size w w' := by
  have hz0 : (er != 0) = true := by rw [bne_iff_ne]; exact hne
  have hgl : (bs g.data.toList) = g := rfl
  have hsz : s.size ≤ 9223372036854775807 := by omega
  have hgz : g.data.toList.length ≤ 4611686018427387904 := by rw [← size_list]; omega
  have HC : ∀ w : World, Calls Tryd.prog 17 #[.string g] w fun e w' => e = .returned (.bool true) ∧ ∃ n, w' = w.drewN n := fun w => by
    have := rgaps_is g.data.toList w hgz h
    rw [hgl] at this
    exact this
  have HCC := Lib.hid HC
  have H1 := Lib.hid h1
  clear h HC hgl h1 hne
  go_enter Tryd.func8, Tryd.ntmps8
  go_wp2_with fail
  refine (head_any _).mono ?_
  rintro e w1 ⟨rfl, hb1⟩
  have HB1 := Lib.hid hb1
  clear hb1
  go_wp2_with fail
  refine (HCC.out _).mono ?_
  rintro e w2 ⟨rfl, n, rfl⟩
  go_wp2_with fail
  refine (lex_got s _ hsz H1.out).mono ?_
  rintro e w3 ⟨A, c, rfl, _, hb3⟩
  have HB3 := Lib.hid hb3
  clear hb3
  go_wp2
  go_ret
  exact ⟨rfl, bel_trans (bel_drewN HB1.out _) HB3.out⟩

set_option maxRecDepth 100000 in
set_option maxHeartbeats 4000000 in
theorem gaps_none (s g : ByteArray) (v : Int) (w : World) (hs : s.size ≤ 1500) (hg : g.size ≤ 300) (h : (Lx.gap g.data.toList == g.data.toList.length) = true) (n1 n2 : Int) (h1 : Lx.lex s.data.toList = ([], 0, n1))
    (ts' : List Lx.Tok) (h2 : Lx.lex (spread s g 0) = (ts', 0, n2)) (hl : Lx.Likes [] ts') :
    Calls Tryd.prog 8 #[.string s, .string g, .int .u16 v] w fun e w' => e = .returned (.bool true) ∧ Below w.heap.size w w' := by
  have hgl : (bs g.data.toList) = g := rfl
  have hsz : s.size ≤ 9223372036854775807 := by omega
  have hgz : g.data.toList.length ≤ 4611686018427387904 := by rw [← size_list]; omega
  have HC : ∀ w : World, Calls Tryd.prog 17 #[.string g] w fun e w' => e = .returned (.bool true) ∧ ∃ n, w' = w.drewN n := fun w => by
    have := rgaps_is g.data.toList w hgz h
    rw [hgl] at this
    exact this
  have hsb : g ++ { data := #[10] } ++ (g ++ { data := #[10] }) ++ s ++ { data := #[10] } ++ g = bs (spread s g 0) := by
    rw [← spread_bs s g 0 (Nat.zero_le _)]
    simp
  have hspz : (bs (spread s g 0)).size ≤ 9223372036854775807 := by rw [bs_size, spread_len]; omega
  have HCC := Lib.hid HC
  have H1 := Lib.hid h1
  have H2 := Lib.hid h2
  have HL := Lib.hid hl
  have HSB := Lib.hid hsb
  clear h HC hgl h1 h2 hl hsb
  go_enter Tryd.func8, Tryd.ntmps8
  go_wp2_with fail
  refine (head_any _).mono ?_
  rintro e w1 ⟨rfl, hb1⟩
  have HB1 := Lib.hid hb1
  clear hb1
  go_wp2_with fail
  refine (HCC.out _).mono ?_
  rintro e w2 ⟨rfl, n, rfl⟩
  go_wp2_with fail
  refine (lex_got s _ hsz H1.out).mono ?_
  rintro e w3 ⟨A, c, rfl, hr3, hb3⟩
  have HB3 := Lib.hid hb3
  clear hb3 hr3
  go_wp2
  refine wp_region_later_mid 14 (by kernel_rfl) (by kernel_rfl) ?_
  simp only [List.take_succ_cons, List.take_zero, List.drop_succ_cons, List.drop_zero]
  repeat (go_big_quiet_step ((fail)))
  refine wpQuiet_nil ?_
  rintro _ ⟨x, rfl⟩
  go_wp2_with fail
  rw [HSB.out]
  refine (lex_got (bs (spread s g 0)) _ hspz H2.out).mono ?_
  rintro e w5 ⟨A5, c5, rfl, hr5, hb5⟩
  have HT5 := Lib.hid (TokAt.of_row hr5)
  have HB5 := Lib.hid hb5
  clear hb5 hr5
  go_wp2_with fail
  repeat (go_big_quiet_step ((fail)))
  refine wpQuiet_nil ?_
  go_wp2_with fail
  refine (alike_true A A5 c c5 [] ts' _ (fun h => absurd h (Nat.lt_irrefl 0)) HT5.out HL.out (by simp)).mono ?_
  rintro e w6 ⟨rfl, n6, rfl⟩
  go_wp2
  go_ret
  exact ⟨rfl, bel_drewN (bel_trans (bel_trans (bel_trans (bel_drewN HB1.out _) HB3.out) x.bel) HB5.out) _⟩

set_option maxRecDepth 100000 in
set_option maxHeartbeats 4000000 in
theorem gaps_some (s g : ByteArray) (u : Nat) (w : World) (hu : u < 65536) (hs : s.size ≤ 1500) (hg : g.size ≤ 300) (h : (Lx.gap g.data.toList == g.data.toList.length) = true) (a : List Lx.Tok) (n1 n2 : Int) (h1 : Lx.lex s.data.toList = (a, 0, n1))
    (ha : 0 < a.length) (ha2 : a.length ≤ 1500) (t : Lx.Tok) (ht : a[u % a.length]? = some t) (p : Nat) (hp : t.pos = p) (hm : p + t.written.length ≤ s.size)
    (ts' : List Lx.Tok) (h2 : Lx.lex (spread s g (p + t.written.length)) = (ts', 0, n2)) (hl : Lx.Likes a ts') :
    Calls Tryd.prog 8 #[.string s, .string g, .int .u16 u] w fun e w' => e = .returned (.bool true) ∧ Below w.heap.size w w' := by
  have hgl : (bs g.data.toList) = g := rfl
  have hsz : s.size ≤ 9223372036854775807 := by omega
  have hgz : g.data.toList.length ≤ 4611686018427387904 := by rw [← size_list]; omega
  have HC : ∀ w : World, Calls Tryd.prog 17 #[.string g] w fun e w' => e = .returned (.bool true) ∧ ∃ n, w' = w.drewN n := fun w => by
    have := rgaps_is g.data.toList w hgz h
    rw [hgl] at this
    exact this
  have htl := Lx.text_le t
  have hsb := spread_bs s g (p + t.written.length) hm
  have hspz : (bs (spread s g (p + t.written.length))).size ≤ 9223372036854775807 := by rw [bs_size, spread_len]; omega
  have hmod : (u : Int).tmod (a.length : Int) = ((u % a.length : Nat) : Int) := rfl
  have hml : u % a.length < a.length := Nat.mod_lt _ ha
  have hl1 : a.length ≤ 100000 := by omega
  obtain ⟨tk, tp, tn, tt⟩ := t
  simp only [] at hp htl
  subst hp
  obtain ⟨W, hW⟩ : ∃ W, Lx.Tok.written ⟨tk, p, tn, tt⟩ = W := ⟨_, rfl⟩
  rw [hW] at hm h2 hsb hspz htl
  have hWt : tt.length ≤ 4611686018427387904 := by omega
  have hpw : p + W.length ≤ 9223372036854775807 := by omega
  have hnl : ¬ ((p : Int) + (W.length : Int) < 0) := by omega
  have hng : ¬ ((s.size : Int) < (p : Int) + (W.length : Int)) := by omega
  have HW := Lib.hid hW
  have HCC := Lib.hid HC
  have H1 := Lib.hid h1
  have H2 := Lib.hid h2
  have HL := Lib.hid hl
  have HSB := Lib.hid hsb
  have HT := Lib.hid ht
  clear h HC hgl h1 h2 hl hsb ht hW
  go_enter Tryd.func8, Tryd.ntmps8
  go_wp2_with fail
  refine (head_any _).mono ?_
  rintro e w1 ⟨rfl, hb1⟩
  have HB1 := Lib.hid hb1
  clear hb1
  go_wp2_with fail
  refine (HCC.out _).mono ?_
  rintro e w2 ⟨rfl, n, rfl⟩
  go_wp2_with fail
  refine (lex_got s _ hsz H1.out).mono ?_
  rintro e w3 ⟨A, c, rfl, hr3, hb3⟩
  have HT3 := Lib.hid (TokAt.of_row hr3)
  obtain ⟨g3, off, rfl, hg3, a0, a1, a2, a3⟩ := HT3.out.tok _ _ HT.out
  simp only [] at a0 a1 a2 a3
  generalize u % a.length = k at *
  have HB3 := Lib.hid hb3
  clear hb3 hr3
  go_wp2
  have hblk := Blk.new w3 30 #[.int .i64 tk, .int .i64 p, .int .i64 tn, .string (bs tt)]
  have hlt4 : w3.heap.size < (w3.alloc (.cells #[.int .i64 tk, .int .i64 p, .int .i64 tn, .string (bs tt)] 30)).heap.size := hblk.lt
  have hb4 := bel_alloc (bel_refl w3) (.cells #[.int .i64 tk, .int .i64 p, .int .i64 tn, .string (bs tt)] 30)
  have b0 := hblk.cell 0
  have b1 := hblk.cell 1
  have b2 := hblk.cell 2
  have b3 := hblk.cell 3
  simp only [List.getElem?_toArray, List.getElem?_cons_zero, List.getElem?_cons_succ] at b0 b1 b2 b3
  generalize w3.alloc (.cells #[.int .i64 tk, .int .i64 p, .int .i64 tn, .string (bs tt)] 30) = w4 at *
  generalize hB : w3.heap.size = b at *
  have HB4 := Lib.hid hb4
  have HLEN := Lib.hid hB
  clear hb4 hblk hB
  refine wp_region_later (by kernel_rfl) (by kernel_rfl) ?_
  repeat (go_big_quiet_step ((go_at_call 15; with_reducible exact calls_later (width_w tk p tn tt W HW.out _ hWt))))
  refine wpQuiet_nil ?_
  rintro _ ⟨y, rfl⟩
  go_wp2
  refine wp_region_later_mid 14 (by kernel_rfl) (by kernel_rfl) ?_
  simp only [List.take_succ_cons, List.take_zero, List.drop_succ_cons, List.drop_zero]
  repeat (go_big_quiet_step ((fail)))
  refine wpQuiet_nil ?_
  rintro _ ⟨x, rfl⟩
  go_wp2_with fail
  rw [HSB.out]
  refine (lex_got (bs (spread s g (p + W.length))) _ hspz H2.out).mono ?_
  rintro e w5 ⟨A5, c5, rfl, hr5, hb5⟩
  have HT5 := Lib.hid (TokAt.of_row hr5)
  have HB5 := Lib.hid hb5
  clear hb5 hr5
  go_wp2_with fail
  repeat (go_big_quiet_step ((fail)))
  refine wpQuiet_nil ?_
  go_wp2_with fail
  have HE := Lib.hid (HLEN.out ▸ HB4.out : Below w3.heap.size w3 w4)
  refine (alike_true _ A5 c c5 a ts' _ ((((HT3.out.bel HE.out).bel y.bel).bel x.bel).bel HB5.out) HT5.out HL.out hl1).mono ?_
  rintro e w6 ⟨rfl, n6, rfl⟩
  go_wp2
  go_ret
  exact ⟨rfl, bel_drewN (bel_trans (bel_trans (bel_trans (bel_trans (bel_trans (bel_drewN HB1.out _) HB3.out) HE.out) y.bel) x.bel) HB5.out) _⟩

theorem gaps_any (s g : ByteArray) (v : Int) (w : World) (hs : s.size ≤ 9223372036854775807) (hg : g.size ≤ 9223372036854775807) (hv : (Lit.int .u16 v).wf = true) :
    Calls Tryd.prog 8 #[.string s, .string g, .int .u16 v] w fun e w' => e = .returned (.bool true) ∧ Below w.heap.size w w' := by
  have hv2 : 0 ≤ v ∧ v ≤ 65535 := by
    have h1 : (decide (IntKind.u16.min ≤ v) && decide (v ≤ IntKind.u16.max)) = true := hv
    rw [Bool.and_eq_true, decide_eq_true_eq, decide_eq_true_eq] at h1
    exact h1
  by_cases hbig : 1500 < s.size ∨ 300 < g.size ∨ (g.size ≤ 300 ∧ (Lx.gap g.data.toList == g.data.toList.length) = false)
  · exact gaps_out s g v w hs hg hbig
  · have hs2 : s.size ≤ 1500 := by omega
    have hg2 : g.size ≤ 300 := by omega
    have hgap : (Lx.gap g.data.toList == g.data.toList.length) = true := by
      cases h : (Lx.gap g.data.toList == g.data.toList.length) with
      | true => rfl
      | false => exact absurd (.inr (.inr ⟨hg2, h⟩)) hbig
    have hgg : Lx.gap g.data.toList = g.data.toList.length := by simpa using hgap
    have hsl := size_list s
    rcases Lx.lex_small s.data.toList (by omega) with ⟨a, h1, h2⟩ | ⟨er, n, h1, h2⟩
    · have la := h1.length_le
      have hsp : ∀ m, (spread s g m).length ≤ 5000 := fun m => by rw [spread_len]; omega
      by_cases ha : a.length = 0
      · obtain rfl := List.eq_nil_of_length_eq_zero ha
        obtain ⟨ts', k1, k2⟩ := Lx.gaps_law hgg h1 0 (.inl rfl)
        exact gaps_none s g v w hs2 hg2 hgap 0 0 h2 ts' (Lx.lex_ok (hsp 0) k1) k2
      · obtain ⟨u, rfl⟩ : ∃ u : Nat, v = u := ⟨v.toNat, by omega⟩
        have hml : u % a.length < a.length := Nat.mod_lt _ (by omega)
        have ht : a[u % a.length]? = some a[u % a.length] := List.getElem?_eq_getElem hml
        obtain ⟨p, q1, _, q2⟩ := h1.place _ _ ht
        obtain ⟨ts', k1, k2⟩ := Lx.gaps_law hgg h1 (p + (a[u % a.length]).written.length) (.inr ⟨_, _, ht, by rw [q1]; simp⟩)
        exact gaps_some s g u w (by omega) hs2 hg2 hgap a 0 0 h2 (by omega) (by omega) _ ht p q1 (by omega) ts' (Lx.lex_ok (hsp _) k1) k2
    · exact gaps_err s g v w hs2 hg2 hgap [] er n h2 h1.ne
end Go.Proofs.YtpnenbodmonkiaaDoor

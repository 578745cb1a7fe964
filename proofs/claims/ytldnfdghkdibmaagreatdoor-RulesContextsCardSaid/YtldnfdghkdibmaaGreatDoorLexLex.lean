/-
  What Lex returns, at every text.
-/
import Derived.Test.YtldnfdghkdibmaaGreatDoorLexNew
namespace Go.Proofs.YtldnfdghkdibmaaGreatDoor
open Go.RowKit
attribute [local go_sem] alloc_drewN setCell_drewN setRow_drewN

theorem setRow_last (w : World) (c c' : Array Value) (t : TypeId) : (w.alloc (.cells c t)).setRow w.heap.size c' = w.alloc (.cells c' t) := World.setRow_alloc_new w c c' t

/-- what holds at the head of Lex's loop: the tokens so far, the offset, memory -/
structure LexRel (s : ByteArray) (w0 : World) (out i : Value) (wr : World) : Prop where
  ex : ∃ (A : Option Addr) (c k f : Nat) (l : List Lx.Tok), out = .slice A l.length c ∧ i = .int .i64 k ∧ k ≤ s.size ∧ l.length ≤ 5000 ∧
    wr.ownsRow w0.heap.size 45 4 out l.length (tokCells l) ∧ s.size < f + k ∧ Lx.lexAt f l k (s.data.toList.drop k) = Lx.lex s.data.toList
  below : Below w0.heap.size w0 wr

set_option maxRecDepth 100000 in
set_option maxHeartbeats 400000 in
theorem lex_any (s : ByteArray) (w : World) (hs : s.size ≤ 9223372036854775807) :
    Calls Tryz.prog 17 #[.string s] w fun e w' => ∃ v, e = .returned (.tuple #[v, .int .i64 (Lx.lex s.data.toList).2.1, .int .i64 (Lx.lex s.data.toList).2.2]) ∧
      TokRow w' w.heap.size v (Lx.lex s.data.toList).1 ∧ Below w.heap.size w w' := by
  by_cases hbig : 20000 < s.size
  · have hl : Lx.lex s.data.toList = ([], 2, -1) := by
      unfold Lx.lex
      rw [if_pos (by rw [← size_list]; exact hbig)]
    rw [hl]
    clear hl
    go_enter Tryz.func17, Tryz.ntmps17
    go_wp2
    go_ret3
    exact ⟨_, rfl, ⟨rfl, .inl ⟨rfl, rfl⟩⟩, bel_refl w⟩
  · have hz := zeroScan
    go_enter Tryz.func17, Tryz.ntmps17
    go_wp2_with fail
    refine (classes_any _).mono ?_
    rintro e w1 ⟨rfl, hb1⟩
    have HB1 := Lib.hid hb1
    clear hb1
    go_wp2_with (first | (refine wpList_build_is rfl 85 _ rfl [(0, .string s), (1, .agg clsTab)] rfl (scanCells s) (builtScan s) ?_) | (refine wpList_store_row rfl 85 _ _ rfl w1.heap.size (scanCells s) rfl rfl 85 _ (heap_alloc_last w1 _) (by rw [scanCells_size]; exact infoScan) (by rw [scanCells_size, Array.size_append, tab0_size]; rfl) (scanCells_one s) ?_))
    rw [setRow_last w1 _ (scanCells s)]
    go_wp2_with fail
    refine (gap_any w1.heap.size s 0 _ (by omega) (by omega) (by omega) (by simp) (scan_new _ s _ _ (Blk.new w1 _ _))).mono ?_
    rintro e w2 ⟨rfl, hb2⟩
    rw [show (0 : Int).toNat = 0 from rfl, List.drop_zero, Nat.zero_add]
    have hw0 : Below w.heap.size w (w1.alloc (.cells (scanCells s) 85)) := bel_alloc HB1.out _
    have hS0 := scan_new _ s _ _ (Blk.new w1 85 (scanCells s))
    have hlt0 : w1.heap.size < (w1.alloc (.cells (scanCells s) 85)).heap.size := by simp
    generalize hW0 : w1.alloc (.cells (scanCells s) 85) = W0 at *
    generalize hB0 : w1.heap.size = b0 at *
    clear hW0 hz
    have hg0 := Lx.gap_le s.data.toList
    rw [← size_list] at hg0
    have hl : Lx.lexAt (s.data.toList.length + 1) [] (Lx.gap s.data.toList) (s.data.toList.drop (Lx.gap s.data.toList)) = Lx.lex s.data.toList := by
      unfold Lx.lex
      rw [if_neg (by rw [← size_list]; exact hbig)]
    have HL := Lib.hid hl
    have HW0 := Lib.hid hw0
    have HS0 := Lib.hid hS0
    have HB2 := Lib.hid hb2
    clear hl hw0 hS0 hb2
    go_wp2
    go_loopw [6, 7] (fun out i wr => LexRel s W0 out i wr) (fun _ i _ => s.size - (intOf i).toNat)
    case atStart => exact ⟨⟨none, 0, _, _, [], rfl, rfl, hg0, by simp, ⟨rfl, .inl ⟨rfl, rfl⟩⟩, by rw [size_list]; omega, HL.out⟩, HB2.out⟩
    case round =>
      obtain ⟨⟨A, c, k, f, l, rfl, rfl, hk, hl5, hown, hf, hlex⟩, hbr⟩ := hrel
      have HOWN := Lib.hid hown
      have HLEX := Lib.hid hlex
      clear hown hlex HL HB2
      have hSr := HS0.out.below hbr hlt0
      have hszr := hbr.size
      have HBR := Lib.hid hbr
      have HSR := Lib.hid hSr
      clear hbr hSr
      by_cases hlt : k < s.size
      · obtain ⟨f, rfl⟩ : ∃ f', f = f' + 1 := ⟨f - 1, by omega⟩
        have hd := drop_get s k hlt
        have hlex := HLEX.out
        rw [hd] at hlex
        have HLX := Lib.hid hlex
        have HD := Lib.hid hd
        clear hlex hd HLEX
        go_wp2_with fail
        refine (next_any b0 s k _ (by omega) (by omega) (by omega) (by omega) HSR.out).mono ?_
        rintro e w3 ⟨rfl, hb3⟩
        rw [Int.toNat_natCast]
        have hw := Lx.scan_width (s.data.toList.drop k)
        unfold Lx.Fits at hw
        rw [List.length_drop, ← size_list] at hw
        have h1 := Lx.lexAt_full f l k s[k] (s.data.toList.drop (k + 1))
        have h2 := Lx.lexAt_err f l k s[k] (s.data.toList.drop (k + 1))
        have h3 := Lx.lexAt_tok f l k s[k] (s.data.toList.drop (k + 1))
        have hlx := HLX.out
        rw [← HD.out] at h1 h2 h3 hlx
        obtain ⟨q, hq, hq2⟩ : ∃ q : Int, (Lx.scan (s.data.toList.drop k)).out k = .agg #[.int .i64 (Lx.scan (s.data.toList.drop k)).kind, .int .i64 q, .int .i64 (Lx.scan (s.data.toList.drop k)).n, .string (bs (Lx.scan (s.data.toList.drop k)).text)] ∧
            ((Lx.scan (s.data.toList.drop k)).err = 0 → q = k) := ⟨_, rfl, fun h => by rw [if_pos h]⟩
        rw [hq]
        clear hq HLX HD
        generalize Lx.scan (s.data.toList.drop k) = r at *
        obtain ⟨err, kind, n, text, width⟩ := r
        simp only [] at hw h1 h2 h3 hq2
        simp only [Lx.Sc.fin]
        by_cases he : err = 0
        · subst he
          rw [if_pos rfl]
          obtain rfl := hq2 rfl
          obtain ⟨hw1, hw2⟩ := hw rfl
          by_cases hfull : l.length = 5000
          · have hfin := h1 rfl hfull
            rw [hlx] at hfin
            have HFIN := Lib.hid hfin
            have hfull' : ((l.length : Int) == 5000) = true := by rw [beq_iff_eq]; omega
            clear hfin hlx h1 h2 h3 hfull
            have HB3 := Lib.hid hb3
            clear hb3
            go_wp2
            go_ret3
            refine ⟨.slice none 0 0, ?_, ?_, ?_⟩
            · rw [HFIN.out]; rfl
            · rw [HFIN.out]; exact ⟨rfl, .inl ⟨rfl, rfl⟩⟩
            · exact HW0.out.trans ((HBR.out.trans ((bel_alloc HB3.out _).mono hszr)).mono HW0.out.size)
          · have hfin := h3 rfl hfull
            rw [hlx] at hfin
            have HFIN := Lib.hid hfin
            have hfull' : ((l.length : Int) == 5000) = false := by rw [beq_eq_false_iff_ne]; omega
            have hlenb : l.length + 1 ≤ 5000 := by omega
            clear hfin hlx h1 h2 h3 hfull
            have HB3 := Lib.hid hb3
            clear hb3
            obtain ⟨i0, hi0, hz0, hz1, hz2⟩ := info_parts info_tok
            have hub : ∀ u ∈ [Value.int .i64 kind, .int .i64 k, .int .i64 n, .string (bs text)], u.oneCell' = true := by simp [Value.oneCell']
            have HUB := Lib.hid hub
            clear hub
            have hb3z := HB3.out.size
            go_wp2_with (first | (at_builtin; refine wpList_append_own _ rfl _ _ 41 rfl W0.heap.size 45 i0 (.agg #[.int .i64 0, .int .i64 0, .int .i64 0, .string { data := #[] }]) 4 40 Tryz.underlying41 hi0 hz0 hz1 hz2 rfl (by decide) _ l.length (tokCells l) rfl (owns_bel (owns_bel (owns_bel HOWN.out HB3.out) (bel_alloc (bel_refl w3) _)) (bel_alloc (bel_refl _) _)) ⟨w3.heap.size + 1, 0, none⟩ 1 1 [.int .i64 kind, .int .i64 k, .int .i64 n, .string (bs text)] rfl rfl (by exact cells_new _ [.int .i64 kind, .int .i64 k, .int .i64 n, .string (bs text)] _ _ (by simp)) HUB.out (by unfold maxLen; omega) (by omega) (by simp; omega) ?_; intro v' w4 hown4 hg4 _))
            obtain ⟨A', c', rfl⟩ := slice_of_row hown4
            have hbel4 : Below W0.heap.size W0 w4 := (HBR.out.trans (HB3.out.mono hszr)).trans ((((bel_refl w3).alloc (Nat.le_refl _) _).alloc (by simp) _).mono (by omega)) |>.grown hg4 (by simp; omega) (owns_block HOWN.out)
            have hS4 := HS0.out.below hbel4 hlt0
            have hz4 := hbel4.size
            have HBEL4 := Lib.hid hbel4
            have HOWN4 := Lib.hid hown4
            clear hbel4 hown4 hg4
            refine (gap_any b0 s _ _ (by omega) (by omega) (by omega) (by omega) hS4).mono ?_
            rintro e w5 ⟨rfl, hb5⟩
            rw [show ((k : Int) + (width : Int)).toNat = k + width from by omega]
            have hgl := Lx.gap_le (s.data.toList.drop (k + width))
            rw [List.length_drop, ← size_list] at hgl
            have hfin := HFIN.out
            rw [List.drop_drop, List.drop_drop] at hfin
            have HFIN2 := Lib.hid hfin
            clear hfin HFIN
            generalize Lx.gap (s.data.toList.drop (k + width)) = gg at *
            have HB5 := Lib.hid hb5
            clear hb5 hS4
            go_wp2
            go_roundw
            case rel =>
              refine ⟨⟨A', c', k + width + gg, f, l ++ [Lx.Sc.tok ⟨0, kind, n, text, width⟩ k], ?_, by go_num, by omega, ?_, ?_, by omega, ?_⟩, HBEL4.out.trans (HB5.out.mono hz4)⟩
              · rw [List.length_append]; rfl
              · rw [List.length_append]; exact hlenb
              · have h5 := owns_bel HOWN4.out HB5.out
                rw [tokCells_append, List.length_append]
                exact h5
              · rw [← HFIN2.out]
            case measure => simp [intOf]; omega
        · rw [if_neg he]
          have hfin := h2 he
          rw [hlx] at hfin
          have HFIN := Lib.hid hfin
          have he' : (err == 0) = false := by rw [beq_eq_false_iff_ne]; exact he
          have he'' : (err != 0) = true := by rw [bne_iff_ne]; exact he
          clear hfin hlx h1 h2 h3 he hw hq2
          have HB3 := Lib.hid hb3
          clear hb3
          go_wp2
          go_ret3
          refine ⟨.slice none 0 0, ?_, ?_, ?_⟩
          · rw [HFIN.out]; rfl
          · rw [HFIN.out]; exact ⟨rfl, .inl ⟨rfl, rfl⟩⟩
          · exact HW0.out.trans ((HBR.out.trans ((bel_alloc HB3.out _).mono hszr)).mono HW0.out.size)
      · have hk2 : k = s.size := by omega
        have hd : s.data.toList.drop k = [] := List.drop_eq_nil_of_le (by rw [← size_list]; omega)
        have hfin := HLEX.out
        rw [hd, Lx.lexAt_nil] at hfin
        have HFIN := Lib.hid hfin
        clear hfin hd HLEX
        have HK2 := Lib.hid hk2
        clear hk2
        go_wp2
        go_ret3
        refine ⟨.slice A l.length c, ?_, ?_, HW0.out.trans (HBR.out.mono HW0.out.size)⟩
        · rw [← HFIN.out]; rfl
        · rw [← HFIN.out]
          exact owns_mono HOWN.out HW0.out.size

end Go.Proofs.YtldnfdghkdibmaaGreatDoor

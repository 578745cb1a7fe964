/-
  What the reference's Lex returns, at every text: the same as Lex.
-/
import Derived.Test.YtpnenbodmonkiaaDoorLexLists
import Derived.Test.YtpnenbodmonkiaaDoorRef04E
set_option linter.unusedVariables false
namespace Go.Proofs.YtpnenbodmonkiaaDoor
open Go.RowKit
attribute [local go_sem] alloc_drewN setCell_drewN setRow_drewN

namespace Lx
theorem lexAt_pos (M : Nat) (f : Nat) : ∀ (out : List Tok) (off : Nat) (l : List UInt8), (∀ t ∈ out, ∃ p : Nat, t.pos = p ∧ p ≤ M) → off + l.length ≤ M → out.length ≤ 5000 →
    (∀ t ∈ (lexAt f out off l).1, ∃ p : Nat, t.pos = p ∧ p ≤ M) ∧ (lexAt f out off l).1.length ≤ 5000 := by
  induction f with
  | zero => intro out off l h1 _ h3; exact ⟨h1, h3⟩
  | succ f ih =>
    intro out off l h1 h2 h3
    cases l with
    | nil => exact ⟨h1, h3⟩
    | cons c r =>
      by_cases he : (scan (c :: r)).err = 0
      · by_cases hf : out.length = 5000
        · rw [lexAt_full f out off c r he hf]
          exact ⟨fun t ht => (by cases ht), by simp⟩
        · rw [lexAt_tok f out off c r he hf]
          have hw := (scan_width (c :: r) he).2
          have hg := gap_le ((c :: r).drop (scan (c :: r)).width)
          refine ih _ _ _ ?_ ?_ ?_
          · intro t ht
            rcases List.mem_append.1 ht with ht | ht
            · exact h1 t ht
            · obtain rfl := List.mem_singleton.1 ht
              exact ⟨off, rfl, by omega⟩
          · rw [List.length_drop] at hg ⊢
            rw [List.length_drop]
            omega
          · rw [List.length_append]
            simp only [List.length_cons, List.length_nil]
            omega
      · rw [lexAt_err f out off c r he]
        exact ⟨fun t ht => (by cases ht), by simp⟩
theorem lex_pos (l : List UInt8) : (∀ t ∈ (lex l).1, ∃ p : Nat, t.pos = p ∧ p ≤ l.length) ∧ (lex l).1.length ≤ 5000 := by
  unfold lex
  split
  · exact ⟨fun t ht => (by cases ht), by simp⟩
  · refine lexAt_pos l.length _ [] _ _ (fun t ht => by cases ht) ?_ (by simp)
    have := gap_le l
    rw [List.length_drop]
    omega
end Lx

theorem own_lt {w w3 : World} {base : Nat} {e : TypeId} {size n : Nat} {v : Value} {xs : List Value} (h : w.ownsRow base e size v n xs) (hv : v.ownBlock = some w3.heap.size) (hb : Below w.heap.size w w3) : False := by
  have hz := hb.size
  rcases h.2 with ⟨rfl, _⟩ | ⟨g, cap, cur, rfl, h2, h3, _⟩
  · cases hv
  · simp [Value.ownBlock] at hv
    have hlt := (Array.getElem?_eq_some_iff.1 h3).1
    omega
/-- what holds at the head of the reference's loop: the tokens so far, the offset, memory -/
structure RLexRel (s : ByteArray) (w0 : World) (out i : Value) (wr : World) : Prop where
  ex : ∃ (A : Option Addr) (c k f : Nat) (l : List Lx.Tok), out = .slice A l.length c ∧ i = .int .i64 k ∧ k ≤ s.size ∧ l.length ≤ 5000 ∧
    wr.ownsRow w0.heap.size 30 4 out l.length (tokCells l) ∧ s.size < f + k ∧ Lx.lexAt f l k (s.data.toList.drop k) = Lx.lex s.data.toList
  below : Below w0.heap.size w0 wr

set_option maxRecDepth 100000 in
set_option maxHeartbeats 400000 in
theorem rlex_any (s : ByteArray) (w : World) (hs : s.size ≤ 9223372036854775807) :
    Calls Tryd.prog 13 #[.string s] w fun e w' => ∃ v, e = .returned (.tuple #[v, .int .i64 (Lx.lex s.data.toList).2.1, .int .i64 (Lx.lex s.data.toList).2.2]) ∧
      TokRow w' w.heap.size v (Lx.lex s.data.toList).1 ∧ Below w.heap.size w w' := by
  by_cases hbig : 20000 < s.size
  · have hl : Lx.lex s.data.toList = ([], 2, -1) := by
      unfold Lx.lex
      rw [if_pos (by rw [← size_list]; exact hbig)]
    rw [hl]
    clear hl
    go_enter Tryd.func13, Tryd.ntmps13
    go_wp2
    go_ret3
    exact ⟨_, rfl, ⟨rfl, .inl ⟨rfl, rfl⟩⟩, bel_refl w⟩
  · go_enter Tryd.func13, Tryd.ntmps13
    go_wp2_with fail
    refine (rgap_any s 0 _ (by omega) (by omega) (by omega)).mono ?_
    rintro e w2 ⟨rfl, n0, rfl⟩
    rw [show (0 : Int).toNat = 0 from rfl, List.drop_zero, Nat.zero_add]
    have hg0 := Lx.gap_le s.data.toList
    rw [← size_list] at hg0
    have hl : Lx.lexAt (s.data.toList.length + 1) [] (Lx.gap s.data.toList) (s.data.toList.drop (Lx.gap s.data.toList)) = Lx.lex s.data.toList := by
      unfold Lx.lex
      rw [if_neg (by rw [← size_list]; exact hbig)]
    have HL := Lib.hid hl
    clear hl
    go_wp2
    go_loopw [5, 6] (fun out i wr => RLexRel s w out i wr) (fun _ i _ => s.size - (intOf i).toNat)
    case atStart => exact ⟨⟨none, 0, _, _, [], rfl, rfl, hg0, by simp, ⟨rfl, .inl ⟨rfl, rfl⟩⟩, by rw [size_list]; omega, HL.out⟩, bel_drewN (bel_refl w) _⟩
    case round =>
      obtain ⟨⟨A, c, k, f, l, rfl, rfl, hk, hl5, hown, hf, hlex⟩, hbr⟩ := hrel
      have HOWN := Lib.hid hown
      have HLEX := Lib.hid hlex
      clear hown hlex HL
      have hszr := hbr.size
      have HBR := Lib.hid hbr
      clear hbr
      by_cases hlt : k < s.size
      · obtain ⟨f, rfl⟩ : ∃ f', f = f' + 1 := ⟨f - 1, by omega⟩
        have hd := drop_get s k hlt
        have hlex := HLEX.out
        rw [hd] at hlex
        have HLX := Lib.hid hlex
        have HD := Lib.hid hd
        clear hlex hd HLEX
        go_wp2_with fail
        refine (rnext_any s k _ (by omega) hlt).mono ?_
        rintro e w3 ⟨rfl, hb3⟩
        have hwr := Lx.written_scan_length (s.data.toList.drop k) k
        have htl := Lx.text_le ((Lx.scan (s.data.toList.drop k)).tok k)
        have hw := Lx.scan_width (s.data.toList.drop k)
        unfold Lx.Fits at hw
        rw [List.length_drop, ← size_list] at hw
        have h1 := Lx.lexAt_full f l k s[k] (s.data.toList.drop (k + 1))
        have h2 := Lx.lexAt_err f l k s[k] (s.data.toList.drop (k + 1))
        have h3 := Lx.lexAt_tok f l k s[k] (s.data.toList.drop (k + 1))
        have hlx := HLX.out
        rw [← HD.out] at h1 h2 h3 hlx
        obtain ⟨q, hq, hq2⟩ : ∃ q : Int, (Lx.scan (s.data.toList.drop k)).out k = .agg #[.int .i64 (Lx.scan (s.data.toList.drop k)).kind, .int .i64 q, .int .i64 (Lx.scan (s.data.toList.drop k)).n, .string (bs (Lx.scan (s.data.toList.drop k)).text)] ∧
            ((Lx.scan (s.data.toList.drop k)).err = 0 → q = k) := ⟨_, rfl, fun h => by rw [if_pos h]⟩
        rw [hq]
        clear hq HLX HD
        generalize Lx.scan (s.data.toList.drop k) = r at *
        obtain ⟨err, kind, n, text, width⟩ := r
        simp only [] at hw h1 h2 h3 hq2 hwr htl
        by_cases he : err = 0
        · subst he
          obtain rfl := hq2 rfl
          have HWR := Lib.hid (hwr rfl)
          have htl2 : text.length ≤ width := by
            have := htl
            rw [HWR.out] at this
            exact this
          clear hwr htl
          obtain ⟨hw1, hw2⟩ := hw rfl
          by_cases hfull : l.length = 5000
          · have hfin := h1 rfl hfull
            rw [hlx] at hfin
            have HFIN := Lib.hid hfin
            have hfull' : ((l.length : Int) == 5000) = true := by rw [beq_iff_eq]; omega
            clear hfin hlx h1 h2 h3 hfull
            have HB3 := Lib.hid hb3
            clear hb3
            go_wp2
            go_ret3
            refine ⟨.slice none 0 0, ?_, ?_, ?_⟩
            · rw [HFIN.out]; rfl
            · rw [HFIN.out]; exact ⟨rfl, .inl ⟨rfl, rfl⟩⟩
            · exact HBR.out.trans ((bel_alloc HB3.out _).mono hszr)
          · have hfin := h3 rfl hfull
            rw [hlx] at hfin
            have HFIN := Lib.hid hfin
            have hfull' : ((l.length : Int) == 5000) = false := by rw [beq_eq_false_iff_ne]; omega
            have hlenb : l.length + 1 ≤ 5000 := by omega
            clear hfin hlx h1 h2 h3 hfull
            have HB3 := Lib.hid hb3
            clear hb3
            obtain ⟨i0, hi0, hz0, hz1, hz2⟩ := info_parts info_tok
            have hub : ∀ u ∈ [Value.int .i64 kind, .int .i64 k, .int .i64 n, .string (bs text)], u.oneCell' = true := by simp [Value.oneCell']
            have HUB := Lib.hid hub
            clear hub
            have hb3z := HB3.out.size
            go_wp2_with (first | (at_builtin; refine wpList_append_own _ rfl _ _ 23 rfl w.heap.size 30 i0 (.agg #[.int .i64 0, .int .i64 0, .int .i64 0, .string { data := #[] }]) 4 40 Tryd.underlying23 hi0 hz0 hz1 hz2 rfl (by decide) _ l.length (tokCells l) rfl (owns_bel (owns_bel (owns_bel HOWN.out HB3.out) (bel_alloc (bel_refl w3) _)) (bel_alloc (bel_refl _) _)) ⟨w3.heap.size + 1, 0, none⟩ 1 1 [.int .i64 kind, .int .i64 k, .int .i64 n, .string (bs text)] rfl rfl (by exact cells_new _ [.int .i64 kind, .int .i64 k, .int .i64 n, .string (bs text)] _ _ (by simp)) HUB.out (by unfold maxLen; omega) (by omega) (by simp; omega) ?_; intro v' w4 hown4 hg4 _; have hblk : Blk w4 w3.heap.size 30 #[.int .i64 kind, .int .i64 k, .int .i64 n, .string (bs text)] := ((Blk.new w3 _ _).alloc _).grown hg4 (fun hh => own_lt (owns_bel HOWN.out (bel_refl _)) hh.symm HB3.out); have c0 : w4.cell? ⟨w3.heap.size, 0, none⟩ = some (.int .i64 kind) := hblk.cell 0; have c1 : w4.cell? ⟨w3.heap.size, 1, none⟩ = some (.int .i64 k) := hblk.cell 1; have c2 : w4.cell? ⟨w3.heap.size, 2, none⟩ = some (.int .i64 n) := hblk.cell 2; have c3 : w4.cell? ⟨w3.heap.size, 3, none⟩ = some (.string (bs text)) := hblk.cell 3))
            obtain ⟨A', c', rfl⟩ := slice_of_row hown4
            have hbel4 : Below w.heap.size w w4 := (HBR.out.trans (HB3.out.mono hszr)).trans ((((bel_refl w3).alloc (Nat.le_refl _) _).alloc (by simp) _).mono (by omega)) |>.grown hg4 (by simp; omega) (owns_block HOWN.out)
            have hz4 := hbel4.size
            have HBEL4 := Lib.hid hbel4
            have HOWN4 := Lib.hid hown4
            clear hbel4 hown4 hg4 hblk c0 c1 c2 c3
            refine (width_w kind k n text _ rfl _ (by omega)).mono ?_
            rintro e w6 ⟨rfl, hb6⟩
            rw [show (Lx.Tok.written ⟨kind, k, n, text⟩).length = width from HWR.out]
            have HB6 := Lib.hid hb6
            clear hb6
            go_wp2_with fail
            refine (rgap_any s _ _ (by omega) (by omega) (by omega)).mono ?_
            rintro e w5 ⟨rfl, n5, rfl⟩
            rw [show ((k : Int) + (width : Int)).toNat = k + width from by omega]
            have hgl := Lx.gap_le (s.data.toList.drop (k + width))
            rw [List.length_drop, ← size_list] at hgl
            have hfin := HFIN.out
            rw [List.drop_drop, List.drop_drop] at hfin
            have HFIN2 := Lib.hid hfin
            clear hfin HFIN
            generalize Lx.gap (s.data.toList.drop (k + width)) = gg at *
            go_wp2
            go_roundw
            case rel =>
              refine ⟨⟨A', c', k + width + gg, f, l ++ [Lx.Sc.tok ⟨0, kind, n, text, width⟩ k], ?_, by go_num, by omega, ?_, ?_, by omega, ?_⟩, HBEL4.out.trans ((bel_drewN HB6.out n5).mono hz4)⟩
              · rw [List.length_append]; rfl
              · rw [List.length_append]; exact hlenb
              · have h5 := owns_bel HOWN4.out (bel_drewN HB6.out n5)
                rw [tokCells_append, List.length_append]
                exact h5
              · rw [← HFIN2.out]
            case measure => simp [intOf]; omega
        · have hfin := h2 he
          rw [hlx] at hfin
          have HFIN := Lib.hid hfin
          have he' : (err == 0) = false := by rw [beq_eq_false_iff_ne]; exact he
          have he'' : (err != 0) = true := by rw [bne_iff_ne]; exact he
          clear hfin hlx h1 h2 h3 he hw hq2 hwr htl
          have HB3 := Lib.hid hb3
          clear hb3
          go_wp2
          go_ret3
          refine ⟨.slice none 0 0, ?_, ?_, ?_⟩
          · rw [HFIN.out]; rfl
          · rw [HFIN.out]; exact ⟨rfl, .inl ⟨rfl, rfl⟩⟩
          · exact HBR.out.trans ((bel_alloc HB3.out _).mono hszr)
      · have hk2 : k = s.size := by omega
        have hd : s.data.toList.drop k = [] := List.drop_eq_nil_of_le (by rw [← size_list]; omega)
        have hfin := HLEX.out
        rw [hd, Lx.lexAt_nil] at hfin
        have HFIN := Lib.hid hfin
        clear hfin hd HLEX
        have HK2 := Lib.hid hk2
        clear hk2
        go_wp2
        go_ret3
        refine ⟨.slice A l.length c, ?_, ?_, HBR.out⟩
        · rw [← HFIN.out]; rfl
        · rw [← HFIN.out]
          exact HOWN.out

end Go.Proofs.YtpnenbodmonkiaaDoor

/-
  named and printed: what they return.
-/
import Derived.Test.YtldnfdghkdibmaaGreatDoorLexLex
import Derived.Test.YtldnfdghkdibmaaGreatDoorMP
import Derived.Test.YtldnfdghkdibmaaGreatDoorAlMem
set_option linter.unusedVariables false
namespace Go.Proofs.YtldnfdghkdibmaaGreatDoor
open Go.RowKit
attribute [local go_sem] alloc_drewN setCell_drewN setRow_drewN

/-- the cells of a row of tokens that is not empty -/
theorem TokRow.has {w : World} {base : Nat} {A : Option Addr} {n c : Nat} {l : List Lx.Tok} (h : TokRow w base (.slice A n c) l) (hl : 0 < l.length) :
    ∃ g, A = some ⟨g, 0, none⟩ ∧ g < w.heap.size ∧ ∀ j u, (tokCells l)[j]? = some u → w.cell? ⟨g, j, none⟩ = some u := by
  obtain ⟨h1, h2⟩ := h
  rcases h2 with ⟨_, h2⟩ | ⟨g, cap, cur, hv, hb, hh, hc1, hc2, hc3, hc4⟩
  · omega
  · injection hv with hA hn hc
    subst hA
    have hlt : g < w.heap.size := Blk.lt (t := 45) (cs := cur) hh
    refine ⟨g, rfl, hlt, fun j u hu => ?_⟩
    rw [cell_of_row w g j cur _ _ hh]
    rw [← hc4, List.getElem?_take] at hu
    split at hu
    · simpa using hu
    · cases hu

set_option maxRecDepth 100000 in
set_option maxHeartbeats 1000000 in
theorem named_any (s : ByteArray) (w : World) (hs : s.size ≤ 5000) : Calls Tryz.prog 63 #[.string s] w fun e w' => e = .returned (.bool (Lx.nameB s.data.toList)) ∧ Below w.heap.size w w' := by
  have hsl : s.data.toList.length ≤ 5000 := by rw [← size_list]; exact hs
  have hyes := Lx.lex_name s.data.toList hsl
  have hno : ∀ (t : Lx.Tok) (e a : Int), Lx.lex s.data.toList = ([t], e, a) → e = 0 → t.kind = 1 → t.text = s.data.toList → Lx.nameB s.data.toList = true := fun t e a => Lx.name_lex s.data.toList hsl
  have HY := Lib.hid hyes
  have HN := Lib.hid hno
  clear hyes hno hsl
  go_enter Tryz.func63, Tryz.ntmps63
  go_wp2_with fail
  refine (lex_any s _ (by omega)).mono ?_
  rintro e w2 ⟨v, rfl, R2, hb2⟩
  obtain ⟨A, c, rfl⟩ := slice_of_row R2
  have HB := Lib.hid hb2
  have HR := Lib.hid R2
  clear hb2 R2
  generalize Lx.lex s.data.toList = L at *
  obtain ⟨l, er, a⟩ := L
  simp only [] at HR
  by_cases he : er = 0
  · have he' : (er == 0) = true := by rw [beq_iff_eq]; exact he
    match l with
    | [] =>
      have hn : Lx.nameB s.data.toList = false := by
        cases h : Lx.nameB s.data.toList
        · rfl
        · have := HY.out h; simp at this
      have HN2 := Lib.hid hn
      clear hn he
      go_wp2
      go_ret
      exact ⟨ret_bool HN2.out.symm, HB.out⟩
    | t :: u :: r =>
      have hn : Lx.nameB s.data.toList = false := by
        cases h : Lx.nameB s.data.toList
        · rfl
        · have := HY.out h; simp at this
      have HN2 := Lib.hid hn
      have hl1 : (((t :: u :: r).length : Int) == 1) = false := by rw [beq_eq_false_iff_ne, List.length_cons, List.length_cons]; omega
      generalize (t :: u :: r).length = m at *
      clear hn he
      go_wp2
      go_ret
      exact ⟨ret_bool HN2.out.symm, HB.out⟩
    | [t] =>
      obtain ⟨g, rfl, hg, hc⟩ := HR.out.has (by simp)
      have c0 : w2.cell? ⟨g, 0, none⟩ = some (.int .i64 t.kind) := hc 0 _ rfl
      have c3 : w2.cell? ⟨g, 3, none⟩ = some (.string (bs t.text)) := hc 3 _ rfl
      clear hc
      by_cases hk : t.kind = 1
      · have hk' : (t.kind == 1) = true := by rw [beq_iff_eq]; exact hk
        by_cases ht : t.text = s.data.toList
        · have hn : Lx.nameB s.data.toList = true := HN.out _ _ _ rfl he hk ht
          have HN2 := Lib.hid hn
          have hts : bs t.text = s := by rw [ht]; rfl
          rw [hts] at c3
          clear hn he hk ht hts
          go_wp2
          go_ret
          exact ⟨ret_bool HN2.out.symm, HB.out⟩
        · have hn : Lx.nameB s.data.toList = false := by
            cases h : Lx.nameB s.data.toList
            · rfl
            · have := HY.out h
              simp at this
              exact absurd (by rw [this.1]) ht
          have HN2 := Lib.hid hn
          have htx : ((bs t.text).toList == s.toList) = false := by
            rw [beq_eq_false_iff_ne, Lib.toList_data, Lib.toList_data, bs_list]
            exact ht
          clear hn he hk ht
          go_wp2
          go_ret
          exact ⟨ret_bool HN2.out.symm, HB.out⟩
      · have hk' : (t.kind == 1) = false := by rw [beq_eq_false_iff_ne]; exact hk
        have hn : Lx.nameB s.data.toList = false := by
          cases h : Lx.nameB s.data.toList
          · rfl
          · have := HY.out h
            simp at this
            exact absurd (by rw [this.1]) hk
        have HN2 := Lib.hid hn
        clear hn he hk
        go_wp2
        go_ret
        exact ⟨ret_bool HN2.out.symm, HB.out⟩
  · have he' : (er == 0) = false := by rw [beq_eq_false_iff_ne]; exact he
    have hn : Lx.nameB s.data.toList = false := by
      cases h : Lx.nameB s.data.toList
      · rfl
      · have := HY.out h
        simp at this
        exact absurd this.2.1 he
    have HN2 := Lib.hid hn
    clear hn he
    go_wp2
    go_ret
    exact ⟨ret_bool HN2.out.symm, HB.out⟩

theorem okByte_nat (c : UInt8) : Al.okByte c = (!(decide ((c.toNat : Int) < 33)) && (!(decide ((126 : Int) < c.toNat)) && !((c.toNat : Int) == 34))) := by
  have h := Lx.byClass (fun c => Al.okByte c == (!(decide ((c.toNat : Int) < 33)) && (!(decide ((126 : Int) < c.toNat)) && !((c.toNat : Int) == 34)))) (by decide +kernel) c
  rwa [beq_iff_eq] at h
set_option maxRecDepth 100000 in
set_option maxHeartbeats 1000000 in
theorem printed_any (s : ByteArray) (w : World) (hs : s.size ≤ 4611686018427387904) : Calls Tryz.prog 64 #[.string s] w fun e w' => e = .returned (.bool (Al.printedB s.data.toList)) ∧ w' = w := by
  go_enter Tryz.func64, Tryz.ntmps64
  go_wp2
  go_loop [3] (fun i => ∃ k : Nat, k ≤ s.size ∧ i = .int .i64 k ∧ s.data.toList.all Al.okByte = (s.data.toList.drop k).all Al.okByte) (fun i => s.size - (intOf i).toNat)
  case atStart => exact ⟨0, by omega, rfl, rfl⟩
  case round =>
    obtain ⟨k, hk, rfl, hc⟩ := hrel
    have HC := Lib.hid hc
    clear hc
    by_cases hlt : k < s.size
    · have hd := drop_get s k hlt
      have HD := Lib.hid hd
      clear hd
      have hb : s[k].toNat < 256 := UInt8.toNat_lt s[k]
      have hob := okByte_nat s[k]
      by_cases h1 : (s[k].toNat : Int) < 33
      · have hf : Al.printedB s.data.toList = false := by
          unfold Al.printedB
          rw [HC.out, HD.out, List.all_cons, hob, decide_eq_true h1]
          rfl
        have HF := Lib.hid hf
        clear hf hob
        go_wp2
        go_ret
        exact ⟨ret_bool HF.out.symm, rfl⟩
      · by_cases h2 : (126 : Int) < s[k].toNat
        · have hf : Al.printedB s.data.toList = false := by
            unfold Al.printedB
            rw [HC.out, HD.out, List.all_cons, hob, decide_eq_true h2, decide_eq_false h1]
            rfl
          have HF := Lib.hid hf
          clear hf hob
          go_wp2
          go_ret
          exact ⟨ret_bool HF.out.symm, rfl⟩
        · cases h3 : ((s[k].toNat : Int) == 34)
          · have ho : Al.okByte s[k] = true := by
              rw [hob, decide_eq_false h2, decide_eq_false h1, h3]
              rfl
            have HO := Lib.hid ho
            clear ho hob
            go_wp2
            go_round
            case rel =>
              refine ⟨k + 1, by omega, by go_num, ?_⟩
              rw [HC.out, HD.out, List.all_cons, HO.out]
              rfl
            case measure => simp [intOf]; omega
          · have hf : Al.printedB s.data.toList = false := by
              unfold Al.printedB
              rw [HC.out, HD.out, List.all_cons, hob, decide_eq_false h2, decide_eq_false h1, h3]
              rfl
            have HF := Lib.hid hf
            clear hf hob
            go_wp2
            go_ret
            exact ⟨ret_bool HF.out.symm, rfl⟩
    · have hall : s.data.toList.all Al.okByte = true := by
        rw [HC.out, List.drop_eq_nil_of_le (by rw [← size_list]; omega)]
        rfl
      have hf : Al.printedB s.data.toList = (decide (1 ≤ s.size) && decide (s.size ≤ 3)) := by
        unfold Al.printedB
        rw [hall, ← size_list]
        rfl
      have HF := Lib.hid hf
      clear hf hall HC
      by_cases h1 : 1 ≤ s.size
      · by_cases h3 : s.size ≤ 3
        · have hf := HF.out
          rw [decide_eq_true h1, decide_eq_true h3] at hf
          have HF2 := Lib.hid hf
          clear hf
          go_wp2
          go_ret
          exact ⟨ret_bool ((decide_eq_true (by omega)).trans HF2.out.symm), rfl⟩
        · have hf := HF.out
          rw [decide_eq_true h1, decide_eq_false h3] at hf
          have HF2 := Lib.hid hf
          clear hf
          go_wp2
          go_ret
          exact ⟨ret_bool ((decide_eq_false (by omega)).trans HF2.out.symm), rfl⟩
      · have hf := HF.out
        rw [decide_eq_false h1] at hf
        have HF2 := Lib.hid hf
        clear hf
        go_wp2
        go_ret
        exact ⟨ret_bool HF2.out.symm, rfl⟩
end Go.Proofs.YtldnfdghkdibmaaGreatDoor

/-
  Tokens compared; what the example texts of the statements have.
-/
import Derived.Test.YtpnenbodmonkiaaDoorLexLex
import Derived.Laws.StructEq
namespace Go.Proofs.YtpnenbodmonkiaaDoor
open Go.RowKit
attribute [local go_sem] alloc_drewN setCell_drewN setRow_drewN

/-- two tokens are equal -/
def tokB (k p n : Int) (s : ByteArray) (k' p' n' : Int) (s' : ByteArray) : Bool := k == k' && (p == p' && (n == n' && s.toList == s'.toList))
theorem tok_under : Tryd.prog.underlying 30 = some (.struct (Tryd.prog.fieldsOf 30)) := by kernel_rfl
theorem tok_plain : Tryd.prog.stoodInHeld 30 = false := by kernel_rfl
theorem tok_equal (d : Nat) (k p n : Int) (s : ByteArray) (k' p' n' : Int) (s' : ByteArray) (w : World) :
    (Op.equalIn (d + 2) 30 (.agg #[.int .i64 k, .int .i64 p, .int .i64 n, .string s]) (.agg #[.int .i64 k', .int .i64 p', .int .i64 n', .string s'])).run Tryd.prog w = .ok (tokB k p n s k' p' n' s') w := by
  rw [run_equalIn_struct w (d + 1) _ _ _ tok_under tok_plain]
  simp [Program.fieldsOf, Tryd.underlying30, Op.eqFields, go_sem]
  unfold tokB
  by_cases h1 : k = k' <;> by_cases h2 : p = p' <;> by_cases h3 : n = n' <;> by_cases h4 : s.toList = s'.toList <;> simp [h1, h2, h3, h4]
theorem tok_eql (k p n : Int) (s : ByteArray) (k' p' n' : Int) (s' : ByteArray) (w : World) :
    (binOp .eql 30 (.agg #[.int .i64 k, .int .i64 p, .int .i64 n, .string s]) (.agg #[.int .i64 k', .int .i64 p', .int .i64 n', .string s'])).run Tryd.prog w = .ok (.bool (tokB k p n s k' p' n' s')) w := by
  rw [run_eql_struct, tok_equal]
  rfl
theorem tok_neq (k p n : Int) (s : ByteArray) (k' p' n' : Int) (s' : ByteArray) (w : World) :
    (binOp .neq 30 (.agg #[.int .i64 k, .int .i64 p, .int .i64 n, .string s]) (.agg #[.int .i64 k', .int .i64 p', .int .i64 n', .string s'])).run Tryd.prog w = .ok (.bool (!tokB k p n s k' p' n' s')) w := by
  rw [run_neq_struct, tok_equal]
  rfl
theorem tokB_self (k p n : Int) (s : ByteArray) : tokB k p n s k p n s = true := by simp [tokB]
theorem tok_guard : Tryd.prog.eqGuardType Tryd.prog.depth 30 = false := by kernel_rfl

theorem ex0 : Lx.lex [114, 111, 119, 32, 97, 49, 32, 97, 116, 32, 55, 62, 61, 120, 35, 32, 121] = ([⟨1, 0, 0, [114, 111, 119]⟩, ⟨1, 4, 0, [97, 49]⟩, ⟨1, 7, 0, [97, 116]⟩, ⟨2, 10, 7, [55]⟩, ⟨4, 11, 0, [62, 61]⟩, ⟨1, 13, 0, [120]⟩], 0, 0) := by decide +kernel
theorem ex1 : Lx.lex [97, 32, 33, 98] = ([], 3, 2) := by decide +kernel
theorem ex2 : Lx.lex [55, 120] = ([], 4, 0) := by decide +kernel
theorem ex3 : Lx.lex [49, 50, 51, 52, 53, 54, 55, 56, 57, 48, 49, 50, 51, 52] = ([], 4, 0) := by decide +kernel
theorem ex4 : Lx.lex [10, 97, 98, 99, 100, 101, 102, 103, 104, 105, 106, 107, 108, 109, 110, 111, 112, 113, 114, 115, 116, 117, 118, 119, 120, 121] = ([], 2, 1) := by decide +kernel
theorem ex5 : Lx.lex [116, 111, 32, 34, 34, 32, 34, 97, 32, 98, 34, 59] = ([⟨1, 0, 0, [116, 111]⟩, ⟨3, 3, 0, []⟩, ⟨3, 6, 0, [97, 32, 98]⟩, ⟨4, 11, 0, [59]⟩], 0, 0) := by decide +kernel
theorem ex6 : Lx.lex [97, 32, 34, 98] = ([], 6, 2) := by decide +kernel

/-- Lex at a text whose result is known -/
theorem lex_at (l : List UInt8) (hl : l.length ≤ 20000) {ts : List Lx.Tok} {e a : Int} (h : Lx.lex l = (ts, e, a)) (w : World) :
    Calls Tryd.prog 12 #[.string (bs l)] w fun en w' => ∃ A c, en = .returned (.tuple #[.slice A ts.length c, .int .i64 e, .int .i64 a]) ∧ TokRow w' w.heap.size (.slice A ts.length c) ts ∧ Below w.heap.size w w' := by
  refine (lex_any (bs l) w (by rw [bs_size]; omega)).mono ?_
  rintro en w' ⟨v, rfl, h1, h2⟩
  rw [bs_list, h] at h1 ⊢
  obtain ⟨A, c, rfl⟩ := slice_of_row h1
  exact ⟨A, c, rfl, h1, h2⟩

/-- the cells of a row of tokens that is not empty -/
theorem TokRow.cells {w : World} {base : Nat} {A : Option Addr} {n c : Nat} {l : List Lx.Tok} (h : TokRow w base (.slice A n c) l) (hl : 0 < l.length) :
    ∃ g, A = some ⟨g, 0, none⟩ ∧ base ≤ g ∧ g < w.heap.size ∧ ∀ j u, (tokCells l)[j]? = some u → w.cell? ⟨g, j, none⟩ = some u := by
  obtain ⟨h1, h2⟩ := h
  rcases h2 with ⟨_, h2⟩ | ⟨g, cap, cur, hv, hb, hh, hc1, hc2, hc3, hc4⟩
  · omega
  · injection hv with hA hn hc
    subst hA
    have hlt : g < w.heap.size := Blk.lt (t := 30) (cs := cur) hh
    refine ⟨g, rfl, hb, hlt, fun j u hu => ?_⟩
    rw [cell_of_row w g j cur _ _ hh]
    rw [← hc4, List.getElem?_take] at hu
    split at hu
    · simpa using hu
    · cases hu

set_option maxRecDepth 100000 in
set_option maxHeartbeats 2000000 in
theorem head_any (w : World) : Calls Tryd.prog 11 #[] w fun e w' => e = .returned (.bool true) ∧ Below w.heap.size w w' := by
  have htg := tok_guard
  have hteq := tok_eql
  go_enter Tryd.func11, Tryd.ntmps11
  go_wp2_with fail
  refine (lex_at [114, 111, 119, 32, 97, 49, 32, 97, 116, 32, 55, 62, 61, 120, 35, 32, 121] (by decide) ex0 _).mono ?_
  rintro e w0 ⟨A0, c0, rfl, R0, B0⟩
  have hB0 := Lib.hid B0
  have hR0 := Lib.hid R0
  clear B0 R0
  go_wp2_with fail
  refine (lex_at [97, 32, 33, 98] (by decide) ex1 _).mono ?_
  rintro e w1 ⟨A1, c1, rfl, R1, B1⟩
  have hB1 := Lib.hid B1
  have hR1 := Lib.hid R1
  clear B1 R1
  go_wp2_with fail
  refine (lex_at [55, 120] (by decide) ex2 _).mono ?_
  rintro e w2 ⟨A2, c2, rfl, R2, B2⟩
  have hB2 := Lib.hid B2
  have hR2 := Lib.hid R2
  clear B2 R2
  go_wp2_with fail
  refine (lex_at [49, 50, 51, 52, 53, 54, 55, 56, 57, 48, 49, 50, 51, 52] (by decide) ex3 _).mono ?_
  rintro e w3 ⟨A3, c3, rfl, R3, B3⟩
  have hB3 := Lib.hid B3
  have hR3 := Lib.hid R3
  clear B3 R3
  go_wp2_with fail
  refine (lex_at [10, 97, 98, 99, 100, 101, 102, 103, 104, 105, 106, 107, 108, 109, 110, 111, 112, 113, 114, 115, 116, 117, 118, 119, 120, 121] (by decide) ex4 _).mono ?_
  rintro e w4 ⟨A4, c4, rfl, R4, B4⟩
  have hB4 := Lib.hid B4
  have hR4 := Lib.hid R4
  clear B4 R4
  go_wp2_with fail
  refine (lex_at [116, 111, 32, 34, 34, 32, 34, 97, 32, 98, 34, 59] (by decide) ex5 _).mono ?_
  rintro e w5 ⟨A5, c5, rfl, R5, B5⟩
  have hB5 := Lib.hid B5
  have hR5 := Lib.hid R5
  clear B5 R5
  go_wp2_with fail
  refine (lex_at [97, 32, 34, 98] (by decide) ex6 _).mono ?_
  rintro e w6 ⟨A6, c6, rfl, R6, B6⟩
  have hB6 := Lib.hid B6
  have hR6 := Lib.hid R6
  clear B6 R6
  obtain ⟨g0, rfl, _, hg0, hc0⟩ := hR0.out.cells (by decide)
  obtain ⟨g5, rfl, _, hg5, hc5⟩ := hR5.out.cells (by decide)
  have b06 : Below w0.heap.size w0 w6 := bel_trans (bel_trans (bel_trans (bel_trans (bel_trans hB1.out hB2.out) hB3.out) hB4.out) hB5.out) hB6.out
  have b56 : Below w5.heap.size w5 w6 := hB6.out
  have k0_4 : w6.cell? ⟨g0, 4, none⟩ = some (.int .i64 1) := (b06.cell (p := ⟨g0, 4, none⟩) hg0).trans (hc0 4 _ rfl)
  have k0_5 : w6.cell? ⟨g0, 5, none⟩ = some (.int .i64 4) := (b06.cell (p := ⟨g0, 5, none⟩) hg0).trans (hc0 5 _ rfl)
  have k0_6 : w6.cell? ⟨g0, 6, none⟩ = some (.int .i64 0) := (b06.cell (p := ⟨g0, 6, none⟩) hg0).trans (hc0 6 _ rfl)
  have k0_7 : w6.cell? ⟨g0, 7, none⟩ = some (.string { data := #[97, 49] }) := (b06.cell (p := ⟨g0, 7, none⟩) hg0).trans (hc0 7 _ rfl)
  have k0_12 : w6.cell? ⟨g0, 12, none⟩ = some (.int .i64 2) := (b06.cell (p := ⟨g0, 12, none⟩) hg0).trans (hc0 12 _ rfl)
  have k0_13 : w6.cell? ⟨g0, 13, none⟩ = some (.int .i64 10) := (b06.cell (p := ⟨g0, 13, none⟩) hg0).trans (hc0 13 _ rfl)
  have k0_14 : w6.cell? ⟨g0, 14, none⟩ = some (.int .i64 7) := (b06.cell (p := ⟨g0, 14, none⟩) hg0).trans (hc0 14 _ rfl)
  have k0_15 : w6.cell? ⟨g0, 15, none⟩ = some (.string { data := #[55] }) := (b06.cell (p := ⟨g0, 15, none⟩) hg0).trans (hc0 15 _ rfl)
  have k0_16 : w6.cell? ⟨g0, 16, none⟩ = some (.int .i64 4) := (b06.cell (p := ⟨g0, 16, none⟩) hg0).trans (hc0 16 _ rfl)
  have k0_17 : w6.cell? ⟨g0, 17, none⟩ = some (.int .i64 11) := (b06.cell (p := ⟨g0, 17, none⟩) hg0).trans (hc0 17 _ rfl)
  have k0_18 : w6.cell? ⟨g0, 18, none⟩ = some (.int .i64 0) := (b06.cell (p := ⟨g0, 18, none⟩) hg0).trans (hc0 18 _ rfl)
  have k0_19 : w6.cell? ⟨g0, 19, none⟩ = some (.string { data := #[62, 61] }) := (b06.cell (p := ⟨g0, 19, none⟩) hg0).trans (hc0 19 _ rfl)
  have k0_21 : w6.cell? ⟨g0, 21, none⟩ = some (.int .i64 13) := (b06.cell (p := ⟨g0, 21, none⟩) hg0).trans (hc0 21 _ rfl)
  have k5_4 : w6.cell? ⟨g5, 4, none⟩ = some (.int .i64 3) := (b56.cell (p := ⟨g5, 4, none⟩) hg5).trans (hc5 4 _ rfl)
  have k5_5 : w6.cell? ⟨g5, 5, none⟩ = some (.int .i64 3) := (b56.cell (p := ⟨g5, 5, none⟩) hg5).trans (hc5 5 _ rfl)
  have k5_6 : w6.cell? ⟨g5, 6, none⟩ = some (.int .i64 0) := (b56.cell (p := ⟨g5, 6, none⟩) hg5).trans (hc5 6 _ rfl)
  have k5_7 : w6.cell? ⟨g5, 7, none⟩ = some (.string { data := #[] }) := (b56.cell (p := ⟨g5, 7, none⟩) hg5).trans (hc5 7 _ rfl)
  have k5_8 : w6.cell? ⟨g5, 8, none⟩ = some (.int .i64 3) := (b56.cell (p := ⟨g5, 8, none⟩) hg5).trans (hc5 8 _ rfl)
  have k5_9 : w6.cell? ⟨g5, 9, none⟩ = some (.int .i64 6) := (b56.cell (p := ⟨g5, 9, none⟩) hg5).trans (hc5 9 _ rfl)
  have k5_10 : w6.cell? ⟨g5, 10, none⟩ = some (.int .i64 0) := (b56.cell (p := ⟨g5, 10, none⟩) hg5).trans (hc5 10 _ rfl)
  have k5_11 : w6.cell? ⟨g5, 11, none⟩ = some (.string { data := #[97, 32, 98] }) := (b56.cell (p := ⟨g5, 11, none⟩) hg5).trans (hc5 11 _ rfl)
  have k5_13 : w6.cell? ⟨g5, 13, none⟩ = some (.int .i64 11) := (b56.cell (p := ⟨g5, 13, none⟩) hg5).trans (hc5 13 _ rfl)
  have t0_1 := tokB_self 1 4 0 { data := #[97, 49] }
  have t0_3 := tokB_self 2 10 7 { data := #[55] }
  have t0_4 := tokB_self 4 11 0 { data := #[62, 61] }
  have t5_1 := tokB_self 3 3 0 { data := #[] }
  have t5_2 := tokB_self 3 6 0 { data := #[97, 32, 98] }
  clear hc0 hc5
  have hb : Below w.heap.size w w6 := bel_trans hB0.out b06
  have HB := Lib.hid hb
  clear hb b06 b56
  go_wp2
  go_ret
  exact ⟨rfl, HB.out⟩
end Go.Proofs.YtpnenbodmonkiaaDoor

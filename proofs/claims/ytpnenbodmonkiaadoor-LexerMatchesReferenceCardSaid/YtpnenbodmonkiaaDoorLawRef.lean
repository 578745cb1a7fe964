/-
  LexerMatchesReference: the law's walk: it returns true at every text.
-/
import Derived.Test.YtpnenbodmonkiaaDoorRef04L
set_option linter.unusedVariables false
namespace Go.Proofs.YtpnenbodmonkiaaDoor
open Go.RowKit
attribute [local go_sem] alloc_drewN setCell_drewN setRow_drewN

set_option maxRecDepth 100000 in
set_option maxHeartbeats 2000000 in
theorem matches_any (s : ByteArray) (w : World) (hs : s.size ≤ 9223372036854775807) :
    Calls Tryd.prog 3 #[.string s] w fun e w' => e = .returned (.bool true) ∧ Below w.heap.size w w' := by
  have hs2 := hs
  by_cases hbig : 21000 < s.size
  · go_enter Tryd.func3, Tryd.ntmps3
    go_wp2_with fail
    refine (head_any _).mono ?_
    rintro e w1 ⟨rfl, hb1⟩
    have HB1 := Lib.hid hb1
    clear hb1
    go_wp2
    go_ret
    exact ⟨rfl, HB1.out⟩
  · go_enter Tryd.func3, Tryd.ntmps3
    go_wp2_with fail
    refine (head_any _).mono ?_
    rintro e w1 ⟨rfl, hb1⟩
    have HB1 := Lib.hid hb1
    clear hb1
    go_wp2_with fail
    refine (lex_any s _ hs2).mono ?_
    rintro e w2 ⟨v, rfl, R2, hb2⟩
    obtain ⟨A2, c2, rfl⟩ := slice_of_row R2
    have HB2 := Lib.hid hb2
    have HR2 := Lib.hid R2
    clear hb2 R2
    go_wp2_with fail
    refine (rlex_any s _ hs2).mono ?_
    rintro e w3 ⟨v, rfl, R3, hb3⟩
    obtain ⟨A3, c3, rfl⟩ := slice_of_row R3
    have HB3 := Lib.hid hb3
    have HR3 := Lib.hid R3
    clear hb3 R3
    have hpos := Lx.lex_pos s.data.toList
    rw [← size_list] at hpos
    generalize Lx.lex s.data.toList = L at *
    obtain ⟨l, er, a⟩ := L
    simp only [] at HR2 HR3 hpos
    have HPOS := Lib.hid hpos
    clear hpos
    have e1 : (er == er) = true := by simp
    have e2 : (a == a) = true := by simp
    have hA : TokAt w3 A2 l := (TokAt.of_row HR2.out).bel HB3.out
    have hB : TokAt w3 A3 l := TokAt.of_row HR3.out
    have HA := Lib.hid hA
    have HBB := Lib.hid hB
    clear hA hB
    go_wp2_with fail
    refine (same_true A2 A3 c2 c3 0 l l _ HA.out HBB.out (by simp) (Nat.le_trans HPOS.out.2 (by omega)) (fun j t ht => by
      obtain ⟨p, h1, h2⟩ := HPOS.out.1 t (List.mem_of_getElem? ht)
      exact ⟨p, h1, by omega⟩)).mono ?_
    rintro e w4 ⟨rfl, hb4⟩
    have HB4 := Lib.hid hb4
    clear hb4
    go_wp2
    go_ret
    exact ⟨rfl, bel_trans HB1.out (bel_trans HB2.out (bel_trans HB3.out HB4.out))⟩
end Go.Proofs.YtpnenbodmonkiaaDoor

/-
  Layer 11: Parse: what it returns; a panic of the parser is recovered.
-/
import Derived.Test.YtldnfdghkdibmaaGreatDoorMU
import Derived.Test.YtldnfdghkdibmaaGreatDoorRuT
import Derived.RegionTactic
import Derived.ChangeAlike
import Derived.Recover
import Derived.Laws.Pointers
set_option linter.unusedVariables false
namespace Go.Proofs.YtldnfdghkdibmaaGreatDoor
open Go.RowKit
open R
attribute [local go_sem] alloc_drewN setCell_drewN setRow_drewN
namespace Lx
theorem lexAt_small (N : Nat) : ∀ (f : Nat) (out : List Tok) (off : Nat) (l : List UInt8), out.length ≤ 5000 → (∀ t ∈ out, t.text.length ≤ N) → l.length ≤ N → (lexAt f out off l).1.length ≤ 5000 ∧ ∀ t ∈ (lexAt f out off l).1, t.text.length ≤ N
  | 0, out, off, l, h1, h2, h3 => ⟨h1, h2⟩
  | f + 1, out, off, [], h1, h2, h3 => ⟨h1, h2⟩
  | f + 1, out, off, c :: r, h1, h2, h3 => by
    by_cases he : (scan (c :: r)).err = 0
    · by_cases h5 : out.length = 5000
      · rw [lexAt_full _ _ _ _ _ he h5]; exact ⟨Nat.zero_le _, fun t ht => by cases ht⟩
      · rw [lexAt_tok _ _ _ _ _ he h5]
        refine lexAt_small N f _ _ _ (by rw [List.length_append, List.length_singleton]; omega) (fun t ht => ?_) (by rw [List.length_drop, List.length_drop]; omega)
        rcases List.mem_append.1 ht with ht | ht
        · exact h2 t ht
        · obtain rfl := List.mem_singleton.1 ht
          have a := written_length ((scan (c :: r)).tok off)
          have b := written_scan_length (c :: r) off he
          have d := width_le he
          split at a <;> omega
    · rw [lexAt_err _ _ _ _ _ he]; exact ⟨Nat.zero_le _, fun t ht => by cases ht⟩
theorem lex_tokens (l : List UInt8) : (lex l).1.length ≤ 5000 ∧ ∀ t ∈ (lex l).1, t.text.length ≤ 20000 := by
  unfold lex
  split
  · exact ⟨Nat.zero_le _, fun t ht => by cases ht⟩
  · exact lexAt_small 20000 _ _ _ _ (Nat.zero_le _) (fun t ht => by cases ht) (by rw [List.length_drop]; omega)
end Lx
theorem small_lex (s : List UInt8) (e : Int) : smallT ((Lx.lex s).1.map Rul.tp, e) := by
  obtain ⟨h1, h2⟩ := Lx.lex_tokens s
  refine ⟨by show List.length (List.map _ _) ≤ _; rw [List.length_map]; omega, fun t ht => ?_⟩
  obtain ⟨x, hx, rfl⟩ := List.mem_map.1 ht
  have := h2 x hx
  show x.text.length ≤ _
  omega
theorem as_some (e a : Int) (w : World) : (Instr.typeAssert (.iface 90 (.agg #[.int .i64 e, .int .i64 a])) 20 90 true).run Tryz.prog w = .ok (.tuple #[.agg #[.int .i64 e, .int .i64 a], .bool true]) w := by kernel_rfl
theorem as_none (w : World) : (Instr.typeAssert .nilIface 20 90 true).run Tryz.prog w = .ok (.tuple #[.agg #[.int .i64 0, .int .i64 0], .bool false]) w := by kernel_rfl
def zeroR : Array Value := #[.string { data := #[] }, .string { data := #[] }, .slice none 0 0]
set_option maxRecDepth 100000 in
set_option maxHeartbeats 4000000 in
theorem catch_fault (b : Nat) (err at_ : Int) (older : List PanicEntry) (w : World) (h2 : Blk w b 24 zeroR) (h3 : Blk w (b + 1) 32 #[.int .i64 0]) (h4 : Blk w (b + 2) 3 #[.int .i64 0]) :
    CallsD Tryz.prog 42 #[.pointer (some ⟨b, 0, none⟩), .pointer (some ⟨b + 1, 0, none⟩), .pointer (some ⟨b + 2, 0, none⟩)] (.panicking ({ v := .iface 90 (.agg #[.int .i64 err, .int .i64 at_]), recovered := false } :: older)) w fun e u' w' =>
      e = .returned (.tuple #[]) ∧ u' = .panicking ({ v := .iface 90 (.agg #[.int .i64 err, .int .i64 at_]), recovered := true } :: older) ∧
      (∃ ty, Blk w' b ty zeroR) ∧ (∃ ty, Blk w' (b + 1) ty #[.int .i64 err]) ∧ (∃ ty, Blk w' (b + 2) ty #[.int .i64 at_]) ∧ Below b w w' := by
  refine callsD_of_wpS Tryz.func42 rfl fun c₀ cs hu => ?_
  apply wpS_seq
  apply wpS_region
  simp [wpOpsS, go_sem, recoverD, hu, Tryz.ntmps42, Exit.thenS, as_some]
  have l2 := h2.lt
  have l4 := h4.lt
  have hb1 : Below w.heap.size w (w.alloc (.cells #[.int .i64 err, .int .i64 at_] 90)) := bel_alloc (bel_refl w) _
  have n0 := fun i => (h2.bel hb1).frozen i
  have n1 := fun i => (h3.bel hb1).frozen i
  have n2 := fun i => (h4.bel hb1).frozen i
  have d0 : (w.alloc (.cells #[.int .i64 err, .int .i64 at_] 90)).cell? ⟨b, 0, none⟩ = some (.string { data := #[] }) := (h2.bel hb1).cell 0
  have d1 : (w.alloc (.cells #[.int .i64 err, .int .i64 at_] 90)).cell? ⟨b, 1, none⟩ = some (.string { data := #[] }) := (h2.bel hb1).cell 1
  have d2 : (w.alloc (.cells #[.int .i64 err, .int .i64 at_] 90)).cell? ⟨b, 2, none⟩ = some (.slice none 0 0) := (h2.bel hb1).cell 2
  have e0 : (w.alloc (.cells #[.int .i64 err, .int .i64 at_] 90)).cell? ⟨b + 1, 0, none⟩ = some (.int .i64 0) := (h3.bel hb1).cell 0
  have f0 : (w.alloc (.cells #[.int .i64 err, .int .i64 at_] 90)).cell? ⟨b + 2, 0, none⟩ = some (.int .i64 0) := (h4.bel hb1).cell 0
  have p0 : (w.alloc (.cells #[.int .i64 err, .int .i64 at_] 90)).cell? ⟨w.heap.size, 0, none⟩ = some (.int .i64 err) := (Blk.new w 90 #[.int .i64 err, .int .i64 at_]).cell 0
  have p1 : (w.alloc (.cells #[.int .i64 err, .int .i64 at_] 90)).cell? ⟨w.heap.size, 1, none⟩ = some (.int .i64 at_) := (Blk.new w 90 #[.int .i64 err, .int .i64 at_]).cell 1
  refine wpS_of_wp ?_
  generalize hW : w.alloc (.cells #[.int .i64 err, .int .i64 at_] 90) = W at *
  generalize hB : w.heap.size = B at *
  generalize htm : (#[Value.pointer (some ⟨b, 0, none⟩), .pointer (some ⟨b + 1, 0, none⟩), .pointer (some ⟨b + 2, 0, none⟩)] ++ _ : Array Value) = tm
  have htm : tm = #[.pointer (some ⟨b, 0, none⟩), .pointer (some ⟨b + 1, 0, none⟩), .pointer (some ⟨b + 2, 0, none⟩), .pointer (some ⟨B, 0, none⟩), .bool true, .tuple #[.agg #[.int .i64 err, .int .i64 at_], .bool true], .iface 90 (.agg #[.int .i64 err, .int .i64 at_]), .tuple #[.agg #[.int .i64 err, .int .i64 at_], .bool true], .agg #[.int .i64 err, .int .i64 at_], .bool true, undef, undef, undef, undef, undef, undef] := by
    rw [← htm]; kernel_rfl
  subst htm
  have z0 := n0 0
  have z1 := n0 1
  have z2 := n0 2
  have z3 := n1 0
  have z4 := n2 0
  clear n0 n1 n2 hu
  have HW := Lib.hid hW
  have HB := Lib.hid hb1
  have HH := Lib.hid h2
  have HI := Lib.hid h3
  have HJ := Lib.hid h4
  clear hW hb1 h2 h3 h4
  go_wp2
  go_region
  have q2 : Blk W b 24 zeroR := by rw [← HW.out]; exact HH.out.bel (by rw [← hB] at *; exact bel_alloc (bel_refl w) _)
  have q3 : Blk W (b + 1) 32 #[.int .i64 0] := by rw [← HW.out]; exact HI.out.bel (by rw [← hB] at *; exact bel_alloc (bel_refl w) _)
  have q4 : Blk W (b + 2) 3 #[.int .i64 0] := by rw [← HW.out]; exact HJ.out.bel (by rw [← hB] at *; exact bel_alloc (bel_refl w) _)
  refine ⟨rfl, _, rfl, .tuple #[], by simp [results, Tryz.results42], rfl, rfl, ?_⟩
  have oth : ∀ (w : World) (g k i : Nat) (v : Value) (T : TypeId) (cs : Array Value), k ≠ g → Blk w k T cs → Blk (w.setCell ⟨g, i, none⟩ v) k T cs := fun w g k i v T cs h hb => (Below.heap_setCell w ⟨g, i, none⟩ v k h).trans hb
  refine ⟨⟨24, ?_⟩, ⟨32, ?_⟩, ⟨3, ?_⟩, ?_⟩
  · exact oth _ _ _ _ _ _ _ (by omega) (oth _ _ _ _ _ _ _ (by omega) (((q2.set_ 0 (.string { data := #[] })).set_ 1 (.string { data := #[] })).set_ 2 (.slice none 0 0)))
  · exact oth _ _ _ _ _ _ _ (by omega) ((oth _ _ _ _ _ _ _ (by omega) (oth _ _ _ _ _ _ _ (by omega) (oth _ _ _ _ _ _ _ (by omega) q3))).set_ 0 (.int .i64 err))
  · exact (oth _ _ _ _ _ _ _ (by omega) (oth _ _ _ _ _ _ _ (by omega) (oth _ _ _ _ _ _ _ (by omega) (oth _ _ _ _ _ _ _ (by omega) q4)))).set_ 0 (.int .i64 at_)
  · have hb0 : Below b w W := by rw [← HW.out]; exact (Below.refl b w).alloc (by omega) _
    exact (((((hb0.setCell (p := ⟨b, 0, none⟩) (Nat.le_refl b) _).setCell (p := ⟨b, 1, none⟩) (Nat.le_refl b) _).setCell (p := ⟨b, 2, none⟩) (Nat.le_refl b) _).setCell (p := ⟨b + 1, 0, none⟩) (show b ≤ b + 1 by omega) _).setCell (p := ⟨b + 2, 0, none⟩) (show b ≤ b + 2 by omega) _).drew
theorem catch_idle (b0 b1 b2 : Addr) (w : World) :
    CallsD Tryz.prog 42 #[.pointer (some b0), .pointer (some b1), .pointer (some b2)] .returning w fun e u' w' => e = .returned (.tuple #[]) ∧ u' = .returning ∧ Below w.heap.size w w' := by
  refine callsD_of_wpS Tryz.func42 rfl fun c₀ cs hu => ?_
  apply wpS_seq
  apply wpS_region
  simp [wpOpsS, go_sem, recoverD, hu, Tryz.ntmps42, Exit.thenS, as_none]
  refine wpS_of_wp ?_
  generalize htm : (#[Value.pointer (some b0), .pointer (some b1), .pointer (some b2)] ++ _ : Array Value) = tm
  have htm : tm = #[.pointer (some b0), .pointer (some b1), .pointer (some b2), .pointer (some ⟨w.heap.size, 0, none⟩), .bool false, .tuple #[.agg #[.int .i64 0, .int .i64 0], .bool false], .nilIface, .tuple #[.agg #[.int .i64 0, .int .i64 0], .bool false], .agg #[.int .i64 0, .int .i64 0], .bool false, undef, undef, undef, undef, undef, undef] := by
    rw [← htm]; kernel_rfl
  subst htm
  go_wp2
  refine ⟨rfl, .returning, by rw [← hu], .tuple #[], by simp [results, Tryz.results42], rfl, rfl, ?_⟩
  exact bel_alloc (bel_refl w) _
end Go.Proofs.YtldnfdghkdibmaaGreatDoor

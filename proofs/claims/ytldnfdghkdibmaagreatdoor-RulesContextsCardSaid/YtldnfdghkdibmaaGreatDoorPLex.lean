/-
  The lexer as a contract.
-/
import Derived.Test.YtldnfdghkdibmaaGreatDoorPArgs
import Derived.Test.YtldnfdghkdibmaaGreatDoorLexLex
set_option linter.unusedVariables false
namespace Go.Proofs.YtldnfdghkdibmaaGreatDoor
open Go.RowKit
open R
abbrev kTok : Kds := .cons (.int .i64) (.cons (.int .i64) (.cons (.int .i64) (.one .str)))
def tokP (t : Lx.Tok) : Int × Int × Int × List UInt8 := (t.kind, t.pos, t.n, t.text)
def lexP (s : List UInt8) : List (Int × Int × Int × List UInt8) × Int × Int := ((Lx.lex s).1.map tokP, (Lx.lex s).2.1, (Lx.lex s).2.2)
def cLex : Con := .of 17 [.one .str] [.one (.sl kTok), .one (.int .i64), .one (.int .i64)] (fun s => List.length s ≤ 1000000) lexP
theorem tok_at (l : List Lx.Tok) (i : Nat) (t : Lx.Tok) (h : l[i]? = some t) (r : Nat) (hr : r < 4) : (tokCells l)[i * 4 + r]? = t.cells[r]? := by
  induction l generalizing i with
  | nil => simp at h
  | cons x l ih =>
    have e : tokCells (x :: l) = x.cells ++ tokCells l := rfl
    have hl : x.cells.length = 4 := rfl
    rw [e]
    cases i with
    | zero =>
      injection h with h
      subst h
      rw [Nat.zero_mul, Nat.zero_add, List.getElem?_append_left (by omega)]
    | succ i =>
      rw [List.getElem?_append_right (by omega), hl, show (i + 1) * 4 + r - 4 = i * 4 + r by omega]
      exact ih i h
section
variable {S : Nat → Prop} {w : World} {v : Value}
theorem tok_row {base : Nat} {l : List Lx.Tok} (h : TokRow w base v l) (hS : ∀ g, base ≤ g → g < w.heap.size → S g) : Kd.Rep w S (.sl kTok) (l.map tokP) v := by
  have hlen : (l.map tokP).length = l.length := List.length_map ..
  rcases h.2 with ⟨rfl, h0⟩ | ⟨g, cap, cur, rfl, hb, hg, hc, _, hsz, ht⟩
  · refine ⟨none, 0, by rw [hlen, h0], by rw [hlen, h0]; exact Nat.le_refl _, fun hl => ?_⟩
    rw [hlen] at hl
    omega
  · have hlt : g < w.heap.size := by
      rcases Nat.lt_or_ge g w.heap.size with h' | h'
      · exact h'
      · rw [Array.getElem?_eq_none h'] at hg; cases hg
    refine ⟨_, cap, by rw [hlen], by rw [hlen]; exact hc, fun hl => ⟨g, 0, rfl, hlt, hS g hb hlt, fun i x hx => ?_⟩⟩
    have hx : (l.map tokP)[i]? = some x := hx
    rw [List.getElem?_map] at hx
    cases ht' : l[i]? with
    | none => rw [ht'] at hx; cases hx
    | some t =>
      rw [ht'] at hx
      injection hx with hx
      subst hx
      have hil : i < l.length := (List.getElem?_eq_some_iff.1 ht').1
      have key : ∀ r u, r < 4 → t.cells[r]? = some u → w.cell? ⟨g, 0 + i * 4 + r, none⟩ = some u := fun r u hr hu => by
        have h1 := tok_at l i t ht' r hr
        rw [hu, ← ht, List.getElem?_take, if_pos (by omega), Array.getElem?_toList] at h1
        rw [Nat.zero_add]
        unfold World.cell?
        simp [hg, h1]
      exact ⟨⟨_, key 0 _ (by omega) rfl, rfl⟩, ⟨_, key 1 _ (by omega) rfl, rfl⟩, ⟨_, key 2 _ (by omega) rfl, rfl⟩, ⟨_, key 3 _ (by omega) rfl, rfl⟩⟩
end
theorem lex_holds : cLex.Holds Tryz.prog := by
  refine ⟨⟨⟨_, Tryz.func17, by kernel_rfl, by kernel_rfl⟩, fun F' hF p r hr => by injection hF with hF; subst hF; exact hr⟩, fun s0 vs w S hS hp hvs => ?_⟩
  obtain ⟨v, rfl, hv⟩ := one_arg hvs
  obtain ⟨s, rfl⟩ : ∃ s : List UInt8, s = s0 := ⟨s0, rfl⟩
  obtain rfl : v = .string (bs s) := hv
  have hp : s.length ≤ 1000000 := hp
  have hsz : (bs s).size ≤ 9223372036854775807 := by rw [bs_size]; omega
  refine (lex_any (bs s) w hsz).mono ?_
  rintro e w' ⟨v, rfl, hrow, hbl⟩
  have hrow : TokRow w' w.heap.size v (Lx.lex s).1 := hrow
  refine ⟨lexP s, _, rfl, rfl, ⟨_, rfl, rfl, ?_⟩, hbl⟩
  have hr := tok_row (S := fun g => S g ∨ (w.heap.size ≤ g ∧ g < w'.heap.size)) hrow (fun g h1 h2 => .inr ⟨h1, h2⟩)
  intro i x hx
  match i, hx with
  | 0, hx => injection hx with hx; subst hx; exact ⟨_, rfl, hr⟩
  | 1, hx => injection hx with hx; subst hx; exact ⟨_, rfl, rfl⟩
  | 2, hx => injection hx with hx; subst hx; exact ⟨_, rfl, rfl⟩
end Go.Proofs.YtldnfdghkdibmaaGreatDoor

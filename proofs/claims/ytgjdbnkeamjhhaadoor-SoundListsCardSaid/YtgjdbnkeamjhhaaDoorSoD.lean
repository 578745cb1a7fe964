/-
  letters, Lex, Valid: their contracts.
-/
import Derived.Test.YtgjdbnkeamjhhaaDoorSoB
import Derived.Test.YtgjdbnkeamjhhaaDoorSoC
import Derived.Test.YtgjdbnkeamjhhaaDoorLexLex
set_option linter.unusedVariables false
namespace Go.Proofs.YtgjdbnkeamjhhaaDoor
open Go.RowKit
open R
theorem one_arg {κ : Cx} {w : World} {a : Comp} {vs : List Value} (h : CompsRep κ w [a] vs) : ∃ x, vs = [x] ∧ a.Rep κ w x := by
  match vs, h with
  | [x], h =>
    obtain ⟨u, hu, hr⟩ := h.2 0 _ rfl
    injection hu with hu
    have hu : x = u := hu
    subst hu
    exact ⟨_, rfl, hr⟩
theorem two_args {κ : Cx} {w : World} {a b : Comp} {vs : List Value} (h : CompsRep κ w [a, b] vs) : ∃ x y, vs = [x, y] ∧ a.Rep κ w x ∧ b.Rep κ w y := by
  match vs, h with
  | [x, y], h =>
    obtain ⟨u, hu, hr⟩ := h.2 0 _ rfl
    obtain ⟨u', hu', hr'⟩ := h.2 1 _ rfl
    injection hu with hu; injection hu' with hu'
    have hu : x = u := hu
    have hu' : y = u' := hu'
    subst hu; subst hu'
    exact ⟨_, _, rfl, hr, hr'⟩
theorem three_args {κ : Cx} {w : World} {a b c : Comp} {vs : List Value} (h : CompsRep κ w [a, b, c] vs) : ∃ x y z, vs = [x, y, z] ∧ a.Rep κ w x ∧ b.Rep κ w y ∧ c.Rep κ w z := by
  match vs, h with
  | [x, y, z], h =>
    obtain ⟨u, hu, hr⟩ := h.2 0 _ rfl
    obtain ⟨u', hu', hr'⟩ := h.2 1 _ rfl
    obtain ⟨u'', hu'', hr''⟩ := h.2 2 _ rfl
    injection hu with hu; injection hu' with hu'; injection hu'' with hu''
    have hu : x = u := hu
    have hu' : y = u' := hu'
    have hu'' : z = u'' := hu''
    subst hu; subst hu'; subst hu''
    exact ⟨_, _, _, rfl, hr, hr', hr''⟩
theorem let_holds : cLet.Holds Tryd.prog := by
  refine ⟨⟨⟨_, Tryd.func21, by kernel_rfl, by kernel_rfl⟩, fun F' hF p r hr => by injection hF with hF; subst hF; exact hr⟩, fun p vs w S hS hp hvs => ?_⟩
  obtain ⟨s, lo, hi⟩ := p
  obtain ⟨v, v2, v3, rfl, hv, hv2, hv3⟩ := three_args hvs
  obtain rfl : v = .string (bs s) := hv
  obtain rfl : v2 = .int .i64 lo := hv2
  obtain rfl : v3 = .int .i64 hi := hv3
  refine (slet_any s lo hi w hp).mono ?_
  rintro e w' ⟨rfl, hbl⟩
  exact ⟨Snd.lettersB s lo hi, _, rfl, rfl, rfl, hbl⟩
theorem tok_at (l : List Lx.Tok) (i : Nat) (t : Lx.Tok) (h : l[i]? = some t) (r : Nat) (hr : r < 4) : (tokCells l)[i * 4 + r]? = t.cells[r]? := by
  induction l generalizing i with
  | nil => simp at h
  | cons x l ih =>
    have e : tokCells (x :: l) = x.cells ++ tokCells l := rfl
    have hl : x.cells.length = 4 := rfl
    rw [e]
    cases i with
    | zero =>
      injection h with h
      subst h
      rw [Nat.zero_mul, Nat.zero_add, List.getElem?_append_left (by omega)]
    | succ i =>
      rw [List.getElem?_append_right (by omega), hl, show (i + 1) * 4 + r - 4 = i * 4 + r by omega]
      exact ih i h
section
variable {S : Nat → Prop} {w : World} {v : Value}
theorem tok_row {base : Nat} {l : List Lx.Tok} (h : TokRow w base v l) (hS : ∀ g, base ≤ g → g < w.heap.size → S g) : Kd.Rep w S (.sl kTok) (l.map tokP) v := by
  have hlen : (l.map tokP).length = l.length := List.length_map ..
  rcases h.2 with ⟨rfl, h0⟩ | ⟨g, cap, cur, rfl, hb, hg, hc, _, hsz, ht⟩
  · refine ⟨none, 0, by rw [hlen, h0], by rw [hlen, h0]; exact Nat.le_refl _, fun hl => ?_⟩
    rw [hlen] at hl
    omega
  · have hlt : g < w.heap.size := by
      rcases Nat.lt_or_ge g w.heap.size with h' | h'
      · exact h'
      · rw [Array.getElem?_eq_none h'] at hg; cases hg
    refine ⟨_, cap, by rw [hlen], by rw [hlen]; exact hc, fun hl => ⟨g, 0, rfl, hlt, hS g hb hlt, fun i x hx => ?_⟩⟩
    have hx : (l.map tokP)[i]? = some x := hx
    rw [List.getElem?_map] at hx
    cases ht' : l[i]? with
    | none => rw [ht'] at hx; cases hx
    | some t =>
      rw [ht'] at hx
      injection hx with hx
      subst hx
      have hil : i < l.length := (List.getElem?_eq_some_iff.1 ht').1
      have key : ∀ r u, r < 4 → t.cells[r]? = some u → w.cell? ⟨g, 0 + i * 4 + r, none⟩ = some u := fun r u hr hu => by
        have h1 := tok_at l i t ht' r hr
        rw [hu, ← ht, List.getElem?_take, if_pos (by omega), Array.getElem?_toList] at h1
        rw [Nat.zero_add]
        unfold World.cell?
        simp [hg, h1]
      exact ⟨⟨_, key 0 _ (by omega) rfl, rfl⟩, ⟨_, key 1 _ (by omega) rfl, rfl⟩, ⟨_, key 2 _ (by omega) rfl, rfl⟩, ⟨_, key 3 _ (by omega) rfl, rfl⟩⟩
end
theorem lex_holds : cLex.Holds Tryd.prog := by
  refine ⟨⟨⟨_, Tryd.func26, by kernel_rfl, by kernel_rfl⟩, fun F' hF p r hr => by injection hF with hF; subst hF; exact hr⟩, fun s0 vs w S hS hp hvs => ?_⟩
  obtain ⟨v, rfl, hv⟩ := one_arg hvs
  obtain ⟨s, rfl⟩ : ∃ s : List UInt8, s = s0 := ⟨s0, rfl⟩
  obtain rfl : v = .string (bs s) := hv
  have hp : s.length ≤ 1000 := hp
  have hsz : (bs s).size ≤ 9223372036854775807 := by rw [bs_size]; omega
  refine (lex_any (bs s) w hsz).mono ?_
  rintro e w' ⟨v, rfl, hrow, hbl⟩
  have hrow : TokRow w' w.heap.size v (Lx.lex s).1 := hrow
  refine ⟨lexP s, _, rfl, rfl, ⟨_, rfl, rfl, ?_⟩, hbl⟩
  have hr := tok_row (S := fun g => S g ∨ (w.heap.size ≤ g ∧ g < w'.heap.size)) hrow (fun g h1 h2 => .inr ⟨h1, h2⟩)
  intro i x hx
  match i, hx with
  | 0, hx => injection hx with hx; subst hx; exact ⟨_, rfl, hr⟩
  | 1, hx => injection hx with hx; subst hx; exact ⟨_, rfl, rfl⟩
  | 2, hx => injection hx with hx; subst hx; exact ⟨_, rfl, rfl⟩
set_option maxRecDepth 100000 in
theorem fewC_holds : cFewC.Holds Tryd.prog := by
  refine holdsF (cons := []) Tryd.func20 (by kernel_rfl) (by kernel_rfl) mixed (by kernel_rfl) (fun c h => by cases h) anFewC fun p hp => ?_
  refine cast ?_ (fewC_vc p hp)
  kernel_rfl
set_option maxRecDepth 100000 in
theorem fewW_holds : cFewW.Holds Tryd.prog := by
  refine holdsF (cons := []) Tryd.func15 (by kernel_rfl) (by kernel_rfl) mixed (by kernel_rfl) (fun c h => by cases h) (fun p => anFewW p.2) fun p hp => ?_
  obtain ⟨lang, ws⟩ := p
  refine cast ?_ (fewW_vc lang ws hp)
  kernel_rfl
set_option maxRecDepth 100000 in
theorem ints_holds : cInts.Holds Tryd.prog := by
  refine holdsF (cons := []) Tryd.func18 (by kernel_rfl) (by kernel_rfl) mixed (by kernel_rfl) (fun c h => by cases h) (fun p => anInts p.1 p.2) fun p hp => ?_
  obtain ⟨a, b⟩ := p
  refine cast ?_ (ints_vc a b hp)
  kernel_rfl
set_option maxRecDepth 100000 in
theorem fewL_holds : cFewL.Holds Tryd.prog := by
  refine holdsF (cons := [cFewC]) Tryd.func11 (by kernel_rfl) (by kernel_rfl) mixed (by kernel_rfl) (fun c h => by obtain rfl := List.mem_singleton.1 h; exact fewC_holds) (fun p => anFewL p.2) fun p hp => ?_
  obtain ⟨c, ws⟩ := p
  refine cast ?_ (fewL_vc c ws hp)
  kernel_rfl
set_option maxRecDepth 100000 in
theorem valid_holds : cValid.Holds Tryd.prog := by
  refine holdsF (cons := [cLex, cLet]) Tryd.func17 (by kernel_rfl) (by kernel_rfl) mixed (by kernel_rfl) (fun c h => by
    rcases List.mem_cons.1 h with rfl | h
    · exact lex_holds
    · obtain rfl := List.mem_singleton.1 h; exact let_holds) (fun p => anValid p.2) fun p hp => ?_
  obtain ⟨lang, ws⟩ := p
  refine cast ?_ (valid_vc lang ws hp)
  kernel_rfl
end Go.Proofs.YtgjdbnkeamjhhaaDoor

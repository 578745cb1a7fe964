/-
  The program's Valid and Read of alphabets as contracts.
-/
import Derived.Test.YtldnfdghkdibmaaGreatDoorPArgs
import Derived.Test.YtldnfdghkdibmaaGreatDoorAlRead
set_option linter.unusedVariables false
namespace Go.Proofs.YtldnfdghkdibmaaGreatDoor
open Go.RowKit
open R
/-- an alphabet among the arguments -/
abbrev ckAl : CK := .agg (.cons .str (.cons (.sl (.one .str)) (.one (.sl (.one (.int .i64))))))
abbrev AlP : Type := List UInt8 × List (List UInt8) × List Int
def alOf (p : AlP) : Al.Alph := ⟨p.1, p.2.1, p.2.2⟩
/-- few letters, of few bytes -/
def FewP (p : AlP) : Prop := p.2.1.length ≤ 70 ∧ (∀ l ∈ p.2.1, l.length ≤ 20) ∧ p.2.2.length ≤ 70 ∧ p.1.length ≤ 100
section
variable {S : Nat → Prop} {w w' : World} {v : Value}
theorem alv_rep {p : AlP} {κ : Cx} (h : (CK.comp ckAl p).Rep κ w v) : ∃ A A' c c', v = alv (alOf p) A c A' c' ∧ StrAt w A p.2.1 ∧ IntAt w A' p.2.2 := by
  obtain ⟨vs, rfl, hsz, hc, _⟩ := h
  obtain ⟨u0, e0, r0⟩ := hc 0 _ rfl
  obtain ⟨u1, e1, r1⟩ := hc 1 _ rfl
  obtain ⟨u2, e2, r2⟩ := hc 2 _ rfl
  obtain rfl : u0 = .string (bs p.1) := r0
  obtain ⟨A, c, rfl, hA⟩ := str_rep r1
  obtain ⟨A', c', rfl, hS⟩ := int_rep r2
  refine ⟨A, A', c, c', ?_, hA, hS⟩
  obtain ⟨l⟩ := vs
  have hsz : l.length = 3 := hsz
  match l, hsz with
  | [a, b, d], _ =>
    injection e0 with e0; injection e1 with e1; injection e2 with e2
    have e0 : a = _ := e0
    have e1 : b = _ := e1
    have e2 : d = _ := e2
    subst e0; subst e1; subst e2
    rfl
end
theorem few_of {p : AlP} (h : FewP p) : Few (alOf p) := ⟨h.1, h.2.1, h.2.2.1, h.2.2.2⟩
def cPValid : Con := .of 33 [ckAl] [.one .bool] FewP (fun p => Al.validB (alOf p))
theorem pvalid_holds : cPValid.Holds Tryz.prog := by
  refine ⟨⟨⟨_, Tryz.func33, by kernel_rfl, by kernel_rfl⟩, fun F' hF p r hr => by injection hF with hF; subst hF; exact hr⟩, fun p vs w S hS hp hvs => ?_⟩
  obtain ⟨v, rfl, hv⟩ := one_arg hvs
  obtain ⟨A, A', c, c', rfl, hA, hB⟩ := alv_rep (p := p) hv
  refine (valid_any (alOf p) A A' c c' w (few_of hp) hA hB).mono ?_
  rintro e w' ⟨rfl, hbl⟩
  exact ⟨Al.validB (alOf p), _, rfl, rfl, rfl, hbl⟩
def cPRead : Con := .of 13 [ckAl, .one .str] [.one (.sl (.one (.int .i64))), .one (.int .i64), .one (.int .i64)] (fun p => FewP p.1 ∧ List.length p.2 ≤ 1000000) (fun p => Al.readB (alOf p.1) p.2)
theorem pread_holds : cPRead.Holds Tryz.prog := by
  refine ⟨⟨⟨_, Tryz.func13, by kernel_rfl, by kernel_rfl⟩, fun F' hF p r hr => by injection hF with hF; subst hF; exact hr⟩, fun p vs w S hS hp hvs => ?_⟩
  obtain ⟨p, s⟩ := p
  obtain ⟨v, v2, rfl, hv, hv2⟩ := two_args hvs
  obtain ⟨A, A', c, c', rfl, hA, hB⟩ := alv_rep (p := p) hv
  obtain rfl : v2 = .string (bs s) := hv2
  refine (read_any (alOf p) A A' c c' s w (few_of hp.1) hA hB hp.2).mono ?_
  rintro e w' ⟨v, rfl, hrow, hbl⟩
  refine ⟨Al.readB (alOf p) s, _, rfl, rfl, ⟨_, rfl, rfl, ?_⟩, hbl⟩
  have hr := ints_row (S := fun g => S g ∨ (w.heap.size ≤ g ∧ g < w'.heap.size)) rfl hrow (fun g h1 h2 => .inr ⟨h1, h2⟩)
  intro i x hx
  match i, hx with
  | 0, hx => injection hx with hx; subst hx; exact ⟨_, rfl, hr⟩
  | 1, hx => injection hx with hx; subst hx; exact ⟨_, rfl, rfl⟩
  | 2, hx => injection hx with hx; subst hx; exact ⟨_, rfl, rfl⟩
end Go.Proofs.YtldnfdghkdibmaaGreatDoor

/-
  AlphabetMatchesReference, as the card asks for it.
-/
import Derived.Test.YtafbgfdidmepaaaDoorRK
import Derived.Test.YtafbgfdidmepaaaDoorAlOpen
set_option linter.unusedVariables false
namespace Go.Proofs.YtafbgfdidmepaaaDoor
open Go.RowKit
open R
section
variable {w : World}
theorem rep_str {A : Option Addr} {c : Nat} {ls : List (List UInt8)} (h : StrAt w A ls) (hc : ls.length ≤ c) : Kd.Rep w (fun g => g < w.heap.size) (.sl (.one .str)) ls (.slice A ls.length c) := by
  refine ⟨A, c, rfl, hc, fun hl => ?_⟩
  obtain ⟨g, off, rfl, hg, hi⟩ := h hl
  refine ⟨g, off, rfl, hg, hg, fun i x hx => ⟨_, ?_, rfl⟩⟩
  rw [show (Kds.one Kd.str).size = 1 from rfl, Nat.mul_one]
  exact hi i x hx
theorem rep_int {A : Option Addr} {c : Nat} {ls : List Int} (h : IntAt w A ls) (hc : ls.length ≤ c) : Kd.Rep w (fun g => g < w.heap.size) (.sl (.one (.int .i64))) ls (.slice A ls.length c) := by
  refine ⟨A, c, rfl, hc, fun hl => ?_⟩
  obtain ⟨g, off, rfl, hg, hi⟩ := h hl
  refine ⟨g, off, rfl, hg, hg, fun i x hx => ⟨_, ?_, rfl⟩⟩
  rw [show (Kds.one (Kd.int .i64)).size = 1 from rfl, Nat.mul_one]
  exact hi i x hx
theorem rep_alv {p : AlP} {A A' : Option Addr} {c c' : Nat} (hA : StrAt w A p.2.1) (hS : IntAt w A' p.2.2) (hc : p.2.1.length ≤ c) (hc' : p.2.2.length ≤ c') : (CK.comp ckAl p).Rep (Cx.of fun g => g < w.heap.size) w (alv (alOf p) A c A' c') := by
  refine ⟨_, rfl, rfl, ?_, ?_⟩
  · intro i x hx
    match i, hx with
    | 0, hx => injection hx with hx; subst hx; exact ⟨_, rfl, rfl⟩
    | 1, hx => injection hx with hx; subst hx; exact ⟨_, rfl, rep_str hA hc⟩
    | 2, hx => injection hx with hx; subst hx; exact ⟨_, rfl, rep_int hS hc'⟩
  · intro i x hx
    match i, hx with
    | 0, hx => injection hx with hx; subst hx; rfl
    | 1, hx => injection hx with hx; subst hx; rfl
    | 2, hx => injection hx with hx; subst hx; rfl
end
theorem lmatches_any (a : Al.Alph) (A A' : Option Addr) (c c' : Nat) (s : List UInt8) (x : List Int) (XA : Option Addr) (cx : Nat) (w : World) (hz : Sized a) (hA : StrAt w A a.letters) (hS : IntAt w A' a.small) (hc : a.letters.length ≤ c) (hc' : a.small.length ≤ c') (hs : s.length ≤ 9223372036854775807) (hX : IntAt w XA x) (hx : x.length ≤ 9223372036854775807) (hcx : x.length ≤ cx) :
    Calls Tryd.prog 3 #[alv a A c A' c', .string (bs s), .slice XA x.length cx] w fun e w' => e = .returned (.bool true) ∧ Below w.heap.size w w' := by
  have h := lawref_holds.2 ((a.name, a.letters, a.small), s, x) [alv a A c A' c', .string (bs s), .slice XA x.length cx] w (fun g => g < w.heap.size) (fun _ h => h) ⟨hz, hs, hx⟩ ⟨rfl, fun i y hy => by
    match i, hy with
    | 0, hy => injection hy with hy; subst hy; exact ⟨_, rfl, rep_alv (p := (a.name, a.letters, a.small)) hA hS hc hc'⟩
    | 1, hy => injection hy with hy; subst hy; exact ⟨_, rfl, rfl⟩
    | 2, hy => injection hy with hy; subst hy; exact ⟨_, rfl, rep_int hX hcx⟩⟩
  refine Calls.mono h ?_
  rintro e w' ⟨r, v, rfl, hr, hv, hbl⟩
  have hr : r = true := hr
  subst hr
  have hv : v = .bool true := hv
  exact ⟨by rw [hv], hbl⟩
section
open Go.RowKit Go.ChangeShapes Go.WideShapes
variable {H : Type} {enc : TypeId × Value → H} {w : World} {base : Nat} {spare : Nat → Bool} {held : Bool}
set_option maxRecDepth 100000 in
theorem open_intsl_cap {r : Reach} {b0 : Nat} {v : Value} {d : DataW H} {p : List MemPlace} (hv : Value.okWide Tryd.prog w r b0 23 v) (h : DataW.Trod enc Tryd.prog w base spare held 23 v d p) :
    ∃ A c l, v = .slice A l.length c ∧ IntAt w A l ∧ l.length ≤ 9223372036854775807 ∧ l.length ≤ c := by
  obtain ⟨f, hf⟩ := h
  obtain ⟨a, n, c, rfl⟩ := okWide_slice Tryd.underlying23 hv
  exact open_intAt Tryd.underlying23 (by simpa [Value.cells] using hf)
end
end Go.Proofs.YtafbgfdidmepaaaDoor

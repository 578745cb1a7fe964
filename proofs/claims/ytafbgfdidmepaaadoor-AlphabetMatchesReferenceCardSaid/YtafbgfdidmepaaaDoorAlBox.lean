/-
  An argument's alphabet, held in a variable of the law.
-/
import Derived.Test.YtafbgfdidmepaaaDoorAlHead
set_option linter.unusedVariables false
namespace Go.Proofs.YtafbgfdidmepaaaDoor
open Go.RowKit Go.Maps

structure Box (a : Al.Alph) (w W : World) (ba : Nat) (A A' : Option Addr) (c c' : Nat) : Prop where
  blk : Blk W ba 25 #[.string (bs a.name), .slice A a.letters.length c, .slice A' a.small.length c']
  hA : StrAt W A a.letters
  hS : IntAt W A' a.small
  bel : Below w.heap.size w W
  pos : w.heap.size ≤ ba
theorem Box.next {a : Al.Alph} {w W W' : World} {ba : Nat} {A A' : Option Addr} {c c' : Nat} (h : Box a w W ba A A' c c') (hb : Below W.heap.size W W') : Box a w W' ba A A' c c' := ⟨h.blk.bel hb, h.hA.bel hb, h.hS.bel hb, bel_trans h.bel hb, h.pos⟩
theorem Box.drewN {a : Al.Alph} {w W : World} {ba : Nat} {A A' : Option Addr} {c c' : Nat} (h : Box a w W ba A A' c c') (n : Nat) : Box a w (W.drewN n) ba A A' c c' := h.next (bel_drewN (bel_refl W) n)
theorem Box.c0 {a : Al.Alph} {w W : World} {ba : Nat} {A A' : Option Addr} {c c' : Nat} (h : Box a w W ba A A' c c') : W.cell? ⟨ba, 0, none⟩ = some (.string (bs a.name)) := h.blk.cell 0
theorem Box.c1 {a : Al.Alph} {w W : World} {ba : Nat} {A A' : Option Addr} {c c' : Nat} (h : Box a w W ba A A' c c') : W.cell? ⟨ba, 1, none⟩ = some (.slice A a.letters.length c) := h.blk.cell 1
theorem Box.c2 {a : Al.Alph} {w W : World} {ba : Nat} {A A' : Option Addr} {c c' : Nat} (h : Box a w W ba A A' c c') : W.cell? ⟨ba, 2, none⟩ = some (.slice A' a.small.length c') := h.blk.cell 2
theorem Box.new {a : Al.Alph} {w : World} {A A' : Option Addr} (c c' : Nat) (hA : StrAt w A a.letters) (hS : IntAt w A' a.small) :
    Box a w (w.alloc (.cells #[.string (bs a.name), .slice A a.letters.length c, .slice A' a.small.length c'] 25)) w.heap.size A A' c c' :=
  ⟨Blk.new w _ _, hA.bel (bel_alloc (bel_refl w) _), hS.bel (bel_alloc (bel_refl w) _), bel_alloc (bel_refl w) _, Nat.le_refl _⟩
theorem Box.lt {a : Al.Alph} {w W : World} {ba : Nat} {A A' : Option Addr} {c c' : Nat} (h : Box a w W ba A A' c c') : ba < W.heap.size := h.blk.lt

/-- the law's guard: head, few -/
theorem few_at {a : Al.Alph} {s : List UInt8} {b : Bool} (h : (fewB a && decide (s.length ≤ 300)) = b) (A A' : Option Addr) (c c' : Nat) (w : World) (hz : Sized a) (hA : StrAt w A a.letters) (hs : s.length ≤ 9223372036854775807) :
    Calls Tryd.prog 12 #[alv a A c A' c', .string (bs s)] w fun e w' => e = .returned (.bool b) ∧ Below w.heap.size w w' := by
  subst h
  exact few_any a A A' c c' s w hz hA hs
theorem few_out {a : Al.Alph} {s : List UInt8} (h : (fewB a && decide (s.length ≤ 300)) = true) : Few a ∧ s.length ≤ 300 := by
  simp only [Bool.and_eq_true, decide_eq_true_eq] at h
  exact ⟨fewB_few h.1, h.2⟩
theorem few_nil {a : Al.Alph} : (fewB a && decide (([] : List UInt8).length ≤ 300)) = fewB a := by simp
end Go.Proofs.YtafbgfdidmepaaaDoor

/-
  alike: the iterator's contract.
-/
import Derived.Test.YtgjdbnkeamjhhaaDoorSoF
import Derived.RangeFuncNested
import Derived.RangeFuncBound
import Derived.RangeFuncCalls
import Derived.RangeFuncLeaves
import Derived.RangeFuncBox
import Derived.Shelf.Abstract
import Derived.Shelf.RegionOpen
import Derived.OwnWalkIn
import Derived.TacticsInMore
import Derived.LoopNIn
import Derived.LoopIn
import Derived.RegionTactic
import Derived.BigRegion
import Derived.Deep.CutRange
import Derived.Deep.CutBlock
set_option linter.unusedVariables false
namespace Go.Proofs.YtgjdbnkeamjhhaaDoor
open Go.RowKit Go.Maps Go.Shelf
attribute [local go_sem] alloc_drewN setCell_drewN setRow_drewN Oper.semAt_some

theorem alike_mk (c : CfP) (A : Option Addr) (cap : Nat) (s : List UInt8) (w : World) :
    Calls Tryd.prog 22 #[.slice A c.length cap, .string (bs s)] w fun e w' => e = .returned (.func (.func 27) #[] #[.pointer (some ⟨w.heap.size + 1, 0, none⟩), .pointer (some ⟨w.heap.size, 0, none⟩)]) ∧
      w' = (w.alloc (.cells #[.slice A c.length cap] 22)).alloc (.cells #[.string (bs s)] 9) := by
  go_enter Tryd.func22, Tryd.ntmps22
  go_wp2
  go_ret
  exact ⟨rfl, rfl⟩
theorem grown_drewN (w : World) (n : Nat) : w.grownBy (w.drewN n) none := ⟨rfl, rfl, rfl, Nat.le_refl _, fun _ _ _ => rfl⟩
/-- the objects that are the iterator's own -/
def Mine : Obj → Bool
  | .cells _ t _ => t == 9 || (t == 22 || (t == 29 || t == 61))
  | .stringIter .. => true
  | _ => false
/-- what a round keeps -/
structure KpM (B0 : Nat) (W W' : World) : Prop where
  old : ∀ g, g < B0 → W'.heap[g]? = W.heap[g]?
  size : W.heap.size ≤ W'.heap.size
  mine : ∀ (g : Nat) o, W.heap[g]? = some o → Mine o = true → W'.heap[g]? = some o
theorem KpM.refl (B0 : Nat) (W : World) : KpM B0 W W := ⟨fun _ _ => rfl, Nat.le_refl _, fun _ _ h _ => h⟩
theorem KpM.trans {B0 : Nat} {A B C : World} (h : KpM B0 A B) (k : KpM B0 B C) : KpM B0 A C :=
  ⟨fun g hg => (k.old g hg).trans (h.old g hg), Nat.le_trans h.size k.size, fun g o ho hm => k.mine g o (h.mine g o ho hm) hm⟩
/-- what the iterator reads -/
structure SLay (W : World) (B0 bw bl : Nat) (A : Option Addr) (cap : Nat) (c : CfP) (s : List UInt8) : Prop where
  word : Blk W bw 9 #[.string (bs s)]
  list : Blk W bl 22 #[.slice A c.length cap]
  cfs : 0 < c.length → ∃ g off, A = some ⟨g, off, none⟩ ∧ g < B0 ∧ ∀ (j : Nat) x, c[j]? = some x → W.cell? ⟨g, off + j * 2, none⟩ = some (.string (bs x.1)) ∧ W.cell? ⟨g, off + j * 2 + 1, none⟩ = some (.string (bs x.2))
section
variable {W W' : World} {B0 bw bl : Nat} {A : Option Addr} {cap : Nat} {c : CfP} {s : List UInt8}
theorem SLay.keep (h : SLay W B0 bw bl A cap c s) (k : KpM B0 W W') : SLay W' B0 bw bl A cap c s :=
  ⟨k.mine _ _ h.word rfl, k.mine _ _ h.list rfl, fun hl => by
    obtain ⟨g, off, h1, h2, h3⟩ := h.cfs hl
    exact ⟨g, off, h1, h2, fun j x hj => ⟨(World.cell?_of_block (a := ⟨g, off + j * 2, none⟩) (k.old g h2)).trans (h3 j x hj).1, (World.cell?_of_block (a := ⟨g, off + j * 2 + 1, none⟩) (k.old g h2)).trans (h3 j x hj).2⟩⟩⟩
theorem SLay.alloc (h : SLay W B0 bw bl A cap c s) (hB : B0 ≤ W.heap.size) (o : Obj) : SLay (W.alloc o) B0 bw bl A cap c s :=
  ⟨h.word.alloc o, h.list.alloc o, fun hl => by
    obtain ⟨g, off, h1, h2, h3⟩ := h.cfs hl
    have e : (W.alloc o).heap[g]? = W.heap[g]? := Below.heap_alloc W o g (by omega)
    exact ⟨g, off, h1, h2, fun j x hj => ⟨(World.cell?_of_block (a := ⟨g, off + j * 2, none⟩) e).trans (h3 j x hj).1, (World.cell?_of_block (a := ⟨g, off + j * 2 + 1, none⟩) e).trans (h3 j x hj).2⟩⟩⟩
theorem SLay.drewN (h : SLay W B0 bw bl A cap c s) (n : Nat) : SLay (W.drewN n) B0 bw bl A cap c s := ⟨h.word, h.list, h.cfs⟩
theorem SLay.put (h : SLay W B0 bw bl A cap c s) {D : Nat} (hB : B0 ≤ D) {o : Obj} (hD : W.heap[D]? = some o) (ho : o.isCells = false) (o' : Obj) : SLay (W.putObj D o') B0 bw bl A cap c s := by
  have ne : ∀ g t cs, Blk W g t cs → g ≠ D := fun g t cs hb e => by
    subst e
    unfold Blk at hb
    rw [hb] at hD
    injection hD with hD
    subst hD
    cases ho
  refine ⟨(World.putObj_heap_other (ne _ _ _ h.word)).trans h.word, (World.putObj_heap_other (ne _ _ _ h.list)).trans h.list, fun hl => ?_⟩
  obtain ⟨g, off, h1, h2, h3⟩ := h.cfs hl
  have e : (W.putObj D o').heap[g]? = W.heap[g]? := World.putObj_heap_other (by omega)
  exact ⟨g, off, h1, h2, fun j x hj => ⟨(World.cell?_of_block (a := ⟨g, off + j * 2, none⟩) e).trans (h3 j x hj).1, (World.cell?_of_block (a := ⟨g, off + j * 2 + 1, none⟩) e).trans (h3 j x hj).2⟩⟩
theorem SLay.at_ (h : SLay W B0 bw bl A cap c s) (j : Nat) (hj : j < c.length) : ∃ g off, A = some ⟨g, off, none⟩ ∧ g < B0 ∧ W.rangeAt g (off + j * 2) [.string (bs (c.getD j ([], [])).1), .string (bs (c.getD j ([], [])).2)] := by
  obtain ⟨g, off, h1, h2, h3⟩ := h.cfs (by omega)
  have he : c[j]? = some (c.getD j ([], [])) := by rw [List.getD_eq_getElem?_getD, List.getElem?_eq_getElem hj]; rfl
  obtain ⟨a, b⟩ := h3 j _ he
  refine ⟨g, off, h1, h2, fun i v hv => ?_⟩
  match i, hv with
  | 0, hv => injection hv with hv; subst hv; exact a
  | 1, hv => injection hv with hv; subst hv; exact b
theorem SLay.cells (h : SLay W B0 bw bl A cap c s) : W.cell? ⟨bw, 0, none⟩ = some (.string (bs s)) ∧ W.cell? ⟨bl, 0, none⟩ = some (.slice A c.length cap) := ⟨h.word.cell 0, h.list.cell 0⟩
theorem putObj_drewN (w : World) (n D : Nat) (o : Obj) : (w.drewN n).putObj D o = (w.putObj D o).drewN n := rfl
/-- the next place of a string gone through, letters alone -/
theorem next_let {P : Program} (ty : TypeId) (D i : Nat) (hD : W.heap[D]? = some (.stringIter (bs s) i)) (hi : i < s.length) (hl : Snd.letB (s.getD i 0) = true) :
    (Instr.next (.pointer (some ⟨D, 0, none⟩)) true ty).run P W = .ok (.tuple #[.bool true, .int .i64 i, .int .i32 (s.getD i 0).toNat]) (W.putObj D (.stringIter (bs s) (i + 1))) := by
  have hi' : i < (bs s).size := hi
  have hd := ((rune_is s i hi').2.1 hl).1
  simp only [Instr.next, getObj, setObj, Sem.run_bind, Sem.run, Result.andThen, hD, hi', if_true, hd]
  simp [goInt, World.putObj]
theorem next_end {P : Program} (ty : TypeId) (D i : Nat) (hD : W.heap[D]? = some (.stringIter (bs s) i)) (hi : ¬ i < s.length) :
    (Instr.next (.pointer (some ⟨D, 0, none⟩)) true ty).run P W = .ok (.tuple #[.bool false]) W := by
  have hi' : ¬ i < (bs s).size := hi
  simp only [Instr.next, getObj, Sem.run_bind, Sem.run, Result.andThen, hD, hi', if_false]
  rfl
theorem iterPos_of {D i : Nat} {s : ByteArray} (hD : W.heap[D]? = some (.stringIter s i)) : W.iterPos D = i := by unfold World.iterPos; rw [hD]
end
end Go.Proofs.YtgjdbnkeamjhhaaDoor

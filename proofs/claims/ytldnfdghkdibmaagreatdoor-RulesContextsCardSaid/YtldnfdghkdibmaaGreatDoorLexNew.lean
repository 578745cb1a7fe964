/-
  A new scanner; tokens in memory.
-/
import Derived.Test.YtldnfdghkdibmaaGreatDoorLexNext2
import Derived.Test.YtldnfdghkdibmaaGreatDoorLexClasses
namespace Go.Proofs.YtldnfdghkdibmaaGreatDoor
open Go.RowKit
attribute [local go_sem] alloc_drewN setCell_drewN setRow_drewN

def Lx.Tok.cells (t : Lx.Tok) : List Value := [.int .i64 t.kind, .int .i64 t.pos, .int .i64 t.n, .string (bs t.text)]
def tokCells (l : List Lx.Tok) : List Value := l.flatMap Lx.Tok.cells
theorem tokCells_length (l : List Lx.Tok) : (tokCells l).length = l.length * 4 := by
  induction l with
  | nil => rfl
  | cons t r ih =>
    have : tokCells (t :: r) = t.cells ++ tokCells r := rfl
    rw [this, List.length_append, ih]
    simp [Lx.Tok.cells]
    omega
theorem tokCells_append (l r : List Lx.Tok) : tokCells (l ++ r) = tokCells l ++ tokCells r := by simp [tokCells]
/-- a slice of the call's own that has these tokens -/
def TokRow (w : World) (base : Nat) (v : Value) (l : List Lx.Tok) : Prop := w.ownsRow base 45 4 v l.length (tokCells l)
theorem info_tok : (Tryz.prog.info? 45).map (fun i => (i.zero, i.size, i.bytes)) = some (some (.agg #[.int .i64 0, .int .i64 0, .int .i64 0, .string { data := #[] }]), 4, 40) := by kernel_rfl

def scanCells (s : ByteArray) : Array Value := #[.string s] ++ clsTab
theorem scanCells_size (s : ByteArray) : (scanCells s).size = 257 := by
  unfold scanCells
  rw [Array.size_append, clsTab_size]
  rfl
theorem scanCells_one (s : ByteArray) : (scanCells s).all (·.oneCell') = true := by
  unfold scanCells
  rw [Array.all_append, clsTab_one]
  simp [Value.oneCell']
theorem zeroScan : ∀ w, (zeroValue 85).run Tryz.prog w = .ok (.agg (#[.string { data := #[] }] ++ tab0)) w := fun _ => by kernel_rfl
theorem builtScan (s : ByteArray) : Tryz.prog.built 85 [(0, .string s), (1, .agg clsTab)] = some (scanCells s) := by kernel_rfl
theorem infoScan : (Tryz.prog.info? 85).map (·.size) = some 257 := by kernel_rfl
theorem scan_new (w : World) (s : ByteArray) (t : TypeId) (g : Nat) (h : Blk w g t (scanCells s)) : Scan w g s := by
  refine ⟨(h.cell 0).trans ?_, fun c => (h.cell _).trans ?_⟩
  · unfold scanCells
    rw [Array.getElem?_append_left (by simp)]
    rfl
  · unfold scanCells
    rw [Array.getElem?_append_right (by simp)]
    simp only [List.size_toArray, List.length_singleton, Nat.add_sub_cancel_left]
    exact clsTab_at c

end Go.Proofs.YtldnfdghkdibmaaGreatDoor

/-
  Several texts in one: R1, R2, R3, R4, R5, R5M, R6.
-/
import Derived.Test.YtldnfdghkdibmaaGreatDoorWalkBase
import Derived.Maps.RangeRun
import Derived.Laws.StructEq
import Derived.MapKept
import Derived.ChangeKeysEq
import Derived.WideKeyRuns
/-
  Kinds of data, their payloads in plain Lean, and what it is that a value in a world reads as such a payload.
-/
set_option linter.unusedVariables false
namespace Go.Proofs.YtldnfdghkdibmaaGreatDoor
open Go.RowKit
namespace R

mutual
/-- the kinds of data that one cell holds: a slice's elements have a row of cells each -/
inductive Kd where
  | int (k : IntKind)
  | bool
  | str
  | sl (fs : Kds)
inductive Kds where
  | one (k : Kd)
  | cons (k : Kd) (ks : Kds)
end
mutual
@[reducible] def Kd.Pay : Kd → Type
  | .int _ => Int
  | .bool => Bool
  | .str => List UInt8
  | .sl fs => List fs.Pay
@[reducible] def Kds.Pay : Kds → Type
  | .one k => k.Pay
  | .cons k ks => k.Pay × ks.Pay
end
def Kds.size : Kds → Nat
  | .one _ => 1
  | .cons _ ks => ks.size + 1
theorem Kds.size_pos : ∀ fs : Kds, 0 < fs.size
  | .one _ => Nat.one_pos
  | .cons _ _ => Nat.succ_pos _

mutual
def Kd.Rep (w : World) (S : Nat → Prop) : (k : Kd) → k.Pay → Value → Prop
  | .int k, n, v => v = .int k n
  | .bool, b, v => v = .bool b
  | .str, s, v => v = .string (bs s)
  | .sl fs, xs, v => ∃ A c, v = .slice A (xs : List fs.Pay).length c ∧ (xs : List fs.Pay).length ≤ c ∧
      (0 < (xs : List fs.Pay).length → ∃ g off, A = some ⟨g, off, none⟩ ∧ g < w.heap.size ∧ S g ∧ ∀ (i : Nat) (x : fs.Pay), (xs : List fs.Pay)[i]? = some x → fs.Rep w S x g (off + i * fs.size))
/-- the cells of block g from number o on read as this row -/
def Kds.Rep (w : World) (S : Nat → Prop) : (fs : Kds) → fs.Pay → Nat → Nat → Prop
  | .one k, p, g, o => ∃ u, w.cell? ⟨g, o, none⟩ = some u ∧ k.Rep w S p u
  | .cons k ks, p, g, o => (∃ u, w.cell? ⟨g, o, none⟩ = some u ∧ k.Rep w S p.1 u) ∧ ks.Rep w S p.2 g (o + 1)
end

section
variable {w w' : World} {S S' : Nat → Prop}
/-- what leaves the cells of the blocks in S as they were -/
structure Keeps (w w' : World) (S : Nat → Prop) : Prop where
  size : w.heap.size ≤ w'.heap.size
  cell : ∀ g o, S g → g < w.heap.size → w'.cell? ⟨g, o, none⟩ = w.cell? ⟨g, o, none⟩
mutual
theorem Kd.Rep.keeps (hk : Keeps w w' S) (hS : ∀ g, S g → g < w.heap.size → S' g) : ∀ (k : Kd) (p : k.Pay) (v : Value), k.Rep w S p v → k.Rep w' S' p v
  | .int k, n, v, h => h
  | .bool, b, v, h => h
  | .str, s, v, h => h
  | .sl fs, xs, v, h => by
    obtain ⟨A, c, rfl, hc, h⟩ := h
    refine ⟨A, c, rfl, hc, fun hp => ?_⟩
    obtain ⟨g, off, hA, hg, hSg, hc⟩ := h hp
    exact ⟨g, off, hA, Nat.lt_of_lt_of_le hg hk.size, hS g hSg hg, fun i x hi => Kds.Rep.keeps hk hS fs x g _ hSg hg (hc i x hi)⟩
theorem Kds.Rep.keeps (hk : Keeps w w' S) (hS : ∀ g, S g → g < w.heap.size → S' g) : ∀ (fs : Kds) (p : fs.Pay) (g o : Nat), S g → g < w.heap.size → fs.Rep w S p g o → fs.Rep w' S' p g o
  | .one k, p, g, o, hs, hg, h => by
    obtain ⟨u, hu, h⟩ := h
    exact ⟨u, (hk.cell g o hs hg).trans hu, Kd.Rep.keeps hk hS k p u h⟩
  | .cons k ks, p, g, o, hs, hg, h => by
    obtain ⟨⟨u, hu, h1⟩, h2⟩ := h
    exact ⟨⟨u, (hk.cell g o hs hg).trans hu, Kd.Rep.keeps hk hS k p.1 u h1⟩, Kds.Rep.keeps hk hS ks p.2 g (o + 1) hs hg h2⟩
end
theorem Keeps.refl (w : World) (S : Nat → Prop) : Keeps w w S := ⟨Nat.le_refl _, fun _ _ _ _ => rfl⟩
theorem Keeps.trans {w'' : World} (h : Keeps w w' S) (h' : Keeps w' w'' S) : Keeps w w'' S :=
  ⟨Nat.le_trans h.size h'.size, fun g o hs hg => (h'.cell g o hs (Nat.lt_of_lt_of_le hg h.size)).trans (h.cell g o hs hg)⟩
theorem Keeps.below (h : Below w.heap.size w w') (S : Nat → Prop) : Keeps w w' S := ⟨h.size, fun g o _ hg => h.cell (p := ⟨g, o, none⟩) hg⟩
theorem Keeps.set {p : Addr} (hp : ¬ S p.block) (v : Value) : Keeps w (w.setCell p v) S :=
  ⟨by simp, fun g o hs _ => World.cell?_of_block (Below.heap_setCell w p v g (fun e => hp (e ▸ hs)))⟩

/-- field number f of a row -/
def Kds.fld : (fs : Kds) → fs.Pay → Nat → Option ((k : Kd) × k.Pay)
  | .one k, p, 0 => some ⟨k, p⟩
  | .one _, _, _ + 1 => none
  | .cons k _, p, 0 => some ⟨k, p.1⟩
  | .cons _ ks, p, n + 1 => ks.fld p.2 n
theorem Kds.Rep.fld : ∀ (fs : Kds) (p : fs.Pay) (g o f : Nat) (x : (k : Kd) × k.Pay), fs.Rep w S p g o → fs.fld p f = some x → ∃ u, w.cell? ⟨g, o + f, none⟩ = some u ∧ x.1.Rep w S x.2 u
  | .one k, p, g, o, 0, x, h, hf => by injection hf with hf; subst hf; exact h
  | .one k, p, g, o, f + 1, x, h, hf => by cases hf
  | .cons k ks, p, g, o, 0, x, h, hf => by injection hf with hf; subst hf; exact h.1
  | .cons k ks, p, g, o, f + 1, x, h, hf => by
    have := Kds.Rep.fld ks p.2 g (o + 1) f x h.2 hf
    rwa [Nat.add_assoc, Nat.add_comm 1 f] at this
end
end R
end Go.Proofs.YtldnfdghkdibmaaGreatDoor

/-
  What is known of a frame and of the call's own memory, and what an operation that only reads makes of it.
-/
set_option linter.unusedVariables false
namespace Go.Proofs.YtldnfdghkdibmaaGreatDoor
open Go.RowKit
namespace Mp
variable {α β : Type}
/-- what a map holds at a key -/
def get (eq : α → α → Bool) (k : α) : List (α × β) → Option β
  | [] => none
  | x :: r => if eq k x.1 then some x.2 else get eq k r
/-- a map with a value at a key -/
def put (eq : α → α → Bool) (k : α) (v : β) : List (α × β) → List (α × β)
  | [] => [(k, v)]
  | x :: r => if eq k x.1 then (k, v) :: r else x :: put eq k v r
end Mp
namespace R

/-- an argument's or a result's kind -/
inductive CK where
  | one (k : Kd)
  | agg (ks : Kds)
@[reducible] def CK.Pay : CK → Type
  | .one k => k.Pay
  | .agg ks => ks.Pay
/-- a map: one that the call owns, the one at a key of the map of maps, the nil map -/
inductive Src where
  | map (m : Nat)
  | inner (kk : CK) (k : kk.Pay)
  | none
/-- what is known of one cell's value -/
inductive Cell where
  | any
  | undef
  | nil
  | val (k : Kd) (p : k.Pay)
  | ptr (b off : Nat)
  | ep (fs : Kds) (p : fs.Pay) (f : Nat)
  | own (r : Nat)
  | rp (r sz i f : Nat)
  | fn (f : FuncId)
  /-- a closure over variables: the first k of them are bound ahead of the arguments, the others are captured -/
  | clo (f : FuncId) (k : Nat) (ps : List (Nat × Nat))
  /-- the nil map; a map that the call owns -/
  | nilm
  | mref (m : Nat)
  /-- an interface that holds a struct -/
  | dyn (t : TypeId) (ks : Kds) (p : ks.Pay)
  /-- the map of maps that the call owns; what it holds at a key: a map, or nil -/
  | nref
  | iref (kk : CK) (k : kk.Pay)
  /-- an iterator over a map; a function that goes through the keys of a map -/
  | iter (i : Nat)
  | kseq (f : FuncId) (src : Src)
mutual
def Kd.deq : (k k' : Kd) → Option (PLift (k = k'))
  | .int a, .int b => if h : a = b then some ⟨by rw [h]⟩ else none
  | .bool, .bool => some ⟨rfl⟩
  | .str, .str => some ⟨rfl⟩
  | .sl fs, .sl gs => match fs.deq gs with
    | some ⟨h⟩ => some ⟨by rw [h]⟩
    | none => none
  | _, _ => none
def Kds.deq : (k k' : Kds) → Option (PLift (k = k'))
  | .one a, .one b => match a.deq b with
    | some ⟨h⟩ => some ⟨by rw [h]⟩
    | none => none
  | .cons a xs, .cons b ys => match a.deq b, xs.deq ys with
    | some ⟨h⟩, some ⟨h'⟩ => some ⟨by rw [h, h']⟩
    | _, _ => none
  | _, _ => none
end

def CK.deq : (x y : CK) → Option (PLift (x = y))
  | .one a, .one b => match a.deq b with
    | some ⟨h⟩ => some ⟨by rw [h]⟩
    | none => none
  | .agg a, .agg b => match a.deq b with
    | some ⟨h⟩ => some ⟨by rw [h]⟩
    | none => none
  | _, _ => none
inductive Comp where
  | one (c : Cell)
  | agg (cs : List Cell)
/-- what is known of a slot's value -/
inductive AV where
  | c (x : Comp)
  | tup (xs : List Comp)
def Kds.cells : (ks : Kds) → ks.Pay → List Cell
  | .one k, p => [.val k p]
  | .cons k ks, p => .val k p.1 :: ks.cells p.2
def CK.comp : (x : CK) → x.Pay → Comp
  | .one k, p => .one (.val k p)
  | .agg ks, p => .agg (ks.cells p)
def takeCell (k : Kd) : Cell → Option k.Pay
  | .val k' p => match k'.deq k with
    | some ⟨h⟩ => some (h ▸ p)
    | none => none
  | .nil => match k with
    | .sl fs => some ([] : List fs.Pay)
    | _ => none
  | _ => none
def takeCells : (ks : Kds) → List Cell → Option ks.Pay
  | .one k, [c] => takeCell k c
  | .cons k ks, c :: cs => match takeCell k c, takeCells ks cs with
    | some p, some q => some (p, q)
    | _, _ => none
  | _, _ => none
def takeComp : (x : CK) → Comp → Option x.Pay
  | .one k, .one c => takeCell k c
  | .agg ks, .agg cs => takeCells ks cs
  | _, _ => none
mutual
/-- a key's value -/
def Kd.kv : (k : Kd) → k.Pay → Value
  | .int k, n => .int k n
  | .bool, b => .bool b
  | .str, s => .string (bs s)
  | .sl _, _ => Go.undef
def Kds.kvs : (ks : Kds) → ks.Pay → List Value
  | .one k, p => [k.kv p]
  | .cons k ks, p => k.kv p.1 :: ks.kvs p.2
end
def CK.kv : (x : CK) → x.Pay → Value
  | .one k, p => k.kv p
  | .agg ks, p => .agg (ks.kvs p).toArray
mutual
/-- equality of keys -/
@[reducible] def Kd.eqB : (k : Kd) → k.Pay → k.Pay → Bool
  | .int _, a, b => (a : Int) == b
  | .bool, a, b => (a : Bool) == b
  | .str, a, b => (a : List UInt8) == b
  | .sl _, _, _ => false
@[reducible] def Kds.eqB : (ks : Kds) → ks.Pay → ks.Pay → Bool
  | .one k, a, b => k.eqB a b
  | .cons k ks, a, b => k.eqB a.1 b.1 && ks.eqB a.2 b.2
end
@[reducible] def CK.eqB : (x : CK) → x.Pay → x.Pay → Bool
  | .one k => k.eqB
  | .agg ks => ks.eqB
structure Row where
  e : TypeId
  fs : Kds
  xs : List fs.Pay
/-- a map that the call owns: its keys and values, in the order in which they came -/
structure MRow where
  t : TypeId
  kk : CK
  vk : CK
  xs : List (kk.Pay × vk.Pay)
/-- a map of maps that the call owns -/
structure NRow where
  t : TypeId
  kk : CK
  it : TypeId
  ik : CK
  iv : CK
  xs : List (kk.Pay × List (ik.Pay × iv.Pay))
/-- an iterator: the entries that it has not handed out, and the last one that it has -/
structure ItP where
  src : Src
  kk : CK
  vk : CK
  left : List (kk.Pay × vk.Pay)
  cur : Option (kk.Pay × vk.Pay)
/-- what is known of a frame, of the variables that the call has made, and of the rows and maps that it owns; sav: the frames of those who called; off: the number that new things have ahead of their slot's -/
structure St where
  n : Nat
  env : List (Nat × AV)
  boxes : List (Nat × List Cell)
  rows : List (Nat × Row)
  sav : List (Nat × AV) := []
  maps : List (Nat × MRow) := []
  off : Nat := 0
  nest : Option NRow := none
  iters : List (Nat × ItP) := []

def look {α : Type} (d : α) (t : Nat) : List (Nat × α) → α
  | [] => d
  | (u, v) :: r => bif u.beq t then v else look d t r
def look? {α : Type} (t : Nat) : List (Nat × α) → Option α
  | [] => none
  | (u, v) :: r => bif u.beq t then some v else look? t r
def St.get (st : St) (t : Nat) : AV := look (.c (.one .any)) t st.env
def St.box (st : St) (b : Nat) : Option (List Cell) := look? b st.boxes
def St.row (st : St) (r : Nat) : Option Row := look? r st.rows
def St.map (st : St) (m : Nat) : Option MRow := look? m st.maps
def St.iter (st : St) (i : Nat) : Option ItP := look? i st.iters
def St.set (st : St) (t : Nat) (v : AV) : St := { st with env := (t, v) :: st.env }
def St.put (st : St) (d : Option Nat) (v : AV) : St :=
  match d with
  | some t => st.set t v
  | none => st

def int (k : IntKind) (n : Int) : AV := .c (.one (.val (.int k) n))
def bool (b : Bool) : AV := .c (.one (.val .bool b))
def str (s : List UInt8) : AV := .c (.one (.val .str s))

def ofCell : Value → Cell
  | .bool b => .val .bool b
  | .int k n => .val (.int k) n
  | .string s => .val .str s.data.toList
  | .slice none 0 0 => .nil
  | .map none => .nilm
  | _ => .any
def ofConst : Value → AV
  | .agg cs => bif cs.toList.all (·.oneCell') then .c (.agg (cs.toList.map ofCell)) else .c (.one .any)
  | v => .c (.one (ofCell v))
def St.ev (st : St) : Operand → AV
  | .tmp t => st.get t
  | .const v => ofConst v
  | .global _ => .c (.one .any)
  | .func f => .c (.one (.fn f))

/-- a side condition and a value; or nothing known -/
inductive Got where
  | no
  | ok (c : Prop) (v : AV)

mutual
@[reducible] def Kd.dflt : (k : Kd) → k.Pay
  | .int _ => (0 : Int)
  | .bool => false
  | .str => ([] : List UInt8)
  | .sl fs => ([] : List fs.Pay)
@[reducible] def Kds.dflt : (fs : Kds) → fs.Pay
  | .one k => k.dflt
  | .cons k ks => (k.dflt, ks.dflt)
end

def pickAV (q : Bool) : AV → AV → AV
  | .c (.one (.val .bool p)), .c (.one (.val .bool r)) => .c (.one (.val .bool (bif q then p else r)))
  | x, y => bif q then x else y

def isAggB (P : Program) (t : TypeId) : Option Bool :=
  match P.underlying t with
  | some (.struct _) | some (.array _ _) => some true
  | some _ => some false
  | none => none
def sizeB (P : Program) (t : TypeId) : Option Nat := (P.info? t).map (·.size)

def cellsFrom (cs : List Cell) (off : Nat) : Nat → Option (List Cell)
  | 0 => some []
  | n + 1 => match cs[off]? with
    | some c => (cellsFrom cs (off + 1) n).map (c :: ·)
    | none => none
def fldsFrom (fs : Kds) (p : fs.Pay) (f : Nat) : Nat → Option (List Cell)
  | 0 => some []
  | n + 1 => match fs.fld p f with
    | some x => (fldsFrom fs p (f + 1) n).map (Cell.val x.1 x.2 :: ·)
    | none => none
/-- the value of type t that begins with cell number off -/
def partOf (P : Program) (t : TypeId) (cs : List Cell) (off : Nat) : Got :=
  match isAggB P t, sizeB P t with
  | some true, some n => match cellsFrom cs off n with
    | some l => .ok True (.c (.agg l))
    | none => .no
  | some false, _ => match cs[off]? with
    | some c => .ok True (.c (.one c))
    | none => .no
  | _, _ => .no
def partOfRow (P : Program) (t : TypeId) (fs : Kds) (p : fs.Pay) (f : Nat) : Got :=
  match isAggB P t, sizeB P t with
  | some true, some n => match fldsFrom fs p f n with
    | some l => .ok True (.c (.agg l))
    | none => .no
  | some false, _ => match fs.fld p f with
    | some x => .ok True (.c (.one (.val x.1 x.2)))
    | none => .no
  | _, _ => .no

def fits64 (n : Int) : Prop := -9223372036854775808 ≤ n ∧ n ≤ 9223372036854775807
def intOp (op : BinOp) (k : IntKind) (a b : Int) : Got :=
  match op with
  | .add => match k with
    | .i64 => .ok (fits64 (a + b)) (int .i64 (a + b))
    | _ => .ok True (int k (k.wrap (a + b)))
  | .sub => match k with
    | .i64 => .ok (fits64 (a - b)) (int .i64 (a - b))
    | _ => .ok True (int k (k.wrap (a - b)))
  | .mul => match k with
    | .i64 => .ok (fits64 (a * b)) (int .i64 (a * b))
    | _ => .ok True (int k (k.wrap (a * b)))
  | .quo => .ok (b ≠ 0) (int k (k.wrap (a.tdiv b)))
  | .rem => .ok (b ≠ 0) (int k (a.tmod b))
  | .and => .ok True (int k (k.wrap ((BitVec.ofInt k.bits a) &&& (BitVec.ofInt k.bits b)).toNat))
  | .or => .ok True (int k (k.wrap ((BitVec.ofInt k.bits a) ||| (BitVec.ofInt k.bits b)).toNat))
  | .xor => .ok True (int k (k.wrap ((BitVec.ofInt k.bits a) ^^^ (BitVec.ofInt k.bits b)).toNat))
  | .eql => .ok True (bool (a == b))
  | .neq => .ok True (bool (a != b))
  | .lss => .ok True (bool (decide (a < b)))
  | .leq => .ok True (bool (decide (a ≤ b)))
  | .gtr => .ok True (bool (decide (b < a)))
  | .geq => .ok True (bool (decide (b ≤ a)))
  | _ => .no
def shiftOp (op : BinOp) (k : IntKind) (a b : Int) : Got :=
  match op with
  | .shl => .ok (0 ≤ b) (int k (k.wrap (a * 2 ^ (min b.toNat k.bits))))
  | .shr => .ok (0 ≤ b) (int k (a.fdiv (2 ^ (min b.toNat k.bits))))
  | _ => .no
def strOp (op : BinOp) (s t : List UInt8) : Got :=
  match op with
  | .add => .ok (s.length + t.length ≤ 9223372036854775807) (str (s ++ t))
  | .eql => .ok True (bool (s == t))
  | .neq => .ok True (bool (!(s == t)))
  | .lss => .ok True (bool (Op.bytesLess s t))
  | .leq => .ok True (bool (Op.bytesLess s t || s == t))
  | .gtr => .ok True (bool (!(Op.bytesLess s t || s == t)))
  | .geq => .ok True (bool (!Op.bytesLess s t))
  | _ => .no
def boolOp (op : BinOp) (p q : Bool) : Got :=
  match op with
  | .eql => .ok True (bool (p == q))
  | .neq => .ok True (bool (!(p == q)))
  | _ => .no
def IntKind.eqB : IntKind → IntKind → Bool
  | .i8, .i8 | .i16, .i16 | .i32, .i32 | .i64, .i64 | .u8, .u8 | .u16, .u16 | .u32, .u32 | .u64, .u64 => true
  | _, _ => false
def isShift : BinOp → Bool
  | .shl | .shr => true
  | _ => false
def binGot (isB : Bool) (op : BinOp) : AV → AV → Got
  | .c (.one (.val (.int k) a)), .c (.one (.val (.int k') b)) =>
    bif isShift op then shiftOp op k a b else bif IntKind.eqB k k' then intOp op k a b else .no
  | .c (.one (.val .str s)), .c (.one (.val .str t)) => strOp op s t
  | .c (.one (.val .bool p)), .c (.one (.val .bool q)) => bif isB then boolOp op p q else .no
  | _, _ => .no

/-- equality of structs: field for field -/
def eqFlds (P : Program) (E : TypeId → AV → AV → Option Bool) (xs ys : List Cell) : List Field → Option Bool
  | [] => some true
  | f :: r => bif f.name == "_" then none else match partOf P f.type xs f.offset, partOf P f.type ys f.offset with
    | .ok _ A, .ok _ B => match E f.type A B, eqFlds P E xs ys r with
      | some p, some q => some (p && q)
      | _, _ => none
    | _, _ => none
def eqLeaf (P : Program) (t : TypeId) : AV → AV → Option Bool
  | .c (.one (.val (.int k) a)), .c (.one (.val (.int k') b)) => match P.underlying t with
    | some (.int _) => bif IntKind.eqB k k' then some (a == b) else none
    | _ => none
  | .c (.one (.val .str a)), .c (.one (.val .str b)) => match P.underlying t with
    | some .string => some (a == b)
    | _ => none
  | .c (.one (.val .bool a)), .c (.one (.val .bool b)) => match P.underlying t with
    | some .bool => some (a == b)
    | _ => none
  | _, _ => none
def eqAV (P : Program) : Nat → TypeId → AV → AV → Option Bool
  | 0, _, _, _ => none
  | d + 1, t, A, B => match A, B with
    | .c (.agg xs), .c (.agg ys) => match P.underlying t with
      | some (.struct fs) => bif P.stoodInHeld t then none else eqFlds P (eqAV P d) xs ys fs.toList
      | _ => none
    | _, _ => eqLeaf P t A B
def aggGot (P : Program) (op : BinOp) (t : TypeId) (A B : AV) : Got :=
  bif P.eqGuardType P.depth t then .no else match op, eqAV P 8 t A B with
    | .eql, some b => .ok True (bool b)
    | .neq, some b => .ok True (bool (!b))
    | _, _ => .no
def areAggs : AV → AV → Bool
  | .c (.agg _), .c (.agg _) => true
  | _, _ => false

/-- the bounds of 's[lo:hi]' -/
def lowOf (st : St) : Option Operand → Option Int
  | none => some 0
  | some x => match st.ev x with
    | .c (.one (.val (.int _) n)) => some n
    | _ => none
def highOf (st : St) (len : Nat) : Option Operand → Option Int
  | none => some len
  | some x => match st.ev x with
    | .c (.one (.val (.int _) n)) => some n
    | _ => none
def setCells (cs : List Cell) (off : Nat) : List Cell → Option (List Cell)
  | [] => some cs
  | x :: r => bif Nat.blt off cs.length then setCells (cs.set off x) (off + 1) r else none
def Cell.solid : Cell → Bool
  | .any | .undef => false
  | _ => true
def compCells : AV → Option (List Cell)
  | .c (.one c) => bif c.solid then some [c] else none
  | .c (.agg cs) => some cs
  | .tup _ => none
def zeroCells (P : Program) (t : TypeId) : Option (List Cell) :=
  match (P.info? t).bind (·.zero) with
  | some v => bif v.cells.toList.all (·.oneCell') then some (v.cells.toList.map ofCell) else none
  | none => none
def placesOf (P : Program) (fields : Array Field) : Option (List (Nat × Nat)) := fields.toList.mapM fun f => (P.info? f.type).map fun i => (f.offset, i.size)
def buildParts (st : St) (places : List (Nat × Nat)) (cs : List Cell) : List (Nat × Operand) → Option (List Cell)
  | [] => some cs
  | (i, x) :: r => match places[i]?, compCells (st.ev x) with
    | some (off, size), some l => bif l.length.beq size && Nat.ble (off + l.length) cs.length then (setCells cs off l).bind fun cs' => buildParts st places cs' r else none
    | _, _ => none

def lenGot (st : St) (isStr : Bool) : AV → Got
  | .c (.one (.val .str s)) => bif isStr then .ok True (int .i64 s.length) else .no
  | .c (.one (.val (.sl fs) xs)) => bif isStr then .no else .ok True (int .i64 (xs : List fs.Pay).length)
  | .c (.one .nil) => bif isStr then .no else .ok True (int .i64 0)
  | .c (.one (.own r)) => match st.row r with
    | some x => bif isStr then .no else .ok True (int .i64 x.xs.length)
    | none => .no
  | _ => .no
/-- a type whose values are keys of this kind -/
def keyK (P : Program) (t : TypeId) : Kd → Bool
  | .int k => match P.underlying t with
    | some (.int k') => IntKind.eqB k k'
    | _ => false
  | .str => match P.underlying t with
    | some .string => true
    | _ => false
  | .bool => match P.underlying t with
    | some .bool => true
    | _ => false
  | .sl _ => false
def keyFlds (P : Program) : List Field → Nat → Kds → Bool
  | [f], o, .one k => f.offset.beq o && (f.name != "_" && keyK P f.type k)
  | f :: r, o, .cons k ks => f.offset.beq o && (f.name != "_" && (keyK P f.type k && keyFlds P r (o + 1) ks))
  | _, _, _ => false
def keyElems (P : Program) (e : TypeId) : Nat → Kds → Bool
  | 1, .one k => keyK P e k
  | n + 1, .cons k ks => keyK P e k && keyElems P e n ks
  | _, _ => false
def keyOk (P : Program) (t : TypeId) : CK → Bool
  | .one k => keyK P t k
  | .agg ks => match P.underlying t with
    | some (.struct fs) => !P.stoodInHeld t && keyFlds P fs.toList 0 ks
    | some (.array n e) => (match sizeB P e with | some s => s.beq 1 | none => false) && keyElems P e n ks
    | _ => false
/-- the zero value of a type, as a payload -/
def zeroPay (P : Program) (t : TypeId) (x : CK) : Option x.Pay :=
  match P.info? t with
  | some i => match i.zero with
    | some v => match ofConst v with
      | .c c => takeComp x c
      | _ => none
    | none => none
  | none => none
def mapGot (P : Program) (y : MRow) (kt et : TypeId) (k : AV) (commaOk : Bool) : Got :=
  match k with
  | .c c => match takeComp y.kk c, zeroPay P et y.vk with
    | some k, some z => bif keyOk P kt y.kk then .ok True (bif commaOk then .tup [y.vk.comp ((Mp.get y.kk.eqB k y.xs).getD z), .one (.val .bool (Mp.get y.kk.eqB k y.xs).isSome)] else .c (y.vk.comp ((Mp.get y.kk.eqB k y.xs).getD z))) else .no
    | _, _ => .no
  | _ => .no
/-- a type whose zero value is the nil map -/
def mapZero (P : Program) (t : TypeId) : Bool :=
  match P.info? t with
  | some i => match i.zero with
    | some (.map none) => true
    | _ => false
  | none => false
/-- what the map of maps holds at a key: is there a map, how much is in it -/
def NRow.at_ (y : NRow) (k : y.kk.Pay) : Option (List (y.ik.Pay × y.iv.Pay)) := Mp.get y.kk.eqB k y.xs
def St.innerHas (st : St) (kk : CK) (k : kk.Pay) : Option Bool :=
  match st.nest with
  | some y => match kk.deq y.kk with
    | some ⟨h⟩ => some (y.at_ (h ▸ k)).isSome
    | none => none
  | none => none
def St.innerLen (st : St) (kk : CK) (k : kk.Pay) : Option Nat :=
  match st.nest with
  | some y => match kk.deq y.kk with
    | some ⟨h⟩ => some ((y.at_ (h ▸ k)).getD []).length
    | none => none
  | none => none
/-- a map of the map of maps held against nil -/
def nilGot (P : Program) (t : TypeId) (st : St) (op : BinOp) (A B : AV) : Option Bool :=
  match P.underlying t, A, B with
  | some (.map _ _), .c (.one (.iref kk k)), .c (.one .nilm) => match st.innerHas kk k with
    | some b => match op with
      | .eql => some (!b)
      | .neq => some b
      | _ => none
    | none => none
  | _, _, _ => none
/-- pointers to variables -/
def ptrsOf (st : St) : List Operand → Option (List (Nat × Nat))
  | [] => some []
  | x :: r => match st.ev x with
    | .c (.one (.ptr b off)) => (ptrsOf st r).map ((b, off) :: ·)
    | _ => none

/-- cells that are all data, as a row -/
def valsOf : List Cell → Option ((ks : Kds) × ks.Pay)
  | [] => none
  | c :: r => match c, r with
    | .val k p, [] => some ⟨.one k, p⟩
    | .val k p, r => match valsOf r with
      | some x => some ⟨.cons k x.1, (p, x.2)⟩
      | none => none
    | _, _ => none
/-- an operation that only reads -/
def rop (P : Program) (st : St) : Op → Got
  | .move x | .assign x => .ok True (st.ev x)
  | .pick c a b => match st.ev c with
    | .c (.one (.val .bool q)) => .ok True (pickAV q (st.ev a) (st.ev b))
    | _ => .no
  | .load t a => match st.ev a with
    | .c (.one (.ptr b off)) => match st.box b with
      | some cs => partOf P t cs off
      | none => .no
    | .c (.one (.ep fs p f)) => partOfRow P t fs p f
    | .c (.one (.rp r sz i f)) => match st.row r with
      | some x => bif sz.beq x.fs.size then partOfRow P t x.fs (x.xs.getD i x.fs.dflt) f else .no
      | none => .no
    | _ => .no
  | .nilCheck x => match st.ev x with
    | .c (.one (.ptr b off)) => .ok True (.c (.one (.ptr b off)))
    | .c (.one (.ep fs p f)) => .ok True (.c (.one (.ep fs p f)))
    | .c (.one (.rp r sz i f)) => .ok True (.c (.one (.rp r sz i f)))
    | _ => .no
  | .binOp op t x y _ => match nilGot P t st op (st.ev x) (st.ev y) with
    | some b => .ok True (bool b)
    | none => bif areAggs (st.ev x) (st.ev y) then aggGot P op t (st.ev x) (st.ev y) else binGot (match P.underlying t with | some .bool => true | _ => false) op (st.ev x) (st.ev y)
  | .unOp op _ x => match op, st.ev x with
    | .not, .c (.one (.val .bool b)) => .ok True (bool (!b))
    | .neg, .c (.one (.val (.int .i64) n)) => .ok (fits64 (-n)) (int .i64 (-n))
    | _, _ => .no
  | .convert src dst x => match P.underlying src, P.underlying dst, st.ev x with
    | some _, some (.int k), .c (.one (.val (.int _) n)) => .ok True (int k (k.wrap n))
    | some _, some .string, .c (.one (.val .str s)) => .ok True (str s)
    | _, _, _ => .no
  | .fieldAddr s x f => match P.underlying s with
    | some (.struct fields) => match fields[f]? with
      | some fd => bif (match sizeB P fd.type with | some n => Nat.blt 0 n | none => false) then
          match st.ev x with
          | .c (.one (.ptr b off)) => .ok True (.c (.one (.ptr b (off + fd.offset))))
          | .c (.one (.ep fs p g)) => .ok True (.c (.one (.ep fs p (g + fd.offset))))
          | .c (.one (.rp r sz i g)) => .ok True (.c (.one (.rp r sz i (g + fd.offset))))
          | _ => .no
        else .no
      | none => .no
    | _ => .no
  | .field t x f => match P.underlying t, st.ev x with
    | some (.struct fields), .c (.agg cs) => match fields[f]? with
      | some fd => partOf P fd.type cs fd.offset
      | none => .no
    | _, _ => .no
  | .indexAddr t x i => match P.underlying t, st.ev x, st.ev i with
    | some (.slice e), .c (.one (.val (.sl fs) xs)), .c (.one (.val (.int _) n)) =>
      bif (sizeB P e == some fs.size) then .ok (0 ≤ n ∧ n < (xs : List fs.Pay).length) (.c (.one (.ep fs ((xs : List fs.Pay).getD n.toNat fs.dflt) 0))) else .no
    | some (.slice e), .c (.one (.own r)), .c (.one (.val (.int _) n)) => match st.row r with
      | some x => bif (sizeB P e == some x.fs.size) then .ok (0 ≤ n ∧ n < x.xs.length) (.c (.one (.rp r x.fs.size n.toNat 0))) else .no
      | none => .no
    | _, _, _ => .no
  | .index t x i => match P.underlying t, st.ev x, st.ev i with
    | some .string, .c (.one (.val .str s)), .c (.one (.val (.int _) n)) => .ok (0 ≤ n ∧ n < (s : List UInt8).length) (int .u8 ((s : List UInt8).getD n.toNat 0).toNat)
    | _, _, _ => .no
  | .slice t x lo hi none => match P.underlying t, st.ev x, lowOf st lo with
    | some .string, .c (.one (.val .str s)), some l => match highOf st (s : List UInt8).length hi with
      | some h => .ok (0 ≤ l ∧ l ≤ h ∧ h ≤ (s : List UInt8).length) (str (((s : List UInt8).take h.toNat).drop l.toNat))
      | none => .no
    | some (.slice e), .c (.one (.val (.sl fs) xs)), some l => match highOf st (xs : List fs.Pay).length hi with
      | some h => bif (sizeB P e == some fs.size) then .ok (0 ≤ l ∧ l ≤ h ∧ h ≤ (xs : List fs.Pay).length) (.c (.one (.val (.sl fs) (((xs : List fs.Pay).take h.toNat).drop l.toNat)))) else .no
      | none => .no
    | _, _, _ => .no
  | .extract x i => match st.ev x with
    | .tup vs => match vs[i]? with
      | some v => .ok True (.c v)
      | none => .no
    | _ => .no
  | .build t parts => match P.underlying t, zeroCells P t with
    | some (.struct fields), some cs => match placesOf P fields with
      | some places => match buildParts st places cs parts.toList with
        | some l => .ok True (.c (.agg l))
        | none => .no
      | none => .no
    | _, _ => .no
  | .call { callee := .builtin .len, args, argTypes } => match args.toList, argTypes.toList with
    | [x], [t] => match P.underlying t with
      | some .string => lenGot st true (st.ev x)
      | some (.slice _) => lenGot st false (st.ev x)
      | some (.map _ _) => match st.ev x with
        | .c (.one .nilm) => .ok True (int .i64 0)
        | .c (.one (.mref m)) => match st.map m with
          | some y => .ok True (int .i64 y.xs.length)
          | none => .no
        | .c (.one (.iref kk k)) => match st.innerLen kk k with
          | some n => .ok True (int .i64 n)
          | none => .no
        | _ => .no
      | _ => .no
    | _, _ => .no
  | .makeFunc (.func f) first captured => match ptrsOf st first.toList, ptrsOf st captured.toList with
    | some ps, some qs => .ok True (.c (.one (.clo f ps.length (ps ++ qs))))
    | _, _ => .no
  | .lookup t x i commaOk => match P.underlying t, st.ev x with
    | some (.map kt et), .c (.one .nilm) => .no
    | some (.map kt et), .c (.one (.mref m)) => match st.map m with
      | some y => bif y.t.beq t then mapGot P y kt et (st.ev i) commaOk else .no
      | none => .no
    | some (.map kt et), .c (.one .nref) => match st.nest, st.ev i with
      | some y, .c c => match takeComp y.kk c with
        | some k => bif y.t.beq t && (keyOk P kt y.kk && (mapZero P et && !commaOk)) then .ok True (.c (.one (.iref y.kk k))) else .no
        | none => .no
      | _, _ => .no
    | _, _ => .no
  | .entry x => match st.ev x with
    | .c (.one (.iter i)) => match st.iter i with
      | some z => match z.cur with
        | some e => .ok True (.tup [z.kk.comp e.1, z.vk.comp e.2])
        | none => .no
      | none => .no
    | _ => .no
  | .makeInterface t x => match P.underlying t, st.ev x with
    | some (.struct _), .c (.agg cs) => match valsOf cs with
      | some z => .ok True (.c (.one (.dyn t z.1 z.2)))
      | none => .no
    | _, _ => .no
  | _ => .no
end R
end Go.Proofs.YtldnfdghkdibmaaGreatDoor

/-
  A frame and a world are as is known of them; an operation that only reads does what 'rop' says, in every later world.
-/
set_option linter.unusedVariables false
namespace Go.Proofs.YtldnfdghkdibmaaGreatDoor
open Go.RowKit
namespace R

/-- where maps lie, the map of maps, the maps in it, iterators -/
structure Mx where
  at_ : Nat → Nat
  ν : Nat := 0
  inn : Value → Option Nat := fun _ => none
  θ : Nat → Nat := fun _ => 0
instance : CoeFun Mx (fun _ => Nat → Nat) := ⟨Mx.at_⟩
/-- where the call's own variables and rows lie; the blocks that nobody writes -/
structure Cx where
  β : Nat → Nat
  ρ : Nat → Value
  S : Nat → Prop
  μ : Mx := { at_ := fun _ => 0 }
def Cx.src (κ : Cx) : Src → Option Nat
  | .map m => some (κ.μ m)
  | .inner kk k => κ.μ.inn (kk.kv k)
  | .none => none
def Cx.ptr (κ : Cx) (p : Nat × Nat) : Value := .pointer (some ⟨κ.β p.1, p.2, none⟩)

def Cell.Rep (κ : Cx) (w : World) : Cell → Value → Prop
  | .any, _ => True
  | .undef, v => v = Go.undef
  | .nil, v => v = .slice none 0 0
  | .val k p, v => k.Rep w κ.S p v
  | .ptr b off, v => v = .pointer (some ⟨κ.β b, off, none⟩)
  | .ep fs p f, v => ∃ g o, v = .pointer (some ⟨g, o + f, none⟩) ∧ g < w.heap.size ∧ κ.S g ∧ fs.Rep w κ.S p g o
  | .own r, v => v = κ.ρ r ∧ v.oneCell' = true
  | .rp r sz i f, v => ∃ g n c, κ.ρ r = .slice (some ⟨g, 0, none⟩) n c ∧ i < n ∧ v = .pointer (some ⟨g, i * sz + f, none⟩)
  | .fn f, v => v = .func (.func f) #[] #[]
  | .clo f k ps, v => v = .func (.func f) ((ps.take k).map κ.ptr).toArray ((ps.drop k).map κ.ptr).toArray
  | .nilm, v => v = .map none
  | .mref m, v => v = .map (some (κ.μ m))
  | .nref, v => v = .map (some κ.μ.ν)
  | .iref kk k, v => v = .map (κ.μ.inn (kk.kv k))
  | .iter i, v => v = .pointer (some ⟨κ.μ.θ i, 0, none⟩)
  | .kseq f src, v => ∃ g, v = .func (.func f) #[] #[.pointer (some ⟨g, 0, none⟩)] ∧ g < w.heap.size ∧ κ.S g ∧ w.cell? ⟨g, 0, none⟩ = some (.map (κ.src src))
  | .dyn t ks p, v => ∃ us : List Value, v = .iface t (.agg us.toArray) ∧ us.length = ks.size ∧ ∀ f z, ks.fld p f = some z → ∃ u, us[f]? = some u ∧ z.1.Rep w κ.S z.2 u
def CellsRep (κ : Cx) (w : World) (cs : List Cell) (vs : Array Value) : Prop :=
  vs.size = cs.length ∧ (∀ (i : Nat) c, cs[i]? = some c → ∃ v, vs[i]? = some v ∧ c.Rep κ w v) ∧ ∀ (i : Nat) v, vs[i]? = some v → v.oneCell' = true
def Comp.Rep (κ : Cx) (w : World) : Comp → Value → Prop
  | .one c, v => c.Rep κ w v
  | .agg cs, v => ∃ vs, v = .agg vs ∧ CellsRep κ w cs vs
def AV.Rep (κ : Cx) (w : World) : AV → Value → Prop
  | .c x, v => x.Rep κ w v
  | .tup xs, v => ∃ vs, v = .tuple vs ∧ vs.size = xs.length ∧ ∀ (i : Nat) c, xs[i]? = some c → ∃ u, vs[i]? = some u ∧ c.Rep κ w u

section
variable {κ : Cx} {w w' : World}
theorem Cell.Rep.keeps {κ' : Cx} (hβ : κ'.β = κ.β) (hρ : κ'.ρ = κ.ρ) (hμ : κ'.μ = κ.μ) (hk : Keeps w w' κ.S) (hS : ∀ g, κ.S g → g < w.heap.size → κ'.S g) {c : Cell} {v : Value} (h : c.Rep κ w v) : c.Rep κ' w' v := by
  cases c with
  | any => trivial
  | undef => exact h
  | nil => exact h
  | val k p => exact Kd.Rep.keeps hk hS k p v h
  | ptr b off => show v = _; rw [hβ]; exact h
  | ep fs p f =>
    obtain ⟨g, o, rfl, hg, hs, hr⟩ := h
    exact ⟨g, o, rfl, Nat.lt_of_lt_of_le hg hk.size, hS g hs hg, Kds.Rep.keeps hk hS fs p g o hs hg hr⟩
  | own r => show v = _ ∧ _; rw [hρ]; exact h
  | rp r sz i f => show ∃ g n c, _ ∧ _; rw [hρ]; exact h
  | fn f => exact h
  | clo f k ps =>
    have e : κ'.ptr = κ.ptr := by unfold Cx.ptr; rw [hβ]
    show v = .func _ (List.map κ'.ptr _).toArray (List.map κ'.ptr _).toArray
    rw [e]; exact h
  | nilm => exact h
  | mref m => show v = .map (some (κ'.μ m)); rw [hμ]; exact h
  | nref => show v = .map (some κ'.μ.ν); rw [hμ]; exact h
  | iref kk k => show v = .map (κ'.μ.inn (kk.kv k)); rw [hμ]; exact h
  | iter i => show v = .pointer (some ⟨κ'.μ.θ i, 0, none⟩); rw [hμ]; exact h
  | kseq f src =>
    obtain ⟨g, rfl, hg, hs, hc⟩ := h
    have e : κ'.src src = κ.src src := by cases src <;> simp only [Cx.src, hμ]
    exact ⟨g, rfl, Nat.lt_of_lt_of_le hg hk.size, hS g hs hg, by rw [e]; exact (hk.cell g 0 hs hg).trans hc⟩
  | dyn t ks p =>
    obtain ⟨us, rfl, hl, hu⟩ := h
    exact ⟨us, rfl, hl, fun f z hz => let ⟨u, h1, h2⟩ := hu f z hz; ⟨u, h1, Kd.Rep.keeps hk hS z.1 z.2 u h2⟩⟩
theorem CellsRep.mono {κ' : Cx} {cs : List Cell} {vs : Array Value} (H : ∀ (c : Cell) v, c.Rep κ w v → c.Rep κ' w' v) (h : CellsRep κ w cs vs) : CellsRep κ' w' cs vs :=
  ⟨h.1, fun i c hc => let ⟨v, hv, hr⟩ := h.2.1 i c hc; ⟨v, hv, H c v hr⟩, h.2.2⟩
theorem Comp.Rep.mono {κ' : Cx} {x : Comp} {v : Value} (H : ∀ (c : Cell) v, c.Rep κ w v → c.Rep κ' w' v) (h : x.Rep κ w v) : x.Rep κ' w' v := by
  cases x with
  | one c => exact H c v h
  | agg cs => obtain ⟨vs, rfl, h⟩ := h; exact ⟨vs, rfl, h.mono H⟩
theorem AV.Rep.mono {κ' : Cx} {x : AV} {v : Value} (H : ∀ (c : Cell) v, c.Rep κ w v → c.Rep κ' w' v) (h : x.Rep κ w v) : x.Rep κ' w' v := by
  cases x with
  | c x => exact Comp.Rep.mono H h
  | tup xs => obtain ⟨vs, rfl, h1, h2⟩ := h; exact ⟨vs, rfl, h1, fun i c hc => let ⟨u, hu, hr⟩ := h2 i c hc; ⟨u, hu, Comp.Rep.mono H hr⟩⟩
theorem AV.Rep.keeps {κ' : Cx} (hβ : κ'.β = κ.β) (hρ : κ'.ρ = κ.ρ) (hμ : κ'.μ = κ.μ) (hk : Keeps w w' κ.S) (hS : ∀ g, κ.S g → g < w.heap.size → κ'.S g) {c : AV} {v : Value} (h : c.Rep κ w v) : c.Rep κ' w' v :=
  AV.Rep.mono (fun _ _ h => h.keeps hβ hρ hμ hk hS) h
end

/-- the cells of a row that the call owns -/
def RowCells (κ : Cx) (w : World) (fs : Kds) (xs : List fs.Pay) (cells : List Value) : Prop :=
  ∀ (i : Nat) (x : fs.Pay), xs[i]? = some x → ∀ (f : Nat) z, fs.fld x f = some z → ∃ u, cells[i * fs.size + f]? = some u ∧ z.1.Rep w κ.S z.2 u
theorem RowCells.keeps {κ κ' : Cx} {w w' : World} (hk : Keeps w w' κ.S) (hS : ∀ g, κ.S g → g < w.heap.size → κ'.S g) {fs : Kds} {xs : List fs.Pay} {cells : List Value} (h : RowCells κ w fs xs cells) : RowCells κ' w' fs xs cells :=
  fun i x hx f z hz => let ⟨u, hu, hr⟩ := h i x hx f z hz; ⟨u, hu, Kd.Rep.keeps hk hS z.1 z.2 u hr⟩
/-- the world at the call, the blocks that its arguments lie in, the slots of those who called, and the number from which on blocks are the call's own -/
structure Base extends World where
  S0 : Nat → Prop
  sv : Nat → Value
  n0 : Nat
  low : n0 ≤ heap.size
  X : Nat → Prop
/-- the blocks below n0 lie as they lay, but those of X -/
structure BelowX (X : Nat → Prop) (n0 : Nat) (w w' : World) : Prop where
  os : w'.os = w.os
  tape : w'.tape = w.tape
  output : w'.output = w.output
  size : w.heap.size ≤ w'.heap.size
  block : ∀ k, k < n0 → ¬ X k → w'.heap[k]? = w.heap[k]?
theorem BelowX.trans {X : Nat → Prop} {n0 : Nat} {a b c : World} (h : BelowX X n0 a b) (k : Below n0 b c) : BelowX X n0 a c :=
  ⟨k.os.trans h.os, k.tape.trans h.tape, k.output.trans h.output, Nat.le_trans h.size k.size, fun i hi hx => (k.block i hi).trans (h.block i hi hx)⟩
theorem BelowX.of_below {X : Nat → Prop} {n0 : Nat} {a b : World} (h : Below n0 a b) : BelowX X n0 a b := ⟨h.os, h.tape, h.output, h.size, fun i hi _ => h.block i hi⟩
theorem BelowX.below {X : Nat → Prop} {n0 : Nat} {a b : World} (h : BelowX X n0 a b) (hx : ∀ k, ¬ X k) : Below n0 a b := ⟨h.os, h.tape, h.output, h.size, fun i hi => h.block i hi (hx i)⟩
theorem BelowX.alloc {X : Nat → Prop} {n0 : Nat} {a w : World} (h : BelowX X n0 a w) (hl : n0 ≤ w.heap.size) (o : Obj) : BelowX X n0 a (w.alloc o) := h.trans ((Below.refl _ w).alloc hl o)
theorem BelowX.drew {X : Nat → Prop} {n0 : Nat} {a w : World} (h : BelowX X n0 a w) : BelowX X n0 a w.drew := h.trans (Below.refl _ w).drew
theorem BelowX.grown {X : Nat → Prop} {n0 : Nat} {a w w' : World} {row : Option Nat} (h : BelowX X n0 a w) (hg : w.grownBy w' row) (hl : n0 ≤ w.heap.size) (hr : ∀ k, row = some k → n0 ≤ k) : BelowX X n0 a w' := h.trans ((Below.refl _ w).grown hg hl hr)
/-- a map's entries -/
structure EntRep (κ : Cx) (w : World) (y : MRow) (es : Array MapEntry) (clock : Nat) : Prop where
  size : es.size = y.xs.length
  at_ : ∀ (i : Nat) x, y.xs[i]? = some x → ∃ e, es[i]? = some e ∧ (y.kk.comp x.1).Rep κ w e.key ∧ (y.vk.comp x.2).Rep κ w e.val
  born : ∀ e ∈ es.toList, e.born < clock
  apart : (es.toList.map (·.born)).Nodup
/-- the map of maps, and the maps in it -/
structure NestRep (n0 : Nat) (κ : Cx) (maps : List (Nat × MRow)) (w : World) (y : NRow) : Prop where
  out : ∃ es clock, w.heap[κ.μ.ν]? = some (.map es clock) ∧ es.size = y.xs.length ∧ (∀ (i : Nat) x, y.xs[i]? = some x → ∃ e, es[i]? = some e ∧ (y.kk.comp x.1).Rep κ w e.key ∧ e.val = .map (κ.μ.inn (y.kk.kv x.1))) ∧ (∀ e ∈ es.toList, e.born < clock) ∧ (es.toList.map (·.born)).Nodup
  inn : ∀ (i : Nat) x, y.xs[i]? = some x → ∃ g es clock, κ.μ.inn (y.kk.kv x.1) = some g ∧ w.heap[g]? = some (.map es clock) ∧ EntRep κ w ⟨y.it, y.ik, y.iv, x.2⟩ es clock ∧ n0 ≤ g ∧ g ≠ κ.μ.ν ∧ ∀ m z, look? m maps = some z → κ.μ m ≠ g
  miss : ∀ k, y.at_ k = none → κ.μ.inn (y.kk.kv k) = none
  inj : ∀ (i j : Nat) x x', y.xs[i]? = some x → y.xs[j]? = some x' → κ.μ.inn (y.kk.kv x.1) = κ.μ.inn (y.kk.kv x'.1) → i = j
  low : n0 ≤ κ.μ.ν
  apart : ∀ m z, look? m maps = some z → κ.μ m ≠ κ.μ.ν
/-- entries, one for one -/
def LeftRep (κ : Cx) (w : World) (kk vk : CK) (xs : List (kk.Pay × vk.Pay)) (es : List MapEntry) : Prop :=
  es.length = xs.length ∧ ∀ (i : Nat) x, xs[i]? = some x → ∃ e, es[i]? = some e ∧ (kk.comp x.1).Rep κ w e.key ∧ (vk.comp x.2).Rep κ w e.val
/-- an iterator in block g -/
def ItRep (n0 : Nat) (κ : Cx) (w : World) (z : ItP) (g : Nat) : Prop := n0 ≤ g ∧
  ((∃ a b s, w.heap[g]? = some (.mapIter none a s b) ∧ z.left = [] ∧ z.cur = none) ∨
   ∃ bm es clock seen c0, κ.src z.src = some bm ∧ w.heap[bm]? = some (.map es clock) ∧ w.heap[g]? = some (.mapIter (some bm) clock seen c0) ∧ clock ≤ c0 ∧ (∀ e ∈ es.toList, e.born < clock) ∧ (es.toList.map (·.born)).Nodup ∧
     LeftRep κ w z.kk z.vk z.left (leftOf es seen).toList ∧ ∀ x, z.cur = some x → ∃ (e : MapEntry) (seen' : Array Nat), e ∈ es.toList ∧ seen = seen'.push e.born ∧ c0 = clock ∧ (z.kk.comp x.1).Rep κ w e.key ∧ (z.vk.comp x.2).Rep κ w e.val)
/-- the frames of those who called, and the maps that the call owns, are as is known -/
structure Ext (w0 : Base) (κ : Cx) (st : St) (w : World) : Prop where
  sav : ∀ t, (look (.c (.one .any)) t st.sav).Rep κ w (w0.sv t)
  map : ∀ m y, st.map m = some y → ∃ es clock, w.heap[κ.μ m]? = some (.map es clock) ∧ EntRep κ w y es clock ∧ w0.n0 ≤ κ.μ m
  maps : ∀ m m' y y', st.map m = some y → st.map m' = some y' → κ.μ m = κ.μ m' → m = m'
  nest : ∀ y, st.nest = some y → NestRep w0.n0 κ st.maps w y
  iter : ∀ i z, st.iter i = some z → ItRep w0.n0 κ w z (κ.μ.θ i)
  iters : ∀ i j z z', st.iter i = some z → st.iter j = some z' → κ.μ.θ i = κ.μ.θ j → i = j
/-- a frame and a world are as is known -/
structure Rel (w0 : Base) (κ : Cx) (st : St) (a : Act) (w : World) : Prop where
  defers : a.defers = []
  size : a.tmps.size = st.n
  env : ∀ t, (st.get t).Rep κ w (a.tmps.getD t Go.undef)
  box : ∀ b cs, st.box b = some cs → ∃ vs ty, Blk w (κ.β b) ty vs ∧ CellsRep κ w cs vs ∧ (w0.n0 ≤ κ.β b ∨ w0.X (κ.β b)) ∧ ¬ κ.S (κ.β b)
  apart : ∀ b b' cs cs', st.box b = some cs → st.box b' = some cs' → κ.β b = κ.β b' → b = b'
  row : ∀ r x, st.row r = some x → ∃ cells, w.ownsRow w0.n0 x.e x.fs.size (κ.ρ r) x.xs.length cells ∧ RowCells κ w x.fs x.xs cells ∧
    ∀ g, (κ.ρ r).ownBlock = some g → ¬ κ.S g ∧ ∀ b cs, st.box b = some cs → κ.β b ≠ g
  rows : ∀ r r' x x', st.row r = some x → st.row r' = some x' → ∀ g, (κ.ρ r).ownBlock = some g → (κ.ρ r').ownBlock = some g → r = r'
  bound : ∀ g, κ.S g → g < w.heap.size
  below : BelowX w0.X w0.n0 w0.toWorld w
  old : ∀ g, κ.S g → w0.S0 g ∨ w0.n0 ≤ g
  ext : Ext w0 κ st w

theorem look_cons {α : Type} (d : α) (t u : Nat) (v : α) (r : List (Nat × α)) : look d t ((u, v) :: r) = if u = t then v else look d t r := by
  show (bif u.beq t then v else look d t r) = _
  by_cases h : u = t
  · rw [if_pos h, h, Nat.beq_refl]; rfl
  · have : u.beq t = false := Bool.eq_false_iff.mpr fun e => h (Nat.eq_of_beq_eq_true e)
    rw [if_neg h, this]; rfl
theorem look?_cons {α : Type} (t u : Nat) (v : α) (r : List (Nat × α)) : look? t ((u, v) :: r) = if u = t then some v else look? t r := by
  show (bif u.beq t then some v else look? t r) = _
  by_cases h : u = t
  · rw [if_pos h, h, Nat.beq_refl]; rfl
  · have : u.beq t = false := Bool.eq_false_iff.mpr fun e => h (Nat.eq_of_beq_eq_true e)
    rw [if_neg h, this]; rfl
theorem St.get_set (st : St) (d : Nat) (v : AV) (t : Nat) : (st.set d v).get t = if d = t then v else st.get t := look_cons _ _ _ _ _
@[simp] theorem St.box_set (st : St) (d : Nat) (v : AV) (b : Nat) : (st.set d v).box b = st.box b := rfl
@[simp] theorem St.row_set (st : St) (d : Nat) (v : AV) (b : Nat) : (st.set d v).row b = st.row b := rfl

section
variable {w0 : Base} {w w' : World} {κ : Cx} {st : St} {a : Act} {P : Program}
theorem Rel.set (h : Rel w0 κ st a w) {d : Nat} (hd : d < st.n) {v : AV} {u : Value} (hv : v.Rep κ w u) : Rel w0 κ (st.set d v) (a.put (some d) u) w where
  defers := h.defers
  size := by show (a.tmps.setIfInBounds d u).size = _; rw [Array.size_setIfInBounds]; exact h.size
  env := fun t => by
    rw [St.get_set]
    show AV.Rep κ w _ ((a.tmps.setIfInBounds d u).getD t Go.undef)
    by_cases e : d = t
    · subst e
      rw [if_pos rfl]
      have hs : d < a.tmps.size := by rw [h.size]; exact hd
      rw [Array.getD_eq_getD_getElem?, Array.getElem?_setIfInBounds_self_of_lt hs]
      exact hv
    · rw [if_neg e, Array.getD_eq_getD_getElem?, Array.getElem?_setIfInBounds_ne e, ← Array.getD_eq_getD_getElem?]
      exact h.env t
  box := h.box
  apart := h.apart
  row := h.row
  rows := h.rows
  bound := h.bound
  below := h.below
  old := h.old
  ext := ⟨h.ext.sav, h.ext.map, h.ext.maps, h.ext.nest, h.ext.iter, h.ext.iters⟩
theorem Rel.low (h : Rel w0 κ st a w) : w0.n0 ≤ w.heap.size := Nat.le_trans w0.low h.below.size

theorem Kd.Rep.solid {S : Nat → Prop} : ∀ {k : Kd} {p : k.Pay} {v : Value}, k.Rep w S p v → v.oneCell' = true
  | .int _, _, _, h => by rw [show _ = _ from h]; rfl
  | .bool, _, _, h => by rw [show _ = _ from h]; rfl
  | .str, _, _, h => by rw [show _ = _ from h]; rfl
  | .sl _, _, _, h => by obtain ⟨A, c, rfl, _⟩ := h; rfl
theorem Cell.Rep.solid {c : Cell} {v : Value} (h : c.Rep κ w v) (hs : c.solid = true) : v.oneCell' = true := by
  cases c with
  | any => cases hs
  | undef => cases hs
  | nil => rw [show v = _ from h]; rfl
  | val k p => exact Kd.Rep.solid h
  | ptr b off => rw [show v = _ from h]; rfl
  | ep fs p f => obtain ⟨g, o, rfl, _⟩ := h; rfl
  | own r => exact h.2
  | rp r sz i f => obtain ⟨g, n, c, _, _, rfl⟩ := h; rfl
  | fn f => rw [show v = _ from h]; rfl
  | clo f k ps => rw [show v = _ from h]; rfl
  | nilm => rw [show v = _ from h]; rfl
  | mref m => rw [show v = _ from h]; rfl
  | nref => rw [show v = _ from h]; rfl
  | iref kk k => rw [show v = _ from h]; rfl
  | iter i => rw [show v = _ from h]; rfl
  | kseq f src => obtain ⟨g, rfl, _⟩ := h; rfl
  | dyn t ks p => obtain ⟨us, rfl, _⟩ := h; rfl
theorem ofCell_rep (κ : Cx) (w : World) (v : Value) : (ofCell v).Rep κ w v := by
  unfold ofCell
  split <;> first | rfl | trivial
theorem ofCells_rep (κ : Cx) (w : World) (cs : Array Value) (h : cs.toList.all (·.oneCell') = true) : CellsRep κ w (cs.toList.map ofCell) cs :=
  ⟨by simp, fun i c hc => by
    rw [List.getElem?_map] at hc
    cases hx : cs.toList[i]? with
    | none => rw [hx] at hc; cases hc
    | some x =>
      rw [hx] at hc; injection hc with hc; subst hc
      exact ⟨x, by simpa using hx, ofCell_rep κ w x⟩, fun i v hv => List.all_eq_true.1 h v (by
        rw [← Array.getElem?_toList] at hv
        exact List.mem_of_getElem? hv)⟩
theorem ofConst_rep (κ : Cx) (w : World) (v : Value) : (ofConst v).Rep κ w v := by
  unfold ofConst
  split
  · rename_i cs
    cases h : cs.toList.all (·.oneCell')
    · trivial
    · exact ⟨cs, rfl, ofCells_rep κ w cs h⟩
  · exact ofCell_rep κ w _
theorem Rel.ev (h : Rel w0 κ st a w) (x : Operand) : (st.ev x).Rep κ w (a.eval x) := by
  cases x with
  | tmp t => exact h.env t
  | const v => exact ofConst_rep κ w v
  | global g => trivial
  | func f => rfl

/-- in every later world the operation yields one value, which is as v says -/
def Yields (P : Program) (κ : Cx) (w : World) (a : Act) (o : Oper) (v : AV) : Prop :=
  ∃ u, v.Rep κ w u ∧ ∀ w', Below w.heap.size w w' → (execOp a.eval o).run P w' = .ok (.value u) w'
end
end R
end Go.Proofs.YtldnfdghkdibmaaGreatDoor

/-
  What 'rop' says of an operation is so.
-/
set_option linter.unusedVariables false
namespace Go.Proofs.YtldnfdghkdibmaaGreatDoor
open Go.RowKit
namespace R
section
variable {w0 : Base} {w w' : World} {κ : Cx} {st : St} {a : Act} {P : Program}

theorem vrun {P : Program} {w w' : World} {s : Sem Value} {u : Value} (h : s.run P w = .ok u w') : (do let x ← s; pure (Next.value x) : Sem Next).run P w = .ok (.value u) w' := by
  rw [Sem.run_bind, h]; rfl

theorem rep_int {k : IntKind} {n : Int} : (int k n).Rep κ w (.int k n) := rfl
theorem rep_bool {b : Bool} : (bool b).Rep κ w (.bool b) := rfl
theorem rep_str {s : List UInt8} : (str s).Rep κ w (.string (bs s)) := rfl

theorem fits64_wrap {n : Int} (h : fits64 n) : IntKind.i64.wrap n = n := IntWalk.i64_in n h

theorem intOp_sound {op : BinOp} {k : IntKind} {x y : Int} {c : Prop} {v : AV} (hs : isShift op = false) (h : intOp op k x y = .ok c v) (hc : c) (t : TypeId) :
    ∃ u, v.Rep κ w u ∧ ∀ w', (binOp op t (.int k x) (.int k y)).run P w' = .ok u w' := by
  cases op <;> simp only [intOp] at h
  case add | sub | mul =>
    cases k <;> (injection h with h1 h2; subst h1; subst h2; refine ⟨_, rep_int, fun w' => ?_⟩; simp [binOp, Op.intArith]) <;> exact fits64_wrap hc
  case quo =>
    injection h with h1 h2; subst h1; subst h2
    exact ⟨_, rep_int, fun w' => by simp [binOp, Op.intDiv, hc]⟩
  case rem =>
    injection h with h1 h2; subst h1; subst h2
    exact ⟨_, rep_int, fun w' => by simp [binOp, Op.intDiv, hc]⟩
  case and | or | xor =>
    injection h with h1 h2; subst h1; subst h2
    exact ⟨_, rep_int, fun w' => by simp [binOp, Op.intBits]⟩
  case eql | neq | lss | leq | gtr | geq =>
    injection h with h1 h2; subst h1; subst h2
    exact ⟨_, rep_bool, fun w' => by simp [binOp, Op.intCmp]⟩
  all_goals cases h
theorem shiftOp_sound {op : BinOp} {k k' : IntKind} {x y : Int} {c : Prop} {v : AV} (h : shiftOp op k x y = .ok c v) (hc : c) (t : TypeId) :
    ∃ u, v.Rep κ w u ∧ ∀ w', (binOp op t (.int k x) (.int k' y)).run P w' = .ok u w' := by
  cases op <;> simp only [shiftOp] at h
  case shl | shr =>
    injection h with h1 h2; subst h1; subst h2
    have hn : ¬ y < 0 := by omega
    exact ⟨_, rep_int, fun w' => by simp [binOp, Op.shift, hn]⟩
  all_goals cases h
theorem bs_toList (s : List UInt8) : (bs s).toList = s := by rw [Lib.toList_data]; rfl
theorem bs_app (s t : List UInt8) : bs s ++ bs t = bs (s ++ t) := by
  apply ByteArray.ext
  rw [ByteArray.data_append]
  simp [bs]
theorem strOp_sound {op : BinOp} {s t : List UInt8} {c : Prop} {v : AV} (h : strOp op s t = .ok c v) (hc : c) (ty : TypeId) :
    ∃ u, v.Rep κ w u ∧ ∀ w', (binOp op ty (.string (bs s)) (.string (bs t))).run P w' = .ok u w' := by
  cases op <;> simp only [strOp] at h
  case add =>
    injection h with h1 h2; subst h1; subst h2
    refine ⟨_, rep_str, fun w' => ?_⟩
    have hn : ¬ ((((bs s).size + (bs t).size : Nat) : Int) > IntKind.i64.max) := by
      show ¬ (((s.length + t.length : Nat) : Int) > 9223372036854775807)
      omega
    rw [← bs_app]
    simp only [binOp, Op.stringOp, if_neg hn]
    rfl
  case eql | neq | lss | leq | gtr | geq =>
    injection h with h1 h2; subst h1; subst h2
    refine ⟨_, rep_bool, fun w' => ?_⟩
    simp only [binOp, Op.stringOp, bs_toList]
    rfl
  all_goals cases h
theorem eqB_spec {k k' : IntKind} (h : IntKind.eqB k k' = true) : k = k' := by
  cases k <;> cases k' <;> first | rfl | cases h
theorem eqGuard_ok (op : BinOp) (t : TypeId) (x y : Operand) (u v : Value) (hu : ∀ cs, u ≠ .agg cs) (hn : u ≠ .nilIface) (w : World) : (eqGuard op t x y u v).run P w = .ok () w := by
  unfold eqGuard
  cases op <;> simp
  all_goals (split <;> first | (exact absurd rfl (hu _)) | (exact absurd rfl hn) | rfl)
theorem binGot_sound {op : BinOp} {A B : AV} {c : Prop} {v : AV} {isB : Bool} {t : TypeId} (hB : isB = true → P.underlying t = some .bool) (h : binGot isB op A B = .ok c v) (hc : c) {x y : Value} (hx : A.Rep κ w x) (hy : B.Rep κ w y) (X Y : Operand) :
    ∃ u, v.Rep κ w u ∧ ∀ w', (do eqGuard op t X Y x y; binOp op t x y : Sem Value).run P w' = .ok u w' := by
  have key : (∀ cs, x ≠ .agg cs) → x ≠ .nilIface → (∃ u, v.Rep κ w u ∧ ∀ w', (binOp op t x y).run P w' = .ok u w') → ∃ u, v.Rep κ w u ∧ ∀ w', (do eqGuard op t X Y x y; binOp op t x y : Sem Value).run P w' = .ok u w' := by
    rintro h1 h2 ⟨u, hu, hw⟩
    exact ⟨u, hu, fun w' => by rw [Sem.run_bind, eqGuard_ok op t X Y x y h1 h2]; exact hw w'⟩
  unfold binGot at h
  split at h
  · rename_i k p k' q
    obtain rfl : x = .int k p := hx
    obtain rfl : y = .int k' q := hy
    refine key (fun _ e => by cases e) (fun e => by cases e) ?_
    cases hs : isShift op
    · rw [hs] at h
      cases he : IntKind.eqB k k'
      · rw [he] at h; cases h
      · rw [he] at h
        obtain rfl := eqB_spec he
        exact intOp_sound hs h hc t
    · rw [hs] at h
      exact shiftOp_sound h hc t
  · rename_i s q
    obtain rfl : x = .string (bs s) := hx
    obtain rfl : y = .string (bs q) := hy
    exact key (fun _ e => by cases e) (fun e => by cases e) (strOp_sound h hc t)
  · rename_i p q
    obtain rfl : x = .bool p := hx
    obtain rfl : y = .bool q := hy
    refine key (fun _ e => by cases e) (fun e => by cases e) ?_
    cases hb : isB
    · rw [hb] at h; cases h
    · rw [hb] at h
      have hu := hB hb
      cases op <;> simp only [cond_true, boolOp] at h
      case eql =>
        injection h with h1 h2; subst h1; subst h2
        exact ⟨_, rep_bool, fun w' => run_eql_bool w' t p q hu⟩
      case neq =>
        injection h with h1 h2; subst h1; subst h2
        exact ⟨_, rep_bool, fun w' => run_neq_bool w' t p q hu⟩
      all_goals cases h
  · cases h

theorem wanted_none {ops : Array Oper} {o : Oper} {tmps : Array Value} (h : o.guard = none) : Region.wanted o (yielded ops tmps) = true := by simp [Region.wanted, h]

theorem add_plain2 (g o n : Nat) : (⟨g, o, none⟩ : Addr).add n = ⟨g, o + n, none⟩ := by unfold Addr.add; split <;> simp_all
theorem isAggB_run {t : TypeId} {b : Bool} (h : isAggB P t = some b) (w : World) : (Go.isAgg t).run P w = .ok b w := by
  unfold isAggB at h
  cases hu : P.underlying t with
  | none => rw [hu] at h; cases h
  | some d =>
    rw [hu] at h
    simp only [Go.isAgg, Sem.run_bind, run_underlying hu, Result.andThen_ok]
    cases d <;> first | (injection h with h; subst h; rfl)
theorem sizeB_run {t : TypeId} {n : Nat} (h : sizeB P t = some n) (w : World) : (Go.sizeOf t).run P w = .ok n w := by
  unfold sizeB at h
  cases hi : P.info? t with
  | none => rw [hi] at h; cases h
  | some i => rw [hi] at h; injection h with h; subst h; simp [Go.sizeOf, typeInfo, hi]

theorem cellsFrom_spec {cs : List Cell} : ∀ (n off : Nat) (l : List Cell), cellsFrom cs off n = some l → l.length = n ∧ ∀ i c, l[i]? = some c → cs[off + i]? = some c
  | 0, off, l, h => by injection h with h; subst h; exact ⟨rfl, fun i c h => by cases h⟩
  | n + 1, off, l, h => by
    unfold cellsFrom at h
    cases hx : cs[off]? with
    | none => rw [hx] at h; cases h
    | some x =>
      rw [hx] at h
      cases hr : cellsFrom cs (off + 1) n with
      | none => simp [hr] at h
      | some r =>
        simp [hr] at h; subst h
        obtain ⟨h1, h2⟩ := cellsFrom_spec n (off + 1) r hr
        refine ⟨by simp [h1], fun i c hc => ?_⟩
        cases i with
        | zero => injection hc with hc; subst hc; exact hx
        | succ i => have := h2 i c hc; rwa [show off + (i + 1) = off + 1 + i by omega]
theorem fldsFrom_spec {fs : Kds} {p : fs.Pay} : ∀ (n f : Nat) (l : List Cell), fldsFrom fs p f n = some l → l.length = n ∧ ∀ i c, l[i]? = some c → ∃ x, fs.fld p (f + i) = some x ∧ c = .val x.1 x.2
  | 0, off, l, h => by injection h with h; subst h; exact ⟨rfl, fun i c h => by cases h⟩
  | n + 1, off, l, h => by
    unfold fldsFrom at h
    cases hx : fs.fld p off with
    | none => rw [hx] at h; cases h
    | some x =>
      rw [hx] at h
      cases hr : fldsFrom fs p (off + 1) n with
      | none => simp [hr] at h
      | some r =>
        simp [hr] at h; subst h
        obtain ⟨h1, h2⟩ := fldsFrom_spec n (off + 1) r hr
        refine ⟨by simp [h1], fun i c hc => ?_⟩
        cases i with
        | zero => injection hc with hc; subst hc; exact ⟨x, hx, rfl⟩
        | succ i => have := h2 i c hc; rwa [show off + (i + 1) = off + 1 + i by omega]

/-- a part of an aggregate -/
theorem partOf_sound {t : TypeId} {cs : List Cell} {off : Nat} {c : Prop} {v : AV} (h : partOf P t cs off = .ok c v) {vs : Array Value} (hv : CellsRep κ w cs vs) :
    ∃ u, v.Rep κ w u ∧ ∀ w', (Go.part t vs off).run P w' = .ok u w' := by
  unfold partOf at h
  split at h
  · rename_i n ha hs
    split at h
    · rename_i l hl
      injection h with h1 h2; subst h2
      obtain ⟨hl1, hl2⟩ := cellsFrom_spec n off l hl
      refine ⟨.agg (vs.extract off (off + n)), ⟨_, rfl, ?_, fun i c hc => ?_, fun i v hv' => ?_⟩, fun w' => ?_⟩
      · rw [Array.size_extract, hv.1]
        rcases Nat.eq_zero_or_pos n with h0 | h0
        · subst h0; rw [hl1]; omega
        · have : (n - 1) < l.length := by omega
          have := hl2 (n - 1) l[n - 1] (List.getElem?_eq_getElem this)
          have := (List.getElem?_eq_some_iff.1 this).1
          rw [hl1]; omega
      · obtain ⟨u, hu, hr⟩ := hv.2.1 _ _ (hl2 i c hc)
        refine ⟨u, ?_, hr⟩
        have hil : i < n := by rw [← hl1]; exact (List.getElem?_eq_some_iff.1 hc).1
        rw [Array.getElem?_extract, if_pos]
        · exact hu
        · have := (Array.getElem?_eq_some_iff.1 hu).1
          omega
      · rw [Array.getElem?_extract] at hv'
        split at hv'
        · exact hv.2.2 _ _ hv'
        · cases hv'
      · simp [Go.part, isAggB_run ha, sizeB_run hs]
    · cases h
  · rename_i ha
    split at h
    · rename_i x hx
      injection h with h1 h2; subst h2
      obtain ⟨u, hu, hr⟩ := hv.2.1 _ _ hx
      exact ⟨u, hr, fun w' => by simp [Go.part, isAggB_run ha, hu]⟩
    · cases h
  · cases h
theorem run_loadCells_f (w' : World) (g o n : Nat) (vs : List Value) (hn : vs.length = n) (h : ∀ i v, vs[i]? = some v → w'.cell? ⟨g, o + i, none⟩ = some v) : (Go.loadCells ⟨g, o, none⟩ n).run P w' = .ok vs.toArray w' := by
  subst hn
  exact run_loadCells_list w' ⟨g, o, none⟩ vs (fun j v hj => by rw [add_plain2]; exact h j v hj)
theorem exists_list {l : List Cell} {R : Nat → Value → Prop} (h : ∀ i c, l[i]? = some c → ∃ u, R i u ∧ c.Rep κ w u) : ∃ us : List Value, us.length = l.length ∧ ∀ (i : Nat) c, l[i]? = some c → ∃ u, us[i]? = some u ∧ R i u ∧ c.Rep κ w u := by
  induction l generalizing R with
  | nil => exact ⟨[], rfl, fun i c h => by cases h⟩
  | cons x l ih =>
    obtain ⟨u, hu, hr⟩ := h 0 x rfl
    obtain ⟨us, h1, h2⟩ := ih (R := fun i u => R (i + 1) u) (fun i c hc => h (i + 1) c hc)
    refine ⟨u :: us, by simp [h1], fun i c hc => ?_⟩
    cases i with
    | zero => injection hc with hc; subst hc; exact ⟨u, rfl, hu, hr⟩
    | succ i => exact h2 i c hc
theorem loadVar_row {t : TypeId} {fs : Kds} {p : fs.Pay} {f : Nat} {c : Prop} {v : AV} (h : partOfRow P t fs p f = .ok c v) {g o : Nat} (hg : g < w.heap.size) (hr : fs.Rep w κ.S p g o) :
    ∃ u, v.Rep κ w u ∧ ∀ w', Below w.heap.size w w' → (Go.loadVar t ⟨g, o + f, none⟩).run P w' = .ok u w' := by
  unfold partOfRow at h
  split at h
  · rename_i n ha hs
    split at h
    · rename_i l hl
      injection h with h1 h2; subst h2
      obtain ⟨hl1, hl2⟩ := fldsFrom_spec n f l hl
      obtain ⟨us, hu1, hu2⟩ := exists_list (κ := κ) (w := w) (l := l) (R := fun i u => w.cell? ⟨g, o + (f + i), none⟩ = some u) (fun i c hc => by
        obtain ⟨x, hx, rfl⟩ := hl2 i c hc
        exact Kds.Rep.fld fs p g o (f + i) x hr hx)
      refine ⟨.agg us.toArray, ⟨_, rfl, by simp [hu1], fun i c hc => ?_, fun i v hv => ?_⟩, fun w' hb => ?_⟩
      · obtain ⟨u, h1, _, h3⟩ := hu2 i c hc
        exact ⟨u, by simpa using h1, h3⟩
      · have hv : us[i]? = some v := by simpa using hv
        have hi : i < l.length := by rw [← hu1]; exact (List.getElem?_eq_some_iff.1 hv).1
        obtain ⟨u, h1, h2, h3⟩ := hu2 i l[i] (List.getElem?_eq_getElem hi)
        rw [hv] at h1; injection h1 with h1; subst h1
        obtain ⟨x, hx, he⟩ := hl2 i l[i] (List.getElem?_eq_getElem hi)
        rw [he] at h3
        exact Kd.Rep.solid h3
      · have := run_loadCells_f (P := P) w' g (o + f) n us (by rw [hu1, hl1]) (fun i v hv => by
          have hi : i < l.length := by rw [← hu1]; exact (List.getElem?_eq_some_iff.1 hv).1
          obtain ⟨u, h1, h2, _⟩ := hu2 i l[i] (List.getElem?_eq_getElem hi)
          rw [hv] at h1; injection h1 with h1; subst h1
          rw [Nat.add_assoc]
          exact (hb.cell (p := ⟨g, o + (f + i), none⟩) hg).trans h2)
        simp [Go.loadVar, isAggB_run ha, sizeB_run hs, this]
    · cases h
  · rename_i ha
    split at h
    · rename_i x hx
      injection h with h1 h2; subst h2
      obtain ⟨u, hu, hr⟩ := Kds.Rep.fld fs p g o f x hr hx
      refine ⟨u, hr, fun w' hb => ?_⟩
      have := (hb.cell (p := ⟨g, o + f, none⟩) hg).trans hu
      simp [Go.loadVar, isAggB_run ha, this]
    · cases h
  · cases h
theorem loadVar_box {t : TypeId} {cs : List Cell} {off : Nat} {c : Prop} {v : AV} (h : partOf P t cs off = .ok c v) {g : Nat} {ty : TypeId} {vs : Array Value} (hb : Blk w g ty vs) (hv : CellsRep κ w cs vs) :
    ∃ u, v.Rep κ w u ∧ ∀ w', Below w.heap.size w w' → (Go.loadVar t ⟨g, off, none⟩).run P w' = .ok u w' := by
  obtain ⟨u, hu, hp⟩ := partOf_sound h hv
  refine ⟨u, hu, fun w' hw => ?_⟩
  have hp := hp w'
  have hbk : Blk w' g ty vs := hb.bel hw
  unfold partOf at h
  split at h
  · rename_i n ha hs
    split at h
    · rename_i l hl
      simp [Go.part, isAggB_run ha, sizeB_run hs] at hp
      subst hp
      obtain ⟨hl1, hl2⟩ := cellsFrom_spec n off l hl
      have hsz : (vs.extract off (off + n)).toList.length = n := by
        rw [Array.length_toList, Array.size_extract, hv.1]
        rcases Nat.eq_zero_or_pos n with h0 | h0
        · subst h0; omega
        · have : (n - 1) < l.length := by omega
          have := hl2 (n - 1) l[n - 1] (List.getElem?_eq_getElem this)
          have := (List.getElem?_eq_some_iff.1 this).1
          omega
      have := run_loadCells_f (P := P) w' g off n (vs.extract off (off + n)).toList hsz (fun i x hx => by
        rw [Array.getElem?_toList, Array.getElem?_extract] at hx
        split at hx
        · rw [hbk.cell]; exact hx
        · cases hx)
      rw [Array.toArray_toList] at this
      simp [Go.loadVar, isAggB_run ha, sizeB_run hs, this]
    · cases h
  · rename_i ha
    split at h
    · rename_i x hx
      obtain ⟨y, hy, hr⟩ := hv.2.1 _ _ hx
      simp [Go.part, isAggB_run ha, hy] at hp
      subst hp
      have : w'.cell? ⟨g, off, none⟩ = some y := (hbk.cell off).trans hy
      simp [Go.loadVar, isAggB_run ha, this]
    · cases h
  · cases h
end
end R
end Go.Proofs.YtldnfdghkdibmaaGreatDoor

/-
  An operation that only reads yields what 'rop' says, in every later world.
-/
set_option linter.unusedVariables false
namespace Go.Proofs.YtldnfdghkdibmaaGreatDoor
open Go.RowKit
namespace R
section
variable {w0 : Base} {w w' : World} {κ : Cx} {st : St} {a : Act} {P : Program}

theorem yields_of {o : Oper} {v : AV} {s : Sem Value} (he : execOp a.eval o = (do let x ← s; pure (Next.value x))) (h : ∃ u, v.Rep κ w u ∧ ∀ w', Below w.heap.size w w' → s.run P w' = .ok u w') : Yields P κ w a o v := by
  obtain ⟨u, hu, hw⟩ := h
  exact ⟨u, hu, fun w' hb => by rw [he]; exact vrun (hw w' hb)⟩
theorem eqLeaf_sound {t : TypeId} {A B : AV} {b : Bool} (h : eqLeaf P t A B = some b) {x y : Value} (hx : A.Rep κ w x) (hy : B.Rep κ w y) (d : Nat) (w' : World) : (Op.equalIn (d + 1) t x y).run P w' = .ok b w' := by
  unfold eqLeaf at h
  split at h
  · rename_i k p k' q
    obtain rfl : x = .int k p := hx
    obtain rfl : y = .int k' q := hy
    split at h
    · rename_i k2 hu
      cases he : IntKind.eqB k k'
      · rw [he] at h; cases h
      · rw [he] at h
        obtain rfl := eqB_spec he
        injection h with h; subst h
        exact run_equalIn_int w' d t k k2 p q hu
    · cases h
  · rename_i p q
    obtain rfl : x = .string (bs p) := hx
    obtain rfl : y = .string (bs q) := hy
    split at h
    · rename_i hu
      injection h with h; subst h
      rw [run_equalIn_string w' d t _ _ hu, bs_toList, bs_toList]
    · cases h
  · rename_i p q
    obtain rfl : x = .bool p := hx
    obtain rfl : y = .bool q := hy
    split at h
    · rename_i hu
      injection h with h; subst h
      exact run_equalIn_bool' w' d t p q hu
    · cases h
  · cases h
theorem eqFlds_sound {E : TypeId → AV → AV → Option Bool} {d : Nat} (hE : ∀ t A B b, E t A B = some b → ∀ x y, A.Rep κ w x → B.Rep κ w y → ∀ w', (Op.equalIn d t x y).run P w' = .ok b w') {xs ys : List Cell} {us vs : Array Value} (hx : CellsRep κ w xs us) (hy : CellsRep κ w ys vs) (w' : World) :
    ∀ (fs : List Field) (b : Bool), eqFlds P E xs ys fs = some b → (Op.eqFields d us vs fs).run P w' = .ok b w'
  | [], b, h => by injection h with h; subst h; rfl
  | f :: r, b, h => by
    unfold eqFlds at h
    cases hn : f.name == "_"
    · rw [hn] at h
      dsimp only [cond_false] at h
      have hne : f.name ≠ "_" := fun e => by rw [e] at hn; cases hn
      split at h
      · rename_i c1 A c2 B h1 h2
        split at h
        · rename_i p q h3 h4
          injection h with h; subst h
          obtain ⟨u, hu, hw1⟩ := partOf_sound h1 hx
          obtain ⟨v, hv, hw2⟩ := partOf_sound h2 hy
          have e3 := hE _ _ _ _ h3 u v hu hv w'
          have e4 := eqFlds_sound hE hx hy w' r q h4
          unfold Op.eqFields
          rw [if_pos hne]
          simp only [Sem.run_bind, hw1, hw2, Result.andThen_ok, e3]
          cases p
          · rfl
          · simpa using e4
        · cases h
      · cases h
    · rw [hn] at h; cases h
theorem eqAV_sound : ∀ (d : Nat) (t : TypeId) (A B : AV) (b : Bool), eqAV P d t A B = some b → ∀ x y, A.Rep κ w x → B.Rep κ w y → ∀ (k : Nat) (w' : World), (Op.equalIn (k + d) t x y).run P w' = .ok b w'
  | 0, _, _, _, _, h, _, _, _, _, _, _ => by cases h
  | d + 1, t, A, B, b, h, x, y, hx, hy, k, w' => by
    unfold eqAV at h
    split at h
    · rename_i xs ys
      obtain ⟨us, rfl, hus⟩ := hx
      obtain ⟨vs, rfl, hvs⟩ := hy
      split at h
      · rename_i fs hu
        cases hs : P.stoodInHeld t
        · rw [hs] at h
          have hf : P.fieldsOf t = fs := by unfold Program.fieldsOf; rw [hu]
          rw [← Nat.add_assoc, run_equalIn_struct w' (k + d) t us vs (by rw [hf]; exact hu) hs, hf]
          exact eqFlds_sound (fun t A B b h x y hx hy w' => eqAV_sound d t A B b h x y hx hy k w') hus hvs w' fs.toList b h
        · rw [hs] at h; cases h
      · cases h
    · rw [← Nat.add_assoc]
      exact eqLeaf_sound h hx hy _ w'
theorem aggGot_sound {op : BinOp} {t : TypeId} {A B : AV} {c : Prop} {v : AV} (hab : areAggs A B = true) (h : aggGot P op t A B = .ok c v) {x y : Value} (hx : A.Rep κ w x) (hy : B.Rep κ w y) (X Y : Operand) :
    ∃ u, v.Rep κ w u ∧ ∀ w', (do eqGuard op t X Y x y; binOp op t x y : Sem Value).run P w' = .ok u w' := by
  unfold areAggs at hab
  split at hab
  · obtain ⟨us, rfl, hus⟩ := hx
    obtain ⟨vs, rfl, hvs⟩ := hy
    unfold aggGot at h
    cases hg : P.eqGuardType P.depth t
    · rw [hg] at h
      dsimp only [cond_false] at h
      split at h
      · rename_i b hb
        injection h with h1 h2; subst h2
        refine ⟨_, rep_bool, fun w' => ?_⟩
        rw [Sem.run_bind, run_eqGuard_agg _ _ _ _ _ _ _ hg, Result.andThen_ok, run_eql_struct, show (10000 : Nat) = 9992 + 8 from rfl, eqAV_sound 8 t _ _ b hb _ _ ⟨us, rfl, hus⟩ ⟨vs, rfl, hvs⟩ 9992 w']
        rfl
      · rename_i b hb
        injection h with h1 h2; subst h2
        refine ⟨_, rep_bool, fun w' => ?_⟩
        rw [Sem.run_bind, run_eqGuard_agg _ _ _ _ _ _ _ hg, Result.andThen_ok, run_neq_struct, show (10000 : Nat) = 9992 + 8 from rfl, eqAV_sound 8 t _ _ b hb _ _ ⟨us, rfl, hus⟩ ⟨vs, rfl, hvs⟩ 9992 w']
        rfl
      · cases h
    · rw [hg] at h; cases h
  · cases hab
theorem pickAV_sound {q : Bool} {A B : AV} {x y : Value} (hx : A.Rep κ w x) (hy : B.Rep κ w y) : (pickAV q A B).Rep κ w (if q = true then x else y) := by
  unfold pickAV
  split
  · rename_i p r
    obtain rfl : x = .bool p := hx
    obtain rfl : y = .bool r := hy
    cases q <;> rfl
  · cases q
    · exact hy
    · exact hx
theorem setCells_spec {κ : Cx} {w : World} : ∀ (l : List Cell) (cs : List Cell) (off : Nat) (r : List Cell) (vs : List Value) (us : Array Value), setCells cs off l = some r → CellsRep κ w l vs.toArray → CellsRep κ w cs us →
    CellsRep κ w r ((vs.zipIdx).foldl (fun cs (c, j) => cs.setIfInBounds (off + j) c) us) := by
  have key : ∀ (l : List Cell) (cs : List Cell) (off k : Nat) (r : List Cell) (vs : List Value) (us : Array Value), setCells cs (off + k) l = some r → CellsRep κ w l vs.toArray → CellsRep κ w cs us →
      CellsRep κ w r ((vs.zipIdx k).foldl (fun cs (c, j) => cs.setIfInBounds (off + j) c) us) := by
    intro l
    induction l with
    | nil =>
      intro cs off k r vs us h hv hu
      injection h with h; subst h
      obtain rfl : vs = [] := by have := hv.1; simpa using this
      exact hu
    | cons x l ih =>
      intro cs off k r vs us h hv hu
      cases vs with
      | nil => have := hv.1; simp at this
      | cons v vs =>
        unfold setCells at h
        cases hb : Nat.blt (off + k) cs.length
        · rw [hb] at h; cases h
        · rw [hb] at h
          have hlt : off + k < cs.length := by rw [Nat.blt_eq] at hb; exact hb
          have h' : setCells (cs.set (off + k) x) (off + (k + 1)) l = some r := h
          have hx : x.Rep κ w v := by
            obtain ⟨y, hy, hr⟩ := hv.2.1 0 x rfl
            injection hy with hy; subst hy; exact hr
          have hv' : CellsRep κ w l vs.toArray := ⟨by have := hv.1; simpa using this, fun i c hc => by
            obtain ⟨y, hy, hr⟩ := hv.2.1 (i + 1) c hc
            exact ⟨y, by simpa using hy, hr⟩, fun i y hy => hv.2.2 (i + 1) y (by simpa using hy)⟩
          have hu' : CellsRep κ w (cs.set (off + k) x) (us.setIfInBounds (off + k) v) := ⟨by simp [hu.1], fun i c hc => by
            rw [List.getElem?_set] at hc
            by_cases e : off + k = i
            · subst e
              rw [if_pos rfl, if_pos hlt] at hc
              injection hc with hc; subst hc
              exact ⟨v, Array.getElem?_setIfInBounds_self_of_lt (by rw [hu.1]; exact hlt), hx⟩
            · rw [if_neg e] at hc
              obtain ⟨y, hy, hr⟩ := hu.2.1 i c hc
              exact ⟨y, by rw [Array.getElem?_setIfInBounds_ne e]; exact hy, hr⟩, fun i y hy => by
            by_cases e : off + k = i
            · subst e
              rw [Array.getElem?_setIfInBounds_self_of_lt (by rw [hu.1]; exact hlt)] at hy
              injection hy with hy; subst hy
              exact hv.2.2 0 v rfl
            · rw [Array.getElem?_setIfInBounds_ne e] at hy
              exact hu.2.2 i y hy⟩
          rw [List.zipIdx_cons, List.foldl_cons]
          exact ih _ off (k + 1) r vs _ h' hv' hu'
  intro l cs off r vs us h hv hu
  exact key l cs off 0 r vs us h hv hu
theorem compCells_sound {A : AV} {l : List Cell} {v : Value} (h : compCells A = some l) (hv : A.Rep κ w v) : CellsRep κ w l v.cells := by
  unfold compCells at h
  split at h
  · rename_i c
    cases hs : c.solid
    · rw [hs] at h; cases h
    · rw [hs] at h
      injection h with h; subst h
      have ho := Cell.Rep.solid hv hs
      have hc : v.cells = #[v] := by cases v <;> first | rfl | cases ho
      rw [hc]
      refine ⟨rfl, fun i c hc => ?_, fun i u hu => ?_⟩
      · cases i with
        | zero => injection hc with hc; subst hc; exact ⟨v, rfl, hv⟩
        | succ i => cases hc
      · cases i with
        | zero => injection hu with hu; subst hu; exact ho
        | succ i => simp at hu
  · injection h with h; subst h
    obtain ⟨vs, rfl, h⟩ := hv
    exact h
  · cases h
theorem buildParts_sound (hR : Rel w0 κ st a w) (places : List (Nat × Nat)) (place : Nat → Option (Nat × Nat)) (hpl : ∀ i q, places[i]? = some q → place i = some q) : ∀ (parts : List (Nat × Operand)) (cs l : List Cell) (us : Array Value), buildParts st places cs parts = some l → CellsRep κ w cs us →
    ∃ us', Instr.fill place us (parts.map fun (i, x) => (i, a.eval x)) = some us' ∧ CellsRep κ w l us'
  | [], cs, l, us, h, hu => by injection h with h; subst h; exact ⟨us, rfl, hu⟩
  | (i, x) :: r, cs, l, us, h, hu => by
    unfold buildParts at h
    cases hp : places[i]? with
    | none => rw [hp] at h; cases h
    | some q =>
      obtain ⟨off, size⟩ := q
      cases hc : compCells (st.ev x) with
      | none => rw [hp, hc] at h; cases h
      | some xs =>
        rw [hp, hc] at h
        dsimp only at h
        cases hb : xs.length.beq size && Nat.ble (off + xs.length) cs.length
        · rw [hb] at h; cases h
        · rw [hb] at h
          rw [Bool.and_eq_true] at hb
          have hs : xs.length = size := Nat.eq_of_beq_eq_true hb.1
          have hle : off + xs.length ≤ cs.length := Nat.le_of_ble_eq_true hb.2
          cases hset : setCells cs off xs with
          | none => rw [hset] at h; cases h
          | some cs' =>
            rw [hset] at h
            have hxr := compCells_sound hc (hR.ev x)
            have hsz : (a.eval x).cells.size = xs.length := hxr.1
            obtain ⟨us', h1, h2⟩ := buildParts_sound hR places place hpl r cs' l _ h (setCells_spec xs cs off cs' (a.eval x).cells.toList us hset (by simpa using hxr) hu)
            refine ⟨us', ?_, h2⟩
            rw [List.map_cons]
            unfold Instr.fill
            have hpa : place i = some (off, size) := hpl i _ hp
            simp only [hpa]
            rw [if_neg]
            · rw [← h1]
              congr 1
              rw [← Array.foldl_toList, Array.toList_zipIdx]
            · rw [hsz, hs, hu.1, ← hs]
              simp
              omega

theorem zeroCells_sound {t : TypeId} {cs : List Cell} (h : zeroCells P t = some cs) : ∃ it z, P.info? t = some it ∧ it.zero = some z ∧ CellsRep κ w cs z.cells := by
  unfold zeroCells at h
  cases hi : P.info? t with
  | none => rw [hi] at h; cases h
  | some it =>
    rw [hi] at h
    cases hz : it.zero with
    | none => simp [hz] at h
    | some z =>
      simp only [Option.bind_some, hz] at h
      cases ho : z.cells.toList.all (·.oneCell')
      · rw [ho] at h; cases h
      · rw [ho] at h
        injection h with h; subst h
        exact ⟨it, z, rfl, hz, ofCells_rep κ w z.cells ho⟩
theorem owns_slice {base : Nat} {e : TypeId} {size n : Nat} {v : Value} {xs : List Value} (ho : w.ownsRow base e size v n xs) : ∃ A c, v = .slice A n c := by
  rcases ho.2 with ⟨rfl, rfl⟩ | ⟨g, cap, cur, rfl, _⟩
  · exact ⟨_, _, rfl⟩
  · exact ⟨_, _, rfl⟩
theorem owns_at {base : Nat} {e : TypeId} {size n : Nat} {xs : List Value} {g o c : Nat} (ho : w.ownsRow base e size (.slice (some ⟨g, o, none⟩) n c) n xs) : o = 0 ∧ g < w.heap.size ∧ n ≤ c ∧ base ≤ g ∧ ∀ (j : Nat) u, xs[j]? = some u → w.cell? ⟨g, j, none⟩ = some u := by
  rcases ho.2 with ⟨h, _⟩ | ⟨g2, cap, cur, h, h2, h3, h4, h5, h6, h7⟩
  · cases h
  · injection h with ha hn hc
    injection ha with ha
    injection ha with hg ho' _
    subst hg; subst ho'; subst hc
    refine ⟨rfl, Blk.lt (t := e) (cs := cur) h3, h4, h2, fun j u hu => ?_⟩
    rw [cell_of_row w g j cur _ _ h3]
    rw [← h7, List.getElem?_take] at hu
    split at hu
    · simpa using hu
    · cases hu
theorem Kds.Rep.of_flds {S : Nat → Prop} : ∀ (fs : Kds) (x : fs.Pay) (g o : Nat), (∀ (f : Nat) z, fs.fld x f = some z → ∃ u, w.cell? ⟨g, o + f, none⟩ = some u ∧ z.1.Rep w S z.2 u) → fs.Rep w S x g o
  | .one k, x, g, o, h => h 0 _ rfl
  | .cons k ks, x, g, o, h => ⟨h 0 _ rfl, Kds.Rep.of_flds ks x.2 g (o + 1) fun f z hz => by
      obtain ⟨u, hu, hr⟩ := h (f + 1) z hz
      exact ⟨u, by rw [Nat.add_assoc, Nat.add_comm 1 f]; exact hu, hr⟩⟩
/-- an element of an owned row -/
theorem row_elem (hR : Rel w0 κ st a w) {r : Nat} {x : Row} (hx : st.row r = some x) {g n c i : Nat} (hv : κ.ρ r = .slice (some ⟨g, 0, none⟩) n c) (hi : i < n) : g < w.heap.size ∧ x.fs.Rep w κ.S (x.xs.getD i x.fs.dflt) g (i * x.fs.size) := by
  obtain ⟨cells, ho, hc, _⟩ := hR.row r x hx
  obtain ⟨A, c', he⟩ := owns_slice ho
  have hn : n = x.xs.length := by rw [hv] at he; injection he
  rw [hv, ← hn] at ho
  obtain ⟨_, hg, _, _, hcell⟩ := owns_at ho
  refine ⟨hg, Kds.Rep.of_flds x.fs _ g _ fun f z hz => ?_⟩
  have hge : x.xs[i]? = some (x.xs.getD i x.fs.dflt) := by
    rw [List.getD_eq_getElem?_getD, List.getElem?_eq_getElem (by omega), Option.getD_some]
  obtain ⟨u, hu, hr⟩ := hc i _ hge f z hz
  exact ⟨u, hcell _ _ hu, hr⟩
theorem lenGot_sound (hR : Rel w0 κ st a w) {A : AV} {c : Prop} {v : AV} {b : Bool} (h : lenGot st b A = .ok c v) {x : Value} (hx : A.Rep κ w x) {t ty : TypeId} {d : TypeDesc} (hu : P.underlying t = some d)
    (hk : b = true → d = .string) (hk2 : b = false → ∃ e, d = .slice e) : ∃ u, v.Rep κ w u ∧ ∀ w', (Builtin.len_ #[t] ty #[x]).run P w' = .ok u w' := by
  unfold lenGot at h
  split at h
  · rename_i s
    obtain rfl : x = .string (bs s) := hx
    cases b
    · cases h
    · injection h with h1 h2; subst h2
      obtain rfl := hk rfl
      exact ⟨_, rep_int, fun w' => run_len_string w' t ty (bs s) hu⟩
  · rename_i fs xs
    obtain ⟨A, c, rfl, _⟩ := hx
    cases b
    · injection h with h1 h2; subst h2
      obtain ⟨e, rfl⟩ := hk2 rfl
      exact ⟨_, rep_int, fun w' => by simp [Builtin.len_, run_underlying hu, goInt]⟩
    · cases h
  · obtain rfl : x = .slice none 0 0 := hx
    cases b
    · injection h with h1 h2; subst h2
      obtain ⟨e, rfl⟩ := hk2 rfl
      exact ⟨_, rep_int, fun w' => by simp [Builtin.len_, run_underlying hu, goInt]⟩
    · cases h
  · rename_i r
    obtain ⟨hx, _⟩ := hx
    split at h
    · rename_i y hy
      obtain ⟨cells, ho, _⟩ := hR.row r y hy
      obtain ⟨A, c', he⟩ := owns_slice ho
      rw [he] at hx
      subst hx
      cases b
      · injection h with h1 h2; subst h2
        obtain ⟨e, rfl⟩ := hk2 rfl
        exact ⟨_, rep_int, fun w' => by simp [Builtin.len_, run_underlying hu, goInt]⟩
      · cases h
    · cases h
  · cases h

theorem lowOf_spec (hR : Rel w0 κ st a w) {lo : Option Operand} {l : Int} (h : lowOf st lo = some l) : (lo = none ∧ l = 0) ∨ ∃ k, lo.map a.eval = some (.int k l) := by
  unfold lowOf at h
  split at h
  · injection h with h; exact .inl ⟨rfl, h.symm⟩
  · rename_i x
    split at h
    · rename_i k n hx
      injection h with h; subst h
      have := hR.ev x
      rw [hx] at this
      exact .inr ⟨k, by rw [Option.map_some]; exact congrArg some this⟩
    · cases h
theorem highOf_spec (hR : Rel w0 κ st a w) {hi : Option Operand} {n : Nat} {l : Int} (h : highOf st n hi = some l) : (hi = none ∧ l = n) ∨ ∃ k, hi.map a.eval = some (.int k l) := by
  unfold highOf at h
  split at h
  · injection h with h; exact .inl ⟨rfl, h.symm⟩
  · rename_i x
    split at h
    · rename_i k n hx
      injection h with h; subst h
      have := hR.ev x
      rw [hx] at this
      exact .inr ⟨k, by rw [Option.map_some]; exact congrArg some this⟩
    · cases h
theorem bounds_run (hR : Rel w0 κ st a w) {lo hi : Option Operand} {l h : Int} {isS : Bool} {len cap : Nat} (h1 : lowOf st lo = some l) (h2 : highOf st len hi = some h) (hc : 0 ≤ l ∧ l ≤ h ∧ h ≤ len) (hcap : len ≤ cap) (w' : World) :
    (Instr.sliceBounds isS len cap (lo.map a.eval) (hi.map a.eval) none).run P w' = .ok (l.toNat, h.toNat, cap) w' := by
  obtain ⟨c1, c2, c3⟩ := hc
  have e1 : (l.toNat : Int) = l := Int.toNat_of_nonneg c1
  have e2 : (h.toNat : Int) = h := Int.toNat_of_nonneg (by omega)
  have c4 : h ≤ (cap : Int) := by omega
  rcases lowOf_spec hR h1 with ⟨rfl, rfl⟩ | ⟨k, hk⟩ <;> rcases highOf_spec hR h2 with ⟨rfl, rfl⟩ | ⟨k', hk'⟩
  · simp [Instr.sliceBounds]
  · rw [hk']; simp [Instr.sliceBounds, run_sliceBound, *, (by omega : 0 ≤ h)]
  · rw [hk]; simp [Instr.sliceBounds, run_sliceBound, *]
  · rw [hk, hk']; simp [Instr.sliceBounds, run_sliceBound, *, (by omega : 0 ≤ h)]
end
end R
end Go.Proofs.YtldnfdghkdibmaaGreatDoor

/-
  Keys of maps: when two are equal, where a map holds one.
-/
set_option linter.unusedVariables false
namespace Go.Proofs.YtldnfdghkdibmaaGreatDoor
open Go.RowKit
namespace Mp
variable {α β : Type}
/-- where a map holds a key -/
def idx (eq : α → α → Bool) (k : α) : List (α × β) → Nat → Option (Nat × β)
  | [], _ => none
  | x :: r, i => if eq k x.1 then some (i, x.2) else idx eq k r (i + 1)
theorem idx_get (eq : α → α → Bool) (k : α) : ∀ (xs : List (α × β)) (i : Nat), (idx eq k xs i).map (·.2) = get eq k xs
  | [], i => rfl
  | x :: r, i => by
    unfold idx get
    split
    · rfl
    · exact idx_get eq k r (i + 1)
theorem idx_at (eq : α → α → Bool) (k : α) : ∀ (xs : List (α × β)) (i j : Nat) (b : β), idx eq k xs i = some (j, b) → ∃ x, i ≤ j ∧ xs[j - i]? = some x ∧ eq k x.1 = true ∧ x.2 = b
  | [], i, j, b, h => by cases h
  | x :: r, i, j, b, h => by
    unfold idx at h
    split at h
    · rename_i he
      injection h with h; injection h with h1 h2
      subst h1
      exact ⟨x, Nat.le_refl _, by simp, he, h2⟩
    · obtain ⟨y, h1, h2, h3, h4⟩ := idx_at eq k r (i + 1) j b h
      refine ⟨y, by omega, ?_, h3, h4⟩
      rw [show j - i = (j - (i + 1)) + 1 by omega]
      exact h2
theorem put_none (eq : α → α → Bool) (k : α) (v : β) : ∀ (xs : List (α × β)) (i : Nat), idx eq k xs i = none → put eq k v xs = xs ++ [(k, v)]
  | [], i, h => rfl
  | x :: r, i, h => by
    unfold idx at h
    unfold put
    split at h
    · cases h
    · rename_i he
      rw [if_neg he, put_none eq k v r (i + 1) h]; rfl
theorem put_some (eq : α → α → Bool) (k : α) (v : β) : ∀ (xs : List (α × β)) (i j : Nat) (b : β), idx eq k xs i = some (j, b) → put eq k v xs = xs.set (j - i) (k, v)
  | [], i, j, b, h => by cases h
  | x :: r, i, j, b, h => by
    have hh := idx_at eq k (x :: r) i j b h
    unfold idx at h
    unfold put
    split at h
    · rename_i he
      injection h with h; injection h with h1 h2
      subst h1
      rw [if_pos he, Nat.sub_self]; rfl
    · rename_i he
      rw [if_neg he]
      obtain ⟨y, h1, _⟩ := idx_at eq k r (i + 1) j b h
      rw [put_some eq k v r (i + 1) j b h, show j - i = (j - (i + 1)) + 1 by omega]; rfl
end Mp
namespace R
def Kd.plain : Kd → Bool
  | .sl _ => false
  | _ => true
def Kds.plain : Kds → Bool
  | .one k => k.plain
  | .cons k ks => k.plain && ks.plain
def CK.plain : CK → Bool
  | .one k => k.plain
  | .agg ks => ks.plain
section
variable {w0 : Base} {w w' : World} {κ : Cx} {st : St} {a : Act} {P : Program}
theorem keyK_int {t : TypeId} {k : IntKind} (h : keyK P t (.int k) = true) : P.underlying t = some (.int k) := by
  have h : (match P.underlying t with
    | some (.int k') => IntKind.eqB k k'
    | _ => false) = true := h
  split at h
  · rename_i k' hu
    rw [hu, eqB_spec h]
  · cases h
theorem keyK_bool {t : TypeId} (h : keyK P t .bool = true) : P.underlying t = some .bool := by
  have h : (match P.underlying t with
    | some .bool => true
    | _ => false) = true := h
  split at h
  · assumption
  · cases h
theorem keyK_str {t : TypeId} (h : keyK P t .str = true) : P.underlying t = some .string := by
  have h : (match P.underlying t with
    | some .string => true
    | _ => false) = true := h
  split at h
  · assumption
  · cases h
theorem keyK_plain {t : TypeId} {k : Kd} (h : keyK P t k = true) : k.plain = true := by
  cases k with
  | sl fs => cases h
  | _ => rfl
theorem keyFlds_plain : ∀ (ks : Kds) (l : List Field) (o : Nat), keyFlds P l o ks = true → ks.plain = true
  | .one k, [], o, h => by cases h
  | .one k, [f], o, h => by
    simp only [keyFlds, Bool.and_eq_true] at h
    exact keyK_plain h.2.2
  | .one k, f :: g :: r, o, h => by simp [keyFlds] at h
  | .cons k ks, [], o, h => by simp [keyFlds] at h
  | .cons k ks, f :: r, o, h => by
    simp only [keyFlds, Bool.and_eq_true] at h
    show (k.plain && ks.plain) = true
    rw [keyK_plain h.2.2.1, keyFlds_plain ks r (o + 1) h.2.2.2]; rfl
theorem keyElems_plain {e : TypeId} : ∀ (ks : Kds) (n : Nat), keyElems P e n ks = true → ks.plain = true
  | .one k, 0, h => by cases h
  | .one k, 1, h => keyK_plain (t := e) h
  | .one k, n + 2, h => by cases h
  | .cons k ks, 0, h => by cases h
  | .cons k ks, 1, h => by
    have h : (keyK P e k && keyElems P e 0 ks) = true := h
    rw [Bool.and_eq_true] at h
    show (k.plain && ks.plain) = true
    rw [keyK_plain h.1, keyElems_plain ks 0 h.2]; rfl
  | .cons k ks, n + 2, h => by
    have h : (keyK P e k && keyElems P e (n + 1) ks) = true := h
    rw [Bool.and_eq_true] at h
    show (k.plain && ks.plain) = true
    rw [keyK_plain h.1, keyElems_plain ks (n + 1) h.2]; rfl
theorem keyElems_cons {e : TypeId} {n : Nat} {k : Kd} {ks : Kds} (h : keyElems P e (n + 1) (.cons k ks) = true) : keyK P e k = true ∧ keyElems P e n ks = true := by
  have h : (keyK P e k && keyElems P e n ks) = true := by cases n <;> exact h
  rwa [Bool.and_eq_true] at h
theorem keyOk_agg {t : TypeId} {ks : Kds} (h : keyOk P t (.agg ks) = true) : (∃ fs, P.underlying t = some (.struct fs) ∧ P.stoodInHeld t = false ∧ keyFlds P fs.toList 0 ks = true) ∨ (∃ n e, P.underlying t = some (.array n e) ∧ sizeB P e = some 1 ∧ keyElems P e n ks = true) := by
  have h : (match P.underlying t with
    | some (.struct fs) => !P.stoodInHeld t && keyFlds P fs.toList 0 ks
    | some (.array n e) => (match sizeB P e with | some s => s.beq 1 | none => false) && keyElems P e n ks
    | _ => false) = true := h
  split at h
  · rename_i fs hu
    rw [Bool.and_eq_true, Bool.not_eq_true'] at h
    exact .inl ⟨fs, hu, h.1, h.2⟩
  · rename_i n e hu
    rw [Bool.and_eq_true] at h
    obtain ⟨h1, h2⟩ := h
    split at h1
    · rename_i s hs
      rw [Nat.eq_of_beq_eq_true h1] at hs
      exact .inr ⟨n, e, hu, hs, h2⟩
    · cases h1
  · cases h
theorem keyOk_plain {t : TypeId} {x : CK} (h : keyOk P t x = true) : x.plain = true := by
  cases x with
  | one k => exact keyK_plain (t := t) h
  | agg ks =>
    rcases keyOk_agg h with ⟨fs, _, _, h⟩ | ⟨n, e, _, _, h⟩
    · exact keyFlds_plain ks _ _ h
    · exact keyElems_plain ks _ h
theorem kd_value {k : Kd} (h : k.plain = true) {p : k.Pay} {v : Value} (hr : Cell.Rep κ w (.val k p) v) : v = k.kv p := by
  cases k with
  | sl fs => cases h
  | _ => exact hr
theorem kds_value : ∀ (ks : Kds) (p : ks.Pay) (vs : List Value), ks.plain = true → CellsRep κ w (ks.cells p) vs.toArray → vs = ks.kvs p
  | .one k, p, vs, h, hr => by
    have hl : vs.length = 1 := hr.1
    obtain ⟨v, rfl⟩ := List.length_eq_one_iff.1 hl
    obtain ⟨u, hu, hx⟩ := hr.2.1 0 _ rfl
    have hu : some v = some u := hu
    injection hu with hu; subst hu
    have hx : Cell.Rep κ w (.val k p) v := hx
    rw [kd_value h hx]; rfl
  | .cons k ks, p, vs, h, hr => by
    have h : (k.plain && ks.plain) = true := h
    rw [Bool.and_eq_true] at h
    cases vs with
    | nil => have := hr.1; simp [Kds.cells] at this
    | cons v vs =>
      have hr' : CellsRep κ w (ks.cells p.2) vs.toArray := ⟨by have := hr.1; simpa [Kds.cells] using this, fun i c hc => by
        obtain ⟨y, hy, hx⟩ := hr.2.1 (i + 1) c hc
        exact ⟨y, by simpa using hy, hx⟩, fun i y hy => hr.2.2 (i + 1) y (by simpa using hy)⟩
      obtain ⟨u, hu, hx⟩ := hr.2.1 0 _ rfl
      injection hu with hu; subst hu
      have hx : Cell.Rep κ w (.val k p.1) v := hx
      rw [kds_value ks p.2 vs h.2 hr', kd_value h.1 hx]; rfl
theorem ck_value {x : CK} (h : x.plain = true) {p : x.Pay} {v : Value} (hr : (x.comp p).Rep κ w v) : v = x.kv p := by
  cases x with
  | one k => exact kd_value h hr
  | agg ks =>
    obtain ⟨vs, rfl, hr⟩ := hr
    show Value.agg vs = .agg (ks.kvs p).toArray
    rw [← kds_value ks p vs.toList h (by simpa using hr)]
theorem kd_kv_rep {k : Kd} (h : k.plain = true) {p : k.Pay} : Cell.Rep κ w (.val k p) (k.kv p) := by
  cases k with
  | sl fs => cases h
  | _ => rfl
theorem kv_solid {k : Kd} (h : k.plain = true) (p : k.Pay) : (k.kv p).oneCell' = true := by
  cases k with
  | sl fs => cases h
  | _ => rfl
theorem kvs_rep : ∀ (ks : Kds) (p : ks.Pay), ks.plain = true → CellsRep κ w (ks.cells p) (ks.kvs p).toArray
  | .one k, p, h => by
    refine ⟨rfl, fun i c hc => ?_, fun i v hv => ?_⟩
    · cases i with
      | zero => injection hc with hc; subst hc; exact ⟨_, rfl, kd_kv_rep h⟩
      | succ i => cases hc
    · cases i with
      | zero => injection hv with hv; subst hv; exact kv_solid h p
      | succ i => cases hv
  | .cons k ks, p, h => by
    have h : (k.plain && ks.plain) = true := h
    rw [Bool.and_eq_true] at h
    have ih := kvs_rep ks p.2 h.2
    refine ⟨?_, fun i c hc => ?_, fun i v hv => ?_⟩
    · have := ih.1
      show (k.kv p.1 :: ks.kvs p.2).toArray.size = (Kds.cells _ p.2).length + 1
      rw [← this]; simp
    · cases i with
      | zero => injection hc with hc; subst hc; exact ⟨_, rfl, kd_kv_rep h.1⟩
      | succ i =>
        obtain ⟨y, hy, hr⟩ := ih.2.1 i c hc
        have hy : (ks.kvs p.2)[i]? = some y := by simpa using hy
        refine ⟨y, ?_, hr⟩
        show (k.kv p.1 :: ks.kvs p.2).toArray[i + 1]? = some y
        simpa using hy
    · have hv : (k.kv p.1 :: ks.kvs p.2).toArray[i]? = some v := hv
      cases i with
      | zero => injection hv with hv; subst hv; exact kv_solid h.1 p.1
      | succ i => exact ih.2.2 i v (by simpa using hv)
theorem ck_rep {x : CK} (h : x.plain = true) {p : x.Pay} : (x.comp p).Rep κ w (x.kv p) := by
  cases x with
  | one k => exact kd_kv_rep h
  | agg ks => exact ⟨_, rfl, kvs_rep ks p h⟩
theorem kd_eq {k : Kd} {p q : k.Pay} (h : k.eqB p q = true) : p = q := by
  cases k with
  | sl fs => cases h
  | int k => exact beq_iff_eq.1 h
  | bool => exact beq_iff_eq.1 h
  | str => exact beq_iff_eq.1 h
theorem kds_eq : ∀ (ks : Kds) (p q : ks.Pay), ks.eqB p q = true → p = q
  | .one k, p, q, h => kd_eq h
  | .cons k ks, p, q, h => by
    have h : (k.eqB p.1 q.1 && ks.eqB p.2 q.2) = true := h
    rw [Bool.and_eq_true] at h
    exact Prod.ext (kd_eq h.1) (kds_eq ks _ _ h.2)
theorem ck_eq {x : CK} {p q : x.Pay} (h : x.eqB p q = true) : p = q := by
  cases x with
  | one k => exact kd_eq h
  | agg ks => exact kds_eq ks p q h
theorem kd_equal {t : TypeId} {k : Kd} (h : keyK P t k = true) (p q : k.Pay) (d : Nat) (w : World) : (Op.equalIn (d + 1) t (k.kv p) (k.kv q)).run P w = .ok (k.eqB p q) w := by
  cases k with
  | sl fs => cases h
  | int k => exact run_equalIn_int w d t k k p q (keyK_int h)
  | bool => exact run_equalIn_bool' w d t p q (keyK_bool h)
  | str =>
    show (Op.equalIn (d + 1) t (.string (bs p)) (.string (bs q))).run P w = _
    rw [run_equalIn_string w d t _ _ (keyK_str h), bs_toList, bs_toList]
theorem kd_check {t : TypeId} {k : Kd} (h : keyK P t k = true) (p : k.Pay) (em : Bool) (d : Nat) (w : World) : (Instr.checkKey em (d + 1) t (k.kv p)).run P w = .ok () w := by
  cases k with
  | sl fs => cases h
  | int k => simp [Instr.checkKey, run_underlying (keyK_int h), Kd.kv]
  | bool => simp [Instr.checkKey, run_underlying (keyK_bool h), Kd.kv]
  | str => simp [Instr.checkKey, run_underlying (keyK_str h), Kd.kv]
theorem keyK_agg {t : TypeId} {k : Kd} (h : keyK P t k = true) : isAggB P t = some false := by
  unfold isAggB
  cases k with
  | sl fs => cases h
  | int k => rw [keyK_int h]
  | bool => rw [keyK_bool h]
  | str => rw [keyK_str h]
theorem run_part_key {t : TypeId} {k : Kd} (h : keyK P t k = true) {vs : Array Value} {o : Nat} {v : Value} (hv : vs[o]? = some v) (w : World) : (Go.part t vs o).run P w = .ok v w := by
  simp [Go.part, isAggB_run (keyK_agg h), hv]
theorem flds_equal (d : Nat) (w : World) : ∀ (ks : Kds) (l : List Field) (o : Nat) (p q : ks.Pay) (xs ys : Array Value), keyFlds P l o ks = true → (∀ (i : Nat) v, (ks.kvs p)[i]? = some v → xs[o + i]? = some v) → (∀ (i : Nat) v, (ks.kvs q)[i]? = some v → ys[o + i]? = some v) →
    (Op.eqFields (d + 1) xs ys l).run P w = .ok (ks.eqB p q) w
  | .one k, [], o, p, q, xs, ys, h, hx, hy => by cases h
  | .one k, [f], o, p, q, xs, ys, h, hx, hy => by
    simp only [keyFlds, Bool.and_eq_true] at h
    have hn : f.name ≠ "_" := by simpa using h.2.1
    have ho : f.offset = o := Nat.eq_of_beq_eq_true h.1
    have h1 := run_part_key h.2.2 (hx 0 _ rfl) w
    have h2 := run_part_key h.2.2 (hy 0 _ rfl) w
    rw [Nat.add_zero, ← ho] at h1 h2
    have h3 := kd_equal h.2.2 p q d w
    unfold Op.eqFields
    rw [if_pos hn]
    simp only [Sem.run_bind, h1, h2, Result.andThen_ok, h3]
    show _ = Result.ok (k.eqB p q) w
    cases k.eqB p q <;> rfl
  | .one k, f :: g :: r, o, p, q, xs, ys, h, hx, hy => by simp [keyFlds] at h
  | .cons k ks, [], o, p, q, xs, ys, h, hx, hy => by simp [keyFlds] at h
  | .cons k ks, f :: r, o, p, q, xs, ys, h, hx, hy => by
    simp only [keyFlds, Bool.and_eq_true] at h
    have hn : f.name ≠ "_" := by simpa using h.2.1
    have ho : f.offset = o := Nat.eq_of_beq_eq_true h.1
    have h1 := run_part_key h.2.2.1 (hx 0 _ rfl) w
    have h2 := run_part_key h.2.2.1 (hy 0 _ rfl) w
    rw [Nat.add_zero, ← ho] at h1 h2
    have h3 := kd_equal h.2.2.1 p.1 q.1 d w
    have ih := flds_equal d w ks r (o + 1) p.2 q.2 xs ys h.2.2.2 (fun i v hv => by rw [Nat.add_assoc, Nat.add_comm 1]; exact hx (i + 1) v hv) (fun i v hv => by rw [Nat.add_assoc, Nat.add_comm 1]; exact hy (i + 1) v hv)
    unfold Op.eqFields
    rw [if_pos hn]
    simp only [Sem.run_bind, h1, h2, Result.andThen_ok, h3]
    show _ = Result.ok (k.eqB p.1 q.1 && ks.eqB p.2 q.2) w
    cases k.eqB p.1 q.1
    · rfl
    · simpa using ih
theorem items_equal {e : TypeId} (d : Nat) (w : World) : ∀ (ks : Kds) (n o : Nat) (p q : ks.Pay) (xs ys : Array Value), keyElems P e n ks = true → (∀ (i : Nat) v, (ks.kvs p)[i]? = some v → xs[o + i]? = some v) → (∀ (i : Nat) v, (ks.kvs q)[i]? = some v → ys[o + i]? = some v) →
    (Op.eqItems (d + 1) e 1 xs ys (List.range' o n)).run P w = .ok (ks.eqB p q) w
  | .one k, 0, o, p, q, xs, ys, h, hx, hy => by cases h
  | .one k, 1, o, p, q, xs, ys, h, hx, hy => by
    have h : keyK P e k = true := h
    have h1 := run_part_key h (hx 0 _ rfl) w
    have h2 := run_part_key h (hy 0 _ rfl) w
    rw [Nat.add_zero, ← Nat.mul_one o] at h1 h2
    have h3 := kd_equal h p q d w
    simp only [List.range'_succ, List.range'_zero, Op.eqItems, Sem.run_bind, h1, h2, Result.andThen_ok, h3]
    show _ = Result.ok (k.eqB p q) w
    cases k.eqB p q <;> rfl
  | .one k, n + 2, o, p, q, xs, ys, h, hx, hy => by cases h
  | .cons k ks, 0, o, p, q, xs, ys, h, hx, hy => by cases h
  | .cons k ks, n + 1, o, p, q, xs, ys, h, hx, hy => by
    have h := keyElems_cons h
    have h1 := run_part_key h.1 (hx 0 _ rfl) w
    have h2 := run_part_key h.1 (hy 0 _ rfl) w
    rw [Nat.add_zero, ← Nat.mul_one o] at h1 h2
    have h3 := kd_equal h.1 p.1 q.1 d w
    have ih := items_equal d w ks n (o + 1) p.2 q.2 xs ys h.2 (fun i v hv => by rw [Nat.add_assoc, Nat.add_comm 1]; exact hx (i + 1) v hv) (fun i v hv => by rw [Nat.add_assoc, Nat.add_comm 1]; exact hy (i + 1) v hv)
    simp only [List.range'_succ, Op.eqItems, Sem.run_bind, h1, h2, Result.andThen_ok, h3]
    show _ = Result.ok (k.eqB p.1 q.1 && ks.eqB p.2 q.2) w
    cases k.eqB p.1 q.1
    · rfl
    · simpa using ih
theorem key_equal {t : TypeId} {x : CK} (h : keyOk P t x = true) (p q : x.Pay) (w : World) : (Op.equal t (x.kv p) (x.kv q)).run P w = .ok (x.eqB p q) w := by
  cases x with
  | one k => exact kd_equal h p q 9999 w
  | agg ks =>
    rcases keyOk_agg h with ⟨fs, hu, hs, h⟩ | ⟨n, e, hu, hs, h⟩
    · have hf : P.fieldsOf t = fs := by unfold Program.fieldsOf; rw [hu]
      show (Op.equalIn (9999 + 1) t (.agg _) (.agg _)).run P w = _
      rw [run_equalIn_struct w 9999 t _ _ (by rw [hf]; exact hu) hs, hf]
      exact flds_equal 9998 w ks fs.toList 0 p q _ _ h (fun i v hv => by simpa using hv) (fun i v hv => by simpa using hv)
    · obtain ⟨i, hi, hsz⟩ : ∃ i, P.info? e = some i ∧ i.size = 1 := by
        unfold sizeB at hs
        cases hi : P.info? e with
        | none => rw [hi] at hs; cases hs
        | some i => rw [hi] at hs; injection hs with hs; exact ⟨i, rfl, hs⟩
      have hc : P.cellsOf e = 1 := by unfold Program.cellsOf; rw [hi]; exact hsz
      show (Op.equalIn (9999 + 1) t (.agg _) (.agg _)).run P w = _
      rw [run_equalIn_array w 9999 _ _ hu hi, hc, List.range_eq_range']
      exact items_equal 9998 w ks n 0 p q _ _ h (fun i v hv => by simpa using hv) (fun i v hv => by simpa using hv)
theorem flds_check (em : Bool) (d : Nat) (w : World) : ∀ (ks : Kds) (l : List Field) (o : Nat) (p : ks.Pay) (xs : Array Value), keyFlds P l o ks = true → (∀ (i : Nat) v, (ks.kvs p)[i]? = some v → xs[o + i]? = some v) →
    (forIn l PUnit.unit fun f _ => (if f.name ≠ "_" then do (Instr.checkKey em (d + 1) f.type (← Go.part f.type xs f.offset)); pure (ForInStep.yield PUnit.unit) else pure (ForInStep.yield PUnit.unit) : Sem (ForInStep PUnit)) : Sem PUnit).run P w = .ok PUnit.unit w
  | .one k, [], o, p, xs, h, hx => by cases h
  | .one k, [f], o, p, xs, h, hx => by
    simp only [keyFlds, Bool.and_eq_true] at h
    have hn : f.name ≠ "_" := by simpa using h.2.1
    have ho : f.offset = o := Nat.eq_of_beq_eq_true h.1
    have h1 := run_part_key h.2.2 (hx 0 _ rfl) w
    rw [Nat.add_zero, ← ho] at h1
    have h3 := kd_check h.2.2 p em d w
    simp [hn, h1, h3, Sem.run_bind]
  | .one k, f :: g :: r, o, p, xs, h, hx => by simp [keyFlds] at h
  | .cons k ks, [], o, p, xs, h, hx => by simp [keyFlds] at h
  | .cons k ks, f :: r, o, p, xs, h, hx => by
    simp only [keyFlds, Bool.and_eq_true] at h
    have hn : f.name ≠ "_" := by simpa using h.2.1
    have ho : f.offset = o := Nat.eq_of_beq_eq_true h.1
    have h1 := run_part_key h.2.2.1 (hx 0 _ rfl) w
    rw [Nat.add_zero, ← ho] at h1
    have h3 := kd_check h.2.2.1 p.1 em d w
    have ih := flds_check em d w ks r (o + 1) p.2 xs h.2.2.2 (fun i v hv => by rw [Nat.add_assoc, Nat.add_comm 1]; exact hx (i + 1) v hv)
    rw [List.forIn_cons]
    simp only [hn, ne_eq, not_false_eq_true, if_true, Sem.run_bind, h1, h3, Result.andThen_ok, Sem.run_pure]
    exact ih
theorem items_check {e : TypeId} (em : Bool) (d : Nat) (w : World) (hs : sizeB P e = some 1) : ∀ (ks : Kds) (n o : Nat) (p : ks.Pay) (xs : Array Value), keyElems P e n ks = true → (∀ (i : Nat) v, (ks.kvs p)[i]? = some v → xs[o + i]? = some v) →
    (forIn (List.range' o n) PUnit.unit fun i _ => (do Instr.checkKey em (d + 1) e (← Go.part e xs (i * (← Go.sizeOf e))); pure (ForInStep.yield PUnit.unit) : Sem (ForInStep PUnit)) : Sem PUnit).run P w = .ok PUnit.unit w
  | .one k, 0, o, p, xs, h, hx => by cases h
  | .one k, 1, o, p, xs, h, hx => by
    have h : keyK P e k = true := h
    have h1 := run_part_key h (hx 0 _ rfl) w
    rw [Nat.add_zero] at h1
    have h3 := kd_check h p em d w
    simp [h1, h3, Sem.run_bind, sizeB_run hs]
  | .one k, n + 2, o, p, xs, h, hx => by cases h
  | .cons k ks, 0, o, p, xs, h, hx => by cases h
  | .cons k ks, n + 1, o, p, xs, h, hx => by
    have h := keyElems_cons h
    have h1 := run_part_key h.1 (hx 0 _ rfl) w
    rw [Nat.add_zero, ← Nat.mul_one o] at h1
    have h3 := kd_check h.1 p.1 em d w
    have ih := items_check em d w hs ks n (o + 1) p.2 xs h.2 (fun i v hv => by rw [Nat.add_assoc, Nat.add_comm 1]; exact hx (i + 1) v hv)
    rw [List.range'_succ, List.forIn_cons]
    simp only [Sem.run_bind, sizeB_run hs, h1, h3, Result.andThen_ok, Sem.run_pure]
    exact ih
theorem key_check {t : TypeId} {x : CK} (h : keyOk P t x = true) (p : x.Pay) (em : Bool) (w : World) : (Instr.checkKey em 10000 t (x.kv p)).run P w = .ok () w := by
  cases x with
  | one k => exact kd_check h p em 9999 w
  | agg ks =>
    rcases keyOk_agg h with ⟨fs, hu, hs, h⟩ | ⟨n, e, hu, hs, h⟩
    · have := flds_check em 9998 w ks fs.toList 0 p (ks.kvs p).toArray h (fun i v hv => by simpa using hv)
      show (Instr.checkKey em (9999 + 1) t (.agg _)).run P w = _
      unfold Instr.checkKey
      simp only [Sem.run_bind, run_underlying hu, Result.andThen_ok]
      rw [← Array.forIn_toList]
      have e : ∀ (s : Sem PUnit), s.run P w = .ok PUnit.unit w → ((s.run P w).andThen fun a w' => Result.ok () w') = .ok () w := fun s h => by rw [h]; rfl
      exact e _ (by simpa [CK.kv] using this)
    · have := items_check em 9998 w hs ks n 0 p (ks.kvs p).toArray h (fun i v hv => by simpa using hv)
      show (Instr.checkKey em (9999 + 1) t (.agg _)).run P w = _
      unfold Instr.checkKey
      simp only [Sem.run_bind, run_underlying hu, Result.andThen_ok]
      simp only [Std.Legacy.Range.forIn_eq_forIn_range', Std.Legacy.Range.size, Nat.sub_zero, Nat.add_one_sub_one, Nat.div_one]
      have e : ∀ (s : Sem PUnit), s.run P w = .ok PUnit.unit w → ((s.run P w).andThen fun a w' => Result.ok () w') = .ok () w := fun s h => by rw [h]; rfl
      exact e _ (by simpa [CK.kv] using this)
theorem kd_same {k : Kd} (h : k.plain = true) (p : k.Pay) (n : Nat) : Instr.sameBits n (k.kv p) (k.kv p) = true := by
  cases k with
  | sl fs => cases h
  | int k => cases n <;> simp [Kd.kv, Instr.sameBits]
  | bool => cases n <;> simp [Kd.kv, Instr.sameBits]
  | str => cases n <;> simp [Kd.kv, Instr.sameBits, MapKept.bytes_beq]
theorem kds_same : ∀ (ks : Kds) (p : ks.Pay) (n : Nat), ks.plain = true → ∀ v ∈ ks.kvs p, Instr.sameBits n v v = true
  | .one k, p, n, h, v, hv => by
    obtain rfl := List.mem_singleton.1 hv
    exact kd_same h p n
  | .cons k ks, p, n, h, v, hv => by
    have h : (k.plain && ks.plain) = true := h
    rw [Bool.and_eq_true] at h
    rcases List.mem_cons.1 hv with rfl | hv
    · exact kd_same h.1 p.1 n
    · exact kds_same ks p.2 n h.2 v hv
theorem key_stays {x : CK} (h : x.plain = true) (p : x.Pay) (w : World) : (Instr.keyThatStays (x.kv p) (x.kv p)).run P w = .ok (x.kv p) w := by
  have : Instr.sameBits 10000 (x.kv p) (x.kv p) = true := by
    cases x with
    | one k => exact kd_same h p _
    | agg ks =>
      show Instr.sameBits (9999 + 1) (.agg _) (.agg _) = true
      simp only [Instr.sameBits, beq_self_eq_true, Bool.true_and, List.all_eq_true]
      intro y hy
      have e := List.of_mem_zip hy
      have : ∀ (l : List Value) y, y ∈ l.zip l → y.1 = y.2 := by
        intro l
        induction l with
        | nil => intro y hy; cases hy
        | cons a l ih =>
          intro y hy
          rcases List.mem_cons.1 hy with rfl | hy
          · rfl
          · exact ih y hy
      obtain ⟨y1, y2⟩ := y
      have e2 : y1 = y2 := this _ _ hy
      subst e2
      exact kds_same ks p 9999 h _ (by simpa using e.1)
  simp [Instr.keyThatStays, this]
/-- a map's entries have these keys -/
def KeysAt (x : CK) {β : Type} (es : List MapEntry) (xs : List (x.Pay × β)) : Prop := es.length = xs.length ∧ ∀ (i : Nat) y, xs[i]? = some y → ∃ e, es[i]? = some e ∧ e.key = x.kv y.1
theorem KeysAt.tail {x : CK} {β : Type} {e : MapEntry} {es : List MapEntry} {y : x.Pay × β} {xs : List (x.Pay × β)} (h : KeysAt x (e :: es) (y :: xs)) : e.key = x.kv y.1 ∧ KeysAt x es xs := by
  refine ⟨?_, by have := h.1; simpa using this, fun i z hz => ?_⟩
  · obtain ⟨e', he, hk⟩ := h.2 0 y rfl
    injection he with he; subst he; exact hk
  · obtain ⟨e', he, hk⟩ := h.2 (i + 1) z hz
    exact ⟨e', by simpa using he, hk⟩
theorem sameNow_kv {k : Kd} {t : TypeId} {d : TypeDesc} (h : keyK P t k = true) (hu : P.underlying t = some d) (p q : k.Pay) : Instr.sameNow d (k.kv p) (k.kv q) = some (k.eqB p q) := by
  cases k with
  | sl fs => cases h
  | int k =>
    have := keyK_int h
    rw [hu] at this; injection this with this; subst this
    show (if k = k then some ((p : Int) == q) else none) = _
    rw [if_pos rfl]
  | bool =>
    have := keyK_bool h
    rw [hu] at this; injection this with this; subst this
    rfl
  | str =>
    have := keyK_str h
    rw [hu] at this; injection this with this; subst this
    show some (bs p == bs q) = some ((p : List UInt8) == q)
    congr 1
    rw [Bool.eq_iff_iff, MapKept.bytes_beq, beq_iff_eq, bs_inj]
theorem findNow_kv {k : Kd} {β : Type} {t : TypeId} {d : TypeDesc} (h : keyK P t k = true) (hu : P.underlying t = some d) (p : k.Pay) : ∀ (es : List MapEntry) (xs : List (k.Pay × β)) (i : Nat), KeysAt (.one k) es xs →
    Instr.findNow d (k.kv p) es i = some ((Mp.idx k.eqB p xs i).bind fun r => (es[r.1 - i]?).map fun e => (r.1, e.val))
  | [], [], i, hk => rfl
  | [], y :: xs, i, hk => by have := hk.1; simp at this
  | e :: es, [], i, hk => by have := hk.1; simp at this
  | e :: es, y :: xs, i, hk => by
    obtain ⟨h1, h2⟩ := hk.tail
    have h1 : e.key = k.kv y.1 := h1
    have ih := findNow_kv h hu p es xs (i + 1) h2
    unfold Instr.findNow
    rw [h1, sameNow_kv h hu]
    unfold Mp.idx
    cases k.eqB p y.1
    · simp only [Bool.false_eq_true, if_false]
      rw [ih]
      congr 1
      cases hj : Mp.idx k.eqB p xs (i + 1) with
      | none => rfl
      | some r =>
        obtain ⟨z, hle, _⟩ := Mp.idx_at k.eqB p xs (i + 1) r.1 r.2 hj
        simp only [Option.bind_some]
        rw [show r.1 - i = (r.1 - (i + 1)) + 1 by omega, List.getElem?_cons_succ]
    · simp
theorem findAsking_kv {x : CK} {β : Type} {t : TypeId} (h : keyOk P t x = true) (p : x.Pay) (w : World) : ∀ (es : List MapEntry) (xs : List (x.Pay × β)) (i : Nat), KeysAt x es xs →
    (Instr.findAsking t (x.kv p) es i).run P w = .ok ((Mp.idx x.eqB p xs i).bind fun r => (es[r.1 - i]?).map fun e => (r.1, e.val)) w
  | [], [], i, hk => rfl
  | [], y :: xs, i, hk => by have := hk.1; simp at this
  | e :: es, [], i, hk => by have := hk.1; simp at this
  | e :: es, y :: xs, i, hk => by
    obtain ⟨h1, h2⟩ := hk.tail
    have ih := findAsking_kv h p w es xs (i + 1) h2
    unfold Instr.findAsking
    rw [Sem.run_bind, h1, key_equal h, Result.andThen_ok]
    unfold Mp.idx
    cases x.eqB p y.1
    · simp only [Bool.false_eq_true, if_false]
      rw [ih]
      congr 1
      cases hj : Mp.idx x.eqB p xs (i + 1) with
      | none => rfl
      | some r =>
        obtain ⟨z, hle, _⟩ := Mp.idx_at x.eqB p xs (i + 1) r.1 r.2 hj
        simp only [Option.bind_some]
        rw [show r.1 - i = (r.1 - (i + 1)) + 1 by omega, List.getElem?_cons_succ]
    · simp
/-- where a map holds a key, in the machine -/
theorem run_findKey_kv {x : CK} {β : Type} {t : TypeId} (h : keyOk P t x = true) (p : x.Pay) (w : World) (es : List MapEntry) (xs : List (x.Pay × β)) (hk : KeysAt x es xs) :
    (Instr.findKey t (x.kv p) es).run P w = .ok ((Mp.idx x.eqB p xs 0).bind fun r => (es[r.1]?).map fun e => (r.1, e.val)) w := by
  cases x with
  | one k =>
    have h' : keyK P t k = true := h
    have hd : ∃ d, P.underlying t = some d := by
      cases k with
      | sl fs => cases h'
      | int k => exact ⟨_, keyK_int h'⟩
      | bool => exact ⟨_, keyK_bool h'⟩
      | str => exact ⟨_, keyK_str h'⟩
    obtain ⟨d, hu⟩ := hd
    exact MapKept.run_findKey hu (findNow_kv h' hu p es xs 0 hk)
  | agg ks =>
    rw [run_findKey_eq]
    · exact findAsking_kv h p w es xs 0 hk
    · rcases keyOk_agg h with ⟨fs, hu, _, _⟩ | ⟨n, e, hu, _, _⟩ <;> rw [hu]
theorem EntRep.keys {y : MRow} {es : Array MapEntry} {clock : Nat} (h : EntRep κ w y es clock) (hp : y.kk.plain = true) : KeysAt y.kk es.toList y.xs :=
  ⟨by rw [Array.length_toList]; exact h.size, fun i x hx => by
    obtain ⟨e, he, hk, _⟩ := h.at_ i x hx
    exact ⟨e, by simpa using he, ck_value hp hk⟩⟩
theorem takeCell_rep {k : Kd} {c : Cell} {p : k.Pay} {v : Value} (h : takeCell k c = some p) (hv : c.Rep κ w v) : Cell.Rep κ w (.val k p) v := by
  unfold takeCell at h
  split at h
  · rename_i k' q
    split at h
    · rename_i e _
      subst e
      injection h with h; subst h
      exact hv
    · cases h
  · split at h
    · rename_i fs
      injection h with h; subst h
      obtain rfl : v = .slice none 0 0 := hv
      exact ⟨none, 0, rfl, Nat.le_refl _, fun h => absurd h (Nat.lt_irrefl _)⟩
    · cases h
  · cases h
theorem takeCells_rep : ∀ (ks : Kds) (cs : List Cell) (p : ks.Pay) (vs : List Value), takeCells ks cs = some p → CellsRep κ w cs vs.toArray → CellsRep κ w (ks.cells p) vs.toArray
  | .one k, [], p, vs, h, hv => by simp [takeCells] at h
  | .one k, c :: c' :: r, p, vs, h, hv => by simp [takeCells] at h
  | .one k, [c], p, vs, h, hv => by
    have h : takeCell k c = some p := h
    refine ⟨hv.1, fun i c' hc => ?_, hv.2.2⟩
    cases i with
    | zero =>
      injection hc with hc; subst hc
      obtain ⟨u, hu, hr⟩ := hv.2.1 0 _ rfl
      exact ⟨u, hu, takeCell_rep h hr⟩
    | succ i => cases hc
  | .cons k ks, [], p, vs, h, hv => by simp [takeCells] at h
  | .cons k ks, c :: cs', p, vs, h, hv => by
    have h : (match takeCell k c, takeCells ks cs' with
      | some p, some q => some (p, q)
      | _, _ => none) = some p := h
    split at h
    · rename_i p1 p2 h1 h2
      injection h with h; subst h
      cases vs with
      | nil => have := hv.1; simp at this
      | cons v vs =>
        have hv' : CellsRep κ w cs' vs.toArray := ⟨by have := hv.1; simpa using this, fun i c hc => by
          obtain ⟨y, hy, hr⟩ := hv.2.1 (i + 1) c hc
          exact ⟨y, by simpa using hy, hr⟩, fun i y hy => hv.2.2 (i + 1) y (by simpa using hy)⟩
        have ih := takeCells_rep _ cs' p2 vs h2 hv'
        refine ⟨?_, fun i c' hc => ?_, hv.2.2⟩
        · have := ih.1
          show (v :: vs).toArray.size = (Kds.cells _ p2).length + 1
          rw [← this]; simp
        · cases i with
          | zero =>
            injection hc with hc; subst hc
            obtain ⟨u, hu, hr⟩ := hv.2.1 0 _ rfl
            exact ⟨u, hu, takeCell_rep h1 hr⟩
          | succ i =>
            obtain ⟨y, hy, hr⟩ := ih.2.1 i c' hc
            exact ⟨y, by simpa using hy, hr⟩
    · cases h
theorem takeComp_rep {x : CK} {c : Comp} {p : x.Pay} {v : Value} (h : takeComp x c = some p) (hv : c.Rep κ w v) : (x.comp p).Rep κ w v := by
  unfold takeComp at h
  split at h
  · exact takeCell_rep h hv
  · rename_i ks cs
    obtain ⟨vs, rfl, hv⟩ := hv
    exact ⟨vs, rfl, by simpa using takeCells_rep ks cs p vs.toList h (by simpa using hv)⟩
  · cases h
theorem zeroPay_sound {t : TypeId} {x : CK} {z : x.Pay} (h : zeroPay P t x = some z) : ∃ v, (∀ w', (zeroValue t).run P w' = .ok v w') ∧ (x.comp z).Rep κ w v := by
  unfold zeroPay at h
  split at h
  · rename_i i hi
    split at h
    · rename_i v hv
      split at h
      · rename_i c hc
        have hr := ofConst_rep κ w v
        rw [hc] at hr
        exact ⟨v, fun w' => by simp [zeroValue, typeInfo, hi, hv], takeComp_rep h hr⟩
      · cases h
    · cases h
  · cases h
theorem mapGot_sound {y : MRow} {es : Array MapEntry} {clock g : Nat} {t kt et : TypeId} (ht : P.underlying t = some (.map kt et)) (hE : EntRep κ w y es clock) (hg : w.heap[g]? = some (.map es clock)) {A : AV} {ok : Bool} {c : Prop} {v : AV} (h : mapGot P y kt et A ok = .ok c v) {x : Value} (hx : A.Rep κ w x) :
    ∃ u, v.Rep κ w u ∧ ∀ w', Below w.heap.size w w' → (Instr.lookup t (.map (some g)) x ok).run P w' = .ok u w' := by
  unfold mapGot at h
  split at h
  · rename_i c0
    split at h
    · rename_i k z h1 h2
      cases hk : keyOk P kt y.kk
      · rw [hk] at h; cases h
      · rw [hk] at h
        injection h with _ h; subst h
        have hp := keyOk_plain hk
        obtain rfl : x = y.kk.kv k := ck_value hp (takeComp_rep h1 hx)
        obtain ⟨zv, hz, hzr⟩ := zeroPay_sound (κ := κ) (w := w) h2
        have hlt : g < w.heap.size := (Array.getElem?_eq_some_iff.1 hg).1
        have hkeys := hE.keys hp
        -- what is found
        have key : ∀ (found : Option Value), (∀ w', (Instr.findKey kt (y.kk.kv k) es.toList).run P w' = .ok ((Mp.idx y.kk.eqB k y.xs 0).bind fun r => (es.toList[r.1]?).map fun e => (r.1, e.val)) w') →
            ((Mp.idx y.kk.eqB k y.xs 0).bind fun r => (es.toList[r.1]?).map fun e => e.val) = found → ∀ w', Below w.heap.size w w' →
            (Instr.lookup t (.map (some g)) (y.kk.kv k) ok).run P w' = .ok (if ok then .tuple #[found.getD zv, .bool found.isSome] else found.getD zv) w' := by
          intro found hf hfo w' hb
          have hg' : w'.heap[g]? = some (.map es clock) := (hb.block g hlt).trans hg
          have hf := hf w'
          simp only [Instr.lookup, Sem.run_bind, run_underlying ht, Result.andThen_ok, MapKept.run_getObj_map hg', Sem.run_pure, key_check hk, hf]
          cases hi : Mp.idx y.kk.eqB k y.xs 0 with
          | none =>
            rw [hi] at hfo
            simp only [Option.bind_none] at hfo ⊢
            subst hfo
            cases ok <;> simp [hz w']
          | some r =>
            obtain ⟨q, _, hq, _, _⟩ := Mp.idx_at _ _ _ _ _ _ hi
            rw [Nat.sub_zero] at hq
            obtain ⟨e, he, _, _⟩ := hE.at_ r.1 q hq
            have he' : es.toList[r.1]? = some e := by simpa using he
            rw [hi] at hfo
            simp only [Option.bind_some, he', Option.map_some] at hfo ⊢
            subst hfo
            cases ok <;> simp
        have hfound := key _ (fun w' => run_findKey_kv hk k w' es.toList y.xs hkeys) rfl
        have hval : (y.vk.comp ((Mp.get y.kk.eqB k y.xs).getD z)).Rep κ w (((Mp.idx y.kk.eqB k y.xs 0).bind fun r => (es.toList[r.1]?).map fun e => e.val).getD zv) ∧
            ((Mp.idx y.kk.eqB k y.xs 0).bind fun r => (es.toList[r.1]?).map fun e => e.val).isSome = (Mp.get y.kk.eqB k y.xs).isSome := by
          rw [← Mp.idx_get y.kk.eqB k y.xs 0]
          cases hi : Mp.idx y.kk.eqB k y.xs 0 with
          | none => exact ⟨hzr, rfl⟩
          | some r =>
            obtain ⟨q, _, hq, _, hq2⟩ := Mp.idx_at _ _ _ _ _ _ hi
            rw [Nat.sub_zero] at hq
            obtain ⟨e, he, _, hv⟩ := hE.at_ r.1 q hq
            have he' : es.toList[r.1]? = some e := by simpa using he
            have e1 : ((some r).bind fun r => (es.toList[r.1]?).map fun e => e.val) = some e.val := by rw [Option.bind_some, he']; rfl
            rw [e1]
            have hv' : (y.vk.comp r.2).Rep κ w e.val := by rw [← hq2]; exact hv
            exact ⟨hv', rfl⟩
        refine ⟨_, ?_, hfound⟩
        cases ok
        · exact hval.1
        · refine ⟨_, rfl, rfl, fun i c hc => ?_⟩
          rcases i with _ | _ | i
          · injection hc with hc; subst hc; exact ⟨_, rfl, hval.1⟩
          · injection hc with hc; subst hc
            exact ⟨_, rfl, congrArg Value.bool hval.2⟩
          · cases hc
    · cases h
  · cases h
theorem kd_kv_inj {k : Kd} (h : k.plain = true) {p q : k.Pay} (e : k.kv p = k.kv q) : p = q := by
  cases k with
  | sl fs => cases h
  | int k => injection e
  | bool => injection e
  | str => injection e with e; exact bs_inj.1 e
theorem kds_kv_inj : ∀ (ks : Kds) (p q : ks.Pay), ks.plain = true → ks.kvs p = ks.kvs q → p = q
  | .one k, p, q, h, e => by
    injection e with e _
    exact kd_kv_inj h e
  | .cons k ks, p, q, h, e => by
    have h : (k.plain && ks.plain) = true := h
    rw [Bool.and_eq_true] at h
    injection e with e1 e2
    exact Prod.ext (kd_kv_inj h.1 e1) (kds_kv_inj ks _ _ h.2 e2)
theorem ck_kv_inj {x : CK} (h : x.plain = true) {p q : x.Pay} (e : x.kv p = x.kv q) : p = q := by
  cases x with
  | one k => exact kd_kv_inj h e
  | agg ks =>
    injection e with e
    exact kds_kv_inj ks p q h (List.toArray_inj e)
theorem kd_eqB_self {k : Kd} (h : k.plain = true) (p : k.Pay) : k.eqB p p = true := by
  cases k with
  | sl fs => cases h
  | int k => exact beq_self_eq_true (α := Int) p
  | bool => exact beq_self_eq_true (α := Bool) p
  | str => exact beq_self_eq_true (α := List UInt8) p
theorem kds_eqB_self : ∀ (ks : Kds) (p : ks.Pay), ks.plain = true → ks.eqB p p = true
  | .one k, p, h => kd_eqB_self h p
  | .cons k ks, p, h => by
    have h : (k.plain && ks.plain) = true := h
    rw [Bool.and_eq_true] at h
    show (k.eqB p.1 p.1 && ks.eqB p.2 p.2) = true
    rw [kd_eqB_self h.1, kds_eqB_self ks p.2 h.2]; rfl
theorem ck_eqB_self {x : CK} (h : x.plain = true) (p : x.Pay) : x.eqB p p = true := by
  cases x with
  | one k => exact kd_eqB_self h p
  | agg ks => exact kds_eqB_self ks p h
theorem get_mem {α β : Type} (eq : α → α → Bool) (k : α) : ∀ (xs : List (α × β)) (v : β), Mp.get eq k xs = some v → ∃ (i : Nat) (x : α × β), xs[i]? = some x ∧ eq k x.1 = true ∧ x.2 = v
  | [], v, h => by cases h
  | x :: r, v, h => by
    unfold Mp.get at h
    split at h
    · rename_i he
      injection h with h
      exact ⟨0, x, rfl, he, h⟩
    · obtain ⟨i, y, h1, h2, h3⟩ := get_mem eq k r v h
      exact ⟨i + 1, y, h1, h2, h3⟩
theorem get_none {α β : Type} (eq : α → α → Bool) (k : α) : ∀ (xs : List (α × β)), Mp.get eq k xs = none → ∀ (i : Nat) (x : α × β), xs[i]? = some x → eq k x.1 = false
  | [], h, i, x, hx => by cases hx
  | y :: r, h, i, x, hx => by
    unfold Mp.get at h
    split at h
    · cases h
    · rename_i he
      cases i with
      | zero => injection hx with hx; subst hx; simpa using he
      | succ i => exact get_none eq k r h i x hx
theorem get_snoc_none {α β : Type} (eq : α → α → Bool) (k k' : α) (v : β) : ∀ (xs : List (α × β)), Mp.get eq k (xs ++ [(k', v)]) = none → Mp.get eq k xs = none ∧ eq k k' = false
  | [], h => by
    have h : (if eq k k' then some v else none) = none := h
    split at h
    · cases h
    · rename_i he; exact ⟨rfl, by simpa using he⟩
  | x :: r, h => by
    have h : (if eq k x.1 then some x.2 else Mp.get eq k (r ++ [(k', v)])) = none := h
    split at h
    · cases h
    · rename_i he
      obtain ⟨h1, h2⟩ := get_snoc_none eq k k' v r h
      exact ⟨by unfold Mp.get; rw [if_neg he]; exact h1, h2⟩
/-- the value of what the map of maps holds at a key -/
theorem NestRep.val {n0 : Nat} {maps : List (Nat × MRow)} {y : NRow} (h : NestRep n0 κ maps w y) (hp : y.kk.plain = true) (k : y.kk.Pay) :
    (∃ l g es clock, y.at_ k = some l ∧ κ.μ.inn (y.kk.kv k) = some g ∧ w.heap[g]? = some (.map es clock) ∧ EntRep κ w ⟨y.it, y.ik, y.iv, l⟩ es clock ∧ n0 ≤ g ∧ g ≠ κ.μ.ν ∧ (∀ m z, look? m maps = some z → κ.μ m ≠ g) ∧ ∃ (i : Nat) (x : y.kk.Pay × List (y.ik.Pay × y.iv.Pay)), y.xs[i]? = some x ∧ x.1 = k ∧ x.2 = l) ∨
    (y.at_ k = none ∧ κ.μ.inn (y.kk.kv k) = none) := by
  cases hk : y.at_ k with
  | none => exact .inr ⟨rfl, h.miss k hk⟩
  | some l =>
    obtain ⟨i, x, h1, h2, h3⟩ := get_mem _ _ _ _ hk
    obtain ⟨g, es, clock, q1, q2, q3, q4, q5, q6⟩ := h.inn i x h1
    have e := ck_eq h2
    refine .inl ⟨l, g, es, clock, rfl, by rw [e]; exact q1, q2, by rw [← h3]; exact q3, q4, q5, q6, i, x, h1, e.symm, h3⟩
theorem run_lookup_nest {n0 : Nat} {maps : List (Nat × MRow)} {y : NRow} {t kt et : TypeId} (hu : P.underlying t = some (.map kt et)) (hN : NestRep n0 κ maps w y) (hk : keyOk P kt y.kk = true) (hz : mapZero P et = true) (k : y.kk.Pay) (w' : World) (hb : Below w.heap.size w w') :
    (Instr.lookup t (.map (some κ.μ.ν)) (y.kk.kv k) false).run P w' = .ok (.map (κ.μ.inn (y.kk.kv k))) w' := by
  have hp := keyOk_plain hk
  obtain ⟨es, clock, h1, h2, h3, _⟩ := hN.out
  have hg : w'.heap[κ.μ.ν]? = some (.map es clock) := (hb.block _ (Array.getElem?_eq_some_iff.1 h1).1).trans h1
  have hkeys : KeysAt y.kk es.toList y.xs := ⟨by rw [Array.length_toList]; exact h2, fun i x hx => by
    obtain ⟨e, he, q1, _⟩ := h3 i x hx
    exact ⟨e, by rw [Array.getElem?_toList]; exact he, ck_value hp q1⟩⟩
  have hf := run_findKey_kv hk k w' es.toList y.xs hkeys
  obtain ⟨i, hi, hzz⟩ : ∃ i, P.info? et = some i ∧ i.zero = some (.map none) := by
    unfold mapZero at hz
    split at hz
    · rename_i i hi
      split at hz
      · rename_i hzz; exact ⟨i, hi, hzz⟩
      · cases hz
    · cases hz
  have hzv : (zeroValue et).run P w' = .ok (.map none) w' := by simp [zeroValue, typeInfo, hi, hzz]
  cases hx : Mp.idx y.kk.eqB k y.xs 0 with
  | none =>
    rw [hx] at hf
    have hmiss : y.at_ k = none := by
      have := Mp.idx_get y.kk.eqB k y.xs 0
      rw [hx] at this
      exact this.symm
    rw [hN.miss k hmiss]
    simp only [Instr.lookup, Sem.run_bind, run_underlying hu, Result.andThen_ok, MapKept.run_getObj_map hg, Sem.run_pure, key_check hk, hf, Option.bind_none, hzv]
    rfl
  | some r =>
    obtain ⟨q, _, hq, hqe, hq2⟩ := Mp.idx_at _ _ _ _ _ _ hx
    rw [Nat.sub_zero] at hq
    obtain ⟨e, he, _, he2⟩ := h3 r.1 q hq
    have he' : es.toList[r.1]? = some e := by rw [Array.getElem?_toList]; exact he
    rw [hx] at hf
    have hke := ck_eq hqe
    have e2 : κ.μ.inn (y.kk.kv k) = κ.μ.inn (y.kk.kv q.1) := by rw [hke]
    rw [e2, ← he2]
    simp only [Instr.lookup, Sem.run_bind, run_underlying hu, Result.andThen_ok, MapKept.run_getObj_map hg, Sem.run_pure, key_check hk, hf, Option.bind_some, he', Option.map_some]
    rfl
end
end R
end Go.Proofs.YtldnfdghkdibmaaGreatDoor

/-
  An operation that only reads yields what 'rop' says, in every later world.
-/
set_option linter.unusedVariables false
namespace Go.Proofs.YtldnfdghkdibmaaGreatDoor
open Go.RowKit
namespace R
section
variable {w0 : Base} {w w' : World} {κ : Cx} {st : St} {a : Act} {P : Program}

theorem ptrsOf_sound (hR : Rel w0 κ st a w) : ∀ (l : List Operand) (ps : List (Nat × Nat)), ptrsOf st l = some ps → l.map a.eval = ps.map κ.ptr
  | [], ps, h => by injection h with h; subst h; rfl
  | x :: r, ps, h => by
    have hx := hR.ev x
    have h : (match st.ev x with
      | .c (.one (.ptr b off)) => (ptrsOf st r).map ((b, off) :: ·)
      | _ => none) = some ps := h
    split at h
    · rename_i b off hp
      rw [hp] at hx
      have hx : a.eval x = κ.ptr (b, off) := hx
      cases hq : ptrsOf st r with
      | none => rw [hq] at h; cases h
      | some qs =>
        rw [hq] at h; injection h with h; subst h
        rw [List.map_cons, List.map_cons, hx, ptrsOf_sound hR r qs hq]
    · cases h
theorem nestOf (hR : Rel w0 κ st a w) {y : NRow} (hy : st.nest = some y) : NestRep w0.n0 κ st.maps w y := hR.ext.nest y hy
theorem nilGot_sound (hR : Rel w0 κ st a w) {op : BinOp} {t : TypeId} {x y : Operand} {b : Bool} (h : nilGot P t st op (st.ev x) (st.ev y) = some b) {w' : World} :
    (do eqGuard op t x y (a.eval x) (a.eval y); binOp op t (a.eval x) (a.eval y) : Sem Value).run P w' = .ok (.bool b) w' := by
  unfold nilGot at h
  have hx := hR.ev x
  have hy := hR.ev y
  split at h
  · rename_i kt et kk k hu h1 h2
    rw [h1] at hx
    rw [h2] at hy
    have heq : ∀ o : Option Nat, (Op.equal t (.map o) (.map none)).run P w' = .ok o.isNone w' := fun o => by
      have : ∀ d, (Op.equalIn (d + 1) t (.map o) (.map none)).run P w' = .ok o.isNone w' := fun d => by
        cases o <;> simp [Op.equalIn, run_underlying hu]
      exact this 9999
    have hx : a.eval x = .map (κ.μ.inn (kk.kv k)) := hx
    have hy : a.eval y = .map none := hy
    split at h
    · rename_i c hc
      have hin : (κ.μ.inn (kk.kv k)).isSome = c := by
        unfold St.innerHas at hc
        split at hc
        · rename_i z hz
          split at hc
          · rename_i e _
            subst e
            injection hc with hc
            have hN := nestOf hR hz
            rw [← hc]
            cases hk : z.at_ k with
            | none => rw [hN.miss k hk]; rfl
            | some l =>
              obtain ⟨i, q, q1, q2, _⟩ := get_mem _ _ _ _ hk
              obtain ⟨g, _, _, q3, _⟩ := hN.inn i q q1
              rw [ck_eq q2, q3]; rfl
          · cases hc
        · cases hc
      rw [hx, hy]
      subst hin
      cases op <;> first | (cases h) | skip
      all_goals cases hi : κ.μ.inn (kk.kv k) <;> simp [eqGuard, binOp, heq]
    · cases h
  · cases h
theorem valsOf_spec : ∀ (cs : List Cell) (z : (ks : Kds) × ks.Pay), valsOf cs = some z → cs.length = z.1.size ∧ ∀ (f : Nat) (y : (k : Kd) × k.Pay), z.1.fld z.2 f = some y → cs[f]? = some (.val y.1 y.2)
  | [], z, h => by cases h
  | [c], z, h => by
    cases c with
    | val k p =>
      injection h with h; subst h
      refine ⟨rfl, fun f y hy => ?_⟩
      cases f with
      | zero => injection hy with hy; subst hy; rfl
      | succ f => cases hy
    | _ => cases h
  | c :: d :: r, z, h => by
    cases c with
    | val k p =>
      have h : (match valsOf (d :: r) with | some x => some (⟨.cons k x.1, (p, x.2)⟩ : (ks : Kds) × ks.Pay) | none => none) = some z := h
      split at h
      · rename_i x hx
        injection h with h; subst h
        obtain ⟨h1, h2⟩ := valsOf_spec (d :: r) x hx
        refine ⟨by rw [List.length_cons, h1]; rfl, fun f y hy => ?_⟩
        cases f with
        | zero => injection hy with hy; subst hy; rfl
        | succ f => exact h2 f y hy
      · cases h
    | _ => cases h
theorem toNat_lt {n : Int} {m : Nat} (h0 : 0 ≤ n) (h1 : n < m) : n.toNat < m := by omega
theorem rop_sound (hR : Rel w0 κ st a w) {o : Oper} {c : Prop} {v : AV} (h : rop P st o.op = .ok c v) (hc : c) : Yields P κ w a o v := by
  unfold rop at h
  split at h
  · rename_i x ho
    injection h with h1 h2; subst h2
    exact ⟨_, hR.ev x, fun w' _ => by simp [execOp, ho]⟩
  · rename_i x ho
    injection h with h1 h2; subst h2
    exact ⟨_, hR.ev x, fun w' _ => by simp [execOp, ho]⟩
  · -- pick
    rename_i q x y ho
    split at h
    · rename_i b hq
      injection h with h1 h2; subst h2
      have hb := hR.ev q
      rw [hq] at hb
      have hb : a.eval q = .bool b := hb
      refine ⟨_, pickAV_sound (hR.ev x) (hR.ev y), fun w' _ => ?_⟩
      simp [execOp, ho, hb, asBool]
    · cases h
  · -- load
    rename_i t x ho
    have hx := hR.ev x
    split at h
    · rename_i b off hp
      rw [hp] at hx
      have hx : a.eval x = _ := hx
      split at h
      · rename_i cs hcs
        obtain ⟨vs, ty, hblk, hv, _, _⟩ := hR.box b cs hcs
        obtain ⟨u, hu, hw⟩ := loadVar_box h hblk hv
        refine yields_of (s := Instr.loadAt t (a.eval x)) (by simp only [execOp, ho]) ⟨u, hu, fun w' hb => ?_⟩
        rw [hx]
        exact hw w' hb
      · cases h
    · rename_i fs p f hp
      rw [hp] at hx
      obtain ⟨g, o', hx, hg, hs, hr⟩ := hx
      obtain ⟨u, hu, hw⟩ := loadVar_row h hg hr
      refine yields_of (s := Instr.loadAt t (a.eval x)) (by simp only [execOp, ho]) ⟨u, hu, fun w' hb => ?_⟩
      rw [hx]
      exact hw w' hb
    · rename_i r sz i f hp
      rw [hp] at hx
      obtain ⟨g, n, c', hv, hi, hx⟩ := hx
      split at h
      · rename_i y hy
        cases hz : sz.beq y.fs.size
        · rw [hz] at h; cases h
        · rw [hz] at h
          obtain rfl := Nat.eq_of_beq_eq_true hz
          obtain ⟨hg, hr⟩ := row_elem hR hy hv hi
          obtain ⟨u, hu, hw⟩ := loadVar_row h hg hr
          refine yields_of (s := Instr.loadAt t (a.eval x)) (by simp only [execOp, ho]) ⟨u, hu, fun w' hb => ?_⟩
          rw [hx]
          exact hw w' hb
      · cases h
    · cases h
  · -- nilCheck
    rename_i x ho
    have hx := hR.ev x
    split at h
    · rename_i b off hp
      rw [hp] at hx
      have hx : a.eval x = _ := hx
      injection h with h1 h2; subst h2
      exact ⟨a.eval x, hx, fun w' _ => by simp [execOp, ho, hx]⟩
    · rename_i fs p f hp
      rw [hp] at hx
      injection h with h1 h2; subst h2
      obtain ⟨g, o', hxe, hh⟩ := hx
      exact ⟨a.eval x, ⟨g, o', hxe, hh⟩, fun w' _ => by simp [execOp, ho, hxe]⟩
    · rename_i r sz i f hp
      rw [hp] at hx
      injection h with h1 h2; subst h2
      obtain ⟨g, n, c', hv, hi, hxe⟩ := hx
      exact ⟨a.eval x, ⟨g, n, c', hv, hi, hxe⟩, fun w' _ => by simp [execOp, ho, hxe]⟩
    · cases h
  · -- binOp
    rename_i op t x y ty ho
    cases hnil : nilGot P t st op (st.ev x) (st.ev y) with
    | some b =>
      rw [hnil] at h
      injection h with h1 h2; subst h2
      exact yields_of (s := (do eqGuard op t x y (a.eval x) (a.eval y); binOp op t (a.eval x) (a.eval y) : Sem Value)) (by simp only [execOp, ho]) ⟨_, rep_bool, fun w' _ => nilGot_sound hR hnil⟩
    | none =>
    rw [hnil] at h
    obtain ⟨u, hu, hw⟩ : ∃ u, v.Rep κ w u ∧ ∀ w', (do eqGuard op t x y (a.eval x) (a.eval y); binOp op t (a.eval x) (a.eval y) : Sem Value).run P w' = .ok u w' := by
      cases hab : areAggs (st.ev x) (st.ev y)
      · rw [hab] at h
        exact binGot_sound (P := P) (t := t) (by intro hb; split at hb <;> first | assumption | cases hb) h hc (hR.ev x) (hR.ev y) x y
      · rw [hab] at h
        exact aggGot_sound hab h (hR.ev x) (hR.ev y) x y
    exact yields_of (s := (do eqGuard op t x y (a.eval x) (a.eval y); binOp op t (a.eval x) (a.eval y) : Sem Value)) (by simp only [execOp, ho]) ⟨u, hu, fun w' _ => hw w'⟩
  · -- unOp
    rename_i op t x ho
    have hx := hR.ev x
    split at h
    · rename_i b hp
      rw [hp] at hx
      have hx : a.eval x = .bool b := hx
      injection h with h1 h2; subst h2
      exact yields_of (s := Op.unary .not (a.eval x)) (by simp only [execOp, ho]) ⟨_, rep_bool, fun w' _ => by rw [hx]; rfl⟩
    · rename_i n hp
      rw [hp] at hx
      have hx : a.eval x = .int .i64 n := hx
      injection h with h1 h2; subst h2; subst h1
      exact yields_of (s := Op.unary .neg (a.eval x)) (by simp only [execOp, ho]) ⟨_, rep_int, fun w' _ => by
        rw [hx]
        have := fits64_wrap hc
        simp [Op.unary, Op.intArith, this]⟩
    · cases h
  · -- convert
    rename_i src dst x ho
    have hx := hR.ev x
    split at h
    · rename_i d k k' n hs hd hp
      rw [hp] at hx
      have hx : a.eval x = .int k' n := hx
      injection h with h1 h2; subst h2
      exact yields_of (s := convert src dst (a.eval x)) (by simp only [execOp, ho]) ⟨_, rep_int, fun w' _ => by
        rw [hx]; simp [convert, run_underlying hs, run_underlying hd, Conv.intToInt]⟩
    · rename_i d s hs hd hp
      rw [hp] at hx
      have hx : a.eval x = .string (bs s) := hx
      injection h with h1 h2; subst h2
      exact yields_of (s := convert src dst (a.eval x)) (by simp only [execOp, ho]) ⟨_, rep_str, fun w' _ => by
        rw [hx]; simp [convert, run_underlying hs, run_underlying hd]⟩
    · cases h
  · -- fieldAddr
    rename_i s x f ho
    split at h
    · rename_i fields hs
      split at h
      · rename_i fd hf
        have hx := hR.ev x
        cases hsz : sizeB P fd.type with
        | none => rw [hsz] at h; cases h
        | some n =>
          rw [hsz] at h
          dsimp only at h
          cases hz : Nat.blt 0 n
          · rw [hz] at h; cases h
          rw [hz] at h
          have hn : n ≠ 0 := by rw [Nat.blt_eq] at hz; omega
          have fin : ∀ g o, a.eval x = .pointer (some ⟨g, o, none⟩) → ∀ w', (Instr.fieldAt s (a.eval x) f).run P w' = .ok (.pointer (some ⟨g, o + fd.offset, none⟩)) w' := fun g o he w' => by
            rw [he]
            have hpl : (fieldPlace ⟨g, o, none⟩ fd).run P w' = .ok ⟨g, o + fd.offset, none⟩ w' := by
              simp [fieldPlace, sizeB_run hsz, hn, add_plain2]
            simp [Instr.fieldAt, run_underlying hs, hf, Instr.sureAddr, hpl]
          dsimp only [cond_true] at h
          split at h
          · rename_i b off hp
            rw [hp] at hx
            injection h with h1 h2; subst h2
            exact yields_of (s := Instr.fieldAt s (a.eval x) f) (by simp only [execOp, ho]) ⟨_, rfl, fun w' _ => fin _ _ hx w'⟩
          · rename_i fs p g hp
            rw [hp] at hx
            injection h with h1 h2; subst h2
            obtain ⟨b, o', hxe, hh⟩ := hx
            refine yields_of (s := Instr.fieldAt s (a.eval x) f) (by simp only [execOp, ho]) ⟨_, ⟨b, o', rfl, hh⟩, fun w' _ => ?_⟩
            have := fin _ _ hxe w'
            rwa [Nat.add_assoc] at this
          · rename_i r sz i g hp
            rw [hp] at hx
            injection h with h1 h2; subst h2
            obtain ⟨b, n, c', hv, hi, hxe⟩ := hx
            refine yields_of (s := Instr.fieldAt s (a.eval x) f) (by simp only [execOp, ho]) ⟨_, ⟨b, n, c', hv, hi, rfl⟩, fun w' _ => ?_⟩
            have := fin _ _ hxe w'
            rwa [Nat.add_assoc] at this
          · cases h
      · cases h
    · cases h
  · -- field
    rename_i t x f ho
    have hx := hR.ev x
    split at h
    · rename_i fields cs hs hp
      rw [hp] at hx
      obtain ⟨vs, hxe, hv⟩ := hx
      split at h
      · rename_i fd hf
        obtain ⟨u, hu, hw⟩ := partOf_sound h hv
        exact yields_of (s := Instr.field t (a.eval x) f) (by simp only [execOp, ho]) ⟨u, hu, fun w' _ => by
          rw [hxe]; simp [Instr.field, run_underlying hs, hf, asAgg, hw]⟩
      · cases h
    · cases h
  · -- indexAddr
    rename_i t x i ho
    have hx := hR.ev x
    have hi := hR.ev i
    split at h
    · rename_i e fs xs k n hs hp hq
      rw [hp] at hx
      rw [hq] at hi
      have hi : a.eval i = .int k n := hi
      cases hz : (sizeB P e == some fs.size)
      · rw [hz] at h; cases h
      · rw [hz] at h
        have hz : sizeB P e = some fs.size := by simpa using hz
        injection h with h1 h2; subst h2; subst h1
        obtain ⟨c1, c2⟩ := hc
        obtain ⟨A, c, hxe, hcap, hrow⟩ := hx
        have hlt : n.toNat < (xs : List fs.Pay).length := toNat_lt c1 c2
        obtain ⟨g, off, rfl, hg, hsg, hrow⟩ := hrow (by omega)
        have hge : (xs : List fs.Pay)[n.toNat]? = some ((xs : List fs.Pay).getD n.toNat fs.dflt) := by
          rw [List.getD_eq_getElem?_getD, List.getElem?_eq_getElem hlt, Option.getD_some]
        refine yields_of (s := Instr.indexAt t (a.eval x) (a.eval i)) (by simp only [execOp, ho]) ⟨_, ⟨g, off + n.toNat * fs.size, rfl, hg, hsg, hrow _ _ hge⟩, fun w' _ => ?_⟩
        rw [hxe, hi]
        have hc2 : 0 ≤ n ∧ n < ((xs : List fs.Pay).length : Int) := ⟨c1, c2⟩
        simp [Instr.indexAt, run_underlying hs, asIntOf, hc2, sizeB_run hz, add_plain2]
    · rename_i e r k n hs hp hq
      rw [hp] at hx
      rw [hq] at hi
      have hi : a.eval i = .int k n := hi
      split at h
      · rename_i y hy
        cases hz : (sizeB P e == some y.fs.size)
        · rw [hz] at h; cases h
        · rw [hz] at h
          have hz : sizeB P e = some y.fs.size := by simpa using hz
          injection h with h1 h2; subst h2; subst h1
          obtain ⟨c1, c2⟩ := hc
          have hlt : n.toNat < y.xs.length := toNat_lt c1 c2
          obtain ⟨hxe, _⟩ := hx
          obtain ⟨cells, hown, _⟩ := hR.row r y hy
          obtain ⟨A, c', he⟩ := owns_slice hown
          have hA : ∃ g, A = some ⟨g, 0, none⟩ := by
            rcases hown.2 with ⟨_, h0⟩ | ⟨g, cap, cur, hv, _⟩
            · omega
            · rw [hv] at he; injection he with he; exact ⟨g, he.symm⟩
          obtain ⟨g, rfl⟩ := hA
          refine yields_of (s := Instr.indexAt t (a.eval x) (a.eval i)) (by simp only [execOp, ho]) ⟨_, ⟨g, y.xs.length, c', he, hlt, rfl⟩, fun w' _ => ?_⟩
          rw [hxe, hi, he]
          have hc2 : 0 ≤ n ∧ n < ((y.xs.length : Nat) : Int) := ⟨c1, c2⟩
          simp [Instr.indexAt, run_underlying hs, asIntOf, hc2, sizeB_run hz, add_plain2]
      · cases h
    · cases h
  · -- index
    rename_i t x i ho
    have hx := hR.ev x
    have hi := hR.ev i
    split at h
    · rename_i s k n hs hp hq
      rw [hp] at hx
      rw [hq] at hi
      have hi : a.eval i = .int k n := hi
      have hx : a.eval x = .string (bs s) := hx
      injection h with h1 h2; subst h2; subst h1
      obtain ⟨c1, c2⟩ := hc
      have hlt : n.toNat < (s : List UInt8).length := toNat_lt c1 c2
      refine yields_of (s := Instr.index t (a.eval x) (a.eval i)) (by simp only [execOp, ho]) ⟨_, rep_int, fun w' _ => ?_⟩
      rw [hx, hi, run_index_string w' t (bs s) k n hs]
      have hcc : 0 ≤ n ∧ n < ((bs s).size : Int) := ⟨c1, c2⟩
      rw [dif_pos hcc]
      have : (bs s)[n.toNat]'(by rw [bs_size]; exact hlt) = (s : List UInt8).getD n.toNat 0 := by
        rw [List.getD_eq_getElem?_getD, List.getElem?_eq_getElem hlt, Option.getD_some]
        rfl
      rw [this]
    · cases h
  · -- slice
    rename_i t x lo hi ho
    have hx := hR.ev x
    split at h
    · rename_i s l hs hp hl
      rw [hp] at hx
      have hx : a.eval x = .string (bs s) := hx
      split at h
      · rename_i hh hhi
        injection h with h1 h2; subst h2; subst h1
        refine yields_of (s := Instr.sliceAt t (a.eval x) (lo.map a.eval) (hi.map a.eval) (Option.map a.eval none)) (by simp only [execOp, ho]) ⟨_, rep_str, fun w' _ => ?_⟩
        rw [hx, run_sliceAt_string _ _ _ _ _ _ hs]
        have hb := bounds_run (P := P) hR (isS := false) (cap := (bs s).size) hl hhi hc (Nat.le_refl _) w'
        have e : ((bs s).extract l.toNat hh.toNat) = bs ((s.take hh.toNat).drop l.toNat) := by
          rw [extract_bs, bs_list, List.drop_take]
        simp only [Instr.slice, Sem.run_bind, run_underlying hs, Result.andThen_ok, Option.map_none, Option.isSome_none, Bool.false_eq_true, if_false, Sem.run_pure]
        rw [show (Instr.sliceBounds false (bs s).size (bs s).size (lo.map a.eval) (hi.map a.eval) none).run P w' = .ok (l.toNat, hh.toNat, (bs s).size) w' from hb]
        simp only [Result.andThen_ok]
        rw [e]
      · cases h
    · rename_i e fs xs l hs hp hl
      rw [hp] at hx
      split at h
      · rename_i hh hhi
        cases hz : (sizeB P e == some fs.size)
        · rw [hz] at h; cases h
        · rw [hz] at h
          have hz : sizeB P e = some fs.size := by simpa using hz
          injection h with h1 h2; subst h2; subst h1
          obtain ⟨A, c, hxe, hcap, hrow⟩ := hx
          have hb := fun w' => bounds_run (P := P) hR (isS := true) (cap := c) hl hhi hc hcap w'
          obtain ⟨c1, c2, c3⟩ := hc
          have hel : P.elem t = e := by unfold Program.elem; rw [hs]
          have hs' : P.underlying t = some (.slice (P.elem t)) := by rw [hel]; exact hs
          have hlen : (((xs : List fs.Pay).take hh.toNat).drop l.toNat).length = hh.toNat - l.toNat := by
            rw [List.length_drop, List.length_take, Nat.min_eq_left (by omega)]
          refine yields_of (s := Instr.sliceAt t (a.eval x) (lo.map a.eval) (hi.map a.eval) (Option.map a.eval none)) (by simp only [execOp, ho]) ⟨sliced A l.toNat hh.toNat c fs.size, ?_, fun w' _ => ?_⟩
          · refine ⟨_, c - l.toNat, by unfold sliced; rw [hlen], by rw [hlen]; omega, fun hpos => ?_⟩
            have hpos : 0 < (((xs : List fs.Pay).take hh.toNat).drop l.toNat).length := hpos
            rw [hlen] at hpos
            obtain ⟨g, off, hA, hg, hsg, hrow⟩ := hrow (by omega)
            refine ⟨g, off + l.toNat * fs.size, ?_, hg, hsg, fun i y hy => ?_⟩
            · rw [if_neg (by omega), hA, Option.map_some, add_plain2]
            · have hy : (((xs : List fs.Pay).take hh.toNat).drop l.toNat)[i]? = some y := hy
              rw [List.getElem?_drop, List.getElem?_take] at hy
              split at hy
              · have := hrow _ _ hy
                rw [Nat.add_mul] at this
                rwa [Nat.add_assoc]
              · cases hy
          · rw [hxe, run_sliceAt_slice w' t _ _ _ _ hs', Option.map_none, run_slice_any w' t A _ c hs', hb w', Result.andThen_ok, hel, sizeB_run hz, Result.andThen_ok]
      · cases h
    · cases h
  · -- extract
    rename_i x i ho
    have hx := hR.ev x
    split at h
    · rename_i vs hp
      rw [hp] at hx
      obtain ⟨us, hxe, hsz, hr⟩ := hx
      split at h
      · rename_i y hy
        injection h with h1 h2; subst h2
        obtain ⟨u, hu, hru⟩ := hr i y hy
        exact yields_of (s := Instr.extract (a.eval x) i) (by simp only [execOp, ho]) ⟨u, hru, fun w' _ => by rw [hxe]; simp [Instr.extract, hu]⟩
      · cases h
    · cases h
  · -- build
    rename_i t parts ho
    split at h
    · rename_i fields cs hs hz
      split at h
      · rename_i places hpl
        split at h
        · rename_i l hl
          injection h with h1 h2; subst h2
          obtain ⟨it, z, hit, hzz, hcs⟩ := zeroCells_sound (κ := κ) (w := w) hz
          obtain ⟨us, hfill, hus⟩ := buildParts_sound hR places (places.toArray[·]?) (fun i q hq => by simpa using hq) parts.toList cs l z.cells hl hcs
          refine yields_of (s := Instr.build t (parts.map fun (i, x) => (i, a.eval x))) (by simp only [execOp, ho]) ⟨.agg us, ⟨us, rfl, hus⟩, fun w' _ => ?_⟩
          refine run_build w' t _ us ?_
          unfold Program.built
          rw [hit, hs]
          unfold placesOf at hpl
          simp only [hzz, hpl]
          rw [← hfill]
          congr 1
          simp
        · cases h
      · cases h
    · cases h
  · -- len
    rename_i args argTypes ho
    split at h
    · rename_i x t hx ht
      have ha : args = #[x] := by cases args; simp_all
      have hT : argTypes = #[t] := by cases argTypes; simp_all
      subst ha; subst hT
      have he : execOp a.eval o = (do let x ← Builtin.len_ #[t] o.type #[a.eval x]; pure (Next.value x)) := by
        simp [execOp, ho, resolve, invoke, builtin]
      split at h
      · rename_i hu
        obtain ⟨u, hr, hw⟩ := lenGot_sound hR (ty := o.type) h (hR.ev x) hu (fun _ => rfl) (fun h => by cases h)
        exact yields_of he ⟨u, hr, fun w' _ => hw w'⟩
      · rename_i e hu
        obtain ⟨u, hr, hw⟩ := lenGot_sound hR (ty := o.type) h (hR.ev x) hu (fun h => by cases h) (fun _ => ⟨e, rfl⟩)
        exact yields_of he ⟨u, hr, fun w' _ => hw w'⟩
      · rename_i k e hu
        have hxe := hR.ev x
        split at h
        · rename_i hp
          rw [hp] at hxe
          have hxe : a.eval x = .map none := hxe
          injection h with h1 h2; subst h2
          exact yields_of he ⟨_, rep_int, fun w' _ => by rw [hxe]; simp [Builtin.len_, run_underlying hu, goInt]⟩
        · rename_i m hp
          rw [hp] at hxe
          have hxe : a.eval x = .map (some (κ.μ m)) := hxe
          split at h
          · rename_i y hy
            injection h with h1 h2; subst h2
            obtain ⟨es, clock, hg, hE, _⟩ := hR.ext.map m y hy
            refine yields_of he ⟨.int .i64 es.size, ?_, fun w' hb => ?_⟩
            · rw [hE.size]; exact rep_int
            · have hg' : w'.heap[κ.μ m]? = some (.map es clock) := (hb.block _ (Array.getElem?_eq_some_iff.1 hg).1).trans hg
              rw [hxe]; simp [Builtin.len_, run_underlying hu, MapKept.run_getObj_map hg', goInt]
          · cases h
        · rename_i kk q hp
          rw [hp] at hxe
          have hxe : a.eval x = .map (κ.μ.inn (kk.kv q)) := hxe
          split at h
          · rename_i n hn
            injection h with h1 h2; subst h2
            unfold St.innerLen at hn
            split at hn
            · rename_i z hz
              split at hn
              · rename_i ee _
                subst ee
                injection hn with hn
                subst hn
                have hN := nestOf hR hz
                cases hk : z.at_ q with
                | none =>
                  refine yields_of he ⟨_, rep_int, fun w' _ => ?_⟩
                  rw [hxe, hN.miss q hk]
                  simp [Builtin.len_, run_underlying hu, goInt]
                | some l =>
                  obtain ⟨i, x0, q1, q2, q3⟩ := get_mem _ _ _ _ hk
                  obtain ⟨g, es, clock, q4, hg, hE, _⟩ := hN.inn i x0 q1
                  refine yields_of he ⟨.int .i64 es.size, ?_, fun w' hb => ?_⟩
                  · rw [hE.size, show x0.2 = l from q3]; exact rep_int
                  · have hg' : w'.heap[g]? = some (.map es clock) := (hb.block _ (Array.getElem?_eq_some_iff.1 hg).1).trans hg
                    rw [hxe, ck_eq q2, q4]; simp [Builtin.len_, run_underlying hu, MapKept.run_getObj_map hg', goInt]
              · cases hn
            · cases hn
          · cases h
        · cases h
      · cases h
    · cases h
  · -- makeFunc
    rename_i f first captured ho
    split at h
    · rename_i ps qs h1 h2
      injection h with _ h; subst h
      have e1 := ptrsOf_sound hR _ _ h1
      have e2 := ptrsOf_sound hR _ _ h2
      refine yields_of (s := Instr.makeFunc (.func f) (first.map a.eval) (captured.map a.eval)) (by simp only [execOp, ho]) ⟨_, ?_, fun w' _ => rfl⟩
      show Value.func _ _ _ = .func _ (((ps ++ qs).take ps.length).map κ.ptr).toArray (((ps ++ qs).drop ps.length).map κ.ptr).toArray
      rw [List.take_left, List.drop_left, ← e1, ← e2, ← Array.toList_map, ← Array.toList_map, Array.toArray_toList, Array.toArray_toList]
    · cases h
  · -- lookup
    rename_i t x i ok ho
    split at h
    · cases h
    · rename_i kt et m hu hp
      have hxe := hR.ev x
      rw [hp] at hxe
      have hxe : a.eval x = .map (some (κ.μ m)) := hxe
      split at h
      · rename_i y hy
        cases hb : y.t.beq t
        · rw [hb] at h; cases h
        · rw [hb] at h
          obtain ⟨es, clock, hg, hE, _⟩ := hR.ext.map m y hy
          obtain ⟨u, hu2, hw⟩ := mapGot_sound hu hE hg h (hR.ev i)
          exact yields_of (s := Instr.lookup t (a.eval x) (a.eval i) ok) (by simp only [execOp, ho]) ⟨u, hu2, fun w' hb => by rw [hxe]; exact hw w' hb⟩
      · cases h
    · rename_i kt et hu hp
      have hxe := hR.ev x
      rw [hp] at hxe
      have hxe : a.eval x = .map (some κ.μ.ν) := hxe
      split at h
      · rename_i y c hy hc
        split at h
        · rename_i k hk
          cases hb : y.t.beq t && (keyOk P kt y.kk && (mapZero P et && !ok))
          · rw [hb] at h; cases h
          · rw [hb] at h
            injection h with h1 h2; subst h2
            simp only [Bool.and_eq_true, Bool.not_eq_true'] at hb
            obtain ⟨_, b2, b3, rfl⟩ := hb
            have hi := hR.ev i
            rw [hc] at hi
            have hie : a.eval i = y.kk.kv k := ck_value (keyOk_plain b2) (takeComp_rep hk hi)
            exact yields_of (s := Instr.lookup t (a.eval x) (a.eval i) false) (by simp only [execOp, ho]) ⟨.map (κ.μ.inn (y.kk.kv k)), rfl, fun w' hb => by
              rw [hxe, hie]; exact run_lookup_nest hu (nestOf hR hy) b2 b3 k w' hb⟩
        · cases h
      · cases h
    · cases h
  · -- entry
    rename_i x ho
    have hxe := hR.ev x
    split at h
    · rename_i i hp
      rw [hp] at hxe
      have hxe : a.eval x = .pointer (some ⟨κ.μ.θ i, 0, none⟩) := hxe
      split at h
      · rename_i z hz
        split at h
        · rename_i e hcur
          injection h with h1 h2; subst h2
          obtain ⟨_, hI⟩ := hR.ext.iter i z hz
          rcases hI with ⟨a', b', s', q1, q2⟩ | ⟨bm, es, clock, seen, c0, q1, q2, q3, q4, q5, q6, q7, q8⟩
          · rw [q2.2] at hcur; cases hcur
          · obtain ⟨me, s', r1, r2, r3, r4, r5⟩ := q8 e hcur
            subst r2; subst r3
            refine yields_of (s := Instr.entry (a.eval x)) (by simp only [execOp, ho]) ⟨.tuple #[me.key, me.val], ⟨_, rfl, rfl, fun j c hc => ?_⟩, fun w' hb => ?_⟩
            · rcases j with _ | _ | j
              · injection hc with hc; subst hc; exact ⟨_, rfl, r4⟩
              · injection hc with hc; subst hc; exact ⟨_, rfl, r5⟩
              · cases hc
            · rw [hxe]
              exact run_entry_at w' _ bm _ _ es _ me ((hb.block _ (Array.getElem?_eq_some_iff.1 q3).1).trans q3) ((hb.block _ (Array.getElem?_eq_some_iff.1 q2).1).trans q2) r1 q6
        · cases h
      · cases h
    · cases h
  · -- makeInterface
    rename_i t x ho
    split at h
    · rename_i fields cs hu hp
      have hxe := hR.ev x
      rw [hp] at hxe
      obtain ⟨us, hxe, hus⟩ := hxe
      split at h
      · rename_i z hz
        injection h with h1 h2; subst h2
        obtain ⟨e1, e2⟩ := valsOf_spec cs z hz
        exact yields_of (s := Instr.makeInterface t (a.eval x)) (by simp only [execOp, ho]) ⟨.iface t (.agg us), ⟨us.toList, rfl, by rw [Array.length_toList, hus.1]; exact e1, fun f y hy => by
          obtain ⟨u, h1, h2⟩ := hus.2.1 f _ (e2 f y hy)
          exact ⟨u, by rw [Array.getElem?_toList]; exact h1, h2⟩⟩, fun w' _ => by rw [hxe]; simp [Instr.makeInterface, run_underlying hu]⟩
      · cases h
    · cases h
  · cases h
end
end R
end Go.Proofs.YtldnfdghkdibmaaGreatDoor

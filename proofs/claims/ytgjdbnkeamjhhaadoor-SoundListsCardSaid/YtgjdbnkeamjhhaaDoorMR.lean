/-
  Several texts in one: R1, R2, R3, R4, R5, R6, R7, R8, R9, R9A, R10, R11, R12, R13, R14, R15, R16.
-/
import Derived.Test.YtgjdbnkeamjhhaaDoorWalkBase
import Derived.Test.YtgjdbnkeamjhhaaDoorLater
import Derived.Laws.OwnMore
import Derived.OrdersHeld
import Derived.ProofKit
import Derived.Deep.Slices
/-
  Kinds of data, their payloads in plain Lean, and what it is that a value in a world reads as such a payload.
-/
set_option linter.unusedVariables false
namespace Go.Proofs.YtgjdbnkeamjhhaaDoor
open Go.RowKit
namespace R

mutual
/-- the kinds of data that one cell holds: a slice's elements have a row of cells each -/
inductive Kd where
  | int (k : IntKind)
  | bool
  | str
  | sl (fs : Kds)
inductive Kds where
  | one (k : Kd)
  | cons (k : Kd) (ks : Kds)
end
mutual
@[reducible] def Kd.Pay : Kd → Type
  | .int _ => Int
  | .bool => Bool
  | .str => List UInt8
  | .sl fs => List fs.Pay
@[reducible] def Kds.Pay : Kds → Type
  | .one k => k.Pay
  | .cons k ks => k.Pay × ks.Pay
end
def Kds.size : Kds → Nat
  | .one _ => 1
  | .cons _ ks => ks.size + 1
theorem Kds.size_pos : ∀ fs : Kds, 0 < fs.size
  | .one _ => Nat.one_pos
  | .cons _ _ => Nat.succ_pos _

mutual
def Kd.Rep (w : World) (S : Nat → Prop) : (k : Kd) → k.Pay → Value → Prop
  | .int k, n, v => v = .int k n
  | .bool, b, v => v = .bool b
  | .str, s, v => v = .string (bs s)
  | .sl fs, xs, v => ∃ A c, v = .slice A (xs : List fs.Pay).length c ∧ (xs : List fs.Pay).length ≤ c ∧
      (0 < (xs : List fs.Pay).length → ∃ g off, A = some ⟨g, off, none⟩ ∧ g < w.heap.size ∧ S g ∧ ∀ (i : Nat) (x : fs.Pay), (xs : List fs.Pay)[i]? = some x → fs.Rep w S x g (off + i * fs.size))
/-- the cells of block g from number o on read as this row -/
def Kds.Rep (w : World) (S : Nat → Prop) : (fs : Kds) → fs.Pay → Nat → Nat → Prop
  | .one k, p, g, o => ∃ u, w.cell? ⟨g, o, none⟩ = some u ∧ k.Rep w S p u
  | .cons k ks, p, g, o => (∃ u, w.cell? ⟨g, o, none⟩ = some u ∧ k.Rep w S p.1 u) ∧ ks.Rep w S p.2 g (o + 1)
end

section
variable {w w' : World} {S S' : Nat → Prop}
/-- what leaves the cells of the blocks in S as they were -/
structure Keeps (w w' : World) (S : Nat → Prop) : Prop where
  size : w.heap.size ≤ w'.heap.size
  cell : ∀ g o, S g → g < w.heap.size → w'.cell? ⟨g, o, none⟩ = w.cell? ⟨g, o, none⟩
mutual
theorem Kd.Rep.keeps (hk : Keeps w w' S) (hS : ∀ g, S g → g < w.heap.size → S' g) : ∀ (k : Kd) (p : k.Pay) (v : Value), k.Rep w S p v → k.Rep w' S' p v
  | .int k, n, v, h => h
  | .bool, b, v, h => h
  | .str, s, v, h => h
  | .sl fs, xs, v, h => by
    obtain ⟨A, c, rfl, hc, h⟩ := h
    refine ⟨A, c, rfl, hc, fun hp => ?_⟩
    obtain ⟨g, off, hA, hg, hSg, hc⟩ := h hp
    exact ⟨g, off, hA, Nat.lt_of_lt_of_le hg hk.size, hS g hSg hg, fun i x hi => Kds.Rep.keeps hk hS fs x g _ hSg hg (hc i x hi)⟩
theorem Kds.Rep.keeps (hk : Keeps w w' S) (hS : ∀ g, S g → g < w.heap.size → S' g) : ∀ (fs : Kds) (p : fs.Pay) (g o : Nat), S g → g < w.heap.size → fs.Rep w S p g o → fs.Rep w' S' p g o
  | .one k, p, g, o, hs, hg, h => by
    obtain ⟨u, hu, h⟩ := h
    exact ⟨u, (hk.cell g o hs hg).trans hu, Kd.Rep.keeps hk hS k p u h⟩
  | .cons k ks, p, g, o, hs, hg, h => by
    obtain ⟨⟨u, hu, h1⟩, h2⟩ := h
    exact ⟨⟨u, (hk.cell g o hs hg).trans hu, Kd.Rep.keeps hk hS k p.1 u h1⟩, Kds.Rep.keeps hk hS ks p.2 g (o + 1) hs hg h2⟩
end
theorem Keeps.refl (w : World) (S : Nat → Prop) : Keeps w w S := ⟨Nat.le_refl _, fun _ _ _ _ => rfl⟩
theorem Keeps.trans {w'' : World} (h : Keeps w w' S) (h' : Keeps w' w'' S) : Keeps w w'' S :=
  ⟨Nat.le_trans h.size h'.size, fun g o hs hg => (h'.cell g o hs (Nat.lt_of_lt_of_le hg h.size)).trans (h.cell g o hs hg)⟩
theorem Keeps.below (h : Below w.heap.size w w') (S : Nat → Prop) : Keeps w w' S := ⟨h.size, fun g o _ hg => h.cell (p := ⟨g, o, none⟩) hg⟩
theorem Keeps.set {p : Addr} (hp : ¬ S p.block) (v : Value) : Keeps w (w.setCell p v) S :=
  ⟨by simp, fun g o hs _ => World.cell?_of_block (Below.heap_setCell w p v g (fun e => hp (e ▸ hs)))⟩

/-- field number f of a row -/
def Kds.fld : (fs : Kds) → fs.Pay → Nat → Option ((k : Kd) × k.Pay)
  | .one k, p, 0 => some ⟨k, p⟩
  | .one _, _, _ + 1 => none
  | .cons k _, p, 0 => some ⟨k, p.1⟩
  | .cons _ ks, p, n + 1 => ks.fld p.2 n
theorem Kds.Rep.fld : ∀ (fs : Kds) (p : fs.Pay) (g o f : Nat) (x : (k : Kd) × k.Pay), fs.Rep w S p g o → fs.fld p f = some x → ∃ u, w.cell? ⟨g, o + f, none⟩ = some u ∧ x.1.Rep w S x.2 u
  | .one k, p, g, o, 0, x, h, hf => by injection hf with hf; subst hf; exact h
  | .one k, p, g, o, f + 1, x, h, hf => by cases hf
  | .cons k ks, p, g, o, 0, x, h, hf => by injection hf with hf; subst hf; exact h.1
  | .cons k ks, p, g, o, f + 1, x, h, hf => by
    have := Kds.Rep.fld ks p.2 g (o + 1) f x h.2 hf
    rwa [Nat.add_assoc, Nat.add_comm 1 f] at this
end
end R
end Go.Proofs.YtgjdbnkeamjhhaaDoor

/-
  What is known of a frame and of the call's own memory, and what an operation that only reads makes of it.
-/
set_option linter.unusedVariables false
namespace Go.Proofs.YtgjdbnkeamjhhaaDoor
open Go.RowKit
namespace R

/-- what is known of one cell's value -/
inductive Cell where
  | any
  | undef
  | nil
  | val (k : Kd) (p : k.Pay)
  | ptr (b off : Nat)
  | ep (fs : Kds) (p : fs.Pay) (f : Nat)
  | own (r : Nat)
  | rp (r sz i f : Nat)
  | fn (f : FuncId)
inductive Comp where
  | one (c : Cell)
  | agg (cs : List Cell)
/-- what is known of a slot's value -/
inductive AV where
  | c (x : Comp)
  | tup (xs : List Comp)
structure Row where
  e : TypeId
  fs : Kds
  xs : List fs.Pay
/-- what is known of a frame, of the variables that the call has made, and of the rows that it owns -/
structure St where
  n : Nat
  env : List (Nat × AV)
  boxes : List (Nat × List Cell)
  rows : List (Nat × Row)

def look {α : Type} (d : α) (t : Nat) : List (Nat × α) → α
  | [] => d
  | (u, v) :: r => bif u.beq t then v else look d t r
def look? {α : Type} (t : Nat) : List (Nat × α) → Option α
  | [] => none
  | (u, v) :: r => bif u.beq t then some v else look? t r
def St.get (st : St) (t : Nat) : AV := look (.c (.one .any)) t st.env
def St.box (st : St) (b : Nat) : Option (List Cell) := look? b st.boxes
def St.row (st : St) (r : Nat) : Option Row := look? r st.rows
def St.set (st : St) (t : Nat) (v : AV) : St := { st with env := (t, v) :: st.env }
def St.put (st : St) (d : Option Nat) (v : AV) : St :=
  match d with
  | some t => st.set t v
  | none => st

def int (k : IntKind) (n : Int) : AV := .c (.one (.val (.int k) n))
def bool (b : Bool) : AV := .c (.one (.val .bool b))
def str (s : List UInt8) : AV := .c (.one (.val .str s))

def ofCell : Value → Cell
  | .bool b => .val .bool b
  | .int k n => .val (.int k) n
  | .string s => .val .str s.data.toList
  | .slice none 0 0 => .nil
  | _ => .any
def ofConst : Value → AV
  | .agg cs => bif cs.toList.all (·.oneCell') then .c (.agg (cs.toList.map ofCell)) else .c (.one .any)
  | v => .c (.one (ofCell v))
def St.ev (st : St) : Operand → AV
  | .tmp t => st.get t
  | .const v => ofConst v
  | .global _ => .c (.one .any)
  | .func f => .c (.one (.fn f))

/-- a side condition and a value; or nothing known -/
inductive Got where
  | no
  | ok (c : Prop) (v : AV)

mutual
@[reducible] def Kd.dflt : (k : Kd) → k.Pay
  | .int _ => (0 : Int)
  | .bool => false
  | .str => ([] : List UInt8)
  | .sl fs => ([] : List fs.Pay)
@[reducible] def Kds.dflt : (fs : Kds) → fs.Pay
  | .one k => k.dflt
  | .cons k ks => (k.dflt, ks.dflt)
end

def pickAV (q : Bool) : AV → AV → AV
  | .c (.one (.val .bool p)), .c (.one (.val .bool r)) => .c (.one (.val .bool (bif q then p else r)))
  | x, y => bif q then x else y

def isAggB (P : Program) (t : TypeId) : Option Bool :=
  match P.underlying t with
  | some (.struct _) | some (.array _ _) => some true
  | some _ => some false
  | none => none
def sizeB (P : Program) (t : TypeId) : Option Nat := (P.info? t).map (·.size)

def cellsFrom (cs : List Cell) (off : Nat) : Nat → Option (List Cell)
  | 0 => some []
  | n + 1 => match cs[off]? with
    | some c => (cellsFrom cs (off + 1) n).map (c :: ·)
    | none => none
def fldsFrom (fs : Kds) (p : fs.Pay) (f : Nat) : Nat → Option (List Cell)
  | 0 => some []
  | n + 1 => match fs.fld p f with
    | some x => (fldsFrom fs p (f + 1) n).map (Cell.val x.1 x.2 :: ·)
    | none => none
/-- the value of type t that begins with cell number off -/
def partOf (P : Program) (t : TypeId) (cs : List Cell) (off : Nat) : Got :=
  match isAggB P t, sizeB P t with
  | some true, some n => match cellsFrom cs off n with
    | some l => .ok True (.c (.agg l))
    | none => .no
  | some false, _ => match cs[off]? with
    | some c => .ok True (.c (.one c))
    | none => .no
  | _, _ => .no
def partOfRow (P : Program) (t : TypeId) (fs : Kds) (p : fs.Pay) (f : Nat) : Got :=
  match isAggB P t, sizeB P t with
  | some true, some n => match fldsFrom fs p f n with
    | some l => .ok True (.c (.agg l))
    | none => .no
  | some false, _ => match fs.fld p f with
    | some x => .ok True (.c (.one (.val x.1 x.2)))
    | none => .no
  | _, _ => .no

def fits64 (n : Int) : Prop := -9223372036854775808 ≤ n ∧ n ≤ 9223372036854775807
def intOp (op : BinOp) (k : IntKind) (a b : Int) : Got :=
  match op with
  | .add => match k with
    | .i64 => .ok (fits64 (a + b)) (int .i64 (a + b))
    | _ => .ok True (int k (k.wrap (a + b)))
  | .sub => match k with
    | .i64 => .ok (fits64 (a - b)) (int .i64 (a - b))
    | _ => .ok True (int k (k.wrap (a - b)))
  | .mul => match k with
    | .i64 => .ok (fits64 (a * b)) (int .i64 (a * b))
    | _ => .ok True (int k (k.wrap (a * b)))
  | .quo => .ok (b ≠ 0) (int k (k.wrap (a.tdiv b)))
  | .rem => .ok (b ≠ 0) (int k (a.tmod b))
  | .and => .ok True (int k (k.wrap ((BitVec.ofInt k.bits a) &&& (BitVec.ofInt k.bits b)).toNat))
  | .or => .ok True (int k (k.wrap ((BitVec.ofInt k.bits a) ||| (BitVec.ofInt k.bits b)).toNat))
  | .xor => .ok True (int k (k.wrap ((BitVec.ofInt k.bits a) ^^^ (BitVec.ofInt k.bits b)).toNat))
  | .eql => .ok True (bool (a == b))
  | .neq => .ok True (bool (a != b))
  | .lss => .ok True (bool (decide (a < b)))
  | .leq => .ok True (bool (decide (a ≤ b)))
  | .gtr => .ok True (bool (decide (b < a)))
  | .geq => .ok True (bool (decide (b ≤ a)))
  | _ => .no
def shiftOp (op : BinOp) (k : IntKind) (a b : Int) : Got :=
  match op with
  | .shl => .ok (0 ≤ b) (int k (k.wrap (a * 2 ^ (min b.toNat k.bits))))
  | .shr => .ok (0 ≤ b) (int k (a.fdiv (2 ^ (min b.toNat k.bits))))
  | _ => .no
def strOp (op : BinOp) (s t : List UInt8) : Got :=
  match op with
  | .add => .ok (s.length + t.length ≤ 9223372036854775807) (str (s ++ t))
  | .eql => .ok True (bool (s == t))
  | .neq => .ok True (bool (!(s == t)))
  | .lss => .ok True (bool (Op.bytesLess s t))
  | .leq => .ok True (bool (Op.bytesLess s t || s == t))
  | .gtr => .ok True (bool (!(Op.bytesLess s t || s == t)))
  | .geq => .ok True (bool (!Op.bytesLess s t))
  | _ => .no
def boolOp (op : BinOp) (p q : Bool) : Got :=
  match op with
  | .eql => .ok True (bool (p == q))
  | .neq => .ok True (bool (!(p == q)))
  | _ => .no
def IntKind.eqB : IntKind → IntKind → Bool
  | .i8, .i8 | .i16, .i16 | .i32, .i32 | .i64, .i64 | .u8, .u8 | .u16, .u16 | .u32, .u32 | .u64, .u64 => true
  | _, _ => false
def isShift : BinOp → Bool
  | .shl | .shr => true
  | _ => false
def binGot (isB : Bool) (op : BinOp) : AV → AV → Got
  | .c (.one (.val (.int k) a)), .c (.one (.val (.int k') b)) =>
    bif isShift op then shiftOp op k a b else bif IntKind.eqB k k' then intOp op k a b else .no
  | .c (.one (.val .str s)), .c (.one (.val .str t)) => strOp op s t
  | .c (.one (.val .bool p)), .c (.one (.val .bool q)) => bif isB then boolOp op p q else .no
  | _, _ => .no

/-- the bounds of 's[lo:hi]' -/
def lowOf (st : St) : Option Operand → Option Int
  | none => some 0
  | some x => match st.ev x with
    | .c (.one (.val (.int _) n)) => some n
    | _ => none
def highOf (st : St) (len : Nat) : Option Operand → Option Int
  | none => some len
  | some x => match st.ev x with
    | .c (.one (.val (.int _) n)) => some n
    | _ => none
def setCells (cs : List Cell) (off : Nat) : List Cell → Option (List Cell)
  | [] => some cs
  | x :: r => bif Nat.blt off cs.length then setCells (cs.set off x) (off + 1) r else none
def Cell.solid : Cell → Bool
  | .any | .undef => false
  | _ => true
def compCells : AV → Option (List Cell)
  | .c (.one c) => bif c.solid then some [c] else none
  | .c (.agg cs) => some cs
  | .tup _ => none
def zeroCells (P : Program) (t : TypeId) : Option (List Cell) :=
  match (P.info? t).bind (·.zero) with
  | some v => bif v.cells.toList.all (·.oneCell') then some (v.cells.toList.map ofCell) else none
  | none => none
def placesOf (P : Program) (fields : Array Field) : Option (List (Nat × Nat)) := fields.toList.mapM fun f => (P.info? f.type).map fun i => (f.offset, i.size)
def buildParts (st : St) (places : List (Nat × Nat)) (cs : List Cell) : List (Nat × Operand) → Option (List Cell)
  | [] => some cs
  | (i, x) :: r => match places[i]?, compCells (st.ev x) with
    | some (off, size), some l => bif l.length.beq size && Nat.ble (off + l.length) cs.length then (setCells cs off l).bind fun cs' => buildParts st places cs' r else none
    | _, _ => none

def lenGot (st : St) (isStr : Bool) : AV → Got
  | .c (.one (.val .str s)) => bif isStr then .ok True (int .i64 s.length) else .no
  | .c (.one (.val (.sl fs) xs)) => bif isStr then .no else .ok True (int .i64 (xs : List fs.Pay).length)
  | .c (.one .nil) => bif isStr then .no else .ok True (int .i64 0)
  | .c (.one (.own r)) => match st.row r with
    | some x => bif isStr then .no else .ok True (int .i64 x.xs.length)
    | none => .no
  | _ => .no

/-- an operation that only reads -/
def rop (P : Program) (st : St) : Op → Got
  | .move x | .assign x => .ok True (st.ev x)
  | .pick c a b => match st.ev c with
    | .c (.one (.val .bool q)) => .ok True (pickAV q (st.ev a) (st.ev b))
    | _ => .no
  | .load t a => match st.ev a with
    | .c (.one (.ptr b off)) => match st.box b with
      | some cs => partOf P t cs off
      | none => .no
    | .c (.one (.ep fs p f)) => partOfRow P t fs p f
    | .c (.one (.rp r sz i f)) => match st.row r with
      | some x => bif sz.beq x.fs.size then partOfRow P t x.fs (x.xs.getD i x.fs.dflt) f else .no
      | none => .no
    | _ => .no
  | .nilCheck x => match st.ev x with
    | .c (.one (.ptr b off)) => .ok True (.c (.one (.ptr b off)))
    | .c (.one (.ep fs p f)) => .ok True (.c (.one (.ep fs p f)))
    | .c (.one (.rp r sz i f)) => .ok True (.c (.one (.rp r sz i f)))
    | _ => .no
  | .binOp op t x y _ => binGot (match P.underlying t with | some .bool => true | _ => false) op (st.ev x) (st.ev y)
  | .unOp op _ x => match op, st.ev x with
    | .not, .c (.one (.val .bool b)) => .ok True (bool (!b))
    | .neg, .c (.one (.val (.int .i64) n)) => .ok (fits64 (-n)) (int .i64 (-n))
    | _, _ => .no
  | .convert src dst x => match P.underlying src, P.underlying dst, st.ev x with
    | some _, some (.int k), .c (.one (.val (.int _) n)) => .ok True (int k (k.wrap n))
    | some _, some .string, .c (.one (.val .str s)) => .ok True (str s)
    | _, _, _ => .no
  | .fieldAddr s x f => match P.underlying s with
    | some (.struct fields) => match fields[f]? with
      | some fd => bif (match sizeB P fd.type with | some n => Nat.blt 0 n | none => false) then
          match st.ev x with
          | .c (.one (.ptr b off)) => .ok True (.c (.one (.ptr b (off + fd.offset))))
          | .c (.one (.ep fs p g)) => .ok True (.c (.one (.ep fs p (g + fd.offset))))
          | .c (.one (.rp r sz i g)) => .ok True (.c (.one (.rp r sz i (g + fd.offset))))
          | _ => .no
        else .no
      | none => .no
    | _ => .no
  | .field t x f => match P.underlying t, st.ev x with
    | some (.struct fields), .c (.agg cs) => match fields[f]? with
      | some fd => partOf P fd.type cs fd.offset
      | none => .no
    | _, _ => .no
  | .indexAddr t x i => match P.underlying t, st.ev x, st.ev i with
    | some (.slice e), .c (.one (.val (.sl fs) xs)), .c (.one (.val (.int _) n)) =>
      bif (sizeB P e == some fs.size) then .ok (0 ≤ n ∧ n < (xs : List fs.Pay).length) (.c (.one (.ep fs ((xs : List fs.Pay).getD n.toNat fs.dflt) 0))) else .no
    | some (.slice e), .c (.one (.own r)), .c (.one (.val (.int _) n)) => match st.row r with
      | some x => bif (sizeB P e == some x.fs.size) then .ok (0 ≤ n ∧ n < x.xs.length) (.c (.one (.rp r x.fs.size n.toNat 0))) else .no
      | none => .no
    | _, _, _ => .no
  | .index t x i => match P.underlying t, st.ev x, st.ev i with
    | some .string, .c (.one (.val .str s)), .c (.one (.val (.int _) n)) => .ok (0 ≤ n ∧ n < (s : List UInt8).length) (int .u8 ((s : List UInt8).getD n.toNat 0).toNat)
    | _, _, _ => .no
  | .slice t x lo hi none => match P.underlying t, st.ev x, lowOf st lo with
    | some .string, .c (.one (.val .str s)), some l => match highOf st (s : List UInt8).length hi with
      | some h => .ok (0 ≤ l ∧ l ≤ h ∧ h ≤ (s : List UInt8).length) (str (((s : List UInt8).take h.toNat).drop l.toNat))
      | none => .no
    | some (.slice e), .c (.one (.val (.sl fs) xs)), some l => match highOf st (xs : List fs.Pay).length hi with
      | some h => bif (sizeB P e == some fs.size) then .ok (0 ≤ l ∧ l ≤ h ∧ h ≤ (xs : List fs.Pay).length) (.c (.one (.val (.sl fs) (((xs : List fs.Pay).take h.toNat).drop l.toNat)))) else .no
      | none => .no
    | _, _, _ => .no
  | .extract x i => match st.ev x with
    | .tup vs => match vs[i]? with
      | some v => .ok True (.c v)
      | none => .no
    | _ => .no
  | .build t parts => match P.underlying t, zeroCells P t with
    | some (.struct fields), some cs => match placesOf P fields with
      | some places => match buildParts st places cs parts.toList with
        | some l => .ok True (.c (.agg l))
        | none => .no
      | none => .no
    | _, _ => .no
  | .call { callee := .builtin .len, args, argTypes } => match args.toList, argTypes.toList with
    | [x], [t] => match P.underlying t with
      | some .string => lenGot st true (st.ev x)
      | some (.slice _) => lenGot st false (st.ev x)
      | _ => .no
    | _, _ => .no
  | _ => .no
end R
end Go.Proofs.YtgjdbnkeamjhhaaDoor

/-
  A frame and a world are as is known of them; an operation that only reads does what 'rop' says, in every later world.
-/
set_option linter.unusedVariables false
namespace Go.Proofs.YtgjdbnkeamjhhaaDoor
open Go.RowKit
namespace R

/-- where the call's own variables and rows lie; the blocks that nobody writes -/
structure Cx where
  β : Nat → Nat
  ρ : Nat → Value
  S : Nat → Prop

def Cell.Rep (κ : Cx) (w : World) : Cell → Value → Prop
  | .any, _ => True
  | .undef, v => v = Go.undef
  | .nil, v => v = .slice none 0 0
  | .val k p, v => k.Rep w κ.S p v
  | .ptr b off, v => v = .pointer (some ⟨κ.β b, off, none⟩)
  | .ep fs p f, v => ∃ g o, v = .pointer (some ⟨g, o + f, none⟩) ∧ g < w.heap.size ∧ κ.S g ∧ fs.Rep w κ.S p g o
  | .own r, v => v = κ.ρ r ∧ v.oneCell' = true
  | .rp r sz i f, v => ∃ g n c, κ.ρ r = .slice (some ⟨g, 0, none⟩) n c ∧ i < n ∧ v = .pointer (some ⟨g, i * sz + f, none⟩)
  | .fn f, v => v = .func (.func f) #[] #[]
def CellsRep (κ : Cx) (w : World) (cs : List Cell) (vs : Array Value) : Prop :=
  vs.size = cs.length ∧ (∀ (i : Nat) c, cs[i]? = some c → ∃ v, vs[i]? = some v ∧ c.Rep κ w v) ∧ ∀ (i : Nat) v, vs[i]? = some v → v.oneCell' = true
def Comp.Rep (κ : Cx) (w : World) : Comp → Value → Prop
  | .one c, v => c.Rep κ w v
  | .agg cs, v => ∃ vs, v = .agg vs ∧ CellsRep κ w cs vs
def AV.Rep (κ : Cx) (w : World) : AV → Value → Prop
  | .c x, v => x.Rep κ w v
  | .tup xs, v => ∃ vs, v = .tuple vs ∧ vs.size = xs.length ∧ ∀ (i : Nat) c, xs[i]? = some c → ∃ u, vs[i]? = some u ∧ c.Rep κ w u

section
variable {κ : Cx} {w w' : World}
theorem Cell.Rep.keeps {κ' : Cx} (hβ : κ'.β = κ.β) (hρ : κ'.ρ = κ.ρ) (hk : Keeps w w' κ.S) (hS : ∀ g, κ.S g → g < w.heap.size → κ'.S g) {c : Cell} {v : Value} (h : c.Rep κ w v) : c.Rep κ' w' v := by
  cases c with
  | any => trivial
  | undef => exact h
  | nil => exact h
  | val k p => exact Kd.Rep.keeps hk hS k p v h
  | ptr b off => show v = _; rw [hβ]; exact h
  | ep fs p f =>
    obtain ⟨g, o, rfl, hg, hs, hr⟩ := h
    exact ⟨g, o, rfl, Nat.lt_of_lt_of_le hg hk.size, hS g hs hg, Kds.Rep.keeps hk hS fs p g o hs hg hr⟩
  | own r => show v = _ ∧ _; rw [hρ]; exact h
  | rp r sz i f => show ∃ g n c, _ ∧ _; rw [hρ]; exact h
  | fn f => exact h
theorem CellsRep.mono {κ' : Cx} {cs : List Cell} {vs : Array Value} (H : ∀ (c : Cell) v, c.Rep κ w v → c.Rep κ' w' v) (h : CellsRep κ w cs vs) : CellsRep κ' w' cs vs :=
  ⟨h.1, fun i c hc => let ⟨v, hv, hr⟩ := h.2.1 i c hc; ⟨v, hv, H c v hr⟩, h.2.2⟩
theorem Comp.Rep.mono {κ' : Cx} {x : Comp} {v : Value} (H : ∀ (c : Cell) v, c.Rep κ w v → c.Rep κ' w' v) (h : x.Rep κ w v) : x.Rep κ' w' v := by
  cases x with
  | one c => exact H c v h
  | agg cs => obtain ⟨vs, rfl, h⟩ := h; exact ⟨vs, rfl, h.mono H⟩
theorem AV.Rep.mono {κ' : Cx} {x : AV} {v : Value} (H : ∀ (c : Cell) v, c.Rep κ w v → c.Rep κ' w' v) (h : x.Rep κ w v) : x.Rep κ' w' v := by
  cases x with
  | c x => exact Comp.Rep.mono H h
  | tup xs => obtain ⟨vs, rfl, h1, h2⟩ := h; exact ⟨vs, rfl, h1, fun i c hc => let ⟨u, hu, hr⟩ := h2 i c hc; ⟨u, hu, Comp.Rep.mono H hr⟩⟩
theorem AV.Rep.keeps {κ' : Cx} (hβ : κ'.β = κ.β) (hρ : κ'.ρ = κ.ρ) (hk : Keeps w w' κ.S) (hS : ∀ g, κ.S g → g < w.heap.size → κ'.S g) {c : AV} {v : Value} (h : c.Rep κ w v) : c.Rep κ' w' v :=
  AV.Rep.mono (fun _ _ h => h.keeps hβ hρ hk hS) h
end

/-- the cells of a row that the call owns -/
def RowCells (κ : Cx) (w : World) (fs : Kds) (xs : List fs.Pay) (cells : List Value) : Prop :=
  ∀ (i : Nat) (x : fs.Pay), xs[i]? = some x → ∀ (f : Nat) z, fs.fld x f = some z → ∃ u, cells[i * fs.size + f]? = some u ∧ z.1.Rep w κ.S z.2 u
theorem RowCells.keeps {κ κ' : Cx} {w w' : World} (hk : Keeps w w' κ.S) (hS : ∀ g, κ.S g → g < w.heap.size → κ'.S g) {fs : Kds} {xs : List fs.Pay} {cells : List Value} (h : RowCells κ w fs xs cells) : RowCells κ' w' fs xs cells :=
  fun i x hx f z hz => let ⟨u, hu, hr⟩ := h i x hx f z hz; ⟨u, hu, Kd.Rep.keeps hk hS z.1 z.2 u hr⟩
/-- the world at the call, and the blocks that its arguments lie in -/
structure Base extends World where
  S0 : Nat → Prop
/-- a frame and a world are as is known -/
structure Rel (w0 : Base) (κ : Cx) (st : St) (a : Act) (w : World) : Prop where
  defers : a.defers = []
  size : a.tmps.size = st.n
  env : ∀ t, (st.get t).Rep κ w (a.tmps.getD t Go.undef)
  box : ∀ b cs, st.box b = some cs → ∃ vs ty, Blk w (κ.β b) ty vs ∧ CellsRep κ w cs vs ∧ w0.heap.size ≤ κ.β b ∧ ¬ κ.S (κ.β b)
  apart : ∀ b b' cs cs', st.box b = some cs → st.box b' = some cs' → κ.β b = κ.β b' → b = b'
  row : ∀ r x, st.row r = some x → ∃ cells, w.ownsRow w0.heap.size x.e x.fs.size (κ.ρ r) x.xs.length cells ∧ RowCells κ w x.fs x.xs cells ∧
    ∀ g, (κ.ρ r).ownBlock = some g → ¬ κ.S g ∧ ∀ b cs, st.box b = some cs → κ.β b ≠ g
  rows : ∀ r r' x x', st.row r = some x → st.row r' = some x' → ∀ g, (κ.ρ r).ownBlock = some g → (κ.ρ r').ownBlock = some g → r = r'
  bound : ∀ g, κ.S g → g < w.heap.size
  below : Below w0.heap.size w0.toWorld w
  old : ∀ g, κ.S g → w0.S0 g ∨ w0.heap.size ≤ g

theorem look_cons {α : Type} (d : α) (t u : Nat) (v : α) (r : List (Nat × α)) : look d t ((u, v) :: r) = if u = t then v else look d t r := by
  show (bif u.beq t then v else look d t r) = _
  by_cases h : u = t
  · rw [if_pos h, h, Nat.beq_refl]; rfl
  · have : u.beq t = false := Bool.eq_false_iff.mpr fun e => h (Nat.eq_of_beq_eq_true e)
    rw [if_neg h, this]; rfl
theorem look?_cons {α : Type} (t u : Nat) (v : α) (r : List (Nat × α)) : look? t ((u, v) :: r) = if u = t then some v else look? t r := by
  show (bif u.beq t then some v else look? t r) = _
  by_cases h : u = t
  · rw [if_pos h, h, Nat.beq_refl]; rfl
  · have : u.beq t = false := Bool.eq_false_iff.mpr fun e => h (Nat.eq_of_beq_eq_true e)
    rw [if_neg h, this]; rfl
theorem St.get_set (st : St) (d : Nat) (v : AV) (t : Nat) : (st.set d v).get t = if d = t then v else st.get t := look_cons _ _ _ _ _
@[simp] theorem St.box_set (st : St) (d : Nat) (v : AV) (b : Nat) : (st.set d v).box b = st.box b := rfl
@[simp] theorem St.row_set (st : St) (d : Nat) (v : AV) (b : Nat) : (st.set d v).row b = st.row b := rfl

section
variable {w0 : Base} {w w' : World} {κ : Cx} {st : St} {a : Act} {P : Program}
theorem Rel.set (h : Rel w0 κ st a w) {d : Nat} (hd : d < st.n) {v : AV} {u : Value} (hv : v.Rep κ w u) : Rel w0 κ (st.set d v) (a.put (some d) u) w where
  defers := h.defers
  size := by show (a.tmps.setIfInBounds d u).size = _; rw [Array.size_setIfInBounds]; exact h.size
  env := fun t => by
    rw [St.get_set]
    show AV.Rep κ w _ ((a.tmps.setIfInBounds d u).getD t Go.undef)
    by_cases e : d = t
    · subst e
      rw [if_pos rfl]
      have hs : d < a.tmps.size := by rw [h.size]; exact hd
      rw [Array.getD_eq_getD_getElem?, Array.getElem?_setIfInBounds_self_of_lt hs]
      exact hv
    · rw [if_neg e, Array.getD_eq_getD_getElem?, Array.getElem?_setIfInBounds_ne e, ← Array.getD_eq_getD_getElem?]
      exact h.env t
  box := h.box
  apart := h.apart
  row := h.row
  rows := h.rows
  bound := h.bound
  below := h.below
  old := h.old

theorem Kd.Rep.solid {S : Nat → Prop} : ∀ {k : Kd} {p : k.Pay} {v : Value}, k.Rep w S p v → v.oneCell' = true
  | .int _, _, _, h => by rw [show _ = _ from h]; rfl
  | .bool, _, _, h => by rw [show _ = _ from h]; rfl
  | .str, _, _, h => by rw [show _ = _ from h]; rfl
  | .sl _, _, _, h => by obtain ⟨A, c, rfl, _⟩ := h; rfl
theorem Cell.Rep.solid {c : Cell} {v : Value} (h : c.Rep κ w v) (hs : c.solid = true) : v.oneCell' = true := by
  cases c with
  | any => cases hs
  | undef => cases hs
  | nil => rw [show v = _ from h]; rfl
  | val k p => exact Kd.Rep.solid h
  | ptr b off => rw [show v = _ from h]; rfl
  | ep fs p f => obtain ⟨g, o, rfl, _⟩ := h; rfl
  | own r => exact h.2
  | rp r sz i f => obtain ⟨g, n, c, _, _, rfl⟩ := h; rfl
  | fn f => rw [show v = _ from h]; rfl
theorem ofCell_rep (κ : Cx) (w : World) (v : Value) : (ofCell v).Rep κ w v := by
  unfold ofCell
  split <;> first | rfl | trivial
theorem ofCells_rep (κ : Cx) (w : World) (cs : Array Value) (h : cs.toList.all (·.oneCell') = true) : CellsRep κ w (cs.toList.map ofCell) cs :=
  ⟨by simp, fun i c hc => by
    rw [List.getElem?_map] at hc
    cases hx : cs.toList[i]? with
    | none => rw [hx] at hc; cases hc
    | some x =>
      rw [hx] at hc; injection hc with hc; subst hc
      exact ⟨x, by simpa using hx, ofCell_rep κ w x⟩, fun i v hv => List.all_eq_true.1 h v (by
        rw [← Array.getElem?_toList] at hv
        exact List.mem_of_getElem? hv)⟩
theorem ofConst_rep (κ : Cx) (w : World) (v : Value) : (ofConst v).Rep κ w v := by
  unfold ofConst
  split
  · rename_i cs
    cases h : cs.toList.all (·.oneCell')
    · trivial
    · exact ⟨cs, rfl, ofCells_rep κ w cs h⟩
  · exact ofCell_rep κ w _
theorem Rel.ev (h : Rel w0 κ st a w) (x : Operand) : (st.ev x).Rep κ w (a.eval x) := by
  cases x with
  | tmp t => exact h.env t
  | const v => exact ofConst_rep κ w v
  | global g => trivial
  | func f => rfl

/-- in every later world the operation yields one value, which is as v says -/
def Yields (P : Program) (κ : Cx) (w : World) (a : Act) (o : Oper) (v : AV) : Prop :=
  ∃ u, v.Rep κ w u ∧ ∀ w', Below w.heap.size w w' → (execOp a.eval o).run P w' = .ok (.value u) w'
end
end R
end Go.Proofs.YtgjdbnkeamjhhaaDoor

/-
  What 'rop' says of an operation is so.
-/
set_option linter.unusedVariables false
namespace Go.Proofs.YtgjdbnkeamjhhaaDoor
open Go.RowKit
namespace R
section
variable {w0 : Base} {w w' : World} {κ : Cx} {st : St} {a : Act} {P : Program}

theorem vrun {P : Program} {w w' : World} {s : Sem Value} {u : Value} (h : s.run P w = .ok u w') : (do let x ← s; pure (Next.value x) : Sem Next).run P w = .ok (.value u) w' := by
  rw [Sem.run_bind, h]; rfl

theorem rep_int {k : IntKind} {n : Int} : (int k n).Rep κ w (.int k n) := rfl
theorem rep_bool {b : Bool} : (bool b).Rep κ w (.bool b) := rfl
theorem rep_str {s : List UInt8} : (str s).Rep κ w (.string (bs s)) := rfl

theorem fits64_wrap {n : Int} (h : fits64 n) : IntKind.i64.wrap n = n := IntWalk.i64_in n h

theorem intOp_sound {op : BinOp} {k : IntKind} {x y : Int} {c : Prop} {v : AV} (hs : isShift op = false) (h : intOp op k x y = .ok c v) (hc : c) (t : TypeId) :
    ∃ u, v.Rep κ w u ∧ ∀ w', (binOp op t (.int k x) (.int k y)).run P w' = .ok u w' := by
  cases op <;> simp only [intOp] at h
  case add | sub | mul =>
    cases k <;> (injection h with h1 h2; subst h1; subst h2; refine ⟨_, rep_int, fun w' => ?_⟩; simp [binOp, Op.intArith]) <;> exact fits64_wrap hc
  case quo =>
    injection h with h1 h2; subst h1; subst h2
    exact ⟨_, rep_int, fun w' => by simp [binOp, Op.intDiv, hc]⟩
  case rem =>
    injection h with h1 h2; subst h1; subst h2
    exact ⟨_, rep_int, fun w' => by simp [binOp, Op.intDiv, hc]⟩
  case and | or | xor =>
    injection h with h1 h2; subst h1; subst h2
    exact ⟨_, rep_int, fun w' => by simp [binOp, Op.intBits]⟩
  case eql | neq | lss | leq | gtr | geq =>
    injection h with h1 h2; subst h1; subst h2
    exact ⟨_, rep_bool, fun w' => by simp [binOp, Op.intCmp]⟩
  all_goals cases h
theorem shiftOp_sound {op : BinOp} {k k' : IntKind} {x y : Int} {c : Prop} {v : AV} (h : shiftOp op k x y = .ok c v) (hc : c) (t : TypeId) :
    ∃ u, v.Rep κ w u ∧ ∀ w', (binOp op t (.int k x) (.int k' y)).run P w' = .ok u w' := by
  cases op <;> simp only [shiftOp] at h
  case shl | shr =>
    injection h with h1 h2; subst h1; subst h2
    have hn : ¬ y < 0 := by omega
    exact ⟨_, rep_int, fun w' => by simp [binOp, Op.shift, hn]⟩
  all_goals cases h
theorem bs_toList (s : List UInt8) : (bs s).toList = s := by rw [Lib.toList_data]; rfl
theorem bs_app (s t : List UInt8) : bs s ++ bs t = bs (s ++ t) := by
  apply ByteArray.ext
  rw [ByteArray.data_append]
  simp [bs]
theorem strOp_sound {op : BinOp} {s t : List UInt8} {c : Prop} {v : AV} (h : strOp op s t = .ok c v) (hc : c) (ty : TypeId) :
    ∃ u, v.Rep κ w u ∧ ∀ w', (binOp op ty (.string (bs s)) (.string (bs t))).run P w' = .ok u w' := by
  cases op <;> simp only [strOp] at h
  case add =>
    injection h with h1 h2; subst h1; subst h2
    refine ⟨_, rep_str, fun w' => ?_⟩
    have hn : ¬ ((((bs s).size + (bs t).size : Nat) : Int) > IntKind.i64.max) := by
      show ¬ (((s.length + t.length : Nat) : Int) > 9223372036854775807)
      omega
    rw [← bs_app]
    simp only [binOp, Op.stringOp, if_neg hn]
    rfl
  case eql | neq | lss | leq | gtr | geq =>
    injection h with h1 h2; subst h1; subst h2
    refine ⟨_, rep_bool, fun w' => ?_⟩
    simp only [binOp, Op.stringOp, bs_toList]
    rfl
  all_goals cases h
theorem eqB_spec {k k' : IntKind} (h : IntKind.eqB k k' = true) : k = k' := by
  cases k <;> cases k' <;> first | rfl | cases h
theorem eqGuard_ok (op : BinOp) (t : TypeId) (x y : Operand) (u v : Value) (hu : ∀ cs, u ≠ .agg cs) (hn : u ≠ .nilIface) (w : World) : (eqGuard op t x y u v).run P w = .ok () w := by
  unfold eqGuard
  cases op <;> simp
  all_goals (split <;> first | (exact absurd rfl (hu _)) | (exact absurd rfl hn) | rfl)
theorem binGot_sound {op : BinOp} {A B : AV} {c : Prop} {v : AV} {isB : Bool} {t : TypeId} (hB : isB = true → P.underlying t = some .bool) (h : binGot isB op A B = .ok c v) (hc : c) {x y : Value} (hx : A.Rep κ w x) (hy : B.Rep κ w y) (X Y : Operand) :
    ∃ u, v.Rep κ w u ∧ ∀ w', (do eqGuard op t X Y x y; binOp op t x y : Sem Value).run P w' = .ok u w' := by
  have key : (∀ cs, x ≠ .agg cs) → x ≠ .nilIface → (∃ u, v.Rep κ w u ∧ ∀ w', (binOp op t x y).run P w' = .ok u w') → ∃ u, v.Rep κ w u ∧ ∀ w', (do eqGuard op t X Y x y; binOp op t x y : Sem Value).run P w' = .ok u w' := by
    rintro h1 h2 ⟨u, hu, hw⟩
    exact ⟨u, hu, fun w' => by rw [Sem.run_bind, eqGuard_ok op t X Y x y h1 h2]; exact hw w'⟩
  unfold binGot at h
  split at h
  · rename_i k p k' q
    obtain rfl : x = .int k p := hx
    obtain rfl : y = .int k' q := hy
    refine key (fun _ e => by cases e) (fun e => by cases e) ?_
    cases hs : isShift op
    · rw [hs] at h
      cases he : IntKind.eqB k k'
      · rw [he] at h; cases h
      · rw [he] at h
        obtain rfl := eqB_spec he
        exact intOp_sound hs h hc t
    · rw [hs] at h
      exact shiftOp_sound h hc t
  · rename_i s q
    obtain rfl : x = .string (bs s) := hx
    obtain rfl : y = .string (bs q) := hy
    exact key (fun _ e => by cases e) (fun e => by cases e) (strOp_sound h hc t)
  · rename_i p q
    obtain rfl : x = .bool p := hx
    obtain rfl : y = .bool q := hy
    refine key (fun _ e => by cases e) (fun e => by cases e) ?_
    cases hb : isB
    · rw [hb] at h; cases h
    · rw [hb] at h
      have hu := hB hb
      cases op <;> simp only [cond_true, boolOp] at h
      case eql =>
        injection h with h1 h2; subst h1; subst h2
        exact ⟨_, rep_bool, fun w' => run_eql_bool w' t p q hu⟩
      case neq =>
        injection h with h1 h2; subst h1; subst h2
        exact ⟨_, rep_bool, fun w' => run_neq_bool w' t p q hu⟩
      all_goals cases h
  · cases h

theorem wanted_none {ops : Array Oper} {o : Oper} {tmps : Array Value} (h : o.guard = none) : Region.wanted o (yielded ops tmps) = true := by simp [Region.wanted, h]

theorem add_plain2 (g o n : Nat) : (⟨g, o, none⟩ : Addr).add n = ⟨g, o + n, none⟩ := by unfold Addr.add; split <;> simp_all
theorem isAggB_run {t : TypeId} {b : Bool} (h : isAggB P t = some b) (w : World) : (Go.isAgg t).run P w = .ok b w := by
  unfold isAggB at h
  cases hu : P.underlying t with
  | none => rw [hu] at h; cases h
  | some d =>
    rw [hu] at h
    simp only [Go.isAgg, Sem.run_bind, run_underlying hu, Result.andThen_ok]
    cases d <;> first | (injection h with h; subst h; rfl)
theorem sizeB_run {t : TypeId} {n : Nat} (h : sizeB P t = some n) (w : World) : (Go.sizeOf t).run P w = .ok n w := by
  unfold sizeB at h
  cases hi : P.info? t with
  | none => rw [hi] at h; cases h
  | some i => rw [hi] at h; injection h with h; subst h; simp [Go.sizeOf, typeInfo, hi]

theorem cellsFrom_spec {cs : List Cell} : ∀ (n off : Nat) (l : List Cell), cellsFrom cs off n = some l → l.length = n ∧ ∀ i c, l[i]? = some c → cs[off + i]? = some c
  | 0, off, l, h => by injection h with h; subst h; exact ⟨rfl, fun i c h => by cases h⟩
  | n + 1, off, l, h => by
    unfold cellsFrom at h
    cases hx : cs[off]? with
    | none => rw [hx] at h; cases h
    | some x =>
      rw [hx] at h
      cases hr : cellsFrom cs (off + 1) n with
      | none => simp [hr] at h
      | some r =>
        simp [hr] at h; subst h
        obtain ⟨h1, h2⟩ := cellsFrom_spec n (off + 1) r hr
        refine ⟨by simp [h1], fun i c hc => ?_⟩
        cases i with
        | zero => injection hc with hc; subst hc; exact hx
        | succ i => have := h2 i c hc; rwa [show off + (i + 1) = off + 1 + i by omega]
theorem fldsFrom_spec {fs : Kds} {p : fs.Pay} : ∀ (n f : Nat) (l : List Cell), fldsFrom fs p f n = some l → l.length = n ∧ ∀ i c, l[i]? = some c → ∃ x, fs.fld p (f + i) = some x ∧ c = .val x.1 x.2
  | 0, off, l, h => by injection h with h; subst h; exact ⟨rfl, fun i c h => by cases h⟩
  | n + 1, off, l, h => by
    unfold fldsFrom at h
    cases hx : fs.fld p off with
    | none => rw [hx] at h; cases h
    | some x =>
      rw [hx] at h
      cases hr : fldsFrom fs p (off + 1) n with
      | none => simp [hr] at h
      | some r =>
        simp [hr] at h; subst h
        obtain ⟨h1, h2⟩ := fldsFrom_spec n (off + 1) r hr
        refine ⟨by simp [h1], fun i c hc => ?_⟩
        cases i with
        | zero => injection hc with hc; subst hc; exact ⟨x, hx, rfl⟩
        | succ i => have := h2 i c hc; rwa [show off + (i + 1) = off + 1 + i by omega]

/-- a part of an aggregate -/
theorem partOf_sound {t : TypeId} {cs : List Cell} {off : Nat} {c : Prop} {v : AV} (h : partOf P t cs off = .ok c v) {vs : Array Value} (hv : CellsRep κ w cs vs) :
    ∃ u, v.Rep κ w u ∧ ∀ w', (Go.part t vs off).run P w' = .ok u w' := by
  unfold partOf at h
  split at h
  · rename_i n ha hs
    split at h
    · rename_i l hl
      injection h with h1 h2; subst h2
      obtain ⟨hl1, hl2⟩ := cellsFrom_spec n off l hl
      refine ⟨.agg (vs.extract off (off + n)), ⟨_, rfl, ?_, fun i c hc => ?_, fun i v hv' => ?_⟩, fun w' => ?_⟩
      · rw [Array.size_extract, hv.1]
        rcases Nat.eq_zero_or_pos n with h0 | h0
        · subst h0; rw [hl1]; omega
        · have : (n - 1) < l.length := by omega
          have := hl2 (n - 1) l[n - 1] (List.getElem?_eq_getElem this)
          have := (List.getElem?_eq_some_iff.1 this).1
          rw [hl1]; omega
      · obtain ⟨u, hu, hr⟩ := hv.2.1 _ _ (hl2 i c hc)
        refine ⟨u, ?_, hr⟩
        have hil : i < n := by rw [← hl1]; exact (List.getElem?_eq_some_iff.1 hc).1
        rw [Array.getElem?_extract, if_pos]
        · exact hu
        · have := (Array.getElem?_eq_some_iff.1 hu).1
          omega
      · rw [Array.getElem?_extract] at hv'
        split at hv'
        · exact hv.2.2 _ _ hv'
        · cases hv'
      · simp [Go.part, isAggB_run ha, sizeB_run hs]
    · cases h
  · rename_i ha
    split at h
    · rename_i x hx
      injection h with h1 h2; subst h2
      obtain ⟨u, hu, hr⟩ := hv.2.1 _ _ hx
      exact ⟨u, hr, fun w' => by simp [Go.part, isAggB_run ha, hu]⟩
    · cases h
  · cases h
theorem run_loadCells_f (w' : World) (g o n : Nat) (vs : List Value) (hn : vs.length = n) (h : ∀ i v, vs[i]? = some v → w'.cell? ⟨g, o + i, none⟩ = some v) : (Go.loadCells ⟨g, o, none⟩ n).run P w' = .ok vs.toArray w' := by
  subst hn
  exact run_loadCells_list w' ⟨g, o, none⟩ vs (fun j v hj => by rw [add_plain2]; exact h j v hj)
theorem exists_list {l : List Cell} {R : Nat → Value → Prop} (h : ∀ i c, l[i]? = some c → ∃ u, R i u ∧ c.Rep κ w u) : ∃ us : List Value, us.length = l.length ∧ ∀ (i : Nat) c, l[i]? = some c → ∃ u, us[i]? = some u ∧ R i u ∧ c.Rep κ w u := by
  induction l generalizing R with
  | nil => exact ⟨[], rfl, fun i c h => by cases h⟩
  | cons x l ih =>
    obtain ⟨u, hu, hr⟩ := h 0 x rfl
    obtain ⟨us, h1, h2⟩ := ih (R := fun i u => R (i + 1) u) (fun i c hc => h (i + 1) c hc)
    refine ⟨u :: us, by simp [h1], fun i c hc => ?_⟩
    cases i with
    | zero => injection hc with hc; subst hc; exact ⟨u, rfl, hu, hr⟩
    | succ i => exact h2 i c hc
theorem loadVar_row {t : TypeId} {fs : Kds} {p : fs.Pay} {f : Nat} {c : Prop} {v : AV} (h : partOfRow P t fs p f = .ok c v) {g o : Nat} (hg : g < w.heap.size) (hr : fs.Rep w κ.S p g o) :
    ∃ u, v.Rep κ w u ∧ ∀ w', Below w.heap.size w w' → (Go.loadVar t ⟨g, o + f, none⟩).run P w' = .ok u w' := by
  unfold partOfRow at h
  split at h
  · rename_i n ha hs
    split at h
    · rename_i l hl
      injection h with h1 h2; subst h2
      obtain ⟨hl1, hl2⟩ := fldsFrom_spec n f l hl
      obtain ⟨us, hu1, hu2⟩ := exists_list (κ := κ) (w := w) (l := l) (R := fun i u => w.cell? ⟨g, o + (f + i), none⟩ = some u) (fun i c hc => by
        obtain ⟨x, hx, rfl⟩ := hl2 i c hc
        exact Kds.Rep.fld fs p g o (f + i) x hr hx)
      refine ⟨.agg us.toArray, ⟨_, rfl, by simp [hu1], fun i c hc => ?_, fun i v hv => ?_⟩, fun w' hb => ?_⟩
      · obtain ⟨u, h1, _, h3⟩ := hu2 i c hc
        exact ⟨u, by simpa using h1, h3⟩
      · have hv : us[i]? = some v := by simpa using hv
        have hi : i < l.length := by rw [← hu1]; exact (List.getElem?_eq_some_iff.1 hv).1
        obtain ⟨u, h1, h2, h3⟩ := hu2 i l[i] (List.getElem?_eq_getElem hi)
        rw [hv] at h1; injection h1 with h1; subst h1
        obtain ⟨x, hx, he⟩ := hl2 i l[i] (List.getElem?_eq_getElem hi)
        rw [he] at h3
        exact Kd.Rep.solid h3
      · have := run_loadCells_f (P := P) w' g (o + f) n us (by rw [hu1, hl1]) (fun i v hv => by
          have hi : i < l.length := by rw [← hu1]; exact (List.getElem?_eq_some_iff.1 hv).1
          obtain ⟨u, h1, h2, _⟩ := hu2 i l[i] (List.getElem?_eq_getElem hi)
          rw [hv] at h1; injection h1 with h1; subst h1
          rw [Nat.add_assoc]
          exact (hb.cell (p := ⟨g, o + (f + i), none⟩) hg).trans h2)
        simp [Go.loadVar, isAggB_run ha, sizeB_run hs, this]
    · cases h
  · rename_i ha
    split at h
    · rename_i x hx
      injection h with h1 h2; subst h2
      obtain ⟨u, hu, hr⟩ := Kds.Rep.fld fs p g o f x hr hx
      refine ⟨u, hr, fun w' hb => ?_⟩
      have := (hb.cell (p := ⟨g, o + f, none⟩) hg).trans hu
      simp [Go.loadVar, isAggB_run ha, this]
    · cases h
  · cases h
theorem loadVar_box {t : TypeId} {cs : List Cell} {off : Nat} {c : Prop} {v : AV} (h : partOf P t cs off = .ok c v) {g : Nat} {ty : TypeId} {vs : Array Value} (hb : Blk w g ty vs) (hv : CellsRep κ w cs vs) :
    ∃ u, v.Rep κ w u ∧ ∀ w', Below w.heap.size w w' → (Go.loadVar t ⟨g, off, none⟩).run P w' = .ok u w' := by
  obtain ⟨u, hu, hp⟩ := partOf_sound h hv
  refine ⟨u, hu, fun w' hw => ?_⟩
  have hp := hp w'
  have hbk : Blk w' g ty vs := hb.bel hw
  unfold partOf at h
  split at h
  · rename_i n ha hs
    split at h
    · rename_i l hl
      simp [Go.part, isAggB_run ha, sizeB_run hs] at hp
      subst hp
      obtain ⟨hl1, hl2⟩ := cellsFrom_spec n off l hl
      have hsz : (vs.extract off (off + n)).toList.length = n := by
        rw [Array.length_toList, Array.size_extract, hv.1]
        rcases Nat.eq_zero_or_pos n with h0 | h0
        · subst h0; omega
        · have : (n - 1) < l.length := by omega
          have := hl2 (n - 1) l[n - 1] (List.getElem?_eq_getElem this)
          have := (List.getElem?_eq_some_iff.1 this).1
          omega
      have := run_loadCells_f (P := P) w' g off n (vs.extract off (off + n)).toList hsz (fun i x hx => by
        rw [Array.getElem?_toList, Array.getElem?_extract] at hx
        split at hx
        · rw [hbk.cell]; exact hx
        · cases hx)
      rw [Array.toArray_toList] at this
      simp [Go.loadVar, isAggB_run ha, sizeB_run hs, this]
    · cases h
  · rename_i ha
    split at h
    · rename_i x hx
      obtain ⟨y, hy, hr⟩ := hv.2.1 _ _ hx
      simp [Go.part, isAggB_run ha, hy] at hp
      subst hp
      have : w'.cell? ⟨g, off, none⟩ = some y := (hbk.cell off).trans hy
      simp [Go.loadVar, isAggB_run ha, this]
    · cases h
  · cases h
end
end R
end Go.Proofs.YtgjdbnkeamjhhaaDoor

/-
  An operation that only reads yields what 'rop' says, in every later world.
-/
set_option linter.unusedVariables false
namespace Go.Proofs.YtgjdbnkeamjhhaaDoor
open Go.RowKit
namespace R
section
variable {w0 : Base} {w w' : World} {κ : Cx} {st : St} {a : Act} {P : Program}

theorem yields_of {o : Oper} {v : AV} {s : Sem Value} (he : execOp a.eval o = (do let x ← s; pure (Next.value x))) (h : ∃ u, v.Rep κ w u ∧ ∀ w', Below w.heap.size w w' → s.run P w' = .ok u w') : Yields P κ w a o v := by
  obtain ⟨u, hu, hw⟩ := h
  exact ⟨u, hu, fun w' hb => by rw [he]; exact vrun (hw w' hb)⟩
theorem pickAV_sound {q : Bool} {A B : AV} {x y : Value} (hx : A.Rep κ w x) (hy : B.Rep κ w y) : (pickAV q A B).Rep κ w (if q = true then x else y) := by
  unfold pickAV
  split
  · rename_i p r
    obtain rfl : x = .bool p := hx
    obtain rfl : y = .bool r := hy
    cases q <;> rfl
  · cases q
    · exact hy
    · exact hx
theorem setCells_spec {κ : Cx} {w : World} : ∀ (l : List Cell) (cs : List Cell) (off : Nat) (r : List Cell) (vs : List Value) (us : Array Value), setCells cs off l = some r → CellsRep κ w l vs.toArray → CellsRep κ w cs us →
    CellsRep κ w r ((vs.zipIdx).foldl (fun cs (c, j) => cs.setIfInBounds (off + j) c) us) := by
  have key : ∀ (l : List Cell) (cs : List Cell) (off k : Nat) (r : List Cell) (vs : List Value) (us : Array Value), setCells cs (off + k) l = some r → CellsRep κ w l vs.toArray → CellsRep κ w cs us →
      CellsRep κ w r ((vs.zipIdx k).foldl (fun cs (c, j) => cs.setIfInBounds (off + j) c) us) := by
    intro l
    induction l with
    | nil =>
      intro cs off k r vs us h hv hu
      injection h with h; subst h
      obtain rfl : vs = [] := by have := hv.1; simpa using this
      exact hu
    | cons x l ih =>
      intro cs off k r vs us h hv hu
      cases vs with
      | nil => have := hv.1; simp at this
      | cons v vs =>
        unfold setCells at h
        cases hb : Nat.blt (off + k) cs.length
        · rw [hb] at h; cases h
        · rw [hb] at h
          have hlt : off + k < cs.length := by rw [Nat.blt_eq] at hb; exact hb
          have h' : setCells (cs.set (off + k) x) (off + (k + 1)) l = some r := h
          have hx : x.Rep κ w v := by
            obtain ⟨y, hy, hr⟩ := hv.2.1 0 x rfl
            injection hy with hy; subst hy; exact hr
          have hv' : CellsRep κ w l vs.toArray := ⟨by have := hv.1; simpa using this, fun i c hc => by
            obtain ⟨y, hy, hr⟩ := hv.2.1 (i + 1) c hc
            exact ⟨y, by simpa using hy, hr⟩, fun i y hy => hv.2.2 (i + 1) y (by simpa using hy)⟩
          have hu' : CellsRep κ w (cs.set (off + k) x) (us.setIfInBounds (off + k) v) := ⟨by simp [hu.1], fun i c hc => by
            rw [List.getElem?_set] at hc
            by_cases e : off + k = i
            · subst e
              rw [if_pos rfl, if_pos hlt] at hc
              injection hc with hc; subst hc
              exact ⟨v, Array.getElem?_setIfInBounds_self_of_lt (by rw [hu.1]; exact hlt), hx⟩
            · rw [if_neg e] at hc
              obtain ⟨y, hy, hr⟩ := hu.2.1 i c hc
              exact ⟨y, by rw [Array.getElem?_setIfInBounds_ne e]; exact hy, hr⟩, fun i y hy => by
            by_cases e : off + k = i
            · subst e
              rw [Array.getElem?_setIfInBounds_self_of_lt (by rw [hu.1]; exact hlt)] at hy
              injection hy with hy; subst hy
              exact hv.2.2 0 v rfl
            · rw [Array.getElem?_setIfInBounds_ne e] at hy
              exact hu.2.2 i y hy⟩
          rw [List.zipIdx_cons, List.foldl_cons]
          exact ih _ off (k + 1) r vs _ h' hv' hu'
  intro l cs off r vs us h hv hu
  exact key l cs off 0 r vs us h hv hu
theorem compCells_sound {A : AV} {l : List Cell} {v : Value} (h : compCells A = some l) (hv : A.Rep κ w v) : CellsRep κ w l v.cells := by
  unfold compCells at h
  split at h
  · rename_i c
    cases hs : c.solid
    · rw [hs] at h; cases h
    · rw [hs] at h
      injection h with h; subst h
      have ho := Cell.Rep.solid hv hs
      have hc : v.cells = #[v] := by cases v <;> first | rfl | cases ho
      rw [hc]
      refine ⟨rfl, fun i c hc => ?_, fun i u hu => ?_⟩
      · cases i with
        | zero => injection hc with hc; subst hc; exact ⟨v, rfl, hv⟩
        | succ i => cases hc
      · cases i with
        | zero => injection hu with hu; subst hu; exact ho
        | succ i => simp at hu
  · injection h with h; subst h
    obtain ⟨vs, rfl, h⟩ := hv
    exact h
  · cases h
theorem buildParts_sound (hR : Rel w0 κ st a w) (places : List (Nat × Nat)) (place : Nat → Option (Nat × Nat)) (hpl : ∀ i q, places[i]? = some q → place i = some q) : ∀ (parts : List (Nat × Operand)) (cs l : List Cell) (us : Array Value), buildParts st places cs parts = some l → CellsRep κ w cs us →
    ∃ us', Instr.fill place us (parts.map fun (i, x) => (i, a.eval x)) = some us' ∧ CellsRep κ w l us'
  | [], cs, l, us, h, hu => by injection h with h; subst h; exact ⟨us, rfl, hu⟩
  | (i, x) :: r, cs, l, us, h, hu => by
    unfold buildParts at h
    cases hp : places[i]? with
    | none => rw [hp] at h; cases h
    | some q =>
      obtain ⟨off, size⟩ := q
      cases hc : compCells (st.ev x) with
      | none => rw [hp, hc] at h; cases h
      | some xs =>
        rw [hp, hc] at h
        dsimp only at h
        cases hb : xs.length.beq size && Nat.ble (off + xs.length) cs.length
        · rw [hb] at h; cases h
        · rw [hb] at h
          rw [Bool.and_eq_true] at hb
          have hs : xs.length = size := Nat.eq_of_beq_eq_true hb.1
          have hle : off + xs.length ≤ cs.length := Nat.le_of_ble_eq_true hb.2
          cases hset : setCells cs off xs with
          | none => rw [hset] at h; cases h
          | some cs' =>
            rw [hset] at h
            have hxr := compCells_sound hc (hR.ev x)
            have hsz : (a.eval x).cells.size = xs.length := hxr.1
            obtain ⟨us', h1, h2⟩ := buildParts_sound hR places place hpl r cs' l _ h (setCells_spec xs cs off cs' (a.eval x).cells.toList us hset (by simpa using hxr) hu)
            refine ⟨us', ?_, h2⟩
            rw [List.map_cons]
            unfold Instr.fill
            have hpa : place i = some (off, size) := hpl i _ hp
            simp only [hpa]
            rw [if_neg]
            · rw [← h1]
              congr 1
              rw [← Array.foldl_toList, Array.toList_zipIdx]
            · rw [hsz, hs, hu.1, ← hs]
              simp
              omega

theorem zeroCells_sound {t : TypeId} {cs : List Cell} (h : zeroCells P t = some cs) : ∃ it z, P.info? t = some it ∧ it.zero = some z ∧ CellsRep κ w cs z.cells := by
  unfold zeroCells at h
  cases hi : P.info? t with
  | none => rw [hi] at h; cases h
  | some it =>
    rw [hi] at h
    cases hz : it.zero with
    | none => simp [hz] at h
    | some z =>
      simp only [Option.bind_some, hz] at h
      cases ho : z.cells.toList.all (·.oneCell')
      · rw [ho] at h; cases h
      · rw [ho] at h
        injection h with h; subst h
        exact ⟨it, z, rfl, hz, ofCells_rep κ w z.cells ho⟩
theorem owns_slice {base : Nat} {e : TypeId} {size n : Nat} {v : Value} {xs : List Value} (ho : w.ownsRow base e size v n xs) : ∃ A c, v = .slice A n c := by
  rcases ho.2 with ⟨rfl, rfl⟩ | ⟨g, cap, cur, rfl, _⟩
  · exact ⟨_, _, rfl⟩
  · exact ⟨_, _, rfl⟩
theorem owns_at {base : Nat} {e : TypeId} {size n : Nat} {xs : List Value} {g o c : Nat} (ho : w.ownsRow base e size (.slice (some ⟨g, o, none⟩) n c) n xs) : o = 0 ∧ g < w.heap.size ∧ n ≤ c ∧ base ≤ g ∧ ∀ (j : Nat) u, xs[j]? = some u → w.cell? ⟨g, j, none⟩ = some u := by
  rcases ho.2 with ⟨h, _⟩ | ⟨g2, cap, cur, h, h2, h3, h4, h5, h6, h7⟩
  · cases h
  · injection h with ha hn hc
    injection ha with ha
    injection ha with hg ho' _
    subst hg; subst ho'; subst hc
    refine ⟨rfl, Blk.lt (t := e) (cs := cur) h3, h4, h2, fun j u hu => ?_⟩
    rw [cell_of_row w g j cur _ _ h3]
    rw [← h7, List.getElem?_take] at hu
    split at hu
    · simpa using hu
    · cases hu
theorem Kds.Rep.of_flds {S : Nat → Prop} : ∀ (fs : Kds) (x : fs.Pay) (g o : Nat), (∀ (f : Nat) z, fs.fld x f = some z → ∃ u, w.cell? ⟨g, o + f, none⟩ = some u ∧ z.1.Rep w S z.2 u) → fs.Rep w S x g o
  | .one k, x, g, o, h => h 0 _ rfl
  | .cons k ks, x, g, o, h => ⟨h 0 _ rfl, Kds.Rep.of_flds ks x.2 g (o + 1) fun f z hz => by
      obtain ⟨u, hu, hr⟩ := h (f + 1) z hz
      exact ⟨u, by rw [Nat.add_assoc, Nat.add_comm 1 f]; exact hu, hr⟩⟩
/-- an element of an owned row -/
theorem row_elem (hR : Rel w0 κ st a w) {r : Nat} {x : Row} (hx : st.row r = some x) {g n c i : Nat} (hv : κ.ρ r = .slice (some ⟨g, 0, none⟩) n c) (hi : i < n) : g < w.heap.size ∧ x.fs.Rep w κ.S (x.xs.getD i x.fs.dflt) g (i * x.fs.size) := by
  obtain ⟨cells, ho, hc, _⟩ := hR.row r x hx
  obtain ⟨A, c', he⟩ := owns_slice ho
  have hn : n = x.xs.length := by rw [hv] at he; injection he
  rw [hv, ← hn] at ho
  obtain ⟨_, hg, _, _, hcell⟩ := owns_at ho
  refine ⟨hg, Kds.Rep.of_flds x.fs _ g _ fun f z hz => ?_⟩
  have hge : x.xs[i]? = some (x.xs.getD i x.fs.dflt) := by
    rw [List.getD_eq_getElem?_getD, List.getElem?_eq_getElem (by omega), Option.getD_some]
  obtain ⟨u, hu, hr⟩ := hc i _ hge f z hz
  exact ⟨u, hcell _ _ hu, hr⟩
theorem lenGot_sound (hR : Rel w0 κ st a w) {A : AV} {c : Prop} {v : AV} {b : Bool} (h : lenGot st b A = .ok c v) {x : Value} (hx : A.Rep κ w x) {t ty : TypeId} {d : TypeDesc} (hu : P.underlying t = some d)
    (hk : b = true → d = .string) (hk2 : b = false → ∃ e, d = .slice e) : ∃ u, v.Rep κ w u ∧ ∀ w', (Builtin.len_ #[t] ty #[x]).run P w' = .ok u w' := by
  unfold lenGot at h
  split at h
  · rename_i s
    obtain rfl : x = .string (bs s) := hx
    cases b
    · cases h
    · injection h with h1 h2; subst h2
      obtain rfl := hk rfl
      exact ⟨_, rep_int, fun w' => run_len_string w' t ty (bs s) hu⟩
  · rename_i fs xs
    obtain ⟨A, c, rfl, _⟩ := hx
    cases b
    · injection h with h1 h2; subst h2
      obtain ⟨e, rfl⟩ := hk2 rfl
      exact ⟨_, rep_int, fun w' => by simp [Builtin.len_, run_underlying hu, goInt]⟩
    · cases h
  · obtain rfl : x = .slice none 0 0 := hx
    cases b
    · injection h with h1 h2; subst h2
      obtain ⟨e, rfl⟩ := hk2 rfl
      exact ⟨_, rep_int, fun w' => by simp [Builtin.len_, run_underlying hu, goInt]⟩
    · cases h
  · rename_i r
    obtain ⟨hx, _⟩ := hx
    split at h
    · rename_i y hy
      obtain ⟨cells, ho, _⟩ := hR.row r y hy
      obtain ⟨A, c', he⟩ := owns_slice ho
      rw [he] at hx
      subst hx
      cases b
      · injection h with h1 h2; subst h2
        obtain ⟨e, rfl⟩ := hk2 rfl
        exact ⟨_, rep_int, fun w' => by simp [Builtin.len_, run_underlying hu, goInt]⟩
      · cases h
    · cases h
  · cases h

theorem lowOf_spec (hR : Rel w0 κ st a w) {lo : Option Operand} {l : Int} (h : lowOf st lo = some l) : (lo = none ∧ l = 0) ∨ ∃ k, lo.map a.eval = some (.int k l) := by
  unfold lowOf at h
  split at h
  · injection h with h; exact .inl ⟨rfl, h.symm⟩
  · rename_i x
    split at h
    · rename_i k n hx
      injection h with h; subst h
      have := hR.ev x
      rw [hx] at this
      exact .inr ⟨k, by rw [Option.map_some]; exact congrArg some this⟩
    · cases h
theorem highOf_spec (hR : Rel w0 κ st a w) {hi : Option Operand} {n : Nat} {l : Int} (h : highOf st n hi = some l) : (hi = none ∧ l = n) ∨ ∃ k, hi.map a.eval = some (.int k l) := by
  unfold highOf at h
  split at h
  · injection h with h; exact .inl ⟨rfl, h.symm⟩
  · rename_i x
    split at h
    · rename_i k n hx
      injection h with h; subst h
      have := hR.ev x
      rw [hx] at this
      exact .inr ⟨k, by rw [Option.map_some]; exact congrArg some this⟩
    · cases h
theorem bounds_run (hR : Rel w0 κ st a w) {lo hi : Option Operand} {l h : Int} {isS : Bool} {len cap : Nat} (h1 : lowOf st lo = some l) (h2 : highOf st len hi = some h) (hc : 0 ≤ l ∧ l ≤ h ∧ h ≤ len) (hcap : len ≤ cap) (w' : World) :
    (Instr.sliceBounds isS len cap (lo.map a.eval) (hi.map a.eval) none).run P w' = .ok (l.toNat, h.toNat, cap) w' := by
  obtain ⟨c1, c2, c3⟩ := hc
  have e1 : (l.toNat : Int) = l := Int.toNat_of_nonneg c1
  have e2 : (h.toNat : Int) = h := Int.toNat_of_nonneg (by omega)
  have c4 : h ≤ (cap : Int) := by omega
  rcases lowOf_spec hR h1 with ⟨rfl, rfl⟩ | ⟨k, hk⟩ <;> rcases highOf_spec hR h2 with ⟨rfl, rfl⟩ | ⟨k', hk'⟩
  · simp [Instr.sliceBounds]
  · rw [hk']; simp [Instr.sliceBounds, run_sliceBound, *, (by omega : 0 ≤ h)]
  · rw [hk]; simp [Instr.sliceBounds, run_sliceBound, *]
  · rw [hk, hk']; simp [Instr.sliceBounds, run_sliceBound, *, (by omega : 0 ≤ h)]
end
end R
end Go.Proofs.YtgjdbnkeamjhhaaDoor

/-
  An operation that only reads yields what 'rop' says, in every later world.
-/
set_option linter.unusedVariables false
namespace Go.Proofs.YtgjdbnkeamjhhaaDoor
open Go.RowKit
namespace R
section
variable {w0 : Base} {w w' : World} {κ : Cx} {st : St} {a : Act} {P : Program}

theorem toNat_lt {n : Int} {m : Nat} (h0 : 0 ≤ n) (h1 : n < m) : n.toNat < m := by omega
theorem rop_sound (hR : Rel w0 κ st a w) {o : Oper} {c : Prop} {v : AV} (h : rop P st o.op = .ok c v) (hc : c) : Yields P κ w a o v := by
  unfold rop at h
  split at h
  · rename_i x ho
    injection h with h1 h2; subst h2
    exact ⟨_, hR.ev x, fun w' _ => by simp [execOp, ho]⟩
  · rename_i x ho
    injection h with h1 h2; subst h2
    exact ⟨_, hR.ev x, fun w' _ => by simp [execOp, ho]⟩
  · -- pick
    rename_i q x y ho
    split at h
    · rename_i b hq
      injection h with h1 h2; subst h2
      have hb := hR.ev q
      rw [hq] at hb
      have hb : a.eval q = .bool b := hb
      refine ⟨_, pickAV_sound (hR.ev x) (hR.ev y), fun w' _ => ?_⟩
      simp [execOp, ho, hb, asBool]
    · cases h
  · -- load
    rename_i t x ho
    have hx := hR.ev x
    split at h
    · rename_i b off hp
      rw [hp] at hx
      have hx : a.eval x = _ := hx
      split at h
      · rename_i cs hcs
        obtain ⟨vs, ty, hblk, hv, _, _⟩ := hR.box b cs hcs
        obtain ⟨u, hu, hw⟩ := loadVar_box h hblk hv
        refine yields_of (s := Instr.loadAt t (a.eval x)) (by simp only [execOp, ho]) ⟨u, hu, fun w' hb => ?_⟩
        rw [hx]
        exact hw w' hb
      · cases h
    · rename_i fs p f hp
      rw [hp] at hx
      obtain ⟨g, o', hx, hg, hs, hr⟩ := hx
      obtain ⟨u, hu, hw⟩ := loadVar_row h hg hr
      refine yields_of (s := Instr.loadAt t (a.eval x)) (by simp only [execOp, ho]) ⟨u, hu, fun w' hb => ?_⟩
      rw [hx]
      exact hw w' hb
    · rename_i r sz i f hp
      rw [hp] at hx
      obtain ⟨g, n, c', hv, hi, hx⟩ := hx
      split at h
      · rename_i y hy
        cases hz : sz.beq y.fs.size
        · rw [hz] at h; cases h
        · rw [hz] at h
          obtain rfl := Nat.eq_of_beq_eq_true hz
          obtain ⟨hg, hr⟩ := row_elem hR hy hv hi
          obtain ⟨u, hu, hw⟩ := loadVar_row h hg hr
          refine yields_of (s := Instr.loadAt t (a.eval x)) (by simp only [execOp, ho]) ⟨u, hu, fun w' hb => ?_⟩
          rw [hx]
          exact hw w' hb
      · cases h
    · cases h
  · -- nilCheck
    rename_i x ho
    have hx := hR.ev x
    split at h
    · rename_i b off hp
      rw [hp] at hx
      have hx : a.eval x = _ := hx
      injection h with h1 h2; subst h2
      exact ⟨a.eval x, hx, fun w' _ => by simp [execOp, ho, hx]⟩
    · rename_i fs p f hp
      rw [hp] at hx
      injection h with h1 h2; subst h2
      obtain ⟨g, o', hxe, hh⟩ := hx
      exact ⟨a.eval x, ⟨g, o', hxe, hh⟩, fun w' _ => by simp [execOp, ho, hxe]⟩
    · rename_i r sz i f hp
      rw [hp] at hx
      injection h with h1 h2; subst h2
      obtain ⟨g, n, c', hv, hi, hxe⟩ := hx
      exact ⟨a.eval x, ⟨g, n, c', hv, hi, hxe⟩, fun w' _ => by simp [execOp, ho, hxe]⟩
    · cases h
  · -- binOp
    rename_i op t x y ty ho
    obtain ⟨u, hu, hw⟩ := binGot_sound (P := P) (t := t) (by intro hb; split at hb <;> first | assumption | cases hb) h hc (hR.ev x) (hR.ev y) x y
    exact yields_of (s := (do eqGuard op t x y (a.eval x) (a.eval y); binOp op t (a.eval x) (a.eval y) : Sem Value)) (by simp only [execOp, ho]) ⟨u, hu, fun w' _ => hw w'⟩
  · -- unOp
    rename_i op t x ho
    have hx := hR.ev x
    split at h
    · rename_i b hp
      rw [hp] at hx
      have hx : a.eval x = .bool b := hx
      injection h with h1 h2; subst h2
      exact yields_of (s := Op.unary .not (a.eval x)) (by simp only [execOp, ho]) ⟨_, rep_bool, fun w' _ => by rw [hx]; rfl⟩
    · rename_i n hp
      rw [hp] at hx
      have hx : a.eval x = .int .i64 n := hx
      injection h with h1 h2; subst h2; subst h1
      exact yields_of (s := Op.unary .neg (a.eval x)) (by simp only [execOp, ho]) ⟨_, rep_int, fun w' _ => by
        rw [hx]
        have := fits64_wrap hc
        simp [Op.unary, Op.intArith, this]⟩
    · cases h
  · -- convert
    rename_i src dst x ho
    have hx := hR.ev x
    split at h
    · rename_i d k k' n hs hd hp
      rw [hp] at hx
      have hx : a.eval x = .int k' n := hx
      injection h with h1 h2; subst h2
      exact yields_of (s := convert src dst (a.eval x)) (by simp only [execOp, ho]) ⟨_, rep_int, fun w' _ => by
        rw [hx]; simp [convert, run_underlying hs, run_underlying hd, Conv.intToInt]⟩
    · rename_i d s hs hd hp
      rw [hp] at hx
      have hx : a.eval x = .string (bs s) := hx
      injection h with h1 h2; subst h2
      exact yields_of (s := convert src dst (a.eval x)) (by simp only [execOp, ho]) ⟨_, rep_str, fun w' _ => by
        rw [hx]; simp [convert, run_underlying hs, run_underlying hd]⟩
    · cases h
  · -- fieldAddr
    rename_i s x f ho
    split at h
    · rename_i fields hs
      split at h
      · rename_i fd hf
        have hx := hR.ev x
        cases hsz : sizeB P fd.type with
        | none => rw [hsz] at h; cases h
        | some n =>
          rw [hsz] at h
          dsimp only at h
          cases hz : Nat.blt 0 n
          · rw [hz] at h; cases h
          rw [hz] at h
          have hn : n ≠ 0 := by rw [Nat.blt_eq] at hz; omega
          have fin : ∀ g o, a.eval x = .pointer (some ⟨g, o, none⟩) → ∀ w', (Instr.fieldAt s (a.eval x) f).run P w' = .ok (.pointer (some ⟨g, o + fd.offset, none⟩)) w' := fun g o he w' => by
            rw [he]
            have hpl : (fieldPlace ⟨g, o, none⟩ fd).run P w' = .ok ⟨g, o + fd.offset, none⟩ w' := by
              simp [fieldPlace, sizeB_run hsz, hn, add_plain2]
            simp [Instr.fieldAt, run_underlying hs, hf, Instr.sureAddr, hpl]
          dsimp only [cond_true] at h
          split at h
          · rename_i b off hp
            rw [hp] at hx
            injection h with h1 h2; subst h2
            exact yields_of (s := Instr.fieldAt s (a.eval x) f) (by simp only [execOp, ho]) ⟨_, rfl, fun w' _ => fin _ _ hx w'⟩
          · rename_i fs p g hp
            rw [hp] at hx
            injection h with h1 h2; subst h2
            obtain ⟨b, o', hxe, hh⟩ := hx
            refine yields_of (s := Instr.fieldAt s (a.eval x) f) (by simp only [execOp, ho]) ⟨_, ⟨b, o', rfl, hh⟩, fun w' _ => ?_⟩
            have := fin _ _ hxe w'
            rwa [Nat.add_assoc] at this
          · rename_i r sz i g hp
            rw [hp] at hx
            injection h with h1 h2; subst h2
            obtain ⟨b, n, c', hv, hi, hxe⟩ := hx
            refine yields_of (s := Instr.fieldAt s (a.eval x) f) (by simp only [execOp, ho]) ⟨_, ⟨b, n, c', hv, hi, rfl⟩, fun w' _ => ?_⟩
            have := fin _ _ hxe w'
            rwa [Nat.add_assoc] at this
          · cases h
      · cases h
    · cases h
  · -- field
    rename_i t x f ho
    have hx := hR.ev x
    split at h
    · rename_i fields cs hs hp
      rw [hp] at hx
      obtain ⟨vs, hxe, hv⟩ := hx
      split at h
      · rename_i fd hf
        obtain ⟨u, hu, hw⟩ := partOf_sound h hv
        exact yields_of (s := Instr.field t (a.eval x) f) (by simp only [execOp, ho]) ⟨u, hu, fun w' _ => by
          rw [hxe]; simp [Instr.field, run_underlying hs, hf, asAgg, hw]⟩
      · cases h
    · cases h
  · -- indexAddr
    rename_i t x i ho
    have hx := hR.ev x
    have hi := hR.ev i
    split at h
    · rename_i e fs xs k n hs hp hq
      rw [hp] at hx
      rw [hq] at hi
      have hi : a.eval i = .int k n := hi
      cases hz : (sizeB P e == some fs.size)
      · rw [hz] at h; cases h
      · rw [hz] at h
        have hz : sizeB P e = some fs.size := by simpa using hz
        injection h with h1 h2; subst h2; subst h1
        obtain ⟨c1, c2⟩ := hc
        obtain ⟨A, c, hxe, hcap, hrow⟩ := hx
        have hlt : n.toNat < (xs : List fs.Pay).length := toNat_lt c1 c2
        obtain ⟨g, off, rfl, hg, hsg, hrow⟩ := hrow (by omega)
        have hge : (xs : List fs.Pay)[n.toNat]? = some ((xs : List fs.Pay).getD n.toNat fs.dflt) := by
          rw [List.getD_eq_getElem?_getD, List.getElem?_eq_getElem hlt, Option.getD_some]
        refine yields_of (s := Instr.indexAt t (a.eval x) (a.eval i)) (by simp only [execOp, ho]) ⟨_, ⟨g, off + n.toNat * fs.size, rfl, hg, hsg, hrow _ _ hge⟩, fun w' _ => ?_⟩
        rw [hxe, hi]
        have hc2 : 0 ≤ n ∧ n < ((xs : List fs.Pay).length : Int) := ⟨c1, c2⟩
        simp [Instr.indexAt, run_underlying hs, asIntOf, hc2, sizeB_run hz, add_plain2]
    · rename_i e r k n hs hp hq
      rw [hp] at hx
      rw [hq] at hi
      have hi : a.eval i = .int k n := hi
      split at h
      · rename_i y hy
        cases hz : (sizeB P e == some y.fs.size)
        · rw [hz] at h; cases h
        · rw [hz] at h
          have hz : sizeB P e = some y.fs.size := by simpa using hz
          injection h with h1 h2; subst h2; subst h1
          obtain ⟨c1, c2⟩ := hc
          have hlt : n.toNat < y.xs.length := toNat_lt c1 c2
          obtain ⟨hxe, _⟩ := hx
          obtain ⟨cells, hown, _⟩ := hR.row r y hy
          obtain ⟨A, c', he⟩ := owns_slice hown
          have hA : ∃ g, A = some ⟨g, 0, none⟩ := by
            rcases hown.2 with ⟨_, h0⟩ | ⟨g, cap, cur, hv, _⟩
            · omega
            · rw [hv] at he; injection he with he; exact ⟨g, he.symm⟩
          obtain ⟨g, rfl⟩ := hA
          refine yields_of (s := Instr.indexAt t (a.eval x) (a.eval i)) (by simp only [execOp, ho]) ⟨_, ⟨g, y.xs.length, c', he, hlt, rfl⟩, fun w' _ => ?_⟩
          rw [hxe, hi, he]
          have hc2 : 0 ≤ n ∧ n < ((y.xs.length : Nat) : Int) := ⟨c1, c2⟩
          simp [Instr.indexAt, run_underlying hs, asIntOf, hc2, sizeB_run hz, add_plain2]
      · cases h
    · cases h
  · -- index
    rename_i t x i ho
    have hx := hR.ev x
    have hi := hR.ev i
    split at h
    · rename_i s k n hs hp hq
      rw [hp] at hx
      rw [hq] at hi
      have hi : a.eval i = .int k n := hi
      have hx : a.eval x = .string (bs s) := hx
      injection h with h1 h2; subst h2; subst h1
      obtain ⟨c1, c2⟩ := hc
      have hlt : n.toNat < (s : List UInt8).length := toNat_lt c1 c2
      refine yields_of (s := Instr.index t (a.eval x) (a.eval i)) (by simp only [execOp, ho]) ⟨_, rep_int, fun w' _ => ?_⟩
      rw [hx, hi, run_index_string w' t (bs s) k n hs]
      have hcc : 0 ≤ n ∧ n < ((bs s).size : Int) := ⟨c1, c2⟩
      rw [dif_pos hcc]
      have : (bs s)[n.toNat]'(by rw [bs_size]; exact hlt) = (s : List UInt8).getD n.toNat 0 := by
        rw [List.getD_eq_getElem?_getD, List.getElem?_eq_getElem hlt, Option.getD_some]
        rfl
      rw [this]
    · cases h
  · -- slice
    rename_i t x lo hi ho
    have hx := hR.ev x
    split at h
    · rename_i s l hs hp hl
      rw [hp] at hx
      have hx : a.eval x = .string (bs s) := hx
      split at h
      · rename_i hh hhi
        injection h with h1 h2; subst h2; subst h1
        refine yields_of (s := Instr.sliceAt t (a.eval x) (lo.map a.eval) (hi.map a.eval) (Option.map a.eval none)) (by simp only [execOp, ho]) ⟨_, rep_str, fun w' _ => ?_⟩
        rw [hx, run_sliceAt_string _ _ _ _ _ _ hs]
        have hb := bounds_run (P := P) hR (isS := false) (cap := (bs s).size) hl hhi hc (Nat.le_refl _) w'
        have e : ((bs s).extract l.toNat hh.toNat) = bs ((s.take hh.toNat).drop l.toNat) := by
          rw [extract_bs, bs_list, List.drop_take]
        simp only [Instr.slice, Sem.run_bind, run_underlying hs, Result.andThen_ok, Option.map_none, Option.isSome_none, Bool.false_eq_true, if_false, Sem.run_pure]
        rw [show (Instr.sliceBounds false (bs s).size (bs s).size (lo.map a.eval) (hi.map a.eval) none).run P w' = .ok (l.toNat, hh.toNat, (bs s).size) w' from hb]
        simp only [Result.andThen_ok]
        rw [e]
      · cases h
    · rename_i e fs xs l hs hp hl
      rw [hp] at hx
      split at h
      · rename_i hh hhi
        cases hz : (sizeB P e == some fs.size)
        · rw [hz] at h; cases h
        · rw [hz] at h
          have hz : sizeB P e = some fs.size := by simpa using hz
          injection h with h1 h2; subst h2; subst h1
          obtain ⟨A, c, hxe, hcap, hrow⟩ := hx
          have hb := fun w' => bounds_run (P := P) hR (isS := true) (cap := c) hl hhi hc hcap w'
          obtain ⟨c1, c2, c3⟩ := hc
          have hel : P.elem t = e := by unfold Program.elem; rw [hs]
          have hs' : P.underlying t = some (.slice (P.elem t)) := by rw [hel]; exact hs
          have hlen : (((xs : List fs.Pay).take hh.toNat).drop l.toNat).length = hh.toNat - l.toNat := by
            rw [List.length_drop, List.length_take, Nat.min_eq_left (by omega)]
          refine yields_of (s := Instr.sliceAt t (a.eval x) (lo.map a.eval) (hi.map a.eval) (Option.map a.eval none)) (by simp only [execOp, ho]) ⟨sliced A l.toNat hh.toNat c fs.size, ?_, fun w' _ => ?_⟩
          · refine ⟨_, c - l.toNat, by unfold sliced; rw [hlen], by rw [hlen]; omega, fun hpos => ?_⟩
            have hpos : 0 < (((xs : List fs.Pay).take hh.toNat).drop l.toNat).length := hpos
            rw [hlen] at hpos
            obtain ⟨g, off, hA, hg, hsg, hrow⟩ := hrow (by omega)
            refine ⟨g, off + l.toNat * fs.size, ?_, hg, hsg, fun i y hy => ?_⟩
            · rw [if_neg (by omega), hA, Option.map_some, add_plain2]
            · have hy : (((xs : List fs.Pay).take hh.toNat).drop l.toNat)[i]? = some y := hy
              rw [List.getElem?_drop, List.getElem?_take] at hy
              split at hy
              · have := hrow _ _ hy
                rw [Nat.add_mul] at this
                rwa [Nat.add_assoc]
              · cases hy
          · rw [hxe, run_sliceAt_slice w' t _ _ _ _ hs', Option.map_none, run_slice_any w' t A _ c hs', hb w', Result.andThen_ok, hel, sizeB_run hz, Result.andThen_ok]
      · cases h
    · cases h
  · -- extract
    rename_i x i ho
    have hx := hR.ev x
    split at h
    · rename_i vs hp
      rw [hp] at hx
      obtain ⟨us, hxe, hsz, hr⟩ := hx
      split at h
      · rename_i y hy
        injection h with h1 h2; subst h2
        obtain ⟨u, hu, hru⟩ := hr i y hy
        exact yields_of (s := Instr.extract (a.eval x) i) (by simp only [execOp, ho]) ⟨u, hru, fun w' _ => by rw [hxe]; simp [Instr.extract, hu]⟩
      · cases h
    · cases h
  · -- build
    rename_i t parts ho
    split at h
    · rename_i fields cs hs hz
      split at h
      · rename_i places hpl
        split at h
        · rename_i l hl
          injection h with h1 h2; subst h2
          obtain ⟨it, z, hit, hzz, hcs⟩ := zeroCells_sound (κ := κ) (w := w) hz
          obtain ⟨us, hfill, hus⟩ := buildParts_sound hR places (places.toArray[·]?) (fun i q hq => by simpa using hq) parts.toList cs l z.cells hl hcs
          refine yields_of (s := Instr.build t (parts.map fun (i, x) => (i, a.eval x))) (by simp only [execOp, ho]) ⟨.agg us, ⟨us, rfl, hus⟩, fun w' _ => ?_⟩
          refine run_build w' t _ us ?_
          unfold Program.built
          rw [hit, hs]
          unfold placesOf at hpl
          simp only [hzz, hpl]
          rw [← hfill]
          congr 1
          simp
        · cases h
      · cases h
    · cases h
  · -- len
    rename_i args argTypes ho
    split at h
    · rename_i x t hx ht
      have ha : args = #[x] := by cases args; simp_all
      have hT : argTypes = #[t] := by cases argTypes; simp_all
      subst ha; subst hT
      have he : execOp a.eval o = (do let x ← Builtin.len_ #[t] o.type #[a.eval x]; pure (Next.value x)) := by
        simp [execOp, ho, resolve, invoke, builtin]
      split at h
      · rename_i hu
        obtain ⟨u, hr, hw⟩ := lenGot_sound hR (ty := o.type) h (hR.ev x) hu (fun _ => rfl) (fun h => by cases h)
        exact yields_of he ⟨u, hr, fun w' _ => hw w'⟩
      · rename_i e hu
        obtain ⟨u, hr, hw⟩ := lenGot_sound hR (ty := o.type) h (hR.ev x) hu (fun h => by cases h) (fun _ => ⟨e, rfl⟩)
        exact yields_of he ⟨u, hr, fun w' _ => hw w'⟩
      · cases h
    · cases h
  · cases h
end
end R
end Go.Proofs.YtgjdbnkeamjhhaaDoor

/-
  What is to be shown of a function's code, in plain terms: its operations, regions, branches and loops over what is known.
-/
set_option linter.unusedVariables false
namespace Go.Proofs.YtgjdbnkeamjhhaaDoor
open Go.RowKit
namespace R

mutual
def Kd.deq : (k k' : Kd) → Option (PLift (k = k'))
  | .int a, .int b => if h : a = b then some ⟨by rw [h]⟩ else none
  | .bool, .bool => some ⟨rfl⟩
  | .str, .str => some ⟨rfl⟩
  | .sl fs, .sl gs => match fs.deq gs with
    | some ⟨h⟩ => some ⟨by rw [h]⟩
    | none => none
  | _, _ => none
def Kds.deq : (k k' : Kds) → Option (PLift (k = k'))
  | .one a, .one b => match a.deq b with
    | some ⟨h⟩ => some ⟨by rw [h]⟩
    | none => none
  | .cons a xs, .cons b ys => match a.deq b, xs.deq ys with
    | some ⟨h⟩, some ⟨h'⟩ => some ⟨by rw [h, h']⟩
    | _, _ => none
  | _, _ => none
end

/-- an argument's or a result's kind -/
inductive CK where
  | one (k : Kd)
  | agg (ks : Kds)
@[reducible] def CK.Pay : CK → Type
  | .one k => k.Pay
  | .agg ks => ks.Pay
@[reducible] def Pays : List CK → Type
  | [] => Unit
  | [x] => x.Pay
  | x :: y :: r => x.Pay × Pays (y :: r)

def Kds.cells : (ks : Kds) → ks.Pay → List Cell
  | .one k, p => [.val k p]
  | .cons k ks, p => .val k p.1 :: ks.cells p.2
def CK.comp : (x : CK) → x.Pay → Comp
  | .one k, p => .one (.val k p)
  | .agg ks, p => .agg (ks.cells p)
def compsOf : (l : List CK) → Pays l → List Comp
  | [], _ => []
  | [x], p => [x.comp p]
  | x :: y :: r, p => x.comp p.1 :: compsOf (y :: r) p.2

def takeCell (k : Kd) : Cell → Option k.Pay
  | .val k' p => match k'.deq k with
    | some ⟨h⟩ => some (h ▸ p)
    | none => none
  | .nil => match k with
    | .sl fs => some ([] : List fs.Pay)
    | _ => none
  | _ => none
def takeCells : (ks : Kds) → List Cell → Option ks.Pay
  | .one k, [c] => takeCell k c
  | .cons k ks, c :: cs => match takeCell k c, takeCells ks cs with
    | some p, some q => some (p, q)
    | _, _ => none
  | _, _ => none
def takeComp : (x : CK) → Comp → Option x.Pay
  | .one k, .one c => takeCell k c
  | .agg ks, .agg cs => takeCells ks cs
  | _, _ => none
def takeAll : (l : List CK) → List AV → Option (Pays l)
  | [], [] => some ()
  | [x], [.c y] => takeComp x y
  | x :: y :: r, .c z :: zs => match takeComp x z, takeAll (y :: r) zs with
    | some p, some q => some (p, q)
    | _, _ => none
  | _, _ => none

/-- what a function takes and gives -/
structure Con where
  f : FuncId
  args : List CK
  res : List CK
  pre : Pays args → Prop
  post : Pays args → Pays res → Prop
  fn : Option (Pays args → Pays res) := none
/-- a function whose results are reckoned -/
def Con.of (f : FuncId) (args res : List CK) (pre : Pays args → Prop) (F : Pays args → Pays res) : Con := { f := f, args := args, res := res, pre := pre, post := fun p r => r = F p, fn := some F }
def Kd.flat : Kd → Bool
  | .sl _ => false
  | _ => true
def CK.flat : CK → Bool
  | .one k => k.flat
  | .agg _ => false
def resAV (l : List CK) (r : Pays l) : AV :=
  match compsOf l r with
  | [x] => .c x
  | xs => .tup xs
def conOf (f : FuncId) : List Con → Option Con
  | [] => none
  | c :: r => bif c.f.beq f then some c else conOf f r

def Cell.forget (b : Nat) : Cell → Cell
  | .ptr b' off => bif b'.beq b then .any else .ptr b' off
  | c => c
def Comp.forget (b : Nat) : Comp → Comp
  | .one c => .one (c.forget b)
  | .agg cs => .agg (cs.map (Cell.forget b))
def AV.forget (b : Nat) : AV → AV
  | .c x => .c (x.forget b)
  | .tup xs => .tup (xs.map (Comp.forget b))
def dropBox (b : Nat) : List (Nat × List Cell) → List (Nat × List Cell)
  | [] => []
  | (b', cs) :: r => bif b'.beq b then dropBox b r else (b', cs.map (Cell.forget b)) :: dropBox b r
/-- a new variable, number d -/
def St.newBox (st : St) (d : Nat) (cs : List Cell) : St :=
  { n := st.n, env := (d, .c (.one (.ptr d 0))) :: st.env.map (fun (t, v) => (t, v.forget d)), boxes := (d, cs.map (Cell.forget d)) :: dropBox d st.boxes, rows := st.rows }
def St.setBox (st : St) (b : Nat) (cs : List Cell) : St := { st with boxes := (b, cs) :: st.boxes }
def Cell.dropRow (r : Nat) : Cell → Cell
  | .own r' => bif r'.beq r then .any else .own r'
  | .rp r' sz i f => bif r'.beq r then .any else .rp r' sz i f
  | c => c
/-- what is read of row r from now on is read as data -/
def Cell.thaw (r : Nat) (x : Row) : Cell → Cell
  | .own r' => bif r'.beq r then .val (.sl x.fs) x.xs else .own r'
  | .rp r' sz i f => bif r'.beq r then .any else .rp r' sz i f
  | c => c
def Comp.mapC (g : Cell → Cell) : Comp → Comp
  | .one c => .one (g c)
  | .agg cs => .agg (cs.map g)
def AV.mapC (g : Cell → Cell) : AV → AV
  | .c x => .c (x.mapC g)
  | .tup xs => .tup (xs.map (Comp.mapC g))
def dropKey {α : Type} (r : Nat) : List (Nat × α) → List (Nat × α)
  | [] => []
  | (k, v) :: l => bif k.beq r then dropKey r l else (k, v) :: dropKey r l
def St.mapC (st : St) (g : Cell → Cell) : St := { st with env := st.env.map (fun (t, v) => (t, v.mapC g)), boxes := st.boxes.map (fun (b, cs) => (b, cs.map g)) }
/-- a new row, or a row anew -/
def St.setRow (st : St) (r : Nat) (x : Row) : St := { st.mapC (Cell.dropRow r) with rows := (r, x) :: dropKey r st.rows }
def St.freeze (st : St) (r : Nat) : St :=
  match st.row r with
  | some x => { st.mapC (Cell.thaw r x) with rows := dropKey r st.rows }
  | none => st
def ownsC : List Cell → List Nat
  | [] => []
  | .own r :: l => r :: ownsC l
  | _ :: l => ownsC l
def ownsA : List AV → List Nat
  | [] => []
  | .c (.one c) :: l => ownsC [c] ++ ownsA l
  | .c (.agg cs) :: l => ownsC cs ++ ownsA l
  | _ :: l => ownsA l
def St.freezeAll (st : St) : List Nat → St
  | [] => st
  | r :: l => (st.freeze r).freezeAll l
def keysOf {α : Type} : List (Nat × α) → List Nat
  | [] => []
  | (k, _) :: l => k :: keysOf l
/-- an element's cells and bytes -/
def rowInfo (P : Program) (e : TypeId) : Option (Nat × Nat) :=
  match P.info? e with
  | some i => match i.zero with
    | some z => bif z.cells.size.beq i.size && Nat.blt 0 i.size && Nat.blt 0 i.bytes && z.cells.toList.all (·.oneCell') then some (i.size, i.bytes) else none
    | none => none
  | none => none
mutual
def kdOf (P : Program) : Nat → TypeId → Option Kd
  | 0, _ => none
  | n + 1, t => match P.underlying t with
    | some (.int k) => some (.int k)
    | some .bool => some .bool
    | some .string => some .str
    | some (.slice e) => (kdsOf P n e).map .sl
    | _ => none
def kdsOf (P : Program) : Nat → TypeId → Option Kds
  | 0, _ => none
  | n + 1, t => match P.underlying t with
    | some (.struct fs) => kdsAll P n (fs.toList.map (·.type))
    | _ => (kdOf P n t).map .one
def kdsAll (P : Program) : Nat → List TypeId → Option Kds
  | 0, _ => none
  | n + 1, [] => none
  | n + 1, [t] => kdsOf P n t
  | n + 1, t :: l => match kdOf P n t, kdsAll P n l with
    | some k, some ks => some (.cons k ks)
    | _, _ => none
end
/-- a row's elements out of its cells -/
def rowsFrom (fs : Kds) : Nat → List Cell → Option (List fs.Pay)
  | 0, [] => some []
  | 0, _ :: _ => none
  | n + 1, l => match takeCells fs (l.take fs.size), rowsFrom fs n (l.drop fs.size) with
    | some x, some xs => some (x :: xs)
    | _, _ => none
/-- what is appended -/
def srcOf (st : St) (e : TypeId) : AV → Option Row
  | .c (.one (.own r)) => st.row r
  | .c (.one (.val (.sl fs) xs)) => some ⟨e, fs, xs⟩
  | _ => none
def isOwn (r : Nat) : AV → Bool
  | .c (.one (.own r')) => r'.beq r
  | _ => false
def castRow {a b : Kds} (h : a = b) (xs : List a.Pay) : List b.Pay := h ▸ xs
def putOk (st : St) : Option Nat → Bool
  | some d => Nat.blt d st.n
  | none => true
def evs (st : St) : List Operand → List AV
  | [] => []
  | x :: r => st.ev x :: evs st r

/-- operations that ask nothing -/
def freeOp : Op → Bool
  | .move _ | .assign _ | .pick _ _ _ | .load _ _ | .nilCheck _ | .fieldAddr _ _ _ | .field _ _ _ | .convert _ _ _ | .extract _ _ | .build _ _ => true
  | .unOp .not _ _ => true
  | .binOp op _ _ _ _ => match op with
    | .eql | .neq | .lss | .leq | .gtr | .geq => true
    | _ => false
  | .call { callee := .builtin .len, .. } => true
  | _ => false
def asks (op : Op) (c k : Prop) : Prop := bif freeOp op then k else c ∧ k
/-- a call, its owned rows handed on as data -/
def vcall (c : Con) (xs : List AV) (o : Oper) (st : St) (args : Array Operand) (K : St → Prop) : Prop :=
  match takeAll c.args (evs (st.freezeAll (ownsA xs)) args.toList) with
  | some p => bif putOk st o.dst then c.pre p ∧ (match c.fn with
      | some F => K ((st.freezeAll (ownsA xs)).put o.dst (resAV c.res (F p)))
      | none => ∀ r, c.post p r → K ((st.freezeAll (ownsA xs)).put o.dst (resAV c.res r))) else False
  | none => False
/-- an operation in its place -/
def vop (P : Program) (cons : List Con) (o : Oper) (st : St) (K : St → Prop) : Prop :=
  match o.op with
  | .alloc e => match o.dst, zeroCells P e with
    | some d, some cs => bif Nat.blt d st.n then K (st.newBox d cs) else False
    | _, _ => False
  | .box _ x => match o.dst, compCells (st.ev x) with
    | some d, some cs => bif Nat.blt d st.n then K (st.newBox d cs) else False
    | _, _ => False
  | .store t x y => match st.ev x, compCells (st.ev y), sizeB P t with
    | .c (.one (.ptr b off)), some cs, some n => bif n.beq cs.length && putOk st o.dst then
        match st.box b with
        | some bs => match setCells bs off cs with
          | some bs' => K ((st.setBox b bs').put o.dst (.c (.one .undef)))
          | none => False
        | none => False
      else False
    | _, _, _ => False
  | .call { callee := .value (.func f), args, argTypes } => match conOf f cons with
    | some c => vcall c (evs st args.toList) o st args K
    | none => False
  | .call { callee := .builtin .append, args, argTypes } => match args.toList, argTypes.toList, o.dst with
    | [s, x], [t, t'], some d => match P.underlying t, srcOf st 0 (st.ev x) with
      | some (.slice e), some z => match rowInfo P e with
        | some (size, bytes) => match st.ev s with
          | .c (.one (.own r)) => match st.row r with
            | some y => match z.fs.deq y.fs with
              | some ⟨h⟩ => bif t'.beq t && y.e.beq e && y.fs.size.beq size && Nat.blt d st.n && !isOwn r (st.ev x) then
                  (y.xs.length + z.xs.length) * bytes ≤ 140737488355328 ∧ K ((st.setRow r ⟨e, y.fs, y.xs ++ castRow h z.xs⟩).set d (.c (.one (.own r))))
                else False
              | none => False
            | none => False
          | .c (.one .nil) => bif t'.beq t && z.fs.size.beq size && Nat.blt d st.n then
              z.xs.length * bytes ≤ 140737488355328 ∧ K ((st.setRow d ⟨e, z.fs, z.xs⟩).set d (.c (.one (.own d))))
            else False
          | _ => False
        | none => False
      | _, _ => False
    | _, _, _ => False
  | .buildSlice t len parts => match P.underlying t, o.dst with
    | some (.slice e), some d => match rowInfo P e, kdsOf P 20 e with
      | some (size, _), some fs => match buildParts st ((List.range len).map fun i => (i * size, size)) (List.replicate (len * size) .any) parts.toList with
        | some l => match rowsFrom fs len l with
          | some xs => bif fs.size.beq size && Nat.blt d st.n && Nat.ble (len * size) 16777216 then K ((st.setRow d ⟨e, fs, xs⟩).set d (.c (.one (.own d)))) else False
          | none => False
        | none => False
      | _, _ => False
    | _, _ => False
  | op => match rop P st op with
    | .ok c v => bif putOk st o.dst then asks o.op c (K (st.put o.dst v)) else False
    | .no => False
/-- an operation of a region that draws: one value, whatever the order -/
def vopQ (P : Program) (cons : List Con) (o : Oper) (st : St) (K : St → Prop) : Prop :=
  match o.op with
  | .call { callee := .value (.func f), args, argTypes } => match conOf f cons with
    | some c => match takeAll c.args (evs (st.freezeAll (ownsA (evs st args.toList))) args.toList) with
      | some p => bif putOk st o.dst && c.res.all CK.flat then c.pre p ∧ (match c.fn with
          | some F => K ((st.freezeAll (ownsA (evs st args.toList))).put o.dst (resAV c.res (F p)))
          | none => (∃ r, c.post p r ∧ ∀ r', c.post p r' → r' = r) ∧ ∀ r, c.post p r → K ((st.freezeAll (ownsA (evs st args.toList))).put o.dst (resAV c.res r))) else False
      | none => False
    | none => False
  | op => match rop P st op with
    | .ok c v => bif putOk st o.dst then asks o.op c (K (st.put o.dst v)) else False
    | .no => False

/-- what an operation's guard says: run it, pass it over, or part -/
inductive Way where
  | run
  | skip
  | part (t : Nat) (b want : Bool)
  | no
def wayOf (ops : List Oper) (st : St) (o : Oper) : Way :=
  match o.guard with
  | none => .run
  | some (j, want) => match (ops[j]?).bind (·.dst) with
    | some t => match st.get t with
      | .c (.one (.val .bool b)) => .part t b want
      | .c (.one .undef) => .skip
      | _ => .no
    | none => .no
def vgo (V : Oper → St → (St → Prop) → Prop) (o : Oper) (st : St) (w : Way) (K : St → Prop) : Prop :=
  match w with
  | .run => V o st K
  | .skip => bif putOk st o.dst then K (st.put o.dst (.c (.one .undef))) else False
  | .part t b want => bif putOk st o.dst then
      bif b then (bif want then V o (st.set t (bool true)) K else K ((st.set t (bool true)).put o.dst (.c (.one .undef))))
      else (bif want then K ((st.set t (bool false)).put o.dst (.c (.one .undef))) else V o (st.set t (bool false)) K)
    else False
  | .no => False
def vops (V : Oper → St → (St → Prop) → Prop) (ops : List Oper) : List Oper → St → (St → Prop) → Prop
  | [], st, K => K st
  | o :: r, st, K => vgo V o st (wayOf ops st o) fun st' => vops V ops r st' K

def scalarCall (cons : List Con) : Op → Bool
  | .alloc _ | .box _ _ | .store _ _ _ | .buildSlice _ _ _ | .makeSlice _ _ _ | .makeMap _ _ => false
  | .call { callee := .value (.func f), .. } => match conOf f cons with
    | some c => c.res.all CK.flat
    | none => false
  | .call { callee := .builtin b, .. } => match b with
    | .append | .copy | .delete | .clear => false
    | _ => true
  | _ => true
def firstLoud (cons : List Con) : List Oper → Nat
  | [] => 0
  | o :: r => bif scalarCall cons o.op then firstLoud cons r + 1 else 0
/-- operations that leave the old memory as it is -/
def growOp : Op → Bool
  | .store _ _ _ => false
  | .call { callee := .builtin b, .. } => match b with
    | .len => true
    | _ => false
  | _ => true
/-- operations that only read -/
def ropOp : Op → Bool
  | .alloc _ | .box _ _ | .store _ _ _ | .buildSlice _ _ _ => false
  | .call { callee := .builtin .len, .. } => true
  | .call _ => false
  | _ => true
def growAt (ops : Array Oper) (j : Nat) : Bool := match ops[j]? with
  | some o => growOp o.op
  | none => true
/-- those that wait for number i, at last -/
def waiters (ops : Array Oper) (i : Nat) : List Nat :=
  (List.range ops.size).foldl (fun acc j => match ops[j]? with
    | some oj => bif oj.after.any (fun e => Region.binds .any e && (e.on.beq i || acc.contains e.on)) then j :: acc else acc
    | none => acc) []
def canTake (ops : Array Oper) (listed : Array Bool) (i : Nat) : Bool := match ops[i]? with
  | some oi => ropOp oi.op && (Region.free .any ops listed i && (List.range ops.size).all fun j => j.beq i || (listed.getD j true || (growAt ops j || (waiters ops i).contains j)))
  | none => false
/-- the next operation of a region that draws: one that only reads, or the only one that may come up -/
def schedStep (ops : Array Oper) (listed : Array Bool) : Option (Nat × Bool) :=
  match (Region.ready .any ops listed).find? (canTake ops listed) with
  | some i => some (i, true)
  | none => match Region.ready .any ops listed with
    | [k] => some (k, false)
    | _ => none
def schedFrom (ops : Array Oper) : Nat → Array Bool → Option (List Nat)
  | 0, listed => match Region.ready .any ops listed with
    | [] => some []
    | _ => none
  | f + 1, listed => match Region.ready .any ops listed with
    | [] => some []
    | _ => match schedStep ops listed with
      | some (i, _) => match schedFrom ops f (listed.setIfInBounds i true) with
        | some r => some (i :: r)
        | none => none
      | none => none
def sched (ops : Array Oper) : Option (List Nat) := bif Region.noSelect ops then schedFrom ops ops.size (Array.replicate ops.size false) else none
def pick (ops : List Oper) : List Nat → List Oper
  | [] => []
  | i :: r => match ops[i]? with
    | some o => o :: pick ops r
    | none => pick ops r
def vregion (P : Program) (cons : List Con) (ops : List Oper) (draw : Bool) (st : St) (K : St → Prop) : Prop :=
  bif draw then
    bif Region.lexB .any ops.toArray && (firstLoud cons ops).beq ops.length then vops (vopQ P cons) ops ops st K
    else bif Region.lexTailB .any ops.toArray (firstLoud cons ops) then
      vops (vopQ P cons) ops (ops.take (firstLoud cons ops)) st fun st' => vops (vop P cons) ops (ops.drop (firstLoud cons ops)) st' K
    else bif lexMidB .any ops.toArray (firstLoud cons ops) then
      vops (vopQ P cons) ops (ops.take (firstLoud cons ops)) st fun st' => vops (vop P cons) ops ((ops.drop (firstLoud cons ops)).take 1) st' fun st'' =>
        vops (vopQ P []) ops (ops.drop (firstLoud cons ops + 1)) st'' K
    else match sched ops.toArray with
      | some ord => vops (vop P cons) ops (pick ops ord) st K
      | none => False
  else vops (vop P cons) ops ops st K

def leCell (st : St) : Cell → Cell → Prop
  | _, .any => True
  | .undef, .undef => True
  | .nil, .nil => True
  | .nil, .val (.sl fs) xs => ([] : List fs.Pay) = xs
  | .nil, .own r => match st.row r with
    | none => True
    | some _ => False
  | .own r, .own r' => bif r.beq r' then (match st.row r with | some _ => True | none => False) else False
  | .val k p, .val k' p' => match k.deq k' with
    | some ⟨h⟩ => h ▸ p = p'
    | none => False
  | .ptr b o, .ptr b' o' => bif b.beq b' && o.beq o' then True else False
  | .fn f, .fn f' => bif f.beq f' then True else False
  | _, _ => False
def leCells (st : St) : List Cell → List Cell → Prop
  | [], [] => True
  | c :: r, c' :: r' => leCell st c c' ∧ leCells st r r'
  | _, _ => False
def leAV (st : St) : AV → AV → Prop
  | .c (.one c), .c (.one c') => leCell st c c'
  | .c (.agg cs), .c (.agg cs') => leCells st cs cs'
  | _, .c (.one .any) => True
  | _, _ => False
def leEnv (st : St) : List (Nat × AV) → Prop
  | [] => True
  | (t, v) :: r => leAV st (st.get t) v ∧ leEnv st r
def leBoxes (st : St) : List (Nat × List Cell) → Prop
  | [] => True
  | (b, cs) :: r => (match st.box b with | some bs => leCells st bs cs | none => False) ∧ leBoxes st r
def leRow (st : St) (r : Nat) (y : Row) : Prop :=
  match st.row r with
  | some x => match x.fs.deq y.fs with
    | some ⟨h⟩ => bif x.e.beq y.e then castRow h x.xs = y.xs else False
    | none => False
  | none => y.xs = []
def leRows (st : St) : List (Nat × Row) → Prop
  | [] => True
  | (r, y) :: l => leRow st r y ∧ leRows st l
/-- st' says no more than st -/
def St.le (st st' : St) : Prop := leEnv st st'.env ∧ leBoxes st st'.boxes ∧ leRows st st'.rows ∧ (bif st.n.beq st'.n then True else False)
/-- a loop's heads: a state for each parameter, what holds of it, and what shrinks -/
structure Ann where
  ι : Type
  at_ : St → ι → St
  inv : St → ι → Prop
  mu : St → ι → Nat
/-- a loop's head: these slots stay as they are, these are given -/
def St.head (st : St) (live : List Nat) (over : List (Nat × AV)) (rows : List (Nat × Row)) : St := { n := st.n, env := over ++ live.map (fun t => (t, st.get t)), boxes := st.boxes, rows := rows }
def annR (l : Nat) (ι : Type) (live : List Nat) (over : ι → List (Nat × AV)) (rows : ι → List (Nat × Row)) (inv : ι → Prop) (mu : ι → Nat) : Nat × Ann := (l, { ι := ι, at_ := fun st p => st.head live (over p) (rows p), inv := fun _ p => inv p, mu := fun _ p => mu p })
def ann (l : Nat) (ι : Type) (live : List Nat) (over : ι → List (Nat × AV)) (inv : ι → Prop) (mu : ι → Nat) : Nat × Ann := annR l ι live over (fun _ => []) inv mu
def ownAV (r : Nat) : AV := .c (.one (.own r))
structure Post where
  normal : St → Prop
  exit : Nat → St → Prop
  ret : St → Prop
def Post.block (Q : Post) (id : Nat) : Post := { normal := Q.normal, exit := fun i st => bif i.beq id then Q.normal st else Q.exit i st, ret := Q.ret }
def Post.then (Q : Post) (K : St → Prop) : Post := { Q with normal := K }
def know (st : St) (c : Operand) (b : Bool) : St :=
  match c with
  | .tmp t => st.set t (bool b)
  | _ => st
def annOf (l : Nat) : List (Nat × Ann) → Option Ann
  | [] => none
  | (k, a) :: r => bif k.beq l then some a else annOf l r
def vc (P : Program) (cons : List Con) (anns : List (Nat × Ann)) : Code → Nat → St → Post → Prop
  | .skip, _, st, Q => Q.normal st
  | .region _ ops draw, _, st, Q => vregion P cons ops.toList draw st Q.normal
  | .seq a b, l, st, Q => vc P cons anns a l st (Q.then fun st' => vc P cons anns b l st' Q)
  | .cond c x y, l, st, Q => match st.ev c with
    | .c (.one (.val .bool b)) => bif b then vc P cons anns x l (know st c true) Q else vc P cons anns y l (know st c false) Q
    | _ => False
  | .block id c, _, st, Q => vc P cons anns c id st (Q.block id)
  | .loop c, l, st, Q => match annOf l anns with
    | some A => (∃ p, A.inv st p ∧ st.le (A.at_ st p)) ∧
        ∀ p, A.inv st p → vc P cons anns c l (A.at_ st p) (Q.then fun st' => ∃ p', A.inv st p' ∧ A.mu st p' < A.mu st p ∧ st'.le (A.at_ st p'))
    | none => False
  | .exit id, _, st, Q => Q.exit id st
  | .ret, _, st, Q => Q.ret st
  | _, _, _, _ => False
end R
end Go.Proofs.YtgjdbnkeamjhhaaDoor

/-
  What an operation leaves, new variables, stores and calls among them, is as is known behind it.
-/
set_option linter.unusedVariables false
namespace Go.Proofs.YtgjdbnkeamjhhaaDoor
open Go.RowKit
namespace R
section
variable {w0 : Base} {w w' : World} {κ : Cx} {st : St} {a : Act} {P : Program}

/-- what changes block g alone -/
structure Only (g : Nat) (w w' : World) : Prop where
  os : w'.os = w.os
  tape : w'.tape = w.tape
  output : w'.output = w.output
  size : w'.heap.size = w.heap.size
  block : ∀ k, k ≠ g → w'.heap[k]? = w.heap[k]?
theorem Only.refl (g : Nat) (w : World) : Only g w w := ⟨rfl, rfl, rfl, rfl, fun _ _ => rfl⟩
theorem Only.set {g : Nat} (h : Only g w w') (i : Nat) (v : Value) : Only g w (w'.setCell ⟨g, i, none⟩ v) :=
  ⟨h.os, h.tape, h.output, by rw [World.size_setCell]; exact h.size, fun k hk => (Below.heap_setCell w' ⟨g, i, none⟩ v k hk).trans (h.block k hk)⟩
theorem Only.keeps {g : Nat} (h : Only g w w') {S : Nat → Prop} (hS : ¬ S g) : Keeps w w' S :=
  ⟨Nat.le_of_eq h.size.symm, fun k o hk _ => World.cell?_of_block (h.block k (fun e => hS (e ▸ hk)))⟩
theorem Only.below {g B : Nat} (h : Only g w w') {w0 : World} (hb : Below B w0 w) (hg : B ≤ g) : Below B w0 w' :=
  ⟨h.os.trans hb.os, h.tape.trans hb.tape, h.output.trans hb.output, by rw [h.size]; exact hb.size, fun k hk => (h.block k (by omega)).trans (hb.block k hk)⟩
theorem Only.blk {g k : Nat} (h : Only g w w') (hk : k ≠ g) {t : TypeId} {cs : Array Value} (hb : Blk w k t cs) : Blk w' k t cs := (h.block k hk).trans hb
theorem Only.owns {g base : Nat} (h : Only g w w') {e : TypeId} {size n : Nat} {v : Value} {xs : List Value} (ho : w.ownsRow base e size v n xs) (hg : v.ownBlock ≠ some g) : w'.ownsRow base e size v n xs := by
  refine ⟨ho.1, ?_⟩
  rcases ho.2 with h1 | ⟨g2, cap, cur, h1, h2, h3, h4⟩
  · exact .inl h1
  · refine .inr ⟨g2, cap, cur, h1, h2, (h.block g2 (fun e => hg ?_)).trans h3, h4⟩
    subst h1; subst e; rfl
/-- the cells of one block are written, one after the other -/
theorem run_storeCells {g : Nat} {ty : TypeId} : ∀ (vs : List Value) (off i : Nat) (us : Array Value) (w : World), Blk w g ty us → (∀ v ∈ vs, v.oneCell' = true) → (0 < vs.length → off + i + vs.length ≤ us.size) →
    ∃ w', (Go.storeCells ⟨g, off, none⟩ vs i).run P w = .ok () w' ∧ Only g w w' ∧ Blk w' g ty ((vs.zipIdx i).foldl (fun cs (c, j) => cs.setIfInBounds (off + j) c) us)
  | [], off, i, us, w, hb, ho, hs => ⟨w, rfl, Only.refl g w, hb⟩
  | v :: vs, off, i, us, w, hb, ho, hs => by
    have hs := hs (by simp)
    rw [List.length_cons] at hs
    have hlt : off + i < us.size := by omega
    have hc : w.cell? ⟨g, off + i, none⟩ = some us[off + i] := (hb.cell (off + i)).trans (Array.getElem?_eq_getElem hlt)
    have hf : w.frozen? ⟨g, off + i, none⟩ = false := hb.frozen (off + i)
    obtain ⟨w', h1, h2, h3⟩ := run_storeCells vs off (i + 1) (us.setIfInBounds (off + i) v) (w.setCell ⟨g, off + i, none⟩ v) (hb.set_ (off + i) v) (fun u hu => ho u (List.mem_cons_of_mem _ hu)) (fun _ => by rw [Array.size_setIfInBounds]; omega)
    refine ⟨w', ?_, ?_, ?_⟩
    · unfold Go.storeCells
      rw [add_plain2, Sem.run_bind, run_store P w _ v _ (ho v List.mem_cons_self), hc]
      simp only [hf, Bool.false_eq_true, if_false, Result.andThen_ok]
      exact h1
    · have := Only.set (Only.refl g w) (off + i) v
      exact ⟨h2.os.trans this.os, h2.tape.trans this.tape, h2.output.trans this.output, h2.size.trans this.size, fun k hk => (h2.block k hk).trans (this.block k hk)⟩
    · rw [List.zipIdx_cons, List.foldl_cons]
      exact h3

theorem setCells_le : ∀ (l bs r : List Cell) (off : Nat), setCells bs off l = some r → 0 < l.length → off + l.length ≤ bs.length
  | [], bs, r, off, h, h0 => absurd h0 (Nat.lt_irrefl _)
  | x :: l, bs, r, off, h, h0 => by
    have h : (bif Nat.blt off bs.length then setCells (bs.set off x) (off + 1) l else none) = some r := h
    cases hb : Nat.blt off bs.length
    · rw [hb] at h; cases h
    · rw [hb] at h
      rw [Nat.blt_eq] at hb
      rw [List.length_cons]
      rcases Nat.eq_zero_or_pos l.length with e | e
      · omega
      · have := setCells_le l _ r (off + 1) h e
        rw [List.length_set] at this
        omega
theorem forget_rep {κ' : Cx} {d : Nat} (hβ : ∀ b, b ≠ d → κ'.β b = κ.β b) (hρ : κ'.ρ = κ.ρ) (hk : Keeps w w' κ.S) (hS : ∀ g, κ.S g → g < w.heap.size → κ'.S g) {c : Cell} {v : Value} (h : c.Rep κ w v) : (c.forget d).Rep κ' w' v := by
  cases c with
  | ptr b off =>
    show Cell.Rep κ' w' (bif b.beq d then .any else .ptr b off) v
    cases hb : b.beq d
    · have hne : b ≠ d := fun e => by rw [e, Nat.beq_refl] at hb; cases hb
      show v = _
      rw [hβ b hne]; exact h
    · trivial
  | any => trivial
  | undef => exact h
  | nil => exact h
  | val k p => exact Kd.Rep.keeps hk hS k p v h
  | ep fs p f =>
    obtain ⟨g, o, rfl, hg, hs, hr⟩ := h
    exact ⟨g, o, rfl, Nat.lt_of_lt_of_le hg hk.size, hS g hs hg, Kds.Rep.keeps hk hS fs p g o hs hg hr⟩
  | own r => show v = _ ∧ _; rw [hρ]; exact h
  | rp r sz i f => show ∃ g n c, _ ∧ _; rw [hρ]; exact h
  | fn f => exact h
theorem forget_cells {κ' : Cx} {d : Nat} (H : ∀ (c : Cell) v, c.Rep κ w v → (c.forget d).Rep κ' w' v) {cs : List Cell} {vs : Array Value} (h : CellsRep κ w cs vs) : CellsRep κ' w' (cs.map (Cell.forget d)) vs :=
  ⟨by rw [List.length_map]; exact h.1, fun i c hc => by
    rw [List.getElem?_map] at hc
    cases hx : cs[i]? with
    | none => rw [hx] at hc; cases hc
    | some x =>
      rw [hx] at hc; injection hc with hc; subst hc
      obtain ⟨v, hv, hr⟩ := h.2.1 i x hx
      exact ⟨v, hv, H x v hr⟩, h.2.2⟩
theorem forget_comp {κ' : Cx} {d : Nat} (H : ∀ (c : Cell) v, c.Rep κ w v → (c.forget d).Rep κ' w' v) {x : Comp} {v : Value} (h : x.Rep κ w v) : (x.forget d).Rep κ' w' v := by
  cases x with
  | one c => exact H c v h
  | agg cs => obtain ⟨vs, rfl, h⟩ := h; exact ⟨vs, rfl, forget_cells H h⟩
theorem forget_av {κ' : Cx} {d : Nat} (H : ∀ (c : Cell) v, c.Rep κ w v → (c.forget d).Rep κ' w' v) {x : AV} {v : Value} (h : x.Rep κ w v) : (x.forget d).Rep κ' w' v := by
  cases x with
  | c x => exact forget_comp H h
  | tup xs =>
    obtain ⟨vs, rfl, h1, h2⟩ := h
    exact ⟨vs, rfl, by rw [List.length_map]; exact h1, fun i c hc => by
      rw [List.getElem?_map] at hc
      cases hx : xs[i]? with
      | none => rw [hx] at hc; cases hc
      | some y =>
        rw [hx] at hc; injection hc with hc; subst hc
        obtain ⟨u, hu, hr⟩ := h2 i y hx
        exact ⟨u, hu, forget_comp H hr⟩⟩
theorem look_forget (d t : Nat) : ∀ env : List (Nat × AV), look (.c (.one .any)) t (env.map fun (t, v) => (t, v.forget d)) = (look (.c (.one .any)) t env).forget d
  | [] => rfl
  | (u, v) :: r => by
    rw [List.map_cons, look_cons, look_cons, look_forget d t r]
    split <;> rfl
theorem look_dropBox (d b : Nat) : ∀ boxes : List (Nat × List Cell), look? b (dropBox d boxes) = if b = d then none else (look? b boxes).map (List.map (Cell.forget d))
  | [] => by show none = _; split <;> rfl
  | (u, cs) :: r => by
    have ih := look_dropBox d b r
    show look? b (bif u.beq d then dropBox d r else (u, cs.map (Cell.forget d)) :: dropBox d r) = _
    by_cases e : u = d
    · subst e
      rw [Nat.beq_refl]
      show look? b (dropBox u r) = _
      rw [ih, look?_cons]
      by_cases e2 : b = u
      · rw [if_pos e2, if_pos e2]
      · rw [if_neg e2, if_neg e2, if_neg (fun h => e2 h.symm)]
    · have : u.beq d = false := Bool.eq_false_iff.mpr fun h => e (Nat.eq_of_beq_eq_true h)
      rw [this]
      show look? b ((u, cs.map (Cell.forget d)) :: dropBox d r) = _
      rw [look?_cons, look?_cons, ih]
      by_cases e2 : u = b
      · subst e2
        rw [if_pos rfl, if_pos rfl, if_neg e]; rfl
      · rw [if_neg e2, if_neg e2]

theorem owns_lt {base : Nat} {e : TypeId} {size n : Nat} {v : Value} {xs : List Value} (ho : w.ownsRow base e size v n xs) : ∀ g, v.ownBlock = some g → g < w.heap.size := by
  intro g hg
  rcases ho.2 with ⟨rfl, _⟩ | ⟨g2, cap, cur, rfl, h2, h3, h4⟩
  · cases hg
  · have : g2 = g := by simpa [Value.ownBlock] using hg
    subst this
    exact Blk.lt (t := e) (cs := cur) h3
/-- a new variable -/
theorem Rel.newBox (h : Rel w0 κ st a w) {d : Nat} (hd : d < st.n) {cs : List Cell} {vs : Array Value} (hv : CellsRep κ w cs vs) (ty : TypeId) :
    ∃ κ', Rel w0 κ' (st.newBox d cs) (a.put (some d) (.pointer (some ⟨w.heap.size, 0, none⟩))) (w.alloc (.cells vs ty)) := by
  have hbel : Below w.heap.size w (w.alloc (.cells vs ty)) := bel_alloc (bel_refl w) _
  have hkeep : Keeps w (w.alloc (.cells vs ty)) κ.S := Keeps.below hbel κ.S
  let κ' : Cx := { κ with β := fun b => if b = d then w.heap.size else κ.β b }
  have H : ∀ (c : Cell) v, c.Rep κ w v → (c.forget d).Rep κ' (w.alloc (.cells vs ty)) v := fun c v hr =>
    forget_rep (κ' := κ') (fun b hb => if_neg hb) rfl hkeep (fun g hg _ => hg) hr
  have hbox : ∀ b bs, (st.newBox d cs).box b = some bs → (b = d ∧ bs = cs.map (Cell.forget d)) ∨ (b ≠ d ∧ ∃ bs0, st.box b = some bs0 ∧ bs = bs0.map (Cell.forget d)) := fun b bs hb => by
    have hb : look? b ((d, cs.map (Cell.forget d)) :: dropBox d st.boxes) = some bs := hb
    rw [look?_cons, look_dropBox] at hb
    by_cases e : d = b
    · rw [if_pos e] at hb; injection hb with hb; exact .inl ⟨e.symm, hb.symm⟩
    · rw [if_neg e, if_neg (fun h => e h.symm)] at hb
      refine .inr ⟨fun h => e h.symm, ?_⟩
      cases hx : look? b st.boxes with
      | none => rw [hx] at hb; cases hb
      | some bs0 => rw [hx] at hb; injection hb with hb; exact ⟨bs0, hx, hb.symm⟩
  have hlt : ∀ b bs, st.box b = some bs → κ.β b < w.heap.size := fun b bs hb => by
    obtain ⟨vs, ty, hblk, _⟩ := h.box b bs hb
    exact hblk.lt
  refine ⟨κ', ?_⟩
  exact {
    defers := h.defers
    size := by show (a.tmps.setIfInBounds d _).size = _; rw [Array.size_setIfInBounds]; exact h.size
    env := fun t => by
      show AV.Rep κ' _ (look (.c (.one .any)) t ((d, .c (.one (.ptr d 0))) :: st.env.map fun (t, v) => (t, v.forget d))) ((a.tmps.setIfInBounds d _).getD t Go.undef)
      rw [look_cons]
      by_cases e : d = t
      · subst e
        rw [if_pos rfl]
        have hs : d < a.tmps.size := by rw [h.size]; exact hd
        rw [Array.getD_eq_getD_getElem?, Array.getElem?_setIfInBounds_self_of_lt hs]
        show Value.pointer _ = Value.pointer (some ⟨if d = d then w.heap.size else κ.β d, 0, none⟩)
        rw [if_pos rfl]
      · rw [if_neg e, look_forget, Array.getD_eq_getD_getElem?, Array.getElem?_setIfInBounds_ne e, ← Array.getD_eq_getD_getElem?]
        exact forget_av H (h.env t)
    box := fun b bs hb => by
      rcases hbox b bs hb with ⟨rfl, rfl⟩ | ⟨hne, bs0, hb0, rfl⟩
      · refine ⟨vs, ty, ?_, forget_cells H hv, ?_, ?_⟩
        · show Blk _ (if b = b then w.heap.size else κ.β b) ty vs
          rw [if_pos rfl]; exact Blk.new w ty vs
        · show _ ≤ (if b = b then w.heap.size else κ.β b)
          rw [if_pos rfl]; exact h.below.size
        · show ¬ κ.S (if b = b then w.heap.size else κ.β b)
          rw [if_pos rfl]
          exact fun hS => absurd (h.bound _ hS) (Nat.lt_irrefl _)
      · obtain ⟨us, ty', hblk, hr, h1, h2⟩ := h.box b bs0 hb0
        refine ⟨us, ty', ?_, forget_cells H hr, ?_, ?_⟩
        · show Blk _ (if b = d then w.heap.size else κ.β b) ty' us
          rw [if_neg hne]; exact hblk.bel hbel
        · show _ ≤ (if b = d then w.heap.size else κ.β b)
          rw [if_neg hne]; exact h1
        · show ¬ κ.S (if b = d then w.heap.size else κ.β b)
          rw [if_neg hne]; exact h2
    apart := fun b b' bs bs' hb hb' e => by
      have e : (if b = d then w.heap.size else κ.β b) = (if b' = d then w.heap.size else κ.β b') := e
      rcases hbox b bs hb with ⟨rfl, _⟩ | ⟨hne, bs0, hb0, _⟩ <;> rcases hbox b' bs' hb' with ⟨rfl, _⟩ | ⟨hne', bs0', hb0', _⟩
      · rfl
      · rw [if_pos rfl, if_neg hne'] at e
        exact absurd (hlt _ _ hb0') (by omega)
      · rw [if_neg hne, if_pos rfl] at e
        exact absurd (hlt _ _ hb0) (by omega)
      · rw [if_neg hne, if_neg hne'] at e
        exact h.apart b b' _ _ hb0 hb0' e
    row := fun r x hx => by
      obtain ⟨cells, ho, hc, hn⟩ := h.row r x hx
      refine ⟨cells, owns_bel ho hbel, hc.keeps hkeep (fun g hg _ => hg), fun g hg => ⟨(hn g hg).1, fun b bs hb e => ?_⟩⟩
      have e : (if b = d then w.heap.size else κ.β b) = g := e
      rcases hbox b bs hb with ⟨rfl, _⟩ | ⟨hne, bs0, hb0, _⟩
      · rw [if_pos rfl] at e
        have : g < w.heap.size := owns_lt ho g hg
        omega
      · rw [if_neg hne] at e
        exact (hn g hg).2 b bs0 hb0 e
    rows := h.rows
    bound := fun g hg => Nat.lt_of_lt_of_le (h.bound g hg) hbel.size
    below := h.below.alloc h.below.size _
    old := h.old }

/-- a variable is written -/
theorem Rel.store (h : Rel w0 κ st a w) {b : Nat} {bs : List Cell} (hb : st.box b = some bs) (ho : Only (κ.β b) w w') {cs : List Cell} {vs : Array Value} {ty : TypeId} (hblk : Blk w' (κ.β b) ty vs) (hv : CellsRep κ w cs vs) : Rel w0 κ (st.setBox b cs) a w' := by
  obtain ⟨us, ty0, hblk0, hr0, hge, hS⟩ := h.box b bs hb
  have hkeep : Keeps w w' κ.S := ho.keeps hS
  have H : ∀ (c : Cell) v, c.Rep κ w v → c.Rep κ w' v := fun c v hr => hr.keeps rfl rfl hkeep (fun g hg _ => hg)
  have hbox : ∀ b' bs', (st.setBox b cs).box b' = some bs' → (b' = b ∧ bs' = cs) ∨ (b' ≠ b ∧ st.box b' = some bs') := fun b' bs' hx => by
    have hx : look? b' ((b, cs) :: st.boxes) = some bs' := hx
    rw [look?_cons] at hx
    by_cases e : b = b'
    · rw [if_pos e] at hx; injection hx with hx; exact .inl ⟨e.symm, hx.symm⟩
    · rw [if_neg e] at hx; exact .inr ⟨fun h => e h.symm, hx⟩
  have hold : ∀ b' bs', (st.setBox b cs).box b' = some bs' → ∃ bs0, st.box b' = some bs0 := fun b' bs' hx => by
    rcases hbox b' bs' hx with ⟨rfl, _⟩ | ⟨_, h1⟩
    · exact ⟨bs, hb⟩
    · exact ⟨bs', h1⟩
  exact {
    defers := h.defers
    size := h.size
    env := fun t => AV.Rep.mono H (h.env t)
    box := fun b' bs' hx => by
      rcases hbox b' bs' hx with ⟨rfl, rfl⟩ | ⟨hne, hx⟩
      · exact ⟨vs, ty, hblk, hv.mono H, hge, hS⟩
      · obtain ⟨us', ty', hblk', hr', h1, h2⟩ := h.box b' bs' hx
        exact ⟨us', ty', ho.blk (fun e => hne (h.apart b' b bs' bs hx hb e)) hblk', hr'.mono H, h1, h2⟩
    apart := fun b1 b2 c1 c2 h1 h2 e => by
      obtain ⟨x1, y1⟩ := hold b1 c1 h1
      obtain ⟨x2, y2⟩ := hold b2 c2 h2
      exact h.apart b1 b2 x1 x2 y1 y2 e
    row := fun r x hx => by
      obtain ⟨cells, hown, hc, hn⟩ := h.row r x hx
      refine ⟨cells, ho.owns hown (fun e => (hn _ e).2 b bs hb rfl), hc.keeps hkeep (fun g hg _ => hg), fun g hg => ⟨(hn g hg).1, fun b' bs' hb' e => ?_⟩⟩
      obtain ⟨x1, y1⟩ := hold b' bs' hb'
      exact (hn g hg).2 b' x1 y1 e
    rows := h.rows
    bound := fun g hg => by rw [ho.size]; exact h.bound g hg
    below := ho.below h.below hge
    old := h.old }

/-- a later world, with new data in it -/
theorem Rel.later (h : Rel w0 κ st a w) (hb : Below w.heap.size w w') : Rel w0 { κ with S := fun g => κ.S g ∨ (w.heap.size ≤ g ∧ g < w'.heap.size) } st a w' := by
  have H : ∀ (c : Cell) v, c.Rep κ w v → c.Rep { κ with S := fun g => κ.S g ∨ (w.heap.size ≤ g ∧ g < w'.heap.size) } w' v := fun c v hr =>
    Cell.Rep.keeps (κ := κ) (κ' := { κ with S := fun g => κ.S g ∨ (w.heap.size ≤ g ∧ g < w'.heap.size) }) rfl rfl (Keeps.below hb κ.S) (fun g hg _ => .inl hg) hr
  exact {
    defers := h.defers
    size := h.size
    env := fun t => AV.Rep.mono H (h.env t)
    box := fun b bs hx => by
      obtain ⟨us, ty, hblk, hr, h1, h2⟩ := h.box b bs hx
      refine ⟨us, ty, hblk.bel hb, hr.mono H, h1, fun hh => ?_⟩
      have hlt := hblk.lt
      rcases hh with hh | ⟨hh, _⟩
      · exact h2 hh
      · exact absurd hlt (Nat.not_lt.2 hh)
    apart := h.apart
    row := fun r x hx => by
      obtain ⟨cells, ho, hc, hn⟩ := h.row r x hx
      refine ⟨cells, owns_bel ho hb, RowCells.keeps (κ := κ) (κ' := { κ with S := fun g => κ.S g ∨ (w.heap.size ≤ g ∧ g < w'.heap.size) }) (Keeps.below hb κ.S) (fun g hg _ => .inl hg) hc, fun g hg => ⟨fun hh => ?_, (hn g hg).2⟩⟩
      have hlt := owns_lt ho g hg
      rcases hh with hh | ⟨hh, _⟩
      · exact (hn g hg).1 hh
      · exact absurd hlt (Nat.not_lt.2 hh)
    rows := h.rows
    bound := fun g hg => by
      rcases hg with hg | ⟨_, hg⟩
      · exact Nat.lt_of_lt_of_le (h.bound g hg) hb.size
      · exact hg
    below := bel_trans h.below hb
    old := fun g hg => by
      rcases hg with hg | ⟨hg, _⟩
      · exact h.old g hg
      · exact .inr (Nat.le_trans h.below.size hg) }

theorem Rel.drew (h : Rel w0 κ st a w) : Rel w0 κ st a { w with drawn := w.drawn + 1 } :=
  { defers := h.defers, size := h.size
    env := fun t => AV.Rep.mono (fun c v hr => hr.keeps rfl rfl (Keeps.below (bel_drew (bel_refl w)) κ.S) (fun g hg _ => hg)) (h.env t)
    box := fun b bs hx => by
      obtain ⟨us, ty, hblk, hr, h1, h2⟩ := h.box b bs hx
      exact ⟨us, ty, hblk, hr.mono (fun c v hr => hr.keeps rfl rfl (Keeps.below (bel_drew (bel_refl w)) κ.S) (fun g hg _ => hg)), h1, h2⟩
    apart := h.apart
    row := fun r x hx => by
      obtain ⟨cells, ho, hc, hn⟩ := h.row r x hx
      exact ⟨cells, ho, hc.keeps (Keeps.below (bel_drew (bel_refl w)) κ.S) (fun g hg _ => hg), hn⟩
    rows := h.rows
    bound := h.bound
    below := h.below.drew
    old := h.old }

/-- a known boolean, or a skipped operation -/
theorem Rel.know (h : Rel w0 κ st a w) {t : Nat} {v : AV} (hv : v.Rep κ w (a.tmps.getD t Go.undef)) : Rel w0 κ (st.set t v) a w :=
  { defers := h.defers, size := h.size
    env := fun u => by
      rw [St.get_set]
      split
      · rename_i e; subst e; exact hv
      · exact h.env u
    box := h.box
    apart := h.apart
    row := h.row
    rows := h.rows
    bound := h.bound
    below := h.below
    old := h.old }

theorem Rel.put (h : Rel w0 κ st a w) {d : Option Nat} (hd : putOk st d = true) {v : AV} {u : Value} (hv : v.Rep κ w u) : Rel w0 κ (st.put d v) (a.put d u) w := by
  cases d with
  | none => exact h
  | some d => exact h.set (by unfold putOk at hd; rw [Nat.blt_eq] at hd; exact hd) hv

theorem mapC_cells {κ' : Cx} {g : Cell → Cell} (H : ∀ (c : Cell) v, c.Rep κ w v → (g c).Rep κ' w' v) {cs : List Cell} {vs : Array Value} (h : CellsRep κ w cs vs) : CellsRep κ' w' (cs.map g) vs :=
  ⟨by rw [List.length_map]; exact h.1, fun i c hc => by
    rw [List.getElem?_map] at hc
    cases hx : cs[i]? with
    | none => rw [hx] at hc; cases hc
    | some x =>
      rw [hx] at hc; injection hc with hc; subst hc
      obtain ⟨v, hv, hr⟩ := h.2.1 i x hx
      exact ⟨v, hv, H x v hr⟩, h.2.2⟩
theorem mapC_comp {κ' : Cx} {g : Cell → Cell} (H : ∀ (c : Cell) v, c.Rep κ w v → (g c).Rep κ' w' v) {x : Comp} {v : Value} (h : x.Rep κ w v) : (x.mapC g).Rep κ' w' v := by
  cases x with
  | one c => exact H c v h
  | agg cs => obtain ⟨vs, rfl, h⟩ := h; exact ⟨vs, rfl, mapC_cells H h⟩
theorem mapC_av {κ' : Cx} {g : Cell → Cell} (H : ∀ (c : Cell) v, c.Rep κ w v → (g c).Rep κ' w' v) {x : AV} {v : Value} (h : x.Rep κ w v) : (x.mapC g).Rep κ' w' v := by
  cases x with
  | c x => exact mapC_comp H h
  | tup xs =>
    obtain ⟨vs, rfl, h1, h2⟩ := h
    exact ⟨vs, rfl, by rw [List.length_map]; exact h1, fun i c hc => by
      rw [List.getElem?_map] at hc
      cases hx : xs[i]? with
      | none => rw [hx] at hc; cases hc
      | some y =>
        rw [hx] at hc; injection hc with hc; subst hc
        obtain ⟨u, hu, hr⟩ := h2 i y hx
        exact ⟨u, hu, mapC_comp H hr⟩⟩
theorem look_mapC (g : Cell → Cell) (hg : g .any = .any) (t : Nat) : ∀ env : List (Nat × AV), look (.c (.one .any)) t (env.map fun (t, v) => (t, v.mapC g)) = (look (.c (.one .any)) t env).mapC g
  | [] => by show AV.c (.one .any) = AV.c (.one (g .any)); rw [hg]
  | (u, v) :: r => by
    rw [List.map_cons, look_cons, look_cons, look_mapC g hg t r]
    split <;> rfl
theorem look?_map {α : Type} (g : α → α) (b : Nat) : ∀ l : List (Nat × α), look? b (l.map fun (b, cs) => (b, g cs)) = (look? b l).map g
  | [] => rfl
  | (u, v) :: r => by
    rw [List.map_cons, look?_cons, look?_cons, look?_map g b r]
    split <;> rfl
theorem look?_dropKey {α : Type} (r b : Nat) : ∀ l : List (Nat × α), look? b (dropKey r l) = if b = r then none else look? b l
  | [] => by show none = _; split <;> rfl
  | (u, v) :: l => by
    have ih := look?_dropKey r b l
    show look? b (bif u.beq r then dropKey r l else (u, v) :: dropKey r l) = _
    by_cases e : u = r
    · subst e
      rw [Nat.beq_refl]
      show look? b (dropKey u l) = _
      rw [ih, look?_cons]
      by_cases e2 : b = u
      · rw [if_pos e2, if_pos e2]
      · rw [if_neg e2, if_neg e2, if_neg (fun h => e2 h.symm)]
    · have : u.beq r = false := Bool.eq_false_iff.mpr fun h => e (Nat.eq_of_beq_eq_true h)
      rw [this]
      show look? b ((u, v) :: dropKey r l) = _
      rw [look?_cons, look?_cons, ih]
      by_cases e2 : u = b
      · subst e2
        rw [if_pos rfl, if_pos rfl, if_neg e]
      · rw [if_neg e2, if_neg e2]

/-- the world grew, row r anew: what is read of other things stays -/
theorem Rel.setRow (h : Rel w0 κ st a w) {r : Nat} {v' : Value} {x : Row} {cells : List Value} {row : Option Nat} (hg : w.grownBy w' row) (hrow : ∀ g, row = some g → (κ.ρ r).ownBlock = some g ∧ (st.row r).isSome = true)
    (hown : w'.ownsRow w0.heap.size x.e x.fs.size v' x.xs.length cells) (hcells : RowCells κ w x.fs x.xs cells)
    (hnew : ∀ g, v'.ownBlock = some g → (row = some g ∧ (κ.ρ r).ownBlock = some g) ∨ w.heap.size ≤ g) :
    Rel w0 { κ with ρ := fun k => if k = r then v' else κ.ρ k } (st.setRow r x) a w' := by
  have hnot : ∀ g, row = some g → ¬ κ.S g ∧ (∀ b cs, st.box b = some cs → κ.β b ≠ g) ∧ w0.heap.size ≤ g ∧ ∀ k y, st.row k = some y → (κ.ρ k).ownBlock = some g → k = r := fun g hg' => by
    obtain ⟨h1, h2⟩ := hrow g hg'
    obtain ⟨y, hy⟩ := Option.isSome_iff_exists.1 h2
    obtain ⟨cs, ho, _, hn⟩ := h.row r y hy
    exact ⟨(hn g h1).1, (hn g h1).2, owns_block ho g h1, fun k z hz hk => h.rows k r z y hz hy g hk h1⟩
  have hkeep : Keeps w w' κ.S := ⟨hg.size, fun g o hs hlt => World.cell?_of_block (hg.block g hlt (fun e => by
    cases hr : row with
    | none => rw [hr] at e; cases e
    | some k => rw [hr] at e; injection e with e; subst e; exact (hnot g hr).1 hs))⟩
  let κ' : Cx := { κ with ρ := fun k => if k = r then v' else κ.ρ k }
  have H : ∀ (c : Cell) v, c.Rep κ w v → (c.dropRow r).Rep κ' w' v := fun c v hr => by
    cases c with
    | own k =>
      show Cell.Rep κ' w' (bif k.beq r then .any else .own k) v
      cases hb : k.beq r
      · have hne : k ≠ r := fun e => by rw [e, Nat.beq_refl] at hb; cases hb
        show v = (if k = r then v' else κ.ρ k) ∧ _
        rw [if_neg hne]; exact hr
      · trivial
    | rp k sz i f =>
      show Cell.Rep κ' w' (bif k.beq r then .any else .rp k sz i f) v
      cases hb : k.beq r
      · have hne : k ≠ r := fun e => by rw [e, Nat.beq_refl] at hb; cases hb
        show ∃ g n c, (if k = r then v' else κ.ρ k) = _ ∧ _
        rw [if_neg hne]; exact hr
      · trivial
    | any => trivial
    | undef => exact hr
    | nil => exact hr
    | val k p => exact Kd.Rep.keeps hkeep (fun g hg _ => hg) k p v hr
    | ptr b off => exact hr
    | ep fs p f =>
      obtain ⟨g, o, rfl, hlt, hs, hr⟩ := hr
      exact ⟨g, o, rfl, Nat.lt_of_lt_of_le hlt hkeep.size, hs, Kds.Rep.keeps hkeep (fun g hg _ => hg) fs p g o hs hlt hr⟩
    | fn f => exact hr
  have hbox : ∀ b bs, (st.setRow r x).box b = some bs → ∃ bs0, st.box b = some bs0 ∧ bs = bs0.map (Cell.dropRow r) := fun b bs hb => by
    have hb : look? b (st.boxes.map fun (b, cs) => (b, cs.map (Cell.dropRow r))) = some bs := hb
    rw [look?_map] at hb
    cases hx : look? b st.boxes with
    | none => rw [hx] at hb; cases hb
    | some bs0 => rw [hx] at hb; injection hb with hb; exact ⟨bs0, hx, hb.symm⟩
  have hrows : ∀ k y, (st.setRow r x).row k = some y → (k = r ∧ y = x) ∨ (k ≠ r ∧ st.row k = some y) := fun k y hy => by
    have hy : look? k ((r, x) :: dropKey r st.rows) = some y := hy
    rw [look?_cons, look?_dropKey] at hy
    by_cases e : r = k
    · rw [if_pos e] at hy; injection hy with hy; exact .inl ⟨e.symm, hy.symm⟩
    · rw [if_neg e, if_neg (fun h => e h.symm)] at hy; exact .inr ⟨fun h => e h.symm, hy⟩
  have hblk : ∀ {k : Nat} {t : TypeId} {cs : Array Value}, Blk w k t cs → some k ≠ row → Blk w' k t cs := fun hb hne => (hg.block _ hb.lt hne).trans hb
  have hv'b : ∀ g, v'.ownBlock = some g → ¬ κ.S g ∧ (∀ b cs, st.box b = some cs → κ.β b ≠ g) ∧ ∀ k y, k ≠ r → st.row k = some y → (κ.ρ k).ownBlock ≠ some g := fun g hg' => by
    rcases hnew g hg' with ⟨h1, _⟩ | h1
    · obtain ⟨q1, q2, _, q4⟩ := hnot g h1
      exact ⟨q1, q2, fun k y hk hy e => hk (q4 k y hy e)⟩
    · refine ⟨fun hs => absurd (h.bound g hs) (Nat.not_lt.2 h1), fun b cs hb e => ?_, fun k y _ hy e => ?_⟩
      · obtain ⟨us, ty, hbk, _⟩ := h.box b cs hb
        have := hbk.lt
        omega
      · obtain ⟨cs, ho, _⟩ := h.row k y hy
        have := owns_lt ho g e
        omega
  exact {
    defers := h.defers
    size := h.size
    env := fun t => by
      show AV.Rep _ _ (look _ t (st.env.map fun (t, v) => (t, v.mapC (Cell.dropRow r)))) _
      rw [look_mapC _ rfl]
      exact mapC_av H (h.env t)
    box := fun b bs hb => by
      obtain ⟨bs0, hb0, rfl⟩ := hbox b bs hb
      obtain ⟨us, ty, hbk, hr, h1, h2⟩ := h.box b bs0 hb0
      refine ⟨us, ty, hblk hbk (fun e => ?_), mapC_cells H hr, h1, h2⟩
      cases hr' : row with
      | none => rw [hr'] at e; cases e
      | some k => rw [hr'] at e; injection e with e; exact (hnot k hr').2.1 b bs0 hb0 e
    apart := fun b b' bs bs' hb hb' e => by
      obtain ⟨bs0, hb0, _⟩ := hbox b bs hb
      obtain ⟨bs0', hb0', _⟩ := hbox b' bs' hb'
      exact h.apart b b' _ _ hb0 hb0' e
    row := fun k y hy => by
      rcases hrows k y hy with ⟨rfl, rfl⟩ | ⟨hne, hy⟩
      · refine ⟨cells, ?_, hcells.keeps hkeep (fun g hg _ => hg), fun g hg' => ?_⟩
        · show w'.ownsRow _ _ _ (if k = k then v' else κ.ρ k) _ _
          rw [if_pos rfl]; exact hown
        · have hg' : (if k = k then v' else κ.ρ k).ownBlock = some g := hg'
          rw [if_pos rfl] at hg'
          obtain ⟨q1, q2, _⟩ := hv'b g hg'
          refine ⟨q1, fun b bs hb e => ?_⟩
          obtain ⟨bs0, hb0, _⟩ := hbox b bs hb
          exact q2 b bs0 hb0 e
      · obtain ⟨cs, ho, hc, hn⟩ := h.row k y hy
        refine ⟨cs, ?_, hc.keeps hkeep (fun g hg _ => hg), fun g hg' => ?_⟩
        · show w'.ownsRow _ _ _ (if k = r then v' else κ.ρ k) _ _
          rw [if_neg hne]
          refine ho.kept hg ?_
          cases hb : (κ.ρ k).ownBlock with
          | none => exact .inl rfl
          | some g =>
            refine .inr fun e => ?_
            exact hne ((hnot g e.symm).2.2.2 k y hy hb)
        · have hg' : (if k = r then v' else κ.ρ k).ownBlock = some g := hg'
          rw [if_neg hne] at hg'
          refine ⟨(hn g hg').1, fun b bs hb e => ?_⟩
          obtain ⟨bs0, hb0, _⟩ := hbox b bs hb
          exact (hn g hg').2 b bs0 hb0 e
    rows := fun k k' y y' hy hy' g hk hk' => by
      have hk : (if k = r then v' else κ.ρ k).ownBlock = some g := hk
      have hk' : (if k' = r then v' else κ.ρ k').ownBlock = some g := hk'
      rcases hrows k y hy with ⟨rfl, _⟩ | ⟨hne, hy2⟩ <;> rcases hrows k' y' hy' with ⟨rfl, _⟩ | ⟨hne', hy2'⟩
      · rfl
      · rw [if_pos rfl] at hk
        rw [if_neg hne'] at hk'
        exact absurd hk' ((hv'b g hk).2.2 k' y' hne' hy2')
      · rw [if_pos rfl] at hk'
        rw [if_neg hne] at hk
        exact absurd hk ((hv'b g hk').2.2 k y hne hy2)
      · rw [if_neg hne] at hk
        rw [if_neg hne'] at hk'
        exact h.rows k k' y y' hy2 hy2' g hk hk'
    bound := fun g hs => Nat.lt_of_lt_of_le (h.bound g hs) hg.size
    below := h.below.grown hg h.below.size (fun k hk => (hnot k hk).2.2.1)
    old := h.old }

/-- an owned row is data from now on -/
theorem owned_data (h : Rel w0 κ st a w) {r : Nat} {x : Row} (hx : st.row r = some x) {S' : Nat → Prop} (hS : ∀ g, κ.S g → S' g) (hS' : ∀ g, (κ.ρ r).ownBlock = some g → S' g) : (Kd.sl x.fs).Rep w S' x.xs (κ.ρ r) := by
  obtain ⟨cells, ho, hc, _⟩ := h.row r x hx
  obtain ⟨A, c, he⟩ := owns_slice ho
  have hcap : x.xs.length ≤ c := by
    rcases ho.2 with ⟨hv, h0⟩ | ⟨g, cap, cur, hv, _, _, h4, _⟩
    · rw [h0]; exact Nat.zero_le _
    · rw [he] at hv; injection hv with _ _ hcc; omega
  refine ⟨A, c, he, hcap, fun hpos => ?_⟩
  have hpos : 0 < x.xs.length := hpos
  have hA : ∃ g, A = some ⟨g, 0, none⟩ := by
    rcases ho.2 with ⟨_, h0⟩ | ⟨g, cap, cur, hv, _⟩
    · omega
    · rw [hv] at he; injection he with he; exact ⟨g, he.symm⟩
  obtain ⟨g, rfl⟩ := hA
  have hbl : (κ.ρ r).ownBlock = some g := by rw [he]; rfl
  refine ⟨g, 0, rfl, owns_lt ho g hbl, hS' g hbl, fun i y hy => ?_⟩
  have hi : i < x.xs.length := (List.getElem?_eq_some_iff.1 hy).1
  obtain ⟨_, hr⟩ := row_elem h hx he hi
  have hge : x.xs.getD i x.fs.dflt = y := by
    have hy : x.xs[i]? = some y := hy
    rw [List.getD_eq_getElem?_getD, hy]; rfl
  rw [hge] at hr
  rw [Nat.zero_add]
  -- more blocks may be read
  exact Kds.Rep.of_flds x.fs y g _ fun f z hz => by
    obtain ⟨u, hu, hzr⟩ := Kds.Rep.fld x.fs y g _ f z hr hz
    exact ⟨u, hu, Kd.Rep.keeps (Keeps.refl w κ.S) (fun g hg _ => hS g hg) z.1 z.2 u hzr⟩
theorem Rel.freeze (h : Rel w0 κ st a w) (r : Nat) : ∃ κ', Rel w0 κ' (st.freeze r) a w ∧ κ'.β = κ.β := by
  unfold St.freeze
  cases hx : st.row r with
  | none => exact ⟨κ, h, rfl⟩
  | some x =>
    let κ' : Cx := { κ with S := fun g => κ.S g ∨ (κ.ρ r).ownBlock = some g }
    have hdata := owned_data h hx (S' := κ'.S) (fun g hg => .inl hg) (fun g hg => .inr hg)
    have hkeep : ∀ {c : Cell} {v : Value}, c.Rep κ w v → c.Rep κ' w v := fun hr => Cell.Rep.keeps (κ := κ) (κ' := κ') rfl rfl (Keeps.refl w κ.S) (fun g hg _ => .inl hg) hr
    have H : ∀ (c : Cell) v, c.Rep κ w v → (c.thaw r x).Rep κ' w v := fun c v hr => by
      cases c with
      | own k =>
        show Cell.Rep κ' w (bif k.beq r then .val (.sl x.fs) x.xs else .own k) v
        cases hb : k.beq r
        · exact hkeep (c := .own k) hr
        · obtain rfl := Nat.eq_of_beq_eq_true hb
          obtain ⟨rfl, _⟩ := hr
          exact hdata
      | rp k sz i f =>
        show Cell.Rep κ' w (bif k.beq r then .any else .rp k sz i f) v
        cases hb : k.beq r
        · exact hkeep (c := .rp k sz i f) hr
        · trivial
      | any => trivial
      | undef => exact hr
      | nil => exact hr
      | val k p => exact hkeep (c := .val k p) hr
      | ptr b off => exact hr
      | ep fs p f => exact hkeep (c := .ep fs p f) hr
      | fn f => exact hr
    have hbox : ∀ b bs, look? b (st.boxes.map fun (b, cs) => (b, cs.map (Cell.thaw r x))) = some bs → ∃ bs0, st.box b = some bs0 ∧ bs = bs0.map (Cell.thaw r x) := fun b bs hb => by
      rw [look?_map] at hb
      cases hx : look? b st.boxes with
      | none => rw [hx] at hb; cases hb
      | some bs0 => rw [hx] at hb; injection hb with hb; exact ⟨bs0, hx, hb.symm⟩
    have hrow : ∀ k y, look? k (dropKey r st.rows) = some y → k ≠ r ∧ st.row k = some y := fun k y hy => by
      rw [look?_dropKey] at hy
      split at hy
      · cases hy
      · rename_i hne; exact ⟨hne, hy⟩
    obtain ⟨cells0, ho0, _, hn0⟩ := h.row r x hx
    refine ⟨κ', ?_, rfl⟩
    exact {
      defers := h.defers
      size := h.size
      env := fun t => by
        show AV.Rep _ _ (look _ t (st.env.map fun (t, v) => (t, v.mapC (Cell.thaw r x)))) _
        rw [look_mapC _ rfl]
        exact mapC_av H (h.env t)
      box := fun b bs hb => by
        obtain ⟨bs0, hb0, rfl⟩ := hbox b bs hb
        obtain ⟨us, ty, hbk, hr, h1, h2⟩ := h.box b bs0 hb0
        refine ⟨us, ty, hbk, mapC_cells H hr, h1, fun hh => ?_⟩
        rcases hh with hh | hh
        · exact h2 hh
        · exact (hn0 _ hh).2 b bs0 hb0 rfl
      apart := fun b b' bs bs' hb hb' e => by
        obtain ⟨bs0, hb0, _⟩ := hbox b bs hb
        obtain ⟨bs0', hb0', _⟩ := hbox b' bs' hb'
        exact h.apart b b' _ _ hb0 hb0' e
      row := fun k y hy => by
        obtain ⟨hne, hy⟩ := hrow k y hy
        obtain ⟨cs, ho, hc, hn⟩ := h.row k y hy
        refine ⟨cs, ho, RowCells.keeps (κ := κ) (κ' := κ') (Keeps.refl w κ.S) (fun g hg _ => .inl hg) hc, fun g hg => ⟨fun hh => ?_, fun b bs hb e => ?_⟩⟩
        · rcases hh with hh | hh
          · exact (hn g hg).1 hh
          · exact hne (h.rows k r y x hy hx g hg hh)
        · obtain ⟨bs0, hb0, _⟩ := hbox b bs hb
          exact (hn g hg).2 b bs0 hb0 e
      rows := fun k k' y y' hy hy' => h.rows k k' y y' (hrow k y hy).2 (hrow k' y' hy').2
      bound := fun g hg => by
        rcases hg with hg | hg
        · exact h.bound g hg
        · exact owns_lt ho0 g hg
      below := h.below
      old := fun g hg => by
        rcases hg with hg | hg
        · exact h.old g hg
        · exact .inr (owns_block ho0 g hg) }
theorem Rel.freezeAll : ∀ (l : List Nat) {κ : Cx} {st : St}, Rel w0 κ st a w → ∃ κ', Rel w0 κ' (st.freezeAll l) a w
  | [], κ, st, h => ⟨κ, h⟩
  | r :: l, κ, st, h => by
    obtain ⟨κ1, h1, _⟩ := h.freeze r
    exact Rel.freezeAll l h1
theorem freezeAll_n : ∀ (l : List Nat) (st : St), (st.freezeAll l).n = st.n
  | [], st => rfl
  | r :: l, st => by
    show ((st.freeze r).freezeAll l).n = _
    rw [freezeAll_n l]
    unfold St.freeze
    split <;> rfl
end
end R
end Go.Proofs.YtgjdbnkeamjhhaaDoor

/-
  Contracts; what 'vop' asks of an operation is enough.
-/
set_option linter.unusedVariables false
namespace Go.Proofs.YtgjdbnkeamjhhaaDoor
open Go.RowKit
namespace R
section
variable {w0 : Base} {w w' : World} {κ : Cx} {st : St} {a : Act} {P : Program}

def Cx.of (S : Nat → Prop) : Cx := ⟨fun _ => 0, fun _ => Go.undef, S⟩
def CompsRep (κ : Cx) (w : World) (xs : List Comp) (vs : List Value) : Prop :=
  vs.length = xs.length ∧ ∀ (i : Nat) c, xs[i]? = some c → ∃ u, vs[i]? = some u ∧ c.Rep κ w u
/-- a function does what its contract says -/
def Con.Holds (P : Program) (c : Con) : Prop :=
  ((∃ fn, P.funcs[c.f]? = some fn ∧ (fn.name == "runtime.NumGoroutine") = false ∧ fn.body.isNone = false) ∧ ∀ F, c.fn = some F → ∀ p r, c.post p r → r = F p) ∧
  ∀ (p : Pays c.args) (vs : List Value) (w : World) (S : Nat → Prop), (∀ g, S g → g < w.heap.size) → c.pre p → CompsRep (Cx.of S) w (compsOf c.args p) vs →
    Calls P c.f vs.toArray w fun e w' => ∃ (r : Pays c.res) (v : Value), e = .returned v ∧ c.post p r ∧
      (resAV c.res r).Rep (Cx.of fun g => S g ∨ (w.heap.size ≤ g ∧ g < w'.heap.size)) w' v ∧ Below w.heap.size w w'

theorem takeCell_sound {k : Kd} {c : Cell} {p : k.Pay} {v : Value} (h : takeCell k c = some p) (hv : c.Rep κ w v) : k.Rep w κ.S p v := by
  unfold takeCell at h
  split at h
  · rename_i k' q
    split at h
    · rename_i e _
      subst e
      injection h with h; subst h
      exact hv
    · cases h
  · split at h
    · rename_i fs
      injection h with h; subst h
      obtain rfl : v = .slice none 0 0 := hv
      exact ⟨none, 0, rfl, Nat.le_refl _, fun h => absurd h (Nat.lt_irrefl _)⟩
    · cases h
  · cases h
/-- rows of plain data -/
inductive Plain : Cell → Prop where
  | val (k : Kd) (p : k.Pay) : Plain (.val k p)
theorem Plain.rep {c : Cell} (h : Plain c) {κ' : Cx} (hS : κ'.S = κ.S) {v : Value} (hv : c.Rep κ w v) : c.Rep κ' w v := by
  cases h with
  | val k p => show k.Rep w κ'.S p v; rw [hS]; exact hv
theorem cells_plain : ∀ (ks : Kds) (p : ks.Pay), ∀ c ∈ ks.cells p, Plain c
  | .one k, p, c, h => by
    obtain rfl : c = .val k p := List.mem_singleton.1 h
    exact .val k p
  | .cons k ks, p, c, h => by
    rcases List.mem_cons.1 h with rfl | h
    · exact .val k p.1
    · exact cells_plain ks p.2 c h
theorem CellsRep.plain {cs : List Cell} {vs : Array Value} (h : ∀ c ∈ cs, Plain c) {κ' : Cx} (hS : κ'.S = κ.S) (hr : CellsRep κ w cs vs) : CellsRep κ' w cs vs :=
  ⟨hr.1, fun i c hc => let ⟨v, hv, hx⟩ := hr.2.1 i c hc; ⟨v, hv, (h c (List.mem_of_getElem? hc)).rep hS hx⟩, hr.2.2⟩
theorem comp_plain (x : CK) (p : x.Pay) {κ' : Cx} (hS : κ'.S = κ.S) {v : Value} (h : (x.comp p).Rep κ w v) : (x.comp p).Rep κ' w v := by
  cases x with
  | one k => exact Plain.rep (.val k p) hS h
  | agg ks => obtain ⟨vs, rfl, h⟩ := h; exact ⟨vs, rfl, h.plain (cells_plain ks p) hS⟩
theorem takeCells_sound : ∀ (ks : Kds) (cs : List Cell) (p : ks.Pay) (vs : List Value), takeCells ks cs = some p → CellsRep κ w cs vs.toArray → CellsRep κ w (ks.cells p) vs.toArray
  | .one k, [], p, vs, h, hv => by simp [takeCells] at h
  | .one k, c :: c' :: r, p, vs, h, hv => by simp [takeCells] at h
  | .one k, [c], p, vs, h, hv => by
    have h : takeCell k c = some p := h
    refine ⟨hv.1, fun i c' hc => ?_, hv.2.2⟩
    cases i with
    | zero =>
      injection hc with hc; subst hc
      obtain ⟨u, hu, hr⟩ := hv.2.1 0 _ rfl
      exact ⟨u, hu, takeCell_sound h hr⟩
    | succ i => cases hc
  | .cons k ks, [], p, vs, h, hv => by simp [takeCells] at h
  | .cons k ks, c :: cs', p, vs, h, hv => by
    have h : (match takeCell k c, takeCells ks cs' with
      | some p, some q => some (p, q)
      | _, _ => none) = some p := h
    split at h
    · rename_i p1 p2 h1 h2
      injection h with h; subst h
      cases vs with
      | nil => have := hv.1; simp at this
      | cons v vs =>
        have hv' : CellsRep κ w cs' vs.toArray := ⟨by have := hv.1; simpa using this, fun i c hc => by
          obtain ⟨y, hy, hr⟩ := hv.2.1 (i + 1) c hc
          exact ⟨y, by simpa using hy, hr⟩, fun i y hy => hv.2.2 (i + 1) y (by simpa using hy)⟩
        have ih := takeCells_sound _ cs' p2 vs h2 hv'
        refine ⟨?_, fun i c' hc => ?_, hv.2.2⟩
        · have := ih.1
          show (v :: vs).toArray.size = (Kds.cells _ p2).length + 1
          rw [← this]; simp
        · cases i with
          | zero =>
            injection hc with hc; subst hc
            obtain ⟨u, hu, hr⟩ := hv.2.1 0 _ rfl
            exact ⟨u, hu, takeCell_sound h1 hr⟩
          | succ i =>
            obtain ⟨y, hy, hr⟩ := ih.2.1 i c' hc
            exact ⟨y, by simpa using hy, hr⟩
    · cases h
theorem takeComp_sound {x : CK} {c : Comp} {p : x.Pay} {v : Value} (h : takeComp x c = some p) (hv : c.Rep κ w v) : (x.comp p).Rep κ w v := by
  unfold takeComp at h
  split at h
  · exact takeCell_sound h hv
  · rename_i ks cs
    obtain ⟨vs, rfl, hv⟩ := hv
    exact ⟨vs, rfl, by simpa using takeCells_sound ks cs p vs.toList h (by simpa using hv)⟩
  · cases h
theorem av_comp {x : AV} {y : Comp} {v : Value} (e : x = .c y) (h : x.Rep κ w v) : y.Rep κ w v := by subst e; exact h
theorem takeAll_sound (hR : Rel w0 κ st a w) : ∀ (l : List CK) (xs : List Operand) (p : Pays l), takeAll l (evs st xs) = some p → CompsRep κ w (compsOf l p) (xs.map a.eval)
  | [], [], p, h => ⟨rfl, fun i c hc => by cases hc⟩
  | [], x :: xs, p, h => by simp [takeAll, evs] at h
  | [x], [], p, h => by simp [takeAll, evs] at h
  | [x], y :: z :: r, p, h => by simp [takeAll, evs] at h
  | x :: y :: r, [], p, h => by simp [takeAll, evs] at h
  | [x], [y], p, h => by
    have hy := hR.ev y
    cases e : st.ev y with
    | tup vs => simp [takeAll, evs, e] at h
    | c z =>
      have h : takeComp x z = some p := by simpa [takeAll, evs, e] using h
      refine ⟨rfl, fun i c hc => ?_⟩
      cases i with
      | zero => injection hc with hc; subst hc; exact ⟨_, rfl, takeComp_sound h (av_comp e hy)⟩
      | succ i => cases hc
  | x :: y :: r, z :: zs, p, h => by
    have hz := hR.ev z
    cases e : st.ev z with
    | tup vs => simp [takeAll, evs, e] at h
    | c c0 =>
      have h : (match takeComp x c0, takeAll (y :: r) (evs st zs) with
        | some p, some q => some (p, q)
        | _, _ => none) = some p := by
        have h' : takeAll (x :: y :: r) (st.ev z :: evs st zs) = some p := h
        rw [e] at h'
        exact h'
      split at h
      · rename_i p1 p2 h1 h2
        injection h with h; subst h
        have ih := takeAll_sound hR (y :: r) zs p2 h2
        refine ⟨?_, fun i c hc => ?_⟩
        · have := ih.1
          show (zs.map a.eval).length + 1 = (compsOf (y :: r) p2).length + 1
          rw [this]
        · cases i with
          | zero => injection hc with hc; subst hc; exact ⟨_, rfl, takeComp_sound h1 (av_comp e hz)⟩
          | succ i => exact ih.2 i c hc
      · cases h
theorem comps_plain : ∀ (l : List CK) (p : Pays l) {κ' : Cx} (hS : κ'.S = κ.S) {vs : List Value} (h : CompsRep κ w (compsOf l p) vs), CompsRep κ' w (compsOf l p) vs := by
  intro l p κ' hS vs h
  have key : ∀ (l : List CK) (p : Pays l), ∀ c ∈ compsOf l p, ∀ v, c.Rep κ w v → c.Rep κ' w v := by
    intro l
    induction l with
    | nil => intro p c hc; cases hc
    | cons x l ih =>
      cases l with
      | nil =>
        intro p c hc v hv
        obtain rfl := List.mem_singleton.1 hc
        exact comp_plain x p hS hv
      | cons y r =>
        intro p c hc v hv
        rcases List.mem_cons.1 hc with rfl | hc
        · exact comp_plain x p.1 hS hv
        · exact ih p.2 c hc v hv
  exact ⟨h.1, fun i c hc => let ⟨u, hu, hr⟩ := h.2 i c hc; ⟨u, hu, key l p c (List.mem_of_getElem? hc) u hr⟩⟩
theorem comps_mem_plain : ∀ (l : List CK) (p : Pays l), ∀ c ∈ compsOf l p, ∃ (x : CK) (q : x.Pay), c = x.comp q
  | [], p, c, h => by cases h
  | [x], p, c, h => ⟨x, p, List.mem_singleton.1 h⟩
  | x :: y :: r, p, c, h => by
    rcases List.mem_cons.1 h with rfl | h
    · exact ⟨x, p.1, rfl⟩
    · exact comps_mem_plain (y :: r) p.2 c h
theorem resAV_plain (l : List CK) (r : Pays l) {κ' : Cx} (hS : κ'.S = κ.S) {v : Value} (h : (resAV l r).Rep κ w v) : (resAV l r).Rep κ' w v := by
  unfold resAV at *
  split at h
  · rename_i x hx
    obtain ⟨y, q, rfl⟩ := comps_mem_plain l r x (by rw [hx]; exact List.mem_singleton.2 rfl)
    exact comp_plain y q hS h
  · obtain ⟨vs, rfl, h1, h2⟩ := h
    refine ⟨vs, rfl, h1, fun i c hc => ?_⟩
    obtain ⟨u, hu, hr⟩ := h2 i c hc
    obtain ⟨y, q, rfl⟩ := comps_mem_plain l r c (List.mem_of_getElem? hc)
    exact ⟨u, hu, comp_plain y q hS hr⟩
theorem conOf_spec {f : FuncId} {c : Con} : ∀ {cons : List Con}, conOf f cons = some c → c ∈ cons ∧ c.f = f
  | [], h => by cases h
  | x :: r, h => by
    have h : (bif x.f.beq f then some x else conOf f r) = some c := h
    cases e : x.f.beq f
    · rw [e] at h
      obtain ⟨h1, h2⟩ := conOf_spec (cons := r) h
      exact ⟨List.mem_cons_of_mem _ h1, h2⟩
    · rw [e] at h
      injection h with h; subst h
      exact ⟨List.mem_cons_self, Nat.eq_of_beq_eq_true e⟩
theorem run_call (c : Con) (hc : c.Holds P) {o : Oper} {args : Array Operand} {ts : Array TypeId} (ho : o.op = .call { callee := .value (.func c.f), args, argTypes := ts }) (w : World) :
    (execOp a.eval o).run P w = .ok (.enter c.f (args.toList.map a.eval).toArray) w := by
  obtain ⟨⟨⟨fn, hf, hn, hb⟩, _⟩, _⟩ := hc
  have e : (args.map a.eval) = (args.toList.map a.eval).toArray := by rw [← Array.toList_map, Array.toArray_toList]
  have hn' : ¬ fn.name = "runtime.NumGoroutine" := by simpa using hn
  have hb' : ¬ fn.body = none := fun h => by rw [h] at hb; cases hb
  rw [← e]
  simp [execOp, ho, resolve, Act.eval, Deferred.ofValue, invoke, callFunc, hf, hn', hb']
end
end R
end Go.Proofs.YtgjdbnkeamjhhaaDoor

/-
  append and slice literals: what they leave.
-/
set_option linter.unusedVariables false
namespace Go.Proofs.YtgjdbnkeamjhhaaDoor
open Go.RowKit
namespace R
section
variable {w0 : Base} {w w' : World} {κ : Cx} {st : St} {a : Act} {P : Program}

theorem Kds.fld_lt : ∀ (fs : Kds) (x : fs.Pay) (f : Nat), f < fs.size → ∃ z, fs.fld x f = some z
  | .one k, x, 0, h => ⟨_, rfl⟩
  | .one k, x, f + 1, h => by simp [Kds.size] at h
  | .cons k ks, x, 0, h => ⟨_, rfl⟩
  | .cons k ks, x, f + 1, h => Kds.fld_lt ks x.2 f (by simpa [Kds.size] using h)
theorem Kds.fld_size : ∀ (fs : Kds) (x : fs.Pay) (f : Nat) z, fs.fld x f = some z → f < fs.size
  | .one k, x, 0, z, h => Nat.one_pos
  | .one k, x, f + 1, z, h => by cases h
  | .cons k ks, x, 0, z, h => Nat.succ_pos _
  | .cons k ks, x, f + 1, z, h => Nat.succ_lt_succ (Kds.fld_size ks x.2 f z h)

theorem run_append_none {e : TypeId} {t ty : TypeId} {i : TypeInfo} {size base : Nat} (ht : P.underlying t = some (.slice e)) (hi : P.info? e = some i) {v : Value} {n : Nat} {xs : List Value} (hown : w.ownsRow base e size v n xs) (c : Nat) :
    (Builtin.append_ #[t, t] ty #[v, .slice none 0 c]).run P w = .ok v w := by
  rcases hown.2 with ⟨rfl, rfl⟩ | ⟨g, cap, cur, rfl, _, _, hnc, _⟩
  · simp [Builtin.append_, run_underlying ht, sizeOf, typeInfo, hi, Builtin.lenOf, Builtin.firstCells]
  · simp [Builtin.append_, run_underlying ht, sizeOf, typeInfo, hi, Builtin.lenOf, Builtin.firstCells, hnc, storeCells]

/-- append to a row of the call's own: where the row lies behind it -/
theorem run_append_at {base : Nat} {t ty e : TypeId} {i : TypeInfo} {z : Value} (ht : P.underlying t = some (.slice e)) (hi : P.info? e = some i) (hz : i.zero = some z) (hzs : z.cells.size = i.size) (hsz : 0 < i.size)
    {v : Value} {n : Nat} {xs : List Value} (hown : w.ownsRow base e i.size v n xs) {ad : Addr} {m c : Nat} {news : List Value} (hl : news.length = m * i.size) (hnews : ∀ j u, news[j]? = some u → w.cell? (ad.add j) = some u) (h1 : ∀ u ∈ news, u.oneCell' = true)
    (h63 : n + m ≤ maxLen) (hbytes : (n + m) * i.bytes ≤ 140737488355328) (hbase : base ≤ w.heap.size) :
    ∃ v' w' row, (Builtin.append_ #[t, t] ty #[v, .slice (some ad) m c]).run P w = .ok v' w' ∧ w'.ownsRow base e i.size v' (n + m) (xs ++ news) ∧ w.grownBy w' row ∧
      (∀ g, row = some g → v.ownBlock = some g) ∧ ∀ g, v'.ownBlock = some g → (row = some g ∧ v.ownBlock = some g) ∨ w.heap.size ≤ g := by
  rcases hown.2 with ⟨rfl, rfl⟩ | ⟨g, cap, cur, rfl, hg1, hg2, hnc, hcm, hcs, hct⟩
  · -- nil
    have hx : xs = [] := by have := hown.1; simpa using this
    subst hx
    obtain ⟨v', w', hrun, ho, hgr, _⟩ := run_append_own (P := P) w w.heap.size t ty e i z i.size i.bytes ht hi hz rfl rfl hzs hsz (.slice none 0 0) 0 [] (World.ownsRow_nil _ _ _ _) ad m c news hl hnews h1 h63 hbytes (Nat.le_refl _)
    exact ⟨v', w', none, hrun, owns_mono ho hbase, hgr, (fun g h => nomatch h), fun g h => Or.inr (owns_block ho g h)⟩
  · by_cases hr : n + m ≤ cap
    · have hfit : n * i.size + news.length ≤ cur.size := by rw [hl, hcs, ← Nat.add_mul]; exact Nat.mul_le_mul_right _ hr
      have hrun := run_append_room (P := P) w t ty e i ht hi g n cap cur hg2 ad m c news hl hnews h1 hr hfit
      have hlen : xs.length = n * i.size := hown.1
      have htake : cur.toList.take (n * i.size) = xs := by rw [← hlen]; rw [hlen]; exact hct
      refine ⟨_, _, some g, hrun, ?_, ?_, fun g' h => by injection h with h; subst h; rfl, fun g' h => .inl ?_⟩
      · refine ⟨by rw [List.length_append, hlen, hl, Nat.add_mul], .inr ⟨g, cap, (cur.toList.take (n * i.size) ++ news ++ cur.toList.drop (n * i.size + news.length)).toArray, rfl, hg1, ?_, hr, hcm, ?_, ?_⟩⟩
        · simp only [World.setRow, Array.getElem?_modify]
          simp [hg2]
        · have : (cur.toList.take (n * i.size) ++ news ++ cur.toList.drop (n * i.size + news.length)).length = cur.size := by
            rw [List.length_append, List.length_append, List.length_take, List.length_drop, Array.length_toList]
            omega
          simpa [hcs] using this
        · rw [List.toList_toArray, htake]
          have : (n + m) * i.size = (xs ++ news).length := by rw [List.length_append, hlen, hl, Nat.add_mul]
          rw [this, List.take_left]
      · exact ⟨rfl, rfl, rfl, by simp, fun k hk hne => by
          simp only [World.setRow, Array.getElem?_modify]
          rw [if_neg (fun e => hne (by rw [e]))]⟩
      · have : g = g' := by simpa [Value.ownBlock] using h
        subst this; exact ⟨rfl, rfl⟩
    · have holds := World.ownsRow.cells hown (g := g) rfl
      obtain ⟨v', w', hrun, ho, hgr⟩ := run_append_arg_grows (P := P) w t ty e i z i.size i.bytes ht hi hz rfl rfl hzs hsz ⟨g, 0, none⟩ n cap xs hown.1 holds ad m c news hl hnews (by omega) h63 hbytes
      exact ⟨v', w', none, hrun, owns_mono ho hbase, hgr, (fun g h => nomatch h), fun g h => Or.inr (owns_block ho g h)⟩

/-- where a slice's cells lie, and what they read as -/
theorem src_cells {fs : Kds} {zs : List fs.Pay} {S : Nat → Prop} {v : Value} (h : (Kd.sl fs).Rep w S zs v) : (∃ c, v = .slice none 0 c ∧ zs = []) ∨ ∃ (ad : Addr) (c : Nat) (news : List Value), v = .slice (some ad) zs.length c ∧ news.length = zs.length * fs.size ∧ (∀ j u, news[j]? = some u → w.cell? (ad.add j) = some u) ∧ (∀ u ∈ news, u.oneCell' = true) ∧
    ∀ (i : Nat) (x : fs.Pay), zs[i]? = some x → ∀ (f : Nat) z, fs.fld x f = some z → ∃ u, news[i * fs.size + f]? = some u ∧ z.1.Rep w S z.2 u := by
  obtain ⟨A, c, rfl, hcap, hrow⟩ := h
  rcases Nat.eq_zero_or_pos (zs : List fs.Pay).length with h0 | hpos
  · have hz : zs = [] := List.length_eq_zero_iff.1 h0
    cases A with
    | none => exact .inl ⟨c, by rw [h0], hz⟩
    | some ad => refine .inr ⟨ad, c, [], rfl, by rw [h0]; simp, fun j u h => by simp at h, fun u h => by simp at h, fun i x h => by rw [hz] at h; simp at h⟩
  · obtain ⟨g, off, rfl, hg, hS, hc⟩ := hrow hpos
    let news := (List.range ((zs : List fs.Pay).length * fs.size)).map fun j => (w.cell? ⟨g, off + j, none⟩).getD Go.undef
    have hat : ∀ (i : Nat) (x : fs.Pay), zs[i]? = some x → ∀ (f : Nat) z, fs.fld x f = some z → ∃ u, w.cell? ⟨g, off + (i * fs.size + f), none⟩ = some u ∧ z.1.Rep w S z.2 u := fun i x hx f z hz => by
      obtain ⟨u, hu, hr⟩ := Kds.Rep.fld fs x g _ f z (hc i x hx) hz
      exact ⟨u, by rw [← Nat.add_assoc]; exact hu, hr⟩
    have hcell : ∀ j, j < (zs : List fs.Pay).length * fs.size → ∃ u, w.cell? ⟨g, off + j, none⟩ = some u ∧ u.oneCell' = true := fun j hj => by
      have hfs := Kds.size_pos fs
      have hi : j / fs.size < (zs : List fs.Pay).length := Nat.div_lt_of_lt_mul (by rw [Nat.mul_comm]; exact hj)
      obtain ⟨z, hz⟩ := Kds.fld_lt fs (zs : List fs.Pay)[j / fs.size] (j % fs.size) (Nat.mod_lt _ hfs)
      obtain ⟨u, hu, hr⟩ := hat (j / fs.size) _ (List.getElem?_eq_getElem hi) (j % fs.size) z hz
      rw [Nat.mul_comm, Nat.div_add_mod] at hu
      exact ⟨u, hu, Kd.Rep.solid hr⟩
    have hnews : ∀ j, j < (zs : List fs.Pay).length * fs.size → ∃ u, news[j]? = some u ∧ w.cell? ⟨g, off + j, none⟩ = some u ∧ u.oneCell' = true := fun j hj => by
      obtain ⟨u, hu, ho⟩ := hcell j hj
      refine ⟨u, ?_, hu, ho⟩
      show ((List.range _).map _)[j]? = _
      rw [List.getElem?_map, List.getElem?_range hj]
      show some ((w.cell? ⟨g, off + j, none⟩).getD Go.undef) = _
      rw [hu]; rfl
    have hlen : news.length = (zs : List fs.Pay).length * fs.size := by simp [news]
    refine .inr ⟨⟨g, off, none⟩, c, news, rfl, hlen, fun j u hj => ?_, fun u hu => ?_, fun i x hx f z hz => ?_⟩
    · have hlt : j < news.length := (List.getElem?_eq_some_iff.1 hj).1
      obtain ⟨u', h1, h2, _⟩ := hnews j (by rw [← hlen]; exact hlt)
      rw [hj] at h1; injection h1 with h1; subst h1
      rw [add_plain2]; exact h2
    · obtain ⟨j, hj, rfl⟩ := List.getElem_of_mem hu
      obtain ⟨u', h1, _, h3⟩ := hnews j (by rw [← hlen]; exact hj)
      rw [List.getElem?_eq_getElem hj] at h1; injection h1 with h1; rw [h1]; exact h3
    · obtain ⟨u, hu, hr⟩ := hat i x hx f z hz
      have hlt : i * fs.size + f < (zs : List fs.Pay).length * fs.size := by
        have h1 : i < (zs : List fs.Pay).length := (List.getElem?_eq_some_iff.1 hx).1
        have h2 := Kds.fld_size fs x f z hz
        calc i * fs.size + f < i * fs.size + fs.size := by omega
          _ = (i + 1) * fs.size := by rw [Nat.add_mul, Nat.one_mul]
          _ ≤ _ := Nat.mul_le_mul_right _ h1
      obtain ⟨u', h1, h2, _⟩ := hnews _ hlt
      rw [hu] at h2; injection h2 with h2; subst h2
      exact ⟨u, h1, hr⟩
theorem rowCells_append {fs : Kds} {xs ys : List fs.Pay} {c1 c2 : List Value} (hl : c1.length = xs.length * fs.size) (h1 : RowCells κ w fs xs c1) (h2 : RowCells κ w fs ys c2) : RowCells κ w fs (xs ++ ys) (c1 ++ c2) := by
  intro i x hx f z hz
  have hf := Kds.fld_size fs x f z hz
  rcases Nat.lt_or_ge i xs.length with h | h
  · rw [List.getElem?_append_left h] at hx
    obtain ⟨u, hu, hr⟩ := h1 i x hx f z hz
    refine ⟨u, ?_, hr⟩
    rw [List.getElem?_append_left]
    · exact hu
    · exact (List.getElem?_eq_some_iff.1 hu).1
  · rw [List.getElem?_append_right h] at hx
    obtain ⟨u, hu, hr⟩ := h2 _ x hx f z hz
    refine ⟨u, ?_, hr⟩
    have he : i * fs.size + f = c1.length + ((i - xs.length) * fs.size + f) := by
      rw [hl, ← Nat.add_assoc, ← Nat.add_mul]
      congr 2; omega
    rw [he, List.getElem?_append_right (by omega), Nat.add_sub_cancel_left]
    exact hu
theorem rowInfo_spec {e : TypeId} {size bytes : Nat} (h : rowInfo P e = some (size, bytes)) : ∃ i z, P.info? e = some i ∧ i.zero = some z ∧ z.cells.size = i.size ∧ 0 < i.size ∧ 0 < i.bytes ∧ i.size = size ∧ i.bytes = bytes ∧ z.cells.toList.all (·.oneCell') = true := by
  unfold rowInfo at h
  cases hi : P.info? e with
  | none => rw [hi] at h; cases h
  | some i =>
    rw [hi] at h
    dsimp only at h
    cases hz : i.zero with
    | none => rw [hz] at h; cases h
    | some z =>
      rw [hz] at h
      dsimp only at h
      cases hb : z.cells.size.beq i.size && Nat.blt 0 i.size && Nat.blt 0 i.bytes && z.cells.toList.all (·.oneCell')
      · rw [hb] at h; cases h
      · rw [hb] at h
        injection h with h; injection h with h1 h2
        simp only [Bool.and_eq_true] at hb
        obtain ⟨⟨⟨b1, b2⟩, b3⟩, b4⟩ := hb
        exact ⟨i, z, rfl, hz, Nat.eq_of_beq_eq_true b1, by rw [Nat.blt_eq] at b2; exact b2, by rw [Nat.blt_eq] at b3; exact b3, h1, h2, b4⟩
/-- what is appended: its cells -/
theorem srcOf_cells (hR : Rel w0 κ st a w) {e : TypeId} {A : AV} {z : Row} (h : srcOf st e A = some z) {v : Value} (hv : A.Rep κ w v) : (∃ c, v = .slice none 0 c ∧ z.xs = []) ∨ ∃ (ad : Addr) (c : Nat) (news : List Value), v = .slice (some ad) z.xs.length c ∧ news.length = z.xs.length * z.fs.size ∧
    (∀ j u, news[j]? = some u → w.cell? (ad.add j) = some u) ∧ (∀ u ∈ news, u.oneCell' = true) ∧ RowCells κ w z.fs z.xs news := by
  unfold srcOf at h
  split at h
  · rename_i r
    obtain ⟨rfl, _⟩ := hv
    obtain ⟨cells, ho, hc, _⟩ := hR.row r z h
    rcases ho.2 with ⟨hv, h0⟩ | ⟨g, cap, cur, hv, h2, h3, h4⟩
    · exact .inl ⟨0, hv, List.length_eq_zero_iff.1 h0⟩
    · have hcell := World.ownsRow.cells ho (g := g) (by rw [hv]; rfl)
      refine .inr ⟨⟨g, 0, none⟩, cap, cells, hv, ho.1, hcell, fun u hu => ?_, hc⟩
      obtain ⟨j, hj, rfl⟩ := List.getElem_of_mem hu
      have hj' : j < z.xs.length * z.fs.size := by rw [← ho.1]; exact hj
      have hfs := Kds.size_pos z.fs
      have hi : j / z.fs.size < z.xs.length := Nat.div_lt_of_lt_mul (by rw [Nat.mul_comm]; exact hj')
      obtain ⟨y, hy⟩ := Kds.fld_lt z.fs z.xs[j / z.fs.size] (j % z.fs.size) (Nat.mod_lt _ hfs)
      obtain ⟨u, hu2, hr⟩ := hc (j / z.fs.size) _ (List.getElem?_eq_getElem hi) (j % z.fs.size) y hy
      rw [Nat.mul_comm, Nat.div_add_mod, List.getElem?_eq_getElem hj] at hu2
      injection hu2 with hu2
      rw [hu2]; exact Kd.Rep.solid hr
  · injection h with h; subst h
    rcases src_cells (S := κ.S) hv with h | ⟨ad, c, news, h1, h2, h3, h4, h5⟩
    · exact .inl h
    · exact .inr ⟨ad, c, news, h1, h2, h3, h4, h5⟩
  · cases h
theorem owns_solid {base : Nat} {e : TypeId} {size n : Nat} {v : Value} {xs : List Value} (ho : w.ownsRow base e size v n xs) : v.oneCell' = true := by
  obtain ⟨A, c, rfl⟩ := owns_slice ho
  rfl
/-- behind an append: the row anew, its value in the slot -/
theorem append_done (hR : Rel w0 κ st a w) {r d : Nat} (hd : d < st.n) {v' : Value} {x : Row} {cells : List Value} {row : Option Nat} (hg : w.grownBy w' row) (hrow : ∀ g, row = some g → (κ.ρ r).ownBlock = some g ∧ (st.row r).isSome = true)
    (hown : w'.ownsRow w0.heap.size x.e x.fs.size v' x.xs.length cells) (hcells : RowCells κ w x.fs x.xs cells)
    (hnew : ∀ g, v'.ownBlock = some g → (row = some g ∧ (κ.ρ r).ownBlock = some g) ∨ w.heap.size ≤ g) :
    ∃ κ', Rel w0 κ' ((st.setRow r x).set d (.c (.one (.own r)))) (a.put (some d) v') w' := by
  have h := hR.setRow hg hrow hown hcells hnew
  refine ⟨_, h.set hd (v := .c (.one (.own r))) ?_⟩
  show v' = (if r = r then v' else κ.ρ r) ∧ _
  rw [if_pos rfl]
  exact ⟨rfl, owns_solid hown⟩
theorem grownBy_refl (w : World) (row : Option Nat) : w.grownBy w row := ⟨rfl, rfl, rfl, Nat.le_refl _, fun _ _ _ => rfl⟩

theorem cells_fld : ∀ (fs : Kds) (x : fs.Pay) (f : Nat) z, fs.fld x f = some z → (fs.cells x)[f]? = some (.val z.1 z.2)
  | .one k, x, 0, z, h => by injection h with h; subst h; rfl
  | .one k, x, f + 1, z, h => by cases h
  | .cons k ks, x, 0, z, h => by injection h with h; subst h; rfl
  | .cons k ks, x, f + 1, z, h => cells_fld ks x.2 f z h
theorem cells_len : ∀ (fs : Kds) (x : fs.Pay), (fs.cells x).length = fs.size
  | .one k, x => rfl
  | .cons k ks, x => congrArg (· + 1) (cells_len ks x.2)
theorem rowsFrom_sound {fs : Kds} : ∀ (n : Nat) (l : List Cell) (xs : List fs.Pay) (us : List Value), rowsFrom fs n l = some xs → CellsRep κ w l us.toArray → xs.length = n ∧ us.length = n * fs.size ∧ RowCells κ w fs xs us
  | 0, [], xs, us, h, hu => by
    injection h with h; subst h
    have : us = [] := by have := hu.1; simpa using this
    subst this
    exact ⟨rfl, by simp, fun i x hx => by cases hx⟩
  | 0, _ :: _, xs, us, h, hu => by cases h
  | n + 1, l, xs, us, h, hu => by
    have h : (match takeCells fs (l.take fs.size), rowsFrom fs n (l.drop fs.size) with
      | some x, some xs => some (x :: xs)
      | _, _ => none) = some xs := h
    split at h
    · rename_i x ys h1 h2
      injection h with h; subst h
      have hlen : us.length = l.length := hu.1
      have hc1 : CellsRep κ w (l.take fs.size) (us.take fs.size).toArray := by
        refine ⟨by simp [hlen], fun i c hc => ?_, fun i v hv => ?_⟩
        · rw [List.getElem?_take] at hc
          split at hc
          · rename_i hi
            obtain ⟨v, hv, hr⟩ := hu.2.1 i c hc
            exact ⟨v, by rw [List.getElem?_toArray, List.getElem?_take, if_pos hi]; simpa using hv, hr⟩
          · cases hc
        · rw [List.getElem?_toArray, List.getElem?_take] at hv
          split at hv
          · exact hu.2.2 i v (by simpa using hv)
          · cases hv
      have hc2 : CellsRep κ w (l.drop fs.size) (us.drop fs.size).toArray := ⟨by simp [hlen], fun i c hc => by
        rw [List.getElem?_drop] at hc
        obtain ⟨v, hv, hr⟩ := hu.2.1 _ c hc
        exact ⟨v, by rw [List.getElem?_toArray, List.getElem?_drop]; simpa using hv, hr⟩, fun i v hv => by
        rw [List.getElem?_toArray, List.getElem?_drop] at hv
        exact hu.2.2 _ v (by simpa using hv)⟩
      have hx := takeCells_sound fs _ x _ h1 hc1
      obtain ⟨e1, e2, e3⟩ := rowsFrom_sound n _ ys _ h2 hc2
      have hxl : (us.take fs.size).length = fs.size := by
        have := hx.1
        rw [cells_len] at this
        simpa using this
      have hge : fs.size ≤ us.length := by rw [List.length_take] at hxl; omega
      refine ⟨by simp [e1], ?_, fun i y hy f z hz => ?_⟩
      · rw [List.length_drop] at e2
        rw [Nat.add_mul, Nat.one_mul]; omega
      · cases i with
        | zero =>
          injection hy with hy; subst hy
          obtain ⟨u, hu', hr⟩ := hx.2.1 f _ (cells_fld fs x f z hz)
          refine ⟨u, ?_, hr⟩
          rw [List.getElem?_toArray, List.getElem?_take] at hu'
          split at hu'
          · rw [Nat.zero_mul, Nat.zero_add]; exact hu'
          · cases hu'
        | succ i =>
          obtain ⟨u, hu', hr⟩ := e3 i y hy f z hz
          refine ⟨u, ?_, hr⟩
          rw [List.getElem?_drop] at hu'
          rw [Nat.add_mul, Nat.one_mul, show i * fs.size + fs.size + f = fs.size + (i * fs.size + f) by omega]
          exact hu'
    · cases h
/-- a slice literal -/
theorem run_buildSlice {t e : TypeId} {len size bytes : Nat} (ht : P.underlying t = some (.slice e)) (hinfo : rowInfo P e = some (size, bytes)) (hR : Rel w0 κ st a w) {parts : Array (Nat × Operand)} {l : List Cell}
    (hl : buildParts st ((List.range len).map fun i => (i * size, size)) (List.replicate (len * size) .any) parts.toList = some l) (hsm : len * size ≤ 16777216) :
    ∃ us : Array Value, (Instr.buildSlice t len (parts.map fun (i, x) => (i, a.eval x))).run P w = .ok (.slice (some ⟨w.heap.size, 0, none⟩) len len) (w.alloc (.cells us e)) ∧ CellsRep κ w l us := by
  obtain ⟨i, z, hi, hz, hzs, hsz, hby, rfl, rfl, hone⟩ := rowInfo_spec hinfo
  let zero : Array Value := if len * i.size = 0 then #[] else z.cells
  let base : Array Value := (Array.range (len * i.size)).map fun k => zero[k % zero.size]!
  have hbase : CellsRep κ w (List.replicate (len * i.size) .any) base := by
    refine ⟨by simp [base], fun k c hc => ?_, fun k v hv => ?_⟩
    · obtain ⟨hk, rfl⟩ := List.getElem?_eq_some_iff.1 hc
      rw [List.length_replicate] at hk
      refine ⟨zero[k % zero.size]!, ?_, ?_⟩
      · simp [base, hk]
      · rw [List.getElem_replicate]; trivial
    · have hk : k < len * i.size := by
        have := (Array.getElem?_eq_some_iff.1 hv).1
        simpa [base] using this
      have hv' : v = zero[k % zero.size]! := by
        have : base[k]? = some (zero[k % zero.size]!) := by simp [base, hk]
        rw [this] at hv; injection hv with hv; exact hv.symm
      have hzero : zero = z.cells := if_neg (by omega)
      have hlt : k % zero.size < zero.size := Nat.mod_lt _ (by rw [hzero, hzs]; exact hsz)
      rw [hv', getElem!_pos zero _ hlt]
      refine List.all_eq_true.1 hone _ ?_
      have := Array.getElem_mem hlt
      rw [← hzero]
      exact Array.mem_toList_iff.2 this
  obtain ⟨us, hfill, hus⟩ := buildParts_sound hR _ (fun k => some (k * i.size, i.size)) (fun k q hq => by
    rw [List.getElem?_map] at hq
    cases hk : (List.range len)[k]? with
    | none => rw [hk] at hq; cases hq
    | some j =>
      rw [hk] at hq
      have : j = k := by
        have := (List.getElem?_eq_some_iff.1 hk).2
        rw [← this, List.getElem_range]
      subst this
      exact hq) parts.toList _ l base hl hbase
  refine ⟨us, ?_, hus⟩
  have hfill' : Instr.fill (fun k => some (k * i.size, i.size)) base (parts.map fun (i, x) => (i, a.eval x)).toList = some us := by
    rw [← hfill]; congr 1; simp
  have hsize : (Go.sizeOf e).run P w = .ok i.size w := by simp [Go.sizeOf, typeInfo, hi]
  have hzv : (zeroValue e).run P w = .ok z w := by simp [zeroValue, typeInfo, hi, hz]
  have hn : ¬ len * i.size > 2 ^ 24 := by omega
  have hfill2 : ∀ zz : Array Value, zero = zz → Instr.fill (fun k => some (k * i.size, i.size)) ((Array.range (len * i.size)).map fun x => zz[x % zz.size]!) (parts.map fun x => (x.fst, a.eval x.snd)).toList = some us := fun zz hzz => by
    subst hzz; exact hfill'
  unfold Instr.buildSlice
  simp only [Sem.run_bind, run_underlying ht, Result.andThen_ok, hsize, if_neg hn]
  by_cases h0 : len * i.size = 0
  · rw [if_pos h0]
    simp only [Sem.run_bind, Sem.run_pure, Result.andThen_ok]
    rw [hfill2 #[] (if_pos h0)]
    simp [newRow]
  · rw [if_neg h0]
    simp only [Sem.run_bind, Sem.run_pure, Result.andThen_ok, hzv]
    rw [hfill2 z.cells (if_neg h0)]
    simp [newRow]
end
end R
end Go.Proofs.YtgjdbnkeamjhhaaDoor

/-
  What 'vop' and 'vopQ' ask of an operation is enough.
-/
set_option linter.unusedVariables false
namespace Go.Proofs.YtgjdbnkeamjhhaaDoor
open Go.RowKit
namespace R
section
variable {w0 : Base} {w w' : World} {κ : Cx} {st : St} {a : Act} {P : Program}

/-- what stands behind an operation -/
def Fits (w0 : Base) (K : St → Prop) (next : Act → World → Prop) : Prop := ∀ (κ : Cx) (st : St) (a : Act) (w : World), K st → Rel w0 κ st a w → next a w

theorem partOf_free {t : TypeId} {cs : List Cell} {off : Nat} {c : Prop} {v : AV} (h : partOf P t cs off = .ok c v) : c := by
  unfold partOf at h
  split at h <;> (try split at h) <;> first | (injection h with h1 _; rw [← h1]; trivial) | cases h
theorem partOfRow_free {t : TypeId} {fs : Kds} {p : fs.Pay} {off : Nat} {c : Prop} {v : AV} (h : partOfRow P t fs p off = .ok c v) : c := by
  unfold partOfRow at h
  split at h <;> (try split at h) <;> first | (injection h with h1 _; rw [← h1]; trivial) | cases h
theorem binGot_free {b : Bool} {op : BinOp} (ho : (match op with | .eql | .neq | .lss | .leq | .gtr | .geq => true | _ => false) = true) {A B : AV} {c : Prop} {v : AV} (h : binGot b op A B = .ok c v) : c := by
  unfold binGot at h
  split at h
  · rename_i k p k' q
    have hs : isShift op = false := by cases op <;> first | rfl | exact absurd ho (by decide)
    rw [hs] at h
    cases he : IntKind.eqB k k'
    · rw [he] at h; cases h
    · rw [he] at h
      have h : intOp op k p q = .ok c v := h
      cases op <;> first | exact absurd ho (by decide) | (injection h with h1 _; rw [← h1]; trivial)
  · cases op <;> first | exact absurd ho (by decide) | (injection h with h1 _; rw [← h1]; trivial)
  · rename_i p q
    cases b
    · cases h
    · have h : boolOp op p q = .ok c v := h
      cases op <;> first | exact absurd ho (by decide) | (injection h with h1 _; rw [← h1]; trivial) | cases h
  · cases h
theorem lenGot_free {b : Bool} {A : AV} {c : Prop} {v : AV} (h : lenGot st b A = .ok c v) : c := by
  unfold lenGot at h
  split at h <;> (try split at h) <;> cases b <;> first | (injection h with h1 _; rw [← h1]; trivial) | cases h
theorem free_ok {op : Op} {c : Prop} {v : AV} (h : rop P st op = .ok c v) (hf : freeOp op = true) : c := by
  unfold rop at h
  split at h
  · injection h with h1 _; rw [← h1]; trivial
  · injection h with h1 _; rw [← h1]; trivial
  · split at h
    · injection h with h1 _; rw [← h1]; trivial
    · cases h
  · split at h
    · split at h
      · exact partOf_free h
      · cases h
    · exact partOfRow_free h
    · split at h
      · rename_i y _
        rename_i r sz i f _ _ _
        cases hz : sz.beq y.fs.size
        · rw [hz] at h; cases h
        · rw [hz] at h; exact partOfRow_free h
      · cases h
    · cases h
  · split at h <;> first | (injection h with h1 _; rw [← h1]; trivial) | cases h
  · rename_i op t x y ty
    exact binGot_free hf h
  · split at h
    · injection h with h1 _; rw [← h1]; trivial
    · cases hf
    · cases h
  · split at h <;> first | (injection h with h1 _; rw [← h1]; trivial) | cases h
  · split at h
    · split at h
      · rename_i fd _
        cases hsz : sizeB P fd.type with
        | none => rw [hsz] at h; cases h
        | some n =>
          rw [hsz] at h
          dsimp only at h
          cases hz : Nat.blt 0 n
          · rw [hz] at h; cases h
          · rw [hz] at h
            dsimp only [cond_true] at h
            split at h <;> first | (injection h with h1 _; rw [← h1]; trivial) | cases h
      · cases h
    · cases h
  · split at h
    · split at h
      · exact partOf_free h
      · cases h
    · cases h
  · cases hf
  · cases hf
  · cases hf
  · split at h
    · split at h <;> first | (injection h with h1 _; rw [← h1]; trivial) | cases h
    · cases h
  · split at h
    · split at h
      · split at h <;> first | (injection h with h1 _; rw [← h1]; trivial) | cases h
      · cases h
    · cases h
  · split at h
    · split at h
      · exact lenGot_free h
      · exact lenGot_free h
      · cases h
    · cases h
  · cases h
theorem asks_out {op : Op} {c k : Prop} {v : AV} (h : rop P st op = .ok c v) (ha : asks op c k) : c ∧ k := by
  unfold asks at ha
  cases hf : freeOp op
  · rw [hf] at ha; exact ha
  · rw [hf] at ha; exact ⟨free_ok h hf, ha⟩
theorem no_grow {b : Bool} {p : Prop} (e : b = false) (h : b = true) : p := by rw [e] at h; cases h
theorem rop_wpG {o : Oper} {c : Prop} {v : AV} {K : St → Prop} {next : Act → World → Prop} {Q : Exit → Act → World → Prop} (hR : Rel w0 κ st a w) (h : rop P st o.op = .ok c v) (hv : (bif putOk st o.dst then asks o.op c (K (st.put o.dst v)) else False)) (hF : Fits w0 K next) : o.wp P a w (fun a' w' => (growOp o.op = true → Below w.heap.size w w') ∧ next a' w') Q := by
  cases hd : putOk st o.dst
  · rw [hd] at hv; exact hv.elim
  · rw [hd] at hv
    obtain ⟨hc, hK⟩ := asks_out h hv
    obtain ⟨u, hu, hw⟩ := rop_sound hR h hc
    unfold Oper.wp
    rw [hw w (bel_refl w)]
    exact ⟨fun _ => bel_refl w, hF κ _ _ _ hK (hR.put hd hu)⟩

/-- as 'vop_sound', with what the operation leaves of the old memory -/
theorem vop_soundG {cons : List Con} (hcons : ∀ c ∈ cons, c.Holds P) {o : Oper} {K : St → Prop} {next : Act → World → Prop} {Q : Exit → Act → World → Prop} (hR : Rel w0 κ st a w) (h : vop P cons o st K) (hF : Fits w0 K next) : o.wp P a w (fun a' w' => (growOp o.op = true → Below w.heap.size w w') ∧ next a' w') Q := by
  unfold vop at h
  split at h
  · -- alloc
    rename_i e ho
    split at h
    · rename_i d cs hd hz
      cases hb : Nat.blt d st.n
      · rw [hb] at h; exact h.elim
      · rw [hb] at h
        have hlt : d < st.n := by rw [Nat.blt_eq] at hb; exact hb
        obtain ⟨it, z, hit, hzz, hcs⟩ := zeroCells_sound (κ := κ) (w := w) hz
        obtain ⟨κ', hR'⟩ := hR.newBox hlt hcs e
        unfold Oper.wp
        have hrun : (execOp a.eval o).run P w = .ok (.value (.pointer (some ⟨w.heap.size, 0, none⟩))) (w.alloc (.cells z.cells e)) := by
          simp [execOp, ho, Instr.alloc, zeroValue, typeInfo, hit, hzz, newVar, newRow]
        rw [hrun]
        show (_ → _) ∧ next (a.put o.dst _) _
        rw [hd]
        exact ⟨fun _ => bel_alloc (bel_refl w) _, hF κ' _ _ _ h hR'⟩
    · exact h.elim
  · -- box
    rename_i e x ho
    split at h
    · rename_i d cs hd hz
      cases hb : Nat.blt d st.n
      · rw [hb] at h; exact h.elim
      · rw [hb] at h
        have hlt : d < st.n := by rw [Nat.blt_eq] at hb; exact hb
        obtain ⟨κ', hR'⟩ := hR.newBox hlt (compCells_sound hz (hR.ev x)) e
        unfold Oper.wp
        have hrun : (execOp a.eval o).run P w = .ok (.value (.pointer (some ⟨w.heap.size, 0, none⟩))) (w.alloc (.cells (a.eval x).cells e)) := by
          simp [execOp, ho, Instr.box, newVar, newRow]
        rw [hrun]
        show (_ → _) ∧ next (a.put o.dst _) _
        rw [hd]
        exact ⟨fun _ => bel_alloc (bel_refl w) _, hF κ' _ _ _ h hR'⟩
    · exact h.elim
  · -- store
    rename_i t x y ho
    split at h
    · rename_i b off cs n hx hy hs
      cases hb : n.beq cs.length && putOk st o.dst
      · rw [hb] at h; exact h.elim
      · rw [hb] at h
        rw [Bool.and_eq_true] at hb
        have hn : n = cs.length := Nat.eq_of_beq_eq_true hb.1
        dsimp only [cond_true] at h
        split at h
        · rename_i bs hbs
          split at h
          · rename_i bs' hset
            have hpx : a.eval x = .pointer (some ⟨κ.β b, off, none⟩) := by have := hR.ev x; rw [hx] at this; exact this
            have hcy := compCells_sound hy (hR.ev y)
            obtain ⟨us, ty, hblk, hr, hge, hS⟩ := hR.box b bs hbs
            have hle : 0 < (a.eval y).cells.toList.length → off + 0 + (a.eval y).cells.toList.length ≤ us.size := fun h0 => by
              have e1 : (a.eval y).cells.toList.length = cs.length := by rw [Array.length_toList]; exact hcy.1
              rw [e1] at h0 ⊢
              rw [hr.1]
              exact setCells_le cs bs bs' off hset h0
            obtain ⟨w', h1, h2, h3⟩ := run_storeCells (P := P) (a.eval y).cells.toList off 0 us w hblk (fun v hv => by
              obtain ⟨i, hi, rfl⟩ := List.getElem_of_mem hv
              exact hcy.2.2 i _ (by rw [← Array.getElem?_toList]; exact List.getElem?_eq_getElem hi)) hle
            have hcs := setCells_spec cs bs off bs' (a.eval y).cells.toList us hset (by simpa using hcy) hr
            have hR' := (hR.store hbs h2 h3 hcs).put (d := o.dst) hb.2 (v := .c (.one .undef)) (u := Go.undef) rfl
            unfold Oper.wp
            have hrun : (execOp a.eval o).run P w = .ok .skip w' := by
              have hsz : (a.eval y).cells.size = n := by rw [hn]; exact hcy.1
              simp [execOp, ho, Instr.storeAt, Instr.sureAddr, hpx, Go.storeVar, sizeB_run hs, hsz, h1]
            rw [hrun]
            exact ⟨fun hg => no_grow (by rw [ho]; rfl) hg, hF κ _ _ _ h hR'⟩
          · exact h.elim
        · exact h.elim
    · exact h.elim
  · -- call
    rename_i f args ts ho
    split at h
    · rename_i c hc
      obtain ⟨hmem, rfl⟩ := conOf_spec hc
      unfold vcall at h
      obtain ⟨κ1, hR1⟩ := Rel.freezeAll (ownsA (evs st args.toList)) hR
      split at h
      · rename_i p hp
        cases hd : putOk st o.dst
        · rw [hd] at h; exact h.elim
        · rw [hd] at h
          have hd1 : putOk (st.freezeAll (ownsA (evs st args.toList))) o.dst = true := by
            unfold putOk at hd ⊢
            rw [freezeAll_n]; exact hd
          obtain ⟨hpre, hK⟩ := h
          have hH := hcons c hmem
          unfold Oper.wp
          rw [run_call c hH ho w]
          refine (hH.2 p _ w κ1.S hR1.bound hpre (comps_plain (κ := κ1) (κ' := Cx.of κ1.S) c.args p rfl (takeAll_sound hR1 _ _ _ hp))).mono ?_
          rintro e w' ⟨r, v, rfl, hpost, hres, hb⟩
          have hR' := (hR1.later hb).put hd1 (resAV_plain (κ := Cx.of fun g => κ1.S g ∨ (w.heap.size ≤ g ∧ g < w'.heap.size)) (κ' := { κ1 with S := fun g => κ1.S g ∨ (w.heap.size ≤ g ∧ g < w'.heap.size) }) c.res r rfl hres)
          have hK' : K ((st.freezeAll (ownsA (evs st args.toList))).put o.dst (resAV c.res r)) := by
            cases hfn : c.fn with
            | none => rw [hfn] at hK; exact hK r hpost
            | some F => rw [hfn] at hK; rw [hH.1.2 F hfn p r hpost]; exact hK
          exact ⟨fun _ => hb, hF _ _ _ _ hK' hR'⟩
      · exact h.elim
    · exact h.elim
  · -- append
    rename_i args ts ho
    split at h
    · rename_i s x t t' d hargs hts hd
      split at h
      · rename_i e z hu hz
        split at h
        · rename_i size bytes hinfo
          obtain ⟨i, zero, hi, hz0, hzs, hsz, hby, rfl, rfl, _⟩ := rowInfo_spec hinfo
          have hsrc := srcOf_cells hR hz (hR.ev x)
          have ha : args = #[s, x] := by cases args; simp_all
          have hT : ts = #[t, t'] := by cases ts; simp_all
          subst ha; subst hT
          split at h
          · -- a row of the call's own
            rename_i r hs
            split at h
            · rename_i y hy
              split at h
              · rename_i hfs _
                cases hb : t'.beq t && y.e.beq e && y.fs.size.beq i.size && Nat.blt d st.n && !isOwn r (st.ev x)
                · rw [hb] at h; exact h.elim
                · rw [hb] at h
                  simp only [Bool.and_eq_true] at hb
                  obtain ⟨⟨⟨⟨b1, b2⟩, b3⟩, b4⟩, b5⟩ := hb
                  obtain rfl := Nat.eq_of_beq_eq_true b1
                  have he := Nat.eq_of_beq_eq_true b2
                  have hss := Nat.eq_of_beq_eq_true b3
                  have hdn : d < st.n := by rw [Nat.blt_eq] at b4; exact b4
                  obtain ⟨hlen, hK⟩ := h
                  have hvs : a.eval s = κ.ρ r := by have := hR.ev s; rw [hs] at this; exact this.1
                  obtain ⟨ye, yfs, yxs⟩ := y
                  obtain ⟨ze, zfs, zxs⟩ := z
                  dsimp only at hfs he hss hlen hK hsrc
                  subst hfs; subst he
                  obtain ⟨cells, hown, hcells, hn⟩ := hR.row r _ hy
                  dsimp only at hown hcells
                  have hmx : yxs.length + zxs.length ≤ maxLen := by
                    have h1 : yxs.length + zxs.length ≤ (yxs.length + zxs.length) * i.bytes := Nat.le_mul_of_pos_right _ hby
                    show _ ≤ 9223372036854775807
                    omega
                  have hrow : ∀ g, (κ.ρ r).ownBlock = some g → (κ.ρ r).ownBlock = some g ∧ (st.row r).isSome = true := fun g hg => ⟨hg, by rw [hy]; rfl⟩
                  have hfin : ∀ v' w', (Builtin.append_ #[t', t'] o.type #[a.eval s, a.eval x]).run P w = .ok v' w' → (execOp a.eval o).run P w = .ok (.value v') w' := fun v' w' hrun => by
                    simp [execOp, ho, resolve, invoke, builtin, hrun]
                  unfold Oper.wp
                  rcases hsrc with ⟨c, hvx, hnil⟩ | ⟨ad, c, news, hvx, hl, hnews, h1, hnc⟩
                  · subst hnil
                    have hrun := run_append_none (P := P) (ty := o.type) hu hi (size := i.size) (by rw [← hss]; exact hown) c
                    rw [hfin _ _ (by rw [hvs, hvx]; exact hrun)]
                    obtain ⟨κ', hR'⟩ := append_done hR (x := ⟨ye, zfs, yxs ++ castRow rfl []⟩) hdn (grownBy_refl w (κ.ρ r).ownBlock) hrow (by
                      show w.ownsRow _ ye zfs.size _ (yxs ++ []).length cells
                      rw [List.append_nil]; exact hown) (by
                      show RowCells κ w zfs (yxs ++ []) cells
                      rw [List.append_nil]; exact hcells) (r := r) (fun g hg => .inl ⟨hg, hg⟩)
                    show (_ → _) ∧ next (a.put o.dst _) _
                    rw [hd]
                    exact ⟨fun hg => no_grow (by rw [ho]; rfl) hg, hF κ' _ _ _ hK hR'⟩
                  · obtain ⟨v', w', row, hrun, ho', hgr, hr1, hr2⟩ := run_append_at (P := P) (ty := o.type) hu hi hz0 hzs hsz (by rw [← hss]; exact hown) (by rw [← hss]; exact hl) hnews h1 hmx hlen hR.below.size
                    rw [hfin _ _ (by rw [hvs, hvx]; exact hrun)]
                    obtain ⟨κ', hR'⟩ := append_done hR (x := ⟨ye, zfs, yxs ++ castRow rfl zxs⟩) (r := r) hdn hgr (fun g hg => hrow g (hr1 g hg)) (by
                      show w'.ownsRow _ ye zfs.size _ (yxs ++ zxs).length (cells ++ news)
                      rw [List.length_append, hss]; exact ho') (rowCells_append hown.1 hcells hnc) hr2
                    show (_ → _) ∧ next (a.put o.dst _) _
                    rw [hd]
                    exact ⟨fun hg => no_grow (by rw [ho]; rfl) hg, hF κ' _ _ _ hK hR'⟩
              · exact h.elim
            · exact h.elim
          · -- nil
            rename_i hs
            cases hb : t'.beq t && z.fs.size.beq i.size && Nat.blt d st.n
            · rw [hb] at h; exact h.elim
            · rw [hb] at h
              simp only [Bool.and_eq_true] at hb
              obtain ⟨⟨b1, b2⟩, b3⟩ := hb
              obtain rfl := Nat.eq_of_beq_eq_true b1
              have hss := Nat.eq_of_beq_eq_true b2
              have hdn : d < st.n := by rw [Nat.blt_eq] at b3; exact b3
              obtain ⟨hlen, hK⟩ := h
              have hvs : a.eval s = .slice none 0 0 := by have := hR.ev s; rw [hs] at this; exact this
              have hmx : 0 + z.xs.length ≤ maxLen := by
                have h1 : z.xs.length ≤ z.xs.length * i.bytes := Nat.le_mul_of_pos_right _ hby
                show _ ≤ 9223372036854775807
                omega
              have hfin : ∀ v' w', (Builtin.append_ #[t', t'] o.type #[a.eval s, a.eval x]).run P w = .ok v' w' → (execOp a.eval o).run P w = .ok (.value v') w' := fun v' w' hrun => by
                simp [execOp, ho, resolve, invoke, builtin, hrun]
              have hnil := World.ownsRow_nil w w.heap.size e i.size
              unfold Oper.wp
              rcases hsrc with ⟨c, hvx, hnl⟩ | ⟨ad, c, news, hvx, hl, hnews, h1, hnc⟩
              · have hrun := run_append_none (P := P) (ty := o.type) hu hi hnil c
                rw [hfin _ _ (by rw [hvs, hvx]; exact hrun)]
                obtain ⟨κ', hR'⟩ := append_done hR (r := d) (x := ⟨e, z.fs, z.xs⟩) hdn (grownBy_refl w none) (fun g hg => nomatch hg) (by
                  show w.ownsRow _ e z.fs.size _ z.xs.length []
                  rw [hnl, hss]; exact World.ownsRow_nil _ _ _ _) (fun i x hx => by
                    have hx : z.xs[i]? = some x := hx
                    rw [hnl] at hx; simp at hx) (fun g hg => by cases hg)
                show (_ → _) ∧ next (a.put o.dst _) _
                rw [hd]
                exact ⟨fun hg => no_grow (by rw [ho]; rfl) hg, hF κ' _ _ _ hK hR'⟩
              · obtain ⟨v', w', row, hrun, ho', hgr, hr1, hr2⟩ := run_append_at (P := P) (ty := o.type) hu hi hz0 hzs hsz hnil (by rw [← hss]; exact hl) hnews h1 hmx (by rw [Nat.zero_add]; exact hlen) (Nat.le_refl _)
                rw [hfin _ _ (by rw [hvs, hvx]; exact hrun)]
                have hr1' : row = none := by
                  cases row with
                  | none => rfl
                  | some g => have := hr1 g rfl; cases this
                subst hr1'
                obtain ⟨κ', hR'⟩ := append_done hR (r := d) (x := ⟨e, z.fs, z.xs⟩) hdn hgr (fun g hg => nomatch hg) (by
                  show w'.ownsRow _ e z.fs.size _ z.xs.length news
                  rw [hss]
                  rw [Nat.zero_add, List.nil_append] at ho'
                  exact owns_mono ho' hR.below.size) hnc (fun g hg => .inr (owns_block ho' g hg))
                show (_ → _) ∧ next (a.put o.dst _) _
                rw [hd]
                exact ⟨fun hg => no_grow (by rw [ho]; rfl) hg, hF κ' _ _ _ hK hR'⟩
          · exact h.elim
        · exact h.elim
      · exact h.elim
    · exact h.elim
  · -- a literal
    rename_i t len parts ho
    split at h
    · rename_i e d hu hd
      split at h
      · rename_i size bytes fs hinfo hfs
        split at h
        · rename_i l hl
          split at h
          · rename_i xs hxs
            cases hb : fs.size.beq size && Nat.blt d st.n && Nat.ble (len * size) 16777216
            · rw [hb] at h; exact h.elim
            · rw [hb] at h
              simp only [Bool.and_eq_true] at hb
              obtain ⟨⟨b1, b2⟩, b3⟩ := hb
              have hss := Nat.eq_of_beq_eq_true b1
              have hdn : d < st.n := by rw [Nat.blt_eq] at b2; exact b2
              obtain ⟨us, hrun, hus⟩ := run_buildSlice hu hinfo hR hl (Nat.le_of_ble_eq_true b3)
              obtain ⟨e1, e2, e3⟩ := rowsFrom_sound (fs := fs) len l xs us.toList hxs (by simpa using hus)
              have hlm : len ≤ maxLen := by
                have h1 : 0 < size := by rw [← hss]; exact Kds.size_pos fs
                have h2 : len ≤ len * size := Nat.le_mul_of_pos_right _ h1
                have h3 := Nat.le_of_ble_eq_true b3
                show _ ≤ 9223372036854775807
                omega
              obtain ⟨κ', hR'⟩ := append_done hR (r := d) (x := ⟨e, fs, xs⟩) (w' := w.alloc (.cells us e)) (v' := .slice (some ⟨w.heap.size, 0, none⟩) len len) (cells := us.toList) hdn (World.grownBy_alloc w _ none) (fun g hg => nomatch hg) (by
                show World.ownsRow _ _ e fs.size _ xs.length _
                rw [e1]
                refine ⟨e2, .inr ⟨w.heap.size, len, us, rfl, hR.below.size, heap_alloc_new w _, Nat.le_refl _, hlm, by rw [← e2, Array.length_toList], ?_⟩⟩
                rw [List.take_of_length_le (by rw [e2]; exact Nat.le_refl _)]) e3 (fun g hg => .inr (by
                  have : w.heap.size = g := by simpa [Value.ownBlock] using hg
                  omega))
              unfold Oper.wp
              have hrun' : (execOp a.eval o).run P w = .ok (.value (.slice (some ⟨w.heap.size, 0, none⟩) len len)) (w.alloc (.cells us e)) := by
                simp only [execOp, ho]
                rw [Sem.run_bind, hrun]; rfl
              rw [hrun']
              show (_ → _) ∧ next (a.put o.dst _) _
              rw [hd]
              exact ⟨fun _ => bel_alloc (bel_refl w) _, hF κ' _ _ _ h hR'⟩
          · exact h.elim
        · exact h.elim
      · exact h.elim
    · exact h.elim
  · -- the others
    split at h
    · rename_i c v hr
      exact rop_wpG hR hr h hF
    · exact h.elim
theorem vop_sound {cons : List Con} (hcons : ∀ c ∈ cons, c.Holds P) {o : Oper} {K : St → Prop} {next : Act → World → Prop} {Q : Exit → Act → World → Prop} (hR : Rel w0 κ st a w) (h : vop P cons o st K) (hF : Fits w0 K next) : o.wp P a w next Q :=
  Oper.wp_mono (fun _ _ h => h.2) (vop_soundG hcons hR h hF)

/-- an operation that yields one value in every later world -/
def FitsQ (w0 : Base) (w : World) (K : St → Prop) (next : Act → Prop) : Prop := ∀ (κ : Cx) (st : St) (a : Act), K st → Rel w0 κ st a w → next a

theorem flat_value {c : CK} (hf : c.flat = true) {p : c.Pay} {κ κ' : Cx} {w w' : World} {v : Value} (h : (c.comp p).Rep κ w v) : (c.comp p).Rep κ' w' v := by
  cases c with
  | agg ks => cases hf
  | one k => cases k <;> first | exact h | cases hf
theorem flat_same {c : CK} (hf : c.flat = true) {p : c.Pay} {κ κ' : Cx} {w w' : World} {v v' : Value} (h : (c.comp p).Rep κ w v) (h' : (c.comp p).Rep κ' w' v') : v = v' := by
  cases c with
  | agg ks => cases hf
  | one k => cases k <;> first | exact (show v = _ from h).trans (show v' = _ from h').symm | cases hf
theorem flat_comps : ∀ (l : List CK) (r : Pays l), l.all CK.flat = true → ∀ c ∈ compsOf l r, ∃ (x : CK) (q : x.Pay), x.flat = true ∧ c = x.comp q
  | [], p, hf, c, h => by cases h
  | [x], p, hf, c, h => ⟨x, p, by simpa using hf, List.mem_singleton.1 h⟩
  | x :: y :: r, p, hf, c, h => by
    have hf' : x.flat = true ∧ (y :: r).all CK.flat = true := by rw [List.all_cons, Bool.and_eq_true] at hf; exact hf
    rcases List.mem_cons.1 h with rfl | h
    · exact ⟨x, p.1, hf'.1, rfl⟩
    · exact flat_comps (y :: r) p.2 hf'.2 c h
/-- flat results have one value, the same in every world -/
theorem resAV_same {l : List CK} (hf : l.all CK.flat = true) {r : Pays l} {κ κ' : Cx} {w w' : World} {v v' : Value} (h : (resAV l r).Rep κ w v) (h' : (resAV l r).Rep κ' w' v') : v = v' := by
  unfold resAV at *
  split at h
  · rename_i x hx
    rw [hx] at h'
    obtain ⟨y, q, hy, rfl⟩ := flat_comps l r hf x (by rw [hx]; exact List.mem_singleton.2 rfl)
    exact flat_same hy h h'
  · rename_i xs hne
    have h' : AV.Rep κ' w' (.tup (compsOf l r)) v' := by
      split at h'
      · rename_i x hx; exact absurd hx (hne x)
      · exact h'
    obtain ⟨vs, rfl, h1, h2⟩ := h
    obtain ⟨us, rfl, h3, h4⟩ := h'
    have : vs = us := by
      apply Array.ext (by rw [h1, h3])
      intro i hi hi'
      have hl : i < (compsOf l r).length := by rw [← h1]; exact hi
      obtain ⟨u, hu, hr⟩ := h2 i _ (List.getElem?_eq_getElem hl)
      obtain ⟨u', hu', hr'⟩ := h4 i _ (List.getElem?_eq_getElem hl)
      obtain ⟨y, q, hy, e⟩ := flat_comps l r hf _ (List.getElem_mem hl)
      rw [e] at hr hr'
      rw [Array.getElem?_eq_getElem hi] at hu
      rw [Array.getElem?_eq_getElem hi'] at hu'
      injection hu with hu; injection hu' with hu'
      rw [hu, hu']
      exact flat_same hy hr hr'
    rw [this]
theorem resAV_flat {l : List CK} (hf : l.all CK.flat = true) {r : Pays l} {κ κ' : Cx} {w w' : World} {v : Value} (h : (resAV l r).Rep κ w v) : (resAV l r).Rep κ' w' v := by
  unfold resAV at *
  split at h
  · rename_i x hx
    obtain ⟨y, q, hy, rfl⟩ := flat_comps l r hf x (by rw [hx]; exact List.mem_singleton.2 rfl)
    exact flat_value hy h
  · obtain ⟨vs, rfl, h1, h2⟩ := h
    refine ⟨vs, rfl, h1, fun i c hc => ?_⟩
    obtain ⟨u, hu, hr⟩ := h2 i c hc
    obtain ⟨y, q, hy, rfl⟩ := flat_comps l r hf c (List.mem_of_getElem? hc)
    exact ⟨u, hu, flat_value hy hr⟩

theorem vopQ_sound {cons : List Con} (hcons : ∀ c ∈ cons, c.Holds P) {o : Oper} {K : St → Prop} {next : Act → Prop} (hR : Rel w0 κ st a w) (h : vopQ P cons o st K) (hF : FitsQ w0 w K next) :
    o.quiet P a (fun w' => Below w.heap.size w w') next := by
  unfold vopQ at h
  split at h
  · rename_i f args ts ho
    split at h
    · rename_i c hc
      obtain ⟨hmem, rfl⟩ := conOf_spec hc
      obtain ⟨κ1, hR1⟩ := Rel.freezeAll (ownsA (evs st args.toList)) hR
      split at h
      · rename_i p hp
        cases hd : putOk st o.dst && c.res.all CK.flat
        · rw [hd] at h; exact h.elim
        · rw [hd] at h
          rw [Bool.and_eq_true] at hd
          obtain ⟨hpre, hK0⟩ := h
          have hH := hcons c hmem
          have hargs := comps_plain (κ := κ1) (κ' := Cx.of κ1.S) c.args p rfl (takeAll_sound hR1 _ _ _ hp)
          have hd1 : putOk (st.freezeAll (ownsA (evs st args.toList))) o.dst = true := by
            have := hd.1
            unfold putOk at this ⊢
            rw [freezeAll_n]; exact this
          obtain ⟨⟨r0, hr0, huniq⟩, hK⟩ : (∃ r, c.post p r ∧ ∀ r', c.post p r' → r' = r) ∧ ∀ r, c.post p r → K ((st.freezeAll (ownsA (evs st args.toList))).put o.dst (resAV c.res r)) := by
            cases hfn : c.fn with
            | none => rw [hfn] at hK0; exact hK0
            | some F =>
              rw [hfn] at hK0
              have hu := hH.1.2 F hfn p
              obtain ⟨e, w', fr, ⟨r, v, rfl, hpost, hres, hb⟩, _⟩ := hH.2 p _ w κ1.S hR1.bound hpre hargs []
              exact ⟨⟨r, hpost, fun r' h' => (hu r' h').trans (hu r hpost).symm⟩, fun r' h' => by rw [hu r' h']; exact hK0⟩
          -- the value that the call in w itself hands back
          obtain ⟨v0, hv0⟩ : ∃ v0, (resAV c.res r0).Rep (Cx.of κ1.S) w v0 := by
            have := hH.2 p _ w κ1.S hR1.bound hpre hargs
            obtain ⟨e, w', fr, ⟨r, v, rfl, hpost, hres, hb⟩, _⟩ := this []
            obtain rfl := huniq r hpost
            exact ⟨v, resAV_flat hd.2 hres⟩
          refine ⟨v0, fun w' hb => ?_, hF _ _ _ (hK r0 hr0) (hR1.put hd1 (resAV_flat hd.2 hv0))⟩
          unfold Oper.quietAt
          rw [run_call c hH ho w']
          refine ⟨rfl, ?_⟩
          have hR' := hR1.later hb
          have hargs' : CompsRep (Cx.of fun g => κ1.S g ∨ (w.heap.size ≤ g ∧ g < w'.heap.size)) w' (compsOf c.args p) (args.toList.map a.eval) :=
            comps_plain (κ := { κ1 with S := fun g => κ1.S g ∨ (w.heap.size ≤ g ∧ g < w'.heap.size) }) (κ' := Cx.of fun g => κ1.S g ∨ (w.heap.size ≤ g ∧ g < w'.heap.size)) c.args p rfl (takeAll_sound hR' _ _ _ hp)
          refine (hH.2 p _ w' _ hR'.bound hpre hargs').mono ?_
          rintro e w'' ⟨r, v, rfl, hpost, hres, hb'⟩
          obtain rfl := huniq r hpost
          exact ⟨by rw [resAV_same hd.2 hres hv0], bel_trans hb hb'⟩
      · exact h.elim
    · exact h.elim
  · split at h
    · rename_i c v hr
      cases hd : putOk st o.dst
      · rw [hd] at h; exact h.elim
      · rw [hd] at h
        obtain ⟨hc, hK⟩ := asks_out hr h
        obtain ⟨u, hu, hw⟩ := rop_sound hR hr hc
        refine ⟨u, fun w' hb => ?_, hF _ _ _ hK (hR.put hd hu)⟩
        unfold Oper.quietAt
        rw [hw w' hb]
        exact ⟨rfl, rfl⟩
    · exact h.elim
end
end R
end Go.Proofs.YtgjdbnkeamjhhaaDoor

/-
  Regions, branches, loops: what 'vc' asks is enough.
-/
set_option linter.unusedVariables false
namespace Go.Proofs.YtgjdbnkeamjhhaaDoor
open Go.RowKit
namespace R
section
variable {w0 : Base} {w w' : World} {κ : Cx} {st : St} {a : Act} {P : Program} {cons : List Con}

theorem wayOf_spec (hR : Rel w0 κ st a w) (ops : List Oper) (o : Oper) : match wayOf ops st o with
    | .run => Region.wanted o (yielded ops.toArray a.tmps) = true
    | .skip => Region.wanted o (yielded ops.toArray a.tmps) = false
    | .part t b want => Region.wanted o (yielded ops.toArray a.tmps) = (b == want) ∧ a.tmps.getD t Go.undef = .bool b
    | .no => True := by
  unfold wayOf
  cases hg : o.guard with
  | none => simp [Region.wanted, hg]
  | some q =>
    obtain ⟨j, want⟩ := q
    dsimp only
    cases ht : (ops[j]?).bind (·.dst) with
    | none => trivial
    | some t =>
      have hy : yielded ops.toArray a.tmps j = match a.tmps[t]? with
          | some (.bool b) => some b
          | _ => none := by
        unfold yielded
        have : ((ops.toArray[j]?).bind (·.dst)) = some t := by simpa using ht
        rw [this]; rfl
      have henv := hR.env t
      dsimp only
      split <;> rename_i heq
      · split at heq <;> first | cases heq | skip
      · -- skip
        split at heq <;> first | cases heq | skip
        rename_i e
        rw [e] at henv
        have henv : a.tmps.getD t Go.undef = Go.undef := henv
        have hn : yielded ops.toArray a.tmps j = none := by
          rw [hy]
          cases hx : a.tmps[t]? with
          | none => rfl
          | some v =>
            rw [Array.getD_eq_getD_getElem?, hx] at henv
            have henv : v = Go.undef := henv
            subst henv; rfl
        simp [Region.wanted, hg, hn]
      · rename_i t' b want'
        split at heq <;> first | cases heq | skip
        rename_i e
        rw [e] at henv
        have henv : a.tmps.getD t Go.undef = .bool b := henv
        have hn : yielded ops.toArray a.tmps j = some b := by
          rw [hy]
          cases hx : a.tmps[t]? with
          | none =>
            rw [Array.getD_eq_getD_getElem?, hx] at henv
            cases henv
          | some v =>
            rw [Array.getD_eq_getD_getElem?, hx] at henv
            have henv : v = .bool b := henv
            subst henv; rfl
        refine ⟨?_, henv⟩
        simp [Region.wanted, hg, hn]
      · trivial

theorem vops_list (hcons : ∀ c ∈ cons, c.Holds P) (ops : List Oper) {K : St → Prop} {Q : Exit → Act → World → Prop} (hK : Fits w0 K (Q .normal)) : ∀ (l : List Oper) (κ : Cx) (st : St) (a : Act) (w : World), vops (vop P cons) ops l st K → Rel w0 κ st a w → wpList P ops.toArray Q l a w
  | [], κ, st, a, w, h, hR => hK κ st a w h hR
  | o :: r, κ, st, a, w, h, hR => by
    have ih : Fits w0 (fun st' => vops (vop P cons) ops r st' K) (wpList P ops.toArray Q r) := fun κ st a w h hR => vops_list hcons ops hK r κ st a w h hR
    have hw := wayOf_spec hR ops o
    have h : vgo (vop P cons) o st (wayOf ops st o) (fun st' => vops (vop P cons) ops r st' K) := h
    unfold wpList
    cases hway : wayOf ops st o with
    | run =>
      rw [hway] at hw h
      have hw : Region.wanted o (yielded ops.toArray a.tmps) = true := hw
      rw [if_pos hw]
      exact .inl (vop_sound (K := fun st' => vops (vop P cons) ops r st' K) hcons hR h ih)
    | skip =>
      rw [hway] at hw h
      have hw : Region.wanted o (yielded ops.toArray a.tmps) = false := hw
      rw [if_neg (by rw [hw]; decide)]
      have h : (bif putOk st o.dst then vops (vop P cons) ops r (st.put o.dst (.c (.one .undef))) K else False) := h
      cases hd : putOk st o.dst
      · rw [hd] at h; exact h.elim
      · rw [hd] at h
        exact ih κ _ _ _ h (hR.put hd rfl)
    | part t b want =>
      rw [hway] at hw h
      obtain ⟨hw, hb⟩ := hw
      have h : (bif putOk st o.dst then
        bif b then (bif want then vop P cons o (st.set t (bool true)) (fun st' => vops (vop P cons) ops r st' K) else vops (vop P cons) ops r ((st.set t (bool true)).put o.dst (.c (.one .undef))) K)
        else (bif want then vops (vop P cons) ops r ((st.set t (bool false)).put o.dst (.c (.one .undef))) K else vop P cons o (st.set t (bool false)) (fun st' => vops (vop P cons) ops r st' K))
        else False) := h
      cases hd : putOk st o.dst
      · rw [hd] at h; exact h.elim
      · rw [hd] at h
        have hR' : Rel w0 κ (st.set t (bool b)) a w := hR.know (by rw [hb]; rfl)
        have hd' : putOk (st.set t (bool b)) o.dst = true := hd
        cases b <;> cases want
        · have hw : Region.wanted o (yielded ops.toArray a.tmps) = true := hw
          rw [if_pos hw]; exact .inl (vop_sound (K := fun st' => vops (vop P cons) ops r st' K) hcons hR' h ih)
        · have hw : Region.wanted o (yielded ops.toArray a.tmps) = false := hw
          rw [if_neg (by rw [hw]; decide)]; exact ih κ _ _ _ h (hR'.put hd' rfl)
        · have hw : Region.wanted o (yielded ops.toArray a.tmps) = false := hw
          rw [if_neg (by rw [hw]; decide)]; exact ih κ _ _ _ h (hR'.put hd' rfl)
        · have hw : Region.wanted o (yielded ops.toArray a.tmps) = true := hw
          rw [if_pos hw]; exact .inl (vop_sound (K := fun st' => vops (vop P cons) ops r st' K) hcons hR' h ih)
    | no => rw [hway] at h; exact h.elim

theorem vops_quiet (ops : List Oper) {C : World → Prop} {w : World} {V : Oper → St → (St → Prop) → Prop}
    (hV : ∀ (o : Oper) (κ : Cx) (st : St) (a : Act) (K : St → Prop) (next : Act → Prop), V o st K → Rel w0 κ st a w → FitsQ w0 w K next → o.quiet P a C next)
    {K : St → Prop} {N : Act → Prop} (hK : FitsQ w0 w K N) : ∀ (l : List Oper) (κ : Cx) (st : St) (a : Act), vops V ops l st K → Rel w0 κ st a w → wpQuiet P ops.toArray C N l a
  | [], κ, st, a, h, hR => hK κ st a h hR
  | o :: r, κ, st, a, h, hR => by
    have ih : FitsQ w0 w (fun st' => vops V ops r st' K) (wpQuiet P ops.toArray C N r) := fun κ st a h hR => vops_quiet ops hV hK r κ st a h hR
    have hw := wayOf_spec hR ops o
    have h : vgo V o st (wayOf ops st o) (fun st' => vops V ops r st' K) := h
    unfold wpQuiet
    cases hway : wayOf ops st o with
    | run =>
      rw [hway] at hw h
      have hw : Region.wanted o (yielded ops.toArray a.tmps) = true := hw
      rw [if_pos hw]
      exact hV o κ st a (fun st' => vops V ops r st' K) _ h hR ih
    | skip =>
      rw [hway] at hw h
      have hw : Region.wanted o (yielded ops.toArray a.tmps) = false := hw
      rw [if_neg (by rw [hw]; decide)]
      have h : (bif putOk st o.dst then vops V ops r (st.put o.dst (.c (.one .undef))) K else False) := h
      cases hd : putOk st o.dst
      · rw [hd] at h; exact h.elim
      · rw [hd] at h
        exact ih κ _ _ h (hR.put hd rfl)
    | part t b want =>
      rw [hway] at hw h
      obtain ⟨hw, hb⟩ := hw
      have h : (bif putOk st o.dst then
        bif b then (bif want then V o (st.set t (bool true)) (fun st' => vops V ops r st' K) else vops V ops r ((st.set t (bool true)).put o.dst (.c (.one .undef))) K)
        else (bif want then vops V ops r ((st.set t (bool false)).put o.dst (.c (.one .undef))) K else V o (st.set t (bool false)) (fun st' => vops V ops r st' K))
        else False) := h
      cases hd : putOk st o.dst
      · rw [hd] at h; exact h.elim
      · rw [hd] at h
        have hR' : Rel w0 κ (st.set t (bool b)) a w := hR.know (by rw [hb]; rfl)
        have hd' : putOk (st.set t (bool b)) o.dst = true := hd
        cases b <;> cases want
        · have hw : Region.wanted o (yielded ops.toArray a.tmps) = true := hw
          rw [if_pos hw]; exact hV o κ _ a _ _ h hR' ih
        · have hw : Region.wanted o (yielded ops.toArray a.tmps) = false := hw
          rw [if_neg (by rw [hw]; decide)]; exact ih κ _ _ h (hR'.put hd' rfl)
        · have hw : Region.wanted o (yielded ops.toArray a.tmps) = false := hw
          rw [if_neg (by rw [hw]; decide)]; exact ih κ _ _ h (hR'.put hd' rfl)
        · have hw : Region.wanted o (yielded ops.toArray a.tmps) = true := hw
          rw [if_pos hw]; exact hV o κ _ a _ _ h hR' ih
    | no => rw [hway] at h; exact h.elim

theorem vopQ_none {o : Oper} {st : St} {a : Act} {w : World} {κ : Cx} {K : St → Prop} {next : Act → Prop} (h : vopQ P [] o st K) (hR : Rel w0 κ st a w) (hF : FitsQ w0 w K next) : o.quiet P a (fun x => x = w) next := by
  obtain ⟨v, h1, h2⟩ := vopQ_sound (cons := []) (fun c hc => by cases hc) hR h hF
  unfold vopQ at h
  split at h
  · exact h.elim
  · split at h
    · rename_i c v hr
      cases hd : putOk st o.dst
      · rw [hd] at h; exact h.elim
      · rw [hd] at h
        obtain ⟨hc, hK⟩ := asks_out hr h
        obtain ⟨u, hu, hw⟩ := rop_sound hR hr hc
        refine ⟨u, fun w' hb => ?_, hF _ _ _ hK (hR.put hd hu)⟩
        subst hb
        unfold Oper.quietAt
        rw [hw _ (bel_refl _)]
        exact ⟨rfl, rfl⟩
    · exact h.elim

/-! ## regions whose operations are taken in an order of our own -/
def wpAnyG (P : Program) (ops : Array Oper) (Q : Exit → Act → World → Prop) : Nat → Array Bool → Act → World → Prop
  | 0, listed, a, w => Region.ready .any ops listed = [] ∧ Q .normal a w
  | f + 1, listed, a, w => (Region.ready .any ops listed = [] → Q .normal a w) ∧
    ∀ i ∈ Region.ready .any ops listed, wpOp P ops Q i (fun a' w' => (growAt ops i = true → Below w.heap.size w w') ∧ wpAnyG P ops Q f (listed.setIfInBounds i true) a' w') a w
theorem wpAny_of_G {ops : Array Oper} {Q : Exit → Act → World → Prop} : ∀ (f : Nat) (listed : Array Bool) (a : Act) (w : World), wpAnyG P ops Q f listed a w → wpAny P .any ops Q f listed a w
  | 0, _, _, _, h => h
  | f + 1, _, _, _, h => ⟨h.1, fun i hi => wpOp_mono (fun a' w' h' => wpAny_of_G f _ a' w' h'.2) (h.2 i hi)⟩
def Closed (ops : Array Oper) (listed : Array Bool) : Prop := ∀ j oj, ops[j]? = some oj → listed.getD j false = true → ∀ e ∈ oj.after, Region.binds .any e = true → listed.getD e.on false = true
theorem getD_set_true {l : Array Bool} {i k : Nat} (h : l.getD k false = true) : (l.setIfInBounds i true).getD k false = true := by
  by_cases e : i = k
  · subst e
    have hlt : i < l.size := by
      rcases Nat.lt_or_ge i l.size with h' | h'
      · exact h'
      · rw [Array.getD_eq_getD_getElem?, Array.getElem?_eq_none h'] at h; cases h
    rw [Array.getD_eq_getD_getElem?, Array.getElem?_setIfInBounds_self_of_lt hlt]; rfl
  · rw [getD_set_ne false e]; exact h
theorem Closed.set {ops : Array Oper} {listed : Array Bool} {i : Nat} (h : Closed ops listed) (hi : i ∈ Region.ready .any ops listed) : Closed ops (listed.setIfInBounds i true) := by
  intro j oj hoj hl e he hb
  refine getD_set_true ?_
  by_cases hji : i = j
  · subst hji
    obtain ⟨_, oi, hoi, hall⟩ := mem_ready.1 hi
    obtain rfl : oj = oi := Option.some.inj (hoj.symm.trans hoi)
    exact hall e he hb
  · rw [getD_set_ne false hji] at hl
    exact h j oj hoj hl e he hb
theorem waiters_spec {ops : Array Oper} {listed : Array Bool} {i : Nat} (hc : Closed ops listed) : ∀ k ∈ waiters ops i, ∃ ok, ops[k]? = some ok ∧ ((∀ e ∈ ok.after, Region.binds .any e = true → listed.getD e.on false = true) → listed.getD i false = true) := by
  unfold waiters
  have key : ∀ (l : List Nat) (acc : List Nat), (∀ k ∈ acc, ∃ ok, ops[k]? = some ok ∧ ((∀ e ∈ ok.after, Region.binds .any e = true → listed.getD e.on false = true) → listed.getD i false = true)) →
      ∀ k ∈ l.foldl (fun acc j => match ops[j]? with
        | some oj => bif oj.after.any (fun e => Region.binds .any e && (e.on.beq i || acc.contains e.on)) then j :: acc else acc
        | none => acc) acc, ∃ ok, ops[k]? = some ok ∧ ((∀ e ∈ ok.after, Region.binds .any e = true → listed.getD e.on false = true) → listed.getD i false = true) := by
    intro l
    induction l with
    | nil => intro acc h; exact h
    | cons j l ih =>
      intro acc h
      rw [List.foldl_cons]
      refine ih _ ?_
      cases hj : ops[j]? with
      | none => exact h
      | some oj =>
        dsimp only
        cases hb : oj.after.any (fun e => Region.binds .any e && (e.on.beq i || acc.contains e.on))
        · exact h
        · intro k hk
          have hk : k ∈ j :: acc := hk
          rcases List.mem_cons.1 hk with rfl | hk
          · refine ⟨oj, hj, fun hall => ?_⟩
            obtain ⟨n, hn, he⟩ := Array.any_eq_true.1 hb
            rw [Bool.and_eq_true, Bool.or_eq_true] at he
            have hl := hall _ (Array.getElem_mem hn) he.1
            rcases he.2 with h1 | h1
            · rwa [Nat.eq_of_beq_eq_true h1] at hl
            · have hm : oj.after[n].on ∈ acc := by simpa using h1
              obtain ⟨om, hom, hh⟩ := h _ hm
              exact hh (fun e he hb => hc _ om hom hl e he hb)
          · exact h k hk
  exact key _ _ (fun k hk => by cases hk)
theorem wpAnyG_first {ops : Array Oper} {Q : Exit → Act → World → Prop} {i : Nat} {oi : Oper} {v : Value} (hi : ops[i]? = some oi) (hsel : ∀ (j : Nat) (o : Oper) cs b, ops[j]? = some o → o.op ≠ .select cs b)
    (hQ : ∀ c a w, Q (.panic c) (a.put oi.dst v) w → Q (.panic c) a w) :
    ∀ (f : Nat) (listed : Array Bool) (a : Act) (w : World), Closed ops listed →
      (∀ j oj, ops[j]? = some oj → j ≠ i → listed.getD j true = false → (∀ e ∈ oj.after, Region.binds .any e = true → e.on ≠ i) → oi.apart ops oj = true) →
      (∀ j, j < ops.size → j ≠ i → listed.getD j true = false → growAt ops j = true ∨ j ∈ waiters ops i) →
      i ∈ Region.ready .any ops listed → YieldsIf P ops (fun w' => Below w.heap.size w w') oi v a →
      wpAnyG P ops Q f (listed.setIfInBounds i true) (a.put oi.dst v) w → wpAnyG P ops Q (f + 1) listed a w := by
  intro f
  induction f with
  | zero =>
    intro listed a w _ _ _ hr hy H
    refine ⟨fun h => (by rw [h] at hr; cases hr), fun j hj => ?_⟩
    by_cases hji : j = i
    · subst hji; exact hy.wpOp hi (bel_refl w) ⟨fun _ => bel_refl w, H⟩
    · have := ready_mono hj hji
      rw [H.1] at this
      cases this
  | succ f ih =>
    intro listed a w hc hfree hgr hr hy H
    refine ⟨fun h => (by rw [h] at hr; cases hr), fun j hj => ?_⟩
    by_cases hji : j = i
    · subst hji; exact hy.wpOp hi (bel_refl w) ⟨fun _ => bel_refl w, H⟩
    · have h1 := H.2 j (ready_mono hj hji)
      obtain ⟨hjun, oj, hoj, hall⟩ := mem_ready.1 hj
      have hiun := (mem_ready.1 hr).1
      have hnot : ∀ e ∈ oj.after, Region.binds .any e = true → e.on ≠ i := fun e he hb heq => by
        have h1 := hall e he hb
        rw [heq, getD_both hiun] at h1
        cases h1
      have hjlt : j < ops.size := (Array.getElem?_eq_some_iff.1 hoj).1
      have hgj : growAt ops j = true := by
        rcases hgr j hjlt hji hjun with h | h
        · exact h
        · obtain ⟨ok, hok, hh⟩ := waiters_spec hc j h
          obtain rfl : ok = oj := Option.some.inj (hok.symm.trans hoj)
          have := hh hall
          rw [getD_both hiun] at this
          cases this
      have h2 := wpOp_putIf hoj (hfree j oj hoj hji hjun hnot) (fun cs b => hsel i oi cs b hi) (fun cs b => hsel j oj cs b hoj) hQ hy h1
      have hun : ∀ k, (listed.setIfInBounds j true).getD k true = false → listed.getD k true = false := fun k h => by
        by_cases hjk : j = k
        · subst hjk; exact hjun
        · rw [getD_set_ne true hjk] at h; exact h
      refine wpOp_mono (fun a' w' h3 => ⟨h3.2.1, ih (listed.setIfInBounds j true) a' w' (hc.set hj) (fun k ok hk hki hu hno => hfree k ok hk hki (hun k hu) hno) (fun k hk hki hu => hgr k hk hki (hun k hu)) (ready_mono hr (Ne.symm hji)) ?_ ?_⟩) h2
      · exact h3.1.imp (fun ⟨hw, hv⟩ => ⟨hw, fun w2 hw2 => hv w2 (bel_trans (h3.2.1 hgj) hw2)⟩) id
      · rw [Array.setIfInBounds_comm _ _ hji]
        exact h3.2.2
theorem vop_rop {o : Oper} {K : St → Prop} (h : ropOp o.op = true) (hv : vop P cons o st K) : ∃ c v, rop P st o.op = .ok c v ∧ (bif putOk st o.dst then asks o.op c (K (st.put o.dst v)) else False) := by
  unfold vop at hv
  split at hv
  · rename_i ho; rw [ho] at h; exact no_grow rfl h
  · rename_i ho; rw [ho] at h; exact no_grow rfl h
  · rename_i ho; rw [ho] at h; exact no_grow rfl h
  · rename_i ho; rw [ho] at h; exact no_grow rfl h
  · rename_i ho; rw [ho] at h; exact no_grow rfl h
  · rename_i ho; rw [ho] at h; exact no_grow rfl h
  · split at hv
    · rename_i c v hr; exact ⟨c, v, hr, hv⟩
    · exact hv.elim
theorem vop_yields {ops : Array Oper} {o : Oper} {K : St → Prop} (h : ropOp o.op = true) (hw : Region.wanted o (yielded ops a.tmps) = true) (hR : Rel w0 κ st a w) (hv : vop P cons o st K) :
    ∃ u st', YieldsIf P ops (fun w' => Below w.heap.size w w') o u a ∧ Rel w0 κ st' (a.put o.dst u) w ∧ K st' := by
  obtain ⟨c, v, hr, hv⟩ := vop_rop h hv
  cases hd : putOk st o.dst
  · rw [hd] at hv; exact hv.elim
  · rw [hd] at hv
    obtain ⟨hc, hK⟩ := asks_out hr hv
    obtain ⟨u, hu, hy⟩ := rop_sound hR hr hc
    exact ⟨u, _, .inl ⟨hw, fun w' hb => hy w' hb⟩, hR.put hd hu, hK⟩
theorem vgo_yields {ops : List Oper} {o : Oper} {K : St → Prop} (h : ropOp o.op = true) (hR : Rel w0 κ st a w) (hv : vgo (vop P cons) o st (wayOf ops st o) K) :
    ∃ u st', YieldsIf P ops.toArray (fun w' => Below w.heap.size w w') o u a ∧ Rel w0 κ st' (a.put o.dst u) w ∧ K st' := by
  have hw := wayOf_spec hR ops o
  cases hway : wayOf ops st o with
  | run => rw [hway] at hw hv; exact vop_yields h hw hR hv
  | skip =>
    rw [hway] at hw hv
    have hv : (bif putOk st o.dst then K (st.put o.dst (.c (.one .undef))) else False) := hv
    cases hd : putOk st o.dst
    · rw [hd] at hv; exact hv.elim
    · rw [hd] at hv
      exact ⟨Go.undef, _, .inr ⟨hw, rfl⟩, hR.put hd (v := .c (.one .undef)) rfl, hv⟩
  | part t b want =>
    rw [hway] at hw hv
    obtain ⟨hw, hb⟩ := hw
    have hv : (bif putOk st o.dst then
      bif b then (bif want then vop P cons o (st.set t (bool true)) K else K ((st.set t (bool true)).put o.dst (.c (.one .undef))))
      else (bif want then K ((st.set t (bool false)).put o.dst (.c (.one .undef))) else vop P cons o (st.set t (bool false)) K)
      else False) := hv
    cases hd : putOk st o.dst
    · rw [hd] at hv; exact hv.elim
    · rw [hd] at hv
      have hR' : Rel w0 κ (st.set t (bool b)) a w := hR.know (by rw [hb]; rfl)
      have hd' : putOk (st.set t (bool b)) o.dst = true := hd
      cases b <;> cases want
      · exact vop_yields h hw hR' hv
      · exact ⟨Go.undef, _, .inr ⟨hw, rfl⟩, hR'.put hd' (v := .c (.one .undef)) rfl, hv⟩
      · exact ⟨Go.undef, _, .inr ⟨hw, rfl⟩, hR'.put hd' (v := .c (.one .undef)) rfl, hv⟩
      · exact vop_yields h hw hR' hv
  | no => rw [hway] at hv; exact hv.elim
theorem vgo_wp (hcons : ∀ c ∈ cons, c.Holds P) {ops : List Oper} {o : Oper} {i : Nat} (hi : ops.toArray[i]? = some o) {K : St → Prop} {next : Act → World → Prop} {Q : Exit → Act → World → Prop} (hR : Rel w0 κ st a w) (hv : vgo (vop P cons) o st (wayOf ops st o) K) (hF : Fits w0 K next) :
    wpOp P ops.toArray Q i (fun a' w' => (growAt ops.toArray i = true → Below w.heap.size w w') ∧ next a' w') a w := by
  have hg : growAt ops.toArray i = growOp o.op := by unfold growAt; rw [hi]
  rw [hg]
  have hw := wayOf_spec hR ops o
  unfold wpOp
  simp only [hi]
  cases hway : wayOf ops st o with
  | run =>
    rw [hway] at hw hv
    have hw : Region.wanted o (yielded ops.toArray a.tmps) = true := hw
    rw [if_pos hw]
    exact .inl (vop_soundG hcons hR hv hF)
  | skip =>
    rw [hway] at hw hv
    have hw : Region.wanted o (yielded ops.toArray a.tmps) = false := hw
    rw [if_neg (by rw [hw]; decide)]
    have hv : (bif putOk st o.dst then K (st.put o.dst (.c (.one .undef))) else False) := hv
    cases hd : putOk st o.dst
    · rw [hd] at hv; exact hv.elim
    · rw [hd] at hv
      exact ⟨fun _ => bel_refl w, hF κ _ _ _ hv (hR.put hd rfl)⟩
  | part t b want =>
    rw [hway] at hw hv
    obtain ⟨hw, hb⟩ := hw
    have hv : (bif putOk st o.dst then
      bif b then (bif want then vop P cons o (st.set t (bool true)) K else K ((st.set t (bool true)).put o.dst (.c (.one .undef))))
      else (bif want then K ((st.set t (bool false)).put o.dst (.c (.one .undef))) else vop P cons o (st.set t (bool false)) K)
      else False) := hv
    cases hd : putOk st o.dst
    · rw [hd] at hv; exact hv.elim
    · rw [hd] at hv
      have hR' : Rel w0 κ (st.set t (bool b)) a w := hR.know (by rw [hb]; rfl)
      have hd' : putOk (st.set t (bool b)) o.dst = true := hd
      cases b <;> cases want
      · have hw : Region.wanted o (yielded ops.toArray a.tmps) = true := hw
        rw [if_pos hw]; exact .inl (vop_soundG hcons hR' hv hF)
      · have hw : Region.wanted o (yielded ops.toArray a.tmps) = false := hw
        rw [if_neg (by rw [hw]; decide)]; exact ⟨fun _ => bel_refl w, hF κ _ _ _ hv (hR'.put hd' rfl)⟩
      · have hw : Region.wanted o (yielded ops.toArray a.tmps) = false := hw
        rw [if_neg (by rw [hw]; decide)]; exact ⟨fun _ => bel_refl w, hF κ _ _ _ hv (hR'.put hd' rfl)⟩
      · have hw : Region.wanted o (yielded ops.toArray a.tmps) = true := hw
        rw [if_pos hw]; exact .inl (vop_soundG hcons hR' hv hF)
  | no => rw [hway] at hv; exact hv.elim
theorem schedStep_spec {ops : Array Oper} {listed : Array Bool} {i : Nat} {b : Bool} (h : schedStep ops listed = some (i, b)) : (i ∈ Region.ready .any ops listed ∧ canTake ops listed i = true) ∨ Region.ready .any ops listed = [i] := by
  unfold schedStep at h
  split at h
  · rename_i k hk
    injection h with h; injection h with h1 _; subst h1
    exact .inl ⟨List.mem_of_find?_eq_some hk, List.find?_some hk⟩
  · split at h
    · rename_i k hk
      injection h with h; injection h with h1 _; subst h1
      exact .inr hk
    · cases h
theorem sched_sound (hcons : ∀ c ∈ cons, c.Holds P) {l : List Oper} (hsel : Region.noSelect l.toArray = true) {K : St → Prop} {Q : Exit → Act → World → Prop} (hQ : ∀ c a w, ¬ Q (.panic c) a w) (hK : Fits w0 K (Q .normal)) :
    ∀ (f : Nat) (listed : Array Bool) (ord : List Nat) (κ : Cx) (st : St) (a : Act) (w : World), Closed l.toArray listed → schedFrom l.toArray f listed = some ord → vops (vop P cons) l (pick l ord) st K → Rel w0 κ st a w → wpAnyG P l.toArray Q f listed a w
  | 0, listed, ord, κ, st, a, w, hc, hs, h, hR => by
    unfold schedFrom at hs
    split at hs
    · rename_i hr
      injection hs with hs; subst hs
      exact ⟨hr, hK κ st a w h hR⟩
    · cases hs
  | f + 1, listed, ord, κ, st, a, w, hc, hs, h, hR => by
    unfold schedFrom at hs
    split at hs
    · rename_i hr
      injection hs with hs; subst hs
      exact ⟨fun _ => hK κ st a w h hR, fun i hi => by rw [hr] at hi; cases hi⟩
    · rename_i hne
      split at hs
      · rename_i i b hst
        split at hs
        · rename_i r hrest
          injection hs with hs; subst hs
          have hir : i ∈ Region.ready .any l.toArray listed := by
            rcases schedStep_spec hst with h | h
            · exact h.1
            · rw [h]; exact List.mem_singleton.2 rfl
          obtain ⟨hiun, oi, hoi, _⟩ := mem_ready.1 hir
          have hoi' : l[i]? = some oi := by simpa using hoi
          have hp : pick l (i :: r) = oi :: pick l r := by rw [pick, hoi']
          rw [hp] at h
          have h : vgo (vop P cons) oi st (wayOf l st oi) (fun st' => vops (vop P cons) l (pick l r) st' K) := h
          have ih : Fits w0 (fun st' => vops (vop P cons) l (pick l r) st' K) (wpAnyG P l.toArray Q f (listed.setIfInBounds i true)) := fun κ st a w h hR =>
            sched_sound hcons hsel hQ hK f _ r κ st a w (hc.set hir) hrest h hR
          rcases schedStep_spec hst with ⟨_, ht⟩ | honly
          · unfold canTake at ht
            rw [hoi] at ht
            simp only [Bool.and_eq_true] at ht
            obtain ⟨h1, h2, h3⟩ := ht
            obtain ⟨u, st', hy, hR', hK'⟩ := vgo_yields h1 hR h
            refine wpAnyG_first hoi (Region.noSelect_spec hsel) (fun c a w hq => absurd hq (hQ c _ w)) f listed a w hc (Region.free_spec hoi h2) (fun j hj hji hun => ?_) hir hy (ih κ st' _ w hK' hR')
            have := List.all_eq_true.1 h3 j (List.mem_range.2 hj)
            rw [hun, Bool.false_or, Bool.or_eq_true, Bool.or_eq_true] at this
            rcases this with h | h | h
            · exact absurd (Nat.eq_of_beq_eq_true h) hji
            · exact .inl h
            · exact .inr (by simpa using h)
          · refine ⟨fun h0 => (by rw [honly] at h0; cases h0), fun j hj => ?_⟩
            rw [honly] at hj
            obtain rfl := List.mem_singleton.1 hj
            exact vgo_wp hcons hoi hR h ih
        · cases hs
      · cases hs

theorem vregion_sound (hm : P.follows .mixedOrders = true) (hcons : ∀ c ∈ cons, c.Holds P) {id : Nat} {l : List Oper} {draw : Bool} {K : St → Prop} {Q : Exit → Act → World → Prop} (h : vregion P cons l draw st K) (hR : Rel w0 κ st a w) (hK : Fits w0 K (Q .normal)) :
    (Code.region id l.toArray draw).wp P Q a w := by
  unfold vregion at h
  have hQ : ∀ (o : Oper) (κ : Cx) (st : St) (a : Act) (K : St → Prop) (next : Act → Prop), vopQ P cons o st K → Rel w0 κ st a w → FitsQ w0 w K next → o.quiet P a (fun w' => Below w.heap.size w w') next :=
    fun o κ st a K next h hR hF => vopQ_sound hcons hR h hF
  have hlater : ∀ {K : St → Prop} {N : Act → World → Prop}, Fits w0 K N → FitsQ w0 w K (fun a' => ∀ w', Below w.heap.size w w' → N a' w') := fun hF κ st a h hR w' hb => hF _ _ _ _ h (hR.later hb)
  cases draw
  · exact wp_region_lit (vops_list hcons l hK l κ st a w h hR)
  · dsimp only [cond_true] at h
    have hC : Below w.heap.size w { w with drawn := w.drawn + 1 } := bel_drew (bel_refl w)
    cases hB : Region.lexB .any l.toArray && (firstLoud cons l).beq l.length
    · rw [hB] at h
      cases hB2 : Region.lexTailB .any l.toArray (firstLoud cons l)
      · rw [hB2] at h
        cases hB3 : lexMidB .any l.toArray (firstLoud cons l)
        · rw [hB3] at h
          dsimp only [cond_false] at h
          split at h
          · rename_i ord hord
            unfold sched at hord
            cases hsel : Region.noSelect l.toArray
            · rw [hsel] at hord; cases hord
            · rw [hsel] at hord
              have hord : schedFrom l.toArray l.toArray.size (Array.replicate l.toArray.size false) = some ord := hord
              refine Code.wp_mono (Q := fun e a w => match e with | .normal => Q .normal a w | _ => False) (fun e a w h => by cases e <;> first | exact h | exact h.elim) (wp_region_any hm (wpAny_of_G _ _ _ _ ?_))
              exact sched_sound hcons (Q := fun e a w => match e with | .normal => Q .normal a w | _ => False) hsel (fun c a w h => h) hK _ _ ord κ st a _ (fun j oj _ hl => by rw [getD_replicate_false] at hl; cases hl) hord h hR.drew
          · exact h.elim
        · rw [hB3] at h
          refine wp_region_quiet_mid (C := fun w' => Below w.heap.size w w') (firstLoud cons l) hm hB3 hC ?_
          refine vops_quiet l hQ (hlater (N := fun a' w' => wpList P l.toArray (Exit.then (fun a2 w2 => wpQuiet P l.toArray (fun x => x = w2) (fun a3 => Q .normal a3 w2) (l.drop (firstLoud cons l + 1)) a2) Q) ((l.drop (firstLoud cons l)).take 1) a' w') ?_) _ κ st a h hR
          intro κ1 st1 a1 w1 h1 hR1
          refine vops_list hcons l (Q := Exit.then _ Q) ?_ _ κ1 st1 a1 w1 h1 hR1
          intro κ2 st2 a2 w2 h2 hR2
          exact vops_quiet l (C := fun x => x = w2) (fun o κ st a K next h hR hF => vopQ_none h hR hF) (fun κ st a h hR => hK _ _ _ _ h hR) _ κ2 st2 a2 h2 hR2
      · rw [hB2] at h
        refine wp_region_quiet_tail (C := fun w' => Below w.heap.size w w') (firstLoud cons l) hm hB2 hC ?_
        refine vops_quiet l hQ (hlater (N := fun a' w' => wpList P l.toArray Q (l.drop (firstLoud cons l)) a' w') ?_) _ κ st a h hR
        intro κ1 st1 a1 w1 h1 hR1
        exact vops_list hcons l hK _ κ1 st1 a1 w1 h1 hR1
    · rw [hB] at h
      rw [Bool.and_eq_true] at hB
      refine wp_region_quiet (C := fun w' => Below w.heap.size w w') hm hB.1 hC ?_
      simpa using vops_quiet l hQ (hlater hK) _ κ st a h hR
end
end R
end Go.Proofs.YtgjdbnkeamjhhaaDoor

/-
  Branches, blocks, loops, whole functions: what 'vc' asks is enough.
-/
set_option linter.unusedVariables false
namespace Go.Proofs.YtgjdbnkeamjhhaaDoor
open Go.RowKit
namespace R
section
variable {w0 : Base} {w w' : World} {κ : Cx} {st : St} {a : Act} {P : Program} {cons : List Con} {anns : List (Nat × Ann)}

theorem deq_cast {k k' : Kd} {h : k = k'} {p : k.Pay} {q : k'.Pay} (e : h ▸ p = q) {v : Value} {S : Nat → Prop} (hr : k.Rep w S p v) : k'.Rep w S q v := by
  subst h; subst e; exact hr
/-- the rows that are not there are nil -/
def Cx.nils (κ : Cx) (st : St) : Cx := { κ with ρ := fun r => match st.row r with | some _ => κ.ρ r | none => .slice none 0 0 }
theorem leCell_sound {c c' : Cell} (h : leCell st c c') {v : Value} (hv : c.Rep κ w v) : c'.Rep (κ.nils st) w v := by
  unfold leCell at h
  split at h
  · trivial
  · exact hv
  · exact hv
  · rename_i fs xs
    obtain rfl : v = .slice none 0 0 := hv
    subst h
    exact ⟨none, 0, rfl, Nat.le_refl _, fun h => absurd h (Nat.lt_irrefl _)⟩
  · rename_i r
    obtain rfl : v = .slice none 0 0 := hv
    split at h
    · rename_i hr
      refine ⟨?_, rfl⟩
      show _ = match st.row r with | some _ => κ.ρ r | none => .slice none 0 0
      rw [hr]
    · exact h.elim
  · rename_i r r'
    cases hb : r.beq r'
    · rw [hb] at h; exact h.elim
    · rw [hb] at h
      obtain rfl := Nat.eq_of_beq_eq_true hb
      obtain ⟨h1, h2⟩ := hv
      refine ⟨?_, h2⟩
      show _ = match st.row r with | some _ => κ.ρ r | none => .slice none 0 0
      cases hr : st.row r with
      | none => rw [hr] at h; exact h.elim
      | some x => exact h1
  · rename_i k p k' p'
    split at h
    · rename_i e _
      exact deq_cast h hv
    · exact h.elim
  · rename_i b o b' o'
    cases hb : b.beq b' && o.beq o'
    · rw [hb] at h; exact h.elim
    · rw [Bool.and_eq_true] at hb
      rw [← Nat.eq_of_beq_eq_true hb.1, ← Nat.eq_of_beq_eq_true hb.2]
      exact hv
  · rename_i f f'
    cases hb : f.beq f'
    · rw [hb] at h; exact h.elim
    · rw [← Nat.eq_of_beq_eq_true hb]; exact hv
  · exact h.elim
theorem leCells_sound : ∀ {cs cs' : List Cell}, leCells st cs cs' → ∀ {vs : List Value}, CellsRep κ w cs vs.toArray → CellsRep (κ.nils st) w cs' vs.toArray
  | [], [], h, vs, hv => by
    refine ⟨hv.1, fun i c hc => ?_, hv.2.2⟩
    cases hc
  | [], _ :: _, h, vs, hv => h.elim
  | _ :: _, [], h, vs, hv => h.elim
  | c :: r, c' :: r', h, vs, hv => by
    obtain ⟨h1, h2⟩ : leCell st c c' ∧ leCells st r r' := h
    cases vs with
    | nil => have := hv.1; simp at this
    | cons v vs =>
      have hv' : CellsRep κ w r vs.toArray := ⟨by have := hv.1; simpa using this, fun i c hc => by
        obtain ⟨y, hy, hr⟩ := hv.2.1 (i + 1) c hc
        exact ⟨y, by simpa using hy, hr⟩, fun i y hy => hv.2.2 (i + 1) y (by simpa using hy)⟩
      have ih := leCells_sound h2 hv'
      refine ⟨?_, fun i x hc => ?_, hv.2.2⟩
      · have := ih.1
        show (v :: vs).toArray.size = r'.length + 1
        rw [← this]; simp
      · cases i with
        | zero =>
          injection hc with hc; subst hc
          obtain ⟨u, hu, hr⟩ := hv.2.1 0 _ rfl
          exact ⟨u, hu, leCell_sound h1 hr⟩
        | succ i =>
          obtain ⟨y, hy, hr⟩ := ih.2.1 i x hc
          exact ⟨y, by simpa using hy, hr⟩
theorem leAV_sound {x y : AV} (h : leAV st x y) {v : Value} (hv : x.Rep κ w v) : y.Rep (κ.nils st) w v := by
  unfold leAV at h
  split at h
  · exact leCell_sound h hv
  · obtain ⟨vs, rfl, hv⟩ := hv
    exact ⟨vs, rfl, by simpa using leCells_sound h (vs := vs.toList) (by simpa using hv)⟩
  · trivial
  · exact h.elim
theorem leEnv_sound (hR : Rel w0 κ st a w) : ∀ (env : List (Nat × AV)), leEnv st env → ∀ t, (look (.c (.one .any)) t env).Rep (κ.nils st) w (a.tmps.getD t Go.undef)
  | [], h, t => trivial
  | (u, v) :: r, h, t => by
    obtain ⟨h1, h2⟩ : leAV st (st.get u) v ∧ leEnv st r := h
    rw [look_cons]
    split
    · rename_i e; subst e; exact leAV_sound h1 (hR.env u)
    · exact leEnv_sound hR r h2 t
theorem leBoxes_spec : ∀ (boxes : List (Nat × List Cell)), leBoxes st boxes → ∀ b cs, look? b boxes = some cs → ∃ bs, st.box b = some bs ∧ leCells st bs cs
  | [], h, b, cs, hb => by cases hb
  | (u, us) :: r, h, b, cs, hb => by
    obtain ⟨h1, h2⟩ : (match st.box u with | some bs => leCells st bs us | none => False) ∧ leBoxes st r := h
    rw [look?_cons] at hb
    split at hb
    · rename_i e; subst e
      injection hb with hb; subst hb
      split at h1
      · rename_i bs hbs; exact ⟨bs, hbs, h1⟩
      · exact h1.elim
    · exact leBoxes_spec r h2 b cs hb
theorem leRows_spec : ∀ (rows : List (Nat × Row)), leRows st rows → ∀ r y, look? r rows = some y → leRow st r y
  | [], h, b, cs, hb => by cases hb
  | (u, z) :: l, h, r, y, hb => by
    obtain ⟨h1, h2⟩ : leRow st u z ∧ leRows st l := h
    rw [look?_cons] at hb
    split at hb
    · rename_i e; subst e
      injection hb with hb; subst hb
      exact h1
    · exact leRows_spec l h2 r y hb
theorem Rel.le {st' : St} (hR : Rel w0 κ st a w) (h : st.le st') : Rel w0 (κ.nils st) st' a w := by
  obtain ⟨he, hb, hr, hn⟩ := h
  have hn : st.n = st'.n := by
    cases e : st.n.beq st'.n
    · rw [e] at hn; exact hn.elim
    · exact Nat.eq_of_beq_eq_true e
  have hrow : ∀ r y, st'.row r = some y → (∃ x, st.row r = some x ∧ x.e = y.e ∧ ∃ hfs : x.fs = y.fs, castRow hfs x.xs = y.xs) ∨ (st.row r = none ∧ y.xs = []) := fun r y hy => by
    have h := leRows_spec st'.rows hr r y hy
    unfold leRow at h
    split at h
    · rename_i x hx
      split at h
      · rename_i hfs _
        cases e : x.e.beq y.e
        · rw [e] at h; exact h.elim
        · rw [e] at h; exact .inl ⟨x, hx, Nat.eq_of_beq_eq_true e, hfs, h⟩
      · exact h.elim
    · rename_i hx; exact .inr ⟨hx, h⟩
  have hρ : ∀ r x, st.row r = some x → (κ.nils st).ρ r = κ.ρ r := fun r x hx => by
    show (match st.row r with | some _ => κ.ρ r | none => .slice none 0 0) = _
    rw [hx]
  have hρn : ∀ r, st.row r = none → (κ.nils st).ρ r = .slice none 0 0 := fun r hx => by
    show (match st.row r with | some _ => κ.ρ r | none => .slice none 0 0) = _
    rw [hx]
  exact {
    defers := hR.defers
    size := by rw [← hn]; exact hR.size
    env := leEnv_sound hR st'.env he
    box := fun b cs hb' => by
      obtain ⟨bs, hbs, hle⟩ := leBoxes_spec st'.boxes hb b cs hb'
      obtain ⟨vs, ty, hblk, hr, h1, h2⟩ := hR.box b bs hbs
      exact ⟨vs, ty, hblk, by simpa using leCells_sound hle (vs := vs.toList) (by simpa using hr), h1, h2⟩
    apart := fun b b' cs cs' hb1 hb2 e => by
      obtain ⟨bs, hbs, _⟩ := leBoxes_spec st'.boxes hb b cs hb1
      obtain ⟨bs', hbs', _⟩ := leBoxes_spec st'.boxes hb b' cs' hb2
      exact hR.apart b b' bs bs' hbs hbs' e
    row := fun r y hy => by
      rcases hrow r y hy with ⟨x, hx, h1, h2, h3⟩ | ⟨hx, h1⟩
      · obtain ⟨cells, ho, hc, hn'⟩ := hR.row r x hx
        obtain ⟨xe, xfs, xxs⟩ := x
        obtain ⟨ye, yfs, yxs⟩ := y
        dsimp only at h1 h2 h3
        subst h1; subst h2
        have h3 : xxs = yxs := h3
        subst h3
        rw [hρ r _ hx]
        refine ⟨cells, ho, hc, fun g hg => ⟨(hn' g hg).1, fun b cs hb' e => ?_⟩⟩
        obtain ⟨bs, hbs, _⟩ := leBoxes_spec st'.boxes hb b cs hb'
        exact (hn' g hg).2 b bs hbs e
      · rw [hρn r hx]
        refine ⟨[], ?_, fun i x hi => ?_, fun g hg => ?_⟩
        · rw [h1]; exact World.ownsRow_nil _ _ _ _
        · rw [h1] at hi; simp at hi
        · cases hg
    rows := fun r r' y y' hy hy' g hg hg' => by
      rcases hrow r y hy with ⟨x, hx, _⟩ | ⟨hx, _⟩
      · rcases hrow r' y' hy' with ⟨x', hx', _⟩ | ⟨hx', _⟩
        · rw [hρ r x hx] at hg
          rw [hρ r' x' hx'] at hg'
          exact hR.rows r r' x x' hx hx' g hg hg'
        · rw [hρn r' hx'] at hg'; cases hg'
      · rw [hρn r hx] at hg; cases hg
    bound := hR.bound
    below := hR.below
    old := hR.old }

/-- what stands behind a piece of code -/
structure PostFits (w0 : Base) (Q : Post) (QX : Exit → Act → World → Prop) : Prop where
  normal : Fits w0 Q.normal (QX .normal)
  exit : ∀ id, Fits w0 (Q.exit id) (QX (.exit id))
  ret : Fits w0 Q.ret (QX .ret)

theorem Rel.knowOp (hR : Rel w0 κ st a w) {c : Operand} {b : Bool} (h : a.eval c = .bool b) : Rel w0 κ (R.know st c b) a w := by
  cases c with
  | tmp t => exact hR.know (v := bool b) (by rw [show a.tmps.getD t Go.undef = _ from h]; rfl)
  | const v => exact hR
  | global g => exact hR
  | func f => exact hR

theorem vc_sound (hm : P.follows .mixedOrders = true) (hcons : ∀ c ∈ cons, c.Holds P) : ∀ (c : Code) (l : Nat) (st : St) (Q : Post) (QX : Exit → Act → World → Prop) (κ : Cx) (a : Act) (w : World),
    vc P cons anns c l st Q → Rel w0 κ st a w → PostFits w0 Q QX → c.wp P QX a w := by
  intro c
  induction c with
  | skip => exact fun l st Q QX κ a w h hR hF => wp_skip (hF.normal κ st a w h hR)
  | region id ops draw =>
    intro l st Q QX κ a w h hR hF
    have := vregion_sound (id := id) hm hcons (l := ops.toList) (draw := draw) h hR hF.normal
    rwa [Array.toArray_toList] at this
  | seq x y ihx ihy =>
    intro l st Q QX κ a w h hR hF
    refine wp_seq (ihx l st _ _ κ a w h hR ⟨fun κ' st' a' w' h' hR' => ihy l st' Q QX κ' a' w' h' hR' hF, fun id => hF.exit id, hF.ret⟩)
  | cond c x y ihx ihy =>
    intro l st Q QX κ a w h hR hF
    have h : (match st.ev c with
      | .c (.one (.val .bool b)) => bif b then vc P cons anns x l (know st c true) Q else vc P cons anns y l (know st c false) Q
      | _ => False) := h
    split at h
    · rename_i b hb
      have hc := hR.ev c
      rw [hb] at hc
      have hc : a.eval c = .bool b := hc
      refine wp_cond hc ?_
      cases b
      · exact ihy l _ Q QX κ a w h (hR.knowOp hc) hF
      · exact ihx l _ Q QX κ a w h (hR.knowOp hc) hF
    · exact h.elim
  | block id c ih =>
    intro l st Q QX κ a w h hR hF
    refine wp_block (ih id st (Q.block id) _ κ a w h hR ⟨hF.normal, fun i κ' st' a' w' h' hR' => ?_, hF.ret⟩)
    have h' : bif i.beq id then Q.normal st' else Q.exit i st' := h'
    show if i = id then _ else _
    cases e : i.beq id
    · rw [e] at h'
      have : i ≠ id := fun e2 => by rw [e2, Nat.beq_refl] at e; cases e
      rw [if_neg this]
      exact hF.exit i κ' st' a' w' h' hR'
    · rw [e] at h'
      rw [if_pos (Nat.eq_of_beq_eq_true e)]
      exact hF.normal κ' st' a' w' h' hR'
  | loop c ih =>
    intro l st Q QX κ a w h hR hF
    have h : (match annOf l anns with
      | some A => (∃ p, A.inv st p ∧ st.le (A.at_ st p)) ∧
        ∀ p, A.inv st p → vc P cons anns c l (A.at_ st p) (Q.then fun st' => ∃ p', A.inv st p' ∧ A.mu st p' < A.mu st p ∧ st'.le (A.at_ st p'))
      | none => False) := h
    split at h
    · rename_i A hA
      obtain ⟨⟨p0, hp0, hle0⟩, hround⟩ := h
      refine wp_loop_ghost (fun n a w => ∃ κ p, A.mu st p = n ∧ A.inv st p ∧ Rel w0 κ (A.at_ st p) a w) (A.mu st p0) ⟨_, p0, rfl, hp0, hR.le hle0⟩ ?_
      rintro n a w ⟨κ, p, rfl, hp, hR⟩
      refine ih l (A.at_ st p) _ _ κ a w (hround p hp) hR ⟨fun κ' st' a' w' h' hR' => ?_, fun id => hF.exit id, hF.ret⟩
      obtain ⟨p', hp', hmu, hle⟩ := h'
      exact ⟨A.mu st p', hmu, _, p', rfl, hp', hR'.le hle⟩
    · exact h.elim
  | exit id => exact fun l st Q QX κ a w h hR hF => wp_exit (hF.exit id κ st a w h hR)
  | ret => exact fun l st Q QX κ a w h hR hF => wp_ret (hF.ret κ st a w h hR)
  | rangeFunc f ps as_ b ih1 ih2 => intro l st Q QX κ a w h; exact h.elim
  | scope c ih => intro l st Q QX κ a w h; exact h.elim
  | label l => intro l st Q QX κ a w h; exact h.elim
  | goto l => intro l st Q QX κ a w h; exact h.elim
  | refuse why => intro l st Q QX κ a w h; exact h.elim

/-- what a function hands back, out of its slots -/
def resOne (P : Program) (st : St) : ResultVar → Option Comp
  | .tmp t => match st.get t with
    | .c x => some x
    | .tup _ => none
  | .cell b ty => match st.get b with
    | .c (.one (.ptr b' off)) => match st.box b' with
      | some cs => match partOf P ty cs off with
        | .ok _ (.c x) => some x
        | _ => none
      | none => none
    | _ => none
def resAll (P : Program) (st : St) : List ResultVar → Option (List AV)
  | [] => some []
  | x :: r => match resOne P st x, resAll P st r with
    | some y, some ys => some (.c y :: ys)
    | _, _ => none
/-- at the function's end: the results are of their kinds, and as the contract says -/
def retPost (P : Program) (fn : Func) (c : Con) (p : Pays c.args) (st : St) : Prop :=
  match resAll P (st.freezeAll (keysOf st.rows)) fn.results.toList with
  | some xs => match takeAll c.res xs with
    | some r => c.post p r
    | none => False
  | none => False
def envOf : Nat → List Comp → List (Nat × AV)
  | _, [] => []
  | n, x :: r => (n, .c x) :: envOf (n + 1) r
def startOf (fn : Func) (xs : List Comp) : St := { n := fn.ntmps, env := envOf 0 xs, boxes := [], rows := [] }

theorem resOne_run {st : St} {a : Act} {w : World} {κ : Cx} (hR : Rel w0 κ st a w) {x : ResultVar} {y : Comp} (h : resOne P st x = some y) :
    ∃ u, y.Rep κ w u ∧ (match x with
      | .tmp t => (pure (a.tmps.getD t Go.undef) : Sem Value)
      | .cell b t => do loadVar t (← asAddr (a.tmps.getD b Go.undef))).run P w = .ok u w := by
  cases x with
  | tmp t =>
    have h : (match st.get t with
      | .c x => some x
      | .tup _ => none) = some y := h
    have ht := hR.env t
    split at h
    · rename_i x hx
      injection h with h; subst h
      rw [hx] at ht
      exact ⟨_, ht, rfl⟩
    · cases h
  | cell b ty =>
    have h : (match st.get b with
      | .c (.one (.ptr b' off)) => match st.box b' with
        | some cs => match partOf P ty cs off with
          | .ok _ (.c x) => some x
          | _ => none
        | none => none
      | _ => none) = some y := h
    have hb := hR.env b
    split at h
    · rename_i b' off hx
      rw [hx] at hb
      have hb : a.tmps.getD b Go.undef = .pointer (some ⟨κ.β b', off, none⟩) := hb
      split at h
      · rename_i cs hcs
        split at h
        · rename_i c0 x0 hp
          injection h with h; subst h
          obtain ⟨vs, t0, hblk, hv, _, _⟩ := hR.box b' cs hcs
          obtain ⟨u, hu, hw⟩ := loadVar_box hp hblk hv
          refine ⟨u, hu, ?_⟩
          dsimp only
          rw [Sem.run_bind, hb]
          exact hw w (bel_refl w)
        · cases h
      · cases h
    · cases h
theorem resAll_run {st : St} {a : Act} {w : World} {κ : Cx} (hR : Rel w0 κ st a w) : ∀ (l : List ResultVar) (xs : List AV), resAll P st l = some xs →
    ∃ us : List Value, us.length = xs.length ∧ (∀ (i : Nat) x, xs[i]? = some x → ∃ u, us[i]? = some u ∧ x.Rep κ w u) ∧
      (l.mapM (m := Sem) fun x => match x with
        | .tmp t => (pure (a.tmps.getD t Go.undef) : Sem Value)
        | .cell b t => do loadVar t (← asAddr (a.tmps.getD b Go.undef))).run P w = .ok us w
  | [], xs, h => by
    injection h with h; subst h
    refine ⟨[], rfl, fun i x h => ?_, rfl⟩
    cases h
  | y :: r, xs, h => by
    have h : (match resOne P st y, resAll P st r with
      | some y, some ys => some (.c y :: ys)
      | _, _ => none) = some xs := h
    split at h
    · rename_i y' ys h1 h2
      injection h with h; subst h
      obtain ⟨u, hu, hrun⟩ := resOne_run (P := P) hR h1
      obtain ⟨us, h3, h4, h5⟩ := resAll_run hR r ys h2
      refine ⟨u :: us, by simp [h3], fun i x hx => ?_, ?_⟩
      · cases i with
        | zero => injection hx with hx; subst hx; exact ⟨u, rfl, hu⟩
        | succ i => exact h4 i x hx
      · rw [List.mapM_cons, Sem.run_bind, hrun, Result.andThen_ok, Sem.run_bind, h5]
        rfl
    · cases h

theorem takeAll_av : ∀ (l : List CK) (xs : List AV) (p : Pays l), takeAll l xs = some p → ∀ us : List Value, us.length = xs.length → (∀ (i : Nat) x, xs[i]? = some x → ∃ u, us[i]? = some u ∧ x.Rep κ w u) → CompsRep κ w (compsOf l p) us
  | [], [], p, h, us, hl, hr => ⟨by rw [hl]; rfl, fun i c hc => by cases hc⟩
  | [], x :: xs, p, h, us, hl, hr => by simp [takeAll] at h
  | [x], [], p, h, us, hl, hr => by simp [takeAll] at h
  | [x], y :: z :: r, p, h, us, hl, hr => by simp [takeAll] at h
  | x :: y :: r, [], p, h, us, hl, hr => by simp [takeAll] at h
  | [x], [y], p, h, us, hl, hr => by
    cases y with
    | tup vs => simp [takeAll] at h
    | c z =>
      have h : takeComp x z = some p := h
      refine ⟨hl, fun i c hc => ?_⟩
      cases i with
      | zero =>
        injection hc with hc; subst hc
        obtain ⟨u, hu, hx⟩ := hr 0 _ rfl
        exact ⟨u, hu, takeComp_sound h hx⟩
      | succ i => cases hc
  | x :: y :: r, z :: zs, p, h, us, hl, hr => by
    cases z with
    | tup vs => simp [takeAll] at h
    | c c0 =>
      have h : (match takeComp x c0, takeAll (y :: r) zs with
        | some p, some q => some (p, q)
        | _, _ => none) = some p := h
      split at h
      · rename_i p1 p2 h1 h2
        injection h with h; subst h
        cases us with
        | nil => simp at hl
        | cons u us =>
          have ih := takeAll_av (y :: r) zs p2 h2 us (by simpa using hl) (fun i x hx => hr (i + 1) x hx)
          refine ⟨?_, fun i c hc => ?_⟩
          · have := ih.1
            show us.length + 1 = (compsOf (y :: r) p2).length + 1
            rw [this]
          · cases i with
            | zero =>
              injection hc with hc; subst hc
              obtain ⟨u', hu, hx⟩ := hr 0 _ rfl
              exact ⟨u', hu, takeComp_sound h1 hx⟩
            | succ i => exact ih.2 i c hc
      · cases h
theorem ret_sound {fn : Func} {c : Con} {p : Pays c.args} {st : St} {a : Act} {w : World} (hR : Rel w0 κ st a w) (h : retPost P fn c p st) :
    ∃ κ' st' r v, Rel w0 κ' st' a w ∧ (results fn a.tmps).run P w = .ok v w ∧ c.post p r ∧ (resAV c.res r).Rep κ' w v := by
  unfold retPost at h
  obtain ⟨κ1, hR⟩ := Rel.freezeAll (keysOf st.rows) hR
  split at h
  · rename_i xs hxs
    split at h
    · rename_i r hr
      obtain ⟨us, h1, h2, h3⟩ := resAll_run hR fn.results.toList xs hxs
      have hrep := takeAll_av (κ := κ1) (w := w) c.res xs r hr us h1 h2
      have hrun : (results fn a.tmps).run P w = .ok (if h : us.toArray.size = 1 then us.toArray[0] else .tuple us.toArray) w := by
        unfold results
        rw [Sem.run_bind, Array.mapM_eq_mapM_toList, Sem.run_map]
        erw [h3]
        rfl
      refine ⟨κ1, _, r, _, hR, hrun, h, ?_⟩
      unfold resAV
      split
      · rename_i x hx
        rw [hx] at hrep
        have hl : us.length = 1 := hrep.1
        obtain ⟨u, rfl⟩ := List.length_eq_one_iff.1 hl
        obtain ⟨u', hu, hxr⟩ := hrep.2 0 x rfl
        injection hu with hu; subst hu
        exact hxr
      · rename_i ys hne
        have hl : us.length = (compsOf c.res r).length := hrep.1
        have hn : us.toArray.size ≠ 1 := fun e => by
          have e : us.length = 1 := by simpa using e
          rw [hl] at e
          obtain ⟨y, hy⟩ := List.length_eq_one_iff.1 e
          exact hne y hy
        rw [dif_neg hn]
        exact ⟨us.toArray, rfl, by simpa using hl, fun i x hx => by
          obtain ⟨u, hu, hxr⟩ := hrep.2 i x hx
          exact ⟨u, by simpa using hu, hxr⟩⟩
    · exact h.elim
  · exact h.elim

theorem envOf_look (xs : List Comp) : ∀ (n t : Nat), look (.c (.one .any)) t (envOf n xs) = if n ≤ t ∧ t < n + xs.length then (match xs[t - n]? with | some x => .c x | none => .c (.one .any)) else .c (.one .any) := by
  induction xs with
  | nil => intro n t; show AV.c (.one .any) = _; rw [if_neg (by simp only [List.length_nil]; omega)]
  | cons x r ih =>
    intro n t
    show look _ t ((n, .c x) :: envOf (n + 1) r) = _
    rw [look_cons, ih]
    by_cases e : n = t
    · subst e
      rw [if_pos rfl, if_pos ⟨Nat.le_refl _, by simp⟩, Nat.sub_self]
      rfl
    · rw [if_neg e]
      by_cases e2 : n ≤ t ∧ t < n + (x :: r).length
      · rw [List.length_cons] at e2
        rw [if_pos (by omega), if_pos (by rw [List.length_cons]; omega), show t - n = (t - (n + 1)) + 1 by omega]
        rfl
      · rw [List.length_cons] at e2
        rw [if_neg (by omega), if_neg (by rw [List.length_cons]; omega)]

/-- a function's contract, out of what is to be shown of its code -/
theorem holds_of_vc (c : Con) {fn : Func} {code : Code} (hf : P.funcs[c.f]? = some fn) (hb : fn.body = some code) (hname : (fn.name == "runtime.NumGoroutine") = false) (hm : P.follows .mixedOrders = true)
    (hargs : Nat.ble c.args.length fn.ntmps = true) (hcons : ∀ c ∈ cons, c.Holds P) (anns : Pays c.args → List (Nat × Ann)) (hfn : ∀ F, c.fn = some F → ∀ p r, c.post p r → r = F p)
    (H : ∀ p, c.pre p → vc P cons (anns p) code 0 (startOf fn (compsOf c.args p)) { normal := retPost P fn c p, exit := fun _ _ => False, ret := retPost P fn c p }) : c.Holds P := by
  refine ⟨⟨⟨fn, hf, hname, by rw [hb]; rfl⟩, hfn⟩, fun p vs w S hS hpre hvs => ?_⟩
  refine calls_of_wp hf hb ?_
  have hlen : ∀ (l : List CK) (p : Pays l), (compsOf l p).length = l.length := by
    intro l
    induction l with
    | nil => intro p; rfl
    | cons x l ih =>
      cases l with
      | nil => intro p; rfl
      | cons y r => intro p; show (compsOf (y :: r) p.2).length + 1 = _; rw [ih p.2]; rfl
  have hle : vs.length ≤ fn.ntmps := by
    rw [hvs.1, hlen]
    exact Nat.le_of_ble_eq_true hargs
  have hR : Rel ⟨w, S⟩ (Cx.of S) (startOf fn (compsOf c.args p)) { tmps := vs.toArray ++ Array.replicate (fn.ntmps - vs.toArray.size) Go.undef, defers := [] } w := {
    defers := rfl
    size := by
      show (vs.toArray ++ Array.replicate (fn.ntmps - vs.toArray.size) Go.undef).size = fn.ntmps
      rw [Array.size_append, Array.size_replicate]
      simp; omega
    env := fun t => by
      show AV.Rep _ _ (look (.c (.one .any)) t (envOf 0 (compsOf c.args p))) _
      rw [envOf_look]
      split
      · rename_i e
        rw [Nat.sub_zero]
        split
        · rename_i x hx
          obtain ⟨u, hu, hr⟩ := hvs.2 t x hx
          have : (vs.toArray ++ Array.replicate (fn.ntmps - vs.toArray.size) Go.undef).getD t Go.undef = u := by
            have hlt : t < vs.length := (List.getElem?_eq_some_iff.1 hu).1
            rw [Array.getD_eq_getD_getElem?, Array.getElem?_append_left (by simpa using hlt)]
            simp [hu]
          rw [this]
          exact hr
        · trivial
      · trivial
    box := fun b cs h => by cases h
    apart := fun b b' cs cs' h => by cases h
    row := fun r x h => by cases h
    rows := fun r r' x x' h => by cases h
    bound := hS
    below := bel_refl w
    old := fun g hg => .inl hg }
  have hfin : ∀ (κ : Cx) (st : St) (a : Act) (w' : World), retPost P fn c p st → Rel ⟨w, S⟩ κ st a w' → a.defers = [] ∧ ∃ v, (results fn a.tmps).run P w' = .ok v w' ∧
      ∃ (r : Pays c.res) (v' : Value), Ending.returned v = .returned v' ∧ c.post p r ∧ (resAV c.res r).Rep (Cx.of fun g => S g ∨ (w.heap.size ≤ g ∧ g < w'.heap.size)) w' v' ∧ Below w.heap.size w w' := fun κ st a w' h hR => by
    obtain ⟨κ, st, r, v, hR, hrun, hpost, hrep⟩ := ret_sound hR h
    refine ⟨hR.defers, v, hrun, r, v, rfl, hpost, ?_, hR.below⟩
    have h1 : (resAV c.res r).Rep (Cx.of κ.S) w' v := resAV_plain (κ := κ) (κ' := Cx.of κ.S) c.res r rfl hrep
    exact AV.Rep.keeps (κ := Cx.of κ.S) (κ' := Cx.of fun g => S g ∨ (w.heap.size ≤ g ∧ g < w'.heap.size)) rfl rfl (Keeps.refl w' κ.S) (fun g hg hlt => (hR.old g hg).imp id (fun h => ⟨h, hlt⟩)) h1
  refine vc_sound (anns := anns p) hm hcons code 0 _ _ _ (Cx.of S) _ w (H p hpre) hR ⟨?_, ?_, ?_⟩
  · exact fun κ st a w' h hR => hfin κ st a w' h hR
  · exact fun id κ st a w' h hR => h.elim
  · exact fun κ st a w' h hR => hfin κ st a w' h hR
end
end R
end Go.Proofs.YtgjdbnkeamjhhaaDoor

/-
  The way from a contract to what is to be shown of the code.
-/
set_option linter.unusedVariables false
namespace Go.Proofs.YtgjdbnkeamjhhaaDoor
open Go.RowKit
namespace R
noncomputable def codeOf (fn : Func) : Code := fn.body.getD .skip
/-- what is to be shown of a function's code -/
def vcOf (P : Program) (cons : List Con) (anns : List (Nat × Ann)) (c : Con) (fn : Func) (p : Pays c.args) : Prop :=
  vc P cons anns (codeOf fn) 0 (startOf fn (compsOf c.args p)) { normal := retPost P fn c p, exit := fun _ _ => False, ret := retPost P fn c p }
theorem holds {P : Program} {cons : List Con} (c : Con) {fn : Func} (hf : P.funcs[c.f]? = some fn) (hb : fn.body.isSome = true) (hname : (fn.name == "runtime.NumGoroutine") = false) (hm : P.follows .mixedOrders = true)
    (hargs : Nat.ble c.args.length fn.ntmps = true) (hcons : ∀ c ∈ cons, c.Holds P) (anns : Pays c.args → List (Nat × Ann)) (hfn : ∀ F, c.fn = some F → ∀ p r, c.post p r → r = F p) (H : ∀ p, c.pre p → vcOf P cons (anns p) c fn p) : c.Holds P := by
  obtain ⟨code, hcode⟩ := Option.isSome_iff_exists.1 hb
  refine holds_of_vc (code := code) c hf hcode hname hm hargs hcons anns hfn fun p hp => ?_
  have := H p hp
  unfold vcOf codeOf at this
  rw [hcode] at this
  exact this
/-- the same for a contract that reckons its results -/
theorem holdsF {P : Program} {cons : List Con} {f : FuncId} {args res : List CK} {pre : Pays args → Prop} {F : Pays args → Pays res} {fn : Func} (hf : P.funcs[f]? = some fn) (hb : fn.body.isSome = true) (hname : (fn.name == "runtime.NumGoroutine") = false) (hm : P.follows .mixedOrders = true)
    (hargs : Nat.ble args.length fn.ntmps = true) (hcons : ∀ c ∈ cons, c.Holds P) (anns : Pays args → List (Nat × Ann)) (H : ∀ p, pre p → vcOf P cons (anns p) (Con.of f args res pre F) fn p) : (Con.of f args res pre F).Holds P :=
  holds (Con.of f args res pre F) hf hb hname hm hargs hcons anns (fun F' h p r hr => by injection h with h; subst h; exact hr) H
end R
end Go.Proofs.YtgjdbnkeamjhhaaDoor

/-
  Annotations that look at the loop's entry; contracts out of walks.
-/
set_option linter.unusedVariables false
namespace Go.Proofs.YtgjdbnkeamjhhaaDoor
open Go.RowKit
namespace R
def St.strOf (st : St) (t : Nat) : List UInt8 :=
  match st.get t with
  | .c (.one (.val .str s)) => s
  | _ => []
def St.intOf (st : St) (t : Nat) : Int :=
  match st.get t with
  | .c (.one (.val (.int _) n)) => n
  | _ => 0
def annS (l : Nat) (ι : Type) (live : List Nat) (over : ι → List (Nat × AV)) (rows : ι → List (Nat × Row)) (inv : St → ι → Prop) (mu : St → ι → Nat) : Nat × Ann := (l, { ι := ι, at_ := fun st p => st.head live (over p) (rows p), inv := inv, mu := mu })

theorem bifP {b : Bool} {A B : Prop} (ht : b = true → A) (hf : b = false → B) : bif b then A else B := by
  cases b
  · exact hf rfl
  · exact ht rfl
theorem comp_one {κ : Cx} {w : World} {k : Kd} {p : k.Pay} {vs : List Value} (h : CompsRep κ w [.one (.val k p)] vs) : ∃ v, vs = [v] ∧ k.Rep w κ.S p v := by
  obtain ⟨v, rfl⟩ := List.length_eq_one_iff.1 h.1
  obtain ⟨u, hu, hr⟩ := h.2 0 _ rfl
  injection hu with hu; subst hu
  exact ⟨v, rfl, hr⟩
/-- a walk of a function from a string to a bool that leaves the world as it is -/
theorem holds_str_bool {P : Program} {f : FuncId} {fn : Func} {pre : List UInt8 → Prop} {F : List UInt8 → Bool} (hf : P.funcs[f]? = some fn) (hb : fn.body.isNone = false) (hname : (fn.name == "runtime.NumGoroutine") = false)
    (h : ∀ (s : List UInt8) (w : World), pre s → Calls P f #[.string (bs s)] w fun e w' => e = .returned (.bool (F s)) ∧ Below w.heap.size w w') : (Con.of f [.one .str] [.one .bool] pre F).Holds P := by
  refine ⟨⟨⟨fn, hf, hname, hb⟩, fun F' hF p r hr => by injection hF with hF; subst hF; exact hr⟩, fun p vs w S hS hp hvs => ?_⟩
  obtain ⟨v, rfl, hv⟩ := comp_one hvs
  obtain rfl : v = .string (bs p) := hv
  refine (h p w hp).mono ?_
  rintro e w' ⟨rfl, hbl⟩
  exact ⟨F p, _, rfl, rfl, rfl, hbl⟩
end R
end Go.Proofs.YtgjdbnkeamjhhaaDoor

/-
  Arguments of whatever kind, opened: what they read as, and that each is within a Go value's bounds.
-/
set_option linter.unusedVariables false
namespace Go.Proofs.YtgjdbnkeamjhhaaDoor
open Go.RowKit Go.ChangeShapes Go.WideShapes
namespace R
mutual
/-- a type whose values are of this kind -/
def KdT (P : Program) : Kd → TypeId → Prop
  | .int k, t => P.underlying t = some (.int k)
  | .bool, t => P.underlying t = some .bool
  | .str, t => P.underlying t = some .string
  | .sl fs, t => ∃ e, P.underlying t = some (.slice e) ∧ P.cellsOf e = fs.size ∧ KdsT P fs e
/-- a type whose values take a row of cells of these kinds -/
def KdsT (P : Program) : Kds → TypeId → Prop
  | .one k, e => KdT P k e ∨ ∃ (F : Array Field) (f : Field), P.underlying e = some (.struct F) ∧ F.toList = [f] ∧ f.offset = 0 ∧ P.cellsOf f.type = 1 ∧ KdT P k f.type
  | .cons k ks, e => ∃ (F : Array Field) (f : Field) (r : List Field), P.underlying e = some (.struct F) ∧ F.toList = f :: r ∧ f.offset = 0 ∧ P.cellsOf f.type = 1 ∧ KdT P k f.type ∧ FldsT P ks r 1
/-- fields from cell number o on -/
def FldsT (P : Program) : Kds → List Field → Nat → Prop
  | .one k, l, o => ∃ f, l = [f] ∧ f.offset = o ∧ P.cellsOf f.type = 1 ∧ KdT P k f.type
  | .cons k ks, l, o => ∃ f r, l = f :: r ∧ f.offset = o ∧ P.cellsOf f.type = 1 ∧ KdT P k f.type ∧ FldsT P ks r (o + 1)
end
mutual
/-- what each Go value of a kind keeps within -/
def Kd.Big : (k : Kd) → k.Pay → Prop
  | .int k, n => (Lit.int k n).wf = true
  | .bool, _ => True
  | .str, s => List.length (α := UInt8) s ≤ 9223372036854775807
  | .sl fs, xs => (xs : List fs.Pay).length ≤ 9223372036854775807 ∧ ∀ x ∈ (xs : List fs.Pay), fs.Big x
def Kds.Big : (fs : Kds) → fs.Pay → Prop
  | .one k, p => k.Big p
  | .cons k ks, p => k.Big p.1 ∧ ks.Big p.2
end
theorem add_pl' (g off j : Nat) : (⟨g, off, none⟩ : Addr).add j = ⟨g, off + j, none⟩ := by unfold Addr.add; split <;> simp_all
theorem cell_plain' {w : World} {a : Addr} {v : Value} (h : w.cell? (a.add 0) = some v) : ∃ g o, a = ⟨g, o, none⟩ ∧ g < w.heap.size := by
  obtain ⟨g, o, sp⟩ := a
  unfold World.cell? Addr.add at h
  simp only [if_true] at h
  split at h
  · rename_i hg
    cases sp with
    | none => exact ⟨g, o, rfl, (Array.getElem?_eq_some_iff.1 hg).1⟩
    | some x => simp at h
  · cases h
section
variable {H : Type} {enc : TypeId × Value → H} {P : Program} {w : World} {base : Nat} {spare : Nat → Bool} {held : Bool}
/-- the blocks of the memory at hand -/
abbrev Here (w : World) (g : Nat) : Prop := g < w.heap.size
/-- what a row of cells reads as, cell by cell -/
def CellsAs (w : World) : (fs : Kds) → fs.Pay → List Value → Prop
  | .one k, p, cs => ∃ v, cs = [v] ∧ k.Rep w (Here w) p v
  | .cons k ks, p, cs => ∃ v r, cs = v :: r ∧ k.Rep w (Here w) p.1 v ∧ CellsAs w ks p.2 r
theorem CellsAs.row : ∀ (fs : Kds) (p : fs.Pay) (cs : List Value) (g o : Nat), CellsAs w fs p cs → (∀ i, i < cs.length → w.cell? ⟨g, o + i, none⟩ = cs[i]?) → fs.Rep w (Here w) p g o
  | .one k, p, cs, g, o, h, hc => by
    obtain ⟨v, rfl, hv⟩ := h
    exact ⟨v, hc 0 (by simp), hv⟩
  | .cons k ks, p, cs, g, o, h, hc => by
    obtain ⟨v, r, rfl, hv, hr⟩ := h
    refine ⟨⟨v, hc 0 (by simp), hv⟩, CellsAs.row ks p.2 r g (o + 1) hr fun i hi => ?_⟩
    have := hc (i + 1) (by simp; omega)
    rw [show o + 1 + i = o + (i + 1) by omega]
    exact this
theorem CellsAs.len : ∀ (fs : Kds) (p : fs.Pay) (cs : List Value), CellsAs w fs p cs → cs.length = fs.size
  | .one k, p, cs, h => by obtain ⟨v, rfl, _⟩ := h; rfl
  | .cons k ks, p, cs, h => by
    obtain ⟨v, r, rfl, _, hr⟩ := h
    have := CellsAs.len ks p.2 r hr
    show r.length + 1 = ks.size + 1
    omega
mutual
theorem open_kd : ∀ (k : Kd) (t : TypeId), KdT P k t → ∀ (fuel : Nat) (cs : List Value) (x : DataW H × List MemPlace), DataW.trod enc P w base spare held fuel t cs = some x → ∃ v p, cs = [v] ∧ k.Rep w (Here w) p v ∧ k.Big p
  | .int k, t, ht, fuel, cs, x, h => by
    obtain ⟨n, h1, h2, h3⟩ := DataW.trod_int ht h
    exact ⟨_, n, h1, rfl, by first | exact h3 | exact h3.1 | exact h3.2⟩
  | .bool, t, ht, fuel, cs, x, h => by
    obtain ⟨b, h1, _⟩ := DataW.trod_bool ht h
    exact ⟨_, b, h1, rfl, trivial⟩
  | .str, t, ht, fuel, cs, x, h => by
    obtain ⟨s, h1, _, h3⟩ := DataW.trod_string ht h
    exact ⟨_, s.data.toList, h1, rfl, h3⟩
  | .sl fs, t, ht, fuel, cs, x, h => by
    obtain ⟨e, hu, hce, he⟩ := ht
    rcases Go.Deep.open_slice hu h with ⟨rfl, _⟩ | ⟨a, len, cap, m, n, D, Pl, rfl, hb, hlc, hm, hmm, _, hx⟩
    · exact ⟨_, ([] : List fs.Pay), rfl, ⟨none, 0, rfl, Nat.le_refl _, fun h => absurd h (Nat.lt_irrefl _)⟩, Nat.zero_le _, fun x h => by cases h⟩
    · have hlm : len ≤ m := by rw [hmm]; split <;> omega
      have each : ∀ i, i < len → ∃ p : fs.Pay, ∀ g o, a = ⟨g, o, none⟩ → fs.Rep w (Here w) p g (o + i * fs.size) ∧ fs.Big p := fun i hi => by
        obtain ⟨cs', h1, h2⟩ := hx i (by omega)
        obtain ⟨p, hp, hbig⟩ := open_kds fs e he n cs' _ hce h2
        refine ⟨p, fun g o ha => ⟨CellsAs.row fs p cs' g _ hp fun j hj => ?_, hbig⟩⟩
        subst ha
        obtain ⟨_, hl, hc⟩ := World.cells?_some h1
        have := hc j (by omega)
        rw [add_pl', add_pl', hce] at this
        exact this
      obtain ⟨f, hf⟩ : ∃ f : Nat → fs.Pay, ∀ i, i < len → ∀ g o, a = ⟨g, o, none⟩ → fs.Rep w (Here w) (f i) g (o + i * fs.size) ∧ fs.Big (f i) := by
        haveI : Inhabited fs.Pay := ⟨fs.dflt⟩
        exact Go.Deep.choose_lt each
      have hlen : ((List.range len).map f).length = len := by simp
      have hpl : 0 < len → ∃ g o, a = ⟨g, o, none⟩ ∧ g < w.heap.size := fun hpos => by
        obtain ⟨cs', h1, _⟩ := hx 0 (by omega)
        obtain ⟨_, hl, hc⟩ := World.cells?_some h1
        have := hc 0 (by rw [hce]; exact fs.size_pos)
        rw [Nat.zero_mul] at this
        have hlt : 0 < cs'.length := by rw [hl, hce]; exact fs.size_pos
        rw [List.getElem?_eq_getElem hlt] at this
        have ha : a.add 0 = a := by unfold Addr.add; simp
        rw [ha] at this
        exact cell_plain' this
      refine ⟨_, ((List.range len).map f : List fs.Pay), rfl, ⟨some a, cap, by rw [hlen], by rw [hlen]; exact hlc, fun hpos => ?_⟩, ?_, ?_⟩
      · rw [hlen] at hpos
        obtain ⟨g, o, rfl, hg⟩ := hpl hpos
        refine ⟨g, o, rfl, hg, hg, fun i x hi => ?_⟩
        have hil : i < len := by
          rcases Nat.lt_or_ge i len with h' | h'
          · exact h'
          · rw [List.getElem?_eq_none (by rw [hlen]; exact h')] at hi; cases hi
        rw [List.getElem?_map, List.getElem?_range hil] at hi
        injection hi with hi
        subst hi
        exact (hf i hil g o rfl).1
      · rw [hlen]; unfold maxLen at hm; omega
      · intro x hx'
        obtain ⟨i, hi, rfl⟩ := List.mem_map.1 hx'
        have hi := List.mem_range.1 hi
        obtain ⟨g, o, ha, hg⟩ := hpl (by omega)
        exact (hf i hi g o ha).2
theorem open_kds : ∀ (fs : Kds) (e : TypeId), KdsT P fs e → ∀ (fuel : Nat) (cs : List Value) (x : DataW H × List MemPlace), P.cellsOf e = fs.size → DataW.trod enc P w base spare held fuel e cs = some x → ∃ p, CellsAs w fs p cs ∧ fs.Big p
  | .one k, e, he, fuel, cs, x, hce, h => by
    rcases he with he | ⟨F, f, hu, hF, ho, hc, hk⟩
    · obtain ⟨v, p, rfl, hv, hb⟩ := open_kd k e he fuel cs x h
      exact ⟨p, ⟨v, rfl, hv⟩, hb⟩
    · obtain ⟨xs, n, rfl, _, hl, hxl, hx⟩ := DataW.trod_struct hu h
      have hl1 : cs.length = 1 := hl.trans hce
      have hf0 : F[0]? = some f := by rw [← Array.getElem?_toList, hF]; rfl
      have h0 := hx 0 f hf0
      have hF1 : F.size = 1 := by rw [← Array.length_toList, hF]; rfl
      rw [List.getElem?_eq_getElem (by omega)] at h0
      obtain ⟨v, p, h1, hv, hb⟩ := open_kd k f.type hk n _ _ h0
      rw [ho, hc, List.drop_zero, List.take_of_length_le (by omega)] at h1
      exact ⟨p, ⟨v, h1, hv⟩, hb⟩
  | .cons k ks, e, he, fuel, cs, x, hce, h => by
    obtain ⟨F, f, r, hu, hF, ho, hc, hk, hr⟩ := he
    obtain ⟨xs, n, rfl, _, hl, hxl, hx⟩ := DataW.trod_struct hu h
    have hcl : cs.length = ks.size + 1 := hl.trans hce
    have hFs : F.size = (f :: r).length := by rw [← Array.length_toList, hF]
    have each : ∀ (i : Nat) (f' : Field), (f :: r)[i]? = some f' → ∃ y, DataW.trod enc P w base spare held n f'.type ((cs.drop f'.offset).take (P.cellsOf f'.type)) = some y := fun i f' hi => by
      have h1 : F[i]? = some f' := by rw [← Array.getElem?_toList, hF]; exact hi
      have h2 := hx i f' h1
      have hil : i < xs.length := by
        rw [hxl]
        exact (Array.getElem?_eq_some_iff.1 h1).1
      rw [List.getElem?_eq_getElem hil] at h2
      exact ⟨_, h2⟩
    obtain ⟨y, hy⟩ := each 0 f rfl
    obtain ⟨v, p, h1, hv, hb⟩ := open_kd k f.type hk n _ _ hy
    obtain ⟨q, hq, hbq⟩ := open_flds ks r 1 hr n cs (by omega) fun i f' hi => each (i + 1) f' hi
    rw [ho, hc, List.drop_zero] at h1
    cases cs with
    | nil => simp at h1
    | cons u cs =>
      simp only [List.take_succ_cons, List.take_zero] at h1
      injection h1 with h1
      subst h1
      exact ⟨(p, q), ⟨u, cs, rfl, hv, hq⟩, hb, hbq⟩
theorem open_flds : ∀ (fs : Kds) (l : List Field) (o : Nat), FldsT P fs l o → ∀ (n : Nat) (cs : List Value), cs.length = o + fs.size → (∀ (i : Nat) (f : Field), l[i]? = some f → ∃ y, DataW.trod enc P w base spare held n f.type ((cs.drop f.offset).take (P.cellsOf f.type)) = some y) → ∃ p, CellsAs w fs p (cs.drop o) ∧ fs.Big p
  | .one k, l, o, hl, n, cs, hcs, hx => by
    obtain ⟨f, rfl, ho, hc, hk⟩ := hl
    obtain ⟨y, hy⟩ := hx 0 f rfl
    obtain ⟨v, p, h1, hv, hb⟩ := open_kd k f.type hk n _ _ hy
    have hcs : cs.length = o + 1 := hcs
    rw [ho, hc, List.take_of_length_le (by rw [List.length_drop]; omega)] at h1
    exact ⟨p, ⟨v, h1, hv⟩, hb⟩
  | .cons k ks, l, o, hl, n, cs, hcs, hx => by
    obtain ⟨f, r, rfl, ho, hc, hk, hr⟩ := hl
    have hcs : cs.length = o + (ks.size + 1) := hcs
    obtain ⟨y, hy⟩ := hx 0 f rfl
    obtain ⟨v, p, h1, hv, hb⟩ := open_kd k f.type hk n _ _ hy
    obtain ⟨q, hq, hbq⟩ := open_flds ks r (o + 1) hr n cs (by omega) fun i f' hi => hx (i + 1) f' hi
    rw [ho, hc] at h1
    have hlt : o < cs.length := by omega
    rw [List.drop_eq_getElem_cons hlt] at h1 ⊢
    simp only [List.take_succ_cons, List.take_zero] at h1
    injection h1 with h1
    subst h1
    exact ⟨(p, q), ⟨_, _, rfl, hv, hq⟩, hb, hbq⟩
end
/-- a type whose values are of an argument's kind -/
def CKT (P : Program) : CK → TypeId → Prop
  | .one k, t => KdT P k t
  | .agg ks, t => (∃ F, P.underlying t = some (.struct F)) ∧ P.cellsOf t = ks.size ∧ KdsT P ks t
def CK.Big : (x : CK) → x.Pay → Prop
  | .one k, p => k.Big p
  | .agg ks, p => ks.Big p
theorem Kd.Rep.oneCell {S : Nat → Prop} : ∀ (k : Kd) (p : k.Pay) (v : Value), k.Rep w S p v → v.oneCell' = true
  | .int k, p, v, h => by cases h; rfl
  | .bool, p, v, h => by cases h; rfl
  | .str, p, v, h => by cases h; rfl
  | .sl fs, p, v, h => by obtain ⟨A, c, rfl, _⟩ := h; rfl
theorem CellsAs.reps : ∀ (fs : Kds) (p : fs.Pay) (cs : List Value), CellsAs w fs p cs →
    (∀ (i : Nat) c, (fs.cells p)[i]? = some c → ∃ v, cs[i]? = some v ∧ c.Rep (Cx.of (Here w)) w v) ∧ (∀ (i : Nat) v, cs[i]? = some v → v.oneCell' = true) ∧ cs.length = (fs.cells p).length
  | .one k, p, cs, h => by
    obtain ⟨v, rfl, hv⟩ := h
    refine ⟨fun i c hi => ?_, fun i u hi => ?_, rfl⟩
    · cases i with
      | zero => injection hi with hi; subst hi; exact ⟨v, rfl, hv⟩
      | succ i => cases hi
    · cases i with
      | zero => injection hi with hi; subst hi; exact Kd.Rep.oneCell k p v hv
      | succ i => cases hi
  | .cons k ks, p, cs, h => by
    obtain ⟨v, r, rfl, hv, hr⟩ := h
    obtain ⟨h1, h2, h3⟩ := CellsAs.reps ks p.2 r hr
    refine ⟨fun i c hi => ?_, fun i u hi => ?_, by rw [List.length_cons, h3]; rfl⟩
    · cases i with
      | zero => injection hi with hi; subst hi; exact ⟨v, rfl, hv⟩
      | succ i => exact h1 i c hi
    · cases i with
      | zero => injection hi with hi; subst hi; exact Kd.Rep.oneCell k p.1 v hv
      | succ i => exact h2 i u hi
theorem open_ck {r : Reach} {b0 : Nat} (x : CK) (t : TypeId) (ht : CKT P x t) {v : Value} {d : DataW H} {ps : List MemPlace} (hv : Value.okWide P w r b0 t v) (h : DataW.Trod enc P w base spare held t v d ps) :
    ∃ p : x.Pay, (x.comp p).Rep (Cx.of (Here w)) w v ∧ x.Big p := by
  obtain ⟨fuel, hf⟩ := h
  cases x with
  | one k =>
    have hone : v.cells.toList = [v] := by
      cases k with
      | int k => obtain ⟨n, rfl⟩ := okWide_int ht hv; rfl
      | bool => obtain ⟨n, rfl⟩ := okWide_bool ht hv; rfl
      | str => obtain ⟨n, rfl⟩ := okWide_string ht hv; rfl
      | sl fs => obtain ⟨e, hu, _⟩ := ht; obtain ⟨a, n, c, rfl⟩ := okWide_slice hu hv; rfl
    obtain ⟨v', p, h1, h2, h3⟩ := open_kd k t ht fuel _ _ hf
    rw [hone] at h1
    injection h1 with h1
    subst h1
    exact ⟨p, h2, h3⟩
  | agg ks =>
    obtain ⟨⟨F, hu⟩, hc, hk⟩ := ht
    obtain ⟨cs, rfl, hsz⟩ := okWide_struct hu hv
    obtain ⟨p, hp, hb⟩ := open_kds ks t hk fuel _ _ hc hf
    obtain ⟨h1, h2, h3⟩ := CellsAs.reps ks p _ hp
    refine ⟨p, ⟨cs, rfl, ?_, fun i c hi => ?_, fun i u hi => ?_⟩, hb⟩
    · rw [← h3]; simp [Value.cells]
    · obtain ⟨u, hu, hr⟩ := h1 i c hi
      exact ⟨u, by simpa [Value.cells] using hu, hr⟩
    · exact h2 i u (by simpa [Value.cells] using hi)
end
end R
end Go.Proofs.YtgjdbnkeamjhhaaDoor

/-
  A law's contract as a card asks for it.
-/
set_option linter.unusedVariables false
namespace Go.Proofs.YtgjdbnkeamjhhaaDoor
open Go.RowKit
namespace R
theorem compsRep_nil {κ : Cx} {w : World} : CompsRep κ w [] [] := ⟨rfl, fun i c h => by cases h⟩
theorem compsRep_cons {κ : Cx} {w : World} {a : Comp} {v : Value} {xs : List Comp} {vs : List Value} (h : a.Rep κ w v) (hs : CompsRep κ w xs vs) : CompsRep κ w (a :: xs) (v :: vs) := by
  refine ⟨by rw [List.length_cons, List.length_cons, hs.1], fun i c hc => ?_⟩
  cases i with
  | zero => injection hc with hc; subst hc; exact ⟨v, rfl, h⟩
  | succ i => exact hs.2 i c hc
theorem law_any {P : Program} {f : FuncId} {args : List CK} {pre : Pays args → Prop} (h : (Con.of f args [.one .bool] pre (fun _ => true)).Holds P) (p : Pays args) (vs : List Value) (w : World) (hp : pre p) (hr : CompsRep (Cx.of (Here w)) w (compsOf args p) vs) :
    Calls P f vs.toArray w fun e w' => e = .returned (.bool true) ∧ Below w.heap.size w w' := by
  have h := h.2 p vs w (Here w) (fun _ h => h) hp hr
  refine Calls.mono h ?_
  rintro e w' ⟨r, v, rfl, hr, hv, hbl⟩
  have hr : r = true := hr
  subst hr
  have hv : v = .bool true := hv
  exact ⟨by rw [hv], hbl⟩
end R
end Go.Proofs.YtgjdbnkeamjhhaaDoor

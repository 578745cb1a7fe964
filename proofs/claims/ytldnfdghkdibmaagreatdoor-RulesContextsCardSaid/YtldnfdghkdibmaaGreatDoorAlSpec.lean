/-
  The plain law of alphabets: what is valid, how a word is read, joined and folded, as functions on lists. No program in sight.
-/
import Derived.Test.YtldnfdghkdibmaaGreatDoorLexSpec
namespace Go.Proofs.YtldnfdghkdibmaaGreatDoor
namespace Al

structure Alph where
  name : List UInt8
  letters : List (List UInt8)
  small : List Int

/-- a byte of a letter -/
def okByte (c : UInt8) : Bool := 33 ≤ c && c ≤ 126 && !(c == 34)
def printedB (l : List UInt8) : Bool := l.all okByte && (decide (1 ≤ l.length) && decide (l.length ≤ 3))
def smallAt (n : Nat) (s : List Int) (k : Int) : Bool := decide (0 ≤ k) && decide (k < n) && (s.getD k.toNat 0 == k)
def noTwice : List (List UInt8) → Bool
  | [] => true
  | l :: r => !r.contains l && noTwice r
def formedB (a : Alph) : Bool :=
  Lx.nameB a.name && (decide (1 ≤ a.letters.length) && decide (a.letters.length ≤ 64)) && (a.small.length == a.letters.length) && a.letters.all printedB && noTwice a.letters && a.small.all (smallAt a.letters.length a.small)

/-- letters, one after the other, begin with a text -/
def follows (L : List (List UInt8)) : Nat → List UInt8 → Bool
  | 0, _ => false
  | f + 1, s => L.any fun l => s.isPrefixOf l || (l.isPrefixOf s && follows L f (s.drop l.length))

/-- a letter that begins with another one which letters can follow -/
def clash (L : List (List UInt8)) (l : List UInt8) (n : Nat) : Bool := decide (n < l.length) && (L.contains (l.take n) && follows L 4 (l.drop n))
def validB (a : Alph) : Bool := formedB a && a.letters.all fun l => !clash a.letters l 1 && !clash a.letters l 2

/-- the index of a letter -/
def idx (L : List (List UInt8)) (l : List UInt8) : Nat := L.findIdx (· == l)
/-- the longest letter of at most n bytes at the beginning of a text: its index and its length -/
def longest (L : List (List UInt8)) (s : List UInt8) : Nat → Option (Nat × Nat)
  | 0 => none
  | n + 1 => if L.contains (s.take (n + 1)) then some (idx L (s.take (n + 1)), n + 1) else longest L s n
def first (L : List (List UInt8)) (s : List UInt8) : Option (Nat × Nat) := longest L s (min 3 s.length)

/-- the letters of a text with their offsets, up to the first place where none begins, for which the index is -1 -/
def places (L : List (List UInt8)) : Nat → Nat → List UInt8 → List (Nat × Int)
  | 0, _, _ => []
  | _ + 1, _, [] => []
  | f + 1, at_, c :: r =>
    match first L (c :: r) with
    | none => [(at_, -1)]
    | some (k, n) => (at_, (k : Int)) :: places L f (at_ + n) ((c :: r).drop n)

/-- what is read out of these -/
def collect : List Int → List (Nat × Int) → List Int × Int × Int
  | out, [] => (out, 0, 0)
  | out, (at_, k) :: r => if k < 0 then ([], 3, at_) else if out.length = 24 then ([], 2, at_) else collect (out ++ [k]) r

def readL (L : List (List UInt8)) (s : List UInt8) : List Int × Int × Int := if s = [] then ([], 6, 0) else collect [] (places L (s.length + 1) 0 s)
def readB (a : Alph) (s : List UInt8) : List Int × Int × Int := if validB a then readL a.letters s else ([], 1, 0)

def letterAt (L : List (List UInt8)) (k : Int) : List UInt8 := L.getD k.toNat []
def joinL (L : List (List UInt8)) (ks : List Int) : List UInt8 := ks.flatMap (letterAt L)
def inRange (n : Nat) (ks : List Int) : Bool := ks.all fun k => decide (0 ≤ k) && decide (k < n)
def joinB (a : Alph) (ks : List Int) : List UInt8 × Int :=
  if validB a && (decide (1 ≤ ks.length) && decide (ks.length ≤ 24)) && inRange a.letters.length ks then (joinL a.letters ks, 0) else ([], 1)
def foldB (a : Alph) (s : List UInt8) : List UInt8 × Int :=
  if (readB a s).2.1 = 0 then joinB a ((readB a s).1.map fun k => a.small.getD k.toNat 0) else ([], 1)

end Al
end Go.Proofs.YtldnfdghkdibmaaGreatDoor

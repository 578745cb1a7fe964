/-
  The plain law of the lexer: what a text's tokens are, as functions on lists of bytes. No program in sight.
-/
import Derived.Test.YtldnfdghkdibmaaGreatDoorBase
namespace Go.Proofs.YtldnfdghkdibmaaGreatDoor
namespace Lx

def isLetter (c : UInt8) : Bool := (97 ≤ c && c ≤ 122) || (65 ≤ c && c ≤ 90)
def isDigit (c : UInt8) : Bool := 48 ≤ c && c ≤ 57
def isBlank (c : UInt8) : Bool := c == 32 || c == 9 || c == 10
def isWord (c : UInt8) : Bool := isLetter c || isDigit c || c == 95
def isSym (c : UInt8) : Bool := [59, 44, 46, 58, 40, 41, 91, 93, 123, 125, 61, 43, 45].contains c

/-- a name -/
def nameB (l : List UInt8) : Bool := l.all isWord && (decide (0 < l.length) && decide (l.length ≤ 24)) && (match l with | [] => false | c :: _ => isLetter c)

/-- the class of a byte -/
def cls (c : UInt8) : Nat :=
  if isLetter c then 3 else if isDigit c then 4 else if c == 95 then 5 else if isBlank c then 1 else if c == 35 then 2
  else if c == 34 then 6 else if c == 33 then 7 else if c == 60 || c == 62 then 8 else if isSym c then 9 else 0

def clsAt : List UInt8 → Nat
  | [] => 0
  | c :: _ => cls c

/-- the number of the first bytes of some kind -/
def span (p : UInt8 → Bool) (l : List UInt8) : Nat := (l.takeWhile p).length

/-- the number of bytes of the gaps at the beginning; true: within a comment -/
def gapc : Bool → List UInt8 → Nat
  | _, [] => 0
  | false, c :: r => if isBlank c then gapc false r + 1 else if c == 35 then gapc true r + 1 else 0
  | true, c :: r => if c == 10 then gapc false r + 1 else gapc true r + 1
def gap (l : List UInt8) : Nat := gapc false l

/-- the value of digits -/
def decVal (l : List UInt8) : Nat := l.foldl (fun a c => 10 * a + (c.toNat - 48)) 0

structure Sc where
  err : Int
  kind : Int
  n : Int
  text : List UInt8
  width : Nat
  deriving DecidableEq

def bad (e : Int) : Sc := ⟨e, 0, 0, [], 0⟩
def inText (c : UInt8) : Bool := !(c == 34 || c == 10)

/-- the token that begins a text -/
def scan : List UInt8 → Sc
  | [] => bad 3
  | c :: r =>
    if isLetter c then
      let m := span isWord r + 1
      if 24 < m then bad 2 else ⟨0, 1, 0, (c :: r).take m, m⟩
    else if isDigit c then
      let m := span isDigit r + 1
      if 13 < m || clsAt ((c :: r).drop m) == 3 || clsAt ((c :: r).drop m) == 5 then bad 4 else ⟨0, 2, decVal ((c :: r).take m), (c :: r).take m, m⟩
    else if c == 34 then
      let m := span inText r
      if (r.drop m).head? == some 34 then (if 400 < m then bad 2 else ⟨0, 3, 0, r.take m, m + 2⟩) else bad 6
    else if (c == 33 || c == 60 || c == 62) && r.head? == some 61 then ⟨0, 4, 0, [c, 61], 2⟩
    else if c == 60 || c == 62 || isSym c then ⟨0, 4, 0, [c], 1⟩
    else bad 3

structure Tok where
  kind : Int
  pos : Int
  n : Int
  text : List UInt8
  deriving DecidableEq

def Sc.tok (r : Sc) (off : Nat) : Tok := ⟨r.kind, off, r.n, r.text⟩

/-- the tokens, the error and its offset, from an offset on that is in no gap; 'out' has been read -/
def lexAt : Nat → List Tok → Nat → List UInt8 → List Tok × Int × Int
  | 0, out, _, _ => (out, 0, 0)
  | _ + 1, out, _, [] => (out, 0, 0)
  | f + 1, out, off, c :: r =>
    let s := scan (c :: r)
    if s.err = 0 ∧ out.length = 5000 then ([], 2, off)
    else if s.err ≠ 0 then ([], s.err, off)
    else
      let l := (c :: r).drop s.width
      lexAt f (out ++ [s.tok off]) (off + s.width + gap l) (l.drop (gap l))

def lex (l : List UInt8) : List Tok × Int × Int :=
  if 20000 < l.length then ([], 2, -1) else lexAt (l.length + 1) [] (gap l) (l.drop (gap l))

theorem lexAt_nil (f : Nat) (out : List Tok) (off : Nat) : lexAt f out off [] = (out, 0, 0) := by cases f <;> rfl
theorem lexAt_full (f : Nat) (out : List Tok) (off : Nat) (c : UInt8) (r : List UInt8) (h : (scan (c :: r)).err = 0) (hl : out.length = 5000) : lexAt (f + 1) out off (c :: r) = ([], 2, (off : Int)) := by
  simp only [lexAt]
  rw [if_pos ⟨h, hl⟩]
theorem lexAt_err (f : Nat) (out : List Tok) (off : Nat) (c : UInt8) (r : List UInt8) (h : (scan (c :: r)).err ≠ 0) : lexAt (f + 1) out off (c :: r) = ([], (scan (c :: r)).err, (off : Int)) := by
  simp only [lexAt]
  rw [if_neg (fun h' => h h'.1), if_pos h]
theorem lexAt_tok (f : Nat) (out : List Tok) (off : Nat) (c : UInt8) (r : List UInt8) (h : (scan (c :: r)).err = 0) (hl : out.length ≠ 5000) :
    lexAt (f + 1) out off (c :: r) = lexAt f (out ++ [(scan (c :: r)).tok off]) (off + (scan (c :: r)).width + gap ((c :: r).drop (scan (c :: r)).width)) (((c :: r).drop (scan (c :: r)).width).drop (gap ((c :: r).drop (scan (c :: r)).width))) := by
  simp only [lexAt]
  rw [if_neg (fun h' => hl h'.2), if_neg (by simp [h])]

theorem span_le' (p : UInt8 → Bool) (l : List UInt8) : span p l ≤ l.length := by
  unfold span
  induction l with
  | nil => simp
  | cons c r ih => rw [List.takeWhile_cons]; split <;> simp [ih]
theorem gapc_le (l : List UInt8) : ∀ b, gapc b l ≤ l.length := by
  induction l with
  | nil => intro b; cases b <;> simp [gapc]
  | cons c r ih =>
    intro b
    cases b
    · have h1 := ih false
      have h2 := ih true
      simp only [gapc, List.length_cons]
      split
      · omega
      · split <;> omega
    · have h1 := ih false
      have h2 := ih true
      simp only [gapc, List.length_cons]
      split <;> omega
theorem gap_le (l : List UInt8) : gap l ≤ l.length := gapc_le l false
def Fits (n : Nat) (r : Sc) : Prop := r.err = 0 → 1 ≤ r.width ∧ r.width ≤ n
theorem Fits.ite {n : Nat} {p : Prop} [Decidable p] {a b : Sc} (ha : p → Fits n a) (hb : ¬ p → Fits n b) : Fits n (if p then a else b) := by
  split
  · exact ha ‹_›
  · exact hb ‹_›
theorem Fits.bad (n : Nat) {e : Int} (h : e ≠ 0) : Fits n (bad e) := fun h' => absurd h' h
/-- a token takes a byte or more, and none behind the text -/
theorem scan_width (l : List UInt8) : Fits l.length (scan l) := by
  cases l with
  | nil => exact Fits.bad _ (by decide)
  | cons c r =>
    have hw := span_le' isWord r
    have hd := span_le' isDigit r
    have ht := span_le' inText r
    rw [scan]
    refine Fits.ite (fun _ => ?_) fun _ => Fits.ite (fun _ => ?_) fun _ => Fits.ite (fun _ => ?_) fun _ => Fits.ite (fun h4 => ?_) fun _ => Fits.ite (fun _ => ?_) fun _ => Fits.bad _ (by decide)
    · exact Fits.ite (fun _ => Fits.bad _ (by decide)) fun _ _ => ⟨by simp only []; omega, by simp only [List.length_cons]; omega⟩
    · exact Fits.ite (fun _ => Fits.bad _ (by decide)) fun _ _ => ⟨by simp only []; omega, by simp only [List.length_cons]; omega⟩
    · refine Fits.ite (fun h4 => ?_) fun _ => Fits.bad _ (by decide)
      have : span inText r < r.length := by
        rcases Nat.lt_or_ge (span inText r) r.length with h5 | h5
        · exact h5
        · rw [List.drop_eq_nil_of_le h5] at h4; cases h4
      exact Fits.ite (fun _ => Fits.bad _ (by decide)) fun _ _ => ⟨by simp only []; omega, by simp only [List.length_cons]; omega⟩
    · rw [Bool.and_eq_true] at h4
      cases r with
      | nil => cases h4.2
      | cons d r => exact fun _ => ⟨by simp only []; omega, by simp only [List.length_cons]; omega⟩
    · exact fun _ => ⟨by simp only []; omega, by simp only [List.length_cons]; omega⟩

end Lx
end Go.Proofs.YtldnfdghkdibmaaGreatDoor

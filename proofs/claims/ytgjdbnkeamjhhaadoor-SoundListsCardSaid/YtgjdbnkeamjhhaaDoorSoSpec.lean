/-
  Layer 40 in plain Lean: letters, word lists, confusions, which words sound alike. No program in sight.
-/
import Derived.Test.YtgjdbnkeamjhhaaDoorLexSpec
set_option linter.unusedVariables false
namespace Go.Proofs.YtgjdbnkeamjhhaaDoor
namespace Snd
abbrev Str := List UInt8
abbrev Conf := Str × Str
def letB (c : UInt8) : Bool := decide (97 ≤ c.toNat) && decide (c.toNat ≤ 122)
def lettersB (s : Str) (lo hi : Int) : Bool := s.all letB && (decide (lo ≤ (s.length : Int)) && decide ((s.length : Int) ≤ hi))
def flip (c : Conf) : Conf := (c.2, c.1)
def okC (c : Conf) : Bool := lettersB c.1 1 3 && (lettersB c.2 1 3 && !(c.1 == c.2))
def same (c d : Conf) : Bool := c == d || c == flip d
def fresh : List Conf → Bool
  | [] => true
  | c :: r => !(r.any (same c)) && fresh r
def properB (l : List Conf) : Bool := decide (l.length ≤ 200) && (l.all okC && fresh l)
def repAt (x y a b : Str) (i : Nat) : Bool := decide (i + a.length ≤ x.length) && ((x.drop i).take a.length == a && x.take i ++ b ++ x.drop (i + a.length) == y)
def repB (x y a b : Str) : Bool := (List.range (x.length + 1)).any (repAt x y a b)
def hitB (x y : Str) (c : Conf) : Bool := repB x y c.1 c.2 || repB x y c.2 c.1
def soundsB (l : List Conf) (x y : Str) : Bool := x == y || l.any (hitB x y)
def heardB (s : Str) : Bool := lettersB s 1 12
def alikeB (l : List Conf) (x y : Str) : Bool := properB l && (heardB x && (heardB y && soundsB l x y))
def rising : List Str → Bool
  | [] => true
  | [_] => true
  | a :: b :: r => Op.bytesLess a b && rising (b :: r)
def validB (lang : Str) (ws : List Str) : Bool := Lx.nameB lang && (decide (1 ≤ ws.length) && (decide (ws.length ≤ 4096) && (ws.all (fun s => lettersB s 3 8) && rising ws)))
def nearL (ws : List Str) (c : List Conf) (x : Str) (n : Nat) : List Int := ((List.range n).filter fun i => soundsB c (ws.getD i []) x).map Int.ofNat
def nearB (lang : Str) (ws : List Str) (c : List Conf) (x : Str) : List Int × Int :=
  if validB lang ws && (properB c && heardB x) then (nearL ws c x ws.length, 0) else ([], 1)

/-! the words that sound like a word, in the order in which the program comes by them -/
def cutRep (w : Str) (i : Nat) (p : Conf) : List Str := if p.1.isPrefixOf (w.drop i) then [w.take i ++ p.2 ++ (w.drop i).drop p.1.length] else []
def wayL (w : Str) (i : Nat) (c : Conf) : List Str := cutRep w i c ++ cutRep w i (flip c)
def atL (l : List Conf) (w : Str) (i : Nat) : List Str := l.flatMap (wayL w i)
def restL (l : List Conf) (w : Str) : Nat → Nat → List Str
  | 0, _ => []
  | f + 1, i => atL l w i ++ restL l w f (i + 1)
def alikeL (l : List Conf) (w : Str) : List Str := w :: restL l w w.length 0

theorem flip_flip (c : Conf) : flip (flip c) = c := rfl
theorem flip_inj {c d : Conf} (h : flip c = flip d) : c = d := by
  have := congrArg flip h
  rwa [flip_flip, flip_flip] at this
theorem same_iff {c d : Conf} : same c d = true ↔ c = d ∨ c = flip d := by
  unfold same
  rw [Bool.or_eq_true, beq_iff_eq, beq_iff_eq]
theorem same_symm (c d : Conf) : same c d = same d c := by
  rw [Bool.eq_iff_iff, same_iff, same_iff]
  constructor
  · rintro (h | h)
    · exact .inl h.symm
    · exact .inr (by rw [h, flip_flip])
  · rintro (h | h)
    · exact .inl h.symm
    · exact .inr (by rw [h, flip_flip])
theorem same_flip_left (c d : Conf) : same (flip c) d = same c d := by
  rw [Bool.eq_iff_iff, same_iff, same_iff]
  constructor
  · rintro (h | h)
    · exact .inr (by rw [← h, flip_flip])
    · exact .inl (flip_inj h)
  · rintro (h | h)
    · exact .inr (by rw [h])
    · exact .inl (by rw [h, flip_flip])
theorem same_flip_right (c d : Conf) : same c (flip d) = same c d := by rw [same_symm, same_flip_left, same_symm]
theorem fresh_snoc (l : List Conf) (c : Conf) : fresh (l ++ [c]) = (fresh l && !(l.any (same c))) := by
  induction l with
  | nil => rfl
  | cons d l ih =>
    have h1 : (d :: l).any (same c) = (same c d || l.any (same c)) := rfl
    have h2 : (l ++ [c]).any (same d) = (l.any (same d) || same c d) := by
      rw [List.any_append, show [c].any (same d) = (same d c || false) from rfl, Bool.or_false, same_symm d c]
    rw [List.cons_append, fresh, ih, fresh, h1, h2]
    cases l.any (same d) <;> cases fresh l <;> cases same c d <;> cases l.any (same c) <;> rfl
theorem fresh_take (l : List Conf) (h : fresh l = true) : ∀ n, fresh (l.take n) = true := by
  induction l with
  | nil => intro n; rw [List.take_nil]; rfl
  | cons c l ih =>
    intro n
    cases n with
    | zero => rfl
    | succ n =>
      rw [fresh, Bool.and_eq_true] at h
      rw [List.take_succ_cons, fresh, ih h.2, Bool.and_true]
      rw [Bool.not_eq_true'] at h ⊢
      rw [← Bool.not_eq_true, List.any_eq_true] at h ⊢
      rintro ⟨x, hx, hs⟩
      exact h.1 ⟨x, List.mem_of_mem_take hx, hs⟩
theorem proper_take (l : List Conf) (h : properB l = true) (n : Nat) : properB (l.take n) = true := by
  unfold properB at *
  rw [Bool.and_eq_true, Bool.and_eq_true, decide_eq_true_eq] at *
  refine ⟨by rw [List.length_take]; omega, ?_, fresh_take l h.2.2 n⟩
  rw [List.all_eq_true] at *
  exact fun x hx => h.2.1 x (List.mem_of_mem_take hx)
theorem any_rev (l : List Conf) (p : Conf → Bool) : l.reverse.any p = l.any p := by rw [List.any_reverse]
theorem fresh_reverse (l : List Conf) : fresh l.reverse = fresh l := by
  induction l with
  | nil => rfl
  | cons c l ih =>
    rw [List.reverse_cons, fresh_snoc, ih, any_rev, fresh]
    cases fresh l <;> simp
/-- some of the confusions turned -/
def Turned : List Conf → List Conf → Prop
  | [], [] => True
  | c :: l, d :: m => (d = c ∨ d = flip c) ∧ Turned l m
  | _, _ => False
theorem okC_flip (c : Conf) : okC (flip c) = okC c := by
  unfold okC flip
  simp only []
  rw [show (c.2 == c.1) = (c.1 == c.2) from Bool.beq_comm]
  cases lettersB c.1 1 3 <;> cases lettersB c.2 1 3 <;> rfl
theorem Turned.any {p : Conf → Bool} (hp : ∀ c, p (flip c) = p c) : ∀ {l m : List Conf}, Turned l m → m.any p = l.any p
  | [], [], _ => rfl
  | c :: l, d :: m, h => by
    rw [List.any_cons, List.any_cons, Turned.any hp h.2]
    rcases h.1 with rfl | rfl
    · rfl
    · rw [hp]
theorem Turned.all {p : Conf → Bool} (hp : ∀ c, p (flip c) = p c) : ∀ {l m : List Conf}, Turned l m → m.all p = l.all p
  | [], [], _ => rfl
  | c :: l, d :: m, h => by
    rw [List.all_cons, List.all_cons, Turned.all hp h.2]
    rcases h.1 with rfl | rfl
    · rfl
    · rw [hp]
theorem Turned.fresh : ∀ {l m : List Conf}, Turned l m → fresh m = fresh l
  | [], [], _ => rfl
  | c :: l, d :: m, h => by
    have h1 : m.any (same d) = l.any (same c) := by
      rw [Turned.any (p := same d) (fun x => same_flip_right d x) h.2]
      rcases h.1 with rfl | rfl
      · rfl
      · rw [show same (flip c) = same c from funext fun x => same_flip_left c x]
    rw [Snd.fresh, Snd.fresh, h1, Turned.fresh h.2]
theorem Turned.len : ∀ {l m : List Conf}, Turned l m → m.length = l.length
  | [], [], _ => rfl
  | c :: l, d :: m, h => by rw [List.length_cons, List.length_cons, Turned.len h.2]
theorem Turned.snoc : ∀ {l m : List Conf} {c d : Conf}, Turned l m → (d = c ∨ d = flip c) → Turned (l ++ [c]) (m ++ [d])
  | [], [], c, d, _, h => ⟨h, trivial⟩
  | a :: l, b :: m, c, d, h, h' => ⟨h.1, Turned.snoc h.2 h'⟩
theorem Turned.proper {l m : List Conf} (h : Turned l m) : properB m = properB l := by
  unfold properB
  rw [h.len, h.fresh, Turned.all okC_flip h]
theorem proper_reverse (l : List Conf) : properB l.reverse = properB l := by
  unfold properB
  rw [List.length_reverse, List.all_reverse, fresh_reverse]

/-- one text is the other one, with b in place of an a -/
def Rep (x y a b : Str) : Prop := ∃ u v, x = u ++ a ++ v ∧ y = u ++ b ++ v
theorem Rep.symm {x y a b : Str} (h : Rep x y a b) : Rep y x b a := by
  obtain ⟨u, v, h1, h2⟩ := h
  exact ⟨u, v, h2, h1⟩
theorem rep_iff {x y a b : Str} : repB x y a b = true ↔ Rep x y a b := by
  unfold repB
  rw [List.any_eq_true]
  constructor
  · rintro ⟨i, _, h⟩
    unfold repAt at h
    rw [Bool.and_eq_true, Bool.and_eq_true, decide_eq_true_eq, beq_iff_eq, beq_iff_eq] at h
    obtain ⟨hi, ha, hy⟩ := h
    refine ⟨x.take i, x.drop (i + a.length), ?_, hy.symm⟩
    conv => lhs; rw [← List.take_append_drop i x, ← List.take_append_drop a.length (x.drop i), ha, List.drop_drop]
    rw [List.append_assoc]
  · rintro ⟨u, v, rfl, rfl⟩
    refine ⟨u.length, List.mem_range.2 (by simp; omega), ?_⟩
    unfold repAt
    rw [Bool.and_eq_true, Bool.and_eq_true, decide_eq_true_eq, beq_iff_eq, beq_iff_eq]
    refine ⟨by simp, ?_, ?_⟩
    · rw [List.append_assoc, List.drop_left, List.take_left]
    · rw [List.append_assoc u a v, List.take_left, ← List.drop_drop, List.drop_left, List.drop_left]
theorem hit_iff {x y : Str} {c : Conf} : hitB x y c = true ↔ Rep x y c.1 c.2 ∨ Rep x y c.2 c.1 := by
  unfold hitB
  rw [Bool.or_eq_true, rep_iff, rep_iff]
theorem hit_flip (x y : Str) (c : Conf) : hitB x y (flip c) = hitB x y c := by
  unfold hitB flip
  exact Bool.or_comm _ _
theorem hit_symm (x y : Str) (c : Conf) : hitB x y c = hitB y x c := by
  rw [Bool.eq_iff_iff, hit_iff, hit_iff]
  exact ⟨fun h => h.elim (fun h => .inr h.symm) (fun h => .inl h.symm), fun h => h.elim (fun h => .inr h.symm) (fun h => .inl h.symm)⟩
theorem sounds_iff {l : List Conf} {x y : Str} : soundsB l x y = true ↔ x = y ∨ ∃ c ∈ l, Rep x y c.1 c.2 ∨ Rep x y c.2 c.1 := by
  unfold soundsB
  rw [Bool.or_eq_true, beq_iff_eq, List.any_eq_true]
  constructor
  · rintro (h | ⟨c, hc, h⟩)
    · exact .inl h
    · exact .inr ⟨c, hc, hit_iff.1 h⟩
  · rintro (h | ⟨c, hc, h⟩)
    · exact .inl h
    · exact .inr ⟨c, hc, hit_iff.2 h⟩
theorem sounds_symm (l : List Conf) (x y : Str) : soundsB l x y = soundsB l y x := by
  unfold soundsB
  rw [show (x == y) = (y == x) from Bool.beq_comm, show hitB x y = hitB y x from funext fun c => hit_symm x y c]
theorem sounds_self (l : List Conf) (x : Str) : soundsB l x x = true := by unfold soundsB; rw [beq_self_eq_true, Bool.true_or]
theorem sounds_mono {l m : List Conf} (h : ∀ c ∈ l, c ∈ m) {x y : Str} (hs : soundsB l x y = true) : soundsB m x y = true := by
  rw [sounds_iff] at *
  rcases hs with hs | ⟨c, hc, hs⟩
  · exact .inl hs
  · exact .inr ⟨c, h c hc, hs⟩
theorem sounds_turned {l m : List Conf} (h : Turned l m) (x y : Str) : soundsB m x y = soundsB l x y := by
  unfold soundsB
  rw [Turned.any (hit_flip x y) h]
theorem sounds_reverse (l : List Conf) (x y : Str) : soundsB l.reverse x y = soundsB l x y := by
  unfold soundsB
  rw [any_rev]
theorem alike_turned_reverse {l m : List Conf} (h : Turned l.reverse m) (x y : Str) : alikeB m x y = alikeB l x y := by
  unfold alikeB
  rw [sounds_turned h, sounds_reverse, h.proper, proper_reverse]
theorem proper_turned_reverse {l m : List Conf} (h : Turned l.reverse m) : properB m = properB l := by rw [h.proper, proper_reverse]
theorem alike_symm (l : List Conf) (x y : Str) : alikeB l x y = alikeB l y x := by
  unfold alikeB
  rw [sounds_symm]
  cases properB l <;> cases heardB x <;> cases heardB y <;> rfl
theorem alike_self (l : List Conf) (h : properB l = true) (x : Str) : alikeB l x x = heardB x := by
  unfold alikeB
  rw [h, sounds_self]
  cases heardB x <;> rfl
theorem okC_len {c : Conf} (h : okC c = true) : (1 ≤ c.1.length ∧ c.1.length ≤ 3) ∧ (1 ≤ c.2.length ∧ c.2.length ≤ 3) ∧ c.1 ≠ c.2 := by
  unfold okC lettersB at h
  simp only [Bool.and_eq_true, decide_eq_true_eq, Bool.not_eq_true', beq_eq_false_iff_ne] at h
  obtain ⟨⟨_, h1, h2⟩, ⟨_, h3, h4⟩, h5⟩ := h
  exact ⟨⟨by omega, by omega⟩, ⟨by omega, by omega⟩, h5⟩
theorem proper_len {l : List Conf} (h : properB l = true) : ∀ c ∈ l, (1 ≤ c.1.length ∧ c.1.length ≤ 3) ∧ (1 ≤ c.2.length ∧ c.2.length ≤ 3) ∧ c.1 ≠ c.2 := by
  unfold properB at h
  simp only [Bool.and_eq_true, List.all_eq_true] at h
  exact fun c hc => okC_len (h.2.1 c hc)
theorem alike_out {l : List Conf} {x y : Str} (h : alikeB l x y = true) : properB l = true ∧ heardB x = true ∧ heardB y = true ∧ soundsB l x y = true := by
  unfold alikeB at h
  simp only [Bool.and_eq_true] at h
  exact h
theorem alike_near {l : List Conf} {x y : Str} (h : alikeB l x y = true) : heardB x = true ∧ heardB y = true ∧ x.length ≤ y.length + 2 ∧ y.length ≤ x.length + 2 := by
  obtain ⟨hp, hx, hy, hs⟩ := alike_out h
  refine ⟨hx, hy, ?_⟩
  rcases sounds_iff.1 hs with rfl | ⟨c, hc, hr⟩
  · omega
  · obtain ⟨h1, h2, _⟩ := proper_len hp c hc
    rcases hr with ⟨u, v, rfl, rfl⟩ | ⟨u, v, rfl, rfl⟩ <;> simp only [List.length_append] <;> omega
theorem alike_made {l : List Conf} (hp : properB l = true) {c : Conf} (hc : c ∈ l) (u v : Str) : alikeB l (u ++ c.1 ++ v) (u ++ c.2 ++ v) = (heardB (u ++ c.1 ++ v) && heardB (u ++ c.2 ++ v)) := by
  unfold alikeB
  rw [hp, sounds_iff.2 (.inr ⟨c, hc, .inl ⟨u, v, rfl, rfl⟩⟩)]
  cases heardB (u ++ c.1 ++ v) <;> cases heardB (u ++ c.2 ++ v) <;> rfl
theorem proper_nil : properB [] = true := rfl
theorem alike_nil (x y : Str) : alikeB [] x y = (x == y && heardB x) := by
  unfold alikeB soundsB
  rw [proper_nil]
  by_cases h : x = y
  · subst h; rw [beq_self_eq_true]; cases heardB x <;> rfl
  · rw [beq_eq_false_iff_ne.2 h]; cases heardB x <;> cases heardB y <;> rfl

/-! what the program goes through -/
theorem mem_cutRep {w y : Str} {i : Nat} {p : Conf} (hi : i ≤ w.length) : y ∈ cutRep w i p ↔ ∃ v, w = w.take i ++ p.1 ++ v ∧ y = w.take i ++ p.2 ++ v := by
  unfold cutRep
  constructor
  · intro h
    split at h
    · rename_i hp
      rw [List.isPrefixOf_iff_prefix] at hp
      obtain ⟨v, hv⟩ := hp
      have hy := List.mem_singleton.1 h
      refine ⟨v, ?_, ?_⟩
      · rw [List.append_assoc, hv, List.take_append_drop]
      · rw [hy, ← hv, List.drop_left]
    · cases h
  · rintro ⟨v, hw, hy⟩
    have hd : w.drop i = p.1 ++ v := by
      have := congrArg (List.drop i) hw
      rw [this, List.append_assoc, List.drop_append_of_le_length (by rw [List.length_take]; omega), List.drop_eq_nil_of_le (by rw [List.length_take]; omega), List.nil_append]
    rw [if_pos (by rw [List.isPrefixOf_iff_prefix, hd]; exact List.prefix_append _ _), hd, List.drop_left]
    exact List.mem_singleton.2 hy
theorem mem_restL {l : List Conf} {w y : Str} : ∀ (f i : Nat), y ∈ restL l w f i ↔ ∃ k, i ≤ k ∧ k < i + f ∧ y ∈ atL l w k := by
  intro f
  induction f with
  | zero =>
    intro i
    constructor
    · intro h; cases h
    · rintro ⟨k, h1, h2, _⟩; omega
  | succ f ih =>
    intro i
    rw [restL, List.mem_append, ih]
    constructor
    · rintro (h | ⟨k, h1, h2, h3⟩)
      · exact ⟨i, by omega, by omega, h⟩
      · exact ⟨k, by omega, by omega, h3⟩
    · rintro ⟨k, h1, h2, h3⟩
      by_cases h : k = i
      · subst h; exact .inl h3
      · exact .inr ⟨k, by omega, by omega, h3⟩
theorem mem_alikeL {l : List Conf} (hl : properB l = true) {w y : Str} : y ∈ alikeL l w ↔ soundsB l w y = true := by
  have hlen := proper_len hl
  unfold alikeL
  rw [List.mem_cons, sounds_iff, mem_restL]
  have key : ∀ c ∈ l, ∀ p : Conf, (p = c ∨ p = flip c) → Rep w y p.1 p.2 → ∃ k, 0 ≤ k ∧ k < 0 + w.length ∧ y ∈ atL l w k := by
    intro c hc p hp hr
    obtain ⟨u, v, h1, h2⟩ := hr
    have hl1 : 1 ≤ p.1.length := by
      obtain ⟨a, b, _⟩ := hlen c hc
      rcases hp with rfl | rfl
      · exact a.1
      · exact b.1
    have hw : w.length = u.length + p.1.length + v.length := by rw [h1]; simp; omega
    refine ⟨u.length, by omega, by omega, ?_⟩
    unfold atL
    rw [List.mem_flatMap]
    refine ⟨c, hc, ?_⟩
    have ht : w.take u.length = u := by rw [h1, List.append_assoc, List.take_left]
    have : y ∈ cutRep w u.length p := (mem_cutRep (by omega)).2 ⟨v, by rw [ht]; exact h1, by rw [ht]; exact h2⟩
    unfold wayL
    rw [List.mem_append]
    rcases hp with rfl | rfl
    · exact .inl this
    · exact .inr this
  constructor
  · rintro (h | ⟨k, _, h2, h3⟩)
    · exact .inl h.symm
    · right
      unfold atL at h3
      rw [List.mem_flatMap] at h3
      obtain ⟨c, hc, h3⟩ := h3
      refine ⟨c, hc, ?_⟩
      unfold wayL at h3
      rw [List.mem_append] at h3
      rcases h3 with h3 | h3
      · obtain ⟨v, hv, hy⟩ := (mem_cutRep (by omega)).1 h3
        exact .inl ⟨_, v, hv, hy⟩
      · obtain ⟨v, hv, hy⟩ := (mem_cutRep (by omega)).1 h3
        exact .inr ⟨_, v, hv, hy⟩
  · rintro (h | ⟨c, hc, h⟩)
    · exact .inl h.symm
    · right
      rcases h with h | h
      · exact key c hc c (.inl rfl) h
      · exact key c hc (flip c) (.inr rfl) h
end Snd
end Go.Proofs.YtgjdbnkeamjhhaaDoor

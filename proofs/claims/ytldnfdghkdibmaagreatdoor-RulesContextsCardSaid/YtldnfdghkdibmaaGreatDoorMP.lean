/-
  Several texts in one: SoSpec, SoStep, RuSpec, LexLaw, AlName, AlLaw, AlLaw2, AlLaw3, AlLaw4, RuReach, LexLaw2, RuParse, RuText, RuLaws.
-/
import Derived.Test.YtldnfdghkdibmaaGreatDoorLexSpec
import Derived.Test.YtldnfdghkdibmaaGreatDoorAlSpec
/-
  Layer 40 in plain Lean: letters, word lists, confusions, which words sound alike. No program in sight.
-/
set_option linter.unusedVariables false
namespace Go.Proofs.YtldnfdghkdibmaaGreatDoor
namespace Snd
abbrev Str := List UInt8
abbrev Conf := Str × Str
def letB (c : UInt8) : Bool := decide (97 ≤ c.toNat) && decide (c.toNat ≤ 122)
def lettersB (s : Str) (lo hi : Int) : Bool := s.all letB && (decide (lo ≤ (s.length : Int)) && decide ((s.length : Int) ≤ hi))
def flip (c : Conf) : Conf := (c.2, c.1)
def okC (c : Conf) : Bool := lettersB c.1 1 3 && (lettersB c.2 1 3 && !(c.1 == c.2))
def same (c d : Conf) : Bool := c == d || c == flip d
def fresh : List Conf → Bool
  | [] => true
  | c :: r => !(r.any (same c)) && fresh r
def properB (l : List Conf) : Bool := decide (l.length ≤ 200) && (l.all okC && fresh l)
def repAt (x y a b : Str) (i : Nat) : Bool := decide (i + a.length ≤ x.length) && ((x.drop i).take a.length == a && x.take i ++ b ++ x.drop (i + a.length) == y)
def repB (x y a b : Str) : Bool := (List.range (x.length + 1)).any (repAt x y a b)
def hitB (x y : Str) (c : Conf) : Bool := repB x y c.1 c.2 || repB x y c.2 c.1
def soundsB (l : List Conf) (x y : Str) : Bool := x == y || l.any (hitB x y)
def heardB (s : Str) : Bool := lettersB s 1 12
def alikeB (l : List Conf) (x y : Str) : Bool := properB l && (heardB x && (heardB y && soundsB l x y))
def rising : List Str → Bool
  | [] => true
  | [_] => true
  | a :: b :: r => Op.bytesLess a b && rising (b :: r)
def validB (lang : Str) (ws : List Str) : Bool := Lx.nameB lang && (decide (1 ≤ ws.length) && (decide (ws.length ≤ 4096) && (ws.all (fun s => lettersB s 3 8) && rising ws)))
def nearL (ws : List Str) (c : List Conf) (x : Str) (n : Nat) : List Int := ((List.range n).filter fun i => soundsB c (ws.getD i []) x).map Int.ofNat
def nearB (lang : Str) (ws : List Str) (c : List Conf) (x : Str) : List Int × Int :=
  if validB lang ws && (properB c && heardB x) then (nearL ws c x ws.length, 0) else ([], 1)

/-! the words that sound like a word, in the order in which the program comes by them -/
def cutRep (w : Str) (i : Nat) (p : Conf) : List Str := if p.1.isPrefixOf (w.drop i) then [w.take i ++ p.2 ++ (w.drop i).drop p.1.length] else []
def wayL (w : Str) (i : Nat) (c : Conf) : List Str := cutRep w i c ++ cutRep w i (flip c)
def atL (l : List Conf) (w : Str) (i : Nat) : List Str := l.flatMap (wayL w i)
def restL (l : List Conf) (w : Str) : Nat → Nat → List Str
  | 0, _ => []
  | f + 1, i => atL l w i ++ restL l w f (i + 1)
def alikeL (l : List Conf) (w : Str) : List Str := w :: restL l w w.length 0

theorem flip_flip (c : Conf) : flip (flip c) = c := rfl
theorem flip_inj {c d : Conf} (h : flip c = flip d) : c = d := by
  have := congrArg flip h
  rwa [flip_flip, flip_flip] at this
theorem same_iff {c d : Conf} : same c d = true ↔ c = d ∨ c = flip d := by
  unfold same
  rw [Bool.or_eq_true, beq_iff_eq, beq_iff_eq]
theorem same_symm (c d : Conf) : same c d = same d c := by
  rw [Bool.eq_iff_iff, same_iff, same_iff]
  constructor
  · rintro (h | h)
    · exact .inl h.symm
    · exact .inr (by rw [h, flip_flip])
  · rintro (h | h)
    · exact .inl h.symm
    · exact .inr (by rw [h, flip_flip])
theorem same_flip_left (c d : Conf) : same (flip c) d = same c d := by
  rw [Bool.eq_iff_iff, same_iff, same_iff]
  constructor
  · rintro (h | h)
    · exact .inr (by rw [← h, flip_flip])
    · exact .inl (flip_inj h)
  · rintro (h | h)
    · exact .inr (by rw [h])
    · exact .inl (by rw [h, flip_flip])
theorem same_flip_right (c d : Conf) : same c (flip d) = same c d := by rw [same_symm, same_flip_left, same_symm]
theorem fresh_snoc (l : List Conf) (c : Conf) : fresh (l ++ [c]) = (fresh l && !(l.any (same c))) := by
  induction l with
  | nil => rfl
  | cons d l ih =>
    have h1 : (d :: l).any (same c) = (same c d || l.any (same c)) := rfl
    have h2 : (l ++ [c]).any (same d) = (l.any (same d) || same c d) := by
      rw [List.any_append, show [c].any (same d) = (same d c || false) from rfl, Bool.or_false, same_symm d c]
    rw [List.cons_append, fresh, ih, fresh, h1, h2]
    cases l.any (same d) <;> cases fresh l <;> cases same c d <;> cases l.any (same c) <;> rfl
theorem fresh_take (l : List Conf) (h : fresh l = true) : ∀ n, fresh (l.take n) = true := by
  induction l with
  | nil => intro n; rw [List.take_nil]; rfl
  | cons c l ih =>
    intro n
    cases n with
    | zero => rfl
    | succ n =>
      rw [fresh, Bool.and_eq_true] at h
      rw [List.take_succ_cons, fresh, ih h.2, Bool.and_true]
      rw [Bool.not_eq_true'] at h ⊢
      rw [← Bool.not_eq_true, List.any_eq_true] at h ⊢
      rintro ⟨x, hx, hs⟩
      exact h.1 ⟨x, List.mem_of_mem_take hx, hs⟩
theorem proper_take (l : List Conf) (h : properB l = true) (n : Nat) : properB (l.take n) = true := by
  unfold properB at *
  rw [Bool.and_eq_true, Bool.and_eq_true, decide_eq_true_eq] at *
  refine ⟨by rw [List.length_take]; omega, ?_, fresh_take l h.2.2 n⟩
  rw [List.all_eq_true] at *
  exact fun x hx => h.2.1 x (List.mem_of_mem_take hx)
theorem any_rev (l : List Conf) (p : Conf → Bool) : l.reverse.any p = l.any p := by rw [List.any_reverse]
theorem fresh_reverse (l : List Conf) : fresh l.reverse = fresh l := by
  induction l with
  | nil => rfl
  | cons c l ih =>
    rw [List.reverse_cons, fresh_snoc, ih, any_rev, fresh]
    cases fresh l <;> simp
/-- some of the confusions turned -/
def Turned : List Conf → List Conf → Prop
  | [], [] => True
  | c :: l, d :: m => (d = c ∨ d = flip c) ∧ Turned l m
  | _, _ => False
theorem okC_flip (c : Conf) : okC (flip c) = okC c := by
  unfold okC flip
  simp only []
  rw [show (c.2 == c.1) = (c.1 == c.2) from Bool.beq_comm]
  cases lettersB c.1 1 3 <;> cases lettersB c.2 1 3 <;> rfl
theorem Turned.any {p : Conf → Bool} (hp : ∀ c, p (flip c) = p c) : ∀ {l m : List Conf}, Turned l m → m.any p = l.any p
  | [], [], _ => rfl
  | c :: l, d :: m, h => by
    rw [List.any_cons, List.any_cons, Turned.any hp h.2]
    rcases h.1 with rfl | rfl
    · rfl
    · rw [hp]
theorem Turned.all {p : Conf → Bool} (hp : ∀ c, p (flip c) = p c) : ∀ {l m : List Conf}, Turned l m → m.all p = l.all p
  | [], [], _ => rfl
  | c :: l, d :: m, h => by
    rw [List.all_cons, List.all_cons, Turned.all hp h.2]
    rcases h.1 with rfl | rfl
    · rfl
    · rw [hp]
theorem Turned.fresh : ∀ {l m : List Conf}, Turned l m → fresh m = fresh l
  | [], [], _ => rfl
  | c :: l, d :: m, h => by
    have h1 : m.any (same d) = l.any (same c) := by
      rw [Turned.any (p := same d) (fun x => same_flip_right d x) h.2]
      rcases h.1 with rfl | rfl
      · rfl
      · rw [show same (flip c) = same c from funext fun x => same_flip_left c x]
    rw [Snd.fresh, Snd.fresh, h1, Turned.fresh h.2]
theorem Turned.len : ∀ {l m : List Conf}, Turned l m → m.length = l.length
  | [], [], _ => rfl
  | c :: l, d :: m, h => by rw [List.length_cons, List.length_cons, Turned.len h.2]
theorem Turned.snoc : ∀ {l m : List Conf} {c d : Conf}, Turned l m → (d = c ∨ d = flip c) → Turned (l ++ [c]) (m ++ [d])
  | [], [], c, d, _, h => ⟨h, trivial⟩
  | a :: l, b :: m, c, d, h, h' => ⟨h.1, Turned.snoc h.2 h'⟩
theorem Turned.proper {l m : List Conf} (h : Turned l m) : properB m = properB l := by
  unfold properB
  rw [h.len, h.fresh, Turned.all okC_flip h]
theorem proper_reverse (l : List Conf) : properB l.reverse = properB l := by
  unfold properB
  rw [List.length_reverse, List.all_reverse, fresh_reverse]

/-- one text is the other one, with b in place of an a -/
def Rep (x y a b : Str) : Prop := ∃ u v, x = u ++ a ++ v ∧ y = u ++ b ++ v
theorem Rep.symm {x y a b : Str} (h : Rep x y a b) : Rep y x b a := by
  obtain ⟨u, v, h1, h2⟩ := h
  exact ⟨u, v, h2, h1⟩
theorem rep_iff {x y a b : Str} : repB x y a b = true ↔ Rep x y a b := by
  unfold repB
  rw [List.any_eq_true]
  constructor
  · rintro ⟨i, _, h⟩
    unfold repAt at h
    rw [Bool.and_eq_true, Bool.and_eq_true, decide_eq_true_eq, beq_iff_eq, beq_iff_eq] at h
    obtain ⟨hi, ha, hy⟩ := h
    refine ⟨x.take i, x.drop (i + a.length), ?_, hy.symm⟩
    conv => lhs; rw [← List.take_append_drop i x, ← List.take_append_drop a.length (x.drop i), ha, List.drop_drop]
    rw [List.append_assoc]
  · rintro ⟨u, v, rfl, rfl⟩
    refine ⟨u.length, List.mem_range.2 (by simp; omega), ?_⟩
    unfold repAt
    rw [Bool.and_eq_true, Bool.and_eq_true, decide_eq_true_eq, beq_iff_eq, beq_iff_eq]
    refine ⟨by simp, ?_, ?_⟩
    · rw [List.append_assoc, List.drop_left, List.take_left]
    · rw [List.append_assoc u a v, List.take_left, ← List.drop_drop, List.drop_left, List.drop_left]
theorem hit_iff {x y : Str} {c : Conf} : hitB x y c = true ↔ Rep x y c.1 c.2 ∨ Rep x y c.2 c.1 := by
  unfold hitB
  rw [Bool.or_eq_true, rep_iff, rep_iff]
theorem hit_flip (x y : Str) (c : Conf) : hitB x y (flip c) = hitB x y c := by
  unfold hitB flip
  exact Bool.or_comm _ _
theorem hit_symm (x y : Str) (c : Conf) : hitB x y c = hitB y x c := by
  rw [Bool.eq_iff_iff, hit_iff, hit_iff]
  exact ⟨fun h => h.elim (fun h => .inr h.symm) (fun h => .inl h.symm), fun h => h.elim (fun h => .inr h.symm) (fun h => .inl h.symm)⟩
theorem sounds_iff {l : List Conf} {x y : Str} : soundsB l x y = true ↔ x = y ∨ ∃ c ∈ l, Rep x y c.1 c.2 ∨ Rep x y c.2 c.1 := by
  unfold soundsB
  rw [Bool.or_eq_true, beq_iff_eq, List.any_eq_true]
  constructor
  · rintro (h | ⟨c, hc, h⟩)
    · exact .inl h
    · exact .inr ⟨c, hc, hit_iff.1 h⟩
  · rintro (h | ⟨c, hc, h⟩)
    · exact .inl h
    · exact .inr ⟨c, hc, hit_iff.2 h⟩
theorem sounds_symm (l : List Conf) (x y : Str) : soundsB l x y = soundsB l y x := by
  unfold soundsB
  rw [show (x == y) = (y == x) from Bool.beq_comm, show hitB x y = hitB y x from funext fun c => hit_symm x y c]
theorem sounds_self (l : List Conf) (x : Str) : soundsB l x x = true := by unfold soundsB; rw [beq_self_eq_true, Bool.true_or]
theorem sounds_mono {l m : List Conf} (h : ∀ c ∈ l, c ∈ m) {x y : Str} (hs : soundsB l x y = true) : soundsB m x y = true := by
  rw [sounds_iff] at *
  rcases hs with hs | ⟨c, hc, hs⟩
  · exact .inl hs
  · exact .inr ⟨c, h c hc, hs⟩
theorem sounds_turned {l m : List Conf} (h : Turned l m) (x y : Str) : soundsB m x y = soundsB l x y := by
  unfold soundsB
  rw [Turned.any (hit_flip x y) h]
theorem sounds_reverse (l : List Conf) (x y : Str) : soundsB l.reverse x y = soundsB l x y := by
  unfold soundsB
  rw [any_rev]
theorem alike_turned_reverse {l m : List Conf} (h : Turned l.reverse m) (x y : Str) : alikeB m x y = alikeB l x y := by
  unfold alikeB
  rw [sounds_turned h, sounds_reverse, h.proper, proper_reverse]
theorem proper_turned_reverse {l m : List Conf} (h : Turned l.reverse m) : properB m = properB l := by rw [h.proper, proper_reverse]
theorem alike_symm (l : List Conf) (x y : Str) : alikeB l x y = alikeB l y x := by
  unfold alikeB
  rw [sounds_symm]
  cases properB l <;> cases heardB x <;> cases heardB y <;> rfl
theorem alike_self (l : List Conf) (h : properB l = true) (x : Str) : alikeB l x x = heardB x := by
  unfold alikeB
  rw [h, sounds_self]
  cases heardB x <;> rfl
theorem okC_len {c : Conf} (h : okC c = true) : (1 ≤ c.1.length ∧ c.1.length ≤ 3) ∧ (1 ≤ c.2.length ∧ c.2.length ≤ 3) ∧ c.1 ≠ c.2 := by
  unfold okC lettersB at h
  simp only [Bool.and_eq_true, decide_eq_true_eq, Bool.not_eq_true', beq_eq_false_iff_ne] at h
  obtain ⟨⟨_, h1, h2⟩, ⟨_, h3, h4⟩, h5⟩ := h
  exact ⟨⟨by omega, by omega⟩, ⟨by omega, by omega⟩, h5⟩
theorem proper_len {l : List Conf} (h : properB l = true) : ∀ c ∈ l, (1 ≤ c.1.length ∧ c.1.length ≤ 3) ∧ (1 ≤ c.2.length ∧ c.2.length ≤ 3) ∧ c.1 ≠ c.2 := by
  unfold properB at h
  simp only [Bool.and_eq_true, List.all_eq_true] at h
  exact fun c hc => okC_len (h.2.1 c hc)
theorem alike_out {l : List Conf} {x y : Str} (h : alikeB l x y = true) : properB l = true ∧ heardB x = true ∧ heardB y = true ∧ soundsB l x y = true := by
  unfold alikeB at h
  simp only [Bool.and_eq_true] at h
  exact h
theorem alike_near {l : List Conf} {x y : Str} (h : alikeB l x y = true) : heardB x = true ∧ heardB y = true ∧ x.length ≤ y.length + 2 ∧ y.length ≤ x.length + 2 := by
  obtain ⟨hp, hx, hy, hs⟩ := alike_out h
  refine ⟨hx, hy, ?_⟩
  rcases sounds_iff.1 hs with rfl | ⟨c, hc, hr⟩
  · omega
  · obtain ⟨h1, h2, _⟩ := proper_len hp c hc
    rcases hr with ⟨u, v, rfl, rfl⟩ | ⟨u, v, rfl, rfl⟩ <;> simp only [List.length_append] <;> omega
theorem alike_made {l : List Conf} (hp : properB l = true) {c : Conf} (hc : c ∈ l) (u v : Str) : alikeB l (u ++ c.1 ++ v) (u ++ c.2 ++ v) = (heardB (u ++ c.1 ++ v) && heardB (u ++ c.2 ++ v)) := by
  unfold alikeB
  rw [hp, sounds_iff.2 (.inr ⟨c, hc, .inl ⟨u, v, rfl, rfl⟩⟩)]
  cases heardB (u ++ c.1 ++ v) <;> cases heardB (u ++ c.2 ++ v) <;> rfl
theorem proper_nil : properB [] = true := rfl
theorem alike_nil (x y : Str) : alikeB [] x y = (x == y && heardB x) := by
  unfold alikeB soundsB
  rw [proper_nil]
  by_cases h : x = y
  · subst h; rw [beq_self_eq_true]; cases heardB x <;> rfl
  · rw [beq_eq_false_iff_ne.2 h]; cases heardB x <;> cases heardB y <;> rfl

/-! what the program goes through -/
theorem mem_cutRep {w y : Str} {i : Nat} {p : Conf} (hi : i ≤ w.length) : y ∈ cutRep w i p ↔ ∃ v, w = w.take i ++ p.1 ++ v ∧ y = w.take i ++ p.2 ++ v := by
  unfold cutRep
  constructor
  · intro h
    split at h
    · rename_i hp
      rw [List.isPrefixOf_iff_prefix] at hp
      obtain ⟨v, hv⟩ := hp
      have hy := List.mem_singleton.1 h
      refine ⟨v, ?_, ?_⟩
      · rw [List.append_assoc, hv, List.take_append_drop]
      · rw [hy, ← hv, List.drop_left]
    · cases h
  · rintro ⟨v, hw, hy⟩
    have hd : w.drop i = p.1 ++ v := by
      have := congrArg (List.drop i) hw
      rw [this, List.append_assoc, List.drop_append_of_le_length (by rw [List.length_take]; omega), List.drop_eq_nil_of_le (by rw [List.length_take]; omega), List.nil_append]
    rw [if_pos (by rw [List.isPrefixOf_iff_prefix, hd]; exact List.prefix_append _ _), hd, List.drop_left]
    exact List.mem_singleton.2 hy
theorem mem_restL {l : List Conf} {w y : Str} : ∀ (f i : Nat), y ∈ restL l w f i ↔ ∃ k, i ≤ k ∧ k < i + f ∧ y ∈ atL l w k := by
  intro f
  induction f with
  | zero =>
    intro i
    constructor
    · intro h; cases h
    · rintro ⟨k, h1, h2, _⟩; omega
  | succ f ih =>
    intro i
    rw [restL, List.mem_append, ih]
    constructor
    · rintro (h | ⟨k, h1, h2, h3⟩)
      · exact ⟨i, by omega, by omega, h⟩
      · exact ⟨k, by omega, by omega, h3⟩
    · rintro ⟨k, h1, h2, h3⟩
      by_cases h : k = i
      · subst h; exact .inl h3
      · exact .inr ⟨k, by omega, by omega, h3⟩
theorem mem_alikeL {l : List Conf} (hl : properB l = true) {w y : Str} : y ∈ alikeL l w ↔ soundsB l w y = true := by
  have hlen := proper_len hl
  unfold alikeL
  rw [List.mem_cons, sounds_iff, mem_restL]
  have key : ∀ c ∈ l, ∀ p : Conf, (p = c ∨ p = flip c) → Rep w y p.1 p.2 → ∃ k, 0 ≤ k ∧ k < 0 + w.length ∧ y ∈ atL l w k := by
    intro c hc p hp hr
    obtain ⟨u, v, h1, h2⟩ := hr
    have hl1 : 1 ≤ p.1.length := by
      obtain ⟨a, b, _⟩ := hlen c hc
      rcases hp with rfl | rfl
      · exact a.1
      · exact b.1
    have hw : w.length = u.length + p.1.length + v.length := by rw [h1]; simp; omega
    refine ⟨u.length, by omega, by omega, ?_⟩
    unfold atL
    rw [List.mem_flatMap]
    refine ⟨c, hc, ?_⟩
    have ht : w.take u.length = u := by rw [h1, List.append_assoc, List.take_left]
    have : y ∈ cutRep w u.length p := (mem_cutRep (by omega)).2 ⟨v, by rw [ht]; exact h1, by rw [ht]; exact h2⟩
    unfold wayL
    rw [List.mem_append]
    rcases hp with rfl | rfl
    · exact .inl this
    · exact .inr this
  constructor
  · rintro (h | ⟨k, _, h2, h3⟩)
    · exact .inl h.symm
    · right
      unfold atL at h3
      rw [List.mem_flatMap] at h3
      obtain ⟨c, hc, h3⟩ := h3
      refine ⟨c, hc, ?_⟩
      unfold wayL at h3
      rw [List.mem_append] at h3
      rcases h3 with h3 | h3
      · obtain ⟨v, hv, hy⟩ := (mem_cutRep (by omega)).1 h3
        exact .inl ⟨_, v, hv, hy⟩
      · obtain ⟨v, hv, hy⟩ := (mem_cutRep (by omega)).1 h3
        exact .inr ⟨_, v, hv, hy⟩
  · rintro (h | ⟨c, hc, h⟩)
    · exact .inl h.symm
    · right
      rcases h with h | h
      · exact key c hc c (.inl rfl) h
      · exact key c hc (flip c) (.inr rfl) h
end Snd
end Go.Proofs.YtldnfdghkdibmaaGreatDoor

/-
  One step of each loop of layer 40, in plain Lean. No program in sight.
-/
set_option linter.unusedVariables false
namespace Go.Proofs.YtldnfdghkdibmaaGreatDoor
namespace Snd
theorem take_getD {α : Type} (l : List α) (d : α) (k : Nat) (h : k < l.length) : l.take (k + 1) = l.take k ++ [l.getD k d] := by
  rw [List.take_succ_eq_append_getElem h, List.getD_eq_getElem?_getD, List.getElem?_eq_getElem h]
  rfl
theorem mem_getD {α : Type} (l : List α) (d : α) (k : Nat) (h : k < l.length) : l.getD k d ∈ l := by
  rw [List.getD_eq_getElem?_getD, List.getElem?_eq_getElem h]
  exact List.getElem_mem h
theorem all_step {α : Type} (l : List α) (d : α) (p : α → Bool) (k : Nat) (h : k < l.length) : (l.take (k + 1)).all p = ((l.take k).all p && p (l.getD k d)) := by
  rw [take_getD l d k h, List.all_append, List.all_cons, List.all_nil, Bool.and_true]
theorem any_step {α : Type} (l : List α) (d : α) (p : α → Bool) (k : Nat) (h : k < l.length) : (l.take (k + 1)).any p = ((l.take k).any p || p (l.getD k d)) := by
  rw [take_getD l d k h, List.any_append, List.any_cons, List.any_nil, Bool.or_false]
theorem all_end {α : Type} (l : List α) (p : α → Bool) (k : Nat) (h : l.length ≤ k) : (l.take k).all p = l.all p := by rw [List.take_of_length_le h]
theorem all_no {α : Type} (l : List α) (d : α) (p : α → Bool) (k : Nat) (h : k < l.length) (hp : p (l.getD k d) = false) : l.all p = false := by
  rw [← Bool.not_eq_true, List.all_eq_true]
  intro ha
  have := ha _ (mem_getD l d k h)
  rw [hp] at this; cases this
theorem any_yes {α : Type} (l : List α) (d : α) (p : α → Bool) (k : Nat) (h : k < l.length) (hp : p (l.getD k d) = true) : l.any p = true :=
  List.any_eq_true.2 ⟨_, mem_getD l d k h, hp⟩
theorem rising_step : ∀ (ws : List Str) (k : Nat), k < ws.length → rising (ws.take (k + 1)) = (rising (ws.take k) && (k == 0 || Op.bytesLess (ws.getD (k - 1) []) (ws.getD k [])))
  | [], k, h => by cases h
  | [a], k, h => by
    obtain rfl : k = 0 := by simpa using h
    rfl
  | a :: b :: r, 0, h => rfl
  | a :: b :: r, 1, h => by
    show (Op.bytesLess a b && true) = (true && (false || Op.bytesLess a b))
    simp
  | a :: b :: r, k + 2, h => by
    have ih := rising_step (b :: r) (k + 1) (by simpa using h)
    have e1 : (a :: b :: r).take (k + 2 + 1) = a :: b :: r.take (k + 1) := rfl
    have e2 : (a :: b :: r).take (k + 2) = a :: b :: r.take k := rfl
    have e3 : (b :: r).take (k + 1 + 1) = b :: r.take (k + 1) := rfl
    have e4 : (b :: r).take (k + 1) = b :: r.take k := rfl
    rw [e3, e4] at ih
    rw [e1, e2, rising, rising, ih]
    have e5 : (a :: b :: r).getD (k + 2 - 1) [] = (b :: r).getD (k + 1 - 1) [] := rfl
    have e6 : (a :: b :: r).getD (k + 2) [] = (b :: r).getD (k + 1) [] := rfl
    rw [e5, e6, Bool.and_assoc]
    rfl
theorem rising_take : ∀ (ws : List Str) (k : Nat), rising ws = true → rising (ws.take k) = true := by
  intro ws k h
  rcases Nat.lt_or_ge k ws.length with hk | hk
  · have key : ∀ n, k + n ≤ ws.length → rising (ws.take (k + n)) = true → rising (ws.take k) = true := by
      intro n
      induction n with
      | zero => intro _ h; exact h
      | succ n ih =>
        intro hn h
        rw [← Nat.add_assoc, rising_step ws (k + n) (by omega), Bool.and_eq_true] at h
        exact ih (by omega) h.1
    refine key (ws.length - k) (by omega) ?_
    rw [List.take_of_length_le (by omega)]
    exact h
  · rw [List.take_of_length_le hk]; exact h
theorem rising_no (ws : List Str) (k : Nat) (hk : k < ws.length) (h0 : 0 < k) (h : Op.bytesLess (ws.getD (k - 1) []) (ws.getD k []) = false) : rising ws = false := by
  rw [← Bool.not_eq_true]
  intro hr
  have := rising_take ws (k + 1) hr
  rw [rising_step ws k hk, h, Bool.and_eq_true] at this
  have h1 : (k == 0) = false := by rw [beq_eq_false_iff_ne]; omega
  rw [h1] at this
  cases this.2
theorem fresh_step (l : List Conf) (d : Conf) (k : Nat) (h : k < l.length) : fresh (l.take (k + 1)) = (fresh (l.take k) && !((l.take k).any (same (l.getD k d)))) := by
  rw [take_getD l d k h, fresh_snoc]
theorem fresh_no (l : List Conf) (d : Conf) (k : Nat) (h : k < l.length) (ha : (l.take k).any (same (l.getD k d)) = true) : fresh l = false := by
  rw [← Bool.not_eq_true]
  intro hf
  have := fresh_take l hf (k + 1)
  rw [fresh_step l d k h, ha] at this
  simp at this
theorem same_val (c d : Conf) : same c d = ((c.1 == d.1 && c.2 == d.2) || (c.1 == d.2 && c.2 == d.1)) := by
  rw [Bool.eq_iff_iff, same_iff]
  simp only [Bool.or_eq_true, Bool.and_eq_true, beq_iff_eq]
  unfold flip
  constructor
  · rintro (rfl | rfl)
    · exact .inl ⟨rfl, rfl⟩
    · exact .inr ⟨rfl, rfl⟩
  · rintro (⟨h1, h2⟩ | ⟨h1, h2⟩)
    · exact .inl (Prod.ext h1 h2)
    · exact .inr (Prod.ext h1 h2)
theorem letB_nat (c : UInt8) : letB c = (!(decide ((c.toNat : Int) < 97)) && !(decide ((122 : Int) < c.toNat))) := by
  unfold letB
  rw [Bool.eq_iff_iff]
  simp only [Bool.and_eq_true, decide_eq_true_eq, Bool.not_eq_true', decide_eq_false_iff_not]
  omega
end Snd
end Go.Proofs.YtldnfdghkdibmaaGreatDoor

/-
  Layer 11 in plain Lean: rules, the places where they stand, the results of a word, the text of rules and how it is read. No program in sight.
-/
set_option linter.unusedVariables false
namespace Go.Proofs.YtldnfdghkdibmaaGreatDoor
namespace Rul
abbrev Str := List UInt8
/-- From, To, Next, End -/
abbrev Rule := Str × Str × Str × Bool
/-- From, To, List -/
abbrev Rules := Str × Str × List Rule
def plainB (s : Str) (lo hi : Int) : Bool := s.all Al.okByte && (decide (lo ≤ (s.length : Int)) && decide ((s.length : Int) ≤ hi))
def okRule (x : Rule) : Bool := plainB x.1 1 9 && (plainB x.2.1 0 9 && (plainB x.2.2.1 0 30 && !(x.2.2.2 && !(x.2.2.1 == []))))
def once : List Rule → Bool
  | [] => true
  | x :: r => !(r.any fun y => x == y) && once r
def formedB (r : Rules) : Bool := Lx.nameB r.1 && (Lx.nameB r.2.1 && (decide (1 ≤ r.2.2.length) && (decide (r.2.2.length ≤ 80) && (r.2.2.all okRule && once r.2.2))))
/-- the letters of a text, which may be empty -/
def readO (L : List Str) (s : Str) (most : Int) : List Int × Bool :=
  if s = [] then ([], true) else ((Al.readL L s).1, (Al.readL L s).2.1 == 0 && decide (((Al.readL L s).1.length : Int) ≤ most))
def okIn (from_ to : List Str) (x : Rule) : Bool := (readO from_ x.1 3).2 && ((readO from_ x.2.2.1 10).2 && (readO to x.2.1 3).2)
def validB (r : Rules) (from_ to : Al.Alph) : Bool :=
  formedB r && (Al.validB from_ && (Al.validB to && (r.1 == from_.name && (r.2.1 == to.name && r.2.2.all (okIn from_.letters to.letters)))))
/-- a rule with the letters of its From and of its Next -/
abbrev Opened := Rule × List Int × List Int
def openR (L : List Str) (x : Rule) : Opened := (x, (readO L x.1 3).1, (readO L x.2.2.1 10).1)
def standsB (x : Opened) (rest : List Int) : Bool :=
  decide (x.2.1.length ≤ rest.length) && (x.2.1 == rest.take x.2.1.length &&
    (if x.1.2.2.2 then x.2.1.length == rest.length else if x.2.2 = [] then true else decide (x.2.1.length < rest.length) && x.2.2.contains (rest.getD x.2.1.length 0)))
/-- the results for each number of first letters, as the rules go -/
abbrev Tab := Nat → List Str
def tab0 : Tab := fun n => if n = 0 then [[]] else []
def putT (T : Tab) (at_ : Nat) (l : List Str) : Tab := fun n => if n = at_ then T n ++ l else T n
def stepR (w : List Int) (k : Nat) (T : Tab) (x : Opened) : Tab := if standsB x (w.drop k) then putT T (k + x.2.1.length) ((T k).map (· ++ x.1.2.1)) else T
def stepK (rs : List Opened) (w : List Int) (T : Tab) (k : Nat) : Tab := rs.foldl (stepR w k) T
def tabs (rs : List Opened) (w : List Int) (k : Nat) : Tab := (List.range k).foldl (stepK rs w) tab0
/-- a text put into a strictly increasing list -/
def put (s : Str) : List Str → List Str
  | [] => [s]
  | a :: l => if Op.bytesLess s a then s :: a :: l else if s = a then a :: l else a :: put s l
def setOf (l : List Str) : List Str := l.foldl (fun acc s => put s acc) []
def tooMany (rs : List Opened) (w : List Int) (k : Nat) : Bool := decide (200 < (setOf (tabs rs w k k)).length)
def writeL (rs : List Opened) (w : List Int) : List Str × Int :=
  if (List.range (w.length + 1)).any (tooMany rs w) then ([], 2) else (setOf (tabs rs w w.length w.length), 0)
def writingsB (r : Rules) (from_ to : Al.Alph) (word : Str) : List Str × Int :=
  if validB r from_ to && (Al.readL from_.letters word).2.1 == 0 then writeL (r.2.2.map (openR from_.letters)) (Al.readL from_.letters word).1 else ([], 1)
/-! the text of rules -/
def quo (s : Str) : Str := [34] ++ s ++ [34]
def b_ (s : String) : Str := s.toUTF8.data.toList
def textR (x : Rule) : Str :=
  quo x.1 ++ [32, 116, 111, 32] ++ quo x.2.1 ++ (if x.2.2.2 then [32, 97, 116, 32, 101, 110, 100] else if x.2.2.1 = [] then [] else [32, 98, 101, 102, 111, 114, 101, 32] ++ quo x.2.2.1) ++ [59, 10]
def textL (r : Rules) : Str := [114, 117, 108, 101, 115, 32] ++ r.1 ++ [32, 116, 111, 32] ++ r.2.1 ++ [59, 10] ++ r.2.2.flatMap textR
def textB (r : Rules) : Str × Int := if formedB r then (textL r, 0) else ([], 1)
/-! reading rules -/
abbrev Res (α : Type) := Except (Int × Int) α
def take_ (end_ : Int) (kind : Int) (txt : Str) : List Lx.Tok → Res (Lx.Tok × List Lx.Tok)
  | [] => .error (6, end_)
  | t :: r => if t.kind = 0 then .error (6, end_) else if t.kind = kind ∧ (txt = [] ∨ t.text = txt) then .ok (t, r) else .error (5, t.pos)
def textP (end_ : Int) (lo hi : Int) (ts : List Lx.Tok) : Res (Str × List Lx.Tok) :=
  match take_ end_ 3 [] ts with
  | .ok (t, r) => if plainB t.text lo hi then .ok (t.text, r) else .error (1, t.pos)
  | .error e => .error e
end Rul
end Go.Proofs.YtldnfdghkdibmaaGreatDoor

/-
  The plain law of the lexer: its tokens as a relation, and what prefixes, suffixes and separators do to them. No program in sight.
-/
namespace Go.Proofs.YtldnfdghkdibmaaGreatDoor
namespace Lx

theorem span_cons' {p : UInt8 → Bool} {c : UInt8} {l : List UInt8} (h : p c = true) : span p (c :: l) = span p l + 1 := by simp [span, List.takeWhile_cons, h]
theorem span_stop' {p : UInt8 → Bool} {c : UInt8} {l : List UInt8} (h : p c = false) : span p (c :: l) = 0 := by simp [span, List.takeWhile_cons, h]

/-- the tokens of a text from an offset on -/
inductive LexOk : Nat → List UInt8 → List Tok → Prop
  | done (off : Nat) (l : List UInt8) (h : l.drop (gap l) = []) : LexOk off l []
  | tok (off : Nat) (l : List UInt8) (ts : List Tok) (h : l.drop (gap l) ≠ []) (he : (scan (l.drop (gap l))).err = 0)
      (hr : LexOk (off + gap l + (scan (l.drop (gap l))).width) (l.drop (gap l + (scan (l.drop (gap l))).width)) ts) : LexOk off l ((scan (l.drop (gap l))).tok (off + gap l) :: ts)
/-- the error of a text from an offset on, and its offset -/
inductive LexErr : Nat → List UInt8 → Int → Nat → Prop
  | here (off : Nat) (l : List UInt8) (h : l.drop (gap l) ≠ []) (he : (scan (l.drop (gap l))).err ≠ 0) : LexErr off l (scan (l.drop (gap l))).err (off + gap l)
  | later (off : Nat) (l : List UInt8) (e : Int) (a : Nat) (h : l.drop (gap l) ≠ []) (he : (scan (l.drop (gap l))).err = 0)
      (hr : LexErr (off + gap l + (scan (l.drop (gap l))).width) (l.drop (gap l + (scan (l.drop (gap l))).width)) e a) : LexErr off l e a

theorem LexOk.det {off : Nat} {l : List UInt8} {ts ts' : List Tok} (h : LexOk off l ts) (h' : LexOk off l ts') : ts = ts' := by
  induction h generalizing ts' with
  | done off l h => cases h' with
    | done => rfl
    | tok _ _ _ h2 => exact absurd h h2
  | tok off l ts h he hr ih => cases h' with
    | done _ _ h2 => exact absurd h2 h
    | tok _ _ ts2 h2 he2 hr2 => rw [ih hr2]
theorem LexOk.not_err {off : Nat} {l : List UInt8} {ts : List Tok} (h : LexOk off l ts) {e : Int} {a : Nat} (h' : LexErr off l e a) : False := by
  induction h with
  | done off l h => cases h' with
    | here _ _ h2 => exact h2 h
    | later _ _ _ _ h2 => exact h2 h
  | tok off l ts h he hr ih => cases h' with
    | here _ _ h2 he2 => exact he2 he
    | later _ _ _ _ h2 he2 hr2 => exact ih hr2
theorem LexErr.det {off : Nat} {l : List UInt8} {e e' : Int} {a a' : Nat} (h : LexErr off l e a) (h' : LexErr off l e' a') : e = e' ∧ a = a' := by
  induction h with
  | here off l h he => cases h' with
    | here => exact ⟨rfl, rfl⟩
    | later _ _ _ _ h2 he2 => exact absurd he2 he
  | later off l e a h he hr ih => cases h' with
    | here _ _ h2 he2 => exact absurd he he2
    | later _ _ _ _ h2 he2 hr2 => exact ih hr2
theorem LexErr.ne {off : Nat} {l : List UInt8} {e : Int} {a : Nat} (h : LexErr off l e a) : e ≠ 0 := by
  induction h with
  | here off l h he => exact he
  | later off l e a h he hr ih => exact ih

theorem gap_idem (l : List UInt8) : gap (l.drop (gap l)) = 0 := by
  have H : ∀ (l : List UInt8) (b : Bool), gap (l.drop (gapc b l)) = 0 := by
    intro l
    induction l with
    | nil => intro b; cases b <;> rfl
    | cons c r ih =>
      intro b
      cases b
      · simp only [gapc]
        split
        · exact ih false
        · split
          · exact ih true
          · rename_i h1 h2
            have h1' : isBlank c = false := by simpa using h1
            have h2' : (c == 35) = false := by simpa using h2
            simp only [List.drop_zero, gap, gapc, h1', h2', Bool.false_eq_true, if_false]
      · simp only [gapc]
        split
        · exact ih false
        · exact ih true
  exact H l false

theorem width_pos {l : List UInt8} (h : (scan l).err = 0) : 1 ≤ (scan l).width := (scan_width l h).1
theorem width_le {l : List UInt8} (h : (scan l).err = 0) : (scan l).width ≤ l.length := (scan_width l h).2

/-- the loop's function, and the relation -/
theorem lexAt_spec (f : Nat) : ∀ (out : List Tok) (off : Nat) (l : List UInt8), gap l = 0 → l.length < f → out.length + l.length ≤ 5000 →
    (∃ ts, LexOk off l ts ∧ lexAt f out off l = (out ++ ts, 0, 0)) ∨ (∃ e a, LexErr off l e a ∧ lexAt f out off l = ([], e, (a : Int))) := by
  induction f with
  | zero => intro out off l _ h; omega
  | succ f ih =>
    intro out off l hg hf ho
    cases l with
    | nil => exact .inl ⟨[], .done _ _ (by simp), by rw [lexAt_nil]; simp⟩
    | cons c r =>
      have hd : (c :: r).drop (gap (c :: r)) = c :: r := by rw [hg]; rfl
      by_cases he : (scan (c :: r)).err = 0
      · have hlen : (c :: r).length = r.length + 1 := rfl
        have hne : out.length ≠ 5000 := by omega
        rw [lexAt_tok f out off c r he hne]
        have hw := width_pos he
        have hw2 := width_le he
        have hg2 := gap_le ((c :: r).drop (scan (c :: r)).width)
        rw [List.length_drop] at hg2
        have key := ih (out ++ [(scan (c :: r)).tok off]) (off + (scan (c :: r)).width + gap ((c :: r).drop (scan (c :: r)).width)) (((c :: r).drop (scan (c :: r)).width).drop (gap ((c :: r).drop (scan (c :: r)).width)))
          (gap_idem _) (by rw [List.length_drop, List.length_drop]; omega) (by rw [List.length_append, List.length_drop, List.length_drop]; simp only [List.length_singleton]; omega)
        -- from the place behind the token to the place behind its gap
        have back : ∀ (o : Nat) (m : List UInt8), (∀ ts, LexOk (o + gap m) (m.drop (gap m)) ts → LexOk o m ts) ∧ (∀ e a, LexErr (o + gap m) (m.drop (gap m)) e a → LexErr o m e a) := by
          intro o m
          have hz := gap_idem m
          have hdd : (m.drop (gap m)).drop (gap (m.drop (gap m))) = m.drop (gap m) := by rw [hz]; rfl
          refine ⟨fun ts h => ?_, fun e a h => ?_⟩
          · cases h with
            | done _ _ h => exact .done _ _ (by rwa [hdd] at h)
            | tok _ _ ts h he hr =>
              rw [hdd] at h he
              rw [hdd, hz, Nat.zero_add, Nat.add_zero, List.drop_drop] at hr
              rw [hdd, hz, Nat.add_zero]
              exact .tok _ _ _ h he hr
          · cases h with
            | here _ _ h he =>
              rw [hdd] at h he
              rw [hdd, hz, Nat.add_zero]
              exact .here _ _ h he
            | later _ _ _ _ h he hr =>
              rw [hdd] at h he
              rw [hdd, hz, Nat.zero_add, Nat.add_zero, List.drop_drop] at hr
              exact .later _ _ _ _ h he hr
        have hb := back (off + (scan (c :: r)).width) ((c :: r).drop (scan (c :: r)).width)
        have hne0 : (c :: r).drop (gap (c :: r)) ≠ [] := by rw [hd]; simp
        have he0 : (scan ((c :: r).drop (gap (c :: r)))).err = 0 := by rw [hd]; exact he
        rcases key with ⟨ts, h1, h2⟩ | ⟨e, a, h1, h2⟩
        · left
          refine ⟨(scan (c :: r)).tok off :: ts, ?_, by rw [h2]; simp⟩
          have h3 := LexOk.tok off (c :: r) ts hne0 he0 (by rw [hd, hg]; simpa using hb.1 ts h1)
          rw [hd, hg] at h3
          exact h3
        · right
          exact ⟨e, a, LexErr.later off (c :: r) e a hne0 he0 (by rw [hd, hg]; simpa using hb.2 e a h1), h2⟩
      · right
        rw [lexAt_err f out off c r he]
        refine ⟨_, _, ?_, rfl⟩
        have h3 := LexErr.here off (c :: r) (by rw [hd]; simp) (by rw [hd]; exact he)
        rw [hd, hg] at h3
        exact h3

theorem LexOk.back {o : Nat} {m : List UInt8} {ts : List Tok} (h : LexOk (o + gap m) (m.drop (gap m)) ts) : LexOk o m ts := by
  have hz := gap_idem m
  have hdd : (m.drop (gap m)).drop (gap (m.drop (gap m))) = m.drop (gap m) := by rw [hz]; rfl
  cases h with
  | done _ _ h => exact .done _ _ (by rwa [hdd] at h)
  | tok _ _ ts h he hr =>
    rw [hdd] at h he
    rw [hdd, hz, Nat.zero_add, Nat.add_zero, List.drop_drop] at hr
    rw [hdd, hz, Nat.add_zero]
    exact .tok _ _ _ h he hr
theorem LexErr.back {o : Nat} {m : List UInt8} {e : Int} {a : Nat} (h : LexErr (o + gap m) (m.drop (gap m)) e a) : LexErr o m e a := by
  have hz := gap_idem m
  have hdd : (m.drop (gap m)).drop (gap (m.drop (gap m))) = m.drop (gap m) := by rw [hz]; rfl
  cases h with
  | here _ _ h he =>
    rw [hdd] at h he
    rw [hdd, hz, Nat.add_zero]
    exact .here _ _ h he
  | later _ _ _ _ h he hr =>
    rw [hdd] at h he
    rw [hdd, hz, Nat.zero_add, Nat.add_zero, List.drop_drop] at hr
    exact .later _ _ _ _ h he hr

/-- what Lex is at a text of at most 5000 bytes -/
theorem lex_small (l : List UInt8) (h : l.length ≤ 5000) : (∃ ts, LexOk 0 l ts ∧ lex l = (ts, 0, 0)) ∨ (∃ e a, LexErr 0 l e a ∧ lex l = ([], e, (a : Int))) := by
  unfold lex
  rw [if_neg (by omega)]
  have hg := gap_le l
  rcases lexAt_spec (l.length + 1) [] (gap l) (l.drop (gap l)) (gap_idem l) (by rw [List.length_drop]; omega) (by rw [List.length_drop]; simp; omega) with ⟨ts, h1, h2⟩ | ⟨e, a, h1, h2⟩
  · exact .inl ⟨ts, LexOk.back (by rw [Nat.zero_add]; exact h1), by rw [h2]; rfl⟩
  · exact .inr ⟨e, a, LexErr.back (by rw [Nat.zero_add]; exact h1), h2⟩
theorem lex_ok {l : List UInt8} (h : l.length ≤ 5000) {ts : List Tok} (hl : LexOk 0 l ts) : lex l = (ts, 0, 0) := by
  rcases lex_small l h with ⟨ts', h1, h2⟩ | ⟨e, a, h1, _⟩
  · rw [h2, hl.det h1]
  · exact (hl.not_err h1).elim
theorem lex_err {l : List UInt8} (h : l.length ≤ 5000) {e : Int} {a : Nat} (hl : LexErr 0 l e a) : lex l = ([], e, (a : Int)) := by
  rcases lex_small l h with ⟨ts', h1, _⟩ | ⟨e', a', h1, h2⟩
  · exact (h1.not_err hl).elim
  · obtain ⟨rfl, rfl⟩ := hl.det h1
    exact h2

theorem span_take (p : UInt8 → Bool) (l : List UInt8) (n : Nat) (h : span p l ≤ n) : span p (l.take n) = span p l := by
  induction l generalizing n with
  | nil => simp
  | cons c r ih =>
    cases hc : p c
    · rw [span_stop' hc]
      cases n with
      | zero => rfl
      | succ n => rw [List.take_succ_cons, span_stop' hc]
    · rw [span_cons' hc] at h ⊢
      cases n with
      | zero => omega
      | succ n => rw [List.take_succ_cons, span_cons' hc, ih n (by omega)]
theorem clsAt_take (l : List UInt8) (n : Nat) : clsAt (l.take n) = clsAt l ∨ clsAt (l.take n) = 0 := by
  cases n with
  | zero => right; rfl
  | succ n => cases l <;> left <;> rfl
theorem drop_take' (l : List UInt8) (n m : Nat) : (l.take n).drop m = (l.drop m).take (n - m) := List.drop_take

/-- a token does not hang on what stands behind it, if that is cut off -/
theorem scan_take (x : List UInt8) (n : Nat) (he : (scan x).err = 0) (hn : (scan x).width ≤ n) : scan (x.take n) = scan x := by
  cases x with
  | nil => simp
  | cons c r =>
    have hw := width_pos he
    cases n with
    | zero => omega
    | succ n =>
      rw [List.take_succ_cons]
      revert he hn
      clear hw
      rw [scan, scan]
      by_cases h1 : isLetter c = true
      · rw [if_pos h1, if_pos h1]
        simp only []
        by_cases h24 : 24 < span isWord r + 1
        · rw [if_pos h24]; intro he; cases he
        · rw [if_neg h24]
          intro _ hn
          simp only [] at hn
          rw [span_take isWord r n (by omega), if_neg h24, ← List.take_succ_cons, List.take_take, Nat.min_eq_left (by omega)]
      rw [if_neg h1, if_neg h1]
      by_cases h2 : isDigit c = true
      · rw [if_pos h2, if_pos h2]
        simp only []
        by_cases h13 : (decide (13 < span isDigit r + 1) || clsAt ((c :: r).drop (span isDigit r + 1)) == 3 || clsAt ((c :: r).drop (span isDigit r + 1)) == 5) = true
        · rw [if_pos h13]; intro he; cases he
        · rw [if_neg h13]
          intro _ hn
          simp only [] at hn
          rw [span_take isDigit r n (by omega), ← List.take_succ_cons, drop_take', List.take_take, Nat.min_eq_left (by omega), if_neg]
          intro hb
          apply h13
          simp only [Bool.or_eq_true, beq_iff_eq] at hb ⊢
          rcases clsAt_take ((c :: r).drop (span isDigit r + 1)) (n + 1 - (span isDigit r + 1)) with hc | hc
          · rw [hc] at hb; exact hb
          · rw [hc] at hb
            rcases hb with (hb | hb) | hb
            · exact .inl (.inl hb)
            · cases hb
            · cases hb
      rw [if_neg h2, if_neg h2]
      by_cases h3 : (c == 34) = true
      · rw [if_pos h3, if_pos h3]
        simp only []
        by_cases hq : ((r.drop (span inText r)).head? == some 34) = true
        · rw [if_pos hq]
          by_cases h4 : 400 < span inText r
          · rw [if_pos h4]; intro he; cases he
          · rw [if_neg h4]
            intro _ hn
            simp only [] at hn
            have hd : (r.take n).drop (span inText r) = (r.drop (span inText r)).take (n - span inText r) := drop_take' _ _ _
            have hh : ((r.drop (span inText r)).take (n - span inText r)).head? = (r.drop (span inText r)).head? := by
              cases hm : n - span inText r with
              | zero => omega
              | succ k => cases r.drop (span inText r) <;> rfl
            rw [span_take inText r n (by omega), hd, hh, if_pos hq, if_neg h4, List.take_take, Nat.min_eq_left (by omega)]
        · rw [if_neg hq]; intro he; cases he
      rw [if_neg h3, if_neg h3]
      by_cases h5 : ((c == 33 || c == 60 || c == 62) && r.head? == some 61) = true
      · rw [if_pos h5]
        intro _ hn
        simp only [] at hn
        have hh : (r.take n).head? = r.head? := by
          cases n with
          | zero => omega
          | succ k => cases r <;> rfl
        rw [hh, if_pos h5]
      · rw [if_neg h5]
        by_cases h6 : (c == 60 || c == 62 || isSym c) = true
        · rw [if_pos h6]
          intro _ _
          rw [if_neg]
          intro hb
          apply h5
          rw [Bool.and_eq_true] at hb ⊢
          refine ⟨hb.1, ?_⟩
          cases n with
          | zero => cases hb.2
          | succ k => cases r with
            | nil => cases hb.2
            | cons d r => exact hb.2
        · rw [if_neg h6]; intro he; cases he

theorem gapc_take (l : List UInt8) : ∀ (b : Bool) (n : Nat), gapc b (l.take n) = min n (gapc b l) := by
  induction l with
  | nil => intro b n; cases b <;> simp [gapc]
  | cons c r ih =>
    intro b n
    cases n with
    | zero => cases b <;> simp [gapc]
    | succ n =>
      rw [List.take_succ_cons]
      cases b
      · simp only [gapc]
        split
        · rw [ih]; omega
        · split
          · rw [ih]; omega
          · omega
      · simp only [gapc]
        split
        · rw [ih]; omega
        · rw [ih]; omega
theorem gap_take (l : List UInt8) (n : Nat) : gap (l.take n) = min n (gap l) := gapc_take l false n

/-- an error: before its offset there is none, and from there on it stands at the beginning -/
theorem err_law {off : Nat} {l : List UInt8} {e : Int} {a : Nat} (h : LexErr off l e a) :
    off ≤ a ∧ a - off < l.length ∧ (∃ ts, LexOk off (l.take (a - off)) ts) ∧ LexErr 0 (l.drop (a - off)) e 0 := by
  induction h with
  | here off l h he =>
    have hlt : gap l < l.length := by
      rcases Nat.lt_or_ge (gap l) l.length with h1 | h1
      · exact h1
      · exact absurd (List.drop_eq_nil_of_le h1) h
    refine ⟨by omega, by omega, ⟨[], .done _ _ ?_⟩, ?_⟩
    · rw [gap_take, show off + gap l - off = gap l from by omega, Nat.min_self]
      exact List.drop_eq_nil_of_le (by rw [List.length_take]; omega)
    · rw [show off + gap l - off = gap l from by omega]
      have hz := gap_idem l
      have h3 := LexErr.here 0 (l.drop (gap l)) (by rw [hz]; exact h) (by rw [hz]; exact he)
      rw [hz] at h3
      exact h3
  | later off l e a h he hr ih =>
    obtain ⟨i1, i2, ⟨ts, i3⟩, i4⟩ := ih
    have hw := width_pos he
    have hw2 := width_le he
    rw [List.length_drop] at hw2 i2
    refine ⟨by omega, by omega, ⟨(scan (l.drop (gap l))).tok (off + gap l) :: ts, ?_⟩, ?_⟩
    · have hg : gap (l.take (a - off)) = gap l := by rw [gap_take]; omega
      have hd : (l.take (a - off)).drop (gap l) = (l.drop (gap l)).take (a - off - gap l) := drop_take' _ _ _
      have hs : scan ((l.take (a - off)).drop (gap l)) = scan (l.drop (gap l)) := by
        rw [hd]
        exact scan_take _ _ he (by omega)
      have h3 := LexOk.tok off (l.take (a - off)) ts (by
        rw [hg, hd]
        intro h0
        have := congrArg List.length h0
        rw [List.length_take, List.length_drop] at this
        simp at this
        omega) (by rw [hg, hs]; exact he) (by
        rw [hg, hs, drop_take', show a - off - (gap l + (scan (l.drop (gap l))).width) = a - (off + gap l + (scan (l.drop (gap l))).width) from by omega]
        exact i3)
      rw [hg, hs] at h3
      exact h3
    · rw [List.drop_drop] at i4
      rw [show a - off = gap l + (scan (l.drop (gap l))).width + (a - (off + gap l + (scan (l.drop (gap l))).width)) from by omega]
      exact i4

end Lx
end Go.Proofs.YtldnfdghkdibmaaGreatDoor

/-
  The plain law of identifiers: a text is a name exactly if its only token is a name that is the text. No program in sight.
-/
set_option linter.unusedVariables false
namespace Go.Proofs.YtldnfdghkdibmaaGreatDoor
namespace Lx

theorem letter_gap (c : UInt8) (r : List UInt8) (h : isLetter c = true) : gap (c :: r) = 0 := by
  have H : ∀ c : Fin 256, isLetter (UInt8.ofNat c.val) = true → isBlank (UInt8.ofNat c.val) = false ∧ (UInt8.ofNat c.val == 35) = false := by decide +kernel
  have h1 := H ⟨c.toNat, UInt8.toNat_lt c⟩
  simp only [UInt8.ofNat_toNat] at h1
  obtain ⟨h1, h2⟩ := h1 h
  simp only [gap, gapc, h1, h2, Bool.false_eq_true, if_false]
theorem span_whole (p : UInt8 → Bool) (q : List UInt8) (hq : ∀ b ∈ q, p b = true) : span p q = q.length := by
  induction q with
  | nil => rfl
  | cons a q ih => rw [span_cons' (hq a (by simp)), ih (fun b hb => hq b (by simp [hb]))]; rfl
theorem span_eq_length (p : UInt8 → Bool) (q : List UInt8) (h : span p q = q.length) : ∀ b ∈ q, p b = true := by
  induction q with
  | nil => simp
  | cons a q ih =>
    intro b hb
    cases ha : p a
    · rw [span_stop' ha] at h; simp at h
    · rw [span_cons' ha] at h
      rcases List.mem_cons.1 hb with rfl | hb
      · exact ha
      · exact ih (by simpa using h) b hb
/-- a token of kind 1 is made of the letters that stand first -/
theorem scan_kind1 (l : List UInt8) (he : (scan l).err = 0) (hk : (scan l).kind = 1) : ∃ c r, l = c :: r ∧ isLetter c = true ∧ span isWord r + 1 ≤ 24 ∧ (scan l).text = (c :: r).take (span isWord r + 1) ∧ (scan l).width = span isWord r + 1 := by
  cases l with
  | nil => cases he
  | cons c r =>
    cases h1 : isLetter c
    · exfalso
      rw [scan, if_neg (by rw [h1]; decide)] at he hk
      split at hk
      · simp only [] at hk
        split at hk <;> cases hk
      · split at hk
        · simp only [] at hk
          split at hk
          · split at hk <;> cases hk
          · cases hk
        · split at hk
          · cases hk
          · split at hk <;> cases hk
    · rw [scan, if_pos h1] at he ⊢
      simp only [] at he ⊢
      by_cases h24 : 24 < span isWord r + 1
      · rw [if_pos h24] at he; cases he
      · rw [if_neg h24] at he ⊢
        exact ⟨c, r, rfl, h1, by omega, rfl, rfl⟩
theorem lex_name (s : List UInt8) (hs : s.length ≤ 5000) (hn : nameB s = true) : lex s = ([⟨1, 0, 0, s⟩], 0, 0) := by
  unfold nameB at hn
  rw [Bool.and_eq_true, Bool.and_eq_true, Bool.and_eq_true, decide_eq_true_eq, decide_eq_true_eq, List.all_eq_true] at hn
  obtain ⟨⟨h1, h2, h3⟩, h4⟩ := hn
  cases s with
  | nil => cases h4
  | cons c r =>
    simp only [] at h4
    have hg := letter_gap c r h4
    have hsp := span_whole isWord r (fun b hb => h1 b (by simp [hb]))
    have hsc : scan (c :: r) = ⟨0, 1, 0, c :: r, (c :: r).length⟩ := by
      rw [scan, if_pos h4]
      simp only []
      rw [hsp, if_neg (by rw [List.length_cons] at h3; omega), List.length_cons, show r.length + 1 = (c :: r).length from rfl, List.take_length]
    have hok : LexOk 0 (c :: r) [⟨1, (0 : Nat), 0, c :: r⟩] := by
      have h := LexOk.tok 0 (c :: r) [] (by rw [hg]; simp) (by rw [hg, List.drop_zero, hsc]) (by
        rw [hg, List.drop_zero, hsc]
        exact LexOk.done _ _ (by simp))
      rw [hg, List.drop_zero, hsc] at h
      exact h
    exact lex_ok hs hok
theorem name_lex (s : List UInt8) (hs : s.length ≤ 5000) {t : Tok} {e a : Int} (h : lex s = ([t], e, a)) (he : e = 0) (hk : t.kind = 1) (ht : t.text = s) : nameB s = true := by
  rcases lex_small s hs with ⟨ts, h1, h2⟩ | ⟨e', a', h1, h2⟩
  · rw [h2] at h
    simp only [Prod.mk.injEq] at h
    obtain ⟨rfl, _, _⟩ := h
    cases h1 with
    | tok _ _ _ hne he' hr =>
      have hk' : (scan (s.drop (gap s))).kind = 1 := hk
      have ht' : (scan (s.drop (gap s))).text = s := ht
      obtain ⟨c, r, hd, hl, h24, h5, h6⟩ := scan_kind1 _ he' hk'
      rw [h5] at ht'
      have hlen := congrArg List.length ht'
      rw [List.length_take] at hlen
      have hdl := congrArg List.length hd
      rw [List.length_drop] at hdl
      have hg : gap s = 0 := by
        have := gap_le s
        have : (c :: r).length ≤ s.length := by omega
        omega
      rw [hg, List.drop_zero] at hd
      have hsl := span_le' isWord r
      have hsp : span isWord r = r.length := by
        rw [hd, List.length_cons] at hlen
        omega
      have hall := span_eq_length isWord r hsp
      have hlw : isWord c = true := by unfold isWord; rw [hl]; rfl
      rw [hd]
      unfold nameB
      rw [Bool.and_eq_true, Bool.and_eq_true, Bool.and_eq_true, decide_eq_true_eq, decide_eq_true_eq, List.all_eq_true]
      refine ⟨⟨?_, by simp, ?_⟩, hl⟩
      · intro b hb
        rcases List.mem_cons.1 hb with rfl | hb
        · exact hlw
        · exact hall b hb
      · rw [List.length_cons]; omega
  · rw [h2] at h
    simp at h
end Lx
end Go.Proofs.YtldnfdghkdibmaaGreatDoor

/-
  Plain laws of alphabets: how a word is read. No program in sight.
-/
set_option linter.unusedVariables false
namespace Go.Proofs.YtldnfdghkdibmaaGreatDoor
namespace Al

/-! the longest letter -/
theorem longest_eq {L : List (List UInt8)} {s : List UInt8} (m : Nat) : ∀ n, m ≤ n → 1 ≤ m → L.contains (s.take m) = true → (∀ j, m < j → j ≤ n → L.contains (s.take j) = false) → longest L s n = some (idx L (s.take m), m) := by
  intro n
  induction n with
  | zero => intro h1 h2; omega
  | succ n ih =>
    intro h1 h2 h3 h4
    by_cases h : m = n + 1
    · subst h
      rw [longest, if_pos h3]
    · rw [longest, if_neg (by rw [h4 (n + 1) (by omega) (by omega)]; decide)]
      exact ih (by omega) h2 h3 (fun j hj hn => h4 j hj (by omega))
theorem longest_none {L : List (List UInt8)} {s : List UInt8} : ∀ n, longest L s n = none → ∀ j, 1 ≤ j → j ≤ n → L.contains (s.take j) = false := by
  intro n
  induction n with
  | zero => intro _ j h1 h2; omega
  | succ n ih =>
    intro h j h1 h2
    rw [longest] at h
    by_cases hc : L.contains (s.take (n + 1)) = true
    · rw [if_pos hc] at h; cases h
    · rw [if_neg hc] at h
      by_cases hj : j = n + 1
      · subst hj; simpa using hc
      · exact ih h j h1 (by omega)
theorem longest_some {L : List (List UInt8)} {s : List UInt8} {k m : Nat} : ∀ n, longest L s n = some (k, m) → 1 ≤ m ∧ m ≤ n ∧ L.contains (s.take m) = true ∧ k = idx L (s.take m) ∧ ∀ j, m < j → j ≤ n → L.contains (s.take j) = false := by
  intro n
  induction n with
  | zero => intro h; cases h
  | succ n ih =>
    intro h
    rw [longest] at h
    by_cases hc : L.contains (s.take (n + 1)) = true
    · rw [if_pos hc] at h
      simp only [Option.some.injEq, Prod.mk.injEq] at h
      obtain ⟨rfl, rfl⟩ := h
      exact ⟨by omega, Nat.le_refl _, hc, rfl, fun j h1 h2 => by omega⟩
    · rw [if_neg hc] at h
      obtain ⟨h1, h2, h3, h4, h5⟩ := ih h
      refine ⟨h1, by omega, h3, h4, fun j hj hn => ?_⟩
      by_cases hj2 : j = n + 1
      · subst hj2; simpa using hc
      · exact h5 j hj (by omega)
theorem first_some {L : List (List UInt8)} {s : List UInt8} {k m : Nat} (h : first L s = some (k, m)) : 1 ≤ m ∧ m ≤ 3 ∧ m ≤ s.length ∧ L.contains (s.take m) = true ∧ k = idx L (s.take m) ∧ ∀ j, m < j → j ≤ 3 → j ≤ s.length → L.contains (s.take j) = false := by
  obtain ⟨h1, h2, h3, h4, h5⟩ := longest_some _ h
  exact ⟨h1, by omega, by omega, h3, h4, fun j a b c => h5 j a (by omega)⟩
theorem idx_lt {L : List (List UInt8)} {l : List UInt8} (h : L.contains l = true) : idx L l < L.length := by
  unfold idx
  rw [List.findIdx_lt_length]
  exact ⟨l, by simpa using h, by simp⟩
theorem idx_get {L : List (List UInt8)} {l : List UInt8} (h : L.contains l = true) : L[idx L l]? = some l := by
  have hl := idx_lt h
  rw [List.getElem?_eq_getElem hl]
  have := List.findIdx_getElem (xs := L) (p := (· == l)) (w := hl)
  rw [beq_iff_eq] at this
  exact congrArg some this

/-! what valid alphabets have -/
theorem formed_letters {a : Alph} (h : formedB a = true) : ∀ l ∈ a.letters, 1 ≤ l.length ∧ l.length ≤ 3 := by
  intro l hl
  unfold formedB at h
  simp only [Bool.and_eq_true, List.all_eq_true] at h
  have := h.1.1.2 l hl
  unfold printedB at this
  simp only [Bool.and_eq_true, decide_eq_true_eq] at this
  exact this.2
theorem valid_formed {a : Alph} (h : validB a = true) : formedB a = true := by
  unfold validB at h
  rw [Bool.and_eq_true] at h
  exact h.1
theorem valid_clash {a : Alph} (h : validB a = true) {l : List UInt8} (hl : l ∈ a.letters) : clash a.letters l 1 = false ∧ clash a.letters l 2 = false := by
  unfold validB at h
  rw [Bool.and_eq_true, List.all_eq_true] at h
  have := h.2 l hl
  simpa using this
theorem noTwice_idx {L : List (List UInt8)} (h : noTwice L = true) : ∀ (i : Nat) (hi : i < L.length), idx L L[i] = i := by
  induction L with
  | nil => intro i hi; simp at hi
  | cons l r ih =>
    intro i hi
    rw [noTwice, Bool.and_eq_true] at h
    cases i with
    | zero => unfold idx; rw [List.findIdx_cons]; simp
    | succ i =>
      have hi' : i < r.length := by simpa using hi
      have hne : (l == r[i]) = false := by
        rw [beq_eq_false_iff_ne]
        rintro rfl
        have := h.1
        simp at this
      have := ih h.2 i hi'
      unfold idx at this ⊢
      rw [List.findIdx_cons]
      simp [hne, this]

/-! letters that follow -/
theorem follows_of {L : List (List UInt8)} (hL : ∀ l ∈ L, 1 ≤ l.length) : ∀ (f : Nat) (s : List UInt8) (xs : List (List UInt8)), s.length < f → s ≠ [] → (∀ x ∈ xs, x ∈ L) → s <+: xs.flatten → follows L f s = true := by
  intro f
  induction f with
  | zero => intro s xs h; omega
  | succ f ih =>
    intro s xs hf hs hx hp
    cases xs with
    | nil => simp at hp; exact absurd hp hs
    | cons x xs =>
      rw [List.flatten_cons] at hp
      rw [follows, List.any_eq_true]
      refine ⟨x, hx x (by simp), ?_⟩
      rw [Bool.or_eq_true]
      rcases Nat.lt_or_ge x.length s.length with h | h
      · right
        have hxs : x <+: s := List.prefix_of_prefix_length_le (List.prefix_append x xs.flatten) hp (by omega)
        obtain ⟨r, rfl⟩ := hxs
        rw [Bool.and_eq_true]
        refine ⟨by simp, ?_⟩
        rw [List.drop_left]
        have hx1 := hL x (hx x (by simp))
        rw [List.length_append] at h hf
        refine ih r xs (by omega) (by rintro rfl; simp at h) (fun y hy => hx y (by simp [hy])) ?_
        exact (List.prefix_append_right_inj x).1 hp
      · left
        have := List.prefix_of_prefix_length_le hp (List.prefix_append x xs.flatten) h
        simpa using this

/-- a word of letters of a valid alphabet begins with its first letter, and with no longer one -/
theorem first_join {a : Alph} (h : validB a = true) (x : List UInt8) (xs : List (List UInt8)) (hx : x ∈ a.letters) (hxs : ∀ y ∈ xs, y ∈ a.letters) :
    first a.letters (x ++ xs.flatten) = some (idx a.letters x, x.length) := by
  have hl := formed_letters (valid_formed h)
  have hx1 := hl x hx
  have ht : (x ++ xs.flatten).take x.length = x := List.take_left
  have := longest_eq (L := a.letters) (s := x ++ xs.flatten) x.length (min 3 (x ++ xs.flatten).length) (by rw [List.length_append]; omega) hx1.1 (by rw [ht]; simpa using hx) ?_
  · rw [ht] at this; exact this
  · intro j hj hn
    rw [← Bool.not_eq_true]
    intro hc
    have hm : (x ++ xs.flatten).take j ∈ a.letters := by simpa using hc
    have hlen : ((x ++ xs.flatten).take j).length = j := by rw [List.length_take]; omega
    have htk : ((x ++ xs.flatten).take j).take x.length = x := by rw [List.take_take, Nat.min_eq_left (by omega)]; exact ht
    have hdr : ((x ++ xs.flatten).take j).drop x.length = xs.flatten.take (j - x.length) := by rw [List.drop_take, List.drop_left]
    have hcl := valid_clash h hm
    have hf : follows a.letters 4 (((x ++ xs.flatten).take j).drop x.length) = true := by
      rw [hdr]
      refine follows_of (fun l hl' => (hl l hl').1) 4 _ xs (by rw [List.length_take]; omega) ?_ hxs (List.take_prefix _ _)
      intro h0
      have := congrArg List.length h0
      rw [List.length_take, List.length_nil] at this
      rw [List.length_append] at hn
      omega
    have hcc : clash a.letters ((x ++ xs.flatten).take j) x.length = true := by
      unfold clash
      rw [hlen, htk, hf]
      simp [hx, hj]
    have : x.length = 1 ∨ x.length = 2 := by omega
    rcases this with h1 | h1
    · rw [h1, hcl.1] at hcc; cases hcc
    · rw [h1, hcl.2] at hcc; cases hcc

/-- reading what was joined -/
theorem collect_join {a : Alph} (h : validB a = true) : ∀ (xs : List (List UInt8)) (f at_ : Nat) (out : List Int), (∀ y ∈ xs, y ∈ a.letters) → xs.flatten.length < f →
    (out.length + xs.length ≤ 24 → collect out (places a.letters f at_ xs.flatten) = (out ++ xs.map (fun x => (idx a.letters x : Int)), 0, 0)) ∧
    (out.length ≤ 24 → 24 < out.length + xs.length → ∃ o : Nat, collect out (places a.letters f at_ xs.flatten) = ([], 2, (o : Int)) ∧ o < at_ + xs.flatten.length ∧ at_ ≤ o) := by
  intro xs
  induction xs with
  | nil =>
    intro f at_ out _ hf
    refine ⟨fun _ => ?_, fun h1 h2 => by simp at h2; omega⟩
    cases f with
    | zero => omega
    | succ f => simp [places, collect]
  | cons x xs ih =>
    intro f at_ out hx hf
    have hxl := hx x (by simp)
    have hx1 := formed_letters (valid_formed h) x hxl
    have hfj := first_join h x xs hxl (fun y hy => hx y (by simp [hy]))
    rw [List.flatten_cons] at hf ⊢
    obtain ⟨f, rfl⟩ : ∃ f', f = f' + 1 := ⟨f - 1, by omega⟩
    have hp : places a.letters (f + 1) at_ (x ++ xs.flatten) = (at_, (idx a.letters x : Int)) :: places a.letters f (at_ + x.length) xs.flatten := by
      cases hxe : x ++ xs.flatten with
      | nil => rw [List.append_eq_nil_iff] at hxe; rw [hxe.1] at hx1; simp at hx1
      | cons c r =>
        rw [places, ← hxe, hfj]
        simp only []
        rw [List.drop_left]
    rw [hp, collect, if_neg (by omega)]
    rw [List.length_append] at hf
    have hi := ih f (at_ + x.length) (out ++ [(idx a.letters x : Int)]) (fun y hy => hx y (by simp [hy])) (by omega)
    rw [List.length_append] at hi
    simp only [List.length_cons, List.length_nil] at hi ⊢
    constructor
    · intro hle
      rw [if_neg (by omega)]
      rw [hi.1 (by omega)]
      simp
    · intro h24 hgt
      by_cases h2 : out.length = 24
      · rw [if_pos h2]
        exact ⟨at_, rfl, by rw [List.length_append]; omega, Nat.le_refl _⟩
      · rw [if_neg h2]
        obtain ⟨o, ho, h3, h4⟩ := hi.2 (by omega) (by omega)
        exact ⟨o, ho, by rw [List.length_append]; omega, by omega⟩

/-- what is read is, joined, the text -/
theorem places_join (L : List (List UInt8)) : ∀ (f at_ : Nat) (s : List UInt8) (out ks : List Int), s.length < f → out.length ≤ 24 → collect out (places L f at_ s) = (ks, 0, 0) →
    ∃ rs : List (List UInt8), (∀ x ∈ rs, x ∈ L) ∧ rs.flatten = s ∧ ks = out ++ rs.map (fun x => (idx L x : Int)) ∧ out.length + rs.length ≤ 24 := by
  intro f
  induction f with
  | zero => intro at_ s out ks h; omega
  | succ f ih =>
    intro at_ s out ks hf ho h
    cases s with
    | nil =>
      simp only [places, collect, Prod.mk.injEq] at h
      exact ⟨[], by simp, rfl, by simp [h.1], by simpa using ho⟩
    | cons c r =>
      rw [places] at h
      cases hfi : first L (c :: r) with
      | none => rw [hfi] at h; simp [collect] at h
      | some km =>
        obtain ⟨k, m⟩ := km
        rw [hfi] at h
        simp only [collect] at h
        obtain ⟨h1, h2, h3, h4, h5, h6⟩ := first_some hfi
        rw [if_neg (by omega)] at h
        by_cases h24 : out.length = 24
        · rw [if_pos h24] at h; simp at h
        · rw [if_neg h24] at h
          have hf2 : ((c :: r).drop m).length < f := by rw [List.length_drop]; omega
          obtain ⟨rs, hr1, hr2, hr3, hr4⟩ := ih (at_ + m) ((c :: r).drop m) (out ++ [(k : Int)]) ks hf2 (by simp; omega) h
          rw [List.length_append] at hr4
          simp only [List.length_cons, List.length_nil] at hr4
          refine ⟨(c :: r).take m :: rs, ?_, ?_, ?_, by simp; omega⟩
          · intro x hx
            rcases List.mem_cons.1 hx with rfl | hx
            · simpa using h4
            · exact hr1 x hx
          · rw [List.flatten_cons, hr2, List.take_append_drop]
          · rw [hr3, List.map_cons, ← h5]
            simp
end Al
end Go.Proofs.YtldnfdghkdibmaaGreatDoor

/-
  Plain laws of alphabets: join, fold, errors, parts. No program in sight.
-/
set_option linter.unusedVariables false
namespace Go.Proofs.YtldnfdghkdibmaaGreatDoor
namespace Al

theorem formed_noTwice {a : Alph} (h : formedB a = true) : noTwice a.letters = true := by
  unfold formedB at h
  simp only [Bool.and_eq_true] at h
  exact h.1.2
theorem formed_small {a : Alph} (h : formedB a = true) : a.small.length = a.letters.length ∧ ∀ k ∈ a.small, 0 ≤ k ∧ k < (a.letters.length : Int) ∧ a.small.getD k.toNat 0 = k := by
  unfold formedB at h
  simp only [Bool.and_eq_true, beq_iff_eq, List.all_eq_true] at h
  refine ⟨h.1.1.1.2, fun k hk => ?_⟩
  have := h.2 k hk
  unfold smallAt at this
  simp only [Bool.and_eq_true, decide_eq_true_eq, beq_iff_eq] at this
  exact ⟨this.1.1, this.1.2, this.2⟩

theorem letterAt_mem {a : Alph} {k : Int} (h0 : 0 ≤ k) (h1 : k < (a.letters.length : Int)) : letterAt a.letters k ∈ a.letters := by
  unfold letterAt
  rw [List.getD_eq_getElem?_getD, List.getElem?_eq_getElem (by omega)]
  exact List.getElem_mem _
theorem idx_letterAt {a : Alph} (h : formedB a = true) {k : Int} (h0 : 0 ≤ k) (h1 : k < (a.letters.length : Int)) : (idx a.letters (letterAt a.letters k) : Int) = k := by
  unfold letterAt
  rw [List.getD_eq_getElem?_getD, List.getElem?_eq_getElem (by omega), Option.getD_some, noTwice_idx (formed_noTwice h)]
  omega
theorem letterAt_idx {L : List (List UInt8)} {x : List UInt8} (h : x ∈ L) : letterAt L (idx L x : Int) = x := by
  unfold letterAt
  rw [List.getD_eq_getElem?_getD, Int.toNat_natCast, idx_get (by simpa using h)]
  rfl
theorem inRange_mem {n : Nat} {ks : List Int} (h : inRange n ks = true) : ∀ k ∈ ks, 0 ≤ k ∧ k < (n : Int) := by
  intro k hk
  unfold inRange at h
  rw [List.all_eq_true] at h
  have := h k hk
  simpa using this
theorem joinL_flatten (L : List (List UInt8)) (ks : List Int) : joinL L ks = (ks.map (letterAt L)).flatten := by
  unfold joinL
  rw [List.flatMap_def]
theorem map_idx {a : Alph} (h : formedB a = true) {ks : List Int} (hr : inRange a.letters.length ks = true) : (ks.map (letterAt a.letters)).map (fun x => (idx a.letters x : Int)) = ks := by
  rw [List.map_map]
  refine (List.map_congr_left (g := id) fun k hk => ?_).trans (List.map_id ks)
  have := inRange_mem hr k hk
  exact idx_letterAt h this.1 this.2
theorem map_mem {a : Alph} {ks : List Int} (hr : inRange a.letters.length ks = true) : ∀ y ∈ ks.map (letterAt a.letters), y ∈ a.letters := by
  intro y hy
  obtain ⟨k, hk, rfl⟩ := List.mem_map.1 hy
  have := inRange_mem hr k hk
  exact letterAt_mem this.1 this.2
theorem joinL_ne {a : Alph} (h : formedB a = true) {ks : List Int} (hr : inRange a.letters.length ks = true) (h1 : ks ≠ []) : joinL a.letters ks ≠ [] := by
  cases ks with
  | nil => exact absurd rfl h1
  | cons k ks =>
    have := inRange_mem hr k (by simp)
    have hm := (formed_letters h _ (letterAt_mem this.1 this.2)).1
    intro h0
    rw [joinL_flatten, List.map_cons, List.flatten_cons, List.append_eq_nil_iff] at h0
    rw [h0.1] at hm
    simp at hm

/-- joined letters are read -/
theorem read_join {a : Alph} (h : validB a = true) {ks : List Int} (hr : inRange a.letters.length ks = true) (h1 : ks ≠ []) (h2 : ks.length ≤ 24) : readB a (joinL a.letters ks) = (ks, 0, 0) := by
  have hf := valid_formed h
  unfold readB readL
  rw [if_pos h, if_neg (joinL_ne hf hr h1)]
  have := (collect_join h (ks.map (letterAt a.letters)) ((joinL a.letters ks).length + 1) 0 [] (map_mem hr) (by rw [← joinL_flatten]; omega)).1 (by rw [List.length_map]; simpa using h2)
  rw [← joinL_flatten, map_idx hf hr] at this
  simpa using this
/-- too many letters -/
theorem read_many {a : Alph} (h : validB a = true) {ks : List Int} (hr : inRange a.letters.length ks = true) (h2 : 24 < ks.length) : (readB a (joinL a.letters ks)).2.1 = 2 := by
  have hf := valid_formed h
  unfold readB readL
  rw [if_pos h, if_neg (joinL_ne hf hr (by rintro rfl; simp at h2))]
  obtain ⟨o, ho, _⟩ := (collect_join h (ks.map (letterAt a.letters)) ((joinL a.letters ks).length + 1) 0 [] (map_mem hr) (by rw [← joinL_flatten]; omega)).2 (by simp) (by rw [List.length_map]; simpa using h2)
  rw [← joinL_flatten] at ho
  rw [ho]
/-- what is read -/
theorem read_ok {a : Alph} {s : List UInt8} (he : (readB a s).2.1 = 0) : validB a = true ∧ s ≠ [] ∧ readB a s = ((readB a s).1, 0, 0) ∧ s = joinL a.letters (readB a s).1 ∧ inRange a.letters.length (readB a s).1 = true ∧ (readB a s).1 ≠ [] ∧ (readB a s).1.length ≤ 24 := by
  unfold readB at he ⊢
  by_cases h : validB a = true
  · rw [if_pos h] at he ⊢
    unfold readL at he ⊢
    by_cases hs : s = []
    · rw [if_pos hs] at he; cases he
    · rw [if_neg hs] at he ⊢
      obtain ⟨ks, e, o, hc⟩ : ∃ ks e o, collect [] (places a.letters (s.length + 1) 0 s) = (ks, e, o) := ⟨_, _, _, rfl⟩
      rw [hc] at he ⊢
      have he' : e = 0 := he
      subst he'
      have ho : o = 0 := by
        have H : ∀ (ps : List (Nat × Int)) (out ks : List Int) (o : Int), collect out ps = (ks, 0, o) → o = 0 := by
          intro ps
          induction ps with
          | nil => intro out ks o h; simp [collect] at h; exact h.2.symm
          | cons p ps ih =>
            intro out ks o h
            obtain ⟨at_, k⟩ := p
            rw [collect] at h
            by_cases h1 : k < 0
            · rw [if_pos h1] at h; simp at h
            · rw [if_neg h1] at h
              by_cases h2 : out.length = 24
              · rw [if_pos h2] at h; simp at h
              · rw [if_neg h2] at h; exact ih _ _ _ h
        exact H _ _ _ _ hc
      subst ho
      obtain ⟨rs, h1, h2, h3, h4⟩ := places_join a.letters (s.length + 1) 0 s [] ks (by omega) (by simp) hc
      simp only [List.nil_append] at h3
      refine ⟨h, hs, rfl, ?_, ?_, ?_, ?_⟩
      · simp only []
        rw [joinL_flatten, h3, List.map_map, ← h2]
        congr 1
        refine (List.map_id rs).symm.trans (List.map_congr_left fun x hx => ?_)
        exact (letterAt_idx (h1 x hx)).symm
      · simp only []
        unfold inRange
        rw [List.all_eq_true, h3]
        intro k hk
        obtain ⟨x, hx, rfl⟩ := List.mem_map.1 hk
        have := idx_lt (L := a.letters) (l := x) (by simpa using h1 x hx)
        simp
        exact this
      · simp only []
        rintro rfl
        have : rs = [] := by simpa using h3.symm
        subst this
        exact hs h2.symm
      · simp only []
        rw [h3, List.length_map]
        simpa using h4
  · rw [if_neg h] at he; cases he

/-- P10.3 -/
theorem joins_law {a : Alph} (h : validB a = true) {x : List Int} (hx : (joinB a x).2 = 0) : joinB a x = (joinL a.letters x, 0) ∧ readB a (joinL a.letters x) = (x, 0, 0) := by
  unfold joinB at hx ⊢
  split at hx
  · rename_i hc
    rw [if_pos hc]
    simp only [Bool.and_eq_true, decide_eq_true_eq] at hc
    exact ⟨rfl, read_join h hc.2 (by rintro rfl; simp at hc) hc.1.2.2⟩
  · cases hx
theorem joins_inj {a : Alph} (h : validB a = true) {x y : List Int} (hx : (joinB a x).2 = 0) (hy : (joinB a y).2 = 0) : (joinB a x).1 = (joinB a y).1 ↔ x = y := by
  constructor
  · intro he
    have h1 := joins_law h hx
    have h2 := joins_law h hy
    rw [h1.1, h2.1] at he
    simp only [] at he
    have := h1.2
    rw [he, h2.2] at this
    simpa using this.symm
  · rintro rfl; rfl
theorem join_err {a : Alph} {x : List Int} (hx : (joinB a x).2 ≠ 0) : joinB a x = ([], 1) := by
  unfold joinB at hx ⊢
  split at hx
  · exact absurd rfl hx
  · rw [if_neg ‹_›]

/-- P10.4 -/
theorem small_range {a : Alph} (h : formedB a = true) {ks : List Int} (hr : inRange a.letters.length ks = true) : inRange a.letters.length (ks.map fun k => a.small.getD k.toNat 0) = true ∧
    (ks.map fun k => a.small.getD k.toNat 0).map (fun k => a.small.getD k.toNat 0) = ks.map fun k => a.small.getD k.toNat 0 := by
  obtain ⟨hs1, hs2⟩ := formed_small h
  have H : ∀ k ∈ ks, a.small.getD k.toNat 0 ∈ a.small := by
    intro k hk
    have := inRange_mem hr k hk
    rw [List.getD_eq_getElem?_getD, List.getElem?_eq_getElem (by omega)]
    exact List.getElem_mem _
  constructor
  · unfold inRange
    rw [List.all_eq_true]
    intro k hk
    obtain ⟨x, hx, rfl⟩ := List.mem_map.1 hk
    have := hs2 _ (H x hx)
    simp only [Bool.and_eq_true, decide_eq_true_eq]
    exact ⟨this.1, this.2.1⟩
  · rw [List.map_map]
    refine List.map_congr_left fun k hk => ?_
    exact (hs2 _ (H k hk)).2.2
theorem folds_law {a : Alph} {s : List UInt8} (he : (readB a s).2.1 = 0) :
    foldB a s = (joinL a.letters ((readB a s).1.map fun k => a.small.getD k.toNat 0), 0) ∧
    readB a (foldB a s).1 = ((readB a s).1.map fun k => a.small.getD k.toNat 0, 0, 0) ∧ foldB a (foldB a s).1 = foldB a s := by
  obtain ⟨h1, h2, h3, h4, h5, h6, h7⟩ := read_ok he
  have hf := valid_formed h1
  obtain ⟨s1, s2⟩ := small_range hf h5
  have hne : ((readB a s).1.map fun k => a.small.getD k.toNat 0) ≠ [] := by simpa using h6
  have hle : ((readB a s).1.map fun k => a.small.getD k.toNat 0).length ≤ 24 := by rw [List.length_map]; exact h7
  have hj : foldB a s = (joinL a.letters ((readB a s).1.map fun k => a.small.getD k.toNat 0), 0) := by
    unfold foldB
    rw [if_pos he]
    unfold joinB
    rw [if_pos]
    simp only [Bool.and_eq_true, decide_eq_true_eq]
    refine ⟨⟨h1, ?_, hle⟩, s1⟩
    have := List.length_pos_iff.2 hne
    exact this
  have hr := read_join h1 s1 hne hle
  refine ⟨hj, by rw [hj]; exact hr, ?_⟩
  rw [hj]
  simp only []
  unfold foldB
  rw [hr]
  simp only [if_true]
  rw [s2]
  unfold joinB
  rw [if_pos]
  simp only [Bool.and_eq_true, decide_eq_true_eq]
  exact ⟨⟨h1, List.length_pos_iff.2 hne, hle⟩, s1⟩
theorem folds_none {a : Alph} {s : List UInt8} (he : (readB a s).2.1 ≠ 0) : foldB a s = ([], 1) := by
  unfold foldB
  rw [if_neg he]
theorem fold_ok {a : Alph} {s : List UInt8} (h : (foldB a s).2 = 0) : (readB a s).2.1 = 0 := by
  unfold foldB at h
  split at h
  · assumption
  · cases h

/-- P10.6 -/
theorem parts_law {a : Alph} {x y : List UInt8} (hx : (readB a x).2.1 = 0) (hy : (readB a y).2.1 = 0) :
    (24 < (readB a x).1.length + (readB a y).1.length → (readB a (x ++ y)).2.1 = 2) ∧ ((readB a x).1.length + (readB a y).1.length ≤ 24 → readB a (x ++ y) = ((readB a x).1 ++ (readB a y).1, 0, 0)) := by
  obtain ⟨v, x2, x3, x4, x5, x6, x7⟩ := read_ok hx
  obtain ⟨_, y2, y3, y4, y5, y6, y7⟩ := read_ok hy
  have hj : x ++ y = joinL a.letters ((readB a x).1 ++ (readB a y).1) := by
    unfold joinL
    rw [List.flatMap_append]
    have e1 := x4
    have e2 := y4
    unfold joinL at e1 e2
    rw [← e1, ← e2]
  have hr : inRange a.letters.length ((readB a x).1 ++ (readB a y).1) = true := by
    unfold inRange at x5 y5 ⊢
    rw [List.all_append, x5, y5]
    rfl
  rw [hj]
  exact ⟨fun h => read_many v hr (by rw [List.length_append]; exact h), fun h => read_join v hr (by simp [x6]) (by rw [List.length_append]; exact h)⟩
end Al
end Go.Proofs.YtldnfdghkdibmaaGreatDoor

/-
  Plain laws of alphabets: no longer letter stands, errors, one letter fewer, letters of one length, the reference. No program in sight.
-/
set_option linter.unusedVariables false
namespace Go.Proofs.YtldnfdghkdibmaaGreatDoor
namespace Al

/-- P10.2: no longer letter stands where a letter of a word stands -/
theorem no_longer {a : Alph} (h : validB a = true) {x : List UInt8} {xs : List (List UInt8)} (hx : x ∈ a.letters) (hxs : ∀ y ∈ xs, y ∈ a.letters) {m : List UInt8} (hm : m ∈ a.letters) (hlt : x.length < m.length) : ¬ m <+: x ++ xs.flatten := by
  intro hp
  obtain ⟨_, _, h3, _, _, h6⟩ := first_some (first_join h x xs hx hxs)
  have hm3 := (formed_letters (valid_formed h) m hm).2
  have := h6 m.length hlt hm3 hp.length_le
  rw [List.prefix_iff_eq_take] at hp
  rw [← hp] at this
  simp [hm] at this

/-- an error: what stands before it are letters -/
theorem collect_err (L : List (List UInt8)) : ∀ (f at_ : Nat) (s : List UInt8) (out ks : List Int) (e o : Int), s.length < f → collect out (places L f at_ s) = (ks, e, o) → e ≠ 0 →
    ∃ rs : List (List UInt8), (∀ x ∈ rs, x ∈ L) ∧ rs.flatten <+: s ∧ o = ((at_ + rs.flatten.length : Nat) : Int) ∧ rs.flatten.length < s.length ∧ (e = 3 ∨ (e = 2 ∧ out.length + rs.length = 24)) ∧ (out.length ≤ 24 → out.length + rs.length ≤ 24) := by
  intro f
  induction f with
  | zero => intro at_ s out ks e o h; omega
  | succ f ih =>
    intro at_ s out ks e o hf h he
    cases s with
    | nil =>
      simp only [places, collect, Prod.mk.injEq] at h
      exact absurd h.2.1.symm he
    | cons c r =>
      rw [places] at h
      cases hfi : first L (c :: r) with
      | none =>
        rw [hfi] at h
        simp only [collect] at h
        rw [if_pos (by decide)] at h
        simp only [Prod.mk.injEq] at h
        exact ⟨[], by simp, by simp, by rw [← h.2.2]; simp, by simp, .inl h.2.1.symm, fun hh => by simpa using hh⟩
      | some km =>
        obtain ⟨k, m⟩ := km
        rw [hfi] at h
        simp only [collect] at h
        obtain ⟨h1, h2, h3, h4, h5, h6⟩ := first_some hfi
        rw [if_neg (by omega)] at h
        by_cases h24 : out.length = 24
        · rw [if_pos h24] at h
          simp only [Prod.mk.injEq] at h
          exact ⟨[], by simp, by simp, by rw [← h.2.2]; simp, by simp, .inr ⟨h.2.1.symm, by simpa using h24⟩, fun hh => by simpa using hh⟩
        · rw [if_neg h24] at h
          have hf2 : ((c :: r).drop m).length < f := by rw [List.length_drop]; omega
          obtain ⟨rs, hr1, hr2, hr3, hr4, hr5, hr6⟩ := ih (at_ + m) ((c :: r).drop m) (out ++ [(k : Int)]) ks e o hf2 h he
          rw [List.length_append] at hr5 hr6
          simp only [List.length_cons, List.length_nil] at hr5 hr6
          have htl : ((c :: r).take m).length = m := by rw [List.length_take]; omega
          refine ⟨(c :: r).take m :: rs, ?_, ?_, ?_, ?_, ?_, ?_⟩
          · intro x hx
            rcases List.mem_cons.1 hx with rfl | hx
            · simpa using h4
            · exact hr1 x hx
          · rw [List.flatten_cons]
            conv => rhs; rw [← List.take_append_drop m (c :: r)]
            exact (List.prefix_append_right_inj _).2 hr2
          · rw [hr3, List.flatten_cons, List.length_append, htl]
            omega
          · rw [List.flatten_cons, List.length_append, htl]
            rw [List.length_drop] at hr4
            omega
          · rw [List.length_cons]
            omega
          · rw [List.length_cons]
            omega

/-- P10.5 -/
theorem errors_law {a : Alph} (h : validB a = true) {s : List UInt8} {ks : List Int} {e o : Int} (hr : readB a s = (ks, e, o)) (he : e = 3 ∨ e = 2) :
    ∃ p : Nat, o = p ∧ p < s.length ∧ (p = 0 → e = 3) ∧ (0 < p → (readB a (s.take p)).2.1 = 0 ∧ (e = 2 → (readB a (s.take p)).1.length = 24)) := by
  unfold readB readL at hr
  rw [if_pos h] at hr
  by_cases hs : s = []
  · rw [if_pos hs] at hr
    simp only [Prod.mk.injEq] at hr
    omega
  · rw [if_neg hs] at hr
    obtain ⟨rs, h1, h2, h3, h4, h5, h6⟩ := collect_err a.letters _ 0 s [] ks e o (by omega) hr (by omega)
    simp only [List.length_nil, Nat.zero_add] at h3 h5 h6
    refine ⟨rs.flatten.length, h3, h4, ?_, ?_⟩
    · intro h0
      rcases h5 with h5 | ⟨_, h5⟩
      · exact h5
      · exfalso
        cases rs with
        | nil => simp at h5
        | cons x rs =>
          have := (formed_letters (valid_formed h) x (h1 x (by simp))).1
          rw [List.flatten_cons, List.length_append] at h0
          omega
    · intro h0
      have ht : s.take rs.flatten.length = rs.flatten := ((List.prefix_iff_eq_take.1 h2)).symm
      rw [ht]
      have hne : rs.flatten ≠ [] := by
        intro h'
        rw [h'] at h0
        simp at h0
      have hc := (collect_join h rs (rs.flatten.length + 1) 0 [] h1 (by omega)).1 (by simpa using h6 (by simp))
      have hrd : readB a rs.flatten = (rs.map (fun x => (idx a.letters x : Int)), 0, 0) := by
        unfold readB readL
        rw [if_pos h, if_neg hne, hc]
        rfl
      rw [hrd]
      refine ⟨rfl, fun h2' => ?_⟩
      simp only [List.length_map]
      omega
theorem errors_else {a : Alph} (h : validB a = true) {s : List UInt8} {ks : List Int} {e o : Int} (hr : readB a s = (ks, e, o)) (he : e ≠ 3) (he2 : e ≠ 2) : o = 0 ∧ (e = 0 ↔ s ≠ []) := by
  by_cases h0 : e = 0
  · have h1 : (readB a s).2.1 = 0 := by rw [hr]; exact h0
    obtain ⟨_, h2, h3, _⟩ := read_ok h1
    rw [hr] at h3
    simp only [Prod.mk.injEq] at h3
    exact ⟨h3.2.2, ⟨fun _ => h2, fun _ => h0⟩⟩
  · unfold readB readL at hr
    rw [if_pos h] at hr
    by_cases hs : s = []
    · rw [if_pos hs] at hr
      simp only [Prod.mk.injEq] at hr
      exact ⟨hr.2.2.symm, ⟨fun h' => absurd h' h0, fun h' => absurd hs h'⟩⟩
    · rw [if_neg hs] at hr
      obtain ⟨rs, h1, h2, h3, h4, h5, h6⟩ := collect_err a.letters _ 0 s [] ks e o (by omega) hr h0
      omega

/-- P10.7 -/
theorem follows_mono {L M : List (List UInt8)} (h : ∀ x ∈ L, x ∈ M) : ∀ (f : Nat) (s : List UInt8), follows L f s = true → follows M f s = true := by
  intro f
  induction f with
  | zero => intro s h'; exact h'
  | succ f ih =>
    intro s h'
    rw [follows, List.any_eq_true] at h' ⊢
    obtain ⟨l, hl, hc⟩ := h'
    refine ⟨l, h l hl, ?_⟩
    rw [Bool.or_eq_true] at hc ⊢
    rcases hc with hc | hc
    · exact .inl hc
    · rw [Bool.and_eq_true] at hc ⊢
      exact .inr ⟨hc.1, ih _ hc.2⟩
theorem clash_mono {L M : List (List UInt8)} (h : ∀ x ∈ L, x ∈ M) (l : List UInt8) (n : Nat) (hc : clash M l n = false) : clash L l n = false := by
  cases h' : clash L l n
  · rfl
  · unfold clash at h' hc
    simp only [Bool.and_eq_true, List.contains_iff_mem] at h'
    have h2 := h _ h'.2.1
    have h3 := follows_mono h _ _ h'.2.2
    rw [h3, h'.1] at hc
    simp [h2] at hc
theorem noTwice_take {L : List (List UInt8)} (h : noTwice L = true) : ∀ n, noTwice (L.take n) = true := by
  induction L with
  | nil => intro n; simp [noTwice]
  | cons l r ih =>
    intro n
    rw [noTwice, Bool.and_eq_true] at h
    cases n with
    | zero => rfl
    | succ n =>
      rw [List.take_succ_cons, noTwice, Bool.and_eq_true]
      refine ⟨?_, ih h.2 n⟩
      have := h.1
      simp only [Bool.not_eq_true', List.contains_eq_mem, decide_eq_false_iff_not] at this ⊢
      exact fun h' => this (List.mem_of_mem_take h')
theorem fewer_law {a : Alph} (h : validB a = true) {n : Nat} (hn : a.letters.length = n + 1) (h1 : 1 ≤ n) (hs : ∀ i : Nat, i < n → a.small.getD i 0 ≠ n) : validB ⟨a.name, a.letters.take n, a.small.take n⟩ = true := by
  have hf := valid_formed h
  obtain ⟨s1, s2⟩ := formed_small hf
  have hsub : ∀ x ∈ a.letters.take n, x ∈ a.letters := fun x hx => List.mem_of_mem_take hx
  have hlen : (a.letters.take n).length = n := by rw [List.length_take]; omega
  have hf' : formedB ⟨a.name, a.letters.take n, a.small.take n⟩ = true := by
    have hff := hf
    unfold formedB at hff ⊢
    simp only [Bool.and_eq_true, decide_eq_true_eq, beq_iff_eq, List.all_eq_true] at hff ⊢
    refine ⟨⟨⟨⟨⟨hff.1.1.1.1.1, ?_⟩, ?_⟩, ?_⟩, ?_⟩, ?_⟩
    · rw [hlen]; have := hff.1.1.1.1.2; omega
    · rw [hlen, List.length_take]; omega
    · exact fun x hx => hff.1.1.2 x (hsub x hx)
    · exact noTwice_take hff.1.2 n
    · intro k hk
      obtain ⟨b1, b2, b3⟩ := s2 k (List.mem_of_mem_take hk)
      obtain ⟨i, hi, rfl⟩ := List.getElem_of_mem hk
      have hi' : i < n := by rw [List.length_take] at hi; omega
      have hne := hs i hi'
      rw [List.getD_eq_getElem?_getD, List.getElem?_eq_getElem (by omega), Option.getD_some] at hne
      rw [List.getElem_take] at b1 b2 b3 ⊢
      unfold smallAt
      simp only [Bool.and_eq_true, decide_eq_true_eq, beq_iff_eq]
      refine ⟨⟨b1, by rw [hlen]; omega⟩, ?_⟩
      rw [List.getD_eq_getElem?_getD, List.getElem?_take, if_pos (by omega), ← List.getD_eq_getElem?_getD]
      exact b3
  unfold validB
  rw [hf', Bool.true_and, List.all_eq_true]
  intro l hl
  obtain ⟨c1, c2⟩ := valid_clash h (hsub l hl)
  simp only [clash_mono hsub l 1 c1, clash_mono hsub l 2 c2]
  rfl

/-- P10.8 -/
theorem bytes_law {a : Alph} {m : Nat} (hm : ∀ l ∈ a.letters, l.length = m) : validB a = formedB a := by
  unfold validB
  cases hf : formedB a
  · rfl
  · rw [Bool.true_and, List.all_eq_true]
    intro l hl
    have hc : ∀ n, clash a.letters l n = false := by
      intro n
      unfold clash
      by_cases hn : n < l.length
      · have : a.letters.contains (l.take n) = false := by
          rw [← Bool.not_eq_true]
          intro h
          have h1 := hm _ (List.contains_iff_mem.1 h)
          have h2 := hm l hl
          rw [List.length_take] at h1
          omega
        rw [this]
        simp
      · simp [hn]
    rw [hc, hc]
    rfl
end Al
end Go.Proofs.YtldnfdghkdibmaaGreatDoor

/-
  Plain laws of alphabets: what the reference computes. No program in sight.
-/
set_option linter.unusedVariables false
namespace Go.Proofs.YtldnfdghkdibmaaGreatDoor
namespace Al

theorem noTwice_inj {L : List (List UInt8)} (h : noTwice L = true) {i k : Nat} (hi : i < L.length) (hk : k < L.length) (he : L[i] = L[k]) : i = k := by
  have h1 := noTwice_idx h i hi
  have h2 := noTwice_idx h k hk
  rw [he, h2] at h1
  exact h1.symm
theorem first_best {L : List (List UInt8)} (hL : ∀ l ∈ L, 1 ≤ l.length ∧ l.length ≤ 3) (hd : noTwice L = true) {s : List UInt8} {k : Nat} (hk : k < L.length) (hp : L[k] <+: s) (hmax : ∀ l ∈ L, l <+: s → l.length ≤ L[k].length) : first L s = some (k, L[k].length) := by
  have hb := hL _ (List.getElem_mem hk)
  have ht : s.take L[k].length = L[k] := (List.prefix_iff_eq_take.1 hp).symm
  have hle := hp.length_le
  have := longest_eq (L := L) (s := s) L[k].length (min 3 s.length) (by omega) hb.1 (by rw [ht]; simp) ?_
  · rw [ht, noTwice_idx hd k hk] at this
    exact this
  · intro j hj hn
    rw [← Bool.not_eq_true]
    intro hc
    have hm := List.contains_iff_mem.1 hc
    have := hmax _ hm (List.take_prefix _ _)
    rw [List.length_take] at this
    omega
theorem first_no {L : List (List UInt8)} (hL : ∀ l ∈ L, 1 ≤ l.length ∧ l.length ≤ 3) {s : List UInt8} (h : ∀ l ∈ L, ¬ l <+: s) : first L s = none := by
  cases hf : first L s with
  | none => rfl
  | some km =>
    obtain ⟨k, m⟩ := km
    have := (first_some hf).2.2.2.1
    exact absurd (List.take_prefix _ _) (h _ (List.contains_iff_mem.1 this))

/-- the reference's search for the longest letter -/
def better (L : List (List UInt8)) (s : List UInt8) (i : Nat) (out : Int) : Int :=
  if (letterAt L i).isPrefixOf s && (decide (out < 0) || decide ((letterAt L out).length < (letterAt L i).length)) then i else out
def best (L : List (List UInt8)) (s : List UInt8) : Nat → Int
  | 0 => -1
  | i + 1 => better L s i (best L s i)
theorem letterAt_nat (L : List (List UInt8)) (i : Nat) (h : i < L.length) : letterAt L (i : Int) = L[i] := by
  unfold letterAt
  rw [List.getD_eq_getElem?_getD, Int.toNat_natCast, List.getElem?_eq_getElem h]
  rfl
theorem best_spec (L : List (List UInt8)) (s : List UInt8) : ∀ n, n ≤ L.length →
    (best L s n = -1 ∧ ∀ i (h : i < L.length), i < n → ¬ L[i] <+: s) ∨ (∃ k, ∃ hk : k < L.length, best L s n = (k : Int) ∧ k < n ∧ L[k] <+: s ∧ ∀ i (h : i < L.length), i < n → L[i] <+: s → L[i].length ≤ L[k].length) := by
  intro n
  induction n with
  | zero => intro _; exact .inl ⟨rfl, fun i _ h => by omega⟩
  | succ n ih =>
    intro hn
    have hl : letterAt L (n : Int) = L[n] := letterAt_nat L n (by omega)
    rw [best, better, hl]
    rcases ih (by omega) with ⟨h1, h2⟩ | ⟨k, hk, h1, h2, h3, h4⟩
    · rw [h1]
      by_cases hp : L[n] <+: s
      · right
        refine ⟨n, by omega, ?_, by omega, hp, ?_⟩
        · rw [if_pos (by simp [hp])]
        · intro i hi hin hip
          by_cases he : i = n
          · subst he; exact Nat.le_refl _
          · exact absurd hip (h2 i hi (by omega))
      · left
        refine ⟨by rw [if_neg (by simp [hp])], ?_⟩
        intro i hi hin
        by_cases he : i = n
        · subst he; exact hp
        · exact h2 i hi (by omega)
    · rw [h1, letterAt_nat L k hk]
      right
      by_cases hp : L[n] <+: s ∧ L[k].length < L[n].length
      · refine ⟨n, by omega, ?_, by omega, hp.1, ?_⟩
        · rw [if_pos (by simp [hp.1, hp.2])]
        · intro i hi hin hip
          by_cases he : i = n
          · subst he; exact Nat.le_refl _
          · have := h4 i hi (by omega) hip; omega
      · refine ⟨k, hk, ?_, by omega, h3, ?_⟩
        · rw [if_neg]
          simp only [Bool.and_eq_true, Bool.or_eq_true, decide_eq_true_eq, List.isPrefixOf_iff_prefix]
          rintro ⟨a, b⟩
          rcases b with b | b
          · omega
          · exact hp ⟨a, b⟩
        · intro i hi hin hip
          by_cases he : i = n
          · subst he
            rcases Nat.lt_or_ge L[k].length L[i].length with h | h
            · exact absurd ⟨hip, h⟩ hp
            · exact h
          · exact h4 i hi (by omega) hip
/-- what the reference's At returns -/
def atR (L : List (List UInt8)) (s : List UInt8) : Int := match first L s with | none => -1 | some (k, _) => k
theorem best_all {L : List (List UInt8)} (hL : ∀ l ∈ L, 1 ≤ l.length ∧ l.length ≤ 3) (hd : noTwice L = true) (s : List UInt8) : best L s L.length = atR L s := by
  unfold atR
  rcases best_spec L s L.length (Nat.le_refl _) with ⟨h1, h2⟩ | ⟨k, hk, h1, _, h3, h4⟩
  · rw [h1, first_no hL (fun l hl => by obtain ⟨i, hi, rfl⟩ := List.getElem_of_mem hl; exact h2 i hi hi)]
  · rw [h1, first_best hL hd hk h3 (fun l hl hp => by obtain ⟨i, hi, rfl⟩ := List.getElem_of_mem hl; exact h4 i hi hi hp)]

/-- the reference's test of two letters -/
def refClash (L : List (List UInt8)) (i k : Nat) : Bool := decide (i ≠ k) && ((letterAt L k).isPrefixOf (letterAt L i) && follows L 4 ((letterAt L i).drop (letterAt L k).length))
theorem valid_ref {a : Alph} (hf : formedB a = true) : validB a = !((List.range a.letters.length).any fun i => (List.range a.letters.length).any fun k => refClash a.letters i k) := by
  have hl := formed_letters hf
  have hd := formed_noTwice hf
  rw [Bool.eq_iff_iff]
  unfold validB
  rw [hf, Bool.true_and, List.all_eq_true, Bool.not_eq_true', ← Bool.not_eq_true, List.any_eq_true]
  constructor
  · rintro h ⟨i, hi, h2⟩
    rw [List.any_eq_true] at h2
    obtain ⟨k, hk, h2⟩ := h2
    rw [List.mem_range] at hi hk
    unfold refClash at h2
    rw [letterAt_nat _ i hi, letterAt_nat _ k hk] at h2
    simp only [Bool.and_eq_true, decide_eq_true_eq, List.isPrefixOf_iff_prefix] at h2
    obtain ⟨hne, hp, hfo⟩ := h2
    have hml := hl _ (List.getElem_mem hk)
    have hll := hl _ (List.getElem_mem hi)
    have hlt : a.letters[k].length < a.letters[i].length := by
      rcases Nat.lt_or_ge a.letters[k].length a.letters[i].length with h' | h'
      · exact h'
      · have := hp.eq_of_length_le h'
        exact absurd (noTwice_inj hd hk hi this).symm hne
    have ht : a.letters[i].take a.letters[k].length = a.letters[k] := (List.prefix_iff_eq_take.1 hp).symm
    have hcl : clash a.letters a.letters[i] a.letters[k].length = true := by
      unfold clash
      rw [ht, hfo]
      simp [hlt]
    have h3 := h _ (List.getElem_mem hi)
    simp only [Bool.and_eq_true, Bool.not_eq_true'] at h3
    have : a.letters[k].length = 1 ∨ a.letters[k].length = 2 := by omega
    rcases this with h4 | h4
    · rw [h4, h3.1] at hcl; cases hcl
    · rw [h4, h3.2] at hcl; cases hcl
  · intro h l hm
    have key : ∀ n, clash a.letters l n = false := by
      intro n
      rw [← Bool.not_eq_true]
      intro hc
      unfold clash at hc
      simp only [Bool.and_eq_true, decide_eq_true_eq, List.contains_iff_mem] at hc
      obtain ⟨h1, h2, h3⟩ := hc
      obtain ⟨i, hi, rfl⟩ := List.getElem_of_mem hm
      obtain ⟨k, hk, he⟩ := List.getElem_of_mem h2
      refine h ⟨i, by simpa using hi, ?_⟩
      rw [List.any_eq_true]
      refine ⟨k, by simpa using hk, ?_⟩
      unfold refClash
      rw [letterAt_nat _ i hi, letterAt_nat _ k hk]
      have hlk : a.letters[k].length = n := by rw [he, List.length_take]; omega
      have hp : a.letters[k] <+: a.letters[i] := by rw [he]; exact List.take_prefix _ _
      rw [hlk, h3]
      simp only [Bool.and_eq_true, decide_eq_true_eq, List.isPrefixOf_iff_prefix]
      refine ⟨?_, hp, trivial⟩
      rintro rfl
      omega
    simp [key]
end Al
end Go.Proofs.YtldnfdghkdibmaaGreatDoor

/-
  Layer 11 in plain Lean: the results of a word are the texts that rules lead to, one after the other.
-/
set_option linter.unusedVariables false
namespace Go.Proofs.YtldnfdghkdibmaaGreatDoor
namespace Rul
abbrev Below (s t : Str) : Prop := Op.bytesLess s t = true
theorem less_lt : ∀ (x y : List UInt8), Op.bytesLess x y = decide (x < y)
  | [], [] => by simp [Op.bytesLess]
  | _ :: _, [] => by simp [Op.bytesLess]
  | [], _ :: _ => by simp [Op.bytesLess]
  | a :: x, b :: y => by
    rw [Op.bytesLess, less_lt x y]
    simp only [List.cons_lt_cons_iff]
    by_cases h1 : a < b <;> by_cases h2 : a = b <;> by_cases h3 : x < y <;> simp [h1, h2, h3]
theorem below_iff {s t : Str} : Below s t ↔ s < t := by
  show Op.bytesLess s t = true ↔ _
  rw [less_lt, decide_eq_true_iff]
theorem below_irrefl (s : Str) : ¬ Below s s := fun h => List.lt_irrefl s (below_iff.1 h)
theorem below_trans {s t u : Str} (h : Below s t) (h' : Below t u) : Below s u := below_iff.2 (List.lt_trans (below_iff.1 h) (below_iff.1 h'))
theorem below_total {s t : Str} (h : ¬ Below s t) (hne : s ≠ t) : Below t s := by
  have h : ¬ s < t := fun e => h (below_iff.2 e)
  exact below_iff.2 (Classical.byContradiction fun h' => hne (List.le_antisymm (List.not_lt.1 h') (List.not_lt.1 h)))
abbrev Up (l : List Str) : Prop := l.Pairwise Below
theorem mem_put {s x : Str} : ∀ {l : List Str}, x ∈ put s l ↔ x = s ∨ x ∈ l
  | [] => by simp [put]
  | a :: l => by
    unfold put
    split
    · simp
    · split
      · rename_i h
        subst h
        simp
      · rw [List.mem_cons, mem_put, List.mem_cons]
        constructor
        · rintro (h | h | h)
          · exact .inr (.inl h)
          · exact .inl h
          · exact .inr (.inr h)
        · rintro (h | h | h)
          · exact .inr (.inl h)
          · exact .inl h
          · exact .inr (.inr h)
theorem put_up {s : Str} : ∀ {l : List Str}, Up l → Up (put s l)
  | [], _ => by simp [put, Up]
  | a :: l, h => by
    have h' := List.pairwise_cons.1 h
    unfold put
    split
    · rename_i hs
      refine List.pairwise_cons.2 ⟨fun y hy => ?_, h⟩
      rcases List.mem_cons.1 hy with rfl | hy
      · exact hs
      · exact below_trans hs (h'.1 y hy)
    · rename_i hs
      split
      · exact h
      · rename_i hne
        refine List.pairwise_cons.2 ⟨fun y hy => ?_, put_up h'.2⟩
        rcases mem_put.1 hy with rfl | hy
        · exact below_total hs hne
        · exact h'.1 y hy
theorem setOf_aux : ∀ (l acc : List Str), Up acc → Up (l.foldl (fun acc s => put s acc) acc) ∧ ∀ x, x ∈ l.foldl (fun acc s => put s acc) acc ↔ x ∈ acc ∨ x ∈ l
  | [], acc, h => ⟨h, fun x => by simp⟩
  | a :: l, acc, h => by
    have ih := setOf_aux l (put a acc) (put_up h)
    refine ⟨ih.1, fun x => ?_⟩
    rw [List.foldl_cons, ih.2, mem_put, List.mem_cons]
    constructor
    · rintro ((h | h) | h)
      · exact .inr (.inl h)
      · exact .inl h
      · exact .inr (.inr h)
    · rintro (h | h | h)
      · exact .inl (.inr h)
      · exact .inl (.inl h)
      · exact .inr h
theorem setOf_up (l : List Str) : Up (setOf l) := (setOf_aux l [] List.Pairwise.nil).1
theorem mem_setOf {l : List Str} {x : Str} : x ∈ setOf l ↔ x ∈ l := by
  have := (setOf_aux l [] List.Pairwise.nil).2 x
  simpa [setOf] using this
theorem up_ext : ∀ {l m : List Str}, Up l → Up m → (∀ x, x ∈ l ↔ x ∈ m) → l = m
  | [], [], _, _, _ => rfl
  | [], b :: m, _, _, h => by have := (h b).2 List.mem_cons_self; cases this
  | a :: l, [], _, _, h => by have := (h a).1 List.mem_cons_self; cases this
  | a :: l, b :: m, hl, hm, h => by
    have hl' := List.pairwise_cons.1 hl
    have hm' := List.pairwise_cons.1 hm
    have e : a = b := by
      rcases List.mem_cons.1 ((h a).1 List.mem_cons_self) with e | ha
      · exact e
      · rcases List.mem_cons.1 ((h b).2 List.mem_cons_self) with e | hb
        · exact e.symm
        · exact absurd (below_trans (hm'.1 a ha) (hl'.1 b hb)) (below_irrefl b)
    subst e
    refine congrArg (a :: ·) (up_ext hl'.2 hm'.2 fun x => ?_)
    constructor
    · intro hx
      rcases List.mem_cons.1 ((h x).1 (List.mem_cons_of_mem _ hx)) with e | hx'
      · subst e; exact absurd (hl'.1 x hx) (below_irrefl x)
      · exact hx'
    · intro hx
      rcases List.mem_cons.1 ((h x).2 (List.mem_cons_of_mem _ hx)) with e | hx'
      · subst e; exact absurd (hm'.1 x hx) (below_irrefl x)
      · exact hx'
theorem setOf_eq {l m : List Str} (hm : Up m) (h : ∀ x, x ∈ m ↔ x ∈ l) : setOf l = m := up_ext (setOf_up l) hm fun x => by rw [mem_setOf, h]

/-- the text s is a result of the first k letters -/
inductive Reach (rs : List Opened) (w : List Int) : Nat → Str → Prop
  | zero : Reach rs w 0 []
  | step {k : Nat} {s : Str} {x : Opened} : Reach rs w k s → k < w.length → x ∈ rs → standsB x (w.drop k) = true → Reach rs w (k + x.2.1.length) (s ++ x.1.2.1)
/-- rules whose From has a letter -/
abbrev Pos (rs : List Opened) : Prop := ∀ x ∈ rs, 1 ≤ x.2.1.length
/-- the results that are there when the rules 'done' have been tried at letter k -/
def Stage (rs : List Opened) (w : List Int) (k : Nat) (done : List Opened) (n : Nat) (s : Str) : Prop :=
  (n = 0 ∧ s = []) ∨ ∃ j s' x, Reach rs w j s' ∧ j < w.length ∧ x ∈ rs ∧ standsB x (w.drop j) = true ∧ n = j + x.2.1.length ∧ s = s' ++ x.1.2.1 ∧ (j < k ∨ (j = k ∧ x ∈ done))
theorem reach_cases {rs : List Opened} {w : List Int} {n : Nat} {s : Str} (h : Reach rs w n s) : (n = 0 ∧ s = []) ∨ ∃ j s' x, Reach rs w j s' ∧ j < w.length ∧ x ∈ rs ∧ standsB x (w.drop j) = true ∧ n = j + x.2.1.length ∧ s = s' ++ x.1.2.1 := by
  cases h with
  | zero => exact .inl ⟨rfl, rfl⟩
  | step h hk hx hs => exact .inr ⟨_, _, _, h, hk, hx, hs, rfl, rfl⟩
theorem stage_reach {rs : List Opened} {w : List Int} {k : Nat} {done : List Opened} {n : Nat} {s : Str} (hp : Pos rs) (hn : n ≤ k) : Stage rs w k done n s ↔ Reach rs w n s := by
  constructor
  · rintro (⟨rfl, rfl⟩ | ⟨j, s', x, h, hj, hx, hs, rfl, rfl, _⟩)
    · exact .zero
    · exact .step h hj hx hs
  · intro h
    rcases reach_cases h with h | ⟨j, s', x, h', hj, hx, hs, rfl, rfl⟩
    · exact .inl h
    · have := hp x hx
      exact .inr ⟨j, s', x, h', hj, hx, hs, rfl, rfl, .inl (by omega)⟩
theorem stage_zero {rs : List Opened} {w : List Int} {n : Nat} {s : Str} : Stage rs w 0 [] n s ↔ n = 0 ∧ s = [] := by
  constructor
  · rintro (h | ⟨j, s', x, _, _, _, _, _, _, h | ⟨_, h⟩⟩)
    · exact h
    · omega
    · cases h
  · exact .inl
theorem stage_next {rs : List Opened} {w : List Int} {k n : Nat} {s : Str} : Stage rs w (k + 1) [] n s ↔ Stage rs w k rs n s := by
  constructor
  · rintro (h | ⟨j, s', x, h1, h2, h3, h4, h5, h6, h | ⟨_, h⟩⟩)
    · exact .inl h
    · refine .inr ⟨j, s', x, h1, h2, h3, h4, h5, h6, ?_⟩
      rcases Nat.lt_succ_iff_lt_or_eq.1 h with h | h
      · exact .inl h
      · exact .inr ⟨h, h3⟩
    · cases h
  · rintro (h | ⟨j, s', x, h1, h2, h3, h4, h5, h6, h | ⟨h, _⟩⟩)
    · exact .inl h
    · exact .inr ⟨j, s', x, h1, h2, h3, h4, h5, h6, .inl (by omega)⟩
    · exact .inr ⟨j, s', x, h1, h2, h3, h4, h5, h6, .inl (by omega)⟩
theorem stage_snoc {rs : List Opened} {w : List Int} {k : Nat} {done : List Opened} {x : Opened} {n : Nat} {s : Str} (hk : k < w.length) (hx : x ∈ rs) (hs : standsB x (w.drop k) = true) :
    Stage rs w k (done ++ [x]) n s ↔ Stage rs w k done n s ∨ (n = k + x.2.1.length ∧ ∃ s', Reach rs w k s' ∧ s = s' ++ x.1.2.1) := by
  constructor
  · rintro (h | ⟨j, s', y, h1, h2, h3, h4, h5, h6, h | ⟨h, h'⟩⟩)
    · exact .inl (.inl h)
    · exact .inl (.inr ⟨j, s', y, h1, h2, h3, h4, h5, h6, .inl h⟩)
    · rcases List.mem_append.1 h' with h' | h'
      · exact .inl (.inr ⟨j, s', y, h1, h2, h3, h4, h5, h6, .inr ⟨h, h'⟩⟩)
      · obtain rfl := List.mem_singleton.1 h'
        subst h
        exact .inr ⟨h5, s', h1, h6⟩
  · rintro ((h | ⟨j, s', y, h1, h2, h3, h4, h5, h6, h | ⟨h, h'⟩⟩) | ⟨h, s', h1, h2⟩)
    · exact .inl h
    · exact .inr ⟨j, s', y, h1, h2, h3, h4, h5, h6, .inl h⟩
    · exact .inr ⟨j, s', y, h1, h2, h3, h4, h5, h6, .inr ⟨h, List.mem_append_left _ h'⟩⟩
    · exact .inr ⟨k, s', x, h1, hk, hx, hs, h, h2, .inr ⟨rfl, List.mem_append_right _ (List.mem_singleton.2 rfl)⟩⟩
theorem stage_snoc_not {rs : List Opened} {w : List Int} {k : Nat} {done : List Opened} {x : Opened} {n : Nat} {s : Str} (hs : standsB x (w.drop k) = false) : Stage rs w k (done ++ [x]) n s ↔ Stage rs w k done n s := by
  constructor
  · rintro (h | ⟨j, s', y, h1, h2, h3, h4, h5, h6, h | ⟨h, h'⟩⟩)
    · exact .inl h
    · exact .inr ⟨j, s', y, h1, h2, h3, h4, h5, h6, .inl h⟩
    · rcases List.mem_append.1 h' with h' | h'
      · exact .inr ⟨j, s', y, h1, h2, h3, h4, h5, h6, .inr ⟨h, h'⟩⟩
      · obtain rfl := List.mem_singleton.1 h'
        subst h
        rw [hs] at h4; cases h4
  · rintro (h | ⟨j, s', y, h1, h2, h3, h4, h5, h6, h | ⟨h, h'⟩⟩)
    · exact .inl h
    · exact .inr ⟨j, s', y, h1, h2, h3, h4, h5, h6, .inl h⟩
    · exact .inr ⟨j, s', y, h1, h2, h3, h4, h5, h6, .inr ⟨h, List.mem_append_left _ h'⟩⟩
/-- a table that has just these results -/
def Has (T : Tab) (Q : Nat → Str → Prop) : Prop := ∀ n s, s ∈ T n ↔ Q n s
theorem has_stepR {rs : List Opened} {w : List Int} {k : Nat} {done : List Opened} {x : Opened} {T : Tab} (hp : Pos rs) (hk : k < w.length) (hx : x ∈ rs) (hT : Has T (Stage rs w k done)) : Has (stepR w k T x) (Stage rs w k (done ++ [x])) := by
  intro n s
  unfold stepR
  cases hs : standsB x (w.drop k)
  · rw [if_neg (by simp), stage_snoc_not hs]; exact hT n s
  · rw [if_pos rfl, stage_snoc hk hx hs]
    unfold putT
    by_cases e : n = k + x.2.1.length
    · rw [if_pos e, List.mem_append, hT n s]
      constructor
      · rintro (h | h)
        · exact .inl h
        · obtain ⟨s', h1, h2⟩ := List.mem_map.1 h
          exact .inr ⟨e, s', (stage_reach hp (Nat.le_refl k)).1 ((hT k s').1 h1), h2.symm⟩
      · rintro (h | ⟨_, s', h1, h2⟩)
        · exact .inl h
        · exact .inr (List.mem_map.2 ⟨s', (hT k s').2 ((stage_reach hp (Nat.le_refl k)).2 h1), h2.symm⟩)
    · rw [if_neg e, hT n s]
      exact ⟨.inl, fun h => h.elim id fun h => absurd h.1 e⟩
theorem has_stepK {rs : List Opened} {w : List Int} {k : Nat} (hp : Pos rs) (hk : k < w.length) : ∀ (l done : List Opened) (T : Tab), (∀ x ∈ l, x ∈ rs) → Has T (Stage rs w k done) → Has (l.foldl (stepR w k) T) (Stage rs w k (done ++ l))
  | [], done, T, _, hT => by rw [List.append_nil]; exact hT
  | x :: l, done, T, hl, hT => by
    have := has_stepK hp hk l (done ++ [x]) _ (fun y hy => hl y (List.mem_cons_of_mem _ hy)) (has_stepR hp hk (hl x List.mem_cons_self) hT)
    rw [List.append_assoc] at this
    exact this
theorem tabs_succ (rs : List Opened) (w : List Int) (k : Nat) : tabs rs w (k + 1) = stepK rs w (tabs rs w k) k := by
  unfold tabs
  rw [List.range_succ, List.foldl_append]; rfl
theorem has_tabs {rs : List Opened} {w : List Int} (hp : Pos rs) : ∀ k, k ≤ w.length → Has (tabs rs w k) (Stage rs w k [])
  | 0, _ => fun n s => by
    rw [stage_zero]
    show s ∈ tab0 n ↔ _
    unfold tab0
    split
    · rename_i h; simp [h]
    · rename_i h; simp [h]
  | k + 1, h => fun n s => by
    rw [tabs_succ, stage_next]
    exact has_stepK hp h rs [] _ (fun x hx => hx) (has_tabs hp k (Nat.le_of_lt h)) n s
theorem mem_tabs {rs : List Opened} {w : List Int} (hp : Pos rs) {k : Nat} (hk : k ≤ w.length) {s : Str} : s ∈ tabs rs w k k ↔ Reach rs w k s := (has_tabs hp k hk k s).trans (stage_reach hp (Nat.le_refl k))
theorem mem_setTabs {rs : List Opened} {w : List Int} (hp : Pos rs) {k : Nat} (hk : k ≤ w.length) {s : Str} : s ∈ setOf (tabs rs w k k) ↔ Reach rs w k s := by rw [mem_setOf, mem_tabs hp hk]
/-- a list of just the results of the first k letters, in order -/
theorem setTabs_eq {rs : List Opened} {w : List Int} (hp : Pos rs) {k : Nat} (hk : k ≤ w.length) {l : List Str} (hl : Up l) (h : ∀ s, s ∈ l ↔ Reach rs w k s) : setOf (tabs rs w k k) = l :=
  setOf_eq hl fun x => by rw [h, mem_tabs hp hk]
theorem setTabs_same {rs rs' : List Opened} {w : List Int} (hp : Pos rs) (hp' : Pos rs') {k : Nat} (hk : k ≤ w.length) (h : ∀ s, Reach rs w k s ↔ Reach rs' w k s) : setOf (tabs rs w k k) = setOf (tabs rs' w k k) :=
  setTabs_eq hp hk (setOf_up _) fun s => by rw [mem_setTabs hp' hk, h]
theorem write_same {rs rs' : List Opened} {w : List Int} (hp : Pos rs) (hp' : Pos rs') (h : ∀ k s, Reach rs w k s ↔ Reach rs' w k s) : writeL rs w = writeL rs' w := by
  have e : ∀ k, k ≤ w.length → setOf (tabs rs w k k) = setOf (tabs rs' w k k) := fun k hk => setTabs_same hp hp' hk (h k)
  unfold writeL
  have e2 : (List.range (w.length + 1)).any (tooMany rs w) = (List.range (w.length + 1)).any (tooMany rs' w) := by
    rw [Bool.eq_iff_iff, List.any_eq_true, List.any_eq_true]
    constructor
    · rintro ⟨k, hk, h⟩
      refine ⟨k, hk, ?_⟩
      unfold tooMany at h ⊢
      rwa [← e k (by have := List.mem_range.1 hk; omega)]
    · rintro ⟨k, hk, h⟩
      refine ⟨k, hk, ?_⟩
      unfold tooMany at h ⊢
      rwa [e k (by have := List.mem_range.1 hk; omega)]
  rw [e2, e _ (Nat.le_refl _)]
theorem write_mem {rs : List Opened} {w : List Int} (hp : Pos rs) (he : (writeL rs w).2 = 0) {s : Str} : s ∈ (writeL rs w).1 ↔ Reach rs w w.length s := by
  unfold writeL at he ⊢
  split
  · rename_i h
    rw [if_pos h] at he; cases he
  · exact mem_setTabs hp (Nat.le_refl _)
theorem write_up {rs : List Opened} {w : List Int} : Up (writeL rs w).1 := by
  unfold writeL
  split
  · exact List.Pairwise.nil
  · exact setOf_up _
theorem write_err (rs : List Opened) (w : List Int) : (writeL rs w).2 = 0 ∨ writeL rs w = ([], 2) := by
  unfold writeL
  split
  · exact .inr rfl
  · exact .inl rfl
theorem reach_mono {rs rs' : List Opened} {w : List Int} (h : ∀ x ∈ rs, ∀ k, k < w.length → standsB x (w.drop k) = true → ∃ y ∈ rs', standsB y (w.drop k) = true ∧ y.2.1.length = x.2.1.length ∧ y.1.2.1 = x.1.2.1) {k : Nat} {s : Str} (hr : Reach rs w k s) : Reach rs' w k s := by
  induction hr with
  | zero => exact .zero
  | step _ hk hx hs ih =>
    obtain ⟨y, hy, h1, h2, h3⟩ := h _ hx _ hk hs
    rw [← h2, ← h3]
    exact .step ih hk hy h1
theorem reach_sub {rs rs' : List Opened} {w : List Int} (h : ∀ x ∈ rs, x ∈ rs') {k : Nat} {s : Str} (hr : Reach rs w k s) : Reach rs' w k s := reach_mono (fun x hx k hk hs => ⟨x, h x hx, hs, rfl, rfl⟩) hr
/-- a rule that stands has its letters there -/
theorem stands_len {x : Opened} {rest : List Int} (h : standsB x rest = true) : x.2.1.length ≤ rest.length ∧ x.2.1 = rest.take x.2.1.length := by
  unfold standsB at h
  rw [Bool.and_eq_true, Bool.and_eq_true, decide_eq_true_iff, beq_iff_eq] at h
  exact ⟨h.1, h.2.1⟩
theorem reach_le {rs : List Opened} {w : List Int} {k : Nat} {s : Str} (h : Reach rs w k s) : k ≤ w.length := by
  cases h with
  | zero => exact Nat.zero_le _
  | step h hk hx hs =>
    have := (stands_len hs).1
    rw [List.length_drop] at this
    omega
/-- the first rule, then what is left -/
theorem reach_front {rs : List Opened} {w : List Int} {x : Opened} (hw : 0 < w.length) (hx : x ∈ rs) (hs : standsB x w = true) {k : Nat} {s : Str} (h : Reach rs (w.drop x.2.1.length) k s) : Reach rs w (x.2.1.length + k) (x.1.2.1 ++ s) := by
  induction h with
  | zero =>
    have := Reach.step (rs := rs) (w := w) .zero hw hx (by rw [List.drop_zero]; exact hs)
    rw [Nat.zero_add, List.nil_append] at this
    rw [Nat.add_zero, List.append_nil]; exact this
  | step h hk hy hst ih =>
    rw [List.length_drop] at hk
    rw [List.drop_drop] at hst
    have := Reach.step ih (by omega) hy hst
    rw [← Nat.add_assoc, ← List.append_assoc]; exact this
theorem reach_first {rs : List Opened} {w : List Int} {k : Nat} {s : Str} (h : Reach rs w k s) : (k = 0 ∧ s = []) ∨ ∃ x ∈ rs, standsB x w = true ∧ ∃ j s', Reach rs (w.drop x.2.1.length) j s' ∧ k = x.2.1.length + j ∧ s = x.1.2.1 ++ s' := by
  induction h with
  | zero => exact .inl ⟨rfl, rfl⟩
  | @step k s y h hk hy hst ih =>
    right
    rcases ih with ⟨rfl, rfl⟩ | ⟨x, hx, hs, j, s', h1, rfl, rfl⟩
    · rw [List.drop_zero] at hst
      exact ⟨y, hy, hst, 0, [], .zero, by omega, by simp⟩
    · refine ⟨x, hx, hs, j + y.2.1.length, s' ++ y.1.2.1, .step h1 ?_ hy ?_, by omega, by rw [List.append_assoc]⟩
      · rw [List.length_drop]; omega
      · rw [List.drop_drop]; exact hst
/-- the results of a whole word: the To of each rule that may stand first before each result of what is left -/
theorem full_iff {rs : List Opened} {w : List Int} (hp : Pos rs) (hw : 0 < w.length) {s : Str} : Reach rs w w.length s ↔ ∃ x ∈ rs, standsB x w = true ∧ ∃ s', Reach rs (w.drop x.2.1.length) (w.drop x.2.1.length).length s' ∧ s = x.1.2.1 ++ s' := by
  constructor
  · intro h
    rcases reach_first h with ⟨h0, _⟩ | ⟨x, hx, hs, j, s', h1, h2, h3⟩
    · omega
    · refine ⟨x, hx, hs, s', ?_, h3⟩
      rw [List.length_drop, show w.length - x.2.1.length = j by omega]; exact h1
  · rintro ⟨x, hx, hs, s', h1, rfl⟩
    have := reach_front hw hx hs h1
    have hl := (stands_len hs).1
    rwa [List.length_drop, show x.2.1.length + (w.length - x.2.1.length) = w.length by omega] at this
theorem full_nil {rs : List Opened} (hp : Pos rs) {s : Str} : Reach rs [] 0 s ↔ s = [] := by
  constructor
  · intro h
    rcases reach_cases h with h | ⟨j, s', x, _, h, _⟩
    · exact h.2
    · cases h
  · rintro rfl; exact .zero
end Rul
end Go.Proofs.YtldnfdghkdibmaaGreatDoor

/-
  The plain law of the lexer: what a token's bytes are; texts with something behind, between and before their tokens. No program in sight.
-/
set_option linter.unusedVariables false
namespace Go.Proofs.YtldnfdghkdibmaaGreatDoor
namespace Lx

/-- the bytes of a token in a text -/
def Tok.written (t : Tok) : List UInt8 := if t.kind = 3 then 34 :: (t.text ++ [34]) else t.text
theorem written_length (t : Tok) : t.written.length = if t.kind = 3 then t.text.length + 2 else t.text.length := by
  unfold Tok.written
  split <;> simp
/-- two tokens that are alike but for their places -/
def Tok.like (t u : Tok) : Prop := t.kind = u.kind ∧ t.n = u.n ∧ t.text = u.text
def Likes (a b : List Tok) : Prop := a.length = b.length ∧ ∀ (i : Nat) (x y : Tok), a[i]? = some x → b[i]? = some y → x.like y
theorem Likes.nil : Likes [] [] := ⟨rfl, fun i x y h => by simp at h⟩
theorem Likes.cons {x y : Tok} {a b : List Tok} (h : x.like y) (h' : Likes a b) : Likes (x :: a) (y :: b) := by
  refine ⟨by simp [h'.1], fun i u v hu hv => ?_⟩
  cases i with
  | zero =>
    simp at hu hv
    subst hu; subst hv
    exact h
  | succ i => exact h'.2 i u v (by simpa using hu) (by simpa using hv)
theorem Likes.refl (a : List Tok) : Likes a a := ⟨rfl, fun i x y hx hy => by rw [hx] at hy; cases hy; exact ⟨rfl, rfl, rfl⟩⟩
theorem Likes.trans {a b c : List Tok} (h : Likes a b) (k : Likes b c) : Likes a c := by
  refine ⟨h.1.trans k.1, fun i x z hx hz => ?_⟩
  have hi : i < b.length := by
    have := (List.getElem?_eq_some_iff.1 hx).1
    have := h.1
    omega
  have hy : b[i]? = some b[i] := List.getElem?_eq_getElem hi
  obtain ⟨h1, h2, h3⟩ := h.2 i x _ hx hy
  obtain ⟨k1, k2, k3⟩ := k.2 i _ z hy hz
  exact ⟨h1.trans k1, h2.trans k2, h3.trans k3⟩

def Wr (x : List UInt8) (r : Sc) : Prop := r.err = 0 → (if r.kind = 3 then 34 :: (r.text ++ [34]) else r.text) = x.take r.width
theorem Wr.ite {x : List UInt8} {p : Prop} [Decidable p] {a b : Sc} (ha : p → Wr x a) (hb : ¬ p → Wr x b) : Wr x (if p then a else b) := by
  split
  · exact ha ‹_›
  · exact hb ‹_›
theorem Wr.bad (x : List UInt8) {e : Int} (h : e ≠ 0) : Wr x (bad e) := fun h' => absurd h' h
theorem scan_wr (x : List UInt8) : Wr x (scan x) := by
  cases x with
  | nil => exact Wr.bad _ (by decide)
  | cons c r =>
    rw [scan]
    refine Wr.ite (fun _ => ?_) fun _ => Wr.ite (fun _ => ?_) fun _ => Wr.ite (fun h3 => ?_) fun _ => Wr.ite (fun h4 => ?_) fun _ => Wr.ite (fun _ => ?_) fun _ => Wr.bad _ (by decide)
    · exact Wr.ite (fun _ => Wr.bad _ (by decide)) fun _ _ => by simp only []; rw [if_neg (by decide)]
    · exact Wr.ite (fun _ => Wr.bad _ (by decide)) fun _ _ => by simp only []; rw [if_neg (by decide)]
    · refine Wr.ite (fun h4 => ?_) fun _ => Wr.bad _ (by decide)
      refine Wr.ite (fun _ => Wr.bad _ (by decide)) fun _ _ => ?_
      simp only [if_true]
      obtain rfl : c = 34 := by simpa using h3
      have h5 : (r.drop (span inText r)).head? = some 34 := by simpa using h4
      rw [List.head?_drop] at h5
      rw [show span inText r + 2 = (span inText r + 1) + 1 from rfl, List.take_succ_cons, List.take_add_one, h5]
      rfl
    · rw [Bool.and_eq_true] at h4
      intro _
      simp only []
      rw [if_neg (by decide)]
      cases r with
      | nil => cases h4.2
      | cons d r =>
        have : d = 61 := by simpa using h4.2
        subst this
        rfl
    · intro _
      simp only []
      rw [if_neg (by decide)]
      rfl
/-- a token's bytes -/
theorem written_scan (x : List UInt8) (off : Nat) (h : (scan x).err = 0) : ((scan x).tok off).written = x.take (scan x).width := scan_wr x h
theorem written_scan_length (x : List UInt8) (off : Nat) (h : (scan x).err = 0) : ((scan x).tok off).written.length = (scan x).width := by
  rw [written_scan x off h, List.length_take, Nat.min_eq_left (width_le h)]

theorem span_append (p : UInt8 → Bool) (u v : List UInt8) (h : span p u < u.length) : span p (u ++ v) = span p u := by
  induction u with
  | nil => simp at h
  | cons c r ih =>
    cases hc : p c
    · rw [List.cons_append, span_stop' hc, span_stop' hc]
    · rw [span_cons' hc] at h
      rw [List.cons_append, span_cons' hc, span_cons' hc, ih (by simpa using h)]
theorem span_full (p : UInt8 → Bool) (u : List UInt8) (h : ¬ span p u < u.length) (c : UInt8) (v : List UInt8) (hc : p c = false) : span p (u ++ c :: v) = span p u := by
  induction u with
  | nil => rw [List.nil_append, span_stop' hc]; rfl
  | cons d r ih =>
    cases hd : p d
    · rw [span_stop' hd] at h; simp at h
    · rw [span_cons' hd] at h
      rw [List.cons_append, span_cons' hd, span_cons' hd, ih (by simpa using h)]
/-- what ends at a byte that is no word's, is the same with whatever stands behind that byte -/
theorem span_sep (p : UInt8 → Bool) (u : List UInt8) (c : UInt8) (v : List UInt8) (hc : p c = false) : span p (u ++ c :: v) = span p u := by
  by_cases h : span p u < u.length
  · exact span_append p u _ h
  · exact span_full p u h c v hc

theorem head_append (r v : List UInt8) (k : Nat) (h : k < r.length) : ((r ++ v).drop k).head? = (r.drop k).head? := by
  rw [List.head?_drop, List.head?_drop, List.getElem?_append_left h]

/-- a token is the same with whatever stands behind, if at least one byte stands behind it already -/
theorem scan_append (u v : List UInt8) (he : (scan u).err = 0) (hw : (scan u).width < u.length) : scan (u ++ v) = scan u := by
  cases u with
  | nil => simp at hw
  | cons c r =>
    revert he hw
    rw [List.cons_append, scan, scan]
    by_cases h1 : isLetter c = true
    · rw [if_pos h1, if_pos h1]
      simp only []
      by_cases h24 : 24 < span isWord r + 1
      · rw [if_pos h24]; intro he; cases he
      · rw [if_neg h24]
        intro _ hw
        simp only [List.length_cons] at hw
        rw [span_append isWord r v (by omega), if_neg h24]
        rw [← List.cons_append, List.take_append_of_le_length (by simp; omega)]
    rw [if_neg h1, if_neg h1]
    by_cases h2 : isDigit c = true
    · rw [if_pos h2, if_pos h2]
      simp only []
      by_cases h13 : (decide (13 < span isDigit r + 1) || clsAt ((c :: r).drop (span isDigit r + 1)) == 3 || clsAt ((c :: r).drop (span isDigit r + 1)) == 5) = true
      · rw [if_pos h13]; intro he; cases he
      · rw [if_neg h13]
        intro _ hw
        simp only [List.length_cons] at hw
        have hcl : clsAt ((c :: (r ++ v)).drop (span isDigit r + 1)) = clsAt ((c :: r).drop (span isDigit r + 1)) := by
          simp only [List.drop_succ_cons]
          rw [List.drop_append_of_le_length (by omega)]
          cases hd : r.drop (span isDigit r) with
          | nil => have := congrArg List.length hd; rw [List.length_drop] at this; simp at this; omega
          | cons d s => rfl
        rw [span_append isDigit r v (by omega), hcl, if_neg h13]
        rw [← List.cons_append, List.take_append_of_le_length (by simp; omega)]
    rw [if_neg h2, if_neg h2]
    by_cases h3 : (c == 34) = true
    · rw [if_pos h3, if_pos h3]
      simp only []
      by_cases hq : ((r.drop (span inText r)).head? == some 34) = true
      · rw [if_pos hq]
        by_cases h4 : 400 < span inText r
        · rw [if_pos h4]; intro he; cases he
        · rw [if_neg h4]
          intro _ hw
          simp only [List.length_cons] at hw
          rw [span_append inText r v (by omega), head_append r v _ (by omega), if_pos hq, if_neg h4]
          rw [List.take_append_of_le_length (by omega)]
      · rw [if_neg hq]; intro he; cases he
    rw [if_neg h3, if_neg h3]
    intro he hw
    have hh : (r ++ v).head? = r.head? := by
      cases r with
      | nil =>
        exfalso
        revert hw
        rw [show ([] : List UInt8).head? = none from rfl]
        split
        · rename_i hb; rw [Bool.and_eq_true] at hb; cases hb.2
        · split
          · intro hw; simp at hw
          · rename_i h6; intro _; revert he
            rw [if_neg (by rw [Bool.and_eq_true]; intro hb; cases hb.2), if_neg h6]
            intro he; cases he
      | cons d s => rfl
    rw [hh]

/-- a token is the same with a gap behind it -/
theorem scan_sep (u v : List UInt8) (c : UInt8) (he : (scan u).err = 0) (hw : (scan u).width = u.length) (hc : cls c = 1 ∨ cls c = 2) : scan (u ++ c :: v) = scan u := by
  have hcw : isWord c = false ∧ isDigit c = false ∧ (c == 61) = false := by
    have H : ∀ c : Fin 256, (cls (UInt8.ofNat c.val) = 1 ∨ cls (UInt8.ofNat c.val) = 2) → isWord (UInt8.ofNat c.val) = false ∧ isDigit (UInt8.ofNat c.val) = false ∧ (UInt8.ofNat c.val == 61) = false := by decide +kernel
    have h1 := H ⟨c.toNat, UInt8.toNat_lt c⟩
    simp only [UInt8.ofNat_toNat] at h1
    exact h1 hc
  obtain ⟨c1, c2, c3⟩ := hcw
  cases u with
  | nil => cases he
  | cons d r =>
    revert he hw
    rw [List.cons_append, scan, scan]
    by_cases h1 : isLetter d = true
    · rw [if_pos h1, if_pos h1]
      simp only []
      by_cases h24 : 24 < span isWord r + 1
      · rw [if_pos h24]; intro he; cases he
      · rw [if_neg h24]
        intro _ hw
        simp only [List.length_cons] at hw
        rw [span_sep isWord r c v c1, if_neg h24]
        rw [← List.cons_append, List.take_append_of_le_length (by simp; omega)]
    rw [if_neg h1, if_neg h1]
    by_cases h2 : isDigit d = true
    · rw [if_pos h2, if_pos h2]
      simp only []
      by_cases h13 : (decide (13 < span isDigit r + 1) || clsAt ((d :: r).drop (span isDigit r + 1)) == 3 || clsAt ((d :: r).drop (span isDigit r + 1)) == 5) = true
      · rw [if_pos h13]; intro he; cases he
      · rw [if_neg h13]
        intro _ hw
        simp only [List.length_cons] at hw
        have hn13 : ¬ 13 < span isDigit r + 1 := fun h => h13 (by simp [h])
        have hcl : clsAt ((d :: (r ++ c :: v)).drop (span isDigit r + 1)) = cls c := by
          simp only [List.drop_succ_cons]
          rw [show span isDigit r = r.length from by omega, List.drop_left]
          rfl
        rw [span_sep isDigit r c v c2, hcl, if_neg (by
          rcases hc with h | h <;> rw [h] <;> simp <;> omega)]
        rw [← List.cons_append, List.take_append_of_le_length (by simp; omega)]
    rw [if_neg h2, if_neg h2]
    by_cases h3 : (d == 34) = true
    · rw [if_pos h3, if_pos h3]
      simp only []
      by_cases hq : ((r.drop (span inText r)).head? == some 34) = true
      · rw [if_pos hq]
        have hlt : span inText r < r.length := by
          rcases Nat.lt_or_ge (span inText r) r.length with h5 | h5
          · exact h5
          · rw [List.drop_eq_nil_of_le h5] at hq; cases hq
        by_cases h4 : 400 < span inText r
        · rw [if_pos h4]; intro he; cases he
        · rw [if_neg h4]
          intro _ _
          rw [span_append inText r _ hlt, head_append r _ _ hlt, if_pos hq, if_neg h4]
          rw [List.take_append_of_le_length (by omega)]
      · rw [if_neg hq]; intro he; cases he
    rw [if_neg h3, if_neg h3]
    intro he hw
    cases r with
    | nil =>
      have hh : (([] : List UInt8) ++ c :: v).head? = some c := rfl
      have hc61 : (some c == some (61 : UInt8)) = false := by simpa using c3
      rw [hh, hc61, Bool.and_false]
      have hn : (([] : List UInt8).head? == some 61) = false := rfl
      rw [hn, Bool.and_false]
    | cons e s => rfl

/-- what begins a text is the same with a line feed behind the text -/
theorem scan_nl (u v : List UInt8) (hu : u ≠ []) : scan (u ++ 10 :: v) = scan u := by
  have c1 : isWord 10 = false := by decide
  have c2 : isDigit 10 = false := by decide
  have c3 : inText 10 = false := by decide
  cases u with
  | nil => exact absurd rfl hu
  | cons d r =>
    rw [List.cons_append, scan, scan]
    rw [span_sep isWord r 10 v c1, span_sep isDigit r 10 v c2, span_sep inText r 10 v c3]
    have hw := span_le' isWord r
    have hd := span_le' isDigit r
    have ht := span_le' inText r
    have t1 : (d :: (r ++ 10 :: v)).take (span isWord r + 1) = (d :: r).take (span isWord r + 1) := by
      rw [← List.cons_append, List.take_append_of_le_length (by simp; omega)]
    have t2 : (d :: (r ++ 10 :: v)).take (span isDigit r + 1) = (d :: r).take (span isDigit r + 1) := by
      rw [← List.cons_append, List.take_append_of_le_length (by simp; omega)]
    have t3 : (r ++ 10 :: v).take (span inText r) = r.take (span inText r) := List.take_append_of_le_length ht
    have k1 : (clsAt ((d :: (r ++ 10 :: v)).drop (span isDigit r + 1)) == 3) = (clsAt ((d :: r).drop (span isDigit r + 1)) == 3) ∧
        (clsAt ((d :: (r ++ 10 :: v)).drop (span isDigit r + 1)) == 5) = (clsAt ((d :: r).drop (span isDigit r + 1)) == 5) := by
      simp only [List.drop_succ_cons]
      by_cases h : span isDigit r < r.length
      · rw [List.drop_append_of_le_length (by omega)]
        cases hd : r.drop (span isDigit r) with
        | nil => have := congrArg List.length hd; rw [List.length_drop] at this; simp at this; omega
        | cons e s => exact ⟨rfl, rfl⟩
      · rw [show span isDigit r = r.length from by omega, List.drop_left, List.drop_length]
        exact ⟨rfl, rfl⟩
    have k2 : (((r ++ 10 :: v).drop (span inText r)).head? == some 34) = ((r.drop (span inText r)).head? == some 34) := by
      by_cases h : span inText r < r.length
      · rw [head_append r _ _ h]
      · rw [show span inText r = r.length from by omega, List.drop_left, List.drop_length]
        rfl
    have k3 : ((r ++ 10 :: v).head? == some 61) = (r.head? == some 61) := by
      cases r with
      | nil => rfl
      | cons e s => rfl
    simp only [k1.1, k1.2, k2, k3, t1, t2, t3]

theorem gapc_append (u v : List UInt8) : ∀ b, gapc b u < u.length → gapc b (u ++ v) = gapc b u := by
  induction u with
  | nil => intro b h; simp at h
  | cons c r ih =>
    intro b h
    cases b
    · simp only [gapc, List.length_cons, List.cons_append] at h ⊢
      split
      · rename_i h1; rw [if_pos h1] at h; rw [ih false (by omega)]
      · rename_i h1
        rw [if_neg h1] at h
        split
        · rename_i h2; rw [if_pos h2] at h; rw [ih true (by omega)]
        · rfl
    · simp only [gapc, List.length_cons, List.cons_append] at h ⊢
      split
      · rename_i h1; rw [if_pos h1] at h; rw [ih false (by omega)]
      · rename_i h1; rw [if_neg h1] at h; rw [ih true (by omega)]
theorem gap_append (u v : List UInt8) (h : gap u < u.length) : gap (u ++ v) = gap u := gapc_append u v false h
theorem gapc_nl (u v : List UInt8) : ∀ b, gapc b u = u.length → gapc b (u ++ 10 :: v) = u.length + 1 + gap v := by
  induction u with
  | nil =>
    intro b _
    cases b
    · show gapc false (10 :: v) = _
      simp [gapc, isBlank, gap]
      omega
    · show gapc true (10 :: v) = _
      simp [gapc, gap]
      omega
  | cons c r ih =>
    intro b h
    cases b
    · simp only [gapc, List.length_cons, List.cons_append] at h ⊢
      split
      · rename_i h1; rw [if_pos h1] at h; rw [ih false (by omega)]; omega
      · rename_i h1
        rw [if_neg h1] at h
        split
        · rename_i h2; rw [if_pos h2] at h; rw [ih true (by omega)]; omega
        · rename_i h2; rw [if_neg h2] at h; omega
    · simp only [gapc, List.length_cons, List.cons_append] at h ⊢
      split
      · rename_i h1; rw [if_pos h1] at h; rw [ih false (by omega)]; omega
      · rename_i h1; rw [if_neg h1] at h; rw [ih true (by omega)]; omega
theorem gap_nl (u v : List UInt8) (h : gap u = u.length) : gap (u ++ 10 :: v) = u.length + 1 + gap v := gapc_nl u v false h

/-- gaps ahead of a text -/
theorem LexOk.front {G m : List UInt8} (hG : gap (G ++ m) = G.length + gap m) {o : Nat} {ts : List Tok} (h : LexOk (o + G.length) m ts) : LexOk o (G ++ m) ts := by
  have hd : (G ++ m).drop (gap (G ++ m)) = m.drop (gap m) := by rw [hG, ← List.drop_drop, List.drop_left]
  cases h with
  | done _ _ h => exact .done _ _ (by rw [hd]; exact h)
  | tok _ _ ts h he hr =>
    have e1 : o + G.length + gap m = o + gap (G ++ m) := by rw [hG]; omega
    have hdw : (G ++ m).drop (gap (G ++ m) + (scan (m.drop (gap m))).width) = m.drop (gap m + (scan (m.drop (gap m))).width) := by
      rw [← List.drop_drop, hd, List.drop_drop]
    rw [e1] at hr
    have h3 := LexOk.tok o (G ++ m) ts (by rw [hd]; exact h) (by rw [hd]; exact he) (by rw [hd, hdw]; exact hr)
    rw [hd] at h3
    rw [e1]
    exact h3

theorem LexOk.shift {o : Nat} {l : List UInt8} {ts : List Tok} (h : LexOk o l ts) (d : Nat) : LexOk (o + d) l (ts.map fun t => { t with pos := t.pos + d }) := by
  induction h with
  | done o l h => exact .done _ _ h
  | tok o l ts h he hr ih =>
    have h3 := LexOk.tok (o + d) l _ h he (by
      rw [show o + d + gap l + (scan (l.drop (gap l))).width = o + gap l + (scan (l.drop (gap l))).width + d from by omega]
      exact ih)
    have e : (scan (l.drop (gap l))).tok (o + d + gap l) = { (scan (l.drop (gap l))).tok (o + gap l) with pos := ((scan (l.drop (gap l))).tok (o + gap l)).pos + d } := by
      simp only [Sc.tok]
      congr 1
      omega
    rw [List.map_cons, ← e]
    exact h3
theorem LexErr.shift {o : Nat} {l : List UInt8} {e : Int} {a : Nat} (h : LexErr o l e a) (d : Nat) : LexErr (o + d) l e (a + d) := by
  induction h with
  | here o l h he =>
    have h3 := LexErr.here (o + d) l h he
    rw [show o + d + gap l = o + gap l + d from by omega] at h3
    exact h3
  | later o l e a h he hr ih =>
    refine LexErr.later (o + d) l _ _ h he ?_
    rw [show o + d + gap l + (scan (l.drop (gap l))).width = o + gap l + (scan (l.drop (gap l))).width + d from by omega]
    exact ih
theorem likes_shift (ts : List Tok) (d : Nat) : Likes ts (ts.map fun t => { t with pos := t.pos + d }) := by
  refine ⟨by simp, fun i x y hx hy => ?_⟩
  rw [List.getElem?_map, hx] at hy
  cases hy
  exact ⟨rfl, rfl, rfl⟩
/-- the tokens from another offset on -/
theorem LexOk.move {o : Nat} {l : List UInt8} {ts : List Tok} (h : LexOk o l ts) (o' : Nat) : ∃ ts', LexOk o' l ts' ∧ Likes ts ts' := by
  induction h generalizing o' with
  | done o l h => exact ⟨[], .done _ _ h, Likes.nil⟩
  | tok o l ts h he hr ih =>
    obtain ⟨ts', h1, h2⟩ := ih (o' + gap l + (scan (l.drop (gap l))).width)
    exact ⟨_, .tok o' l ts' h he h1, h2.cons ⟨rfl, rfl, rfl⟩⟩

/-- a text, a line feed and another text -/
theorem parts_ok {o : Nat} {one : List UInt8} {a : List Tok} (h : LexOk o one a) (two : List UInt8) :
    (∀ b, LexOk (o + one.length + 1) two b → LexOk o (one ++ 10 :: two) (a ++ b)) ∧ (∀ e n, LexErr (o + one.length + 1) two e n → LexErr o (one ++ 10 :: two) e n) := by
  induction h with
  | done o l h =>
    have hg : gap l = l.length := by
      have h1 := gap_le l
      have h2 := congrArg List.length h
      rw [List.length_drop] at h2
      simp at h2
      omega
    have hgn := gap_nl l two hg
    have hG : gap ((l ++ [10]) ++ two) = (l ++ [10]).length + gap two := by
      rw [List.append_assoc]
      simpa using hgn
    refine ⟨fun b hb => ?_, fun e n hb => ?_⟩
    · have h3 := LexOk.front (G := l ++ [10]) (m := two) hG (o := o) (ts := b) (by simpa [Nat.add_assoc] using hb)
      simpa using h3
    · have hd : (l ++ 10 :: two).drop (gap (l ++ 10 :: two)) = two.drop (gap two) := by
        rw [hgn, ← List.drop_drop]
        congr 1
        rw [show l ++ 10 :: two = (l ++ [10]) ++ two from by simp, show l.length + 1 = (l ++ [10]).length from by simp, List.drop_left]
      cases hb with
      | here _ _ h he =>
        have h3 := LexErr.here o (l ++ 10 :: two) (by rw [hd]; exact h) (by rw [hd]; exact he)
        rw [hd, hgn] at h3
        rw [show o + l.length + 1 + gap two = o + (l.length + 1 + gap two) from by omega]
        exact h3
      | later _ _ _ _ h he hr =>
        refine LexErr.later o (l ++ 10 :: two) e n (by rw [hd]; exact h) (by rw [hd]; exact he) ?_
        rw [← List.drop_drop, hd, hgn, List.drop_drop]
        rw [show o + (l.length + 1 + gap two) = o + l.length + 1 + gap two from by omega]
        exact hr
  | tok o l ts h he hr ih =>
    have hlt : gap l < l.length := by
      rcases Nat.lt_or_ge (gap l) l.length with h1 | h1
      · exact h1
      · exact absurd (List.drop_eq_nil_of_le h1) h
    have hg : gap (l ++ 10 :: two) = gap l := gap_append _ _ hlt
    have hd : (l ++ 10 :: two).drop (gap l) = l.drop (gap l) ++ 10 :: two := List.drop_append_of_le_length (by omega)
    have hs : scan (l.drop (gap l) ++ 10 :: two) = scan (l.drop (gap l)) := scan_nl _ _ h
    have hw := width_le he
    rw [List.length_drop] at hw
    have hd2 : (l ++ 10 :: two).drop (gap l + (scan (l.drop (gap l))).width) = l.drop (gap l + (scan (l.drop (gap l))).width) ++ 10 :: two := List.drop_append_of_le_length (by omega)
    have hlen : o + gap l + (scan (l.drop (gap l))).width + (l.drop (gap l + (scan (l.drop (gap l))).width)).length + 1 = o + l.length + 1 := by rw [List.length_drop]; omega
    rw [hlen] at ih
    have hne : l.drop (gap l) ++ 10 :: two ≠ [] := by simp
    refine ⟨fun b hb => ?_, fun e n hb => ?_⟩
    · have h3 := LexOk.tok o (l ++ 10 :: two) (ts ++ b) (by rw [hg, hd]; exact hne) (by rw [hg, hd, hs]; exact he) (by
        rw [hg, hd, hs, hd2]
        exact ih.1 b hb)
      rw [hg, hd, hs] at h3
      exact h3
    · exact LexErr.later o (l ++ 10 :: two) e n (by rw [hg, hd]; exact hne) (by rw [hg, hd, hs]; exact he) (by
        rw [hg, hd, hs, hd2]
        exact ih.2 e n hb)
theorem parts_err {o : Nat} {one : List UInt8} {e : Int} {n : Nat} (h : LexErr o one e n) (two : List UInt8) : LexErr o (one ++ 10 :: two) e n := by
  induction h with
  | here o l h he =>
    have hlt : gap l < l.length := by
      rcases Nat.lt_or_ge (gap l) l.length with h1 | h1
      · exact h1
      · exact absurd (List.drop_eq_nil_of_le h1) h
    have hg : gap (l ++ 10 :: two) = gap l := gap_append _ _ hlt
    have hd : (l ++ 10 :: two).drop (gap l) = l.drop (gap l) ++ 10 :: two := List.drop_append_of_le_length (by omega)
    have hs : scan (l.drop (gap l) ++ 10 :: two) = scan (l.drop (gap l)) := scan_nl _ _ h
    have h3 := LexErr.here o (l ++ 10 :: two) (by rw [hg, hd]; simp) (by rw [hg, hd, hs]; exact he)
    rw [hg, hd, hs] at h3
    exact h3
  | later o l e a h he hr ih =>
    have hlt : gap l < l.length := by
      rcases Nat.lt_or_ge (gap l) l.length with h1 | h1
      · exact h1
      · exact absurd (List.drop_eq_nil_of_le h1) h
    have hg : gap (l ++ 10 :: two) = gap l := gap_append _ _ hlt
    have hd : (l ++ 10 :: two).drop (gap l) = l.drop (gap l) ++ 10 :: two := List.drop_append_of_le_length (by omega)
    have hs : scan (l.drop (gap l) ++ 10 :: two) = scan (l.drop (gap l)) := scan_nl _ _ h
    have hw := width_le he
    rw [List.length_drop] at hw
    have hd2 : (l ++ 10 :: two).drop (gap l + (scan (l.drop (gap l))).width) = l.drop (gap l + (scan (l.drop (gap l))).width) ++ 10 :: two := List.drop_append_of_le_length (by omega)
    exact LexErr.later o (l ++ 10 :: two) e a (by rw [hg, hd]; simp) (by rw [hg, hd, hs]; exact he) (by rw [hg, hd, hs, hd2]; exact ih)

/-- the bytes of tokens with one blank after each -/
def allText (l : List Tok) : List UInt8 := l.flatMap fun t => t.written ++ [32]
theorem again {o : Nat} {l : List UInt8} {ts : List Tok} (h : LexOk o l ts) (o' : Nat) : ∃ ts', LexOk o' (allText ts) ts' ∧ Likes ts ts' := by
  induction h generalizing o' with
  | done o l h => exact ⟨[], .done _ _ rfl, Likes.nil⟩
  | tok o l ts h he hr ih =>
    have hx := written_scan (l.drop (gap l)) (o + gap l) he
    have hxl := written_scan_length (l.drop (gap l)) (o + gap l) he
    have hwp := width_pos he
    have hst := scan_take (l.drop (gap l)) (scan (l.drop (gap l))).width he (Nat.le_refl _)
    have hgz := gap_take (l.drop (gap l)) (scan (l.drop (gap l))).width
    rw [gap_idem, Nat.min_zero] at hgz
    rw [← hx] at hst hgz
    have e0 : allText ((scan (l.drop (gap l))).tok (o + gap l) :: ts) = ((scan (l.drop (gap l))).tok (o + gap l)).written ++ 32 :: allText ts := by simp [allText]
    rw [e0]
    have hlike : ((scan (l.drop (gap l))).tok (o + gap l)).like ((scan (l.drop (gap l))).tok o') := ⟨rfl, rfl, rfl⟩
    have hwl : (scan (l.drop (gap l))).tok o' = (scan ((scan (l.drop (gap l))).tok (o + gap l)).written).tok o' := by rw [hst]
    rw [hwl] at hlike
    generalize ((scan (l.drop (gap l))).tok (o + gap l)).written = u at *
    have hu : (scan u).err = 0 := by rw [hst]; exact he
    have huw : (scan u).width = u.length := by rw [hst, hxl]
    have hpos : 1 ≤ u.length := by rw [hxl]; exact hwp
    have hs := scan_sep u (allText ts) 32 hu huw (.inl (by decide))
    have hg : gap (u ++ 32 :: allText ts) = 0 := by rw [gap_append u _ (by omega), hgz]
    obtain ⟨ts', h1, h2⟩ := ih (o' + u.length + 1)
    have hfront : LexOk (o' + u.length) (32 :: allText ts) ts' :=
      LexOk.front (G := [32]) (m := allText ts) (by show gapc false (32 :: allText ts) = _; simp [gapc, isBlank, gap]; omega) h1
    have h3 := LexOk.tok o' (u ++ 32 :: allText ts) ts' (by rw [hg]; simp) (by rw [hg, List.drop_zero, hs]; exact hu) (by
      rw [hg, List.drop_zero, hs, huw, Nat.zero_add, List.drop_left]
      exact hfront)
    rw [hg, List.drop_zero, hs] at h3
    exact ⟨_, h3, h2.cons hlike⟩

/-- two tokens that follow each other directly are no single one together -/
theorem longest (x : List UInt8) (hx : (scan x).err = 0) (hgx : gap x = 0) (hy : (scan (x.drop (scan x).width)).err = 0) (hgy : gap (x.drop (scan x).width) = 0) {ts : List Tok}
    (h : LexOk 0 (x.take ((scan x).width + (scan (x.drop (scan x).width)).width)) ts) : ts.length ≠ 1 := by
  have hw := width_pos hx
  have hwl := width_le hx
  have hw2 := width_pos hy
  have hwl2 := width_le hy
  rw [List.length_drop] at hwl2
  have hs := scan_take x ((scan x).width + (scan (x.drop (scan x).width)).width) hx (by omega)
  have hg : gap (x.take ((scan x).width + (scan (x.drop (scan x).width)).width)) = 0 := by rw [gap_take, hgx, Nat.min_zero]
  cases h with
  | done => simp
  | tok _ _ ts h he hr =>
    rw [hg, List.drop_zero, hs, Nat.zero_add, drop_take', Nat.add_sub_cancel_left] at hr
    cases hr with
    | done _ _ h2 =>
      rw [gap_take, hgy, Nat.min_zero, List.drop_zero] at h2
      have := congrArg List.length h2
      rw [List.length_take, List.length_drop] at this
      simp at this
      omega
    | tok => simp
end Lx
end Go.Proofs.YtldnfdghkdibmaaGreatDoor

/-
  Layer 11 in plain Lean: how rules are read out of tokens; what is read of the text of rules.
-/
set_option linter.unusedVariables false
namespace Go.Proofs.YtldnfdghkdibmaaGreatDoor
namespace Rul
/-- a token: its kind, its offset, its number, its text -/
abbrev TP := Int × Int × Int × Str
def tp (t : Lx.Tok) : TP := (t.kind, t.pos, t.n, t.text)
abbrev Flt := Int × Int
abbrev wRules : Str := [114, 117, 108, 101, 115]
abbrev wTo : Str := [116, 111]
abbrev wBefore : Str := [98, 101, 102, 111, 114, 101]
abbrev wAt : Str := [97, 116]
abbrev wEnd : Str := [101, 110, 100]
def nextT (e : Int) : List TP → TP
  | [] => (0, e, 0, [])
  | t :: _ => t
def takeM (e kind : Int) (txt : Str) (ts : List TP) : Except Flt (TP × List TP) :=
  if (nextT e ts).1 == 0 then .error (6, e)
  else if !((nextT e ts).1 == kind) || (!(txt == []) && !((nextT e ts).2.2.2 == txt)) then .error (5, (nextT e ts).2.1)
  else .ok (nextT e ts, ts.drop 1)
def textM (e lo hi : Int) (ts : List TP) : Except Flt (Str × List TP) :=
  (takeM e 3 [] ts).bind fun x => if plainB x.1.2.2.2 lo hi then .ok (x.1.2.2.2, x.2) else .error (1, x.1.2.1)
def tailM (e : Int) (f t : Str) (ts : List TP) : Except Flt (Rule × List TP) :=
  if (nextT e ts).1 == 1 then
    if (nextT e ts).2.2.2 == wBefore then (takeM e 1 wBefore ts).bind fun x => (textM e 1 30 x.2).bind fun y => .ok ((f, t, y.1, false), y.2)
    else if (nextT e ts).2.2.2 == wAt then (takeM e 1 wAt ts).bind fun x => (takeM e 1 wEnd x.2).bind fun y => .ok ((f, t, [], true), y.2)
    else .ok ((f, t, [], false), ts)
  else .ok ((f, t, [], false), ts)
def ruleM (e : Int) (ts : List TP) : Except Flt (Rule × List TP) :=
  (textM e 1 9 ts).bind fun x => (takeM e 1 wTo x.2).bind fun y => (textM e 0 9 y.2).bind fun z => tailM e x.1 z.1 z.2
/-- one more rule -/
def moreM (e : Int) (acc : List Rule) (ts : List TP) : Except Flt (List Rule × List TP) :=
  if acc.length == 80 && (nextT e ts).1 == 3 then .error (2, (nextT e ts).2.1)
  else (ruleM e ts).bind fun x => (takeM e 4 [59] x.2).bind fun y => if acc.contains x.1 then .error (8, y.1.2.1) else .ok (acc ++ [x.1], y.2)
def listM : Nat → Int → List Rule → List TP → Except Flt (List Rule)
  | 0, _, _, _ => .error (0, 0)
  | f + 1, e, acc, ts => if acc.length == 0 || decide (0 < ts.length) then (moreM e acc ts).bind fun x => listM f e x.1 x.2 else .ok acc
def headM (e : Int) (ts : List TP) : Except Flt (Str × Str × List TP) :=
  (takeM e 1 wRules ts).bind fun x => (takeM e 1 [] x.2).bind fun a => (takeM e 1 wTo a.2).bind fun y => (takeM e 1 [] y.2).bind fun b => (takeM e 4 [59] b.2).bind fun z => .ok (a.1.2.2.2, b.1.2.2.2, z.2)
def rulesM (e : Int) (ts : List TP) : Except Flt Rules := (headM e ts).bind fun x => (listM (x.2.2.length + 1) e [] x.2.2).bind fun l => .ok (x.1, x.2.1, l)
def parseB (s : Str) : Rules × Int × Int :=
  if (Lx.lex s).2.1 == 0 then match rulesM s.length ((Lx.lex s).1.map tp) with
    | .ok r => (r, 0, 0)
    | .error x => (([], [], []), x.1, x.2)
  else (([], [], []), (Lx.lex s).2.1, (Lx.lex s).2.2)

/-! what is left grows shorter -/
theorem takeM_ok {e k : Int} {s : Str} {ts : List TP} {x : TP × List TP} (h : takeM e k s ts = .ok x) : ∃ r, ts = x.1 :: r ∧ x.2 = r ∧ x.1.1 = k ∧ x.1.1 ≠ 0 ∧ (s ≠ [] → x.1.2.2.2 = s) := by
  unfold takeM at h
  split at h
  · cases h
  · rename_i h0
    split at h
    · cases h
    · rename_i h1
      injection h with h
      subst h
      cases ts with
      | nil => exact absurd rfl h0
      | cons t r =>
        refine ⟨r, rfl, rfl, ?_, ?_, ?_⟩
        · simp [nextT] at h1 ⊢
          exact h1.1
        · simpa [nextT] using h0
        · intro hs
          simp [nextT] at h1 ⊢
          exact h1.2 hs
theorem textM_ok {e lo hi : Int} {ts : List TP} {x : Str × List TP} (h : textM e lo hi ts = .ok x) : ∃ t r, ts = t :: r ∧ x = (t.2.2.2, r) ∧ t.1 = 3 ∧ plainB t.2.2.2 lo hi = true := by
  unfold textM at h
  cases ht : takeM e 3 [] ts with
  | error y => rw [ht] at h; cases h
  | ok y =>
    rw [ht] at h
    obtain ⟨r, h1, h2, h3, _⟩ := takeM_ok ht
    have h : (if plainB y.1.2.2.2 lo hi then (Except.ok (y.1.2.2.2, y.2) : Except Flt (Str × List TP)) else .error (1, y.1.2.1)) = Except.ok x := h
    split at h
    · rename_i hp
      injection h with h
      exact ⟨y.1, r, h1, by rw [← h, h2], h3, hp⟩
    · cases h
theorem tailM_ok {e : Int} {f t : Str} {ts : List TP} {x : Rule × List TP} (h : tailM e f t ts = .ok x) : x.1.1 = f ∧ x.1.2.1 = t ∧ ((x.1.2.2.1 = [] ∧ x.1.2.2.2 = false ∧ x.2 = ts) ∨ (plainB x.1.2.2.1 1 30 = true ∧ x.1.2.2.2 = false ∧ x.2.length < ts.length) ∨ (x.1.2.2.1 = [] ∧ x.1.2.2.2 = true ∧ x.2.length < ts.length)) := by
  unfold tailM at h
  split at h
  · split at h
    · cases h1 : takeM e 1 wBefore ts with
      | error y => rw [h1] at h; cases h
      | ok y =>
        rw [h1] at h
        obtain ⟨r, q1, q2, _⟩ := takeM_ok h1
        have h : ((textM e 1 30 y.2).bind fun y => Except.ok ((f, t, y.1, false), y.2)) = Except.ok x := h
        cases h2 : textM e 1 30 y.2 with
        | error z => rw [h2] at h; cases h
        | ok z =>
          rw [h2] at h
          obtain ⟨t', r', q3, q4, _, q5⟩ := textM_ok h2
          injection h with h
          subst h
          refine ⟨rfl, rfl, .inr (.inl ⟨?_, rfl, ?_⟩)⟩
          · rw [q4]; exact q5
          · rw [q4, q1, ← q2, q3]; simp; omega
    · split at h
      · cases h1 : takeM e 1 wAt ts with
        | error y => rw [h1] at h; cases h
        | ok y =>
          rw [h1] at h
          obtain ⟨r, q1, q2, _⟩ := takeM_ok h1
          have h : ((takeM e 1 wEnd y.2).bind fun y => Except.ok ((f, t, [], true), y.2)) = Except.ok x := h
          cases h2 : takeM e 1 wEnd y.2 with
          | error z => rw [h2] at h; cases h
          | ok z =>
            rw [h2] at h
            obtain ⟨r', q3, q4, _⟩ := takeM_ok h2
            injection h with h
            subst h
            refine ⟨rfl, rfl, .inr (.inr ⟨rfl, rfl, ?_⟩)⟩
            rw [q1, ← q2, q3, q4]; simp; omega
      · injection h with h
        subst h
        exact ⟨rfl, rfl, .inl ⟨rfl, rfl, rfl⟩⟩
  · injection h with h
    subst h
    exact ⟨rfl, rfl, .inl ⟨rfl, rfl, rfl⟩⟩
theorem plainB_nil : plainB [] 0 30 = true := rfl
theorem plainB_wide {s : Str} {lo hi lo' hi' : Int} (h : plainB s lo hi = true) (h1 : lo' ≤ lo) (h2 : hi ≤ hi') : plainB s lo' hi' = true := by
  unfold plainB at h ⊢
  rw [Bool.and_eq_true, Bool.and_eq_true, decide_eq_true_iff, decide_eq_true_iff] at h ⊢
  exact ⟨h.1, by omega, by omega⟩
theorem ruleM_ok {e : Int} {ts : List TP} {x : Rule × List TP} (h : ruleM e ts = .ok x) : okRule x.1 = true ∧ x.2.length < ts.length ∧ (nextT e ts).1 = 3 := by
  unfold ruleM at h
  cases h1 : textM e 1 9 ts with
  | error y => rw [h1] at h; cases h
  | ok y =>
    rw [h1] at h
    obtain ⟨t1, r1, p1, p2, p3, p4⟩ := textM_ok h1
    have h : ((takeM e 1 wTo y.2).bind fun q => (textM e 0 9 q.2).bind fun z => tailM e y.1 z.1 z.2) = Except.ok x := h
    cases h2 : takeM e 1 wTo y.2 with
    | error z => rw [h2] at h; cases h
    | ok z =>
      rw [h2] at h
      obtain ⟨r2, q1, q2, _⟩ := takeM_ok h2
      have h : ((textM e 0 9 z.2).bind fun z => tailM e y.1 z.1 z.2) = Except.ok x := h
      cases h3 : textM e 0 9 z.2 with
      | error u => rw [h3] at h; cases h
      | ok u =>
        rw [h3] at h
        obtain ⟨t3, r3, s1, s2, _, s4⟩ := textM_ok h3
        have h : tailM e y.1 u.1 u.2 = Except.ok x := h
        obtain ⟨k1, k2, k3⟩ := tailM_ok h
        have hy : y.1 = t1.2.2.2 := by rw [p2]
        have hu : u.1 = t3.2.2.2 := by rw [s2]
        have hl : u.2.length + 3 = ts.length := by
          rw [s2, p1]
          have e1 : y.2 = r1 := by rw [p2]
          have : r1.length = r3.length + 2 := by rw [← e1, q1, ← q2, s1]; simp
          simp [this]
        have hpl : plainB x.1.2.2.1 0 30 = true := by
          rcases k3 with ⟨k, _⟩ | ⟨k, _⟩ | ⟨k, _⟩
          · rw [k]; rfl
          · exact plainB_wide k (by omega) (by omega)
          · rw [k]; rfl
        refine ⟨?_, ?_, ?_⟩
        · unfold okRule
          rw [k1, hy, p4, k2, hu, s4, hpl]
          rcases k3 with ⟨k, k', _⟩ | ⟨k, k', _⟩ | ⟨k, k', _⟩
          · rw [k, k']; rfl
          · rw [k']; rfl
          · rw [k, k']; rfl
        · rcases k3 with ⟨_, _, k⟩ | ⟨_, _, k⟩ | ⟨_, _, k⟩
          · rw [k]; omega
          · omega
          · omega
        · rw [p1]; exact p3
theorem once_snoc : ∀ (l : List Rule) (x : Rule), once (l ++ [x]) = (once l && !(l.contains x))
  | [], x => by simp [once]
  | a :: l, x => by
    show (!((l ++ [x]).any fun y => a == y) && once (l ++ [x])) = _
    rw [once_snoc l x, List.any_append, show once (a :: l) = (!(l.any fun y => a == y) && once l) from rfl, List.contains_cons]
    simp only [List.any_cons, List.any_nil, Bool.or_false]
    have : (x == a) = (a == x) := by rw [Bool.eq_iff_iff, beq_iff_eq, beq_iff_eq]; exact eq_comm
    rw [this]
    cases l.any (fun y => a == y) <;> cases (a == x) <;> cases once l <;> cases l.contains x <;> rfl
theorem moreM_ok {e : Int} {acc : List Rule} {ts : List TP} {x : List Rule × List TP} (h : moreM e acc ts = .ok x) (ha : acc.length ≤ 80) (hok : acc.all okRule = true) (ho : once acc = true) :
    x.2.length < ts.length ∧ 1 ≤ x.1.length ∧ x.1.length ≤ 80 ∧ x.1.all okRule = true ∧ once x.1 = true := by
  unfold moreM at h
  split at h
  · cases h
  · rename_i h80
    cases h1 : ruleM e ts with
    | error y => rw [h1] at h; cases h
    | ok y =>
      rw [h1] at h
      obtain ⟨p1, p2, p3⟩ := ruleM_ok h1
      have h : ((takeM e 4 [59] y.2).bind fun z => if acc.contains y.1 then .error (8, z.1.2.1) else Except.ok (acc ++ [y.1], z.2)) = Except.ok x := h
      cases h2 : takeM e 4 [59] y.2 with
      | error z => rw [h2] at h; cases h
      | ok z =>
        rw [h2] at h
        obtain ⟨r, q1, q2, _⟩ := takeM_ok h2
        have h : (if acc.contains y.1 then (.error (8, z.1.2.1) : Except Flt (List Rule × List TP)) else Except.ok (acc ++ [y.1], z.2)) = Except.ok x := h
        split at h
        · cases h
        · rename_i hc
          injection h with h
          subst h
          have hne : acc.length ≠ 80 := fun e80 => h80 (by rw [e80, p3]; rfl)
          have hl : y.2.length = z.2.length + 1 := by rw [q1, q2]; simp
          refine ⟨by show z.2.length < _; omega, by simp, by rw [List.length_append, List.length_singleton]; omega, ?_, ?_⟩
          · rw [List.all_append, hok]; simp [p1]
          · rw [once_snoc, ho]; simpa using hc
/-- enough steps are as good as more -/
theorem listM_fuel (e : Int) : ∀ (f g : Nat) (acc : List Rule) (ts : List TP), ts.length < f → ts.length < g → acc.length ≤ 80 → acc.all okRule = true → once acc = true → listM f e acc ts = listM g e acc ts
  | 0, _, _, _, h, _, _, _, _ => by omega
  | _ + 1, 0, _, _, _, h, _, _, _ => by omega
  | f + 1, g + 1, acc, ts, h1, h2, ha, hok, ho => by
    show (if acc.length == 0 || decide (0 < ts.length) then (moreM e acc ts).bind fun x => listM f e x.1 x.2 else .ok acc) = (if acc.length == 0 || decide (0 < ts.length) then (moreM e acc ts).bind fun x => listM g e x.1 x.2 else .ok acc)
    split
    · cases hm : moreM e acc ts with
      | error y => rfl
      | ok y =>
        obtain ⟨p1, _, p3, p4, p5⟩ := moreM_ok hm ha hok ho
        exact listM_fuel e f g y.1 y.2 (by omega) (by omega) p3 p4 p5
    · rfl
theorem listM_ok (e : Int) : ∀ (f : Nat) (acc : List Rule) (ts : List TP) (l : List Rule), listM f e acc ts = .ok l → acc.length ≤ 80 → acc.all okRule = true → once acc = true → 1 ≤ l.length ∧ l.length ≤ 80 ∧ l.all okRule = true ∧ once l = true
  | 0, _, _, _, h, _, _, _ => by cases h
  | f + 1, acc, ts, l, h, ha, hok, ho => by
    have h : (if acc.length == 0 || decide (0 < ts.length) then (moreM e acc ts).bind fun x => listM f e x.1 x.2 else .ok acc) = Except.ok l := h
    split at h
    · cases hm : moreM e acc ts with
      | error y => rw [hm] at h; cases h
      | ok y =>
        rw [hm] at h
        obtain ⟨_, _, p3, p4, p5⟩ := moreM_ok hm ha hok ho
        exact listM_ok e f y.1 y.2 l h p3 p4 p5
    · rename_i hn
      injection h with h
      subst h
      refine ⟨?_, ha, hok, ho⟩
      have : ¬ acc.length = 0 := fun e => hn (by rw [e]; rfl)
      omega
/-! offsets do not matter -/
def er (t : TP) : TP := (t.1, 0, 0, t.2.2.2)
def erE {α β : Type} (g : α → β) : Except Flt α → Except Flt β
  | .ok x => .ok (g x)
  | .error x => .error (x.1, 0)
theorem erE_bind {α β γ δ : Type} {g : α → γ} {h : β → δ} {x : Except Flt α} {y : Except Flt γ} {f : α → Except Flt β} {f' : γ → Except Flt δ} (hx : erE g x = y) (hf : ∀ a, erE h (f a) = f' (g a)) : erE h (x.bind f) = y.bind f' := by
  subst hx
  cases x with
  | ok a => exact hf a
  | error a => rfl
theorem next_er (e : Int) (ts : List TP) : (nextT 0 (ts.map er)).1 = (nextT e ts).1 ∧ (nextT 0 (ts.map er)).2.2.2 = (nextT e ts).2.2.2 ∧ (nextT 0 (ts.map er)).2.1 = 0 := by
  cases ts <;> exact ⟨rfl, rfl, rfl⟩
theorem take_er (e k : Int) (s : Str) (ts : List TP) : erE (fun x => (er x.1, x.2.map er)) (takeM e k s ts) = takeM 0 k s (ts.map er) := by
  obtain ⟨h1, h2, h3⟩ := next_er e ts
  unfold takeM
  rw [h1, h2, h3]
  split
  · rfl
  · rename_i h0
    split
    · rfl
    · cases ts with
      | nil => exact absurd rfl h0
      | cons t r => simp [erE, nextT]
theorem text_er (e lo hi : Int) (ts : List TP) : erE (fun x => (x.1, x.2.map er)) (textM e lo hi ts) = textM 0 lo hi (ts.map er) := by
  refine erE_bind (take_er e 3 [] ts) fun a => ?_
  show erE _ (if plainB a.1.2.2.2 lo hi then _ else _) = if plainB a.1.2.2.2 lo hi then _ else _
  split <;> rfl
theorem tail_er (e : Int) (f t : Str) (ts : List TP) : erE (fun x => (x.1, x.2.map er)) (tailM e f t ts) = tailM 0 f t (ts.map er) := by
  obtain ⟨h1, h2, h3⟩ := next_er e ts
  unfold tailM
  rw [h1, h2]
  split
  · split
    · exact erE_bind (take_er e 1 wBefore ts) fun a => erE_bind (text_er e 1 30 a.2) fun b => rfl
    · split
      · exact erE_bind (take_er e 1 wAt ts) fun a => erE_bind (take_er e 1 wEnd a.2) fun b => rfl
      · rfl
  · rfl
theorem rule_er (e : Int) (ts : List TP) : erE (fun x => (x.1, x.2.map er)) (ruleM e ts) = ruleM 0 (ts.map er) :=
  erE_bind (text_er e 1 9 ts) fun a => erE_bind (take_er e 1 wTo a.2) fun b => erE_bind (text_er e 0 9 b.2) fun c => tail_er e a.1 c.1 c.2
theorem more_er (e : Int) (acc : List Rule) (ts : List TP) : erE (fun x => (x.1, x.2.map er)) (moreM e acc ts) = moreM 0 acc (ts.map er) := by
  obtain ⟨h1, h2, h3⟩ := next_er e ts
  unfold moreM
  rw [h1, h3]
  split
  · rfl
  · refine erE_bind (rule_er e ts) fun a => erE_bind (take_er e 4 [59] a.2) fun b => ?_
    show erE _ (if acc.contains a.1 then _ else _) = if acc.contains a.1 then _ else _
    split <;> rfl
theorem list_er (e : Int) : ∀ (f : Nat) (acc : List Rule) (ts : List TP), erE id (listM f e acc ts) = listM f 0 acc (ts.map er)
  | 0, _, _ => rfl
  | f + 1, acc, ts => by
    show erE id (if acc.length == 0 || decide (0 < ts.length) then _ else _) = if acc.length == 0 || decide (0 < (ts.map er).length) then _ else _
    rw [List.length_map]
    split
    · exact erE_bind (more_er e acc ts) fun a => list_er e f a.1 a.2
    · rfl
theorem head_er (e : Int) (ts : List TP) : erE (fun x => (x.1, x.2.1, x.2.2.map er)) (headM e ts) = headM 0 (ts.map er) :=
  erE_bind (take_er e 1 wRules ts) fun a => erE_bind (take_er e 1 [] a.2) fun b => erE_bind (take_er e 1 wTo b.2) fun c => erE_bind (take_er e 1 [] c.2) fun d => erE_bind (take_er e 4 [59] d.2) fun x => rfl
theorem rules_er (e : Int) (ts : List TP) : erE id (rulesM e ts) = rulesM 0 (ts.map er) := by
  refine erE_bind (head_er e ts) fun a => ?_
  show _ = ((listM ((a.2.2.map er).length + 1) 0 [] (a.2.2.map er)).bind fun l => Except.ok (a.1, a.2.1, l))
  rw [List.length_map]
  exact erE_bind (list_er e _ [] a.2.2) fun b => rfl
theorem headM_ok {e : Int} {ts : List TP} {x : Str × Str × List TP} (h : headM e ts = .ok x) : ∃ a b t1 t2 t3, ts = t1 :: a :: t2 :: b :: t3 :: x.2.2 ∧ a.1 = 1 ∧ b.1 = 1 ∧ x.1 = a.2.2.2 ∧ x.2.1 = b.2.2.2 := by
  unfold headM at h
  cases h1 : takeM e 1 wRules ts with
  | error y => rw [h1] at h; cases h
  | ok y1 =>
    rw [h1] at h
    obtain ⟨r1, a1, a2, _⟩ := takeM_ok h1
    have h : ((takeM e 1 [] y1.2).bind fun a => (takeM e 1 wTo a.2).bind fun y => (takeM e 1 [] y.2).bind fun b => (takeM e 4 [59] b.2).bind fun z => Except.ok (a.1.2.2.2, b.1.2.2.2, z.2)) = .ok x := h
    cases h2 : takeM e 1 [] y1.2 with
    | error y => rw [h2] at h; cases h
    | ok y2 =>
      rw [h2] at h
      obtain ⟨r2, b1, b2, b3, _⟩ := takeM_ok h2
      have h : ((takeM e 1 wTo y2.2).bind fun y => (takeM e 1 [] y.2).bind fun b => (takeM e 4 [59] b.2).bind fun z => Except.ok (y2.1.2.2.2, b.1.2.2.2, z.2)) = .ok x := h
      cases h3 : takeM e 1 wTo y2.2 with
      | error y => rw [h3] at h; cases h
      | ok y3 =>
        rw [h3] at h
        obtain ⟨r3, c1, c2, _⟩ := takeM_ok h3
        have h : ((takeM e 1 [] y3.2).bind fun b => (takeM e 4 [59] b.2).bind fun z => Except.ok (y2.1.2.2.2, b.1.2.2.2, z.2)) = .ok x := h
        cases h4 : takeM e 1 [] y3.2 with
        | error y => rw [h4] at h; cases h
        | ok y4 =>
          rw [h4] at h
          obtain ⟨r4, d1, d2, d3, _⟩ := takeM_ok h4
          have h : ((takeM e 4 [59] y4.2).bind fun z => Except.ok (y2.1.2.2.2, y4.1.2.2.2, z.2)) = .ok x := h
          cases h5 : takeM e 4 [59] y4.2 with
          | error y => rw [h5] at h; cases h
          | ok y5 =>
            rw [h5] at h
            obtain ⟨r5, e1, e2, _⟩ := takeM_ok h5
            injection h with h
            subst h
            refine ⟨y2.1, y4.1, y1.1, y3.1, y5.1, ?_, b3, d3, rfl, rfl⟩
            rw [a1, ← a2, b1, ← b2, c1, ← c2, d1, ← d2, e1, e2]
end Rul
end Go.Proofs.YtldnfdghkdibmaaGreatDoor

/-
  Layer 11 in plain Lean: the tokens of the text of rules; reading them gives the rules.
-/
set_option linter.unusedVariables false
namespace Go.Proofs.YtldnfdghkdibmaaGreatDoor
namespace Lx
/-- what Lex is at a text with at most 5000 tokens -/
theorem lexAt_few {o : Nat} {l : List UInt8} {ts : List Tok} (h : LexOk o l ts) : ∀ (f : Nat) (out : List Tok), (l.drop (gap l)).length < f → out.length + ts.length ≤ 5000 → lexAt f out (o + gap l) (l.drop (gap l)) = (out ++ ts, 0, 0) := by
  induction h with
  | done o l h =>
    intro f out _ _
    rw [h, lexAt_nil, List.append_nil]
  | tok o l ts h he hr ih =>
    intro f out hf ho
    rw [List.length_cons] at ho
    cases f with
    | zero => omega
    | succ f =>
      have hw := width_pos he
      have hw2 := width_le he
      rw [← List.drop_drop] at ih
      generalize hm : l.drop (gap l) = m at *
      cases m with
      | nil => exact absurd rfl h
      | cons c r =>
        rw [lexAt_tok f out _ c r he (by omega)]
        have := ih f (out ++ [(scan (c :: r)).tok (o + gap l)]) (by
          rw [List.length_drop, List.length_drop]
          rw [List.length_cons] at hf hw2 ⊢
          omega) (by rw [List.length_append, List.length_singleton]; omega)
        rw [this]; simp
theorem lex_few {l : List UInt8} (h : l.length ≤ 20000) {ts : List Tok} (hl : LexOk 0 l ts) (hn : ts.length ≤ 5000) : lex l = (ts, 0, 0) := by
  unfold lex
  rw [if_neg (by omega)]
  have := lexAt_few hl (l.length + 1) [] (by rw [List.length_drop]; omega) (by simpa using hn)
  rwa [Nat.zero_add] at this
theorem ok_one {o : Nat} {l : List UInt8} {k : Int} {n : Int} {t : List UInt8} {wd : Nat} {ts : List Tok} (hg : gap l = 0) (hne : l ≠ []) (hs : scan l = ⟨0, k, n, t, wd⟩) (hr : LexOk (o + wd) (l.drop wd) ts) :
    LexOk o l (⟨k, o, n, t⟩ :: ts) := by
  have h := LexOk.tok o l ts (by rw [hg]; exact hne) (by rw [hg, List.drop_zero, hs]) (by rw [hg, List.drop_zero, hs, Nat.add_zero, Nat.zero_add]; exact hr)
  rw [hg, List.drop_zero, hs] at h
  exact h
theorem zero_gap {c : UInt8} (r : List UInt8) (h1 : isBlank c = false) (h2 : (c == 35) = false) : gap (c :: r) = 0 := by
  simp only [gap, gapc, h1, h2, Bool.false_eq_true, if_false]
theorem all_span (p : UInt8 → Bool) (q r : List UInt8) (c : UInt8) (hq : ∀ b ∈ q, p b = true) (hc : p c = false) : span p (q ++ c :: r) = q.length := by
  induction q with
  | nil => rw [List.nil_append, span_stop' hc]; rfl
  | cons a q ih =>
    rw [List.cons_append, span_cons' (hq a (by simp)), ih (fun b hb => hq b (by simp [hb]))]
    rfl
theorem plain_letter (c : UInt8) (h : isLetter c = true) : isBlank c = false ∧ (c == 35) = false := by
  have H : ∀ c : Fin 256, isLetter (UInt8.ofNat c.val) = true → isBlank (UInt8.ofNat c.val) = false ∧ (UInt8.ofNat c.val == 35) = false := by decide +kernel
  have h1 := H ⟨c.toNat, UInt8.toNat_lt c⟩
  simp only [UInt8.ofNat_toNat] at h1
  exact h1 h
theorem name_scan (nm r : List UInt8) (c : UInt8) (h : nameB nm = true) (hc : isWord c = false) : scan (nm ++ c :: r) = ⟨0, 1, 0, nm, nm.length⟩ ∧ gap (nm ++ c :: r) = 0 := by
  unfold nameB at h
  rw [Bool.and_eq_true, Bool.and_eq_true, Bool.and_eq_true, decide_eq_true_eq, decide_eq_true_eq, List.all_eq_true] at h
  obtain ⟨⟨h1, h2, h3⟩, h4⟩ := h
  cases nm with
  | nil => cases h4
  | cons a q =>
    simp only [] at h4
    have hsp := all_span isWord q r c (fun b hb => h1 b (by simp [hb])) hc
    have hp := plain_letter a h4
    refine ⟨?_, zero_gap _ hp.1 hp.2⟩
    rw [List.cons_append, scan, if_pos h4]
    simp only []
    rw [hsp, if_neg (by rw [List.length_cons] at h3; omega), List.length_cons]
    congr 1
    rw [← List.cons_append, show q.length + 1 = (a :: q).length from rfl, List.take_left]
theorem text_scan (tx r : List UInt8) (h : ∀ c ∈ tx, inText c = true) (h2 : tx.length ≤ 400) : scan (34 :: (tx ++ 34 :: r)) = ⟨0, 3, 0, tx, tx.length + 2⟩ ∧ gap (34 :: (tx ++ 34 :: r)) = 0 := by
  have hsp := all_span inText tx r 34 h (by decide)
  refine ⟨?_, zero_gap _ (by decide) (by decide)⟩
  rw [scan, if_neg (by decide), if_neg (by decide), if_pos (by decide)]
  simp only []
  rw [hsp, List.drop_left, if_pos (by rfl), if_neg (by omega), List.take_left]
end Lx
namespace Rul
open Lx (isBlank isWord nameB inText gap scan LexOk)
/-- the tokens of a text, but their offsets -/
def LexR (l : Str) (us : List TP) : Prop := ∀ o, ∃ ts, Lx.LexOk o l ts ∧ ts.map (fun t => er (tp t)) = us
theorem LexR.nil : LexR [] [] := fun o => ⟨[], .done _ _ rfl, rfl⟩
theorem LexR.blank {c : UInt8} {l : Str} {us : List TP} (hc : isBlank c = true) (h : LexR l us) : LexR (c :: l) us := fun o => by
  obtain ⟨ts, h1, h2⟩ := h (o + 1)
  exact ⟨ts, LexOk.front (G := [c]) (m := l) (by show Lx.gapc false (c :: l) = _; simp [Lx.gapc, hc, Lx.gap]; omega) h1, h2⟩
theorem LexR.name {nm : Str} {c : UInt8} {l : Str} {us : List TP} (hn : nameB nm = true) (hc : isWord c = false) (h : LexR (c :: l) us) : LexR (nm ++ c :: l) ((1, 0, 0, nm) :: us) := fun o => by
  obtain ⟨ts, h1, h2⟩ := h (o + nm.length)
  obtain ⟨s1, s2⟩ := Lx.name_scan nm l c hn hc
  exact ⟨_, Lx.ok_one s2 (by simp) s1 (by rw [List.drop_left]; exact h1), by rw [List.map_cons, h2]; rfl⟩
theorem LexR.text {tx : Str} {l : Str} {us : List TP} (ht : ∀ c ∈ tx, inText c = true) (hl : tx.length ≤ 400) (h : LexR l us) : LexR (34 :: (tx ++ 34 :: l)) ((3, 0, 0, tx) :: us) := fun o => by
  obtain ⟨ts, h1, h2⟩ := h (o + (tx.length + 2))
  obtain ⟨s1, s2⟩ := Lx.text_scan tx l ht hl
  refine ⟨_, Lx.ok_one s2 (by simp) s1 ?_, by rw [List.map_cons, h2]; rfl⟩
  have : (34 :: (tx ++ 34 :: l)).drop (tx.length + 2) = l := by
    rw [show (34 :: (tx ++ 34 :: l)) = (34 :: (tx ++ [34])) ++ l by simp, show tx.length + 2 = (34 :: (tx ++ [34])).length by simp, List.drop_left]
  rw [this]; exact h1
theorem LexR.semi {l : Str} {us : List TP} (h : LexR l us) : LexR (59 :: 10 :: l) ((4, 0, 0, [59]) :: us) := fun o => by
  obtain ⟨ts, h1, h2⟩ := h.blank (c := 10) (by decide) (o + 1)
  refine ⟨_, Lx.ok_one (k := 4) (n := 0) (t := [59]) (wd := 1) (Lx.zero_gap _ (by decide) (by decide)) (by simp) ?_ (by rw [List.drop_succ_cons, List.drop_zero]; exact h1), by rw [List.map_cons, h2]; rfl⟩
  rw [scan, if_neg (by decide), if_neg (by decide), if_neg (by decide), if_neg (by simp), if_pos (by decide)]
/-! the tokens of the text of rules -/
def toksR (x : Rule) : List TP :=
  [(3, 0, 0, x.1), (1, 0, 0, wTo), (3, 0, 0, x.2.1)] ++ (if x.2.2.2 then [(1, 0, 0, wAt), (1, 0, 0, wEnd)] else if x.2.2.1 = [] then [] else [(1, 0, 0, wBefore), (3, 0, 0, x.2.2.1)]) ++ [(4, 0, 0, [59])]
def toksL (r : Rules) : List TP := [(1, 0, 0, wRules), (1, 0, 0, r.1), (1, 0, 0, wTo), (1, 0, 0, r.2.1), (4, 0, 0, [59])] ++ r.2.2.flatMap toksR
theorem okByte_text (c : UInt8) (h : Al.okByte c = true) : inText c = true := by
  have H : ∀ c : Fin 256, Al.okByte (UInt8.ofNat c.val) = true → inText (UInt8.ofNat c.val) = true := by decide +kernel
  have h1 := H ⟨c.toNat, UInt8.toNat_lt c⟩
  simp only [UInt8.ofNat_toNat] at h1
  exact h1 h
theorem plain_text {s : Str} {lo hi : Int} (h : plainB s lo hi = true) : (∀ c ∈ s, inText c = true) ∧ lo ≤ s.length ∧ (s.length : Int) ≤ hi := by
  unfold plainB at h
  rw [Bool.and_eq_true, Bool.and_eq_true, decide_eq_true_iff, decide_eq_true_iff] at h
  exact ⟨fun c hc => okByte_text c (List.all_eq_true.1 h.1 c hc), h.2.1, h.2.2⟩
theorem okRule_out {x : Rule} (h : okRule x = true) : plainB x.1 1 9 = true ∧ plainB x.2.1 0 9 = true ∧ plainB x.2.2.1 0 30 = true ∧ (x.2.2.2 = true → x.2.2.1 = []) := by
  unfold okRule at h
  rw [Bool.and_eq_true, Bool.and_eq_true, Bool.and_eq_true] at h
  refine ⟨h.1, h.2.1, h.2.2.1, fun he => ?_⟩
  have := h.2.2.2
  rw [he] at this
  simpa using this
theorem lex_rule {x : Rule} (h : okRule x = true) {l : Str} {us : List TP} (hl : LexR l us) : LexR (textR x ++ l) (toksR x ++ us) := by
  obtain ⟨h1, h2, h3, h4⟩ := okRule_out h
  obtain ⟨p1, _, p1'⟩ := plain_text h1
  obtain ⟨p2, _, p2'⟩ := plain_text h2
  obtain ⟨p3, _, p3'⟩ := plain_text h3
  have hb : ∀ {l us}, LexR l us → LexR (32 :: l) us := fun h => h.blank (by decide)
  have hnm : ∀ {nm : Str} {l us}, nameB nm = true → LexR l us → LexR (nm ++ 32 :: l) ((1, 0, 0, nm) :: us) := fun hn h => LexR.name hn (by decide) (hb h)
  unfold textR toksR quo
  have front : ∀ {m : Str} {vs : List TP}, LexR m vs → LexR (34 :: (x.1 ++ 34 :: 32 :: (wTo ++ 32 :: 34 :: (x.2.1 ++ 34 :: m)))) ((3, 0, 0, x.1) :: (1, 0, 0, wTo) :: (3, 0, 0, x.2.1) :: vs) := fun h =>
    LexR.text p1 (by omega) (hb (hnm (by decide) (LexR.text p2 (by omega) h)))
  split
  · have e1 : ([34] ++ x.1 ++ [34] ++ [32, 116, 111, 32] ++ ([34] ++ x.2.1 ++ [34]) ++ [32, 97, 116, 32, 101, 110, 100] ++ [59, 10] ++ l : Str) = 34 :: (x.1 ++ 34 :: 32 :: (wTo ++ 32 :: 34 :: (x.2.1 ++ 34 :: (32 :: (wAt ++ 32 :: (wEnd ++ 59 :: 10 :: l)))))) := by simp
    rw [e1]
    simpa using front (hb (hnm (nm := wAt) (by decide) (LexR.name (nm := wEnd) (by decide) (by decide) hl.semi)))
  · split
    · have e1 : ([34] ++ x.1 ++ [34] ++ [32, 116, 111, 32] ++ ([34] ++ x.2.1 ++ [34]) ++ [] ++ [59, 10] ++ l : Str) = 34 :: (x.1 ++ 34 :: 32 :: (wTo ++ 32 :: 34 :: (x.2.1 ++ 34 :: (59 :: 10 :: l)))) := by simp
      rw [e1]
      simpa using front hl.semi
    · have e1 : ([34] ++ x.1 ++ [34] ++ [32, 116, 111, 32] ++ ([34] ++ x.2.1 ++ [34]) ++ ([32, 98, 101, 102, 111, 114, 101, 32] ++ ([34] ++ x.2.2.1 ++ [34])) ++ [59, 10] ++ l : Str) = 34 :: (x.1 ++ 34 :: 32 :: (wTo ++ 32 :: 34 :: (x.2.1 ++ 34 :: (32 :: (wBefore ++ 32 :: 34 :: (x.2.2.1 ++ 34 :: 59 :: 10 :: l)))))) := by simp
      rw [e1]
      simpa using front (hb (hnm (nm := wBefore) (by decide) (LexR.text p3 (by omega) hl.semi)))
theorem lex_rules {r : List Rule} (h : r.all okRule = true) : LexR (r.flatMap textR) (r.flatMap toksR) := by
  induction r with
  | nil => exact .nil
  | cons x r ih =>
    rw [List.all_cons, Bool.and_eq_true] at h
    rw [List.flatMap_cons, List.flatMap_cons]
    exact lex_rule h.1 (ih h.2)
theorem formed_out {r : Rules} (h : formedB r = true) : nameB r.1 = true ∧ nameB r.2.1 = true ∧ 1 ≤ r.2.2.length ∧ r.2.2.length ≤ 80 ∧ r.2.2.all okRule = true ∧ once r.2.2 = true := by
  unfold formedB at h
  simp only [Bool.and_eq_true, decide_eq_true_iff] at h
  exact h
theorem formed_in {r : Rules} (h1 : nameB r.1 = true) (h2 : nameB r.2.1 = true) (h3 : 1 ≤ r.2.2.length) (h4 : r.2.2.length ≤ 80) (h5 : r.2.2.all okRule = true) (h6 : once r.2.2 = true) : formedB r = true := by
  unfold formedB
  simp only [Bool.and_eq_true, decide_eq_true_iff]
  exact ⟨h1, h2, h3, h4, h5, h6⟩
theorem lex_textL {r : Rules} (h : formedB r = true) : LexR (textL r) (toksL r) := by
  obtain ⟨h1, h2, _, _, h5, _⟩ := formed_out h
  have hb : ∀ {l us}, LexR l us → LexR (32 :: l) us := fun h => h.blank (by decide)
  have hnm : ∀ {nm : Str} {l us}, nameB nm = true → LexR l us → LexR (nm ++ 32 :: l) ((1, 0, 0, nm) :: us) := fun hn h => LexR.name hn (by decide) (hb h)
  have e1 : textL r = wRules ++ 32 :: (r.1 ++ 32 :: (wTo ++ 32 :: (r.2.1 ++ 59 :: 10 :: r.2.2.flatMap textR))) := by unfold textL; simp
  rw [e1]
  exact hnm (by decide) (hnm h1 (hnm (by decide) (LexR.name h2 (by decide) (lex_rules h5).semi)))
/-! reading them -/
theorem ok_bind {α β : Type} {x : α} {f : α → Except Flt β} : (Except.ok x : Except Flt α).bind f = f x := rfl
theorem take_yes {e k p n : Int} {s t : Str} {r : List TP} (hk : (k == 0) = false) (hs : s = [] ∨ t = s) : takeM e k s ((k, p, n, t) :: r) = .ok ((k, p, n, t), r) := by
  unfold takeM
  show (if k == 0 then _ else if !(k == k) || (!(s == []) && !(t == s)) then _ else Except.ok ((k, p, n, t), r)) = _
  rw [if_neg (by rw [hk]; exact Bool.noConfusion), if_neg]
  rcases hs with rfl | rfl <;> simp
theorem text_yes {e lo hi p n : Int} {t : Str} {r : List TP} (h : plainB t lo hi = true) : textM e lo hi ((3, p, n, t) :: r) = .ok (t, r) := by
  unfold textM
  rw [take_yes (by decide) (.inl rfl)]
  show (if plainB t lo hi then _ else _) = _
  rw [if_pos h]
theorem rule_yes {x : Rule} (h : okRule x = true) (r : List TP) : ruleM 0 (toksR x ++ r) = .ok (x, (4, 0, 0, [59]) :: r) := by
  obtain ⟨h1, h2, h3, h4⟩ := okRule_out h
  obtain ⟨f, t, n, en⟩ := x
  unfold ruleM toksR
  have e0 : ∀ m : List TP, ([(3, 0, 0, f), (1, 0, 0, wTo), (3, 0, 0, t)] ++ m ++ [(4, 0, 0, [59])] ++ r : List TP) = (3, 0, 0, f) :: (1, 0, 0, wTo) :: (3, 0, 0, t) :: (m ++ (4, 0, 0, [59]) :: r) := fun m => by simp
  show (textM 0 1 9 ([(3, 0, 0, f), (1, 0, 0, wTo), (3, 0, 0, t)] ++ _ ++ [(4, 0, 0, [59])] ++ r)).bind _ = _
  rw [e0, text_yes h1, ok_bind, take_yes (by decide) (.inr rfl), ok_bind, text_yes h2, ok_bind]
  cases en with
  | true =>
    obtain rfl : n = [] := h4 rfl
    show tailM 0 f t ((1, 0, 0, wAt) :: (1, 0, 0, wEnd) :: (4, 0, 0, [59]) :: r) = _
    rfl
  | false =>
    by_cases hn : n = []
    · subst hn
      show tailM 0 f t ((4, 0, 0, [59]) :: r) = _
      rfl
    · have e1 : (if false = true then [(1, 0, 0, wAt), (1, 0, 0, wEnd)] else if n = [] then [] else [(1, 0, 0, wBefore), (3, 0, 0, n)] : List TP) = [(1, 0, 0, wBefore), (3, 0, 0, n)] := by rw [if_neg (by simp), if_neg hn]
      show tailM 0 f t ((if false = true then [(1, 0, 0, wAt), (1, 0, 0, wEnd)] else if n = [] then [] else [(1, 0, 0, wBefore), (3, 0, 0, n)]) ++ _) = _
      rw [e1]
      show tailM 0 f t ((1, 0, 0, wBefore) :: (3, 0, 0, n) :: (4, 0, 0, [59]) :: r) = _
      have hp : plainB n 1 30 = true := by
        unfold plainB at h3 ⊢
        have h3 : (n.all Al.okByte && (decide ((0 : Int) ≤ n.length) && decide ((n.length : Int) ≤ 30))) = true := h3
        rw [Bool.and_eq_true, Bool.and_eq_true] at h3
        rw [h3.1, h3.2.2, Bool.true_and, Bool.and_true, decide_eq_true_iff]
        have : 0 < n.length := List.length_pos_iff.2 hn
        omega
      unfold tailM
      show ((takeM 0 1 wBefore ((1, 0, 0, wBefore) :: (3, 0, 0, n) :: (4, 0, 0, [59]) :: r)).bind fun x => (textM 0 1 30 x.2).bind fun y => Except.ok ((f, t, y.1, false), y.2)) = _
      rw [take_yes (by decide) (.inr rfl), ok_bind, text_yes hp]; rfl
theorem once_tail {x : Rule} {acc l : List Rule} (h : once (acc ++ x :: l) = true) : acc.contains x = false ∧ once (acc ++ [x]) = true := by
  have e : ∀ (a b : List Rule), once (a ++ b) = true → once a = true := by
    intro a
    induction a with
    | nil => intro b _; rfl
    | cons y a ih =>
      intro b h
      have h : (!((a ++ b).any fun z => y == z) && once (a ++ b)) = true := h
      rw [Bool.and_eq_true] at h
      show (!(a.any fun z => y == z) && once a) = true
      rw [ih b h.2]
      have := h.1
      rw [List.any_append] at this
      simp only [Bool.not_or, Bool.and_eq_true] at this
      rw [this.1]; rfl
  have h1 : once (acc ++ [x]) = true := e (acc ++ [x]) l (by simpa using h)
  refine ⟨?_, h1⟩
  rw [once_snoc, Bool.and_eq_true] at h1
  simpa using h1.2
theorem more_yes {x : Rule} {acc : List Rule} (h : okRule x = true) (hn : acc.length < 80) (hc : acc.contains x = false) (r : List TP) : moreM 0 acc (toksR x ++ r) = .ok (acc ++ [x], r) := by
  unfold moreM
  rw [if_neg (by
    rw [Bool.and_eq_true, beq_iff_eq]
    intro h; omega), rule_yes h, ok_bind, take_yes (by decide) (.inr rfl), ok_bind, if_neg (by rw [hc]; exact Bool.noConfusion)]
theorem list_yes : ∀ (l acc : List Rule) (f : Nat), (l.flatMap toksR).length < f → acc.length + l.length ≤ 80 → 0 < acc.length + l.length → l.all okRule = true → once (acc ++ l) = true → listM f 0 acc (l.flatMap toksR) = .ok (acc ++ l)
  | [], acc, 0, hf, _, _, _, _ => by cases hf
  | [], acc, f + 1, _, _, h0, _, _ => by
    show (if acc.length == 0 || decide (0 < 0) then _ else _) = _
    rw [List.length_nil, Nat.add_zero] at h0
    rw [if_neg (by simp; intro h; rw [h] at h0; cases h0), List.append_nil]
  | x :: l, acc, 0, hf, _, _, _, _ => by cases hf
  | x :: l, acc, f + 1, hf, hn, h0, hok, ho => by
    rw [List.all_cons, Bool.and_eq_true] at hok
    rw [List.length_cons] at hn
    rw [List.flatMap_cons] at hf ⊢
    have hpos : 0 < (toksR x).length := by unfold toksR; simp
    rw [List.length_append] at hf
    obtain ⟨h1, h2⟩ := once_tail ho
    show (if acc.length == 0 || decide (0 < (toksR x ++ l.flatMap toksR).length) then (moreM 0 acc (toksR x ++ l.flatMap toksR)).bind fun x => listM f 0 x.1 x.2 else .ok acc) = _
    rw [if_pos (by rw [List.length_append, decide_eq_true (by omega)]; simp), more_yes hok.1 (by omega) h1]
    show listM f 0 (acc ++ [x]) (l.flatMap toksR) = _
    rw [list_yes l (acc ++ [x]) f (by omega) (by rw [List.length_append, List.length_singleton]; omega) (by rw [List.length_append, List.length_singleton]; omega) hok.2 (by simpa using ho)]
    simp
theorem rules_yes {r : Rules} (h : formedB r = true) : rulesM 0 (toksL r) = .ok r := by
  obtain ⟨h1, h2, h3, h4, h5, h6⟩ := formed_out h
  obtain ⟨a, b, l⟩ := r
  unfold rulesM
  have e : headM 0 (toksL (a, b, l)) = .ok (a, b, l.flatMap toksR) := by
    unfold headM toksL
    show (takeM 0 1 wRules ((1, 0, 0, wRules) :: (1, 0, 0, a) :: (1, 0, 0, wTo) :: (1, 0, 0, b) :: (4, 0, 0, [59]) :: l.flatMap toksR)).bind _ = _
    rw [take_yes (by decide) (.inr rfl), ok_bind, take_yes (by decide) (.inl rfl), ok_bind, take_yes (by decide) (.inr rfl), ok_bind, take_yes (by decide) (.inl rfl), ok_bind, take_yes (by decide) (.inr rfl)]
    rfl
  have h3 : 1 ≤ l.length := h3
  have h4 : l.length ≤ 80 := h4
  rw [e, ok_bind, list_yes l [] _ (Nat.lt_succ_self _) (by rw [List.length_nil]; omega) (by rw [List.length_nil]; omega) h5 h6]
  rfl
theorem toksR_len (x : Rule) : (toksR x).length ≤ 6 := by
  unfold toksR
  split
  · simp
  · split <;> simp
theorem flat_len {α β : Type} (g : α → List β) (n : Nat) : ∀ l : List α, (∀ x ∈ l, (g x).length ≤ n) → (l.flatMap g).length ≤ n * l.length
  | [], _ => by simp
  | x :: l, h => by
    have h1 := h x List.mem_cons_self
    have h2 := flat_len g n l fun y hy => h y (List.mem_cons_of_mem _ hy)
    rw [List.flatMap_cons, List.length_append, List.length_cons, Nat.mul_succ]
    omega
theorem textR_len {x : Rule} (h : okRule x = true) : (textR x).length ≤ 80 := by
  obtain ⟨h1, h2, h3, _⟩ := okRule_out h
  obtain ⟨_, _, p1⟩ := plain_text h1
  obtain ⟨_, _, p2⟩ := plain_text h2
  obtain ⟨_, _, p3⟩ := plain_text h3
  unfold textR quo
  split
  · simp; omega
  · split
    · simp; omega
    · simp; omega
theorem nameB_len {s : Str} (h : nameB s = true) : s.length ≤ 24 := by
  unfold nameB at h
  simp only [Bool.and_eq_true, decide_eq_true_iff] at h
  exact h.1.2.2
theorem textL_len {r : Rules} (h : formedB r = true) : (textL r).length ≤ 7000 := by
  obtain ⟨h1, h2, _, h4, h5, _⟩ := formed_out h
  have p1 := nameB_len h1
  have p2 := nameB_len h2
  have p3 := flat_len textR 80 r.2.2 fun x hx => textR_len (List.all_eq_true.1 h5 x hx)
  unfold textL
  simp only [List.length_append, List.length_cons, List.length_nil]
  omega
/-- rules are what is read of their text -/
theorem parse_text {r : Rules} (h : formedB r = true) : parseB (textL r) = (r, 0, 0) := by
  obtain ⟨ts, h1, h2⟩ := lex_textL h 0
  obtain ⟨_, _, _, h4, _, _⟩ := formed_out h
  have hn : ts.length ≤ 5000 := by
    have e : ts.length = (toksL r).length := by rw [← h2, List.length_map]
    have p3 := flat_len toksR 6 r.2.2 fun x _ => toksR_len x
    unfold toksL at e
    rw [e, List.length_append]
    simp only [List.length_cons, List.length_nil]
    omega
  have hl := textL_len h
  have hlex := Lx.lex_few (by omega) h1 hn
  unfold parseB
  rw [hlex]
  show (match rulesM _ (ts.map tp) with | .ok r => (r, 0, 0) | .error x => (([], [], []), x.1, x.2)) = _
  have he := rules_er ((textL r).length : Int) (ts.map tp)
  rw [List.map_map, show (er ∘ tp) = fun t => er (tp t) from rfl, h2, rules_yes h] at he
  cases hr : rulesM ((textL r).length : Int) (ts.map tp) with
  | error x => rw [hr] at he; cases he
  | ok x => rw [hr] at he; injection he with he; rw [← he]; rfl
/-- different rules with texts have different ones -/
theorem text_inj {r q : Rules} (h : formedB r = true) (h' : formedB q = true) (e : textL r = textL q) : r = q := by
  have := parse_text h
  rw [e, parse_text h'] at this
  injection this with this
  exact this.symm
end Rul
end Go.Proofs.YtldnfdghkdibmaaGreatDoor

/-
  Layer 11 in plain Lean: what is read has a text, errors stand within the text, gaps do not matter.
-/
set_option linter.unusedVariables false
namespace Go.Proofs.YtldnfdghkdibmaaGreatDoor
namespace Lx
theorem take_spanR (p : UInt8 → Bool) : ∀ r : List UInt8, r.take (span p r) = r.takeWhile p
  | [] => rfl
  | a :: r => by
    unfold span
    rw [List.takeWhile_cons]
    split
    · rw [List.length_cons, List.take_succ_cons]
      exact congrArg _ (take_spanR p r)
    · rfl
theorem name_of_scan {l : List UInt8} (he : (scan l).err = 0) (hk : (scan l).kind = 1) : nameB (scan l).text = true := by
  cases l with
  | nil => exact absurd he (by decide)
  | cons c r =>
    rw [scan] at he hk ⊢
    split at he
    · rename_i hc
      simp only [] at he hk ⊢
      rw [if_pos hc]
      split at he
      · cases he
      · rename_i hm
        rw [if_neg hm]
        have hs : (c :: r).take (span isWord r + 1) = c :: r.takeWhile isWord := by
          rw [List.take_succ_cons, take_spanR]
        show nameB ((c :: r).take (span isWord r + 1)) = true
        rw [hs]
        have hl : (r.takeWhile isWord).length + 1 ≤ 24 := by
          have : (r.takeWhile isWord).length = span isWord r := rfl
          omega
        unfold nameB
        rw [Bool.and_eq_true, Bool.and_eq_true, Bool.and_eq_true, decide_eq_true_iff, decide_eq_true_iff, List.all_cons, Bool.and_eq_true]
        refine ⟨⟨⟨by unfold isWord; rw [hc]; rfl, ?_⟩, by simp, by rw [List.length_cons]; exact hl⟩, hc⟩
        rw [List.all_eq_true]
        intro x hx
        exact List.all_eq_true.1 List.all_takeWhile x hx
    · rename_i hc
      exfalso
      rw [if_neg hc] at hk
      simp only [] at he hk
      split at he <;> rename_i h1
      · rw [if_pos h1] at hk
        split at he <;> rename_i h2
        · cases he
        · rw [if_neg h2] at hk; cases hk
      · rw [if_neg h1] at hk
        split at he <;> rename_i h2
        · rw [if_pos h2] at hk
          split at he <;> rename_i h3
          · rw [if_pos h3] at hk
            split at he <;> rename_i h4
            · cases he
            · rw [if_neg h4] at hk; cases hk
          · cases he
        · rw [if_neg h2] at hk
          split at he <;> rename_i h3
          · rw [if_pos h3] at hk; cases hk
          · rw [if_neg h3] at hk
            split at he <;> rename_i h4
            · rw [if_pos h4] at hk; cases hk
            · cases he
theorem LexOk.names {o : Nat} {l : List UInt8} {ts : List Tok} (h : LexOk o l ts) : ∀ t ∈ ts, t.kind = 1 → nameB t.text = true := by
  induction h with
  | done => intro t ht; cases ht
  | tok o l ts h he hr ih =>
    intro t ht hk
    rcases List.mem_cons.1 ht with rfl | ht
    · exact name_of_scan he hk
    · exact ih t ht hk
theorem LexOk.pos {o : Nat} {l : List UInt8} {ts : List Tok} (h : LexOk o l ts) : ∀ t ∈ ts, t.pos ≤ ((o + l.length : Nat) : Int) := by
  induction h with
  | done => intro t ht; cases ht
  | tok o l ts h he hr ih =>
    intro t ht
    have hg := gap_le l
    have hw := width_le he
    rw [List.length_drop] at hw
    rcases List.mem_cons.1 ht with rfl | ht
    · show ((o + gap l : Nat) : Int) ≤ _
      omega
    · have := ih t ht
      rw [List.length_drop] at this
      omega
theorem LexErr.pos {o : Nat} {l : List UInt8} {e : Int} {a : Nat} (h : LexErr o l e a) : a ≤ o + l.length := by
  induction h with
  | here o l h he =>
    have := gap_le l
    omega
  | later o l e a h he hr ih =>
    have hg := gap_le l
    have hw := width_le he
    rw [List.length_drop] at hw ih
    omega
/-- the bytes of tokens with a line feed after each -/
def nlText (l : List Tok) : List UInt8 := l.flatMap fun t => t.written ++ [10]
theorem LexOk.nlText_len {o : Nat} {l : List UInt8} {ts : List Tok} (h : LexOk o l ts) : (nlText ts).length ≤ 2 * l.length := by
  induction h with
  | done => simp [nlText]
  | tok o l ts h he hr ih =>
    have hw := width_le he
    have hw1 := width_pos he
    have hwl := written_scan_length (l.drop (gap l)) (o + gap l) he
    have hg := gap_le l
    rw [List.length_drop] at hw ih
    have e : nlText ((scan (l.drop (gap l))).tok (o + gap l) :: ts) = ((scan (l.drop (gap l))).tok (o + gap l)).written ++ [10] ++ nlText ts := by simp [nlText]
    rw [e, List.length_append, List.length_append, hwl, List.length_singleton]
    omega
theorem again_nl {o : Nat} {l : List UInt8} {ts : List Tok} (h : LexOk o l ts) (o' : Nat) : ∃ ts', LexOk o' (nlText ts) ts' ∧ Likes ts ts' := by
  induction h generalizing o' with
  | done o l h => exact ⟨[], .done _ _ rfl, Likes.nil⟩
  | tok o l ts h he hr ih =>
    have hx := written_scan (l.drop (gap l)) (o + gap l) he
    have hxl := written_scan_length (l.drop (gap l)) (o + gap l) he
    have hwp := width_pos he
    have hst := scan_take (l.drop (gap l)) (scan (l.drop (gap l))).width he (Nat.le_refl _)
    have hgz := gap_take (l.drop (gap l)) (scan (l.drop (gap l))).width
    rw [gap_idem, Nat.min_zero] at hgz
    rw [← hx] at hst hgz
    have e0 : nlText ((scan (l.drop (gap l))).tok (o + gap l) :: ts) = ((scan (l.drop (gap l))).tok (o + gap l)).written ++ 10 :: nlText ts := by simp [nlText]
    rw [e0]
    have hlike : ((scan (l.drop (gap l))).tok (o + gap l)).like ((scan (l.drop (gap l))).tok o') := ⟨rfl, rfl, rfl⟩
    have hwl : (scan (l.drop (gap l))).tok o' = (scan ((scan (l.drop (gap l))).tok (o + gap l)).written).tok o' := by rw [hst]
    rw [hwl] at hlike
    generalize ((scan (l.drop (gap l))).tok (o + gap l)).written = u at *
    have hu : (scan u).err = 0 := by rw [hst]; exact he
    have huw : (scan u).width = u.length := by rw [hst, hxl]
    have hpos : 1 ≤ u.length := by rw [hxl]; exact hwp
    have hs := scan_sep u (nlText ts) 10 hu huw (.inl (by decide))
    have hg : gap (u ++ 10 :: nlText ts) = 0 := by rw [gap_append u _ (by omega), hgz]
    obtain ⟨ts', h1, h2⟩ := ih (o' + u.length + 1)
    have hfront : LexOk (o' + u.length) (10 :: nlText ts) ts' :=
      LexOk.front (G := [10]) (m := nlText ts) (by show gapc false (10 :: nlText ts) = _; simp [gapc, isBlank, gap]; omega) h1
    have h3 := LexOk.tok o' (u ++ 10 :: nlText ts) ts' (by rw [hg]; simp) (by rw [hg, List.drop_zero, hs]; exact hu) (by
      rw [hg, List.drop_zero, hs, huw, Nat.zero_add, List.drop_left]
      exact hfront)
    rw [hg, List.drop_zero, hs] at h3
    exact ⟨_, h3, h2.cons hlike⟩
theorem likes_map : ∀ {a b : List Tok}, Likes a b → a.map (fun t => Rul.er (Rul.tp t)) = b.map (fun t => Rul.er (Rul.tp t))
  | [], [], _ => rfl
  | [], _ :: _, h => by cases h.1
  | _ :: _, [], h => by cases h.1
  | x :: a, y :: b, h => by
    have h0 := h.2 0 x y rfl rfl
    have ht : Likes a b := ⟨by have := h.1; simpa using this, fun i u v hu hv => h.2 (i + 1) u v hu hv⟩
    rw [List.map_cons, List.map_cons, likes_map ht]
    refine congrArg (· :: _) ?_
    unfold Rul.er Rul.tp
    rw [h0.1, h0.2.2]
end Lx
namespace Rul
/-- all offsets are at most n -/
def Good {α : Type} (n : Int) : Except Flt (α × List TP) → Prop
  | .ok x => ∀ t ∈ x.2, t.2.1 ≤ n
  | .error x => x.2 ≤ n
theorem Good.bind {α β : Type} {n : Int} {x : Except Flt (α × List TP)} {f : α × List TP → Except Flt (β × List TP)} (hx : Good n x) (hf : ∀ a, x = .ok a → (∀ t ∈ a.2, t.2.1 ≤ n) → Good n (f a)) : Good n (x.bind f) := by
  cases x with
  | error y => exact hx
  | ok a => exact hf a rfl hx
theorem next_good {e n : Int} {ts : List TP} (he : e ≤ n) (h : ∀ t ∈ ts, t.2.1 ≤ n) : (nextT e ts).2.1 ≤ n := by
  cases ts with
  | nil => exact he
  | cons t r => exact h t List.mem_cons_self
theorem take_good {e n k : Int} {s : Str} {ts : List TP} (he : e ≤ n) (h : ∀ t ∈ ts, t.2.1 ≤ n) : Good n (takeM e k s ts) := by
  unfold takeM
  split
  · exact he
  · split
    · exact next_good he h
    · intro t ht
      exact h t (List.mem_of_mem_drop ht)
theorem take_fst {e n k : Int} {s : Str} {ts : List TP} {x : TP × List TP} (h : ∀ t ∈ ts, t.2.1 ≤ n) (hx : takeM e k s ts = .ok x) : x.1.2.1 ≤ n := by
  obtain ⟨r, h1, _⟩ := takeM_ok hx
  exact h _ (by rw [h1]; exact List.mem_cons_self)
theorem text_good {e n lo hi : Int} {ts : List TP} (he : e ≤ n) (h : ∀ t ∈ ts, t.2.1 ≤ n) : Good n (textM e lo hi ts) := by
  refine (take_good he h).bind fun a ha hr => ?_
  have := take_fst h ha
  show Good n (if plainB a.1.2.2.2 lo hi then _ else _)
  split
  · exact hr
  · exact this
theorem tail_good {e n : Int} {f t : Str} {ts : List TP} (he : e ≤ n) (h : ∀ t ∈ ts, t.2.1 ≤ n) : Good n (tailM e f t ts) := by
  unfold tailM
  split
  · split
    · exact (take_good he h).bind fun a _ hr => (text_good he hr).bind fun b _ hr => hr
    · split
      · exact (take_good he h).bind fun a _ hr => (take_good he hr).bind fun b _ hr => hr
      · exact h
  · exact h
theorem rule_good {e n : Int} {ts : List TP} (he : e ≤ n) (h : ∀ t ∈ ts, t.2.1 ≤ n) : Good n (ruleM e ts) :=
  (text_good he h).bind fun a _ hr => (take_good he hr).bind fun b _ hr => (text_good he hr).bind fun c _ hr => tail_good he hr
theorem more_good {e n : Int} {acc : List Rule} {ts : List TP} (he : e ≤ n) (h : ∀ t ∈ ts, t.2.1 ≤ n) : Good n (moreM e acc ts) := by
  unfold moreM
  split
  · exact next_good he h
  · refine (rule_good he h).bind fun a _ hr => (take_good he hr).bind fun b hb hr2 => ?_
    have := take_fst hr hb
    show Good n (if acc.contains a.1 then _ else _)
    split
    · exact this
    · exact hr2
theorem list_good {e n : Int} (he : e ≤ n) (h0 : 0 ≤ n) : ∀ (f : Nat) (acc : List Rule) (ts : List TP) (x : Flt), (∀ t ∈ ts, t.2.1 ≤ n) → listM f e acc ts = .error x → x.2 ≤ n
  | 0, acc, ts, x, _, h => by injection h with h; rw [← h]; exact h0
  | f + 1, acc, ts, x, hts, h => by
    have h : (if acc.length == 0 || decide (0 < ts.length) then (moreM e acc ts).bind fun x => listM f e x.1 x.2 else .ok acc) = Except.error x := h
    split at h
    · have hg := more_good (acc := acc) he hts
      cases hm : moreM e acc ts with
      | error y => rw [hm] at h hg; injection h with h; rw [← h]; exact hg
      | ok y => rw [hm] at h hg; exact list_good he h0 f y.1 y.2 x hg h
    · cases h
theorem rules_good {e : Int} (h0 : 0 ≤ e) {ts : List TP} {x : Flt} (hts : ∀ t ∈ ts, t.2.1 ≤ e) (h : rulesM e ts = .error x) : x.2 ≤ e := by
  have he := Int.le_refl e
  have hg : Good e (match headM e ts with | .ok y => .ok ((y.1, y.2.1), y.2.2) | .error y => .error y) := by
    have : Good e ((takeM e 1 wRules ts).bind fun x => (takeM e 1 [] x.2).bind fun a => (takeM e 1 wTo a.2).bind fun y => (takeM e 1 [] y.2).bind fun b => (takeM e 4 [59] b.2).bind fun z => .ok ((a.1.2.2.2, b.1.2.2.2), z.2)) :=
      (take_good he hts).bind fun a _ hr => (take_good he hr).bind fun b _ hr => (take_good he hr).bind fun c _ hr => (take_good he hr).bind fun d _ hr => (take_good he hr).bind fun f _ hr => hr
    unfold headM
    cases h1 : takeM e 1 wRules ts with
    | error y => rw [h1] at this; exact this
    | ok y =>
      rw [h1] at this
      rw [ok_bind] at this ⊢
      cases h2 : takeM e 1 [] y.2 with
      | error y => rw [h2] at this; exact this
      | ok y2 =>
        rw [h2] at this
        rw [ok_bind] at this ⊢
        cases h3 : takeM e 1 wTo y2.2 with
        | error y => rw [h3] at this; exact this
        | ok y3 =>
          rw [h3] at this
          rw [ok_bind] at this ⊢
          cases h4 : takeM e 1 [] y3.2 with
          | error y => rw [h4] at this; exact this
          | ok y4 =>
            rw [h4] at this
            rw [ok_bind] at this ⊢
            cases h5 : takeM e 4 [59] y4.2 with
            | error y => rw [h5] at this; exact this
            | ok y5 => rw [h5] at this; exact this
  unfold rulesM at h
  cases hh : headM e ts with
  | error y => rw [hh] at h hg; injection h with h; rw [← h]; exact hg
  | ok y =>
    rw [hh] at h hg
    rw [ok_bind] at h
    cases hl : listM (y.2.2.length + 1) e [] y.2.2 with
    | error z =>
      rw [hl] at h
      injection h with h
      rw [← h]
      exact list_good he h0 _ _ _ _ hg hl
    | ok z => rw [hl] at h; cases h
/-- what is read is formed; errors stand within the text -/
theorem parse_out {s : Str} (hs : s.length ≤ 5000) : ((parseB s).2.1 = 0 ∧ (parseB s).2.2 = 0 ∧ formedB (parseB s).1 = true) ∨ ((parseB s).2.1 ≠ 0 ∧ (parseB s).1 = ([], [], []) ∧ (parseB s).2.2 ≤ s.length) := by
  unfold parseB
  rcases Lx.lex_small s hs with ⟨ts, h1, h2⟩ | ⟨e, a, h1, h2⟩
  · rw [h2]
    rw [if_pos (by rfl)]
    cases hr : rulesM s.length (ts.map tp) with
    | error x =>
      right
      have hp := rules_good (by omega) (fun t ht => by
        obtain ⟨t', h3, rfl⟩ := List.mem_map.1 ht
        have := h1.pos t' h3
        rw [Nat.zero_add] at this
        exact this) hr
      refine ⟨?_, rfl, hp⟩
      show x.1 ≠ 0
      have he : ∀ {e k : Int} {s : Str} {ts : List TP} {y : Flt}, takeM e k s ts = .error y → y.1 ≠ 0 := by
        intro e k s ts y h
        unfold takeM at h
        split at h
        · injection h with h; rw [← h]; show (6 : Int) ≠ 0; omega
        · split at h
          · injection h with h; rw [← h]; show (5 : Int) ≠ 0; omega
          · cases h
      have ht : ∀ {e lo hi : Int} {ts : List TP} {y : Flt}, textM e lo hi ts = .error y → y.1 ≠ 0 := by
        intro e lo hi ts y h
        unfold textM at h
        cases h1 : takeM e 3 [] ts with
        | error z => rw [h1] at h; injection h with h; rw [← h]; exact he h1
        | ok z =>
          rw [h1, ok_bind] at h
          split at h
          · cases h
          · injection h with h; rw [← h]; show (1 : Int) ≠ 0; omega
      have htl : ∀ {e : Int} {f t : Str} {ts : List TP} {y : Flt}, tailM e f t ts = .error y → y.1 ≠ 0 := by
        intro e f t ts y h
        unfold tailM at h
        split at h
        · split at h
          · cases h1 : takeM e 1 wBefore ts with
            | error z => rw [h1] at h; injection h with h; rw [← h]; exact he h1
            | ok z =>
              rw [h1, ok_bind] at h
              cases h2 : textM e 1 30 z.2 with
              | error u => rw [h2] at h; injection h with h; rw [← h]; exact ht h2
              | ok u => rw [h2] at h; cases h
          · split at h
            · cases h1 : takeM e 1 wAt ts with
              | error z => rw [h1] at h; injection h with h; rw [← h]; exact he h1
              | ok z =>
                rw [h1, ok_bind] at h
                cases h2 : takeM e 1 wEnd z.2 with
                | error u => rw [h2] at h; injection h with h; rw [← h]; exact he h2
                | ok u => rw [h2] at h; cases h
            · cases h
        · cases h
      have hru : ∀ {e : Int} {ts : List TP} {y : Flt}, ruleM e ts = .error y → y.1 ≠ 0 := by
        intro e ts y h
        unfold ruleM at h
        cases h1 : textM e 1 9 ts with
        | error z => rw [h1] at h; injection h with h; rw [← h]; exact ht h1
        | ok z =>
          rw [h1, ok_bind] at h
          cases h2 : takeM e 1 wTo z.2 with
          | error u => rw [h2] at h; injection h with h; rw [← h]; exact he h2
          | ok u =>
            rw [h2, ok_bind] at h
            cases h3 : textM e 0 9 u.2 with
            | error v => rw [h3] at h; injection h with h; rw [← h]; exact ht h3
            | ok v => rw [h3, ok_bind] at h; exact htl h
      have hmo : ∀ {e : Int} {acc : List Rule} {ts : List TP} {y : Flt}, moreM e acc ts = .error y → y.1 ≠ 0 := by
        intro e acc ts y h
        unfold moreM at h
        split at h
        · injection h with h; rw [← h]; show (2 : Int) ≠ 0; omega
        · cases h1 : ruleM e ts with
          | error z => rw [h1] at h; injection h with h; rw [← h]; exact hru h1
          | ok z =>
            rw [h1, ok_bind] at h
            cases h2 : takeM e 4 [59] z.2 with
            | error u => rw [h2] at h; injection h with h; rw [← h]; exact he h2
            | ok u =>
              rw [h2, ok_bind] at h
              split at h
              · injection h with h; rw [← h]; show (8 : Int) ≠ 0; omega
              · cases h
      have hli : ∀ (e : Int) (f : Nat) (acc : List Rule) (ts : List TP) (y : Flt), ts.length < f → acc.length ≤ 80 → acc.all okRule = true → once acc = true → listM f e acc ts = .error y → y.1 ≠ 0 := by
        intro e f
        induction f with
        | zero => intro acc ts y h; omega
        | succ f ih =>
          intro acc ts y hf ha hok ho h
          have h : (if acc.length == 0 || decide (0 < ts.length) then (moreM e acc ts).bind fun x => listM f e x.1 x.2 else .ok acc) = Except.error y := h
          split at h
          · cases h1 : moreM e acc ts with
            | error z => rw [h1] at h; injection h with h; rw [← h]; exact hmo h1
            | ok z =>
              rw [h1, ok_bind] at h
              obtain ⟨q1, _, q3, q4, q5⟩ := moreM_ok h1 ha hok ho
              exact ih z.1 z.2 y (by omega) q3 q4 q5 h
          · cases h
      unfold rulesM at hr
      cases hh : headM (s.length : Int) (ts.map tp) with
      | ok y =>
        rw [hh, ok_bind] at hr
        cases hl : listM (y.2.2.length + 1) s.length [] y.2.2 with
        | ok z => rw [hl] at hr; cases hr
        | error z =>
          rw [hl] at hr; injection hr with hr; rw [← hr]
          exact hli _ _ _ _ _ (Nat.lt_succ_self _) (by simp) rfl rfl hl
      | error y =>
        rw [hh] at hr
        injection hr with hr
        rw [← hr]
        unfold headM at hh
        cases h1 : takeM (s.length : Int) 1 wRules (ts.map tp) with
        | error z => rw [h1] at hh; injection hh with hh; rw [← hh]; exact he h1
        | ok y1 =>
          rw [h1, ok_bind] at hh
          cases h2 : takeM (s.length : Int) 1 [] y1.2 with
          | error z => rw [h2] at hh; injection hh with hh; rw [← hh]; exact he h2
          | ok y2 =>
            rw [h2, ok_bind] at hh
            cases h3 : takeM (s.length : Int) 1 wTo y2.2 with
            | error z => rw [h3] at hh; injection hh with hh; rw [← hh]; exact he h3
            | ok y3 =>
              rw [h3, ok_bind] at hh
              cases h4 : takeM (s.length : Int) 1 [] y3.2 with
              | error z => rw [h4] at hh; injection hh with hh; rw [← hh]; exact he h4
              | ok y4 =>
                rw [h4, ok_bind] at hh
                cases h5 : takeM (s.length : Int) 4 [59] y4.2 with
                | error z => rw [h5] at hh; injection hh with hh; rw [← hh]; exact he h5
                | ok y5 => rw [h5] at hh; cases hh
    | ok x =>
      left
      refine ⟨rfl, rfl, ?_⟩
      show formedB x = true
      unfold rulesM at hr
      cases hh : headM (s.length : Int) (ts.map tp) with
      | error y => rw [hh] at hr; cases hr
      | ok y =>
        rw [hh, ok_bind] at hr
        cases hl : listM (y.2.2.length + 1) s.length [] y.2.2 with
        | error z => rw [hl] at hr; cases hr
        | ok z =>
          rw [hl] at hr
          injection hr with hr
          obtain ⟨q1, q2, q3, q4⟩ := listM_ok _ _ _ _ _ hl (by simp) rfl rfl
          obtain ⟨a, b, t1, t2, t3, k1, k2, k3, k4, k5⟩ := headM_ok hh
          have hn : ∀ t : TP, t ∈ ts.map tp → t.1 = 1 → Lx.nameB t.2.2.2 = true := fun t ht h1t => by
            obtain ⟨t', h3, rfl⟩ := List.mem_map.1 ht
            exact h1.names t' h3 h1t
          rw [← hr]
          refine formed_in ?_ ?_ q1 q2 q3 q4
          · rw [k4]; exact hn a (by rw [k1]; simp) k2
          · rw [k5]; exact hn b (by rw [k1]; simp) k3
  · rw [h2]
    have hne := h1.ne
    rw [if_neg (by rw [beq_iff_eq]; exact hne)]
    right
    have := h1.pos
    exact ⟨hne, rfl, by show (a : Int) ≤ _; omega⟩
/-- tokens with a line feed behind each -/
theorem gaps_law {s : Str} (hs : s.length ≤ 2000) {ts : List Lx.Tok} {a : Int} (h : Lx.lex s = (ts, 0, a)) : (parseB s).1 = (parseB (Lx.nlText ts)).1 ∧ (parseB s).2.1 = (parseB (Lx.nlText ts)).2.1 := by
  rcases Lx.lex_small s (by omega) with ⟨ts', h1, h2⟩ | ⟨e, a', h1, h2⟩
  · rw [h] at h2
    injection h2 with h2 h3
    subst h2
    obtain ⟨us, g1, g2⟩ := Lx.again_nl h1 0
    have hl := h1.nlText_len
    have hlex := Lx.lex_ok (by omega) g1
    unfold parseB
    rw [h, hlex]
    rw [if_pos (by rfl), if_pos (by rfl)]
    have e1 := rules_er (s.length : Int) (ts.map tp)
    have e2 := rules_er ((Lx.nlText ts).length : Int) (us.map tp)
    rw [List.map_map] at e1 e2
    have e3 := Lx.likes_map g2
    rw [show (er ∘ tp) = fun t => er (tp t) from rfl] at e1 e2
    rw [e3, ← e2] at e1
    cases hr : rulesM (s.length : Int) (ts.map tp) with
    | ok x =>
      rw [hr] at e1
      cases hq : rulesM ((Lx.nlText ts).length : Int) (us.map tp) with
      | ok y => rw [hq] at e1; injection e1 with e1; exact ⟨e1, rfl⟩
      | error y => rw [hq] at e1; cases e1
    | error x =>
      rw [hr] at e1
      cases hq : rulesM ((Lx.nlText ts).length : Int) (us.map tp) with
      | ok y => rw [hq] at e1; cases e1
      | error y => rw [hq] at e1; injection e1 with e1; injection e1 with e1 _; exact ⟨rfl, e1⟩
  · rw [h] at h2
    injection h2 with _ h3
    injection h3 with h3 _
    exact absurd h3.symm h1.ne
end Rul
end Go.Proofs.YtldnfdghkdibmaaGreatDoor

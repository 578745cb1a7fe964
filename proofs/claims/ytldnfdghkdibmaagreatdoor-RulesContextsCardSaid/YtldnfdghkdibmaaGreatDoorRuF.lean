/-
  Layer 11: the table of results as a map of maps; letters of a text, their number.
-/
import Derived.Test.YtldnfdghkdibmaaGreatDoorRuC
set_option linter.unusedVariables false
namespace Go.Proofs.YtldnfdghkdibmaaGreatDoor
open Go.RowKit
open R
namespace Mp
section
variable {α β : Type} [BEq α] [LawfulBEq α] [DecidableEq α]
abbrev eqA (x y : α) : Bool := x == y
theorem get_put (a n : α) (v : β) : ∀ xs : List (α × β), get (fun x y => x == y) n (put (fun x y => x == y) a v xs) = if n = a then some v else get (fun x y => x == y) n xs
  | [] => by
    show (if (n == a) = true then some v else none) = if n = a then some v else none
    by_cases h : n = a
    · rw [if_pos (beq_iff_eq.2 h), if_pos h]
    · rw [if_neg (fun e => h (beq_iff_eq.1 e)), if_neg h]
  | x :: r => by
    show get _ n (if (a == x.1) = true then (a, v) :: r else x :: put _ a v r) = if n = a then some v else (if (n == x.1) = true then some x.2 else get _ n r)
    by_cases hx : a = x.1
    · rw [if_pos (beq_iff_eq.2 hx)]
      show (if (n == a) = true then some v else get _ n r) = _
      by_cases h : n = a
      · rw [if_pos (beq_iff_eq.2 h), if_pos h]
      · rw [if_neg (fun e => h (beq_iff_eq.1 e)), if_neg h, if_neg (fun e => h ((beq_iff_eq.1 e).trans hx.symm))]
    · rw [if_neg (fun e => hx (beq_iff_eq.1 e))]
      show (if (n == x.1) = true then some x.2 else get _ n (put _ a v r)) = _
      rw [get_put a n v r]
      by_cases h : n = a
      · rw [if_pos h, if_pos h, if_neg (fun e => hx (h.symm.trans (beq_iff_eq.1 e)))]
      · rw [if_neg h, if_neg h]
theorem get_app (a n : α) (v : β) : ∀ xs : List (α × β), get (fun x y => x == y) n (xs ++ [(a, v)]) = match get (fun x y => x == y) n xs with | some u => some u | none => if n = a then some v else none
  | [] => by
    show (if (n == a) = true then some v else none) = _
    by_cases h : n = a
    · rw [if_pos (beq_iff_eq.2 h)]; simp [get, h]
    · rw [if_neg (fun e => h (beq_iff_eq.1 e))]; simp [get, h]
  | x :: r => by
    show (if (n == x.1) = true then some x.2 else get _ n (r ++ [(a, v)])) = _
    have e : get (fun x y => x == y) n (x :: r) = (if (n == x.1) = true then some x.2 else get (fun x y => x == y) n r) := rfl
    rw [e]
    cases h : (n == x.1)
    · rw [if_neg (by simp), if_neg (by simp), get_app a n v r]
    · rw [if_pos rfl, if_pos rfl]
theorem keys_put (a : α) (v : β) : ∀ (xs : List (α × β)) (x : α), x ∈ (put (fun x y => x == y) a v xs).map (·.1) ↔ x = a ∨ x ∈ xs.map (·.1)
  | [], x => by simp [put]
  | y :: r, x => by
    have e : put (fun x y => x == y) a v (y :: r) = (if (a == y.1) = true then (a, v) :: r else y :: put (fun x y => x == y) a v r) := rfl
    rw [e]
    by_cases h : a = y.1
    · rw [if_pos (beq_iff_eq.2 h), List.map_cons, List.mem_cons, List.map_cons, List.mem_cons, ← h]
      constructor
      · rintro (h | h)
        · exact .inl h
        · exact .inr (.inr h)
      · rintro (h | h | h)
        · exact .inl h
        · exact .inl h
        · exact .inr h
    · rw [if_neg (fun e => h (beq_iff_eq.1 e)), List.map_cons, List.mem_cons, keys_put a v r, List.map_cons, List.mem_cons]
      constructor
      · rintro (h | h | h)
        · exact .inr (.inl h)
        · exact .inl h
        · exact .inr (.inr h)
      · rintro (h | h | h)
        · exact .inr (.inl h)
        · exact .inl h
        · exact .inr (.inr h)
theorem nodup_put (a : α) (v : β) : ∀ (xs : List (α × β)), (xs.map (·.1)).Nodup → ((put (fun x y => x == y) a v xs).map (·.1)).Nodup
  | [], _ => by simp [put]
  | y :: r, hn => by
    have e : put (fun x y => x == y) a v (y :: r) = (if (a == y.1) = true then (a, v) :: r else y :: put (fun x y => x == y) a v r) := rfl
    rw [List.map_cons, List.nodup_cons] at hn
    rw [e]
    by_cases h : a = y.1
    · rw [if_pos (beq_iff_eq.2 h), List.map_cons, List.nodup_cons]
      exact ⟨by rw [show ((a, v).1 : α) = y.1 from h]; exact hn.1, hn.2⟩
    · rw [if_neg (fun e => h (beq_iff_eq.1 e)), List.map_cons, List.nodup_cons]
      refine ⟨fun hm => ?_, nodup_put a v r hn.2⟩
      rcases (keys_put a v r _).1 hm with e | hm
      · exact h e.symm
      · exact hn.1 hm
end
end Mp
theorem perm_erase {α : Type} {e : α} : ∀ (l : List α) (j : Nat), l[j]? = some e → l.Perm (e :: l.eraseIdx j)
  | [], j, h => by cases h
  | a :: l, 0, h => by injection h with h; subst h; exact List.Perm.refl _
  | a :: l, j + 1, h => ((perm_erase l j h).cons a).trans (List.Perm.swap _ _ _)
/-! the table -/
theorem tabAt_new {xs : NX} {a : Int} (h : (Mp.get eqI a xs).isSome = false) (n : Nat) : tabAt (xs ++ [(a, [])]) n = tabAt xs n := by
  unfold tabAt
  have : Mp.get eqI (n : Int) (xs ++ [(a, [])]) = _ := Mp.get_app a (n : Int) [] xs
  rw [this]
  cases hg : Mp.get (fun x y : Int => x == y) (n : Int) xs with
  | some u => rw [show Mp.get eqI (n : Int) xs = some u from hg]
  | none =>
    rw [show Mp.get eqI (n : Int) xs = none from hg]
    dsimp only
    split <;> rfl
theorem has_new {xs : NX} {a : Int} : (Mp.get eqI a (xs ++ [(a, [])])).isSome = true := by
  have : Mp.get eqI a (xs ++ [(a, [])]) = _ := Mp.get_app a a [] xs
  rw [this]
  cases Mp.get (fun x y : Int => x == y) a xs with
  | some u => rfl
  | none => dsimp only; rw [if_pos rfl]; rfl
def putS (xs : NX) (a : Nat) (s : List UInt8) : NX := Mp.put eqI (a : Int) (Mp.put (fun x y => x == y) s true ((Mp.get eqI (a : Int) xs).getD [])) xs
theorem tabAt_put (xs : NX) (a : Nat) (s : List UInt8) (n : Nat) : tabAt (putS xs a s) n = if n = a then (Mp.put (fun x y => x == y) s true ((Mp.get eqI (a : Int) xs).getD [])).map (·.1) else tabAt xs n := by
  unfold tabAt putS
  have : Mp.get eqI (n : Int) (Mp.put eqI (a : Int) (Mp.put (fun x y => x == y) s true ((Mp.get eqI (a : Int) xs).getD [])) xs) = _ := Mp.get_put (a : Int) (n : Int) _ xs
  rw [this]
  by_cases h : n = a
  · rw [if_pos (by rw [h]), if_pos h]; rfl
  · rw [if_neg (by omega), if_neg h]; rfl
theorem has_put (xs : NX) (a : Nat) (s : List UInt8) : (Mp.get eqI (a : Int) (putS xs a s)).isSome = true := by
  unfold putS
  have : Mp.get eqI (a : Int) (Mp.put eqI (a : Int) (Mp.put (fun x y => x == y) s true ((Mp.get eqI (a : Int) xs).getD [])) xs) = _ := Mp.get_put (a : Int) (a : Int) _ xs
  rw [this, if_pos rfl]; rfl
theorem Tb.put {xs : NX} {Q : Nat → List UInt8 → Prop} (h : Tb xs Q) (a : Nat) (s : List UInt8) : Tb (putS xs a s) fun n x => Q n x ∨ (n = a ∧ x = s) where
  mem := fun n x => by
    rw [tabAt_put]
    by_cases e : n = a
    · rw [if_pos e, Mp.keys_put, ← h.mem n x, e]
      show x = s ∨ x ∈ tabAt xs a ↔ _
      constructor
      · rintro (h | h)
        · exact .inr ⟨rfl, h⟩
        · exact .inl h
      · rintro (h | h)
        · exact .inr h
        · exact .inl h.2
    · rw [if_neg e, h.mem]
      exact ⟨.inl, fun h => h.elim id fun h => absurd h.1 e⟩
  nodup := fun n => by
    rw [tabAt_put]
    by_cases e : n = a
    · rw [if_pos e]
      exact Mp.nodup_put _ _ _ (h.nodup a)
    · rw [if_neg e]; exact h.nodup n
theorem Tb.ext {xs : NX} {Q Q' : Nat → List UInt8 → Prop} (h : Tb xs Q) (he : ∀ n s, Q n s ↔ Q' n s) : Tb xs Q' := ⟨fun n s => (h.mem n s).trans (he n s), h.nodup⟩
theorem Tb.new {xs : NX} {Q : Nat → List UInt8 → Prop} (h : Tb xs Q) {a : Int} (ha : (Mp.get eqI a xs).isSome = false) : Tb (xs ++ [(a, [])]) Q := ⟨fun n s => by rw [tabAt_new ha]; exact h.mem n s, fun n => by rw [tabAt_new ha]; exact h.nodup n⟩
section
variable {rs : List Rul.Opened} {w : List Int}
theorem tab_start : Tb [((0 : Int), [([], true)])] (Rul.Stage rs w 0 []) := by
  have e : ∀ n : Nat, tabAt [((0 : Int), [([], true)])] n = if n = 0 then [[]] else [] := fun n => by
    unfold tabAt
    show List.map _ (Option.getD (if ((n : Int) == 0) = true then some [([], true)] else none) []) = _
    by_cases h : n = 0
    · rw [if_pos h, if_pos (by rw [beq_iff_eq]; omega)]; rfl
    · rw [if_neg h, if_neg (by rw [beq_iff_eq]; omega)]; rfl
  refine ⟨fun n s => ?_, fun n => ?_⟩
  · rw [e, Rul.stage_zero]
    by_cases h : n = 0
    · rw [if_pos h, List.mem_singleton]; exact ⟨fun e => ⟨h, e⟩, fun e => e.2⟩
    · rw [if_neg h]; exact ⟨fun e => (by cases e), fun e => absurd e.1 h⟩
  · rw [e]; split
    · simp
    · exact List.nodup_nil
theorem reach_len {m : Nat} (hp : Rul.Pos rs) (hm : ∀ x ∈ rs, x.1.2.1.length ≤ m) {k : Nat} {s : List UInt8} (h : Rul.Reach rs w k s) : s.length ≤ m * k := by
  induction h with
  | zero => exact Nat.zero_le _
  | step h hk hx hs ih =>
    have h1 := hm _ hx
    have h2 := hp _ hx
    rw [List.length_append, Nat.mul_add]
    have : m * 1 ≤ m * _ := Nat.mul_le_mul_left m h2
    omega
theorem tab_sort (hp : Rul.Pos rs) {k : Nat} (hk : k ≤ w.length) {xs : NX} (h : Tb xs (Rul.Stage rs w k [])) : sortS (tabAt xs k) = Rul.setOf (Rul.tabs rs w k k) :=
  sortS_set (h.nodup k) fun x => by rw [h.mem, Rul.mem_tabs hp hk, Rul.stage_reach hp (Nat.le_refl k)]
theorem tab_many (hp : Rul.Pos rs) {k : Nat} (hk : k ≤ w.length) {xs : NX} (h : Tb xs (Rul.Stage rs w k [])) : Rul.tooMany rs w k = decide (200 < (tabAt xs k).length) := by
  unfold Rul.tooMany
  rw [← tab_sort hp hk h]
  have : (sortS (tabAt xs k)).length = (tabAt xs k).length := List.length_mergeSort _
  rw [this]
theorem rAt_some {i : Nat} (h : i < rs.length) : rs[i]? = some (rAt rs i) := by unfold rAt; rw [List.getD_eq_getElem?_getD, List.getElem?_eq_getElem h]; rfl
theorem rAt_mem {i : Nat} (h : i < rs.length) : rAt rs i ∈ rs := List.mem_of_getElem? (rAt_some h)
theorem take_next {i : Nat} (h : i < rs.length) : rs.take (i + 1) = rs.take i ++ [rAt rs i] := by rw [List.take_add_one, rAt_some h]; rfl
theorem mid_skip {k i : Nat} {xs : NX} (h : inMid rs w k i xs) (hi : i < rs.length) (hs : Rul.standsB (rAt rs i) (w.drop k) = false) : inMid rs w k (i + 1) xs :=
  ⟨hi, h.2.ext fun n s => by rw [take_next hi]; exact (Rul.stage_snoc_not hs).symm⟩
theorem in_start {k i : Nat} {xs : NX} (h : inMid rs w k i xs) (ha : (Mp.get eqI ((k + (rAt rs i).2.1.length : Nat) : Int) xs).isSome = true) : inIn rs w k i xs xs ((Mp.get eqI (k : Int) xs).getD []) :=
  ⟨ha, [], List.Perm.refl _, h.2.ext fun n s => ⟨.inl, fun h => h.elim id fun h => (by obtain ⟨_, s', h, _⟩ := h; cases h)⟩⟩
theorem mid_new {k i : Nat} {xs : NX} (h : inMid rs w k i xs) {a : Int} (ha : (Mp.get eqI a xs).isSome = false) : inMid rs w k i (xs ++ [(a, [])]) := ⟨h.1, h.2.new ha⟩
theorem in_step {k i : Nat} {xs0 xs : NX} {left : List (List UInt8 × Bool)} (h : inIn rs w k i xs0 xs left) {j : Nat} {e : List UInt8 × Bool} (he : left[j]? = some e) : inIn rs w k i xs0 (putS xs (k + (rAt rs i).2.1.length) (e.1 ++ (rAt rs i).1.2.1)) (left.eraseIdx j) := by
  obtain ⟨ha, done, hp, ht⟩ := h
  refine ⟨has_put _ _ _, done ++ [e.1], hp.trans ?_, (ht.put _ _).ext fun n s => ?_⟩
  · rw [List.append_assoc]
    exact ((perm_erase left j he).map (·.1)).append_left done
  · constructor
    · rintro ((h | ⟨h1, s', h2, h3⟩) | ⟨h1, h2⟩)
      · exact .inl h
      · exact .inr ⟨h1, s', List.mem_append_left _ h2, h3⟩
      · exact .inr ⟨h1, e.1, List.mem_append_right _ (List.mem_singleton.2 rfl), h2⟩
    · rintro (h | ⟨h1, s', h2, h3⟩)
      · exact .inl (.inl h)
      · rcases List.mem_append.1 h2 with h2 | h2
        · exact .inl (.inr ⟨h1, s', h2, h3⟩)
        · obtain rfl := List.mem_singleton.1 h2
          exact .inr ⟨h1, h3⟩
theorem in_end (hp : Rul.Pos rs) {k i : Nat} {xs0 xs : NX} (h0 : inMid rs w k i xs0) (hi : i < rs.length) (hk : k < w.length) (hs : Rul.standsB (rAt rs i) (w.drop k) = true) (h : inIn rs w k i xs0 xs []) : inMid rs w k (i + 1) xs := by
  obtain ⟨ha, done, hpm, ht⟩ := h
  rw [List.map_nil, List.append_nil] at hpm
  refine ⟨hi, ht.ext fun n s => ?_⟩
  rw [take_next hi, Rul.stage_snoc hk (rAt_mem hi) hs]
  have e : ∀ s', s' ∈ done ↔ Rul.Reach rs w k s' := fun s' => by rw [← hpm.mem_iff, h0.2.mem, Rul.stage_reach hp (Nat.le_refl k)]
  constructor
  · rintro (h | ⟨h1, s', h2, h3⟩)
    · exact .inl h
    · exact .inr ⟨h1, s', (e s').1 h2, h3⟩
  · rintro (h | ⟨h1, s', h2, h3⟩)
    · exact .inl h
    · exact .inr ⟨h1, s', (e s').2 h2, h3⟩
theorem out_next (hp : Rul.Pos rs) {k i : Nat} {xs0 xs : NX} (h0 : inOut rs w k xs0) (hk : k < w.length) (hn : (tabAt xs0 k).length ≤ 200) (h : inMid rs w k i xs) (hi : rs.length ≤ i) : inOut rs w (k + 1) xs := by
  refine ⟨hk, ?_, h.2.ext fun n s => by rw [List.take_of_length_le hi]; exact Rul.stage_next.symm⟩
  rw [List.range_succ, List.any_append, h0.2.1, Bool.false_or]
  show (Rul.tooMany rs w k || false) = false
  rw [tab_many hp h0.1 h0.2.2, Bool.or_false]
  exact decide_eq_false (by omega)
theorem many_out (hp : Rul.Pos rs) {k : Nat} {xs : NX} (h : inOut rs w k xs) (hn : 200 < (tabAt xs k).length) : Rul.writeL rs w = ([], 2) := by
  unfold Rul.writeL
  rw [if_pos]
  refine List.any_eq_true.2 ⟨k, List.mem_range.2 (by have := h.1; omega), ?_⟩
  rw [tab_many hp h.1 h.2.2]
  exact decide_eq_true hn
theorem write_out (hp : Rul.Pos rs) {xs : NX} (h : inOut rs w w.length xs) (hn : (tabAt xs w.length).length ≤ 200) : Rul.writeL rs w = (sortS (tabAt xs w.length), 0) := by
  unfold Rul.writeL
  rw [if_neg]
  · rw [tab_sort hp h.1 h.2.2]
  · rw [List.range_succ, List.any_append, h.2.1, Bool.false_or]
    show ¬ (Rul.tooMany rs w w.length || false) = true
    rw [tab_many hp h.1 h.2.2, Bool.or_false, decide_eq_false (by omega)]
    exact Bool.noConfusion
end
/-! the number of letters -/
namespace Al
theorem collect_most : ∀ (pl : List (Nat × Int)) (out : List Int), out.length ≤ 24 → (collect out pl).1.length ≤ 24
  | [], out, h => h
  | (a, k) :: r, out, h => by
    unfold collect
    split
    · exact Nat.zero_le _
    · split
      · exact Nat.zero_le _
      · rename_i h1 h2
        exact collect_most r _ (by rw [List.length_append, List.length_singleton]; omega)
theorem collect_least : ∀ (pl : List (Nat × Int)) (out : List Int), (collect out pl).2.1 = 0 → out.length ≤ (collect out pl).1.length
  | [], out, h => Nat.le_refl _
  | (a, k) :: r, out, h => by
    unfold collect at h ⊢
    split at h
    · cases h
    · split at h
      · cases h
      · rename_i h1 h2
        rw [if_neg h1, if_neg h2]
        have := collect_least r _ h
        rw [List.length_append, List.length_singleton] at this
        omega
theorem readL_most (L : List (List UInt8)) (s : List UInt8) : (readL L s).1.length ≤ 24 := by
  unfold readL
  split
  · exact Nat.zero_le _
  · exact collect_most _ _ (Nat.zero_le _)
theorem readL_least {L : List (List UInt8)} {s : List UInt8} (h : (readL L s).2.1 = 0) : 1 ≤ (readL L s).1.length := by
  unfold readL at h ⊢
  split at h
  · cases h
  · rename_i hne
    rw [if_neg hne]
    cases s with
    | nil => exact absurd rfl hne
    | cons c r =>
      have e : places L ((c :: r).length + 1) 0 (c :: r) = (match first L (c :: r) with | none => [(0, -1)] | some (k, n) => (0, (k : Int)) :: places L (c :: r).length (0 + n) ((c :: r).drop n)) := rfl
      rw [e] at h ⊢
      split at h
      · cases h
      · rename_i k n hf
        unfold collect at h ⊢
        rw [if_neg (by omega), if_neg (by simp)] at h ⊢
        have := collect_least _ _ h
        simpa using this
end Al
namespace Rul
theorem pos_of {r : Rules} {f t : Al.Alph} (h : validB r f t = true) : Pos (r.2.2.map (openR f.letters)) ∧ ∀ x ∈ r.2.2.map (openR f.letters), x.1.2.1.length ≤ 9 := by
  unfold validB at h
  simp only [Bool.and_eq_true] at h
  obtain ⟨h1, _, _, _, _, h2⟩ := h
  unfold formedB at h1
  simp only [Bool.and_eq_true] at h1
  obtain ⟨_, _, _, _, h3, _⟩ := h1
  refine ⟨fun y hy => ?_, fun y hy => ?_⟩
  · obtain ⟨x, hx, rfl⟩ := List.mem_map.1 hy
    have a := List.all_eq_true.1 h2 x hx
    have b := List.all_eq_true.1 h3 x hx
    unfold okIn at a
    unfold okRule plainB at b
    simp only [Bool.and_eq_true, decide_eq_true_eq] at a b
    show 1 ≤ (readO f.letters x.1 3).1.length
    have a := a.1
    unfold readO at a ⊢
    have hne : x.1 ≠ [] := fun e => by
      have b := b.1.2.1
      rw [e] at b; simp at b
    rw [if_neg hne] at a ⊢
    simp only [Bool.and_eq_true, beq_iff_eq] at a
    exact Al.readL_least a.1
  · obtain ⟨x, hx, rfl⟩ := List.mem_map.1 hy
    have b := List.all_eq_true.1 h3 x hx
    unfold okRule plainB at b
    simp only [Bool.and_eq_true, decide_eq_true_eq] at b
    have := b.2.1.2.2
    show x.2.1.length ≤ 9
    omega
end Rul
end Go.Proofs.YtldnfdghkdibmaaGreatDoor

/-
  Near's plain law: the indices found, sorted and freed of doubles, are those of all words that sound alike. No program in sight.
-/
import Derived.Test.YtgjdbnkeamjhhaaDoorSoSpec
import Derived.Shelf.Spec.SearchS
import Derived.Lib.SlicesCompact
set_option linter.unusedVariables false
namespace Go.Proofs.YtgjdbnkeamjhhaaDoor
namespace Snd
theorem less_irrefl : ∀ a : Str, Op.bytesLess a a = false
  | [] => rfl
  | c :: a => by
    unfold Op.bytesLess
    rw [less_irrefl a, decide_eq_false (UInt8.lt_irrefl c)]
    simp
theorem less_trans : ∀ {a b c : Str}, Op.bytesLess a b = true → Op.bytesLess b c = true → Op.bytesLess a c = true
  | [], [], _, h, _ => by cases h
  | _ :: _, [], _, h, _ => by cases h
  | _, _ :: _, [], _, h => by cases h
  | [], _ :: _, _ :: _, _, _ => rfl
  | x :: a, y :: b, z :: c, h, h' => by
    unfold Op.bytesLess at *
    simp only [Bool.or_eq_true, Bool.and_eq_true, decide_eq_true_eq, beq_iff_eq] at *
    rcases h with h | ⟨rfl, h⟩
    · rcases h' with h' | ⟨rfl, h'⟩
      · exact .inl (UInt8.lt_trans h h')
      · exact .inl h
    · rcases h' with h' | ⟨rfl, h'⟩
      · exact .inl h'
      · exact .inr ⟨rfl, less_trans h h'⟩
theorem less_total : ∀ {a b : Str}, Op.bytesLess a b = false → Op.bytesLess b a = false → a = b
  | [], [], _, _ => rfl
  | [], _ :: _, h, _ => by cases h
  | _ :: _, [], _, h => by cases h
  | x :: a, y :: b, h, h' => by
    unfold Op.bytesLess at *
    simp only [Bool.or_eq_false_iff, Bool.and_eq_false_iff, decide_eq_false_iff_not, beq_eq_false_iff_ne] at *
    have hxy : x = y := by
      rcases UInt8.lt_or_lt_of_ne (a := x) (b := y) with h1
      by_cases e : x = y
      · exact e
      · rcases h1 e with h2 | h2
        · exact absurd h2 h.1
        · exact absurd h2 h'.1
    subst hxy
    rw [less_total (h.2.resolve_left (fun e => e rfl)) (h'.2.resolve_left (fun e => e rfl))]
theorem rising_lt : ∀ {ws : List Str}, rising ws = true → ∀ i j, i < j → j < ws.length → Op.bytesLess (ws.getD i []) (ws.getD j []) = true
  | [], _, i, j, _, h => by cases h
  | [_], _, i, j, h, h' => by simp at h'; omega
  | a :: b :: r, h, i, j, hij, hj => by
    rw [rising, Bool.and_eq_true] at h
    have ih := @rising_lt (b :: r) h.2
    cases j with
    | zero => omega
    | succ j =>
      have hj' : j < (b :: r).length := by simpa using hj
      cases i with
      | zero =>
        rw [List.getD_cons_zero, List.getD_cons_succ]
        cases j with
        | zero => exact h.1
        | succ j => exact less_trans h.1 (ih 0 (j + 1) (by omega) hj')
      | succ i => rw [List.getD_cons_succ, List.getD_cons_succ]; exact ih i j (by omega) hj'
theorem rising_inj {ws : List Str} (h : rising ws = true) {i j : Nat} (hi : i < ws.length) (hj : j < ws.length) (he : ws.getD i [] = ws.getD j []) : i = j := by
  rcases Nat.lt_trichotomy i j with h1 | h1 | h1
  · have := rising_lt h i j h1 hj
    rw [he, less_irrefl] at this; cases this
  · exact h1
  · have := rising_lt h j i h1 hi
    rw [he, less_irrefl] at this; cases this
/-- how many words lie before s -/
def below (ws : List Str) (s : Str) : Nat := (ws.takeWhile fun x => Op.bytesLess x s).length
theorem below_lt {ws : List Str} (h : rising ws = true) (s : Str) : (∀ t, t < below ws s → Op.bytesLess (ws.getD t []) s = true) ∧ (∀ t, below ws s ≤ t → t < ws.length → Op.bytesLess (ws.getD t []) s = false) ∧ below ws s ≤ ws.length := by
  induction ws with
  | nil => exact ⟨fun t ht => (by cases ht), fun t _ ht => (by cases ht), Nat.le_refl _⟩
  | cons a r ih =>
    have hr : rising r = true := by
      cases r with
      | nil => rfl
      | cons b r => rw [rising, Bool.and_eq_true] at h; exact h.2
    obtain ⟨h1, h2, h3⟩ := ih hr
    unfold below at *
    cases ha : Op.bytesLess a s
    · rw [List.takeWhile_cons, ha]
      refine ⟨fun t ht => (by cases ht), fun t _ ht => ?_, Nat.zero_le _⟩
      cases t with
      | zero => exact ha
      | succ t =>
        have hlt := rising_lt h 0 (t + 1) (by omega) ht
        rw [List.getD_cons_zero] at hlt
        cases hc : Op.bytesLess ((a :: r).getD (t + 1) []) s
        · rfl
        · rw [less_trans hlt hc] at ha; cases ha
    · rw [List.takeWhile_cons, ha]
      simp only [if_true, List.length_cons]
      refine ⟨fun t ht => ?_, fun t h4 h5 => ?_, by omega⟩
      · cases t with
        | zero => exact ha
        | succ t => rw [List.getD_cons_succ]; exact h1 t (by omega)
      · cases t with
        | zero => omega
        | succ t => rw [List.getD_cons_succ]; exact h2 t (by omega) (by simpa using h5)
/-- where the halving ends -/
theorem bs_below {ws : List Str} (h : rising ws = true) (s : Str) (less : Nat → Bool) (hl : ∀ t, t < ws.length → less t = Op.bytesLess (ws.getD t []) s) :
    Lib.bsGo less ws.length 0 ws.length = below ws s := by
  obtain ⟨h1, h2, h3⟩ := below_lt h s
  have key : ∀ (l' : Nat → Bool), (∀ t, t < ws.length → l' t = less t) → ∀ f lo hi, hi ≤ ws.length → Lib.bsGo less f lo hi = Lib.bsGo l' f lo hi := by
    intro l' hl' f
    induction f with
    | zero => intro lo hi _; rfl
    | succ f ih =>
      intro lo hi hh
      unfold Lib.bsGo
      split
      · rw [hl' _ (by omega), ih _ _ hh, ih _ _ (by omega)]
      · rfl
  rw [key (fun t => decide (t < below ws s)) (fun t ht => ?_) _ _ _ (Nat.le_refl _)]
  · exact Lib.bsGo_spec _ _ (fun t ht => decide_eq_true ht) (fun t ht => decide_eq_false (by omega)) _ _ _ (by omega) (Nat.zero_le _) h3
  · rw [hl t ht]
    by_cases hb : t < below ws s
    · rw [decide_eq_true hb, h1 t hb]
    · rw [decide_eq_false hb, h2 t (by omega) ht]
/-- the index of a word that is there -/
def findL (ws : List Str) (s : Str) : List Int := if below ws s < ws.length ∧ ws.getD (below ws s) [] = s then [(below ws s : Int)] else []
theorem mem_findL {ws : List Str} (h : rising ws = true) (s : Str) (k : Int) : k ∈ findL ws s ↔ ∃ i : Nat, k = i ∧ i < ws.length ∧ ws.getD i [] = s := by
  unfold findL
  constructor
  · intro hk
    split at hk
    · rename_i hc
      exact ⟨_, List.mem_singleton.1 hk, hc.1, hc.2⟩
    · cases hk
  · rintro ⟨i, rfl, hi, he⟩
    have hb : below ws s = i := by
      obtain ⟨h1, h2, h3⟩ := below_lt h s
      rcases Nat.lt_trichotomy (below ws s) i with h4 | h4 | h4
      · have h5 := rising_lt h _ _ h4 hi
        have h6 := h2 i (by omega) hi
        have h7 := h2 (below ws s) (Nat.le_refl _) (by omega)
        rw [he] at h5
        rw [h5] at h7; cases h7
      · exact h4
      · have := h1 i h4
        rw [he, less_irrefl] at this; cases this
    rw [if_pos ⟨by omega, by rw [hb]; exact he⟩, hb]
    exact List.mem_singleton.2 rfl
/-- the indices in the order in which the program comes by them -/
def foundL (ws : List Str) (l : List Str) : List Int := l.flatMap (findL ws)

theorem compact_sorted (d : Array Int) (hs : ∀ i j, i ≤ j → j < d.size → d[i]! ≤ d[j]!) : ∀ m, m ≤ d.size → (Lib.compactUpTo d m).Pairwise (· < ·) ∧ (∀ x ∈ Lib.compactUpTo d m, ∃ j, j < m ∧ x = d[j]!) ∧ (∀ j, j < m → d[j]! ∈ Lib.compactUpTo d m) := by
  intro m
  induction m with
  | zero => intro _; exact ⟨List.Pairwise.nil, fun x h => (by cases h), fun j h => (by omega)⟩
  | succ m ih =>
    intro hm
    obtain ⟨h1, h2, h3⟩ := ih (by omega)
    rw [Lib.compactUpTo_succ]
    have mono : ∀ x ∈ Lib.compactUpTo d m ++ (if Lib.keeps d m then [d[m]!] else []), ∃ j, j < m + 1 ∧ x = d[j]! := by
      intro x hx
      rcases List.mem_append.1 hx with hx | hx
      · obtain ⟨j, hj, e⟩ := h2 x hx
        exact ⟨j, by omega, e⟩
      · split at hx
        · exact ⟨m, by omega, List.mem_singleton.1 hx⟩
        · cases hx
    refine ⟨?_, mono, ?_⟩
    · rw [List.pairwise_append]
      refine ⟨h1, ?_, ?_⟩
      · split
        · exact List.pairwise_singleton _ _
        · exact List.Pairwise.nil
      · intro x hx y hy
        split at hy
        · rename_i hk
          rw [List.mem_singleton.1 hy]
          obtain ⟨j, hj, rfl⟩ := h2 x hx
          unfold Lib.keeps at hk
          have hk := of_decide_eq_true hk
          rcases hk with rfl | hk
          · omega
          · have a1 := hs j (m - 1) (by omega) (by omega)
            have a2 := hs (m - 1) m (by omega) (by omega)
            omega
        · cases hy
    · intro j hj
      rw [List.mem_append]
      by_cases e : j = m
      · subst e
        cases hk : Lib.keeps d j
        · left
          unfold Lib.keeps at hk
          have hk := of_decide_eq_false hk
          rw [not_or] at hk
          have he : d[j]! = d[j - 1]! := by
            by_cases he : d[j]! = d[j - 1]!
            · exact he
            · exact absurd he hk.2
          rw [he]
          exact h3 _ (by omega)
        · right
          exact List.mem_singleton.2 rfl
      · exact .inl (h3 j (by omega))
theorem strict_ext : ∀ {l m : List Int}, l.Pairwise (· < ·) → m.Pairwise (· < ·) → (∀ x, x ∈ l ↔ x ∈ m) → l = m
  | [], [], _, _, _ => rfl
  | [], b :: m, _, _, h => by have := (h b).2 (List.mem_cons_self ..); cases this
  | a :: l, [], _, _, h => by have := (h a).1 (List.mem_cons_self ..); cases this
  | a :: l, b :: m, hl, hm, h => by
    rw [List.pairwise_cons] at hl hm
    have hab : a = b := by
      have h1 := (h a).1 (List.mem_cons_self ..)
      have h2 := (h b).2 (List.mem_cons_self ..)
      rcases List.mem_cons.1 h1 with h1 | h1
      · exact h1
      · rcases List.mem_cons.1 h2 with h2 | h2
        · exact h2.symm
        · have := hl.1 b h2; have := hm.1 a h1; omega
    subst hab
    rw [strict_ext hl.2 hm.2 fun x => ?_]
    constructor
    · intro hx
      rcases List.mem_cons.1 ((h x).1 (List.mem_cons_of_mem _ hx)) with e | e
      · have := hl.1 x hx; omega
      · exact e
    · intro hx
      rcases List.mem_cons.1 ((h x).2 (List.mem_cons_of_mem _ hx)) with e | e
      · have := hm.1 x hx; omega
      · exact e
theorem nearL_strict (ws : List Str) (c : List Conf) (x : Str) (n : Nat) : (nearL ws c x n).Pairwise (· < ·) := by
  unfold nearL
  rw [List.pairwise_map]
  refine List.Pairwise.imp ?_ ((List.pairwise_lt_range (n := n)).filter _)
  intro a b h
  show (a : Int) < (b : Int)
  omega
theorem mem_nearL {ws : List Str} {c : List Conf} {x : Str} {n : Nat} {k : Int} : k ∈ nearL ws c x n ↔ ∃ i : Nat, k = i ∧ i < n ∧ soundsB c (ws.getD i []) x = true := by
  unfold nearL
  rw [List.mem_map]
  constructor
  · rintro ⟨i, hi, rfl⟩
    rw [List.mem_filter, List.mem_range] at hi
    exact ⟨i, rfl, hi.1, hi.2⟩
  · rintro ⟨i, rfl, h1, h2⟩
    exact ⟨i, List.mem_filter.2 ⟨List.mem_range.2 h1, h2⟩, rfl⟩
theorem mem_foundL {ws : List Str} (h : rising ws = true) {c : List Conf} (hc : properB c = true) {x : Str} {k : Int} : k ∈ foundL ws (alikeL c x) ↔ k ∈ nearL ws c x ws.length := by
  unfold foundL
  rw [List.mem_flatMap, mem_nearL]
  constructor
  · rintro ⟨s, hs, hk⟩
    obtain ⟨i, rfl, hi, he⟩ := (mem_findL h s k).1 hk
    refine ⟨i, rfl, hi, ?_⟩
    rw [he, sounds_symm]
    exact (mem_alikeL hc).1 hs
  · rintro ⟨i, rfl, hi, hs⟩
    rw [sounds_symm] at hs
    exact ⟨_, (mem_alikeL hc).2 hs, (mem_findL h _ _).2 ⟨i, rfl, hi, rfl⟩⟩
/-- sorted and freed of doubles -/
theorem near_found {ws : List Str} (h : rising ws = true) {c : List Conf} (hc : properB c = true) (x : Str) :
    Lib.compact ((foundL ws (alikeL c x)).mergeSort fun a b => decide (a ≤ b)) = nearL ws c x ws.length := by
  have hsort := List.pairwise_mergeSort (le := fun a b : Int => decide (a ≤ b)) (fun a b c h1 h2 => decide_eq_true (by have := of_decide_eq_true h1; have := of_decide_eq_true h2; omega)) (fun a b => by
    rw [Bool.or_eq_true, decide_eq_true_eq, decide_eq_true_eq]; omega) (foundL ws (alikeL c x))
  have hperm := List.mergeSort_perm (foundL ws (alikeL c x)) (fun a b : Int => decide (a ≤ b))
  generalize (foundL ws (alikeL c x)).mergeSort (fun a b => decide (a ≤ b)) = zs at *
  have hget : ∀ i (hi : i < zs.length), zs.toArray[i]! = zs[i] := fun i hi => by rw [getElem!_pos _ i (by simpa using hi)]; simp
  obtain ⟨h1, h2, h3⟩ := compact_sorted zs.toArray (fun i j hij hj => by
    have hj : j < zs.length := by simpa using hj
    rw [hget i (by omega), hget j hj]
    rcases Nat.eq_or_lt_of_le hij with rfl | hlt
    · exact Int.le_refl _
    · exact of_decide_eq_true (List.pairwise_iff_getElem.1 hsort i j (by omega) hj hlt)) zs.length (by simp)
  refine strict_ext h1 (nearL_strict ..) fun k => ?_
  rw [← mem_foundL h hc, ← hperm.mem_iff]
  constructor
  · intro hk
    obtain ⟨j, hj, rfl⟩ := h2 k hk
    rw [hget j hj]
    exact List.getElem_mem hj
  · intro hk
    obtain ⟨j, hj, rfl⟩ := List.getElem_of_mem hk
    rw [← hget j hj]
    exact h3 j hj
end Snd
end Go.Proofs.YtgjdbnkeamjhhaaDoor

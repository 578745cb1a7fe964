/-
  Plain laws of alphabets: what the reference computes. No program in sight.
-/
import Derived.Test.YtafbgfdidmepaaaDoorAlLaw3
set_option linter.unusedVariables false
namespace Go.Proofs.YtafbgfdidmepaaaDoor
namespace Al

theorem noTwice_inj {L : List (List UInt8)} (h : noTwice L = true) {i k : Nat} (hi : i < L.length) (hk : k < L.length) (he : L[i] = L[k]) : i = k := by
  have h1 := noTwice_idx h i hi
  have h2 := noTwice_idx h k hk
  rw [he, h2] at h1
  exact h1.symm
theorem first_best {L : List (List UInt8)} (hL : ∀ l ∈ L, 1 ≤ l.length ∧ l.length ≤ 3) (hd : noTwice L = true) {s : List UInt8} {k : Nat} (hk : k < L.length) (hp : L[k] <+: s) (hmax : ∀ l ∈ L, l <+: s → l.length ≤ L[k].length) : first L s = some (k, L[k].length) := by
  have hb := hL _ (List.getElem_mem hk)
  have ht : s.take L[k].length = L[k] := (List.prefix_iff_eq_take.1 hp).symm
  have hle := hp.length_le
  have := longest_eq (L := L) (s := s) L[k].length (min 3 s.length) (by omega) hb.1 (by rw [ht]; simp) ?_
  · rw [ht, noTwice_idx hd k hk] at this
    exact this
  · intro j hj hn
    rw [← Bool.not_eq_true]
    intro hc
    have hm := List.contains_iff_mem.1 hc
    have := hmax _ hm (List.take_prefix _ _)
    rw [List.length_take] at this
    omega
theorem first_no {L : List (List UInt8)} (hL : ∀ l ∈ L, 1 ≤ l.length ∧ l.length ≤ 3) {s : List UInt8} (h : ∀ l ∈ L, ¬ l <+: s) : first L s = none := by
  cases hf : first L s with
  | none => rfl
  | some km =>
    obtain ⟨k, m⟩ := km
    have := (first_some hf).2.2.2.1
    exact absurd (List.take_prefix _ _) (h _ (List.contains_iff_mem.1 this))

/-- the reference's search for the longest letter -/
def better (L : List (List UInt8)) (s : List UInt8) (i : Nat) (out : Int) : Int :=
  if (letterAt L i).isPrefixOf s && (decide (out < 0) || decide ((letterAt L out).length < (letterAt L i).length)) then i else out
def best (L : List (List UInt8)) (s : List UInt8) : Nat → Int
  | 0 => -1
  | i + 1 => better L s i (best L s i)
theorem letterAt_nat (L : List (List UInt8)) (i : Nat) (h : i < L.length) : letterAt L (i : Int) = L[i] := by
  unfold letterAt
  rw [List.getD_eq_getElem?_getD, Int.toNat_natCast, List.getElem?_eq_getElem h]
  rfl
theorem best_spec (L : List (List UInt8)) (s : List UInt8) : ∀ n, n ≤ L.length →
    (best L s n = -1 ∧ ∀ i (h : i < L.length), i < n → ¬ L[i] <+: s) ∨ (∃ k, ∃ hk : k < L.length, best L s n = (k : Int) ∧ k < n ∧ L[k] <+: s ∧ ∀ i (h : i < L.length), i < n → L[i] <+: s → L[i].length ≤ L[k].length) := by
  intro n
  induction n with
  | zero => intro _; exact .inl ⟨rfl, fun i _ h => by omega⟩
  | succ n ih =>
    intro hn
    have hl : letterAt L (n : Int) = L[n] := letterAt_nat L n (by omega)
    rw [best, better, hl]
    rcases ih (by omega) with ⟨h1, h2⟩ | ⟨k, hk, h1, h2, h3, h4⟩
    · rw [h1]
      by_cases hp : L[n] <+: s
      · right
        refine ⟨n, by omega, ?_, by omega, hp, ?_⟩
        · rw [if_pos (by simp [hp])]
        · intro i hi hin hip
          by_cases he : i = n
          · subst he; exact Nat.le_refl _
          · exact absurd hip (h2 i hi (by omega))
      · left
        refine ⟨by rw [if_neg (by simp [hp])], ?_⟩
        intro i hi hin
        by_cases he : i = n
        · subst he; exact hp
        · exact h2 i hi (by omega)
    · rw [h1, letterAt_nat L k hk]
      right
      by_cases hp : L[n] <+: s ∧ L[k].length < L[n].length
      · refine ⟨n, by omega, ?_, by omega, hp.1, ?_⟩
        · rw [if_pos (by simp [hp.1, hp.2])]
        · intro i hi hin hip
          by_cases he : i = n
          · subst he; exact Nat.le_refl _
          · have := h4 i hi (by omega) hip; omega
      · refine ⟨k, hk, ?_, by omega, h3, ?_⟩
        · rw [if_neg]
          simp only [Bool.and_eq_true, Bool.or_eq_true, decide_eq_true_eq, List.isPrefixOf_iff_prefix]
          rintro ⟨a, b⟩
          rcases b with b | b
          · omega
          · exact hp ⟨a, b⟩
        · intro i hi hin hip
          by_cases he : i = n
          · subst he
            rcases Nat.lt_or_ge L[k].length L[i].length with h | h
            · exact absurd ⟨hip, h⟩ hp
            · exact h
          · exact h4 i hi (by omega) hip
/-- what the reference's At returns -/
def atR (L : List (List UInt8)) (s : List UInt8) : Int := match first L s with | none => -1 | some (k, _) => k
theorem best_all {L : List (List UInt8)} (hL : ∀ l ∈ L, 1 ≤ l.length ∧ l.length ≤ 3) (hd : noTwice L = true) (s : List UInt8) : best L s L.length = atR L s := by
  unfold atR
  rcases best_spec L s L.length (Nat.le_refl _) with ⟨h1, h2⟩ | ⟨k, hk, h1, _, h3, h4⟩
  · rw [h1, first_no hL (fun l hl => by obtain ⟨i, hi, rfl⟩ := List.getElem_of_mem hl; exact h2 i hi hi)]
  · rw [h1, first_best hL hd hk h3 (fun l hl hp => by obtain ⟨i, hi, rfl⟩ := List.getElem_of_mem hl; exact h4 i hi hi hp)]

/-- the reference's test of two letters -/
def refClash (L : List (List UInt8)) (i k : Nat) : Bool := decide (i ≠ k) && ((letterAt L k).isPrefixOf (letterAt L i) && follows L 4 ((letterAt L i).drop (letterAt L k).length))
theorem valid_ref {a : Alph} (hf : formedB a = true) : validB a = !((List.range a.letters.length).any fun i => (List.range a.letters.length).any fun k => refClash a.letters i k) := by
  have hl := formed_letters hf
  have hd := formed_noTwice hf
  rw [Bool.eq_iff_iff]
  unfold validB
  rw [hf, Bool.true_and, List.all_eq_true, Bool.not_eq_true', ← Bool.not_eq_true, List.any_eq_true]
  constructor
  · rintro h ⟨i, hi, h2⟩
    rw [List.any_eq_true] at h2
    obtain ⟨k, hk, h2⟩ := h2
    rw [List.mem_range] at hi hk
    unfold refClash at h2
    rw [letterAt_nat _ i hi, letterAt_nat _ k hk] at h2
    simp only [Bool.and_eq_true, decide_eq_true_eq, List.isPrefixOf_iff_prefix] at h2
    obtain ⟨hne, hp, hfo⟩ := h2
    have hml := hl _ (List.getElem_mem hk)
    have hll := hl _ (List.getElem_mem hi)
    have hlt : a.letters[k].length < a.letters[i].length := by
      rcases Nat.lt_or_ge a.letters[k].length a.letters[i].length with h' | h'
      · exact h'
      · have := hp.eq_of_length_le h'
        exact absurd (noTwice_inj hd hk hi this).symm hne
    have ht : a.letters[i].take a.letters[k].length = a.letters[k] := (List.prefix_iff_eq_take.1 hp).symm
    have hcl : clash a.letters a.letters[i] a.letters[k].length = true := by
      unfold clash
      rw [ht, hfo]
      simp [hlt]
    have h3 := h _ (List.getElem_mem hi)
    simp only [Bool.and_eq_true, Bool.not_eq_true'] at h3
    have : a.letters[k].length = 1 ∨ a.letters[k].length = 2 := by omega
    rcases this with h4 | h4
    · rw [h4, h3.1] at hcl; cases hcl
    · rw [h4, h3.2] at hcl; cases hcl
  · intro h l hm
    have key : ∀ n, clash a.letters l n = false := by
      intro n
      rw [← Bool.not_eq_true]
      intro hc
      unfold clash at hc
      simp only [Bool.and_eq_true, decide_eq_true_eq, List.contains_iff_mem] at hc
      obtain ⟨h1, h2, h3⟩ := hc
      obtain ⟨i, hi, rfl⟩ := List.getElem_of_mem hm
      obtain ⟨k, hk, he⟩ := List.getElem_of_mem h2
      refine h ⟨i, by simpa using hi, ?_⟩
      rw [List.any_eq_true]
      refine ⟨k, by simpa using hk, ?_⟩
      unfold refClash
      rw [letterAt_nat _ i hi, letterAt_nat _ k hk]
      have hlk : a.letters[k].length = n := by rw [he, List.length_take]; omega
      have hp : a.letters[k] <+: a.letters[i] := by rw [he]; exact List.take_prefix _ _
      rw [hlk, h3]
      simp only [Bool.and_eq_true, decide_eq_true_eq, List.isPrefixOf_iff_prefix]
      refine ⟨?_, hp, trivial⟩
      rintro rfl
      omega
    simp [key]
end Al
end Go.Proofs.YtafbgfdidmepaaaDoor

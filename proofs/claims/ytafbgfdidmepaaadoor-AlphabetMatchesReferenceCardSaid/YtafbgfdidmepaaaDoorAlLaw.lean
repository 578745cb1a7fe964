/-
  Plain laws of alphabets: how a word is read. No program in sight.
-/
import Derived.Test.YtafbgfdidmepaaaDoorAlSpec
set_option linter.unusedVariables false
namespace Go.Proofs.YtafbgfdidmepaaaDoor
namespace Al

/-! the longest letter -/
theorem longest_eq {L : List (List UInt8)} {s : List UInt8} (m : Nat) : ∀ n, m ≤ n → 1 ≤ m → L.contains (s.take m) = true → (∀ j, m < j → j ≤ n → L.contains (s.take j) = false) → longest L s n = some (idx L (s.take m), m) := by
  intro n
  induction n with
  | zero => intro h1 h2; omega
  | succ n ih =>
    intro h1 h2 h3 h4
    by_cases h : m = n + 1
    · subst h
      rw [longest, if_pos h3]
    · rw [longest, if_neg (by rw [h4 (n + 1) (by omega) (by omega)]; decide)]
      exact ih (by omega) h2 h3 (fun j hj hn => h4 j hj (by omega))
theorem longest_none {L : List (List UInt8)} {s : List UInt8} : ∀ n, longest L s n = none → ∀ j, 1 ≤ j → j ≤ n → L.contains (s.take j) = false := by
  intro n
  induction n with
  | zero => intro _ j h1 h2; omega
  | succ n ih =>
    intro h j h1 h2
    rw [longest] at h
    by_cases hc : L.contains (s.take (n + 1)) = true
    · rw [if_pos hc] at h; cases h
    · rw [if_neg hc] at h
      by_cases hj : j = n + 1
      · subst hj; simpa using hc
      · exact ih h j h1 (by omega)
theorem longest_some {L : List (List UInt8)} {s : List UInt8} {k m : Nat} : ∀ n, longest L s n = some (k, m) → 1 ≤ m ∧ m ≤ n ∧ L.contains (s.take m) = true ∧ k = idx L (s.take m) ∧ ∀ j, m < j → j ≤ n → L.contains (s.take j) = false := by
  intro n
  induction n with
  | zero => intro h; cases h
  | succ n ih =>
    intro h
    rw [longest] at h
    by_cases hc : L.contains (s.take (n + 1)) = true
    · rw [if_pos hc] at h
      simp only [Option.some.injEq, Prod.mk.injEq] at h
      obtain ⟨rfl, rfl⟩ := h
      exact ⟨by omega, Nat.le_refl _, hc, rfl, fun j h1 h2 => by omega⟩
    · rw [if_neg hc] at h
      obtain ⟨h1, h2, h3, h4, h5⟩ := ih h
      refine ⟨h1, by omega, h3, h4, fun j hj hn => ?_⟩
      by_cases hj2 : j = n + 1
      · subst hj2; simpa using hc
      · exact h5 j hj (by omega)
theorem first_some {L : List (List UInt8)} {s : List UInt8} {k m : Nat} (h : first L s = some (k, m)) : 1 ≤ m ∧ m ≤ 3 ∧ m ≤ s.length ∧ L.contains (s.take m) = true ∧ k = idx L (s.take m) ∧ ∀ j, m < j → j ≤ 3 → j ≤ s.length → L.contains (s.take j) = false := by
  obtain ⟨h1, h2, h3, h4, h5⟩ := longest_some _ h
  exact ⟨h1, by omega, by omega, h3, h4, fun j a b c => h5 j a (by omega)⟩
theorem idx_lt {L : List (List UInt8)} {l : List UInt8} (h : L.contains l = true) : idx L l < L.length := by
  unfold idx
  rw [List.findIdx_lt_length]
  exact ⟨l, by simpa using h, by simp⟩
theorem idx_get {L : List (List UInt8)} {l : List UInt8} (h : L.contains l = true) : L[idx L l]? = some l := by
  have hl := idx_lt h
  rw [List.getElem?_eq_getElem hl]
  have := List.findIdx_getElem (xs := L) (p := (· == l)) (w := hl)
  rw [beq_iff_eq] at this
  exact congrArg some this

/-! what valid alphabets have -/
theorem formed_letters {a : Alph} (h : formedB a = true) : ∀ l ∈ a.letters, 1 ≤ l.length ∧ l.length ≤ 3 := by
  intro l hl
  unfold formedB at h
  simp only [Bool.and_eq_true, List.all_eq_true] at h
  have := h.1.1.2 l hl
  unfold printedB at this
  simp only [Bool.and_eq_true, decide_eq_true_eq] at this
  exact this.2
theorem valid_formed {a : Alph} (h : validB a = true) : formedB a = true := by
  unfold validB at h
  rw [Bool.and_eq_true] at h
  exact h.1
theorem valid_clash {a : Alph} (h : validB a = true) {l : List UInt8} (hl : l ∈ a.letters) : clash a.letters l 1 = false ∧ clash a.letters l 2 = false := by
  unfold validB at h
  rw [Bool.and_eq_true, List.all_eq_true] at h
  have := h.2 l hl
  simpa using this
theorem noTwice_idx {L : List (List UInt8)} (h : noTwice L = true) : ∀ (i : Nat) (hi : i < L.length), idx L L[i] = i := by
  induction L with
  | nil => intro i hi; simp at hi
  | cons l r ih =>
    intro i hi
    rw [noTwice, Bool.and_eq_true] at h
    cases i with
    | zero => unfold idx; rw [List.findIdx_cons]; simp
    | succ i =>
      have hi' : i < r.length := by simpa using hi
      have hne : (l == r[i]) = false := by
        rw [beq_eq_false_iff_ne]
        rintro rfl
        have := h.1
        simp at this
      have := ih h.2 i hi'
      unfold idx at this ⊢
      rw [List.findIdx_cons]
      simp [hne, this]

/-! letters that follow -/
theorem follows_of {L : List (List UInt8)} (hL : ∀ l ∈ L, 1 ≤ l.length) : ∀ (f : Nat) (s : List UInt8) (xs : List (List UInt8)), s.length < f → s ≠ [] → (∀ x ∈ xs, x ∈ L) → s <+: xs.flatten → follows L f s = true := by
  intro f
  induction f with
  | zero => intro s xs h; omega
  | succ f ih =>
    intro s xs hf hs hx hp
    cases xs with
    | nil => simp at hp; exact absurd hp hs
    | cons x xs =>
      rw [List.flatten_cons] at hp
      rw [follows, List.any_eq_true]
      refine ⟨x, hx x (by simp), ?_⟩
      rw [Bool.or_eq_true]
      rcases Nat.lt_or_ge x.length s.length with h | h
      · right
        have hxs : x <+: s := List.prefix_of_prefix_length_le (List.prefix_append x xs.flatten) hp (by omega)
        obtain ⟨r, rfl⟩ := hxs
        rw [Bool.and_eq_true]
        refine ⟨by simp, ?_⟩
        rw [List.drop_left]
        have hx1 := hL x (hx x (by simp))
        rw [List.length_append] at h hf
        refine ih r xs (by omega) (by rintro rfl; simp at h) (fun y hy => hx y (by simp [hy])) ?_
        exact (List.prefix_append_right_inj x).1 hp
      · left
        have := List.prefix_of_prefix_length_le hp (List.prefix_append x xs.flatten) h
        simpa using this

/-- a word of letters of a valid alphabet begins with its first letter, and with no longer one -/
theorem first_join {a : Alph} (h : validB a = true) (x : List UInt8) (xs : List (List UInt8)) (hx : x ∈ a.letters) (hxs : ∀ y ∈ xs, y ∈ a.letters) :
    first a.letters (x ++ xs.flatten) = some (idx a.letters x, x.length) := by
  have hl := formed_letters (valid_formed h)
  have hx1 := hl x hx
  have ht : (x ++ xs.flatten).take x.length = x := List.take_left
  have := longest_eq (L := a.letters) (s := x ++ xs.flatten) x.length (min 3 (x ++ xs.flatten).length) (by rw [List.length_append]; omega) hx1.1 (by rw [ht]; simpa using hx) ?_
  · rw [ht] at this; exact this
  · intro j hj hn
    rw [← Bool.not_eq_true]
    intro hc
    have hm : (x ++ xs.flatten).take j ∈ a.letters := by simpa using hc
    have hlen : ((x ++ xs.flatten).take j).length = j := by rw [List.length_take]; omega
    have htk : ((x ++ xs.flatten).take j).take x.length = x := by rw [List.take_take, Nat.min_eq_left (by omega)]; exact ht
    have hdr : ((x ++ xs.flatten).take j).drop x.length = xs.flatten.take (j - x.length) := by rw [List.drop_take, List.drop_left]
    have hcl := valid_clash h hm
    have hf : follows a.letters 4 (((x ++ xs.flatten).take j).drop x.length) = true := by
      rw [hdr]
      refine follows_of (fun l hl' => (hl l hl').1) 4 _ xs (by rw [List.length_take]; omega) ?_ hxs (List.take_prefix _ _)
      intro h0
      have := congrArg List.length h0
      rw [List.length_take, List.length_nil] at this
      rw [List.length_append] at hn
      omega
    have hcc : clash a.letters ((x ++ xs.flatten).take j) x.length = true := by
      unfold clash
      rw [hlen, htk, hf]
      simp [hx, hj]
    have : x.length = 1 ∨ x.length = 2 := by omega
    rcases this with h1 | h1
    · rw [h1, hcl.1] at hcc; cases hcc
    · rw [h1, hcl.2] at hcc; cases hcc

/-- reading what was joined -/
theorem collect_join {a : Alph} (h : validB a = true) : ∀ (xs : List (List UInt8)) (f at_ : Nat) (out : List Int), (∀ y ∈ xs, y ∈ a.letters) → xs.flatten.length < f →
    (out.length + xs.length ≤ 24 → collect out (places a.letters f at_ xs.flatten) = (out ++ xs.map (fun x => (idx a.letters x : Int)), 0, 0)) ∧
    (out.length ≤ 24 → 24 < out.length + xs.length → ∃ o : Nat, collect out (places a.letters f at_ xs.flatten) = ([], 2, (o : Int)) ∧ o < at_ + xs.flatten.length ∧ at_ ≤ o) := by
  intro xs
  induction xs with
  | nil =>
    intro f at_ out _ hf
    refine ⟨fun _ => ?_, fun h1 h2 => by simp at h2; omega⟩
    cases f with
    | zero => omega
    | succ f => simp [places, collect]
  | cons x xs ih =>
    intro f at_ out hx hf
    have hxl := hx x (by simp)
    have hx1 := formed_letters (valid_formed h) x hxl
    have hfj := first_join h x xs hxl (fun y hy => hx y (by simp [hy]))
    rw [List.flatten_cons] at hf ⊢
    obtain ⟨f, rfl⟩ : ∃ f', f = f' + 1 := ⟨f - 1, by omega⟩
    have hp : places a.letters (f + 1) at_ (x ++ xs.flatten) = (at_, (idx a.letters x : Int)) :: places a.letters f (at_ + x.length) xs.flatten := by
      cases hxe : x ++ xs.flatten with
      | nil => rw [List.append_eq_nil_iff] at hxe; rw [hxe.1] at hx1; simp at hx1
      | cons c r =>
        rw [places, ← hxe, hfj]
        simp only []
        rw [List.drop_left]
    rw [hp, collect, if_neg (by omega)]
    rw [List.length_append] at hf
    have hi := ih f (at_ + x.length) (out ++ [(idx a.letters x : Int)]) (fun y hy => hx y (by simp [hy])) (by omega)
    rw [List.length_append] at hi
    simp only [List.length_cons, List.length_nil] at hi ⊢
    constructor
    · intro hle
      rw [if_neg (by omega)]
      rw [hi.1 (by omega)]
      simp
    · intro h24 hgt
      by_cases h2 : out.length = 24
      · rw [if_pos h2]
        exact ⟨at_, rfl, by rw [List.length_append]; omega, Nat.le_refl _⟩
      · rw [if_neg h2]
        obtain ⟨o, ho, h3, h4⟩ := hi.2 (by omega) (by omega)
        exact ⟨o, ho, by rw [List.length_append]; omega, by omega⟩

/-- what is read is, joined, the text -/
theorem places_join (L : List (List UInt8)) : ∀ (f at_ : Nat) (s : List UInt8) (out ks : List Int), s.length < f → out.length ≤ 24 → collect out (places L f at_ s) = (ks, 0, 0) →
    ∃ rs : List (List UInt8), (∀ x ∈ rs, x ∈ L) ∧ rs.flatten = s ∧ ks = out ++ rs.map (fun x => (idx L x : Int)) ∧ out.length + rs.length ≤ 24 := by
  intro f
  induction f with
  | zero => intro at_ s out ks h; omega
  | succ f ih =>
    intro at_ s out ks hf ho h
    cases s with
    | nil =>
      simp only [places, collect, Prod.mk.injEq] at h
      exact ⟨[], by simp, rfl, by simp [h.1], by simpa using ho⟩
    | cons c r =>
      rw [places] at h
      cases hfi : first L (c :: r) with
      | none => rw [hfi] at h; simp [collect] at h
      | some km =>
        obtain ⟨k, m⟩ := km
        rw [hfi] at h
        simp only [collect] at h
        obtain ⟨h1, h2, h3, h4, h5, h6⟩ := first_some hfi
        rw [if_neg (by omega)] at h
        by_cases h24 : out.length = 24
        · rw [if_pos h24] at h; simp at h
        · rw [if_neg h24] at h
          have hf2 : ((c :: r).drop m).length < f := by rw [List.length_drop]; omega
          obtain ⟨rs, hr1, hr2, hr3, hr4⟩ := ih (at_ + m) ((c :: r).drop m) (out ++ [(k : Int)]) ks hf2 (by simp; omega) h
          rw [List.length_append] at hr4
          simp only [List.length_cons, List.length_nil] at hr4
          refine ⟨(c :: r).take m :: rs, ?_, ?_, ?_, by simp; omega⟩
          · intro x hx
            rcases List.mem_cons.1 hx with rfl | hx
            · simpa using h4
            · exact hr1 x hx
          · rw [List.flatten_cons, hr2, List.take_append_drop]
          · rw [hr3, List.map_cons, ← h5]
            simp
end Al
end Go.Proofs.YtafbgfdidmepaaaDoor

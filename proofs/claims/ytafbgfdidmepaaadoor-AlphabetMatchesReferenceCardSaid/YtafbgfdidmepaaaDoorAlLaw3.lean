/-
  Plain laws of alphabets: no longer letter stands, errors, one letter fewer, letters of one length, the reference. No program in sight.
-/
import Derived.Test.YtafbgfdidmepaaaDoorAlLaw2
set_option linter.unusedVariables false
namespace Go.Proofs.YtafbgfdidmepaaaDoor
namespace Al

/-- P10.2: no longer letter stands where a letter of a word stands -/
theorem no_longer {a : Alph} (h : validB a = true) {x : List UInt8} {xs : List (List UInt8)} (hx : x ∈ a.letters) (hxs : ∀ y ∈ xs, y ∈ a.letters) {m : List UInt8} (hm : m ∈ a.letters) (hlt : x.length < m.length) : ¬ m <+: x ++ xs.flatten := by
  intro hp
  obtain ⟨_, _, h3, _, _, h6⟩ := first_some (first_join h x xs hx hxs)
  have hm3 := (formed_letters (valid_formed h) m hm).2
  have := h6 m.length hlt hm3 hp.length_le
  rw [List.prefix_iff_eq_take] at hp
  rw [← hp] at this
  simp [hm] at this

/-- an error: what stands before it are letters -/
theorem collect_err (L : List (List UInt8)) : ∀ (f at_ : Nat) (s : List UInt8) (out ks : List Int) (e o : Int), s.length < f → collect out (places L f at_ s) = (ks, e, o) → e ≠ 0 →
    ∃ rs : List (List UInt8), (∀ x ∈ rs, x ∈ L) ∧ rs.flatten <+: s ∧ o = ((at_ + rs.flatten.length : Nat) : Int) ∧ rs.flatten.length < s.length ∧ (e = 3 ∨ (e = 2 ∧ out.length + rs.length = 24)) ∧ (out.length ≤ 24 → out.length + rs.length ≤ 24) := by
  intro f
  induction f with
  | zero => intro at_ s out ks e o h; omega
  | succ f ih =>
    intro at_ s out ks e o hf h he
    cases s with
    | nil =>
      simp only [places, collect, Prod.mk.injEq] at h
      exact absurd h.2.1.symm he
    | cons c r =>
      rw [places] at h
      cases hfi : first L (c :: r) with
      | none =>
        rw [hfi] at h
        simp only [collect] at h
        rw [if_pos (by decide)] at h
        simp only [Prod.mk.injEq] at h
        exact ⟨[], by simp, by simp, by rw [← h.2.2]; simp, by simp, .inl h.2.1.symm, fun hh => by simpa using hh⟩
      | some km =>
        obtain ⟨k, m⟩ := km
        rw [hfi] at h
        simp only [collect] at h
        obtain ⟨h1, h2, h3, h4, h5, h6⟩ := first_some hfi
        rw [if_neg (by omega)] at h
        by_cases h24 : out.length = 24
        · rw [if_pos h24] at h
          simp only [Prod.mk.injEq] at h
          exact ⟨[], by simp, by simp, by rw [← h.2.2]; simp, by simp, .inr ⟨h.2.1.symm, by simpa using h24⟩, fun hh => by simpa using hh⟩
        · rw [if_neg h24] at h
          have hf2 : ((c :: r).drop m).length < f := by rw [List.length_drop]; omega
          obtain ⟨rs, hr1, hr2, hr3, hr4, hr5, hr6⟩ := ih (at_ + m) ((c :: r).drop m) (out ++ [(k : Int)]) ks e o hf2 h he
          rw [List.length_append] at hr5 hr6
          simp only [List.length_cons, List.length_nil] at hr5 hr6
          have htl : ((c :: r).take m).length = m := by rw [List.length_take]; omega
          refine ⟨(c :: r).take m :: rs, ?_, ?_, ?_, ?_, ?_, ?_⟩
          · intro x hx
            rcases List.mem_cons.1 hx with rfl | hx
            · simpa using h4
            · exact hr1 x hx
          · rw [List.flatten_cons]
            conv => rhs; rw [← List.take_append_drop m (c :: r)]
            exact (List.prefix_append_right_inj _).2 hr2
          · rw [hr3, List.flatten_cons, List.length_append, htl]
            omega
          · rw [List.flatten_cons, List.length_append, htl]
            rw [List.length_drop] at hr4
            omega
          · rw [List.length_cons]
            omega
          · rw [List.length_cons]
            omega

/-- P10.5 -/
theorem errors_law {a : Alph} (h : validB a = true) {s : List UInt8} {ks : List Int} {e o : Int} (hr : readB a s = (ks, e, o)) (he : e = 3 ∨ e = 2) :
    ∃ p : Nat, o = p ∧ p < s.length ∧ (p = 0 → e = 3) ∧ (0 < p → (readB a (s.take p)).2.1 = 0 ∧ (e = 2 → (readB a (s.take p)).1.length = 24)) := by
  unfold readB readL at hr
  rw [if_pos h] at hr
  by_cases hs : s = []
  · rw [if_pos hs] at hr
    simp only [Prod.mk.injEq] at hr
    omega
  · rw [if_neg hs] at hr
    obtain ⟨rs, h1, h2, h3, h4, h5, h6⟩ := collect_err a.letters _ 0 s [] ks e o (by omega) hr (by omega)
    simp only [List.length_nil, Nat.zero_add] at h3 h5 h6
    refine ⟨rs.flatten.length, h3, h4, ?_, ?_⟩
    · intro h0
      rcases h5 with h5 | ⟨_, h5⟩
      · exact h5
      · exfalso
        cases rs with
        | nil => simp at h5
        | cons x rs =>
          have := (formed_letters (valid_formed h) x (h1 x (by simp))).1
          rw [List.flatten_cons, List.length_append] at h0
          omega
    · intro h0
      have ht : s.take rs.flatten.length = rs.flatten := ((List.prefix_iff_eq_take.1 h2)).symm
      rw [ht]
      have hne : rs.flatten ≠ [] := by
        intro h'
        rw [h'] at h0
        simp at h0
      have hc := (collect_join h rs (rs.flatten.length + 1) 0 [] h1 (by omega)).1 (by simpa using h6 (by simp))
      have hrd : readB a rs.flatten = (rs.map (fun x => (idx a.letters x : Int)), 0, 0) := by
        unfold readB readL
        rw [if_pos h, if_neg hne, hc]
        rfl
      rw [hrd]
      refine ⟨rfl, fun h2' => ?_⟩
      simp only [List.length_map]
      omega
theorem errors_else {a : Alph} (h : validB a = true) {s : List UInt8} {ks : List Int} {e o : Int} (hr : readB a s = (ks, e, o)) (he : e ≠ 3) (he2 : e ≠ 2) : o = 0 ∧ (e = 0 ↔ s ≠ []) := by
  by_cases h0 : e = 0
  · have h1 : (readB a s).2.1 = 0 := by rw [hr]; exact h0
    obtain ⟨_, h2, h3, _⟩ := read_ok h1
    rw [hr] at h3
    simp only [Prod.mk.injEq] at h3
    exact ⟨h3.2.2, ⟨fun _ => h2, fun _ => h0⟩⟩
  · unfold readB readL at hr
    rw [if_pos h] at hr
    by_cases hs : s = []
    · rw [if_pos hs] at hr
      simp only [Prod.mk.injEq] at hr
      exact ⟨hr.2.2.symm, ⟨fun h' => absurd h' h0, fun h' => absurd hs h'⟩⟩
    · rw [if_neg hs] at hr
      obtain ⟨rs, h1, h2, h3, h4, h5, h6⟩ := collect_err a.letters _ 0 s [] ks e o (by omega) hr h0
      omega

/-- P10.7 -/
theorem follows_mono {L M : List (List UInt8)} (h : ∀ x ∈ L, x ∈ M) : ∀ (f : Nat) (s : List UInt8), follows L f s = true → follows M f s = true := by
  intro f
  induction f with
  | zero => intro s h'; exact h'
  | succ f ih =>
    intro s h'
    rw [follows, List.any_eq_true] at h' ⊢
    obtain ⟨l, hl, hc⟩ := h'
    refine ⟨l, h l hl, ?_⟩
    rw [Bool.or_eq_true] at hc ⊢
    rcases hc with hc | hc
    · exact .inl hc
    · rw [Bool.and_eq_true] at hc ⊢
      exact .inr ⟨hc.1, ih _ hc.2⟩
theorem clash_mono {L M : List (List UInt8)} (h : ∀ x ∈ L, x ∈ M) (l : List UInt8) (n : Nat) (hc : clash M l n = false) : clash L l n = false := by
  cases h' : clash L l n
  · rfl
  · unfold clash at h' hc
    simp only [Bool.and_eq_true, List.contains_iff_mem] at h'
    have h2 := h _ h'.2.1
    have h3 := follows_mono h _ _ h'.2.2
    rw [h3, h'.1] at hc
    simp [h2] at hc
theorem noTwice_take {L : List (List UInt8)} (h : noTwice L = true) : ∀ n, noTwice (L.take n) = true := by
  induction L with
  | nil => intro n; simp [noTwice]
  | cons l r ih =>
    intro n
    rw [noTwice, Bool.and_eq_true] at h
    cases n with
    | zero => rfl
    | succ n =>
      rw [List.take_succ_cons, noTwice, Bool.and_eq_true]
      refine ⟨?_, ih h.2 n⟩
      have := h.1
      simp only [Bool.not_eq_true', List.contains_eq_mem, decide_eq_false_iff_not] at this ⊢
      exact fun h' => this (List.mem_of_mem_take h')
theorem fewer_law {a : Alph} (h : validB a = true) {n : Nat} (hn : a.letters.length = n + 1) (h1 : 1 ≤ n) (hs : ∀ i : Nat, i < n → a.small.getD i 0 ≠ n) : validB ⟨a.name, a.letters.take n, a.small.take n⟩ = true := by
  have hf := valid_formed h
  obtain ⟨s1, s2⟩ := formed_small hf
  have hsub : ∀ x ∈ a.letters.take n, x ∈ a.letters := fun x hx => List.mem_of_mem_take hx
  have hlen : (a.letters.take n).length = n := by rw [List.length_take]; omega
  have hf' : formedB ⟨a.name, a.letters.take n, a.small.take n⟩ = true := by
    have hff := hf
    unfold formedB at hff ⊢
    simp only [Bool.and_eq_true, decide_eq_true_eq, beq_iff_eq, List.all_eq_true] at hff ⊢
    refine ⟨⟨⟨⟨⟨hff.1.1.1.1.1, ?_⟩, ?_⟩, ?_⟩, ?_⟩, ?_⟩
    · rw [hlen]; have := hff.1.1.1.1.2; omega
    · rw [hlen, List.length_take]; omega
    · exact fun x hx => hff.1.1.2 x (hsub x hx)
    · exact noTwice_take hff.1.2 n
    · intro k hk
      obtain ⟨b1, b2, b3⟩ := s2 k (List.mem_of_mem_take hk)
      obtain ⟨i, hi, rfl⟩ := List.getElem_of_mem hk
      have hi' : i < n := by rw [List.length_take] at hi; omega
      have hne := hs i hi'
      rw [List.getD_eq_getElem?_getD, List.getElem?_eq_getElem (by omega), Option.getD_some] at hne
      rw [List.getElem_take] at b1 b2 b3 ⊢
      unfold smallAt
      simp only [Bool.and_eq_true, decide_eq_true_eq, beq_iff_eq]
      refine ⟨⟨b1, by rw [hlen]; omega⟩, ?_⟩
      rw [List.getD_eq_getElem?_getD, List.getElem?_take, if_pos (by omega), ← List.getD_eq_getElem?_getD]
      exact b3
  unfold validB
  rw [hf', Bool.true_and, List.all_eq_true]
  intro l hl
  obtain ⟨c1, c2⟩ := valid_clash h (hsub l hl)
  simp only [clash_mono hsub l 1 c1, clash_mono hsub l 2 c2]
  rfl

/-- P10.8 -/
theorem bytes_law {a : Alph} {m : Nat} (hm : ∀ l ∈ a.letters, l.length = m) : validB a = formedB a := by
  unfold validB
  cases hf : formedB a
  · rfl
  · rw [Bool.true_and, List.all_eq_true]
    intro l hl
    have hc : ∀ n, clash a.letters l n = false := by
      intro n
      unfold clash
      by_cases hn : n < l.length
      · have : a.letters.contains (l.take n) = false := by
          rw [← Bool.not_eq_true]
          intro h
          have h1 := hm _ (List.contains_iff_mem.1 h)
          have h2 := hm l hl
          rw [List.length_take] at h1
          omega
        rw [this]
        simp
      · simp [hn]
    rw [hc, hc]
    rfl
end Al
end Go.Proofs.YtafbgfdidmepaaaDoor

/-
  The plain law of identifiers: a text is a name exactly if its only token is a name that is the text. No program in sight.
-/
import Derived.Test.YtgjdbnkeamjhhaaDoorLexLaw
set_option linter.unusedVariables false
namespace Go.Proofs.YtgjdbnkeamjhhaaDoor
namespace Lx

theorem letter_gap (c : UInt8) (r : List UInt8) (h : isLetter c = true) : gap (c :: r) = 0 := by
  have H : ∀ c : Fin 256, isLetter (UInt8.ofNat c.val) = true → isBlank (UInt8.ofNat c.val) = false ∧ (UInt8.ofNat c.val == 35) = false := by decide +kernel
  have h1 := H ⟨c.toNat, UInt8.toNat_lt c⟩
  simp only [UInt8.ofNat_toNat] at h1
  obtain ⟨h1, h2⟩ := h1 h
  simp only [gap, gapc, h1, h2, Bool.false_eq_true, if_false]
theorem span_whole (p : UInt8 → Bool) (q : List UInt8) (hq : ∀ b ∈ q, p b = true) : span p q = q.length := by
  induction q with
  | nil => rfl
  | cons a q ih => rw [span_cons' (hq a (by simp)), ih (fun b hb => hq b (by simp [hb]))]; rfl
theorem span_eq_length (p : UInt8 → Bool) (q : List UInt8) (h : span p q = q.length) : ∀ b ∈ q, p b = true := by
  induction q with
  | nil => simp
  | cons a q ih =>
    intro b hb
    cases ha : p a
    · rw [span_stop' ha] at h; simp at h
    · rw [span_cons' ha] at h
      rcases List.mem_cons.1 hb with rfl | hb
      · exact ha
      · exact ih (by simpa using h) b hb
/-- a token of kind 1 is made of the letters that stand first -/
theorem scan_kind1 (l : List UInt8) (he : (scan l).err = 0) (hk : (scan l).kind = 1) : ∃ c r, l = c :: r ∧ isLetter c = true ∧ span isWord r + 1 ≤ 24 ∧ (scan l).text = (c :: r).take (span isWord r + 1) ∧ (scan l).width = span isWord r + 1 := by
  cases l with
  | nil => cases he
  | cons c r =>
    cases h1 : isLetter c
    · exfalso
      rw [scan, if_neg (by rw [h1]; decide)] at he hk
      split at hk
      · simp only [] at hk
        split at hk <;> cases hk
      · split at hk
        · simp only [] at hk
          split at hk
          · split at hk <;> cases hk
          · cases hk
        · split at hk
          · cases hk
          · split at hk <;> cases hk
    · rw [scan, if_pos h1] at he ⊢
      simp only [] at he ⊢
      by_cases h24 : 24 < span isWord r + 1
      · rw [if_pos h24] at he; cases he
      · rw [if_neg h24] at he ⊢
        exact ⟨c, r, rfl, h1, by omega, rfl, rfl⟩
theorem lex_name (s : List UInt8) (hs : s.length ≤ 5000) (hn : nameB s = true) : lex s = ([⟨1, 0, 0, s⟩], 0, 0) := by
  unfold nameB at hn
  rw [Bool.and_eq_true, Bool.and_eq_true, Bool.and_eq_true, decide_eq_true_eq, decide_eq_true_eq, List.all_eq_true] at hn
  obtain ⟨⟨h1, h2, h3⟩, h4⟩ := hn
  cases s with
  | nil => cases h4
  | cons c r =>
    simp only [] at h4
    have hg := letter_gap c r h4
    have hsp := span_whole isWord r (fun b hb => h1 b (by simp [hb]))
    have hsc : scan (c :: r) = ⟨0, 1, 0, c :: r, (c :: r).length⟩ := by
      rw [scan, if_pos h4]
      simp only []
      rw [hsp, if_neg (by rw [List.length_cons] at h3; omega), List.length_cons, show r.length + 1 = (c :: r).length from rfl, List.take_length]
    have hok : LexOk 0 (c :: r) [⟨1, (0 : Nat), 0, c :: r⟩] := by
      have h := LexOk.tok 0 (c :: r) [] (by rw [hg]; simp) (by rw [hg, List.drop_zero, hsc]) (by
        rw [hg, List.drop_zero, hsc]
        exact LexOk.done _ _ (by simp))
      rw [hg, List.drop_zero, hsc] at h
      exact h
    exact lex_ok hs hok
theorem name_lex (s : List UInt8) (hs : s.length ≤ 5000) {t : Tok} {e a : Int} (h : lex s = ([t], e, a)) (he : e = 0) (hk : t.kind = 1) (ht : t.text = s) : nameB s = true := by
  rcases lex_small s hs with ⟨ts, h1, h2⟩ | ⟨e', a', h1, h2⟩
  · rw [h2] at h
    simp only [Prod.mk.injEq] at h
    obtain ⟨rfl, _, _⟩ := h
    cases h1 with
    | tok _ _ _ hne he' hr =>
      have hk' : (scan (s.drop (gap s))).kind = 1 := hk
      have ht' : (scan (s.drop (gap s))).text = s := ht
      obtain ⟨c, r, hd, hl, h24, h5, h6⟩ := scan_kind1 _ he' hk'
      rw [h5] at ht'
      have hlen := congrArg List.length ht'
      rw [List.length_take] at hlen
      have hdl := congrArg List.length hd
      rw [List.length_drop] at hdl
      have hg : gap s = 0 := by
        have := gap_le s
        have : (c :: r).length ≤ s.length := by omega
        omega
      rw [hg, List.drop_zero] at hd
      have hsl := span_le' isWord r
      have hsp : span isWord r = r.length := by
        rw [hd, List.length_cons] at hlen
        omega
      have hall := span_eq_length isWord r hsp
      have hlw : isWord c = true := by unfold isWord; rw [hl]; rfl
      rw [hd]
      unfold nameB
      rw [Bool.and_eq_true, Bool.and_eq_true, Bool.and_eq_true, decide_eq_true_eq, decide_eq_true_eq, List.all_eq_true]
      refine ⟨⟨?_, by simp, ?_⟩, hl⟩
      · intro b hb
        rcases List.mem_cons.1 hb with rfl | hb
        · exact hlw
        · exact hall b hb
      · rw [List.length_cons]; omega
  · rw [h2] at h
    simp at h
end Lx
end Go.Proofs.YtgjdbnkeamjhhaaDoor

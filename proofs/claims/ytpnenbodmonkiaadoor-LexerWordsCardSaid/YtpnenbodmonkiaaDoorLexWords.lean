/-
  The plain law of words: a name, a symbol, digits and a text in quotes are four tokens. No program in sight.
-/
import Derived.Test.YtpnenbodmonkiaaDoorRef04B
set_option linter.unusedVariables false
namespace Go.Proofs.YtpnenbodmonkiaaDoor
namespace Lx

theorem LexOk.one {o : Nat} {l : List UInt8} {k : Int} {n : Int} {t : List UInt8} {wd : Nat} {ts : List Tok} (hg : gap l = 0) (hne : l ≠ []) (hs : scan l = ⟨0, k, n, t, wd⟩) (hr : LexOk (o + wd) (l.drop wd) ts) :
    LexOk o l (⟨k, o, n, t⟩ :: ts) := by
  have h := LexOk.tok o l ts (by rw [hg]; exact hne) (by rw [hg, List.drop_zero, hs]) (by rw [hg, List.drop_zero, hs, Nat.add_zero, Nat.zero_add]; exact hr)
  rw [hg, List.drop_zero, hs] at h
  exact h
theorem gap_zero {c : UInt8} (r : List UInt8) (h1 : isBlank c = false) (h2 : (c == 35) = false) : gap (c :: r) = 0 := by
  simp only [gap, gapc, h1, h2, Bool.false_eq_true, if_false]
theorem span_all (p : UInt8 → Bool) (q r : List UInt8) (c : UInt8) (hq : ∀ b ∈ q, p b = true) (hc : p c = false) : span p (q ++ c :: r) = q.length := by
  induction q with
  | nil => rw [List.nil_append, span_stop' hc]; rfl
  | cons a q ih =>
    rw [List.cons_append, span_cons' (hq a (by simp)), ih (fun b hb => hq b (by simp [hb]))]
    rfl
theorem letter_plain (c : UInt8) (h : isLetter c = true) : isBlank c = false ∧ (c == 35) = false := by
  have H : ∀ c : Fin 256, isLetter (UInt8.ofNat c.val) = true → isBlank (UInt8.ofNat c.val) = false ∧ (UInt8.ofNat c.val == 35) = false := by decide +kernel
  have h1 := H ⟨c.toNat, UInt8.toNat_lt c⟩
  simp only [UInt8.ofNat_toNat] at h1
  exact h1 h
theorem digit_plain (c : UInt8) (h : isDigit c = true) : isLetter c = false ∧ isBlank c = false ∧ (c == 35) = false ∧ (c == 61) = false := by
  have H : ∀ c : Fin 256, isDigit (UInt8.ofNat c.val) = true → isLetter (UInt8.ofNat c.val) = false ∧ isBlank (UInt8.ofNat c.val) = false ∧ (UInt8.ofNat c.val == 35) = false ∧ (UInt8.ofNat c.val == 61) = false := by decide +kernel
  have h1 := H ⟨c.toNat, UInt8.toNat_lt c⟩
  simp only [UInt8.ofNat_toNat] at h1
  exact h1 h
/-- a byte that is a symbol by itself -/
def symB (c : UInt8) : Bool := !isLetter c && !isDigit c && !(c == 34) && !isBlank c && !(c == 35) && !isWord c && (c == 60 || c == 62 || isSym c)

theorem scan_name (nm r : List UInt8) (c : UInt8) (h : nameB nm = true) (hc : isWord c = false) : scan (nm ++ c :: r) = ⟨0, 1, 0, nm, nm.length⟩ ∧ gap (nm ++ c :: r) = 0 := by
  unfold nameB at h
  rw [Bool.and_eq_true, Bool.and_eq_true, Bool.and_eq_true, decide_eq_true_eq, decide_eq_true_eq, List.all_eq_true] at h
  obtain ⟨⟨h1, h2, h3⟩, h4⟩ := h
  cases nm with
  | nil => cases h4
  | cons a q =>
    simp only [] at h4
    have hsp := span_all isWord q r c (fun b hb => h1 b (by simp [hb])) hc
    have hp := letter_plain a h4
    refine ⟨?_, gap_zero _ hp.1 hp.2⟩
    rw [List.cons_append, scan, if_pos h4]
    simp only []
    rw [hsp, if_neg (by rw [List.length_cons] at h3; omega), List.length_cons]
    congr 1
    rw [← List.cons_append, show q.length + 1 = (a :: q).length from rfl, List.take_left]
theorem scan_sym1 (c b : UInt8) (r : List UInt8) (h : symB c = true) (hb : (b == 61) = false) : scan (c :: b :: r) = ⟨0, 4, 0, [c], 1⟩ ∧ gap (c :: b :: r) = 0 ∧ isWord c = false := by
  simp only [symB, Bool.and_eq_true, Bool.not_eq_true'] at h
  obtain ⟨⟨⟨⟨⟨⟨h1, h2⟩, h3⟩, h4⟩, h5⟩, h6⟩, h7⟩ := h
  refine ⟨?_, gap_zero _ h4 h5, h6⟩
  rw [scan, if_neg (by simp [h1]), if_neg (by simp [h2]), if_neg (by simp [h3]), if_neg, if_pos h7]
  rw [Bool.and_eq_true]
  intro hh
  have := hh.2
  simp only [List.head?_cons, beq_iff_eq, Option.some.injEq] at this
  rw [beq_eq_false_iff_ne] at hb
  exact hb this
theorem scan_num (d r : List UInt8) (h : ∀ c ∈ d, isDigit c = true) (h1 : 1 ≤ d.length) (h2 : d.length ≤ 13) : scan (d ++ 34 :: r) = ⟨0, 2, decVal d, d, d.length⟩ ∧ gap (d ++ 34 :: r) = 0 := by
  cases d with
  | nil => simp at h1
  | cons a q =>
    have ha := h a (by simp)
    have hp := digit_plain a ha
    have hsp := span_all isDigit q r 34 (fun b hb => h b (by simp [hb])) (by decide)
    refine ⟨?_, gap_zero _ hp.2.1 hp.2.2.1⟩
    rw [List.cons_append, scan, if_neg (by simp [hp.1]), if_pos ha]
    simp only []
    rw [hsp, ← List.cons_append, show q.length + 1 = (a :: q).length from rfl, List.take_left, List.drop_left, if_neg]
    simp only [Bool.or_eq_true, decide_eq_true_eq, beq_iff_eq]
    intro hh
    rcases hh with (hh | hh) | hh
    · omega
    · have : clsAt (34 :: r) = 6 := rfl
      omega
    · have : clsAt (34 :: r) = 6 := rfl
      omega
theorem scan_text (tx : List UInt8) (h : ∀ c ∈ tx, inText c = true) (h2 : tx.length ≤ 400) : scan (34 :: (tx ++ [34])) = ⟨0, 3, 0, tx, tx.length + 2⟩ ∧ gap (34 :: (tx ++ [34])) = 0 := by
  have hsp := span_all inText tx [] 34 h (by decide)
  refine ⟨?_, gap_zero _ (by decide) (by decide)⟩
  rw [scan, if_neg (by decide), if_neg (by decide), if_pos (by decide)]
  simp only []
  rw [hsp, List.drop_left, if_pos (by rfl), if_neg (by omega), List.take_left]

theorem words_ok (nm tx : List UInt8) (c : UInt8) (n : Nat) (hnm : nameB nm = true) (hc : symB c = true) (hn : n ≤ 9999999999999) (htx : ∀ c ∈ tx, inText c = true) (h2 : tx.length ≤ 400) :
    LexOk 0 (nm ++ (c :: (dec n ++ 34 :: (tx ++ [34])))) [⟨1, (0 : Nat), 0, nm⟩, ⟨4, (nm.length : Nat), 0, [c]⟩, ⟨2, (nm.length + 1 : Nat), (n : Nat), dec n⟩, ⟨3, (nm.length + 1 + (dec n).length : Nat), 0, tx⟩] := by
  have hdp := dec_pos n
  have hdl := dec_len 12 n (by omega)
  obtain ⟨t1, t2⟩ := scan_text tx htx h2
  obtain ⟨d1, d2⟩ := scan_num (dec n) (tx ++ [34]) (dec_digits n) hdp hdl
  rw [dec_val] at d1
  obtain ⟨b, q, hbq⟩ : ∃ b q, dec n = b :: q := by
    cases h : dec n with
    | nil => rw [h] at hdp; simp at hdp
    | cons b q => exact ⟨b, q, rfl⟩
  have hb := digit_plain b (dec_digits n b (by rw [hbq]; simp))
  have hsy := scan_sym1 c b (q ++ 34 :: (tx ++ [34])) hc hb.2.2.2
  rw [← List.cons_append, ← hbq] at hsy
  obtain ⟨s1, s2, s3⟩ := hsy
  obtain ⟨n1, n2⟩ := scan_name nm (dec n ++ 34 :: (tx ++ [34])) c hnm s3
  refine LexOk.one n2 (by simp) n1 ?_
  rw [List.drop_left, Nat.zero_add]
  refine LexOk.one s2 (by simp) s1 ?_
  rw [List.drop_succ_cons, List.drop_zero]
  refine LexOk.one d2 (by simp) d1 ?_
  rw [List.drop_left]
  refine LexOk.one t2 (by simp) t1 ?_
  refine LexOk.done _ _ ?_
  rw [List.drop_eq_nil_of_le (by simp)]
end Lx
end Go.Proofs.YtpnenbodmonkiaaDoor

/-
  The plain law of gaps put ahead of a text, behind one of its tokens and behind its end. No program in sight.
-/
import Derived.Test.YtpnenbodmonkiaaDoorLexTokFns
set_option linter.unusedVariables false
namespace Go.Proofs.YtpnenbodmonkiaaDoor
namespace Lx

theorem gaps_first (g v : List UInt8) (h : gap g = g.length) : ∃ c r, g ++ 10 :: v = c :: r ∧ (cls c = 1 ∨ cls c = 2) := by
  cases g with
  | nil => exact ⟨10, v, rfl, .inl (by decide)⟩
  | cons c r =>
    refine ⟨c, r ++ 10 :: v, rfl, ?_⟩
    have H : ∀ c : Fin 256, (isBlank (UInt8.ofNat c.val) = true ∨ (UInt8.ofNat c.val == 35) = true) → cls (UInt8.ofNat c.val) = 1 ∨ cls (UInt8.ofNat c.val) = 2 := by decide +kernel
    have h1 := H ⟨c.toNat, UInt8.toNat_lt c⟩
    simp only [UInt8.ofNat_toNat] at h1
    apply h1
    simp only [gap, gapc, List.length_cons] at h
    by_cases hb : isBlank c = true
    · exact .inl hb
    · rw [if_neg hb] at h
      by_cases hc : (c == 35) = true
      · exact .inr hc
      · rw [if_neg hc] at h
        omega

theorem LexOk.written_pos {o : Nat} {l : List UInt8} {ts : List Tok} (h : LexOk o l ts) (j : Nat) (t : Tok) (ht : ts[j]? = some t) : 1 ≤ t.written.length := by
  induction h generalizing j with
  | done => simp at ht
  | tok o l ts h he hr ih =>
    cases j with
    | zero =>
      simp only [List.length_cons, Nat.zero_lt_succ, List.getElem?_eq_getElem, List.getElem_cons_zero, Option.some.injEq] at ht
      subst ht
      rw [written_scan_length _ _ he]
      exact width_pos he
    | succ j =>
      rw [List.getElem?_cons_succ] at ht
      exact ih j ht

/-- gaps and a line feed ahead of a text -/
theorem line_front {g m : List UInt8} (hg : gap g = g.length) {o : Nat} {ts : List Tok} (h : LexOk (o + (g.length + 1)) m ts) : LexOk o (g ++ 10 :: m) ts := by
  have h1 := gap_nl g m hg
  have h2 := LexOk.front (G := g ++ [10]) (m := m) (by rw [List.append_assoc, List.length_append]; simpa using h1) (o := o) (ts := ts) (by rw [List.length_append]; exact h)
  simpa using h2

/-- gaps and a line feed behind one of the tokens -/
theorem line_middle {g : List UInt8} (hg : gap g = g.length) {o : Nat} {l : List UInt8} {ts : List Tok} (h : LexOk o l ts) (o' i : Nat) (t : Tok) (ht : ts[i]? = some t) (m : Nat)
    (hm : t.pos + (t.written.length : Nat) = ((o + m : Nat) : Int)) : ∃ ts', LexOk o' (l.take m ++ (g ++ 10 :: l.drop m)) ts' ∧ Likes ts ts' := by
  induction h generalizing i o' m with
  | done => simp at ht
  | tok o l ts h he hr ih =>
    have hlt : gap l < l.length := by
      rcases Nat.lt_or_ge (gap l) l.length with h1 | h1
      · exact h1
      · exact absurd (List.drop_eq_nil_of_le h1) h
    have hw := width_le he
    rw [List.length_drop] at hw
    have hw1 := width_pos he
    have hwl := written_scan_length (l.drop (gap l)) (o + gap l) he
    cases i with
    | zero =>
      simp only [List.length_cons, Nat.zero_lt_succ, List.getElem?_eq_getElem, List.getElem_cons_zero, Option.some.injEq] at ht
      subst ht
      rw [hwl] at hm
      have hpos : ((scan (l.drop (gap l))).tok (o + gap l)).pos = ((o + gap l : Nat) : Int) := rfl
      rw [hpos] at hm
      have hm' : m = gap l + (scan (l.drop (gap l))).width := by omega
      subst hm'
      obtain ⟨ts', h1, h2⟩ := hr.move (o' + gap l + (scan (l.drop (gap l))).width + (g.length + 1))
      have h3 := line_front hg h1
      obtain ⟨c, r, hcr, hc⟩ := gaps_first g (l.drop (gap l + (scan (l.drop (gap l))).width)) hg
      rw [hcr] at h3 ⊢
      have hgt := gap_take l (gap l + (scan (l.drop (gap l))).width)
      rw [Nat.min_eq_right (by omega)] at hgt
      have hgL : gap (l.take (gap l + (scan (l.drop (gap l))).width) ++ c :: r) = gap l := by
        rw [gap_append _ _ (by rw [hgt, List.length_take]; omega), hgt]
      have hdL : (l.take (gap l + (scan (l.drop (gap l))).width) ++ c :: r).drop (gap l) = (l.drop (gap l)).take (scan (l.drop (gap l))).width ++ c :: r := by
        rw [List.drop_append_of_le_length (by rw [List.length_take]; omega), drop_take', Nat.add_sub_cancel_left]
      have hst := scan_take (l.drop (gap l)) (scan (l.drop (gap l))).width he (Nat.le_refl _)
      have hs : scan ((l.drop (gap l)).take (scan (l.drop (gap l))).width ++ c :: r) = scan (l.drop (gap l)) := by
        rw [scan_sep _ _ _ (by rw [hst]; exact he) (by rw [hst, List.length_take, List.length_drop]; omega) hc, hst]
      have hdd : (l.take (gap l + (scan (l.drop (gap l))).width) ++ c :: r).drop (gap l + (scan (l.drop (gap l))).width) = c :: r := by
        rw [List.drop_append, List.drop_eq_nil_of_le (by rw [List.length_take]; omega), List.length_take, Nat.min_eq_left (by omega)]
        simp
      have h4 := LexOk.tok o' (l.take (gap l + (scan (l.drop (gap l))).width) ++ c :: r) ts' (by rw [hgL, hdL]; simp) (by rw [hgL, hdL, hs]; exact he) (by rw [hgL, hdL, hs, hdd]; exact h3)
      rw [hgL, hdL, hs] at h4
      exact ⟨_, h4, h2.cons ⟨rfl, rfl, rfl⟩⟩
    | succ i =>
      rw [List.getElem?_cons_succ] at ht
      obtain ⟨p, hp1, hp2, hp3⟩ := hr.place i t ht
      have hpw : 1 ≤ t.written.length := hr.written_pos i t ht
      have hm2 : p + t.written.length = o + m := by omega
      obtain ⟨k, hk⟩ : ∃ k, m = gap l + (scan (l.drop (gap l))).width + k := ⟨m - (gap l + (scan (l.drop (gap l))).width), by omega⟩
      subst hk
      rw [List.length_drop] at hp3
      obtain ⟨ts', h1, h2⟩ := ih (o' + gap l + (scan (l.drop (gap l))).width) i ht k (by rw [hm]; congr 1; omega)
      rw [List.drop_drop] at h1
      have hgt := gap_take l (gap l + (scan (l.drop (gap l))).width + k)
      rw [Nat.min_eq_right (by omega)] at hgt
      generalize g ++ 10 :: l.drop (gap l + (scan (l.drop (gap l))).width + k) = V at *
      have hgL : gap (l.take (gap l + (scan (l.drop (gap l))).width + k) ++ V) = gap l := by
        rw [gap_append _ _ (by rw [hgt, List.length_take]; omega), hgt]
      have hdL : (l.take (gap l + (scan (l.drop (gap l))).width + k) ++ V).drop (gap l) = (l.drop (gap l)).take ((scan (l.drop (gap l))).width + k) ++ V := by
        rw [List.drop_append_of_le_length (by rw [List.length_take]; omega), drop_take', Nat.add_assoc, Nat.add_sub_cancel_left]
      have hst := scan_take (l.drop (gap l)) ((scan (l.drop (gap l))).width + k) he (by omega)
      have hs : scan ((l.drop (gap l)).take ((scan (l.drop (gap l))).width + k) ++ V) = scan (l.drop (gap l)) := by
        rw [scan_append _ _ (by rw [hst]; exact he) (by rw [hst, List.length_take, List.length_drop]; omega), hst]
      have hdd : (l.take (gap l + (scan (l.drop (gap l))).width + k) ++ V).drop (gap l + (scan (l.drop (gap l))).width) = (l.drop (gap l + (scan (l.drop (gap l))).width)).take k ++ V := by
        rw [List.drop_append_of_le_length (by rw [List.length_take]; omega), drop_take', Nat.add_sub_cancel_left]
      have h4 := LexOk.tok o' (l.take (gap l + (scan (l.drop (gap l))).width + k) ++ V) ts' (by rw [hgL, hdL]; intro h9; have := congrArg List.length h9; rw [List.length_append, List.length_take, List.length_drop] at this; simp at this; omega)
        (by rw [hgL, hdL, hs]; exact he) (by rw [hgL, hdL, hs, hdd]; exact h1)
      rw [hgL, hdL, hs] at h4
      exact ⟨_, h4, h2.cons ⟨rfl, rfl, rfl⟩⟩

/-- the whole of the law: gaps ahead, behind a token (or ahead again), and behind -/
theorem gaps_law {g l : List UInt8} (hg : gap g = g.length) {ts : List Tok} (h : LexOk 0 l ts) (m : Nat) (hm : m = 0 ∨ ∃ (i : Nat) (t : Tok), ts[i]? = some t ∧ t.pos + (t.written.length : Nat) = (m : Int)) :
    ∃ ts', LexOk 0 ((g ++ [10]) ++ (l.take m ++ ((g ++ [10]) ++ (l.drop m ++ (10 :: g))))) ts' ∧ Likes ts ts' := by
  have hmid : ∃ ts', LexOk (g.length + 1) (l.take m ++ (g ++ 10 :: l.drop m)) ts' ∧ Likes ts ts' := by
    rcases hm with rfl | ⟨i, t, ht, hm⟩
    · obtain ⟨ts', h1, h2⟩ := h.move (g.length + 1 + (g.length + 1))
      exact ⟨ts', by simpa using line_front hg h1, h2⟩
    · exact line_middle hg h (g.length + 1) i t ht m (by rw [hm]; simp)
  obtain ⟨ts', h1, h2⟩ := hmid
  have h3 := (parts_ok h1 g).1 [] (.done _ _ (by rw [hg]; exact List.drop_eq_nil_of_le (Nat.le_refl _)))
  have h4 := line_front (o := 0) hg (by rw [Nat.zero_add]; exact h3)
  refine ⟨ts', ?_, h2⟩
  rw [List.append_nil] at h4
  have e : (g ++ [10]) ++ (l.take m ++ ((g ++ [10]) ++ (l.drop m ++ (10 :: g)))) = g ++ 10 :: (l.take m ++ (g ++ 10 :: l.drop m) ++ 10 :: g) := by simp
  rw [e]
  exact h4
end Lx
end Go.Proofs.YtpnenbodmonkiaaDoor

/-
  The plain law of the lexer: its tokens as a relation, and what prefixes, suffixes and separators do to them. No program in sight.
-/
import Derived.Test.YtgjdbnkeamjhhaaDoorLexSpec
namespace Go.Proofs.YtgjdbnkeamjhhaaDoor
namespace Lx

theorem span_cons' {p : UInt8 → Bool} {c : UInt8} {l : List UInt8} (h : p c = true) : span p (c :: l) = span p l + 1 := by simp [span, List.takeWhile_cons, h]
theorem span_stop' {p : UInt8 → Bool} {c : UInt8} {l : List UInt8} (h : p c = false) : span p (c :: l) = 0 := by simp [span, List.takeWhile_cons, h]

/-- the tokens of a text from an offset on -/
inductive LexOk : Nat → List UInt8 → List Tok → Prop
  | done (off : Nat) (l : List UInt8) (h : l.drop (gap l) = []) : LexOk off l []
  | tok (off : Nat) (l : List UInt8) (ts : List Tok) (h : l.drop (gap l) ≠ []) (he : (scan (l.drop (gap l))).err = 0)
      (hr : LexOk (off + gap l + (scan (l.drop (gap l))).width) (l.drop (gap l + (scan (l.drop (gap l))).width)) ts) : LexOk off l ((scan (l.drop (gap l))).tok (off + gap l) :: ts)
/-- the error of a text from an offset on, and its offset -/
inductive LexErr : Nat → List UInt8 → Int → Nat → Prop
  | here (off : Nat) (l : List UInt8) (h : l.drop (gap l) ≠ []) (he : (scan (l.drop (gap l))).err ≠ 0) : LexErr off l (scan (l.drop (gap l))).err (off + gap l)
  | later (off : Nat) (l : List UInt8) (e : Int) (a : Nat) (h : l.drop (gap l) ≠ []) (he : (scan (l.drop (gap l))).err = 0)
      (hr : LexErr (off + gap l + (scan (l.drop (gap l))).width) (l.drop (gap l + (scan (l.drop (gap l))).width)) e a) : LexErr off l e a

theorem LexOk.det {off : Nat} {l : List UInt8} {ts ts' : List Tok} (h : LexOk off l ts) (h' : LexOk off l ts') : ts = ts' := by
  induction h generalizing ts' with
  | done off l h => cases h' with
    | done => rfl
    | tok _ _ _ h2 => exact absurd h h2
  | tok off l ts h he hr ih => cases h' with
    | done _ _ h2 => exact absurd h2 h
    | tok _ _ ts2 h2 he2 hr2 => rw [ih hr2]
theorem LexOk.not_err {off : Nat} {l : List UInt8} {ts : List Tok} (h : LexOk off l ts) {e : Int} {a : Nat} (h' : LexErr off l e a) : False := by
  induction h with
  | done off l h => cases h' with
    | here _ _ h2 => exact h2 h
    | later _ _ _ _ h2 => exact h2 h
  | tok off l ts h he hr ih => cases h' with
    | here _ _ h2 he2 => exact he2 he
    | later _ _ _ _ h2 he2 hr2 => exact ih hr2
theorem LexErr.det {off : Nat} {l : List UInt8} {e e' : Int} {a a' : Nat} (h : LexErr off l e a) (h' : LexErr off l e' a') : e = e' ∧ a = a' := by
  induction h with
  | here off l h he => cases h' with
    | here => exact ⟨rfl, rfl⟩
    | later _ _ _ _ h2 he2 => exact absurd he2 he
  | later off l e a h he hr ih => cases h' with
    | here _ _ h2 he2 => exact absurd he he2
    | later _ _ _ _ h2 he2 hr2 => exact ih hr2
theorem LexErr.ne {off : Nat} {l : List UInt8} {e : Int} {a : Nat} (h : LexErr off l e a) : e ≠ 0 := by
  induction h with
  | here off l h he => exact he
  | later off l e a h he hr ih => exact ih

theorem gap_idem (l : List UInt8) : gap (l.drop (gap l)) = 0 := by
  have H : ∀ (l : List UInt8) (b : Bool), gap (l.drop (gapc b l)) = 0 := by
    intro l
    induction l with
    | nil => intro b; cases b <;> rfl
    | cons c r ih =>
      intro b
      cases b
      · simp only [gapc]
        split
        · exact ih false
        · split
          · exact ih true
          · rename_i h1 h2
            have h1' : isBlank c = false := by simpa using h1
            have h2' : (c == 35) = false := by simpa using h2
            simp only [List.drop_zero, gap, gapc, h1', h2', Bool.false_eq_true, if_false]
      · simp only [gapc]
        split
        · exact ih false
        · exact ih true
  exact H l false

theorem width_pos {l : List UInt8} (h : (scan l).err = 0) : 1 ≤ (scan l).width := (scan_width l h).1
theorem width_le {l : List UInt8} (h : (scan l).err = 0) : (scan l).width ≤ l.length := (scan_width l h).2

/-- the loop's function, and the relation -/
theorem lexAt_spec (f : Nat) : ∀ (out : List Tok) (off : Nat) (l : List UInt8), gap l = 0 → l.length < f → out.length + l.length ≤ 5000 →
    (∃ ts, LexOk off l ts ∧ lexAt f out off l = (out ++ ts, 0, 0)) ∨ (∃ e a, LexErr off l e a ∧ lexAt f out off l = ([], e, (a : Int))) := by
  induction f with
  | zero => intro out off l _ h; omega
  | succ f ih =>
    intro out off l hg hf ho
    cases l with
    | nil => exact .inl ⟨[], .done _ _ (by simp), by rw [lexAt_nil]; simp⟩
    | cons c r =>
      have hd : (c :: r).drop (gap (c :: r)) = c :: r := by rw [hg]; rfl
      by_cases he : (scan (c :: r)).err = 0
      · have hlen : (c :: r).length = r.length + 1 := rfl
        have hne : out.length ≠ 5000 := by omega
        rw [lexAt_tok f out off c r he hne]
        have hw := width_pos he
        have hw2 := width_le he
        have hg2 := gap_le ((c :: r).drop (scan (c :: r)).width)
        rw [List.length_drop] at hg2
        have key := ih (out ++ [(scan (c :: r)).tok off]) (off + (scan (c :: r)).width + gap ((c :: r).drop (scan (c :: r)).width)) (((c :: r).drop (scan (c :: r)).width).drop (gap ((c :: r).drop (scan (c :: r)).width)))
          (gap_idem _) (by rw [List.length_drop, List.length_drop]; omega) (by rw [List.length_append, List.length_drop, List.length_drop]; simp only [List.length_singleton]; omega)
        -- from the place behind the token to the place behind its gap
        have back : ∀ (o : Nat) (m : List UInt8), (∀ ts, LexOk (o + gap m) (m.drop (gap m)) ts → LexOk o m ts) ∧ (∀ e a, LexErr (o + gap m) (m.drop (gap m)) e a → LexErr o m e a) := by
          intro o m
          have hz := gap_idem m
          have hdd : (m.drop (gap m)).drop (gap (m.drop (gap m))) = m.drop (gap m) := by rw [hz]; rfl
          refine ⟨fun ts h => ?_, fun e a h => ?_⟩
          · cases h with
            | done _ _ h => exact .done _ _ (by rwa [hdd] at h)
            | tok _ _ ts h he hr =>
              rw [hdd] at h he
              rw [hdd, hz, Nat.zero_add, Nat.add_zero, List.drop_drop] at hr
              rw [hdd, hz, Nat.add_zero]
              exact .tok _ _ _ h he hr
          · cases h with
            | here _ _ h he =>
              rw [hdd] at h he
              rw [hdd, hz, Nat.add_zero]
              exact .here _ _ h he
            | later _ _ _ _ h he hr =>
              rw [hdd] at h he
              rw [hdd, hz, Nat.zero_add, Nat.add_zero, List.drop_drop] at hr
              exact .later _ _ _ _ h he hr
        have hb := back (off + (scan (c :: r)).width) ((c :: r).drop (scan (c :: r)).width)
        have hne0 : (c :: r).drop (gap (c :: r)) ≠ [] := by rw [hd]; simp
        have he0 : (scan ((c :: r).drop (gap (c :: r)))).err = 0 := by rw [hd]; exact he
        rcases key with ⟨ts, h1, h2⟩ | ⟨e, a, h1, h2⟩
        · left
          refine ⟨(scan (c :: r)).tok off :: ts, ?_, by rw [h2]; simp⟩
          have h3 := LexOk.tok off (c :: r) ts hne0 he0 (by rw [hd, hg]; simpa using hb.1 ts h1)
          rw [hd, hg] at h3
          exact h3
        · right
          exact ⟨e, a, LexErr.later off (c :: r) e a hne0 he0 (by rw [hd, hg]; simpa using hb.2 e a h1), h2⟩
      · right
        rw [lexAt_err f out off c r he]
        refine ⟨_, _, ?_, rfl⟩
        have h3 := LexErr.here off (c :: r) (by rw [hd]; simp) (by rw [hd]; exact he)
        rw [hd, hg] at h3
        exact h3

theorem LexOk.back {o : Nat} {m : List UInt8} {ts : List Tok} (h : LexOk (o + gap m) (m.drop (gap m)) ts) : LexOk o m ts := by
  have hz := gap_idem m
  have hdd : (m.drop (gap m)).drop (gap (m.drop (gap m))) = m.drop (gap m) := by rw [hz]; rfl
  cases h with
  | done _ _ h => exact .done _ _ (by rwa [hdd] at h)
  | tok _ _ ts h he hr =>
    rw [hdd] at h he
    rw [hdd, hz, Nat.zero_add, Nat.add_zero, List.drop_drop] at hr
    rw [hdd, hz, Nat.add_zero]
    exact .tok _ _ _ h he hr
theorem LexErr.back {o : Nat} {m : List UInt8} {e : Int} {a : Nat} (h : LexErr (o + gap m) (m.drop (gap m)) e a) : LexErr o m e a := by
  have hz := gap_idem m
  have hdd : (m.drop (gap m)).drop (gap (m.drop (gap m))) = m.drop (gap m) := by rw [hz]; rfl
  cases h with
  | here _ _ h he =>
    rw [hdd] at h he
    rw [hdd, hz, Nat.add_zero]
    exact .here _ _ h he
  | later _ _ _ _ h he hr =>
    rw [hdd] at h he
    rw [hdd, hz, Nat.zero_add, Nat.add_zero, List.drop_drop] at hr
    exact .later _ _ _ _ h he hr

/-- what Lex is at a text of at most 5000 bytes -/
theorem lex_small (l : List UInt8) (h : l.length ≤ 5000) : (∃ ts, LexOk 0 l ts ∧ lex l = (ts, 0, 0)) ∨ (∃ e a, LexErr 0 l e a ∧ lex l = ([], e, (a : Int))) := by
  unfold lex
  rw [if_neg (by omega)]
  have hg := gap_le l
  rcases lexAt_spec (l.length + 1) [] (gap l) (l.drop (gap l)) (gap_idem l) (by rw [List.length_drop]; omega) (by rw [List.length_drop]; simp; omega) with ⟨ts, h1, h2⟩ | ⟨e, a, h1, h2⟩
  · exact .inl ⟨ts, LexOk.back (by rw [Nat.zero_add]; exact h1), by rw [h2]; rfl⟩
  · exact .inr ⟨e, a, LexErr.back (by rw [Nat.zero_add]; exact h1), h2⟩
theorem lex_ok {l : List UInt8} (h : l.length ≤ 5000) {ts : List Tok} (hl : LexOk 0 l ts) : lex l = (ts, 0, 0) := by
  rcases lex_small l h with ⟨ts', h1, h2⟩ | ⟨e, a, h1, _⟩
  · rw [h2, hl.det h1]
  · exact (hl.not_err h1).elim
theorem lex_err {l : List UInt8} (h : l.length ≤ 5000) {e : Int} {a : Nat} (hl : LexErr 0 l e a) : lex l = ([], e, (a : Int)) := by
  rcases lex_small l h with ⟨ts', h1, _⟩ | ⟨e', a', h1, h2⟩
  · exact (h1.not_err hl).elim
  · obtain ⟨rfl, rfl⟩ := hl.det h1
    exact h2

theorem span_take (p : UInt8 → Bool) (l : List UInt8) (n : Nat) (h : span p l ≤ n) : span p (l.take n) = span p l := by
  induction l generalizing n with
  | nil => simp
  | cons c r ih =>
    cases hc : p c
    · rw [span_stop' hc]
      cases n with
      | zero => rfl
      | succ n => rw [List.take_succ_cons, span_stop' hc]
    · rw [span_cons' hc] at h ⊢
      cases n with
      | zero => omega
      | succ n => rw [List.take_succ_cons, span_cons' hc, ih n (by omega)]
theorem clsAt_take (l : List UInt8) (n : Nat) : clsAt (l.take n) = clsAt l ∨ clsAt (l.take n) = 0 := by
  cases n with
  | zero => right; rfl
  | succ n => cases l <;> left <;> rfl
theorem drop_take' (l : List UInt8) (n m : Nat) : (l.take n).drop m = (l.drop m).take (n - m) := List.drop_take

/-- a token does not hang on what stands behind it, if that is cut off -/
theorem scan_take (x : List UInt8) (n : Nat) (he : (scan x).err = 0) (hn : (scan x).width ≤ n) : scan (x.take n) = scan x := by
  cases x with
  | nil => simp
  | cons c r =>
    have hw := width_pos he
    cases n with
    | zero => omega
    | succ n =>
      rw [List.take_succ_cons]
      revert he hn
      clear hw
      rw [scan, scan]
      by_cases h1 : isLetter c = true
      · rw [if_pos h1, if_pos h1]
        simp only []
        by_cases h24 : 24 < span isWord r + 1
        · rw [if_pos h24]; intro he; cases he
        · rw [if_neg h24]
          intro _ hn
          simp only [] at hn
          rw [span_take isWord r n (by omega), if_neg h24, ← List.take_succ_cons, List.take_take, Nat.min_eq_left (by omega)]
      rw [if_neg h1, if_neg h1]
      by_cases h2 : isDigit c = true
      · rw [if_pos h2, if_pos h2]
        simp only []
        by_cases h13 : (decide (13 < span isDigit r + 1) || clsAt ((c :: r).drop (span isDigit r + 1)) == 3 || clsAt ((c :: r).drop (span isDigit r + 1)) == 5) = true
        · rw [if_pos h13]; intro he; cases he
        · rw [if_neg h13]
          intro _ hn
          simp only [] at hn
          rw [span_take isDigit r n (by omega), ← List.take_succ_cons, drop_take', List.take_take, Nat.min_eq_left (by omega), if_neg]
          intro hb
          apply h13
          simp only [Bool.or_eq_true, beq_iff_eq] at hb ⊢
          rcases clsAt_take ((c :: r).drop (span isDigit r + 1)) (n + 1 - (span isDigit r + 1)) with hc | hc
          · rw [hc] at hb; exact hb
          · rw [hc] at hb
            rcases hb with (hb | hb) | hb
            · exact .inl (.inl hb)
            · cases hb
            · cases hb
      rw [if_neg h2, if_neg h2]
      by_cases h3 : (c == 34) = true
      · rw [if_pos h3, if_pos h3]
        simp only []
        by_cases hq : ((r.drop (span inText r)).head? == some 34) = true
        · rw [if_pos hq]
          by_cases h4 : 400 < span inText r
          · rw [if_pos h4]; intro he; cases he
          · rw [if_neg h4]
            intro _ hn
            simp only [] at hn
            have hd : (r.take n).drop (span inText r) = (r.drop (span inText r)).take (n - span inText r) := drop_take' _ _ _
            have hh : ((r.drop (span inText r)).take (n - span inText r)).head? = (r.drop (span inText r)).head? := by
              cases hm : n - span inText r with
              | zero => omega
              | succ k => cases r.drop (span inText r) <;> rfl
            rw [span_take inText r n (by omega), hd, hh, if_pos hq, if_neg h4, List.take_take, Nat.min_eq_left (by omega)]
        · rw [if_neg hq]; intro he; cases he
      rw [if_neg h3, if_neg h3]
      by_cases h5 : ((c == 33 || c == 60 || c == 62) && r.head? == some 61) = true
      · rw [if_pos h5]
        intro _ hn
        simp only [] at hn
        have hh : (r.take n).head? = r.head? := by
          cases n with
          | zero => omega
          | succ k => cases r <;> rfl
        rw [hh, if_pos h5]
      · rw [if_neg h5]
        by_cases h6 : (c == 60 || c == 62 || isSym c) = true
        · rw [if_pos h6]
          intro _ _
          rw [if_neg]
          intro hb
          apply h5
          rw [Bool.and_eq_true] at hb ⊢
          refine ⟨hb.1, ?_⟩
          cases n with
          | zero => cases hb.2
          | succ k => cases r with
            | nil => cases hb.2
            | cons d r => exact hb.2
        · rw [if_neg h6]; intro he; cases he

theorem gapc_take (l : List UInt8) : ∀ (b : Bool) (n : Nat), gapc b (l.take n) = min n (gapc b l) := by
  induction l with
  | nil => intro b n; cases b <;> simp [gapc]
  | cons c r ih =>
    intro b n
    cases n with
    | zero => cases b <;> simp [gapc]
    | succ n =>
      rw [List.take_succ_cons]
      cases b
      · simp only [gapc]
        split
        · rw [ih]; omega
        · split
          · rw [ih]; omega
          · omega
      · simp only [gapc]
        split
        · rw [ih]; omega
        · rw [ih]; omega
theorem gap_take (l : List UInt8) (n : Nat) : gap (l.take n) = min n (gap l) := gapc_take l false n

/-- an error: before its offset there is none, and from there on it stands at the beginning -/
theorem err_law {off : Nat} {l : List UInt8} {e : Int} {a : Nat} (h : LexErr off l e a) :
    off ≤ a ∧ a - off < l.length ∧ (∃ ts, LexOk off (l.take (a - off)) ts) ∧ LexErr 0 (l.drop (a - off)) e 0 := by
  induction h with
  | here off l h he =>
    have hlt : gap l < l.length := by
      rcases Nat.lt_or_ge (gap l) l.length with h1 | h1
      · exact h1
      · exact absurd (List.drop_eq_nil_of_le h1) h
    refine ⟨by omega, by omega, ⟨[], .done _ _ ?_⟩, ?_⟩
    · rw [gap_take, show off + gap l - off = gap l from by omega, Nat.min_self]
      exact List.drop_eq_nil_of_le (by rw [List.length_take]; omega)
    · rw [show off + gap l - off = gap l from by omega]
      have hz := gap_idem l
      have h3 := LexErr.here 0 (l.drop (gap l)) (by rw [hz]; exact h) (by rw [hz]; exact he)
      rw [hz] at h3
      exact h3
  | later off l e a h he hr ih =>
    obtain ⟨i1, i2, ⟨ts, i3⟩, i4⟩ := ih
    have hw := width_pos he
    have hw2 := width_le he
    rw [List.length_drop] at hw2 i2
    refine ⟨by omega, by omega, ⟨(scan (l.drop (gap l))).tok (off + gap l) :: ts, ?_⟩, ?_⟩
    · have hg : gap (l.take (a - off)) = gap l := by rw [gap_take]; omega
      have hd : (l.take (a - off)).drop (gap l) = (l.drop (gap l)).take (a - off - gap l) := drop_take' _ _ _
      have hs : scan ((l.take (a - off)).drop (gap l)) = scan (l.drop (gap l)) := by
        rw [hd]
        exact scan_take _ _ he (by omega)
      have h3 := LexOk.tok off (l.take (a - off)) ts (by
        rw [hg, hd]
        intro h0
        have := congrArg List.length h0
        rw [List.length_take, List.length_drop] at this
        simp at this
        omega) (by rw [hg, hs]; exact he) (by
        rw [hg, hs, drop_take', show a - off - (gap l + (scan (l.drop (gap l))).width) = a - (off + gap l + (scan (l.drop (gap l))).width) from by omega]
        exact i3)
      rw [hg, hs] at h3
      exact h3
    · rw [List.drop_drop] at i4
      rw [show a - off = gap l + (scan (l.drop (gap l))).width + (a - (off + gap l + (scan (l.drop (gap l))).width)) from by omega]
      exact i4

end Lx
end Go.Proofs.YtgjdbnkeamjhhaaDoor

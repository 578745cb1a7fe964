/-
  The plain law of the lexer: what a token's bytes are; texts with something behind, between and before their tokens. No program in sight.
-/
import Derived.Test.YtpnenbodmonkiaaDoorLexLaw
set_option linter.unusedVariables false
namespace Go.Proofs.YtpnenbodmonkiaaDoor
namespace Lx

/-- the bytes of a token in a text -/
def Tok.written (t : Tok) : List UInt8 := if t.kind = 3 then 34 :: (t.text ++ [34]) else t.text
theorem written_length (t : Tok) : t.written.length = if t.kind = 3 then t.text.length + 2 else t.text.length := by
  unfold Tok.written
  split <;> simp
/-- two tokens that are alike but for their places -/
def Tok.like (t u : Tok) : Prop := t.kind = u.kind ∧ t.n = u.n ∧ t.text = u.text
def Likes (a b : List Tok) : Prop := a.length = b.length ∧ ∀ (i : Nat) (x y : Tok), a[i]? = some x → b[i]? = some y → x.like y
theorem Likes.nil : Likes [] [] := ⟨rfl, fun i x y h => by simp at h⟩
theorem Likes.cons {x y : Tok} {a b : List Tok} (h : x.like y) (h' : Likes a b) : Likes (x :: a) (y :: b) := by
  refine ⟨by simp [h'.1], fun i u v hu hv => ?_⟩
  cases i with
  | zero =>
    simp at hu hv
    subst hu; subst hv
    exact h
  | succ i => exact h'.2 i u v (by simpa using hu) (by simpa using hv)
theorem Likes.refl (a : List Tok) : Likes a a := ⟨rfl, fun i x y hx hy => by rw [hx] at hy; cases hy; exact ⟨rfl, rfl, rfl⟩⟩
theorem Likes.trans {a b c : List Tok} (h : Likes a b) (k : Likes b c) : Likes a c := by
  refine ⟨h.1.trans k.1, fun i x z hx hz => ?_⟩
  have hi : i < b.length := by
    have := (List.getElem?_eq_some_iff.1 hx).1
    have := h.1
    omega
  have hy : b[i]? = some b[i] := List.getElem?_eq_getElem hi
  obtain ⟨h1, h2, h3⟩ := h.2 i x _ hx hy
  obtain ⟨k1, k2, k3⟩ := k.2 i _ z hy hz
  exact ⟨h1.trans k1, h2.trans k2, h3.trans k3⟩

def Wr (x : List UInt8) (r : Sc) : Prop := r.err = 0 → (if r.kind = 3 then 34 :: (r.text ++ [34]) else r.text) = x.take r.width
theorem Wr.ite {x : List UInt8} {p : Prop} [Decidable p] {a b : Sc} (ha : p → Wr x a) (hb : ¬ p → Wr x b) : Wr x (if p then a else b) := by
  split
  · exact ha ‹_›
  · exact hb ‹_›
theorem Wr.bad (x : List UInt8) {e : Int} (h : e ≠ 0) : Wr x (bad e) := fun h' => absurd h' h
theorem scan_wr (x : List UInt8) : Wr x (scan x) := by
  cases x with
  | nil => exact Wr.bad _ (by decide)
  | cons c r =>
    rw [scan]
    refine Wr.ite (fun _ => ?_) fun _ => Wr.ite (fun _ => ?_) fun _ => Wr.ite (fun h3 => ?_) fun _ => Wr.ite (fun h4 => ?_) fun _ => Wr.ite (fun _ => ?_) fun _ => Wr.bad _ (by decide)
    · exact Wr.ite (fun _ => Wr.bad _ (by decide)) fun _ _ => by simp only []; rw [if_neg (by decide)]
    · exact Wr.ite (fun _ => Wr.bad _ (by decide)) fun _ _ => by simp only []; rw [if_neg (by decide)]
    · refine Wr.ite (fun h4 => ?_) fun _ => Wr.bad _ (by decide)
      refine Wr.ite (fun _ => Wr.bad _ (by decide)) fun _ _ => ?_
      simp only [if_true]
      obtain rfl : c = 34 := by simpa using h3
      have h5 : (r.drop (span inText r)).head? = some 34 := by simpa using h4
      rw [List.head?_drop] at h5
      rw [show span inText r + 2 = (span inText r + 1) + 1 from rfl, List.take_succ_cons, List.take_add_one, h5]
      rfl
    · rw [Bool.and_eq_true] at h4
      intro _
      simp only []
      rw [if_neg (by decide)]
      cases r with
      | nil => cases h4.2
      | cons d r =>
        have : d = 61 := by simpa using h4.2
        subst this
        rfl
    · intro _
      simp only []
      rw [if_neg (by decide)]
      rfl
/-- a token's bytes -/
theorem written_scan (x : List UInt8) (off : Nat) (h : (scan x).err = 0) : ((scan x).tok off).written = x.take (scan x).width := scan_wr x h
theorem written_scan_length (x : List UInt8) (off : Nat) (h : (scan x).err = 0) : ((scan x).tok off).written.length = (scan x).width := by
  rw [written_scan x off h, List.length_take, Nat.min_eq_left (width_le h)]

theorem span_append (p : UInt8 → Bool) (u v : List UInt8) (h : span p u < u.length) : span p (u ++ v) = span p u := by
  induction u with
  | nil => simp at h
  | cons c r ih =>
    cases hc : p c
    · rw [List.cons_append, span_stop' hc, span_stop' hc]
    · rw [span_cons' hc] at h
      rw [List.cons_append, span_cons' hc, span_cons' hc, ih (by simpa using h)]
theorem span_full (p : UInt8 → Bool) (u : List UInt8) (h : ¬ span p u < u.length) (c : UInt8) (v : List UInt8) (hc : p c = false) : span p (u ++ c :: v) = span p u := by
  induction u with
  | nil => rw [List.nil_append, span_stop' hc]; rfl
  | cons d r ih =>
    cases hd : p d
    · rw [span_stop' hd] at h; simp at h
    · rw [span_cons' hd] at h
      rw [List.cons_append, span_cons' hd, span_cons' hd, ih (by simpa using h)]
/-- what ends at a byte that is no word's, is the same with whatever stands behind that byte -/
theorem span_sep (p : UInt8 → Bool) (u : List UInt8) (c : UInt8) (v : List UInt8) (hc : p c = false) : span p (u ++ c :: v) = span p u := by
  by_cases h : span p u < u.length
  · exact span_append p u _ h
  · exact span_full p u h c v hc

theorem head_append (r v : List UInt8) (k : Nat) (h : k < r.length) : ((r ++ v).drop k).head? = (r.drop k).head? := by
  rw [List.head?_drop, List.head?_drop, List.getElem?_append_left h]

/-- a token is the same with whatever stands behind, if at least one byte stands behind it already -/
theorem scan_append (u v : List UInt8) (he : (scan u).err = 0) (hw : (scan u).width < u.length) : scan (u ++ v) = scan u := by
  cases u with
  | nil => simp at hw
  | cons c r =>
    revert he hw
    rw [List.cons_append, scan, scan]
    by_cases h1 : isLetter c = true
    · rw [if_pos h1, if_pos h1]
      simp only []
      by_cases h24 : 24 < span isWord r + 1
      · rw [if_pos h24]; intro he; cases he
      · rw [if_neg h24]
        intro _ hw
        simp only [List.length_cons] at hw
        rw [span_append isWord r v (by omega), if_neg h24]
        rw [← List.cons_append, List.take_append_of_le_length (by simp; omega)]
    rw [if_neg h1, if_neg h1]
    by_cases h2 : isDigit c = true
    · rw [if_pos h2, if_pos h2]
      simp only []
      by_cases h13 : (decide (13 < span isDigit r + 1) || clsAt ((c :: r).drop (span isDigit r + 1)) == 3 || clsAt ((c :: r).drop (span isDigit r + 1)) == 5) = true
      · rw [if_pos h13]; intro he; cases he
      · rw [if_neg h13]
        intro _ hw
        simp only [List.length_cons] at hw
        have hcl : clsAt ((c :: (r ++ v)).drop (span isDigit r + 1)) = clsAt ((c :: r).drop (span isDigit r + 1)) := by
          simp only [List.drop_succ_cons]
          rw [List.drop_append_of_le_length (by omega)]
          cases hd : r.drop (span isDigit r) with
          | nil => have := congrArg List.length hd; rw [List.length_drop] at this; simp at this; omega
          | cons d s => rfl
        rw [span_append isDigit r v (by omega), hcl, if_neg h13]
        rw [← List.cons_append, List.take_append_of_le_length (by simp; omega)]
    rw [if_neg h2, if_neg h2]
    by_cases h3 : (c == 34) = true
    · rw [if_pos h3, if_pos h3]
      simp only []
      by_cases hq : ((r.drop (span inText r)).head? == some 34) = true
      · rw [if_pos hq]
        by_cases h4 : 400 < span inText r
        · rw [if_pos h4]; intro he; cases he
        · rw [if_neg h4]
          intro _ hw
          simp only [List.length_cons] at hw
          rw [span_append inText r v (by omega), head_append r v _ (by omega), if_pos hq, if_neg h4]
          rw [List.take_append_of_le_length (by omega)]
      · rw [if_neg hq]; intro he; cases he
    rw [if_neg h3, if_neg h3]
    intro he hw
    have hh : (r ++ v).head? = r.head? := by
      cases r with
      | nil =>
        exfalso
        revert hw
        rw [show ([] : List UInt8).head? = none from rfl]
        split
        · rename_i hb; rw [Bool.and_eq_true] at hb; cases hb.2
        · split
          · intro hw; simp at hw
          · rename_i h6; intro _; revert he
            rw [if_neg (by rw [Bool.and_eq_true]; intro hb; cases hb.2), if_neg h6]
            intro he; cases he
      | cons d s => rfl
    rw [hh]

/-- a token is the same with a gap behind it -/
theorem scan_sep (u v : List UInt8) (c : UInt8) (he : (scan u).err = 0) (hw : (scan u).width = u.length) (hc : cls c = 1 ∨ cls c = 2) : scan (u ++ c :: v) = scan u := by
  have hcw : isWord c = false ∧ isDigit c = false ∧ (c == 61) = false := by
    have H : ∀ c : Fin 256, (cls (UInt8.ofNat c.val) = 1 ∨ cls (UInt8.ofNat c.val) = 2) → isWord (UInt8.ofNat c.val) = false ∧ isDigit (UInt8.ofNat c.val) = false ∧ (UInt8.ofNat c.val == 61) = false := by decide +kernel
    have h1 := H ⟨c.toNat, UInt8.toNat_lt c⟩
    simp only [UInt8.ofNat_toNat] at h1
    exact h1 hc
  obtain ⟨c1, c2, c3⟩ := hcw
  cases u with
  | nil => cases he
  | cons d r =>
    revert he hw
    rw [List.cons_append, scan, scan]
    by_cases h1 : isLetter d = true
    · rw [if_pos h1, if_pos h1]
      simp only []
      by_cases h24 : 24 < span isWord r + 1
      · rw [if_pos h24]; intro he; cases he
      · rw [if_neg h24]
        intro _ hw
        simp only [List.length_cons] at hw
        rw [span_sep isWord r c v c1, if_neg h24]
        rw [← List.cons_append, List.take_append_of_le_length (by simp; omega)]
    rw [if_neg h1, if_neg h1]
    by_cases h2 : isDigit d = true
    · rw [if_pos h2, if_pos h2]
      simp only []
      by_cases h13 : (decide (13 < span isDigit r + 1) || clsAt ((d :: r).drop (span isDigit r + 1)) == 3 || clsAt ((d :: r).drop (span isDigit r + 1)) == 5) = true
      · rw [if_pos h13]; intro he; cases he
      · rw [if_neg h13]
        intro _ hw
        simp only [List.length_cons] at hw
        have hn13 : ¬ 13 < span isDigit r + 1 := fun h => h13 (by simp [h])
        have hcl : clsAt ((d :: (r ++ c :: v)).drop (span isDigit r + 1)) = cls c := by
          simp only [List.drop_succ_cons]
          rw [show span isDigit r = r.length from by omega, List.drop_left]
          rfl
        rw [span_sep isDigit r c v c2, hcl, if_neg (by
          rcases hc with h | h <;> rw [h] <;> simp <;> omega)]
        rw [← List.cons_append, List.take_append_of_le_length (by simp; omega)]
    rw [if_neg h2, if_neg h2]
    by_cases h3 : (d == 34) = true
    · rw [if_pos h3, if_pos h3]
      simp only []
      by_cases hq : ((r.drop (span inText r)).head? == some 34) = true
      · rw [if_pos hq]
        have hlt : span inText r < r.length := by
          rcases Nat.lt_or_ge (span inText r) r.length with h5 | h5
          · exact h5
          · rw [List.drop_eq_nil_of_le h5] at hq; cases hq
        by_cases h4 : 400 < span inText r
        · rw [if_pos h4]; intro he; cases he
        · rw [if_neg h4]
          intro _ _
          rw [span_append inText r _ hlt, head_append r _ _ hlt, if_pos hq, if_neg h4]
          rw [List.take_append_of_le_length (by omega)]
      · rw [if_neg hq]; intro he; cases he
    rw [if_neg h3, if_neg h3]
    intro he hw
    cases r with
    | nil =>
      have hh : (([] : List UInt8) ++ c :: v).head? = some c := rfl
      have hc61 : (some c == some (61 : UInt8)) = false := by simpa using c3
      rw [hh, hc61, Bool.and_false]
      have hn : (([] : List UInt8).head? == some 61) = false := rfl
      rw [hn, Bool.and_false]
    | cons e s => rfl

/-- what begins a text is the same with a line feed behind the text -/
theorem scan_nl (u v : List UInt8) (hu : u ≠ []) : scan (u ++ 10 :: v) = scan u := by
  have c1 : isWord 10 = false := by decide
  have c2 : isDigit 10 = false := by decide
  have c3 : inText 10 = false := by decide
  cases u with
  | nil => exact absurd rfl hu
  | cons d r =>
    rw [List.cons_append, scan, scan]
    rw [span_sep isWord r 10 v c1, span_sep isDigit r 10 v c2, span_sep inText r 10 v c3]
    have hw := span_le' isWord r
    have hd := span_le' isDigit r
    have ht := span_le' inText r
    have t1 : (d :: (r ++ 10 :: v)).take (span isWord r + 1) = (d :: r).take (span isWord r + 1) := by
      rw [← List.cons_append, List.take_append_of_le_length (by simp; omega)]
    have t2 : (d :: (r ++ 10 :: v)).take (span isDigit r + 1) = (d :: r).take (span isDigit r + 1) := by
      rw [← List.cons_append, List.take_append_of_le_length (by simp; omega)]
    have t3 : (r ++ 10 :: v).take (span inText r) = r.take (span inText r) := List.take_append_of_le_length ht
    have k1 : (clsAt ((d :: (r ++ 10 :: v)).drop (span isDigit r + 1)) == 3) = (clsAt ((d :: r).drop (span isDigit r + 1)) == 3) ∧
        (clsAt ((d :: (r ++ 10 :: v)).drop (span isDigit r + 1)) == 5) = (clsAt ((d :: r).drop (span isDigit r + 1)) == 5) := by
      simp only [List.drop_succ_cons]
      by_cases h : span isDigit r < r.length
      · rw [List.drop_append_of_le_length (by omega)]
        cases hd : r.drop (span isDigit r) with
        | nil => have := congrArg List.length hd; rw [List.length_drop] at this; simp at this; omega
        | cons e s => exact ⟨rfl, rfl⟩
      · rw [show span isDigit r = r.length from by omega, List.drop_left, List.drop_length]
        exact ⟨rfl, rfl⟩
    have k2 : (((r ++ 10 :: v).drop (span inText r)).head? == some 34) = ((r.drop (span inText r)).head? == some 34) := by
      by_cases h : span inText r < r.length
      · rw [head_append r _ _ h]
      · rw [show span inText r = r.length from by omega, List.drop_left, List.drop_length]
        rfl
    have k3 : ((r ++ 10 :: v).head? == some 61) = (r.head? == some 61) := by
      cases r with
      | nil => rfl
      | cons e s => rfl
    simp only [k1.1, k1.2, k2, k3, t1, t2, t3]

theorem gapc_append (u v : List UInt8) : ∀ b, gapc b u < u.length → gapc b (u ++ v) = gapc b u := by
  induction u with
  | nil => intro b h; simp at h
  | cons c r ih =>
    intro b h
    cases b
    · simp only [gapc, List.length_cons, List.cons_append] at h ⊢
      split
      · rename_i h1; rw [if_pos h1] at h; rw [ih false (by omega)]
      · rename_i h1
        rw [if_neg h1] at h
        split
        · rename_i h2; rw [if_pos h2] at h; rw [ih true (by omega)]
        · rfl
    · simp only [gapc, List.length_cons, List.cons_append] at h ⊢
      split
      · rename_i h1; rw [if_pos h1] at h; rw [ih false (by omega)]
      · rename_i h1; rw [if_neg h1] at h; rw [ih true (by omega)]
theorem gap_append (u v : List UInt8) (h : gap u < u.length) : gap (u ++ v) = gap u := gapc_append u v false h
theorem gapc_nl (u v : List UInt8) : ∀ b, gapc b u = u.length → gapc b (u ++ 10 :: v) = u.length + 1 + gap v := by
  induction u with
  | nil =>
    intro b _
    cases b
    · show gapc false (10 :: v) = _
      simp [gapc, isBlank, gap]
      omega
    · show gapc true (10 :: v) = _
      simp [gapc, gap]
      omega
  | cons c r ih =>
    intro b h
    cases b
    · simp only [gapc, List.length_cons, List.cons_append] at h ⊢
      split
      · rename_i h1; rw [if_pos h1] at h; rw [ih false (by omega)]; omega
      · rename_i h1
        rw [if_neg h1] at h
        split
        · rename_i h2; rw [if_pos h2] at h; rw [ih true (by omega)]; omega
        · rename_i h2; rw [if_neg h2] at h; omega
    · simp only [gapc, List.length_cons, List.cons_append] at h ⊢
      split
      · rename_i h1; rw [if_pos h1] at h; rw [ih false (by omega)]; omega
      · rename_i h1; rw [if_neg h1] at h; rw [ih true (by omega)]; omega
theorem gap_nl (u v : List UInt8) (h : gap u = u.length) : gap (u ++ 10 :: v) = u.length + 1 + gap v := gapc_nl u v false h

/-- gaps ahead of a text -/
theorem LexOk.front {G m : List UInt8} (hG : gap (G ++ m) = G.length + gap m) {o : Nat} {ts : List Tok} (h : LexOk (o + G.length) m ts) : LexOk o (G ++ m) ts := by
  have hd : (G ++ m).drop (gap (G ++ m)) = m.drop (gap m) := by rw [hG, ← List.drop_drop, List.drop_left]
  cases h with
  | done _ _ h => exact .done _ _ (by rw [hd]; exact h)
  | tok _ _ ts h he hr =>
    have e1 : o + G.length + gap m = o + gap (G ++ m) := by rw [hG]; omega
    have hdw : (G ++ m).drop (gap (G ++ m) + (scan (m.drop (gap m))).width) = m.drop (gap m + (scan (m.drop (gap m))).width) := by
      rw [← List.drop_drop, hd, List.drop_drop]
    rw [e1] at hr
    have h3 := LexOk.tok o (G ++ m) ts (by rw [hd]; exact h) (by rw [hd]; exact he) (by rw [hd, hdw]; exact hr)
    rw [hd] at h3
    rw [e1]
    exact h3

theorem LexOk.shift {o : Nat} {l : List UInt8} {ts : List Tok} (h : LexOk o l ts) (d : Nat) : LexOk (o + d) l (ts.map fun t => { t with pos := t.pos + d }) := by
  induction h with
  | done o l h => exact .done _ _ h
  | tok o l ts h he hr ih =>
    have h3 := LexOk.tok (o + d) l _ h he (by
      rw [show o + d + gap l + (scan (l.drop (gap l))).width = o + gap l + (scan (l.drop (gap l))).width + d from by omega]
      exact ih)
    have e : (scan (l.drop (gap l))).tok (o + d + gap l) = { (scan (l.drop (gap l))).tok (o + gap l) with pos := ((scan (l.drop (gap l))).tok (o + gap l)).pos + d } := by
      simp only [Sc.tok]
      congr 1
      omega
    rw [List.map_cons, ← e]
    exact h3
theorem LexErr.shift {o : Nat} {l : List UInt8} {e : Int} {a : Nat} (h : LexErr o l e a) (d : Nat) : LexErr (o + d) l e (a + d) := by
  induction h with
  | here o l h he =>
    have h3 := LexErr.here (o + d) l h he
    rw [show o + d + gap l = o + gap l + d from by omega] at h3
    exact h3
  | later o l e a h he hr ih =>
    refine LexErr.later (o + d) l _ _ h he ?_
    rw [show o + d + gap l + (scan (l.drop (gap l))).width = o + gap l + (scan (l.drop (gap l))).width + d from by omega]
    exact ih
theorem likes_shift (ts : List Tok) (d : Nat) : Likes ts (ts.map fun t => { t with pos := t.pos + d }) := by
  refine ⟨by simp, fun i x y hx hy => ?_⟩
  rw [List.getElem?_map, hx] at hy
  cases hy
  exact ⟨rfl, rfl, rfl⟩
/-- the tokens from another offset on -/
theorem LexOk.move {o : Nat} {l : List UInt8} {ts : List Tok} (h : LexOk o l ts) (o' : Nat) : ∃ ts', LexOk o' l ts' ∧ Likes ts ts' := by
  induction h generalizing o' with
  | done o l h => exact ⟨[], .done _ _ h, Likes.nil⟩
  | tok o l ts h he hr ih =>
    obtain ⟨ts', h1, h2⟩ := ih (o' + gap l + (scan (l.drop (gap l))).width)
    exact ⟨_, .tok o' l ts' h he h1, h2.cons ⟨rfl, rfl, rfl⟩⟩

/-- a text, a line feed and another text -/
theorem parts_ok {o : Nat} {one : List UInt8} {a : List Tok} (h : LexOk o one a) (two : List UInt8) :
    (∀ b, LexOk (o + one.length + 1) two b → LexOk o (one ++ 10 :: two) (a ++ b)) ∧ (∀ e n, LexErr (o + one.length + 1) two e n → LexErr o (one ++ 10 :: two) e n) := by
  induction h with
  | done o l h =>
    have hg : gap l = l.length := by
      have h1 := gap_le l
      have h2 := congrArg List.length h
      rw [List.length_drop] at h2
      simp at h2
      omega
    have hgn := gap_nl l two hg
    have hG : gap ((l ++ [10]) ++ two) = (l ++ [10]).length + gap two := by
      rw [List.append_assoc]
      simpa using hgn
    refine ⟨fun b hb => ?_, fun e n hb => ?_⟩
    · have h3 := LexOk.front (G := l ++ [10]) (m := two) hG (o := o) (ts := b) (by simpa [Nat.add_assoc] using hb)
      simpa using h3
    · have hd : (l ++ 10 :: two).drop (gap (l ++ 10 :: two)) = two.drop (gap two) := by
        rw [hgn, ← List.drop_drop]
        congr 1
        rw [show l ++ 10 :: two = (l ++ [10]) ++ two from by simp, show l.length + 1 = (l ++ [10]).length from by simp, List.drop_left]
      cases hb with
      | here _ _ h he =>
        have h3 := LexErr.here o (l ++ 10 :: two) (by rw [hd]; exact h) (by rw [hd]; exact he)
        rw [hd, hgn] at h3
        rw [show o + l.length + 1 + gap two = o + (l.length + 1 + gap two) from by omega]
        exact h3
      | later _ _ _ _ h he hr =>
        refine LexErr.later o (l ++ 10 :: two) e n (by rw [hd]; exact h) (by rw [hd]; exact he) ?_
        rw [← List.drop_drop, hd, hgn, List.drop_drop]
        rw [show o + (l.length + 1 + gap two) = o + l.length + 1 + gap two from by omega]
        exact hr
  | tok o l ts h he hr ih =>
    have hlt : gap l < l.length := by
      rcases Nat.lt_or_ge (gap l) l.length with h1 | h1
      · exact h1
      · exact absurd (List.drop_eq_nil_of_le h1) h
    have hg : gap (l ++ 10 :: two) = gap l := gap_append _ _ hlt
    have hd : (l ++ 10 :: two).drop (gap l) = l.drop (gap l) ++ 10 :: two := List.drop_append_of_le_length (by omega)
    have hs : scan (l.drop (gap l) ++ 10 :: two) = scan (l.drop (gap l)) := scan_nl _ _ h
    have hw := width_le he
    rw [List.length_drop] at hw
    have hd2 : (l ++ 10 :: two).drop (gap l + (scan (l.drop (gap l))).width) = l.drop (gap l + (scan (l.drop (gap l))).width) ++ 10 :: two := List.drop_append_of_le_length (by omega)
    have hlen : o + gap l + (scan (l.drop (gap l))).width + (l.drop (gap l + (scan (l.drop (gap l))).width)).length + 1 = o + l.length + 1 := by rw [List.length_drop]; omega
    rw [hlen] at ih
    have hne : l.drop (gap l) ++ 10 :: two ≠ [] := by simp
    refine ⟨fun b hb => ?_, fun e n hb => ?_⟩
    · have h3 := LexOk.tok o (l ++ 10 :: two) (ts ++ b) (by rw [hg, hd]; exact hne) (by rw [hg, hd, hs]; exact he) (by
        rw [hg, hd, hs, hd2]
        exact ih.1 b hb)
      rw [hg, hd, hs] at h3
      exact h3
    · exact LexErr.later o (l ++ 10 :: two) e n (by rw [hg, hd]; exact hne) (by rw [hg, hd, hs]; exact he) (by
        rw [hg, hd, hs, hd2]
        exact ih.2 e n hb)
theorem parts_err {o : Nat} {one : List UInt8} {e : Int} {n : Nat} (h : LexErr o one e n) (two : List UInt8) : LexErr o (one ++ 10 :: two) e n := by
  induction h with
  | here o l h he =>
    have hlt : gap l < l.length := by
      rcases Nat.lt_or_ge (gap l) l.length with h1 | h1
      · exact h1
      · exact absurd (List.drop_eq_nil_of_le h1) h
    have hg : gap (l ++ 10 :: two) = gap l := gap_append _ _ hlt
    have hd : (l ++ 10 :: two).drop (gap l) = l.drop (gap l) ++ 10 :: two := List.drop_append_of_le_length (by omega)
    have hs : scan (l.drop (gap l) ++ 10 :: two) = scan (l.drop (gap l)) := scan_nl _ _ h
    have h3 := LexErr.here o (l ++ 10 :: two) (by rw [hg, hd]; simp) (by rw [hg, hd, hs]; exact he)
    rw [hg, hd, hs] at h3
    exact h3
  | later o l e a h he hr ih =>
    have hlt : gap l < l.length := by
      rcases Nat.lt_or_ge (gap l) l.length with h1 | h1
      · exact h1
      · exact absurd (List.drop_eq_nil_of_le h1) h
    have hg : gap (l ++ 10 :: two) = gap l := gap_append _ _ hlt
    have hd : (l ++ 10 :: two).drop (gap l) = l.drop (gap l) ++ 10 :: two := List.drop_append_of_le_length (by omega)
    have hs : scan (l.drop (gap l) ++ 10 :: two) = scan (l.drop (gap l)) := scan_nl _ _ h
    have hw := width_le he
    rw [List.length_drop] at hw
    have hd2 : (l ++ 10 :: two).drop (gap l + (scan (l.drop (gap l))).width) = l.drop (gap l + (scan (l.drop (gap l))).width) ++ 10 :: two := List.drop_append_of_le_length (by omega)
    exact LexErr.later o (l ++ 10 :: two) e a (by rw [hg, hd]; simp) (by rw [hg, hd, hs]; exact he) (by rw [hg, hd, hs, hd2]; exact ih)

/-- the bytes of tokens with one blank after each -/
def allText (l : List Tok) : List UInt8 := l.flatMap fun t => t.written ++ [32]
theorem again {o : Nat} {l : List UInt8} {ts : List Tok} (h : LexOk o l ts) (o' : Nat) : ∃ ts', LexOk o' (allText ts) ts' ∧ Likes ts ts' := by
  induction h generalizing o' with
  | done o l h => exact ⟨[], .done _ _ rfl, Likes.nil⟩
  | tok o l ts h he hr ih =>
    have hx := written_scan (l.drop (gap l)) (o + gap l) he
    have hxl := written_scan_length (l.drop (gap l)) (o + gap l) he
    have hwp := width_pos he
    have hst := scan_take (l.drop (gap l)) (scan (l.drop (gap l))).width he (Nat.le_refl _)
    have hgz := gap_take (l.drop (gap l)) (scan (l.drop (gap l))).width
    rw [gap_idem, Nat.min_zero] at hgz
    rw [← hx] at hst hgz
    have e0 : allText ((scan (l.drop (gap l))).tok (o + gap l) :: ts) = ((scan (l.drop (gap l))).tok (o + gap l)).written ++ 32 :: allText ts := by simp [allText]
    rw [e0]
    have hlike : ((scan (l.drop (gap l))).tok (o + gap l)).like ((scan (l.drop (gap l))).tok o') := ⟨rfl, rfl, rfl⟩
    have hwl : (scan (l.drop (gap l))).tok o' = (scan ((scan (l.drop (gap l))).tok (o + gap l)).written).tok o' := by rw [hst]
    rw [hwl] at hlike
    generalize ((scan (l.drop (gap l))).tok (o + gap l)).written = u at *
    have hu : (scan u).err = 0 := by rw [hst]; exact he
    have huw : (scan u).width = u.length := by rw [hst, hxl]
    have hpos : 1 ≤ u.length := by rw [hxl]; exact hwp
    have hs := scan_sep u (allText ts) 32 hu huw (.inl (by decide))
    have hg : gap (u ++ 32 :: allText ts) = 0 := by rw [gap_append u _ (by omega), hgz]
    obtain ⟨ts', h1, h2⟩ := ih (o' + u.length + 1)
    have hfront : LexOk (o' + u.length) (32 :: allText ts) ts' :=
      LexOk.front (G := [32]) (m := allText ts) (by show gapc false (32 :: allText ts) = _; simp [gapc, isBlank, gap]; omega) h1
    have h3 := LexOk.tok o' (u ++ 32 :: allText ts) ts' (by rw [hg]; simp) (by rw [hg, List.drop_zero, hs]; exact hu) (by
      rw [hg, List.drop_zero, hs, huw, Nat.zero_add, List.drop_left]
      exact hfront)
    rw [hg, List.drop_zero, hs] at h3
    exact ⟨_, h3, h2.cons hlike⟩

/-- two tokens that follow each other directly are no single one together -/
theorem longest (x : List UInt8) (hx : (scan x).err = 0) (hgx : gap x = 0) (hy : (scan (x.drop (scan x).width)).err = 0) (hgy : gap (x.drop (scan x).width) = 0) {ts : List Tok}
    (h : LexOk 0 (x.take ((scan x).width + (scan (x.drop (scan x).width)).width)) ts) : ts.length ≠ 1 := by
  have hw := width_pos hx
  have hwl := width_le hx
  have hw2 := width_pos hy
  have hwl2 := width_le hy
  rw [List.length_drop] at hwl2
  have hs := scan_take x ((scan x).width + (scan (x.drop (scan x).width)).width) hx (by omega)
  have hg : gap (x.take ((scan x).width + (scan (x.drop (scan x).width)).width)) = 0 := by rw [gap_take, hgx, Nat.min_zero]
  cases h with
  | done => simp
  | tok _ _ ts h he hr =>
    rw [hg, List.drop_zero, hs, Nat.zero_add, drop_take', Nat.add_sub_cancel_left] at hr
    cases hr with
    | done _ _ h2 =>
      rw [gap_take, hgy, Nat.min_zero, List.drop_zero] at h2
      have := congrArg List.length h2
      rw [List.length_take, List.length_drop] at this
      simp at this
      omega
    | tok => simp
end Lx
end Go.Proofs.YtpnenbodmonkiaaDoor

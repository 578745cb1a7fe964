/-
  LexerParts: the law's walk: it returns true at every two texts.
-/
import Derived.Test.YtpnenbodmonkiaaDoorLexLists
set_option linter.unusedVariables false
namespace Go.Proofs.YtpnenbodmonkiaaDoor
open Go.RowKit
attribute [local go_sem] alloc_drewN setCell_drewN setRow_drewN Later.cell Later.frozen wrap64_nat wrap64_add wrap64_succ

theorem TokAt.left {w : World} {A : Option Addr} {a b : List Lx.Tok} (h : TokAt w A (a ++ b)) : TokAt w A a := fun hl => by
  obtain ⟨g, off, h1, h2, h3⟩ := h (by rw [List.length_append]; omega)
  refine ⟨g, off, h1, h2, fun j u hu => h3 j u ?_⟩
  have e : tokCells (a ++ b) = tokCells a ++ tokCells b := by simp [tokCells]
  rw [e, List.getElem?_append_left (List.getElem?_eq_some_iff.1 hu).1]
  exact hu
theorem TokAt.right {w : World} {g off : Nat} {a b : List Lx.Tok} (h : TokAt w (some ⟨g, off, none⟩) (a ++ b)) : TokAt w (some ⟨g, off + a.length * 4, none⟩) b := fun hl => by
  obtain ⟨g', off', h1, h2, h3⟩ := h (by rw [List.length_append]; omega)
  cases h1
  refine ⟨g, off + a.length * 4, rfl, h2, fun j u hu => ?_⟩
  have e : tokCells (a ++ b) = tokCells a ++ tokCells b := by simp [tokCells]
  have h4 := h3 (a.length * 4 + j) u (by rw [e, List.getElem?_append_right (by rw [tokCells_length]; omega), tokCells_length, Nat.add_sub_cancel_left]; exact hu)
  rw [Nat.add_assoc]
  exact h4

theorem TokRow.caps {w : World} {base : Nat} {A : Option Addr} {n c : Nat} {l : List Lx.Tok} (h : TokRow w base (.slice A n c) l) :
    l.length ≤ c ∧ c ≤ maxLen ∧ ((A = none ∧ l.length = 0 ∧ c = 0) ∨ ∃ g, A = some ⟨g, 0, none⟩) := by
  obtain ⟨h1, h2⟩ := h
  rcases h2 with ⟨hv, h2⟩ | ⟨g, cap, cur, hv, hb, hh, hc1, hc2, hc3, hc4⟩
  · injection hv with hA hn hc
    subst hA
    subst hc
    exact ⟨by omega, Nat.zero_le _, .inl ⟨rfl, h2, rfl⟩⟩
  · injection hv with hA hn hc
    subst hA
    subst hc
    exact ⟨hc1, hc2, .inr ⟨g, rfl⟩⟩

theorem same_at (A B : Option Addr) (c c' d m n : Nat) (D : Int) (a b : List Lx.Tok) (w : World) (ha : TokAt w A a) (hb : TokAt w B b) (hl : b = a.map fun t => { t with pos := t.pos + d }) (hlen : a.length ≤ 100000)
    (hpos : ∀ (j : Nat) (t : Lx.Tok), a[j]? = some t → ∃ p : Nat, t.pos = p ∧ p + d ≤ 1000000) (hm : m = a.length) (hn : n = b.length) (hD : D = d) :
    Calls Tryd.prog 14 #[.slice A m c, .int .i64 D, .slice B n c'] w fun e w' => e = .returned (.bool true) ∧ Below w.heap.size w w' := by
  subst hm
  subst hn
  subst hD
  exact same_true A B c c' d a b w ha hb hl hlen hpos

/-- the whole text, in one piece -/
def joined (s t : ByteArray) : List UInt8 := s.data.toList ++ 10 :: t.data.toList
theorem joined_bs (s t : ByteArray) : s ++ { data := #[10] } ++ t = bs (joined s t) := by
  rw [app_bs, app_bs, bs_list]
  show bs ((s.data.toList ++ [10]) ++ t.data.toList) = _
  rw [joined, List.append_assoc]
  rfl

set_option maxRecDepth 100000 in
set_option maxHeartbeats 4000000 in
theorem parts_big (s t : ByteArray) (w : World) (hs : s.size ≤ 9223372036854775807) (ht : t.size ≤ 9223372036854775807) (h : 1500 < s.size ∨ 1500 < t.size) :
    Calls Tryd.prog 6 #[.string s, .string t] w fun e w' => e = .returned (.bool true) ∧ Below w.heap.size w w' := by
  by_cases h1 : 1500 < s.size
  · clear h
    go_enter Tryd.func6, Tryd.ntmps6
    go_wp2_with fail
    refine (head_any _).mono ?_
    rintro e w1 ⟨rfl, hb1⟩
    have HB1 := Lib.hid hb1
    clear hb1
    go_wp2
    go_ret
    exact ⟨rfl, HB1.out⟩
  · have h2 : 1500 < t.size := by omega
    clear h
    go_enter Tryd.func6, Tryd.ntmps6
    go_wp2_with fail
    refine (head_any _).mono ?_
    rintro e w1 ⟨rfl, hb1⟩
    have HB1 := Lib.hid hb1
    clear hb1
    go_wp2
    go_ret
    exact ⟨rfl, HB1.out⟩

set_option maxRecDepth 100000 in
set_option maxHeartbeats 4000000 in
theorem parts_fails (s t : ByteArray) (w : World) (hs : s.size ≤ 1500) (ht : t.size ≤ 1500) (ts1 ts2 ts3 : List Lx.Tok) (e1 n1 e2 n2 e3 n3 : Int) (h1 : Lx.lex s.data.toList = (ts1, e1, n1)) (h2 : Lx.lex t.data.toList = (ts2, e2, n2))
    (h3 : Lx.lex (joined s t) = (ts3, e3, n3)) (h : e1 ≠ 0 ∧ e3 ≠ 0 ∨ e1 = 0 ∧ e2 ≠ 0 ∧ e3 = e2 ∧ ∃ k : Nat, n2 = k ∧ k ≤ 1500 ∧ n3 = ((k + (s.size + 1) : Nat) : Int)) :
    Calls Tryd.prog 6 #[.string s, .string t] w fun e w' => e = .returned (.bool true) ∧ Below w.heap.size w w' := by
  have hsz : s.size ≤ 9223372036854775807 := by omega
  have htz : t.size ≤ 9223372036854775807 := by omega
  have hjz : (bs (joined s t)).size ≤ 9223372036854775807 := by
    rw [bs_size, joined, List.length_append, List.length_cons, ← size_list, ← size_list]; omega
  have H1 := Lib.hid h1
  have H2 := Lib.hid h2
  have H3 := Lib.hid h3
  have hJ := Lib.hid (joined_bs s t)
  clear h1 h2 h3
  rcases h with ⟨ha, hb⟩ | ⟨rfl, hb, rfl, k, rfl, hk, rfl⟩
  · have hz1 : (e1 != 0) = true := by rw [bne_iff_ne]; exact ha
    have hz3 : (e3 != 0) = true := by rw [bne_iff_ne]; exact hb
    clear ha hb
    go_enter Tryd.func6, Tryd.ntmps6
    go_wp2_with fail
    refine (head_any _).mono ?_
    rintro e w1 ⟨rfl, hb1⟩
    have HB1 := Lib.hid hb1
    clear hb1
    go_wp2_with fail
    refine (lex_got s _ hsz H1.out).mono ?_
    rintro e w2 ⟨A, c, rfl, _, hb2⟩
    have HB2 := Lib.hid hb2
    clear hb2
    go_wp2_with fail
    refine (lex_got t _ htz H2.out).mono ?_
    rintro e w3 ⟨A3, c3, rfl, _, hb3⟩
    have HB3 := Lib.hid hb3
    clear hb3
    go_wp2_with fail
    rw [hJ.out]
    refine (lex_got (bs (joined s t)) _ hjz H3.out).mono ?_
    rintro e w4 ⟨A4, c4, rfl, _, hb4⟩
    have HB4 := Lib.hid hb4
    clear hb4
    go_wp2
    go_ret
    exact ⟨rfl, bel_trans (bel_trans (bel_trans HB1.out HB2.out) HB3.out) HB4.out⟩
  · have hz2 : (e3 != 0) = true := by rw [bne_iff_ne]; exact hb
    have hself : (e3 == e3) = true := by simp
    have hkk : k + s.size ≤ 9223372036854775807 := by omega
    have hkk2 : k + s.size + 1 ≤ 9223372036854775807 := by omega
    have hsum : ((k : Int) + ((s.size : Int) + 1) == (k : Int) + (s.size : Int) + 1) = true := by rw [beq_iff_eq]; omega
    clear hb
    go_enter Tryd.func6, Tryd.ntmps6
    go_wp2_with fail
    refine (head_any _).mono ?_
    rintro e w1 ⟨rfl, hb1⟩
    have HB1 := Lib.hid hb1
    clear hb1
    go_wp2_with fail
    refine (lex_got s _ hsz H1.out).mono ?_
    rintro e w2 ⟨A, c, rfl, _, hb2⟩
    have HB2 := Lib.hid hb2
    clear hb2
    go_wp2_with fail
    refine (lex_got t _ htz H2.out).mono ?_
    rintro e w3 ⟨A3, c3, rfl, _, hb3⟩
    have HB3 := Lib.hid hb3
    clear hb3
    go_wp2_with fail
    rw [hJ.out]
    refine (lex_got (bs (joined s t)) _ hjz H3.out).mono ?_
    rintro e w4 ⟨A4, c4, rfl, _, hb4⟩
    have HB4 := Lib.hid hb4
    clear hb4
    go_wp2
    go_ret
    exact ⟨rfl, bel_trans (bel_trans (bel_trans HB1.out HB2.out) HB3.out) HB4.out⟩

set_option maxRecDepth 100000 in
set_option maxHeartbeats 4000000 in
theorem parts_holds (s t : ByteArray) (w : World) (hs : s.size ≤ 1500) (ht : t.size ≤ 1500) (a b b' : List Lx.Tok) (n1 n2 n3 : Int) (h1 : Lx.lex s.data.toList = (a, 0, n1)) (h2 : Lx.lex t.data.toList = (b, 0, n2))
    (h3 : Lx.lex (joined s t) = (a ++ b', 0, n3)) (hb' : b' = b.map fun t => { t with pos := t.pos + (s.size + 1 : Nat) }) (ha : a.length ≤ 1500) (hb : b.length ≤ 1500)
    (hpa : ∀ (j : Nat) (x : Lx.Tok), a[j]? = some x → ∃ p : Nat, x.pos = p ∧ p ≤ 1500) (hpb : ∀ (j : Nat) (x : Lx.Tok), b[j]? = some x → ∃ p : Nat, x.pos = p ∧ p ≤ 1500) :
    Calls Tryd.prog 6 #[.string s, .string t] w fun e w' => e = .returned (.bool true) ∧ Below w.heap.size w w' := by
  have hsz : s.size ≤ 9223372036854775807 := by omega
  have htz : t.size ≤ 9223372036854775807 := by omega
  have hjz : (bs (joined s t)).size ≤ 9223372036854775807 := by
    rw [bs_size, joined, List.length_append, List.length_cons, ← size_list, ← size_list]; omega
  have hbl : b'.length = b.length := by rw [hb', List.length_map]
  have hla : a.length ≤ 100000 := by omega
  have hlb : b.length ≤ 100000 := by omega
  have hq1 : ∀ (j : Nat) (x : Lx.Tok), a[j]? = some x → ∃ p : Nat, x.pos = p ∧ p + 0 ≤ 1000000 := fun j x hx => by
    obtain ⟨p, h1, h2⟩ := hpa j x hx
    exact ⟨p, h1, by omega⟩
  have hq2 : ∀ (j : Nat) (x : Lx.Tok), b[j]? = some x → ∃ p : Nat, x.pos = p ∧ p + (s.size + 1) ≤ 1000000 := fun j x hx => by
    obtain ⟨p, h1, h2⟩ := hpb j x hx
    exact ⟨p, h1, by omega⟩
  have hid : a = a.map fun t => { t with pos := t.pos + (0 : Nat) } := by simp
  have H1 := Lib.hid h1
  have H2 := Lib.hid h2
  have H3 := Lib.hid h3
  have HB' := Lib.hid hb'
  have HQ1 := Lib.hid hq1
  have HQ2 := Lib.hid hq2
  have HI := Lib.hid hid
  have hJ := Lib.hid (joined_bs s t)
  have hadd : a.length + b.length ≤ 9223372036854775807 := by omega
  have hs1 : s.size + 1 ≤ 9223372036854775807 := by omega
  clear h1 h2 h3 hb' hq1 hq2 hpa hpb hid
  go_enter Tryd.func6, Tryd.ntmps6
  go_wp2_with fail
  refine (head_any _).mono ?_
  rintro e w1 ⟨rfl, hb1⟩
  have HB1 := Lib.hid hb1
  clear hb1
  go_wp2_with fail
  refine (lex_got s _ hsz H1.out).mono ?_
  rintro e w2 ⟨A, c, rfl, hr2, hb2⟩
  have HT2 := Lib.hid (TokAt.of_row hr2)
  have HB2 := Lib.hid hb2
  clear hb2 hr2
  go_wp2_with fail
  refine (lex_got t _ htz H2.out).mono ?_
  rintro e w3 ⟨A3, c3, rfl, hr3, hb3⟩
  have HT3 := Lib.hid (TokAt.of_row hr3)
  have HB3 := Lib.hid hb3
  clear hb3 hr3
  go_wp2_with fail
  rw [hJ.out]
  refine (lex_got (bs (joined s t)) _ hjz H3.out).mono ?_
  rintro e w4 ⟨A4, c4, rfl, hr4, hb4⟩
  have HT4 := Lib.hid (TokAt.of_row hr4)
  obtain ⟨hc1, hc2, hc3⟩ := TokRow.caps hr4
  have HB4 := Lib.hid hb4
  clear hb4 hr4
  rw [List.length_append, hbl] at hc1
  have hlen : (a ++ b').length = a.length + b.length := by rw [List.length_append, hbl]
  rw [hlen]
  have hc4 : a.length ≤ c4 := by omega
  have hc5 : a.length ≤ a.length + b.length := by omega
  rcases hc3 with ⟨rfl, hl0, rfl⟩ | ⟨g, rfl⟩
  · rw [hlen] at hl0
    have ha0 : a = [] := List.eq_nil_of_length_eq_zero (by omega)
    have hb0 : b = [] := List.eq_nil_of_length_eq_zero (by omega)
    subst ha0
    subst hb0
    go_wp2_with fail
    refine (same_at A none c 0 0 0 0 0 [] [] _ (fun h => absurd h (Nat.lt_irrefl 0)) (fun h => absurd h (Nat.lt_irrefl 0)) rfl hla HQ1.out rfl rfl rfl).mono ?_
    rintro e w5 ⟨rfl, hb5⟩
    have HB5 := Lib.hid hb5
    clear hb5
    go_wp2_with fail
    refine (same_at A3 none c3 0 (s.size + 1) 0 0 _ [] [] _ (fun h => absurd h (Nat.lt_irrefl 0)) (fun h => absurd h (Nat.lt_irrefl 0)) rfl hlb HQ2.out rfl rfl (by simp)).mono ?_
    rintro e w6 ⟨rfl, hb6⟩
    have HB6 := Lib.hid hb6
    clear hb6
    go_wp2
    go_ret
    exact ⟨rfl, bel_trans (bel_trans (bel_trans (bel_trans (bel_trans HB1.out HB2.out) HB3.out) HB4.out) HB5.out) HB6.out⟩
  · by_cases hck : c4 = a.length
    · subst hck
      have hb0 : b = [] := List.eq_nil_of_length_eq_zero (by omega)
      subst hb0
      go_wp2_with fail
      refine (same_at A _ c _ 0 _ _ 0 a a _ ((HT2.out.bel HB3.out).bel HB4.out) HT4.out.left HI.out hla HQ1.out rfl (by simp) rfl).mono ?_
      rintro e w5 ⟨rfl, hb5⟩
      have HB5 := Lib.hid hb5
      clear hb5
      go_wp2_with fail
      refine (same_at A3 _ c3 _ (s.size + 1) _ _ _ [] [] _ (fun h => absurd h (Nat.lt_irrefl 0)) (fun h => absurd h (Nat.lt_irrefl 0)) rfl hlb HQ2.out rfl (by simp) (by simp)).mono ?_
      rintro e w6 ⟨rfl, hb6⟩
      have HB6 := Lib.hid hb6
      clear hb6
      go_wp2
      go_ret
      exact ⟨rfl, bel_trans (bel_trans (bel_trans (bel_trans (bel_trans HB1.out HB2.out) HB3.out) HB4.out) HB5.out) HB6.out⟩
    · have hR := HT4.out.right
      rw [Nat.zero_add] at hR
      have HR := Lib.hid hR
      clear hR
      go_wp2_with fail
      refine (same_at A _ c _ 0 _ _ 0 a a _ ((HT2.out.bel HB3.out).bel HB4.out) HT4.out.left HI.out hla HQ1.out rfl (by omega) rfl).mono ?_
      rintro e w5 ⟨rfl, hb5⟩
      have HB5 := Lib.hid hb5
      clear hb5
      go_wp2_with fail
      refine (same_at A3 _ c3 _ (s.size + 1) _ _ _ b b' _ ((HT3.out.bel HB4.out).bel HB5.out) (HR.out.bel HB5.out) HB'.out hlb HQ2.out rfl (by omega) (by simp)).mono ?_
      rintro e w6 ⟨rfl, hb6⟩
      have HB6 := Lib.hid hb6
      clear hb6
      go_wp2
      go_ret
      exact ⟨rfl, bel_trans (bel_trans (bel_trans (bel_trans (bel_trans HB1.out HB2.out) HB3.out) HB4.out) HB5.out) HB6.out⟩

theorem parts_any (s t : ByteArray) (w : World) (hs : s.size ≤ 9223372036854775807) (ht : t.size ≤ 9223372036854775807) :
    Calls Tryd.prog 6 #[.string s, .string t] w fun e w' => e = .returned (.bool true) ∧ Below w.heap.size w w' := by
  by_cases hbig : 1500 < s.size ∨ 1500 < t.size
  · exact parts_big s t w hs ht hbig
  · have hs2 : s.size ≤ 1500 := by omega
    have ht2 : t.size ≤ 1500 := by omega
    have hsl := size_list s
    have htl := size_list t
    have hjl : (joined s t).length ≤ 5000 := by rw [joined, List.length_append, List.length_cons]; omega
    rcases Lx.lex_small s.data.toList (by omega) with ⟨a, h1, h2⟩ | ⟨er, n, h1, h2⟩
    · rcases Lx.lex_small t.data.toList (by omega) with ⟨b, g1, g2⟩ | ⟨er', n', g1, g2⟩
      · have g3 := g1.shift (s.size + 1)
        rw [Nat.zero_add] at g3
        have k1 := (Lx.parts_ok h1 t.data.toList).1 _ (by rw [Nat.zero_add, ← hsl]; exact g3)
        have k2 := Lx.lex_ok hjl k1
        have la := h1.length_le
        have lb := g1.length_le
        exact parts_holds s t w hs2 ht2 a b _ 0 0 0 h2 g2 k2 rfl (by omega) (by omega)
          (fun j x hx => by obtain ⟨p, q1, _, q2⟩ := h1.place j x hx; exact ⟨p, q1, by omega⟩) (fun j x hx => by obtain ⟨p, q1, _, q2⟩ := g1.place j x hx; exact ⟨p, q1, by omega⟩)
      · have g3 := g1.shift (s.size + 1)
        rw [Nat.zero_add] at g3
        have k1 := (Lx.parts_ok h1 t.data.toList).2 _ _ (by rw [Nat.zero_add, ← hsl]; exact g3)
        have k2 := Lx.lex_err hjl k1
        obtain ⟨l1, l2, _, _⟩ := Lx.err_law g1
        exact parts_fails s t w hs2 ht2 a [] [] 0 0 er' n' er' _ h2 g2 k2 (.inr ⟨rfl, g1.ne, rfl, n', rfl, by omega, rfl⟩)
    · have k1 := Lx.parts_err h1 t.data.toList
      have k2 := Lx.lex_err hjl k1
      rcases Lx.lex_small t.data.toList (by omega) with ⟨b, g1, g2⟩ | ⟨er', n', g1, g2⟩
      · exact parts_fails s t w hs2 ht2 [] b [] er n 0 0 er n h2 g2 k2 (.inl ⟨h1.ne, h1.ne⟩)
      · exact parts_fails s t w hs2 ht2 [] [] [] er n er' n' er n h2 g2 k2 (.inl ⟨h1.ne, h1.ne⟩)
end Go.Proofs.YtpnenbodmonkiaaDoor

/-
  The lexer's scanner: what 'next' returns, at every scanner in memory and every offset before the text's end.
-/
import Derived.Test.YtldnfdghkdibmaaGreatDoorLexGap
import Derived.Test.YtldnfdghkdibmaaGreatDoorIndexAny
import Derived.WalkSmall
import Derived.Lib.SmallJoins
namespace Go.Proofs.YtldnfdghkdibmaaGreatDoor
open Go.RowKit
attribute [local go_sem] alloc_drewN setCell_drewN setRow_drewN
namespace Lx

theorem byClass (P : UInt8 → Bool) (h : ∀ c : Fin 256, P (UInt8.ofNat c.val) = true) (c : UInt8) : P c = true := by
  have h1 := h ⟨c.toNat, UInt8.toNat_lt c⟩
  simpa using h1
theorem cls_letter (c : UInt8) : isLetter c = (cls c == 3) := by
  simpa using byClass (fun c => isLetter c == (cls c == 3)) (by decide +kernel) c
theorem cls_digit (c : UInt8) : isDigit c = (cls c == 4) := by
  simpa using byClass (fun c => isDigit c == (cls c == 4)) (by decide +kernel) c
theorem cls_quote (c : UInt8) : (c == 34) = (cls c == 6) := by
  simpa using byClass (fun c => (c == 34) == (cls c == 6)) (by decide +kernel) c
theorem cls_mark (c : UInt8) : (c == 33) = (cls c == 7) := by
  simpa using byClass (fun c => (c == 33) == (cls c == 7)) (by decide +kernel) c
theorem cls_angle (c : UInt8) : (c == 60 || c == 62) = (cls c == 8) := by
  have h := byClass (fun c => (c == 60 || c == 62) == (cls c == 8)) (by decide +kernel) c
  rwa [beq_iff_eq] at h
theorem cls_sym (c : UInt8) : isSym c = (cls c == 9) := by
  simpa using byClass (fun c => isSym c == (cls c == 9)) (by decide +kernel) c
theorem cls_word (c : UInt8) : isWord c = (cls c == 3 || cls c == 4 || cls c == 5) := by
  have h := byClass (fun c => isWord c == (cls c == 3 || cls c == 4 || cls c == 5)) (by decide +kernel) c
  rwa [beq_iff_eq] at h

theorem scan_letter (c : UInt8) (r : List UInt8) (h : cls c = 3) :
    scan (c :: r) = if 24 < span isWord (c :: r) then bad 2 else ⟨0, 1, 0, (c :: r).take (span isWord (c :: r)), span isWord (c :: r)⟩ := by
  have h1 : isLetter c = true := by rw [cls_letter, h]; rfl
  have h2 : isWord c = true := by rw [cls_word, h]; rfl
  rw [span_cons h2, scan, if_pos h1]
theorem scan_digit (c : UInt8) (r : List UInt8) (h : cls c = 4) :
    scan (c :: r) = if 13 < span isDigit (c :: r) || clsAt ((c :: r).drop (span isDigit (c :: r))) == 3 || clsAt ((c :: r).drop (span isDigit (c :: r))) == 5 then bad 4
      else ⟨0, 2, decVal ((c :: r).take (span isDigit (c :: r))), (c :: r).take (span isDigit (c :: r)), span isDigit (c :: r)⟩ := by
  have h1 : isLetter c = false := by rw [cls_letter, h]; rfl
  have h2 : isDigit c = true := by rw [cls_digit, h]; rfl
  rw [span_cons h2, scan, if_neg (by rw [h1]; decide), if_pos h2]
theorem scan_quote (c : UInt8) (r : List UInt8) (h : cls c = 6) :
    scan (c :: r) = if (r.drop (span inText r)).head? == some 34 then (if 400 < span inText r then bad 2 else ⟨0, 3, 0, r.take (span inText r), span inText r + 2⟩) else bad 6 := by
  have h1 : isLetter c = false := by rw [cls_letter, h]; rfl
  have h2 : isDigit c = false := by rw [cls_digit, h]; rfl
  have h3 : (c == 34) = true := by rw [cls_quote, h]; rfl
  rw [scan, if_neg (by rw [h1]; decide), if_neg (by rw [h2]; decide), if_pos h3]
theorem scan_mark (c : UInt8) (r : List UInt8) (h : cls c = 7) : scan (c :: r) = if r.head? == some 61 then ⟨0, 4, 0, [c, 61], 2⟩ else bad 3 := by
  have h1 : isLetter c = false := by rw [cls_letter, h]; rfl
  have h2 : isDigit c = false := by rw [cls_digit, h]; rfl
  have h3 : (c == 34) = false := by rw [cls_quote, h]; rfl
  have h4 : (c == 33) = true := by rw [cls_mark, h]; rfl
  have h5 : (c == 60 || c == 62) = false := by rw [cls_angle, h]; rfl
  have h6 : isSym c = false := by rw [cls_sym, h]; rfl
  rw [scan, if_neg (by rw [h1]; decide), if_neg (by rw [h2]; decide), if_neg (by rw [h3]; decide)]
  simp only [h4, h5, h6, Bool.true_or, Bool.true_and, Bool.or_self, Bool.false_eq_true, if_false]
theorem scan_angle (c : UInt8) (r : List UInt8) (h : cls c = 8) : scan (c :: r) = if r.head? == some 61 then ⟨0, 4, 0, [c, 61], 2⟩ else ⟨0, 4, 0, [c], 1⟩ := by
  have h1 : isLetter c = false := by rw [cls_letter, h]; rfl
  have h2 : isDigit c = false := by rw [cls_digit, h]; rfl
  have h3 : (c == 34) = false := by rw [cls_quote, h]; rfl
  have h4 : (c == 33) = false := by rw [cls_mark, h]; rfl
  have h5 : (c == 60 || c == 62) = true := by rw [cls_angle, h]; rfl
  rw [scan, if_neg (by rw [h1]; decide), if_neg (by rw [h2]; decide), if_neg (by rw [h3]; decide)]
  simp only [h4, h5, Bool.false_or, Bool.true_or, Bool.true_and, if_true]
theorem scan_sym (c : UInt8) (r : List UInt8) (h : cls c = 9) : scan (c :: r) = ⟨0, 4, 0, [c], 1⟩ := by
  have h1 : isLetter c = false := by rw [cls_letter, h]; rfl
  have h2 : isDigit c = false := by rw [cls_digit, h]; rfl
  have h3 : (c == 34) = false := by rw [cls_quote, h]; rfl
  have h4 : (c == 33) = false := by rw [cls_mark, h]; rfl
  have h5 : (c == 60 || c == 62) = false := by rw [cls_angle, h]; rfl
  have h6 : isSym c = true := by rw [cls_sym, h]; rfl
  rw [scan, if_neg (by rw [h1]; decide), if_neg (by rw [h2]; decide), if_neg (by rw [h3]; decide)]
  simp only [h4, h5, h6, Bool.false_or, Bool.false_and, Bool.false_eq_true, if_false, if_true]
theorem scan_other (c : UInt8) (r : List UInt8) (h3 : cls c ≠ 3) (h4 : cls c ≠ 4) (h6 : cls c ≠ 6) (h7 : cls c ≠ 7) (h8 : cls c ≠ 8) (h9 : cls c ≠ 9) : scan (c :: r) = bad 3 := by
  have e1 : isLetter c = false := by rw [cls_letter]; simpa using h3
  have e2 : isDigit c = false := by rw [cls_digit]; simpa using h4
  have e3 : (c == 34) = false := by rw [cls_quote]; simpa using h6
  have e4 : (c == 33) = false := by rw [cls_mark]; simpa using h7
  have e5 : (c == 60 || c == 62) = false := by rw [cls_angle]; simpa using h8
  have e6 : isSym c = false := by rw [cls_sym]; simpa using h9
  rw [scan, if_neg (by rw [e1]; decide), if_neg (by rw [e2]; decide), if_neg (by rw [e3]; decide)]
  simp only [e4, e5, e6, Bool.false_or, Bool.false_and, Bool.false_eq_true, if_false]

theorem decFrom_digits (l : List UInt8) (h : ∀ c ∈ l, isDigit c = true) : ∀ a, Lib.decFrom a l = some (l.foldl (fun a c => 10 * a + (c.toNat - 48)) a) := by
  induction l with
  | nil => intro a; rfl
  | cons c r ih =>
    intro a
    have hc : isDigit c = true := h c (by simp)
    have hd : Lib.digitVal c = some (c.toNat - 48) := by
      unfold isDigit at hc
      rw [Bool.and_eq_true] at hc
      have h1 : 48 ≤ c := of_decide_eq_true hc.1
      have h2 : c ≤ 57 := of_decide_eq_true hc.2
      have h1' : 48 ≤ c.toNat := h1
      have h2' : c.toNat ≤ 57 := h2
      unfold Lib.digitVal
      rw [if_pos ⟨h1', h2'⟩]
    unfold Lib.decFrom
    rw [hd]
    simp only [List.foldl_cons]
    rw [ih (fun c hc => h c (by simp [hc])), Nat.mul_comm]
theorem atoi_digits (l : List UInt8) (h : ∀ c ∈ l, isDigit c = true) (hl : l ≠ []) : Lib.atoi l = some ((decVal l : Nat) : Int) := by
  cases l with
  | nil => exact absurd rfl hl
  | cons c r =>
    have hc : isDigit c = true := h c (by simp)
    have h45 : (c == 45) = false := by
      by_cases he : c = 45
      · subst he; exact absurd hc (by decide)
      · simpa using he
    have h43 : (c == 43) = false := by
      by_cases he : c = 43
      · subst he; exact absurd hc (by decide)
      · simpa using he
    simp only [Lib.atoi]
    rw [if_neg (by rw [h45]; decide), if_neg (by rw [h43]; decide)]
    unfold Lib.decNat
    rw [if_neg (by simp), decFrom_digits _ h]
    rfl
theorem take_span (p : UInt8 → Bool) (l : List UInt8) : ∀ c ∈ l.take (span p l), p c = true := by
  induction l with
  | nil => intro c hc; simp at hc
  | cons d r ih =>
    intro c hc
    cases hd : p d
    · rw [span_stop hd] at hc; simp at hc
    · rw [span_cons hd, List.take_succ_cons] at hc
      rcases List.mem_cons.1 hc with rfl | hc
      · exact hd
      · exact ih c hc
theorem decVal_lt (l : List UInt8) (h : ∀ c ∈ l, isDigit c = true) : decVal l < 10 ^ l.length := by
  have H : ∀ (l : List UInt8), (∀ c ∈ l, isDigit c = true) → ∀ a, l.foldl (fun a c => 10 * a + (c.toNat - 48)) a < (a + 1) * 10 ^ l.length := by
    intro l
    induction l with
    | nil => intro _ a; simp
    | cons c r ih =>
      intro h a
      have hc : isDigit c = true := h c (by simp)
      have h2' : c.toNat ≤ 57 := by
        unfold isDigit at hc
        rw [Bool.and_eq_true] at hc
        exact of_decide_eq_true hc.2
      simp only [List.foldl_cons, List.length_cons]
      have := ih (fun c hc => h c (by simp [hc])) (10 * a + (c.toNat - 48))
      calc _ < (10 * a + (c.toNat - 48) + 1) * 10 ^ r.length := this
        _ ≤ ((a + 1) * 10) * 10 ^ r.length := Nat.mul_le_mul_right _ (by omega)
        _ = (a + 1) * 10 ^ (r.length + 1) := by rw [Nat.pow_succ, Nat.mul_assoc, Nat.mul_comm 10]
  have := H l h 0
  simpa [decVal] using this

theorem indexAny_in (l : List UInt8) : (Lib.indexAny l [34, 10] < 0 → (l.drop (span inText l)).head? = none) ∧
    (0 ≤ Lib.indexAny l [34, 10] → span inText l = (Lib.indexAny l [34, 10]).toNat ∧ span inText l < l.length ∧ (l[span inText l]? = some 34 ∨ l[span inText l]? = some 10)) := by
  induction l with
  | nil => exact ⟨fun _ => rfl, fun h => absurd h (by decide)⟩
  | cons c r ih =>
    have hge := Lib.indexAny_ge [34, 10] r
    unfold Lib.indexAny
    cases hc : inText c
    · have hcon : ([34, 10] : List UInt8).contains c = true := by
        have h1 : ∀ c : UInt8, ([34, 10] : List UInt8).contains c = !inText c := fun c => by
          have h := byClass (fun c => ([34, 10] : List UInt8).contains c == !inText c) (by decide +kernel) c
          rwa [beq_iff_eq] at h
        rw [h1, hc]; rfl
      rw [if_pos hcon, span_stop hc]
      refine ⟨fun h => absurd h (by decide), fun _ => ⟨rfl, by simp, ?_⟩⟩
      have : c = 34 ∨ c = 10 := by simpa using hcon
      rcases this with rfl | rfl
      · exact .inl rfl
      · exact .inr rfl
    · have hcon : ([34, 10] : List UInt8).contains c = false := by
        have h1 : ∀ c : UInt8, ([34, 10] : List UInt8).contains c = !inText c := fun c => by
          have h := byClass (fun c => ([34, 10] : List UInt8).contains c == !inText c) (by decide +kernel) c
          rwa [beq_iff_eq] at h
        rw [h1, hc]; rfl
      rw [if_neg (by rw [hcon]; decide), span_cons hc]
      by_cases hr : (Lib.indexAny r [34, 10] == -1) = true
      · rw [if_pos hr]
        have hr' : Lib.indexAny r [34, 10] = -1 := by simpa using hr
        exact ⟨fun _ => ih.1 (by omega), fun h => absurd h (by decide)⟩
      · rw [if_neg hr]
        have hr' : Lib.indexAny r [34, 10] ≠ -1 := by simpa using hr
        refine ⟨fun h => by omega, fun _ => ?_⟩
        obtain ⟨h1, h2, h3⟩ := ih.2 (by omega)
        refine ⟨by omega, by simpa using h2, by simpa using h3⟩

/-- the token that 'next' returns -/
def Sc.out (r : Sc) (off : Nat) : Value := .agg #[.int .i64 r.kind, .int .i64 (if r.err = 0 then (off : Int) else 0), .int .i64 r.n, .string (bs r.text)]
def Sc.fin (r : Sc) (off : Nat) : Int := if r.err = 0 then (off + r.width : Nat) else 0
end Lx

theorem among_word : among [3, 4, 5] = Lx.isWord := by
  funext c
  rw [Lx.cls_word]
  have h : ∀ n : Nat, ([3, 4, 5] : List Int).contains (n : Int) = (n == 3 || n == 4 || n == 5) := by
    intro n
    rw [Bool.eq_iff_iff]
    simp
    omega
  exact h _
theorem among_digit : among [4] = Lx.isDigit := by
  funext c
  rw [Lx.cls_digit]
  have h : ∀ n : Nat, ([4] : List Int).contains (n : Int) = (n == 4) := by
    intro n
    rw [Bool.eq_iff_iff]
    simp
    omega
  exact h _
theorem three_classes (w : World) (bk : Nat) (hbk : bk = w.heap.size) (x y z : Int) (t : TypeId) : ∀ j, j < [x, y, z].length → (w.alloc (.cells #[.int .i64 x, .int .i64 y, .int .i64 z] t)).cell? ⟨bk, 0 + j, none⟩ = some (.int .i64 ([x, y, z].getD j 0)) := by
  intro j hj
  subst hbk
  match j, hj with
  | 0, _ => simp [World.cell?_alloc_at]
  | 1, _ => simp [World.cell?_alloc_at]
  | 2, _ => simp [World.cell?_alloc_at]

set_option maxRecDepth 100000 in
set_option maxHeartbeats 1000000 in
theorem next_letter (b : Nat) (s : ByteArray) (i : Nat) (w : World) (hs : s.size ≤ 20000) (hi : i < s.size) (hb : b < w.heap.size) (h : Scan w b s) (hc : Lx.cls s[i] = 3) :
    Calls Tryz.prog 41 #[.pointer (some ⟨b, 0, none⟩), .int .i64 i] w fun e w' =>
      e = .returned (.tuple #[(Lx.scan (s.data.toList.drop i)).out i, .int .i64 ((Lx.scan (s.data.toList.drop i)).fin i), .int .i64 (Lx.scan (s.data.toList.drop i)).err]) ∧ Below w.heap.size w w' := by
  have hsc := Lx.scan_letter s[i] (s.data.toList.drop (i + 1)) hc
  have hd := drop_get s i hi
  rw [← hd] at hsc
  have HSC := Lib.hid hsc; clear hsc
  have hle := span_le Lx.isWord (s.data.toList.drop i)
  rw [List.length_drop, ← size_list] at hle
  have hc0 : Lx.clsAt (s.data.toList.drop i) = 3 := by rw [hd]; exact hc
  have HC := Lib.hid hc0
  clear hc hc0 hd
  have h0 := h.text
  go_enter Tryz.func41, Tryz.ntmps41
  go_wp2_with fail
  refine (at_any b s i _ (by omega) (by omega) (by exact h.alloc hb _)).mono ?_
  rintro e w' ⟨rfl, m1, rfl⟩
  rw [Int.toNat_natCast, HC.out]
  go_wp2_with fail
  refine (while_any b s i _ 3 3 [3, 4, 5] _ (by omega) (by omega) (by exact ((h.alloc hb _).drewN m1).alloc (by simp; omega) _) rfl (by omega) (by omega) (by exact three_classes _ _ (by simp) 3 4 5 _)).mono ?_
  rintro e w' ⟨rfl, m2, rfl⟩
  rw [among_word]
  generalize Lx.span Lx.isWord (s.data.toList.drop i) = m at *
  by_cases hm : 24 < m
  · go_wp2
    refine bodyPost_ret (v := .tuple #[.agg #[.int .i64 0, .int .i64 0, .int .i64 0, .string { data := #[] }], .int .i64 0, .int .i64 2]) (by simp [results, Tryz.results41, go_sem]) rfl ⟨?_, ?_⟩
    · rw [HSC.out, if_pos hm]; rfl
    · exact bel_drewN (bel_alloc (bel_alloc (bel_refl w) _) _) _
  · have hx := extract_bs s i (i + m)
    rw [Nat.add_sub_cancel_left] at hx
    go_wp2
    refine bodyPost_ret (v := .tuple #[.agg #[.int .i64 1, .int .i64 i, .int .i64 0, .string (bs ((s.data.toList.drop i).take m))], .int .i64 (i + m : Nat), .int .i64 0]) ?_ rfl ⟨?_, ?_⟩
    · simp [results, Tryz.results41, go_sem]
    · rw [HSC.out, if_neg hm]; rfl
    · exact bel_drewN (bel_alloc (bel_alloc (bel_refl w) _) _) _
theorem atoi_any (l : List UInt8) (w : World) (hl : l.length ≤ 18) {n : Int} (h : Lib.atoi l = some n) :
    Calls Tryz.prog 75 #[.string (bs l)] w fun e w' => e = .returned (.tuple #[.int .i64 n, .nilIface]) ∧ Below w.heap.size w w' := by
  refine (Tryz.strconv_Atoi (bs l) n (by rw [bs_size]; exact hl) (by rw [bs_list]; exact h) w).mono ?_
  rintro e w' ⟨rfl, t, rfl⟩
  exact ⟨rfl, Joins.below_bytesWorld _ w _ t (Nat.le_refl _)⟩

set_option maxRecDepth 100000 in
set_option maxHeartbeats 2000000 in
theorem next_digit (b : Nat) (s : ByteArray) (i : Nat) (w : World) (hs : s.size ≤ 20000) (hi : i < s.size) (hb : b < w.heap.size) (h : Scan w b s) (hc : Lx.cls s[i] = 4) :
    Calls Tryz.prog 41 #[.pointer (some ⟨b, 0, none⟩), .int .i64 i] w fun e w' =>
      e = .returned (.tuple #[(Lx.scan (s.data.toList.drop i)).out i, .int .i64 ((Lx.scan (s.data.toList.drop i)).fin i), .int .i64 (Lx.scan (s.data.toList.drop i)).err]) ∧ Below w.heap.size w w' := by
  have hsc := Lx.scan_digit s[i] (s.data.toList.drop (i + 1)) hc
  have hd := drop_get s i hi
  have hp : Lx.isDigit s[i] = true := by rw [Lx.cls_digit, hc]; rfl
  have hpos : 1 ≤ Lx.span Lx.isDigit (s.data.toList.drop i) := by rw [hd, span_cons hp]; omega
  rw [← hd] at hsc
  rw [List.drop_drop] at hsc
  have HSC := Lib.hid hsc; clear hsc
  have hle := span_le Lx.isDigit (s.data.toList.drop i)
  rw [List.length_drop, ← size_list] at hle
  have hc0 : Lx.clsAt (s.data.toList.drop i) = 4 := by rw [hd]; exact hc
  have HC := Lib.hid hc0
  have hdig := Lx.take_span Lx.isDigit (s.data.toList.drop i)
  have HDIG := Lib.hid hdig
  clear hc hc0 hd hdig hp
  have h0 := h.text
  go_enter Tryz.func41, Tryz.ntmps41
  go_wp2_with fail
  refine (at_any b s i _ (by omega) (by omega) (by exact h.alloc hb _)).mono ?_
  rintro e w' ⟨rfl, m1, rfl⟩
  rw [Int.toNat_natCast, HC.out]
  go_wp2_with fail
  refine (while_any b s i _ 1 1 [4] _ (by omega) (by omega) (by exact ((h.alloc hb _).alloc (by simp; omega) _).drewN m1) rfl (by omega) (by omega) (by exact one_class _ _ (by simp) 4 _)).mono ?_
  rintro e w' ⟨rfl, m2, rfl⟩
  rw [among_digit]
  generalize Lx.span Lx.isDigit (s.data.toList.drop i) = m at *
  go_wp2_with fail
  refine (at_any b s (i + m) _ (by omega) (by omega) (by exact ((h.alloc hb _).alloc (by simp; omega) _).drewN _)).mono ?_
  rintro e w' ⟨rfl, m3, rfl⟩
  rw [show ((i : Int) + (m : Int)).toNat = i + m from by omega]
  generalize Lx.clsAt (s.data.toList.drop (i + m)) = c2 at *
  by_cases hm : 13 < m ∨ c2 = 3 ∨ c2 = 5
  · have hbad : (13 < (m : Int)) ∨ ((c2 : Int) == 3) = true ∨ ((c2 : Int) == 5) = true := by
      rcases hm with hm | rfl | rfl
      · left; omega
      · right; left; rfl
      · right; right; rfl
    have hsb : Lx.scan (s.data.toList.drop i) = Lx.bad 4 := by
      rw [HSC.out, if_pos]
      rcases hm with hm | rfl | rfl
      · simp [hm]
      · simp
      · simp
    have HSB := Lib.hid hsb
    clear hsb hm HSC
    have fin : ∀ X : World, Below w.heap.size w X → (Ending.returned (.tuple #[.agg #[.int .i64 0, .int .i64 0, .int .i64 0, .string { data := #[] }], .int .i64 0, .int .i64 4]) = .returned (.tuple #[(Lx.scan (s.data.toList.drop i)).out i, .int .i64 ((Lx.scan (s.data.toList.drop i)).fin i), .int .i64 (Lx.scan (s.data.toList.drop i)).err])) ∧ Below w.heap.size w X := fun X hX => ⟨by rw [HSB.out]; rfl, hX⟩
    have FIN := Lib.hid fin
    clear fin
    by_cases h13 : 13 < m
    · clear hbad
      go_wp2
      refine bodyPost_ret (v := .tuple #[.agg #[.int .i64 0, .int .i64 0, .int .i64 0, .string { data := #[] }], .int .i64 0, .int .i64 4]) (by simp [results, Tryz.results41, go_sem]) rfl (FIN.out _ ?_)
      exact bel_drewN (bel_alloc (bel_alloc (bel_refl w) _) _) _
    · cases h3 : ((c2 : Int) == 3)
      · have h5 : ((c2 : Int) == 5) = true := by
          rcases hbad with hb' | hb' | hb'
          · omega
          · rw [h3] at hb'; cases hb'
          · exact hb'
        clear hbad
        go_wp2
        refine bodyPost_ret (v := .tuple #[.agg #[.int .i64 0, .int .i64 0, .int .i64 0, .string { data := #[] }], .int .i64 0, .int .i64 4]) (by simp [results, Tryz.results41, go_sem]) rfl (FIN.out _ ?_)
        exact bel_drewN (bel_alloc (bel_alloc (bel_refl w) _) _) _
      · clear hbad
        go_wp2
        refine bodyPost_ret (v := .tuple #[.agg #[.int .i64 0, .int .i64 0, .int .i64 0, .string { data := #[] }], .int .i64 0, .int .i64 4]) (by simp [results, Tryz.results41, go_sem]) rfl (FIN.out _ ?_)
        exact bel_drewN (bel_alloc (bel_alloc (bel_refl w) _) _) _
  · have h13 : m ≤ 13 := by omega
    have h3 : ((c2 : Int) == 3) = false := by rw [beq_eq_false_iff_ne]; omega
    have h5 : ((c2 : Int) == 5) = false := by rw [beq_eq_false_iff_ne]; omega
    have hn13 : (13 < m) = False := by simp; omega
    have hsc := HSC.out
    have h3' : (c2 == 3) = false := by rw [beq_eq_false_iff_ne]; omega
    have h5' : (c2 == 5) = false := by rw [beq_eq_false_iff_ne]; omega
    rw [if_neg (by rw [h3', h5']; simp; omega)] at hsc
    clear HSC hm h3' h5' hn13
    have HSC := Lib.hid hsc; clear hsc
    have hx := extract_bs s i (i + m)
    rw [Nat.add_sub_cancel_left] at hx
    have hlen : ((s.data.toList.drop i).take m).length = m := by
      rw [List.length_take, List.length_drop, ← size_list]
      omega
    have hat := Lx.atoi_digits ((s.data.toList.drop i).take m) HDIG.out (by intro h; rw [h] at hlen; simp at hlen; omega)
    have hlt := Lx.decVal_lt _ HDIG.out
    rw [hlen] at hlt
    have HAT := Lib.hid hat
    clear hat
    go_wp2_with fail
    refine (atoi_any ((s.data.toList.drop i).take m) _ (by rw [hlen]; omega) HAT.out).mono ?_
    rintro e w3 ⟨rfl, hb3⟩
    have hS3 : Scan w3 b s := (((h.alloc hb _).alloc (by simp; omega) _).drewN _).below hb3 (by simp; omega)
    have hbelow : Below w.heap.size w w3 := bel_trans (bel_drewN (bel_alloc (bel_alloc (bel_refl w) _) _) _) hb3
    have hblk : Blk w3 w.heap.size 45 #[.int .i64 0, .int .i64 0, .int .i64 0, .string { data := #[] }] :=
      (((Blk.new w _ _).alloc _).drewN _).bel hb3
    have t0 := hS3.text
    have k0 := hblk.cell 0
    have k1 := hblk.cell 1
    have k2 := hblk.cell 2
    have k3 := hblk.cell 3
    have f0 := hblk.frozen 0
    have f1 := hblk.frozen 1
    have f2 := hblk.frozen 2
    have f3 := hblk.frozen 3
    have HB := Lib.hid hbelow
    have HBLK := Lib.hid hblk
    clear hb3 hbelow hblk hS3
    generalize Lx.decVal ((s.data.toList.drop i).take m) = v at *
    go_wp2
    refine bodyPost_ret (results_cell_two rfl _ _ w.heap.size 45 _ _ rfl ((((HBLK.out.set_ 0 _).set_ 1 _).set_ 2 _).set_ 3 _) Tryz.underlying45 rfl (by kernel_rfl)) rfl ⟨?_, ?_⟩
    · rw [HSC.out]; rfl
    · exact bel_set (bel_set (bel_set (bel_set HB.out (Nat.le_refl _) _) (Nat.le_refl _) _) (Nat.le_refl _) _) (Nat.le_refl _) _

end Go.Proofs.YtldnfdghkdibmaaGreatDoor

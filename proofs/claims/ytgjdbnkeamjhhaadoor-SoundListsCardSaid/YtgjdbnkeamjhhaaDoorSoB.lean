/-
  Layer 40: few, Ints: what they return.
-/
import Derived.Test.YtgjdbnkeamjhhaaDoorSoA
import Derived.Test.YtgjdbnkeamjhhaaDoorAlName
set_option linter.unusedVariables false
namespace Go.Proofs.YtgjdbnkeamjhhaaDoor
open Go.RowKit
open R
set_option maxRecDepth 100000 in
theorem fewC_vc (c : CfP) (h : cFewC.pre c) :
    /-VC fun (c : CfP) => vcOf Tryd.prog [] (anFewC c) cFewC Tryd.f20 c -/
    (∃ (p' : Nat), (p' ≤ (30 : Nat) ∧ p' ≤ List.length c ∧ ((List.take p' c).all fun (x : List UInt8 × List UInt8) => decide (x.fst.length ≤ (100 : Nat)) && decide (x.snd.length ≤ (100 : Nat)))
    = true) ∧ ((0 : Int) = (↑p' : Int) ∧ c = c ∧ True) ∧ True ∧ True ∧ True) ∧ ∀ (p : Nat), p ≤ (30 : Nat) ∧ p ≤ List.length c ∧ ((List.take p c).all fun (x : List UInt8 × List UInt8) => decide
    (x.fst.length ≤ (100 : Nat)) && decide (x.snd.length ≤ (100 : Nat))) = true → bif decide ((↑p : Int) < (↑(List.length c) : Int)) then bif decide ((↑p : Int) < (30 : Int)) then ((0 : Int) ≤
    (↑p : Int) ∧ (↑p : Int) < (↑(List.length c) : Int)) ∧ bif decide ((100 : Int) < (↑(List.getD c (↑p : Int).toNat ([], [])).fst.length : Int)) then false = fewCB c else ((0 : Int) ≤ (↑p : Int)
    ∧ (↑p : Int) < (↑(List.length c) : Int)) ∧ bif decide ((100 : Int) < (↑(List.getD c (↑p : Int).toNat ([], [])).snd.length : Int)) then false = fewCB c else ((-9223372036854775808 : Int) ≤
    (↑p : Int) + (1 : Int) ∧ (↑p : Int) + (1 : Int) ≤ (9223372036854775807 : Int)) ∧ ∃ (p' : Nat), (p' ≤ (30 : Nat) ∧ p' ≤ List.length c ∧ ((List.take p' c).all fun (x : List UInt8 × List UInt8)
    => decide (x.fst.length ≤ (100 : Nat)) && decide (x.snd.length ≤ (100 : Nat))) = true) ∧ List.length c - p' < List.length c - p ∧ ((↑p : Int) + (1 : Int) = (↑p' : Int) ∧ c = c ∧ True) ∧ True
    ∧ True ∧ True else decide ((↑(List.length c) : Int) ≤ (30 : Int)) = fewCB c else decide ((↑(List.length c) : Int) ≤ (30 : Int)) = fewCB c
    /-CV-/ := by
  simp only [true_and, and_true]
  refine ⟨⟨0, ⟨Nat.zero_le _, Nat.zero_le _, rfl⟩, rfl⟩, ?_⟩
  rintro p ⟨h30, hp, ha⟩
  have hti : ((p : Int).toNat) = p := rfl
  simp only [hti]
  have no : p < c.length → (decide ((c.getD p ([], [])).1.length ≤ 100) && decide ((c.getD p ([], [])).2.length ≤ 100)) = false → false = fewCB c := fun hl hf => by
    unfold fewCB
    rw [Snd.all_no c ([], []) _ p hl hf, Bool.and_false]
  refine bifP (fun hb => ?_) fun hb => ?_
  · have hlt : p < c.length := by have := of_decide_eq_true hb; omega
    refine bifP (fun hb => ?_) fun hb => ?_
    · have h3 : p < 30 := by have := of_decide_eq_true hb; omega
      refine ⟨⟨by omega, by omega⟩, bifP (fun hb => no hlt ?_) fun h1 => ⟨⟨by omega, by omega⟩, bifP (fun hb => no hlt ?_) fun h2 => ⟨⟨by omega, by omega⟩, p + 1, ⟨by omega, by omega, ?_⟩, by omega, by omega⟩⟩⟩
      · rw [decide_eq_false (by have := of_decide_eq_true hb; omega)]; rfl
      · rw [decide_eq_false (p := (c.getD p ([], [])).2.length ≤ 100) (by have := of_decide_eq_true hb; omega), Bool.and_false]
      · rw [Snd.all_step c ([], []) _ p hlt, ha, decide_eq_true (by have := of_decide_eq_false h1; omega), decide_eq_true (by have := of_decide_eq_false h2; omega)]; rfl
    · have h3 : ¬ c.length ≤ 30 := by have := of_decide_eq_false hb; omega
      unfold fewCB
      rw [decide_eq_false h3, decide_eq_false (by omega)]; rfl
  · have hle : c.length ≤ p := by have := of_decide_eq_false hb; omega
    rw [Snd.all_end c _ p hle] at ha
    unfold fewCB
    rw [ha, Bool.and_true]
    exact decide_eq_decide.2 (by omega)
set_option maxRecDepth 100000 in
theorem fewW_vc (lang : List UInt8) (ws : List (List UInt8)) (h : cFewW.pre (lang, ws)) :
    /-VC fun (lang : List UInt8) (ws : List (List UInt8)) => vcOf Tryd.prog [] (anFewW ws) cFewW Tryd.f15 (lang, ws) -/
    (∃ (p' : Nat), (p' ≤ (40 : Nat) ∧ p' ≤ ws.length ∧ ((List.take p' ws).all fun (s : List UInt8) => decide (s.length ≤ (100 : Nat))) = true) ∧ ((0 : Int) = (↑p' : Int) ∧ True ∧ True) ∧ ((lang
    = lang ∧ ws = ws ∧ True) ∧ True) ∧ True ∧ True) ∧ ∀ (p : Nat), p ≤ (40 : Nat) ∧ p ≤ ws.length ∧ ((List.take p ws).all fun (s : List UInt8) => decide (s.length ≤ (100 : Nat))) = true → bif
    decide ((↑p : Int) < (↑ws.length : Int)) then bif decide ((↑p : Int) < (40 : Int)) then ((0 : Int) ≤ (↑p : Int) ∧ (↑p : Int) < (↑ws.length : Int)) ∧ bif decide ((100 : Int) < (↑(ws.getD (↑p
    : Int).toNat []).length : Int)) then false = fewWB (lang, ws) else ((-9223372036854775808 : Int) ≤ (↑p : Int) + (1 : Int) ∧ (↑p : Int) + (1 : Int) ≤ (9223372036854775807 : Int)) ∧ ∃ (p' :
    Nat), (p' ≤ (40 : Nat) ∧ p' ≤ ws.length ∧ ((List.take p' ws).all fun (s : List UInt8) => decide (s.length ≤ (100 : Nat))) = true) ∧ ws.length - p' < ws.length - p ∧ ((↑p : Int) + (1 : Int) =
    (↑p' : Int) ∧ True ∧ True) ∧ ((lang = lang ∧ ws = ws ∧ True) ∧ True) ∧ True ∧ True else bif decide ((↑ws.length : Int) ≤ (40 : Int)) then decide ((↑lang.length : Int) ≤ (100 : Int)) = fewWB
    (lang, ws) else false = fewWB (lang, ws) else bif decide ((↑ws.length : Int) ≤ (40 : Int)) then decide ((↑lang.length : Int) ≤ (100 : Int)) = fewWB (lang, ws) else false = fewWB (lang, ws)
    /-CV-/ := by
  simp only [true_and, and_true]
  refine ⟨⟨0, ⟨Nat.zero_le _, Nat.zero_le _, rfl⟩, rfl⟩, ?_⟩
  rintro p ⟨h40, hp, ha⟩
  have hti : ((p : Int).toNat) = p := rfl
  simp only [hti]
  have fin : ∀ (hle : ws.length ≤ p ∨ 40 < ws.length), bif decide ((ws.length : Int) ≤ 40) then decide ((lang.length : Int) ≤ 100) = fewWB (lang, ws) else false = fewWB (lang, ws) := fun hle => by
    refine bifP (fun hb => ?_) fun hb => ?_
    · have h1 : ws.length ≤ 40 := by have := of_decide_eq_true hb; omega
      have hle : ws.length ≤ p := by omega
      rw [Snd.all_end ws _ p hle] at ha
      show _ = (decide (ws.length ≤ 40) && (decide (lang.length ≤ 100) && ws.all _))
      rw [ha, decide_eq_true h1, Bool.and_true, Bool.true_and]
      exact decide_eq_decide.2 (by omega)
    · have h1 : ¬ ws.length ≤ 40 := by have := of_decide_eq_false hb; omega
      show _ = (decide (ws.length ≤ 40) && (decide (lang.length ≤ 100) && ws.all _))
      rw [decide_eq_false h1]; rfl
  refine bifP (fun hb => ?_) fun hb => fin (.inl (by have := of_decide_eq_false hb; omega))
  have hlt : p < ws.length := by have := of_decide_eq_true hb; omega
  refine bifP (fun hb => ?_) fun hb => fin (.inr (by have := of_decide_eq_false hb; omega))
  have h4 : p < 40 := by have := of_decide_eq_true hb; omega
  refine ⟨⟨by omega, by omega⟩, bifP (fun hb => ?_) fun h1 => ⟨⟨by omega, by omega⟩, p + 1, ⟨by omega, by omega, ?_⟩, by omega, by omega⟩⟩
  · show _ = (decide (ws.length ≤ 40) && (decide (lang.length ≤ 100) && ws.all _))
    rw [Snd.all_no ws [] _ p hlt (decide_eq_false (by have := of_decide_eq_true hb; omega)), Bool.and_false, Bool.and_false]
  · rw [Snd.all_step ws [] _ p hlt, ha, decide_eq_true (by have := of_decide_eq_false h1; omega)]; rfl
set_option maxRecDepth 100000 in
theorem ints_vc (a b : List Int) (h : cInts.pre (a, b)) :
    /-VC fun (a b : List Int) => vcOf Tryd.prog [] (anInts a b) cInts Tryd.f18 (a, b) -/
    bif (↑a.length : Int) != (↑b.length : Int) then false = (a == b) else (∃ (p' : Nat), (p' ≤ a.length ∧ List.take p' a = List.take p' b) ∧ ((0 : Int) = (↑p' : Int) ∧ a = a ∧ b = b ∧ True) ∧
    True ∧ True ∧ True) ∧ ∀ (p : Nat), p ≤ a.length ∧ List.take p a = List.take p b → bif decide ((↑p : Int) < (↑a.length : Int)) then ((0 : Int) ≤ (↑p : Int) ∧ (↑p : Int) < (↑a.length : Int)) ∧
    ((0 : Int) ≤ (↑p : Int) ∧ (↑p : Int) < (↑b.length : Int)) ∧ bif a.getD (↑p : Int).toNat (0 : Int) != b.getD (↑p : Int).toNat (0 : Int) then false = (a == b) else ((-9223372036854775808 :
    Int) ≤ (↑p : Int) + (1 : Int) ∧ (↑p : Int) + (1 : Int) ≤ (9223372036854775807 : Int)) ∧ ∃ (p' : Nat), (p' ≤ a.length ∧ List.take p' a = List.take p' b) ∧ a.length - p' < a.length - p ∧ ((↑p
    : Int) + (1 : Int) = (↑p' : Int) ∧ a = a ∧ b = b ∧ True) ∧ True ∧ True ∧ True else true = (a == b)
    /-CV-/ := by
  have h : a.length ≤ 1000000000000000 := h
  simp only [true_and, and_true]
  refine bifP (fun hb => ?_) fun hb => ?_
  · have hl : a.length ≠ b.length := by have := bne_iff_ne.1 hb; omega
    symm
    rw [beq_eq_false_iff_ne]
    intro e; exact hl (by rw [e])
  have hl : a.length = b.length := by have := bne_eq_false_iff_eq.1 hb; omega
  refine ⟨⟨0, ⟨Nat.zero_le _, rfl⟩, rfl⟩, ?_⟩
  rintro p ⟨hp, ht⟩
  have hti : ((p : Int).toNat) = p := rfl
  simp only [hti]
  refine bifP (fun hb => ?_) fun hb => ?_
  · have hlt : p < a.length := by have := of_decide_eq_true hb; omega
    refine ⟨⟨by omega, by omega⟩, ⟨by omega, by omega⟩, bifP (fun hb => ?_) fun h1 => ⟨⟨by omega, by omega⟩, p + 1, ⟨by omega, ?_⟩, by omega, by omega⟩⟩
    · symm
      rw [beq_eq_false_iff_ne]
      intro e
      rw [e] at hb
      exact (bne_iff_ne.1 hb) rfl
    · rw [Snd.take_getD a 0 p hlt, Snd.take_getD b 0 p (by omega), ht, bne_eq_false_iff_eq.1 h1]
  · have hle : a.length ≤ p := by have := of_decide_eq_false hb; omega
    rw [List.take_of_length_le hle, List.take_of_length_le (by omega)] at ht
    rw [ht, beq_self_eq_true]
set_option maxRecDepth 100000 in
theorem fewL_vc (c : CfP) (ws : List (List UInt8)) (h : cFewL.pre (c, ws)) :
    /-VC fun (c : CfP) (ws : List (List UInt8)) => vcOf Tryd.prog [cFewC] (anFewL ws) cFewL Tryd.f11 (c, ws) -/
    (∃ (p' : Nat), (p' ≤ ws.length ∧ ((List.take p' ws).all fun (s : List UInt8) => decide (s.length ≤ (100 : Nat))) = true) ∧ ((0 : Int) = (↑p' : Int) ∧ c = c ∧ ws = ws ∧ True) ∧ True ∧ True ∧
    True) ∧ ∀ (p : Nat), p ≤ ws.length ∧ ((List.take p ws).all fun (s : List UInt8) => decide (s.length ≤ (100 : Nat))) = true → bif decide ((↑p : Int) < (↑ws.length : Int)) then ((0 : Int) ≤
    (↑p : Int) ∧ (↑p : Int) < (↑ws.length : Int)) ∧ bif decide ((100 : Int) < (↑(ws.getD (↑p : Int).toNat []).length : Int)) then false = fewLB (c, ws) else ((-9223372036854775808 : Int) ≤ (↑p :
    Int) + (1 : Int) ∧ (↑p : Int) + (1 : Int) ≤ (9223372036854775807 : Int)) ∧ ∃ (p' : Nat), (p' ≤ ws.length ∧ ((List.take p' ws).all fun (s : List UInt8) => decide (s.length ≤ (100 : Nat))) =
    true) ∧ ws.length - p' < ws.length - p ∧ ((↑p : Int) + (1 : Int) = (↑p' : Int) ∧ c = c ∧ ws = ws ∧ True) ∧ True ∧ True ∧ True else True ∧ fewCB c = fewLB (c, ws)
    /-CV-/ := by
  have h : ws.length ≤ 1000000 := h
  simp only [true_and, and_true]
  refine ⟨⟨0, ⟨Nat.zero_le _, rfl⟩, rfl⟩, ?_⟩
  rintro p ⟨hp, ha⟩
  have hti : ((p : Int).toNat) = p := rfl
  simp only [hti]
  refine bifP (fun hb => ?_) fun hb => ?_
  · have hlt : p < ws.length := by have := of_decide_eq_true hb; omega
    refine ⟨⟨by omega, by omega⟩, bifP (fun hb => ?_) fun h1 => ⟨⟨by omega, by omega⟩, p + 1, ⟨by omega, ?_⟩, by omega, by omega⟩⟩
    · show _ = (ws.all _ && fewCB c)
      rw [Snd.all_no ws [] _ p hlt (decide_eq_false (by have := of_decide_eq_true hb; omega))]; rfl
    · rw [Snd.all_step ws [] _ p hlt, ha, decide_eq_true (by have := of_decide_eq_false h1; omega)]; rfl
  · have hle : ws.length ≤ p := by have := of_decide_eq_false hb; omega
    rw [Snd.all_end ws _ p hle] at ha
    show _ = (ws.all _ && fewCB c)
    rw [ha, Bool.true_and]
set_option maxRecDepth 100000 in
theorem valid_vc (lang : List UInt8) (ws : List (List UInt8)) (h : cValid.pre (lang, ws)) :
    /-VC fun (lang : List UInt8) (ws : List (List UInt8)) => vcOf Tryd.prog [cLex, cLet] (anValid ws) cValid Tryd.f17 (lang, ws) -/
    lang.length ≤ (1000 : Nat) ∧ bif (Lx.lex lang).snd.fst != (0 : Int) then false = Snd.validB lang ws else bif (↑(List.map tokP (Lx.lex lang).fst).length : Int) != (1 : Int) then false =
    Snd.validB lang ws else ((0 : Int) ≤ (0 : Int) ∧ (0 : Int) < (↑(List.map tokP (Lx.lex lang).fst).length : Int)) ∧ bif ((List.map tokP (Lx.lex lang).fst).getD (Int.toNat (0 : Int)) ((0 :
    Int), (0 : Int), (0 : Int), [])).fst != (1 : Int) then false = Snd.validB lang ws else ((0 : Int) ≤ (0 : Int) ∧ (0 : Int) < (↑(List.map tokP (Lx.lex lang).fst).length : Int)) ∧ bif
    !((List.map tokP (Lx.lex lang).fst).getD (Int.toNat (0 : Int)) ((0 : Int), (0 : Int), (0 : Int), [])).snd.snd.snd == lang then false = Snd.validB lang ws else (∃ (p' : Nat), (p' ≤ ws.length
    ∧ ((List.take p' ws).all fun (s : List UInt8) => Snd.lettersB s (3 : Int) (8 : Int)) = true ∧ Snd.rising (List.take p' ws) = true) ∧ ((0 : Int) = (↑p' : Int) ∧ True ∧ ws = ws ∧ (↑ws.length :
    Int) = (↑ws.length : Int) ∧ True) ∧ ((lang = lang ∧ ws = ws ∧ True) ∧ True) ∧ True ∧ True) ∧ ∀ (p : Nat), p ≤ ws.length ∧ ((List.take p ws).all fun (s : List UInt8) => Snd.lettersB s (3 :
    Int) (8 : Int)) = true ∧ Snd.rising (List.take p ws) = true → bif decide ((↑p : Int) < (↑ws.length : Int)) then ((0 : Int) ≤ (↑p : Int) ∧ (↑p : Int) < (↑ws.length : Int)) ∧ (ws.getD (↑p :
    Int).toNat []).length ≤ (1000000 : Nat) ∧ bif !Snd.lettersB (ws.getD (↑p : Int).toNat []) (3 : Int) (8 : Int) then false = Snd.validB lang ws else bif decide ((0 : Int) < (↑p : Int)) then
    ((-9223372036854775808 : Int) ≤ (↑p : Int) - (1 : Int) ∧ (↑p : Int) - (1 : Int) ≤ (9223372036854775807 : Int)) ∧ ((0 : Int) ≤ (↑p : Int) - (1 : Int) ∧ (↑p : Int) - (1 : Int) < (↑ws.length :
    Int)) ∧ bif !Op.bytesLess (ws.getD ((↑p : Int) - (1 : Int)).toNat []) (ws.getD (↑p : Int).toNat []) then false = Snd.validB lang ws else ((-9223372036854775808 : Int) ≤ (↑p : Int) + (1 :
    Int) ∧ (↑p : Int) + (1 : Int) ≤ (9223372036854775807 : Int)) ∧ ∃ (p' : Nat), (p' ≤ ws.length ∧ ((List.take p' ws).all fun (s : List UInt8) => Snd.lettersB s (3 : Int) (8 : Int)) = true ∧
    Snd.rising (List.take p' ws) = true) ∧ ws.length - p' < ws.length - p ∧ ((↑p : Int) + (1 : Int) = (↑p' : Int) ∧ True ∧ ws = ws ∧ (↑ws.length : Int) = (↑ws.length : Int) ∧ True) ∧ ((lang =
    lang ∧ ws = ws ∧ True) ∧ True) ∧ True ∧ True else ((-9223372036854775808 : Int) ≤ (↑p : Int) + (1 : Int) ∧ (↑p : Int) + (1 : Int) ≤ (9223372036854775807 : Int)) ∧ ∃ (p' : Nat), (p' ≤
    ws.length ∧ ((List.take p' ws).all fun (s : List UInt8) => Snd.lettersB s (3 : Int) (8 : Int)) = true ∧ Snd.rising (List.take p' ws) = true) ∧ ws.length - p' < ws.length - p ∧ ((↑p : Int) +
    (1 : Int) = (↑p' : Int) ∧ True ∧ ws = ws ∧ (↑ws.length : Int) = (↑ws.length : Int) ∧ True) ∧ ((lang = lang ∧ ws = ws ∧ True) ∧ True) ∧ True ∧ True else bif decide ((1 : Int) ≤ (↑ws.length :
    Int)) then decide ((↑ws.length : Int) ≤ (4096 : Int)) = Snd.validB lang ws else false = Snd.validB lang ws
    /-CV-/ := by
  obtain ⟨h1000, hn, hws⟩ := h
  have h1000 : lang.length ≤ 1000 := h1000
  have hn : ws.length ≤ 1000000 := hn
  have hyes := Lx.lex_name lang (by omega)
  have hno : ∀ (t : Lx.Tok) (e a : Int), Lx.lex lang = ([t], e, a) → e = 0 → t.kind = 1 → t.text = lang → Lx.nameB lang = true := fun t e a => Lx.name_lex lang (by omega)
  have bad : Lx.nameB lang = false → false = Snd.validB lang ws := fun h => by unfold Snd.validB; rw [h]; rfl
  have nam : (Lx.nameB lang = true → False) → Lx.nameB lang = false := fun h => by cases hh : Lx.nameB lang; rfl; exact absurd hh (fun e => h e)
  simp only [true_and, and_true]
  generalize Lx.lex lang = L at *
  obtain ⟨l, er, a⟩ := L
  refine ⟨h1000, bifP (fun hb => bad (nam fun hh => ?_)) fun he => bifP (fun hb => bad (nam fun hh => ?_)) fun hl => ?_⟩
  · have := hyes hh
    simp at this
    exact (bne_iff_ne.1 hb) this.2.1
  · have := hyes hh
    simp at this
    rw [this.1] at hb
    simp at hb
  obtain ⟨t, rfl⟩ : ∃ t, l = [t] := by
    have : ((l.map tokP).length : Int) = 1 := bne_eq_false_iff_eq.1 hl
    rw [List.length_map] at this
    exact List.length_eq_one_iff.1 (by omega)
  have he : er = 0 := bne_eq_false_iff_eq.1 he
  refine ⟨⟨by omega, by show (0 : Int) < 1; omega⟩, bifP (fun hb => bad (nam fun hh => ?_)) fun hk => ⟨⟨by omega, by show (0 : Int) < 1; omega⟩, bifP (fun hb => bad (nam fun hh => ?_)) fun ht => ?_⟩⟩
  · have := hyes hh
    simp at this
    have hb : t.kind ≠ 1 := bne_iff_ne.1 hb
    exact hb (by rw [this.1])
  · have := hyes hh
    simp at this
    have hb : (!(t.text == lang)) = true := hb
    have hb : (t.text == lang) = false := by simpa using hb
    exact (beq_eq_false_iff_ne.1 hb) (by rw [this.1])
  have hk : t.kind = 1 := bne_eq_false_iff_eq.1 hk
  have ht : t.text = lang := by
    have : (!(t.text == lang)) = false := ht
    simpa using this
  have hname := hno t er a rfl he hk ht
  have vno : (1 ≤ ws.length → ws.length ≤ 4096 → (ws.all fun s => Snd.lettersB s 3 8) = true → Snd.rising ws = true → False) → false = Snd.validB lang ws := fun h => by
    symm
    unfold Snd.validB
    rw [← Bool.not_eq_true]
    intro hh
    simp only [Bool.and_eq_true, decide_eq_true_eq] at hh
    exact h hh.2.1 hh.2.2.1 hh.2.2.2.1 hh.2.2.2.2
  refine ⟨⟨0, ⟨Nat.zero_le _, rfl, rfl⟩, rfl⟩, ?_⟩
  rintro p ⟨hp, ha, hr⟩
  have hti : ((p : Int).toNat) = p := rfl
  simp only [hti]
  refine bifP (fun hb => ?_) fun hb => ?_
  · have hlt : p < ws.length := by have := of_decide_eq_true hb; omega
    refine ⟨⟨by omega, by omega⟩, hws _ (Snd.mem_getD ws [] p hlt), bifP (fun hb => vno fun _ _ h3 _ => ?_) fun h1 => ?_⟩
    · rw [Snd.all_no ws [] _ p hlt (by simpa using hb)] at h3; cases h3
    have h1 : Snd.lettersB (ws.getD p []) 3 8 = true := by simpa using h1
    have hall : (ws.take (p + 1)).all (fun s => Snd.lettersB s 3 8) = true := by rw [Snd.all_step ws [] _ p hlt, ha, h1]; rfl
    refine bifP (fun hb => ?_) fun hb => ?_
    · have h0 : 0 < p := by have := of_decide_eq_true hb; omega
      have hpm : ((p : Int) - 1).toNat = p - 1 := by omega
      rw [hpm]
      refine ⟨⟨by omega, by omega⟩, ⟨by omega, by omega⟩, bifP (fun hb => vno fun _ _ _ h4 => ?_) fun h2 => ⟨⟨by omega, by omega⟩, p + 1, ⟨by omega, hall, ?_⟩, by omega, by omega⟩⟩
      · rw [Snd.rising_no ws p hlt h0 (by simpa using hb)] at h4; cases h4
      · rw [Snd.rising_step ws p hlt, hr, show Op.bytesLess (ws.getD (p - 1) []) (ws.getD p []) = true by simpa using h2]; simp
    · have h0 : p = 0 := by have := of_decide_eq_false hb; omega
      refine ⟨⟨by omega, by omega⟩, p + 1, ⟨by omega, hall, ?_⟩, by omega, by omega⟩
      rw [Snd.rising_step ws p hlt, hr, h0]; rfl
  · have hle : ws.length ≤ p := by have := of_decide_eq_false hb; omega
    rw [Snd.all_end ws _ p hle] at ha
    rw [List.take_of_length_le hle] at hr
    refine bifP (fun hb => ?_) fun hb => vno fun h1 _ _ _ => by have := of_decide_eq_false hb; omega
    have h1 : 1 ≤ ws.length := by have := of_decide_eq_true hb; omega
    unfold Snd.validB
    rw [hname, ha, hr, decide_eq_true h1, Bool.and_true, Bool.true_and, Bool.true_and, Bool.and_true]
    exact decide_eq_decide.2 (by omega)
end Go.Proofs.YtgjdbnkeamjhhaaDoor

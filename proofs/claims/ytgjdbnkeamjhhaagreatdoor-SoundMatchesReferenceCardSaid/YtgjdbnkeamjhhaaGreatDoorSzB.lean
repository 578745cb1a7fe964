/-
  Layer 40, the reference's functions: what they return.
-/
import Derived.Test.YtgjdbnkeamjhhaaGreatDoorSzA
set_option linter.unusedVariables false
namespace Go.Proofs.YtgjdbnkeamjhhaaGreatDoor
open Go.RowKit
open R
set_option maxRecDepth 100000 in
theorem rlet_vc (s : List UInt8) (lo hi : Int) (h : cRLet.pre (s, lo, hi)) :
    /-VC fun (s : List UInt8) (lo hi : Int) => vcOf Tryz.prog [] (anRLet s) cRLet Tryz.f23 (s, lo, hi) -/
    (∃ (p' : Nat), (p' ≤ s.length ∧ (List.take p' s).all Snd.letB = true) ∧ ((0 : Int) = (↑p' : Int) ∧ s = s ∧ lo = lo ∧ hi = hi ∧ True) ∧ True ∧ True ∧ True) ∧ ∀ (p : Nat), p ≤ s.length ∧
    (List.take p s).all Snd.letB = true → bif decide ((↑p : Int) < (↑s.length : Int)) then bif decide ((↑p : Int) ≤ hi) then ((0 : Int) ≤ (↑p : Int) ∧ (↑p : Int) < (↑s.length : Int)) ∧ bif
    decide ((↑(s.getD (↑p : Int).toNat (0 : UInt8)).toNat : Int) < (97 : Int)) then false = Snd.lettersB s lo hi else ((0 : Int) ≤ (↑p : Int) ∧ (↑p : Int) < (↑s.length : Int)) ∧ bif decide ((122
    : Int) < (↑(s.getD (↑p : Int).toNat (0 : UInt8)).toNat : Int)) then false = Snd.lettersB s lo hi else ((-9223372036854775808 : Int) ≤ (↑p : Int) + (1 : Int) ∧ (↑p : Int) + (1 : Int) ≤
    (9223372036854775807 : Int)) ∧ ∃ (p' : Nat), (p' ≤ s.length ∧ (List.take p' s).all Snd.letB = true) ∧ s.length - p' < s.length - p ∧ ((↑p : Int) + (1 : Int) = (↑p' : Int) ∧ s = s ∧ lo = lo ∧
    hi = hi ∧ True) ∧ True ∧ True ∧ True else bif decide (lo ≤ (↑s.length : Int)) then decide ((↑s.length : Int) ≤ hi) = Snd.lettersB s lo hi else false = Snd.lettersB s lo hi else bif decide
    (lo ≤ (↑s.length : Int)) then decide ((↑s.length : Int) ≤ hi) = Snd.lettersB s lo hi else false = Snd.lettersB s lo hi
    /-CV-/ := by
  have h : s.length ≤ 1000000 := h
  simp only [true_and, and_true]
  refine ⟨⟨0, ⟨Nat.zero_le _, rfl⟩, rfl⟩, ?_⟩
  rintro p ⟨hp, ha⟩
  have hti : ((p : Int).toNat) = p := rfl
  simp only [hti]
  have fin : (s.length ≤ p ∨ hi < (p : Int)) → bif decide (lo ≤ (s.length : Int)) then decide ((s.length : Int) ≤ hi) = Snd.lettersB s lo hi else false = Snd.lettersB s lo hi := fun hle => by
    have hv : (decide (lo ≤ (s.length : Int)) && decide ((s.length : Int) ≤ hi)) = Snd.lettersB s lo hi := by
      unfold Snd.lettersB
      rcases hle with hle | hle
      · rw [Snd.all_end s _ p hle] at ha
        rw [ha, Bool.true_and]
      · rw [decide_eq_false (p := (s.length : Int) ≤ hi) (by omega), Bool.and_false, Bool.and_false]
    refine bifP (fun hb => ?_) fun hb => ?_
    · rw [← hv, hb, Bool.true_and]
    · rw [← hv, hb, Bool.false_and]
  refine bifP (fun hb => ?_) fun hb => fin (.inl (by have := of_decide_eq_false hb; omega))
  have hlt : p < s.length := by have := of_decide_eq_true hb; omega
  refine bifP (fun hb => ?_) fun hb => fin (.inr (by have := of_decide_eq_false hb; omega))
  have no : Snd.letB (s.getD p 0) = false → false = Snd.lettersB s lo hi := fun hf => by
    unfold Snd.lettersB
    rw [Snd.all_no s 0 _ p hlt hf, Bool.false_and]
  refine ⟨⟨by omega, by omega⟩, bifP (fun hb => no ?_) fun h1 => ⟨⟨by omega, by omega⟩, bifP (fun hb => no ?_) fun h2 => ⟨⟨by omega, by omega⟩, p + 1, ⟨by omega, ?_⟩, by omega, by omega⟩⟩⟩
  · rw [Snd.letB_nat, hb]; rfl
  · rw [Snd.letB_nat, hb, Bool.and_comm]; rfl
  · rw [Snd.all_step s 0 _ p hlt, ha, Snd.letB_nat, h1, h2]; rfl
set_option maxRecDepth 100000 in
theorem rvalid_vc (lang : List UInt8) (ws : List (List UInt8)) (h : cRValid.pre (lang, ws)) :
    /-VC fun (lang : List UInt8) (ws : List (List UInt8)) => vcOf Tryz.prog [cName, cRLet] (anRValid ws) cRValid Tryz.f10 (lang, ws) -/
    lang.length ≤ (1000000 : Nat) ∧ bif !Lx.nameB lang then false = Snd.validB lang ws else bif decide ((↑ws.length : Int) < (1 : Int)) then false = Snd.validB lang ws else bif decide ((4096 :
    Int) < (↑ws.length : Int)) then false = Snd.validB lang ws else (∃ (p' : Nat), (p' ≤ ws.length ∧ ((List.take p' ws).all fun (s : List UInt8) => Snd.lettersB s (3 : Int) (8 : Int)) = true ∧
    Snd.rising (List.take p' ws) = true) ∧ ((0 : Int) = (↑p' : Int) ∧ True ∧ True) ∧ ((lang = lang ∧ ws = ws ∧ True) ∧ True) ∧ True ∧ True) ∧ ∀ (p : Nat), p ≤ ws.length ∧ ((List.take p ws).all
    fun (s : List UInt8) => Snd.lettersB s (3 : Int) (8 : Int)) = true ∧ Snd.rising (List.take p ws) = true → bif decide ((↑p : Int) < (↑ws.length : Int)) then ((0 : Int) ≤ (↑p : Int) ∧ (↑p :
    Int) < (↑ws.length : Int)) ∧ (ws.getD (↑p : Int).toNat []).length ≤ (1000000 : Nat) ∧ bif !Snd.lettersB (ws.getD (↑p : Int).toNat []) (3 : Int) (8 : Int) then false = Snd.validB lang ws else
    bif decide ((0 : Int) < (↑p : Int)) then ((-9223372036854775808 : Int) ≤ (↑p : Int) - (1 : Int) ∧ (↑p : Int) - (1 : Int) ≤ (9223372036854775807 : Int)) ∧ ((0 : Int) ≤ (↑p : Int) - (1 : Int)
    ∧ (↑p : Int) - (1 : Int) < (↑ws.length : Int)) ∧ ((0 : Int) ≤ (↑p : Int) ∧ (↑p : Int) < (↑ws.length : Int)) ∧ bif !Op.bytesLess (ws.getD ((↑p : Int) - (1 : Int)).toNat []) (ws.getD (↑p :
    Int).toNat []) then false = Snd.validB lang ws else ((-9223372036854775808 : Int) ≤ (↑p : Int) + (1 : Int) ∧ (↑p : Int) + (1 : Int) ≤ (9223372036854775807 : Int)) ∧ ∃ (p' : Nat), (p' ≤
    ws.length ∧ ((List.take p' ws).all fun (s : List UInt8) => Snd.lettersB s (3 : Int) (8 : Int)) = true ∧ Snd.rising (List.take p' ws) = true) ∧ ws.length - p' < ws.length - p ∧ ((↑p : Int) +
    (1 : Int) = (↑p' : Int) ∧ True ∧ True) ∧ ((lang = lang ∧ ws = ws ∧ True) ∧ True) ∧ True ∧ True else ((-9223372036854775808 : Int) ≤ (↑p : Int) + (1 : Int) ∧ (↑p : Int) + (1 : Int) ≤
    (9223372036854775807 : Int)) ∧ ∃ (p' : Nat), (p' ≤ ws.length ∧ ((List.take p' ws).all fun (s : List UInt8) => Snd.lettersB s (3 : Int) (8 : Int)) = true ∧ Snd.rising (List.take p' ws) =
    true) ∧ ws.length - p' < ws.length - p ∧ ((↑p : Int) + (1 : Int) = (↑p' : Int) ∧ True ∧ True) ∧ ((lang = lang ∧ ws = ws ∧ True) ∧ True) ∧ True ∧ True else true = Snd.validB lang ws
    /-CV-/ := by
  obtain ⟨h1000, hn, hws⟩ := h
  have h1000 : lang.length ≤ 1000 := h1000
  have hn : ws.length ≤ 1000000 := hn
  simp only [true_and, and_true]
  have vno : (Lx.nameB lang = true → 1 ≤ ws.length → ws.length ≤ 4096 → (ws.all fun s => Snd.lettersB s 3 8) = true → Snd.rising ws = true → False) → false = Snd.validB lang ws := fun h => by
    symm
    unfold Snd.validB
    rw [← Bool.not_eq_true]
    intro hh
    simp only [Bool.and_eq_true, decide_eq_true_eq] at hh
    exact h hh.1 hh.2.1 hh.2.2.1 hh.2.2.2.1 hh.2.2.2.2
  refine ⟨by omega, bifP (fun hb => vno fun h1 => by rw [h1] at hb; cases hb) fun h1 => bifP (fun hb => vno fun _ h2 => by have := of_decide_eq_true hb; omega) fun h2 => bifP (fun hb => vno fun _ _ h3 => by have := of_decide_eq_true hb; omega) fun h3 => ?_⟩
  have hname : Lx.nameB lang = true := by simpa using h1
  refine ⟨⟨0, ⟨Nat.zero_le _, rfl, rfl⟩, rfl⟩, ?_⟩
  rintro p ⟨hp, ha, hr⟩
  have hti : ((p : Int).toNat) = p := rfl
  simp only [hti]
  refine bifP (fun hb => ?_) fun hb => ?_
  · have hlt : p < ws.length := by have := of_decide_eq_true hb; omega
    refine ⟨⟨by omega, by omega⟩, hws _ (Snd.mem_getD ws [] p hlt), bifP (fun hb => vno fun _ _ _ h3 _ => ?_) fun h1 => ?_⟩
    · rw [Snd.all_no ws [] _ p hlt (by simpa using hb)] at h3; cases h3
    have h1 : Snd.lettersB (ws.getD p []) 3 8 = true := by simpa using h1
    have hall : (ws.take (p + 1)).all (fun s => Snd.lettersB s 3 8) = true := by rw [Snd.all_step ws [] _ p hlt, ha, h1]; rfl
    refine bifP (fun hb => ?_) fun hb => ?_
    · have h0 : 0 < p := by have := of_decide_eq_true hb; omega
      have hpm : ((p : Int) - 1).toNat = p - 1 := by omega
      rw [hpm]
      refine ⟨⟨by omega, by omega⟩, ⟨by omega, by omega⟩, ⟨by omega, by omega⟩, bifP (fun hb => vno fun _ _ _ _ h4 => ?_) fun h2 => ⟨⟨by omega, by omega⟩, p + 1, ⟨by omega, hall, ?_⟩, by omega, by omega⟩⟩
      · rw [Snd.rising_no ws p hlt h0 (by simpa using hb)] at h4; cases h4
      · rw [Snd.rising_step ws p hlt, hr, show Op.bytesLess (ws.getD (p - 1) []) (ws.getD p []) = true by simpa using h2]; simp
    · have h0 : p = 0 := by have := of_decide_eq_false hb; omega
      refine ⟨⟨by omega, by omega⟩, p + 1, ⟨by omega, hall, ?_⟩, by omega, by omega⟩
      rw [Snd.rising_step ws p hlt, hr, h0]; rfl
  · have hle : ws.length ≤ p := by have := of_decide_eq_false hb; omega
    rw [Snd.all_end ws _ p hle] at ha
    rw [List.take_of_length_le hle] at hr
    unfold Snd.validB
    rw [hname, ha, hr, decide_eq_true (p := 1 ≤ ws.length) (by have := of_decide_eq_false h2; omega), decide_eq_true (p := ws.length ≤ 4096) (by have := of_decide_eq_false h3; omega)]
    rfl
set_option maxRecDepth 100000 in
theorem rproper_vc (c : CfP) (h : cRProper.pre c) :
    /-VC fun (c : CfP) => vcOf Tryz.prog [cRLet] (anRProper c) cRProper Tryz.f12 c -/
    bif decide ((200 : Int) < (↑(List.length c) : Int)) then false = Snd.properB c else (∃ (p' : Nat), (p' ≤ List.length c ∧ (List.take p' c).all Snd.okC = true ∧ Snd.fresh (List.take p' c) =
    true) ∧ ((0 : Int) = (↑p' : Int) ∧ c = c ∧ True) ∧ True ∧ True ∧ True) ∧ ∀ (p : Nat), p ≤ List.length c ∧ (List.take p c).all Snd.okC = true ∧ Snd.fresh (List.take p c) = true → bif decide
    ((↑p : Int) < (↑(List.length c) : Int)) then ((0 : Int) ≤ (↑p : Int) ∧ (↑p : Int) < (↑(List.length c) : Int)) ∧ (List.getD c (↑p : Int).toNat ([], [])).fst.length ≤ (1000000 : Nat) ∧ bif
    !Snd.lettersB (List.getD c (↑p : Int).toNat ([], [])).fst (1 : Int) (3 : Int) then false = Snd.properB c else ((0 : Int) ≤ (↑p : Int) ∧ (↑p : Int) < (↑(List.length c) : Int)) ∧ (List.getD c
    (↑p : Int).toNat ([], [])).snd.length ≤ (1000000 : Nat) ∧ bif !Snd.lettersB (List.getD c (↑p : Int).toNat ([], [])).snd (1 : Int) (3 : Int) then false = Snd.properB c else ((0 : Int) ≤ (↑p :
    Int) ∧ (↑p : Int) < (↑(List.length c) : Int)) ∧ ((0 : Int) ≤ (↑p : Int) ∧ (↑p : Int) < (↑(List.length c) : Int)) ∧ bif (List.getD c (↑p : Int).toNat ([], [])).fst == (List.getD c (↑p :
    Int).toNat ([], [])).snd then false = Snd.properB c else (∃ (p' : Nat), (p' ≤ (↑p : Int).toNat ∧ (List.take p' c).any (Snd.same (List.getD c (↑p : Int).toNat ([], []))) = false) ∧ ((0 : Int)
    = (↑p' : Int) ∧ c = c ∧ (↑p : Int) = (↑p : Int) ∧ True) ∧ True ∧ True ∧ True) ∧ ∀ (p_1 : Nat), p_1 ≤ (↑p : Int).toNat ∧ (List.take p_1 c).any (Snd.same (List.getD c (↑p : Int).toNat ([],
    []))) = false → bif decide ((↑p_1 : Int) < (↑p : Int)) then ((0 : Int) ≤ (↑p_1 : Int) ∧ (↑p_1 : Int) < (↑(List.length c) : Int)) ∧ ((0 : Int) ≤ (↑p : Int) ∧ (↑p : Int) < (↑(List.length c) :
    Int)) ∧ bif (List.getD c (↑p_1 : Int).toNat ([], [])).fst == (List.getD c (↑p : Int).toNat ([], [])).fst then ((0 : Int) ≤ (↑p_1 : Int) ∧ (↑p_1 : Int) < (↑(List.length c) : Int)) ∧ ((0 :
    Int) ≤ (↑p : Int) ∧ (↑p : Int) < (↑(List.length c) : Int)) ∧ bif (List.getD c (↑p_1 : Int).toNat ([], [])).snd == (List.getD c (↑p : Int).toNat ([], [])).snd then false = Snd.properB c else
    ((0 : Int) ≤ (↑p_1 : Int) ∧ (↑p_1 : Int) < (↑(List.length c) : Int)) ∧ ((0 : Int) ≤ (↑p : Int) ∧ (↑p : Int) < (↑(List.length c) : Int)) ∧ bif (List.getD c (↑p_1 : Int).toNat ([], [])).fst ==
    (List.getD c (↑p : Int).toNat ([], [])).snd then ((0 : Int) ≤ (↑p_1 : Int) ∧ (↑p_1 : Int) < (↑(List.length c) : Int)) ∧ ((0 : Int) ≤ (↑p : Int) ∧ (↑p : Int) < (↑(List.length c) : Int)) ∧ bif
    (List.getD c (↑p_1 : Int).toNat ([], [])).snd == (List.getD c (↑p : Int).toNat ([], [])).fst then false = Snd.properB c else ((-9223372036854775808 : Int) ≤ (↑p_1 : Int) + (1 : Int) ∧ (↑p_1
    : Int) + (1 : Int) ≤ (9223372036854775807 : Int)) ∧ ∃ (p' : Nat), (p' ≤ (↑p : Int).toNat ∧ (List.take p' c).any (Snd.same (List.getD c (↑p : Int).toNat ([], []))) = false) ∧ (↑p : Int).toNat
    - p' < (↑p : Int).toNat - p_1 ∧ ((↑p_1 : Int) + (1 : Int) = (↑p' : Int) ∧ c = c ∧ (↑p : Int) = (↑p : Int) ∧ True) ∧ True ∧ True ∧ True else ((-9223372036854775808 : Int) ≤ (↑p_1 : Int) + (1
    : Int) ∧ (↑p_1 : Int) + (1 : Int) ≤ (9223372036854775807 : Int)) ∧ ∃ (p' : Nat), (p' ≤ (↑p : Int).toNat ∧ (List.take p' c).any (Snd.same (List.getD c (↑p : Int).toNat ([], []))) = false) ∧
    (↑p : Int).toNat - p' < (↑p : Int).toNat - p_1 ∧ ((↑p_1 : Int) + (1 : Int) = (↑p' : Int) ∧ c = c ∧ (↑p : Int) = (↑p : Int) ∧ True) ∧ True ∧ True ∧ True else ((0 : Int) ≤ (↑p_1 : Int) ∧ (↑p_1
    : Int) < (↑(List.length c) : Int)) ∧ ((0 : Int) ≤ (↑p : Int) ∧ (↑p : Int) < (↑(List.length c) : Int)) ∧ bif (List.getD c (↑p_1 : Int).toNat ([], [])).fst == (List.getD c (↑p : Int).toNat
    ([], [])).snd then ((0 : Int) ≤ (↑p_1 : Int) ∧ (↑p_1 : Int) < (↑(List.length c) : Int)) ∧ ((0 : Int) ≤ (↑p : Int) ∧ (↑p : Int) < (↑(List.length c) : Int)) ∧ bif (List.getD c (↑p_1 :
    Int).toNat ([], [])).snd == (List.getD c (↑p : Int).toNat ([], [])).fst then false = Snd.properB c else ((-9223372036854775808 : Int) ≤ (↑p_1 : Int) + (1 : Int) ∧ (↑p_1 : Int) + (1 : Int) ≤
    (9223372036854775807 : Int)) ∧ ∃ (p' : Nat), (p' ≤ (↑p : Int).toNat ∧ (List.take p' c).any (Snd.same (List.getD c (↑p : Int).toNat ([], []))) = false) ∧ (↑p : Int).toNat - p' < (↑p :
    Int).toNat - p_1 ∧ ((↑p_1 : Int) + (1 : Int) = (↑p' : Int) ∧ c = c ∧ (↑p : Int) = (↑p : Int) ∧ True) ∧ True ∧ True ∧ True else ((-9223372036854775808 : Int) ≤ (↑p_1 : Int) + (1 : Int) ∧
    (↑p_1 : Int) + (1 : Int) ≤ (9223372036854775807 : Int)) ∧ ∃ (p' : Nat), (p' ≤ (↑p : Int).toNat ∧ (List.take p' c).any (Snd.same (List.getD c (↑p : Int).toNat ([], []))) = false) ∧ (↑p :
    Int).toNat - p' < (↑p : Int).toNat - p_1 ∧ ((↑p_1 : Int) + (1 : Int) = (↑p' : Int) ∧ c = c ∧ (↑p : Int) = (↑p : Int) ∧ True) ∧ True ∧ True ∧ True else ((-9223372036854775808 : Int) ≤ (↑p :
    Int) + (1 : Int) ∧ (↑p : Int) + (1 : Int) ≤ (9223372036854775807 : Int)) ∧ ∃ (p' : Nat), (p' ≤ List.length c ∧ (List.take p' c).all Snd.okC = true ∧ Snd.fresh (List.take p' c) = true) ∧
    List.length c - p' < List.length c - p ∧ ((↑p : Int) + (1 : Int) = (↑p' : Int) ∧ c = c ∧ True) ∧ True ∧ True ∧ True else true = Snd.properB c
    /-CV-/ := by
  obtain ⟨hn, hq⟩ := h
  have hn : c.length ≤ 1000000 := hn
  simp only [true_and, and_true]
  have vno : (c.length ≤ 200 → c.all Snd.okC = true → Snd.fresh c = true → False) → false = Snd.properB c := fun h => by
    symm
    unfold Snd.properB
    rw [← Bool.not_eq_true]
    intro hh
    simp only [Bool.and_eq_true, decide_eq_true_eq] at hh
    exact h hh.1 hh.2.1 hh.2.2
  refine bifP (fun hb => vno fun h1 => by have := of_decide_eq_true hb; omega) fun h200 => ⟨⟨0, ⟨Nat.zero_le _, rfl, rfl⟩, rfl⟩, ?_⟩
  rintro p ⟨hp, ha, hf⟩
  have hti : ((p : Int).toNat) = p := rfl
  simp only [hti]
  refine bifP (fun hb => ?_) fun hb => ?_
  · have hlt : p < c.length := by have := of_decide_eq_true hb; omega
    have hqp := hq _ (Snd.mem_getD c ([], []) p hlt)
    have bad : Snd.okC (c.getD p ([], [])) = false → false = Snd.properB c := fun hf => vno fun _ h2 _ => by
      rw [Snd.all_no c ([], []) _ p hlt hf] at h2; cases h2
    have dup : (c.take p).any (Snd.same (c.getD p ([], []))) = true → false = Snd.properB c := fun hf => vno fun _ _ h3 => by
      rw [Snd.fresh_no c ([], []) p hlt hf] at h3; cases h3
    have hall := Snd.all_step c ([], []) Snd.okC p hlt
    have hfr := Snd.fresh_step c ([], []) p hlt
    generalize hx : c.getD p ([], []) = x at *
    refine ⟨⟨by omega, by omega⟩, hqp.1, bifP (fun hb => bad ?_) fun h1 => ⟨⟨by omega, by omega⟩, hqp.2, bifP (fun hb => bad ?_) fun h2 => ⟨⟨by omega, by omega⟩, ⟨by omega, by omega⟩, bifP (fun hb => bad ?_) fun h3 => ?_⟩⟩⟩
    · unfold Snd.okC; rw [show Snd.lettersB x.1 1 3 = false by simpa using hb]; rfl
    · unfold Snd.okC; rw [show Snd.lettersB x.2 1 3 = false by simpa using hb, Bool.false_and, Bool.and_false]
    · unfold Snd.okC; rw [show (x.1 == x.2) = true from hb]; simp
    have hok : Snd.okC x = true := by
      unfold Snd.okC
      rw [show Snd.lettersB x.1 1 3 = true by simpa using h1, show Snd.lettersB x.2 1 3 = true by simpa using h2, show (x.1 == x.2) = false from h3]; rfl
    refine ⟨⟨0, ⟨Nat.zero_le _, rfl⟩, rfl⟩, ?_⟩
    rintro k ⟨hk, hno⟩
    have htk : ((k : Int).toNat) = k := rfl
    simp only [htk]
    refine bifP (fun hb => ?_) fun hb => ?_
    · have hkp : k < p := by have := of_decide_eq_true hb; omega
      have hkl : k < (c.take p).length := by rw [List.length_take]; omega
      have hgk : (c.take p).getD k ([], []) = c.getD k ([], []) := by
        rw [List.getD_eq_getElem?_getD, List.getD_eq_getElem?_getD, List.getElem?_take, if_pos hkp]
      have hst := Snd.any_step c ([], []) (Snd.same x) k (by omega)
      have hyes : Snd.same x (c.getD k ([], [])) = true → (c.take p).any (Snd.same x) = true := fun h => Snd.any_yes (c.take p) ([], []) _ k hkl (by rw [hgk]; exact h)
      generalize c.getD k ([], []) = y at *
      have hsm : Snd.same x y = ((y.1 == x.1 && y.2 == x.2) || (y.1 == x.2 && y.2 == x.1)) := by rw [Snd.same_symm, Snd.same_val]
      rw [hno, Bool.false_or] at hst
      have nxt : Snd.same x y = false → (-9223372036854775808 ≤ (k : Int) + 1 ∧ (k : Int) + 1 ≤ 9223372036854775807) ∧ ∃ p', (p' ≤ p ∧ (c.take p').any (Snd.same x) = false) ∧ p - p' < p - k ∧ (k : Int) + 1 = (p' : Int) := fun h => ⟨⟨by omega, by omega⟩, k + 1, ⟨by omega, by rw [hst]; exact h⟩, by omega, by omega⟩
      refine ⟨⟨by omega, by omega⟩, ⟨by omega, by omega⟩, bifP (fun e1 => ⟨⟨by omega, by omega⟩, ⟨by omega, by omega⟩, bifP (fun e2 => dup (hyes ?_)) fun e2 => ⟨⟨by omega, by omega⟩, ⟨by omega, by omega⟩, bifP (fun e3 => ⟨⟨by omega, by omega⟩, ⟨by omega, by omega⟩, bifP (fun e4 => dup (hyes ?_)) fun e4 => nxt ?_⟩) fun e3 => nxt ?_⟩⟩) fun e1 => ⟨⟨by omega, by omega⟩, ⟨by omega, by omega⟩, bifP (fun e3 => ⟨⟨by omega, by omega⟩, ⟨by omega, by omega⟩, bifP (fun e4 => dup (hyes ?_)) fun e4 => nxt ?_⟩) fun e3 => nxt ?_⟩⟩
      · rw [hsm, e1, e2]; rfl
      · rw [hsm, e3, e4]; simp
      · rw [hsm, e2, e4]; simp
      · rw [hsm, e2, e3]; simp
      · rw [hsm, e3, e4]; simp
      · rw [hsm, e1, e4]; simp
      · rw [hsm, e1, e3]; simp
    · have hkp : k = p := by have := of_decide_eq_false hb; omega
      subst hkp
      refine ⟨⟨by omega, by omega⟩, k + 1, ⟨by omega, by rw [hall, ha, hok]; rfl, by rw [hfr, hf, hno]; rfl⟩, by omega, by omega⟩
  · have hle : c.length ≤ p := by have := of_decide_eq_false hb; omega
    rw [Snd.all_end c _ p hle] at ha
    rw [List.take_of_length_le hle] at hf
    unfold Snd.properB
    rw [ha, hf, decide_eq_true (p := c.length ≤ 200) (by have := of_decide_eq_false h200; omega)]
    rfl
set_option maxRecDepth 100000 in
theorem rrep_vc (x y a b : List UInt8) (h : cRRep.pre (x, y, a, b)) :
    /-VC fun (x y a b : List UInt8) => vcOf Tryz.prog [] (anRRep x y a b) cRRep Tryz.f33 (x, y, a, b) -/
    (∃ (p' : Nat), (p' ≤ x.length + (1 : Nat) ∧ ∀ (j : Nat), j < p' → Snd.repAt x y a b j = false) ∧ ((0 : Int) = (↑p' : Int) ∧ x = x ∧ y = y ∧ a = a ∧ b = b ∧ True) ∧ True ∧ True ∧ True) ∧ ∀ (p
    : Nat), (p ≤ x.length + (1 : Nat) ∧ ∀ (j : Nat), j < p → Snd.repAt x y a b j = false) → ((-9223372036854775808 : Int) ≤ (↑p : Int) + (↑a.length : Int) ∧ (↑p : Int) + (↑a.length : Int) ≤
    (9223372036854775807 : Int)) ∧ bif decide ((↑p : Int) + (↑a.length : Int) ≤ (↑x.length : Int)) then ((-9223372036854775808 : Int) ≤ (↑p : Int) + (↑a.length : Int) ∧ (↑p : Int) + (↑a.length :
    Int) ≤ (9223372036854775807 : Int)) ∧ ((0 : Int) ≤ (↑p : Int) ∧ (↑p : Int) ≤ (↑p : Int) + (↑a.length : Int) ∧ (↑p : Int) + (↑a.length : Int) ≤ (↑x.length : Int)) ∧ bif List.drop (↑p :
    Int).toNat (List.take ((↑p : Int) + (↑a.length : Int)).toNat x) == a then ((0 : Int) ≤ (0 : Int) ∧ (0 : Int) ≤ (↑p : Int) ∧ (↑p : Int) ≤ (↑x.length : Int)) ∧ (List.drop (Int.toNat (0 : Int))
    (List.take (↑p : Int).toNat x)).length + b.length ≤ (9223372036854775807 : Nat) ∧ ((-9223372036854775808 : Int) ≤ (↑p : Int) + (↑a.length : Int) ∧ (↑p : Int) + (↑a.length : Int) ≤
    (9223372036854775807 : Int)) ∧ ((0 : Int) ≤ (↑p : Int) + (↑a.length : Int) ∧ (↑p : Int) + (↑a.length : Int) ≤ (↑x.length : Int) ∧ (↑x.length : Int) ≤ (↑x.length : Int)) ∧ (List.drop
    (Int.toNat (0 : Int)) (List.take (↑p : Int).toNat x) ++ b).length + (List.drop ((↑p : Int) + (↑a.length : Int)).toNat (List.take (↑x.length : Int).toNat x)).length ≤ (9223372036854775807 :
    Nat) ∧ bif List.drop (Int.toNat (0 : Int)) (List.take (↑p : Int).toNat x) ++ b ++ List.drop ((↑p : Int) + (↑a.length : Int)).toNat (List.take (↑x.length : Int).toNat x) == y then true =
    Snd.repB x y a b else ((-9223372036854775808 : Int) ≤ (↑p : Int) + (1 : Int) ∧ (↑p : Int) + (1 : Int) ≤ (9223372036854775807 : Int)) ∧ ∃ (p' : Nat), (p' ≤ x.length + (1 : Nat) ∧ ∀ (j : Nat),
    j < p' → Snd.repAt x y a b j = false) ∧ x.length + (1 : Nat) - p' < x.length + (1 : Nat) - p ∧ ((↑p : Int) + (1 : Int) = (↑p' : Int) ∧ x = x ∧ y = y ∧ a = a ∧ b = b ∧ True) ∧ True ∧ True ∧
    True else ((-9223372036854775808 : Int) ≤ (↑p : Int) + (1 : Int) ∧ (↑p : Int) + (1 : Int) ≤ (9223372036854775807 : Int)) ∧ ∃ (p' : Nat), (p' ≤ x.length + (1 : Nat) ∧ ∀ (j : Nat), j < p' →
    Snd.repAt x y a b j = false) ∧ x.length + (1 : Nat) - p' < x.length + (1 : Nat) - p ∧ ((↑p : Int) + (1 : Int) = (↑p' : Int) ∧ x = x ∧ y = y ∧ a = a ∧ b = b ∧ True) ∧ True ∧ True ∧ True else
    false = Snd.repB x y a b
    /-CV-/ := by
  obtain ⟨hx, ha, hbl⟩ := h
  have hx : x.length ≤ 1000000 := hx
  have ha : a.length ≤ 1000000 := ha
  have hbl : b.length ≤ 1000000 := hbl
  simp only [true_and, and_true]
  refine ⟨⟨0, ⟨Nat.zero_le _, fun j hj => by omega⟩, rfl⟩, ?_⟩
  rintro p ⟨hp, hno⟩
  refine ⟨⟨by omega, by omega⟩, bifP (fun hb => ?_) fun hb => ?_⟩
  · have hle : p + a.length ≤ x.length := by have := of_decide_eq_true hb; omega
    have e1 : List.drop p (List.take (p + a.length) x) = (x.drop p).take a.length := by rw [List.drop_take, Nat.add_sub_cancel_left]
    have e3 : List.drop (p + a.length) (List.take x.length x) = x.drop (p + a.length) := by rw [List.take_length]
    have hat : Snd.repAt x y a b p = ((x.drop p).take a.length == a && x.take p ++ b ++ x.drop (p + a.length) == y) := by
      unfold Snd.repAt
      rw [decide_eq_true hle, Bool.true_and]
    have nxt : Snd.repAt x y a b p = false → (-9223372036854775808 ≤ (p : Int) + 1 ∧ (p : Int) + 1 ≤ 9223372036854775807) ∧ ∃ p', (p' ≤ x.length + 1 ∧ ∀ j, j < p' → Snd.repAt x y a b j = false) ∧ x.length + 1 - p' < x.length + 1 - p ∧ (p : Int) + 1 = (p' : Int) := fun h => ⟨⟨by omega, by omega⟩, p + 1, ⟨by omega, fun j hj => by
      by_cases e : j = p
      · subst e; exact h
      · exact hno j (by omega)⟩, by omega, by omega⟩
    refine ⟨⟨by omega, by omega⟩, ⟨by omega, by omega, by omega⟩, bifP (fun h1 => ?_) fun h1 => nxt ?_⟩
    · have h1 : ((x.drop p).take a.length == a) = true := by rw [← e1]; exact h1
      refine ⟨⟨by omega, by omega, by omega⟩, ?_, ⟨by omega, by omega⟩, ⟨by omega, by omega, by omega⟩, ?_, bifP (fun h2 => ?_) fun h2 => nxt ?_⟩
      · rw [List.length_drop, List.length_take]; omega
      · rw [List.length_append, List.length_drop, List.length_take, List.length_drop, List.length_take]; omega
      · have h2 : (x.take p ++ b ++ x.drop (p + a.length) == y) = true := by rw [← e3]; exact h2
        symm
        unfold Snd.repB
        rw [List.any_eq_true]
        exact ⟨p, List.mem_range.2 (by omega), by rw [hat, h1, h2]; rfl⟩
      · have h2 : (x.take p ++ b ++ x.drop (p + a.length) == y) = false := by rw [← e3]; exact h2
        rw [hat, h2, Bool.and_false]
    · have h1 : ((x.drop p).take a.length == a) = false := by rw [← e1]; exact h1
      rw [hat, h1, Bool.false_and]
  · have hgt : x.length < p + a.length := by have := of_decide_eq_false hb; omega
    symm
    unfold Snd.repB
    rw [← Bool.not_eq_true, List.any_eq_true]
    rintro ⟨i, _, hi⟩
    by_cases e : i < p
    · rw [hno i e] at hi; cases hi
    · unfold Snd.repAt at hi
      rw [decide_eq_false (by omega)] at hi; cases hi
set_option maxRecDepth 100000 in
theorem rsounds_vc (c : CfP) (x y : List UInt8) (h : cRSounds.pre (c, x, y)) :
    /-VC fun (c : CfP) (x y : List UInt8) => vcOf Tryz.prog [cRRep] (anRSounds c x y) cRSounds Tryz.f24 (c, x, y) -/
    bif x == y then true = Snd.soundsB c x y else (∃ (p' : Nat), (p' ≤ List.length c ∧ (List.take p' c).any (Snd.hitB x y) = false) ∧ ((0 : Int) = (↑p' : Int) ∧ c = c ∧ x = x ∧ y = y ∧ True) ∧
    True ∧ True ∧ True) ∧ ∀ (p : Nat), p ≤ List.length c ∧ (List.take p c).any (Snd.hitB x y) = false → bif decide ((↑p : Int) < (↑(List.length c) : Int)) then ((0 : Int) ≤ (↑p : Int) ∧ (↑p :
    Int) < (↑(List.length c) : Int)) ∧ ((0 : Int) ≤ (↑p : Int) ∧ (↑p : Int) < (↑(List.length c) : Int)) ∧ (x.length ≤ (1000000 : Nat) ∧ (List.getD c (↑p : Int).toNat ([], [])).fst.length ≤
    (1000000 : Nat) ∧ (List.getD c (↑p : Int).toNat ([], [])).snd.length ≤ (1000000 : Nat)) ∧ bif Snd.repB x y (List.getD c (↑p : Int).toNat ([], [])).fst (List.getD c (↑p : Int).toNat ([],
    [])).snd then true = Snd.soundsB c x y else ((0 : Int) ≤ (↑p : Int) ∧ (↑p : Int) < (↑(List.length c) : Int)) ∧ ((0 : Int) ≤ (↑p : Int) ∧ (↑p : Int) < (↑(List.length c) : Int)) ∧ (x.length ≤
    (1000000 : Nat) ∧ (List.getD c (↑p : Int).toNat ([], [])).snd.length ≤ (1000000 : Nat) ∧ (List.getD c (↑p : Int).toNat ([], [])).fst.length ≤ (1000000 : Nat)) ∧ bif Snd.repB x y (List.getD c
    (↑p : Int).toNat ([], [])).snd (List.getD c (↑p : Int).toNat ([], [])).fst then true = Snd.soundsB c x y else ((-9223372036854775808 : Int) ≤ (↑p : Int) + (1 : Int) ∧ (↑p : Int) + (1 : Int)
    ≤ (9223372036854775807 : Int)) ∧ ∃ (p' : Nat), (p' ≤ List.length c ∧ (List.take p' c).any (Snd.hitB x y) = false) ∧ List.length c - p' < List.length c - p ∧ ((↑p : Int) + (1 : Int) = (↑p' :
    Int) ∧ c = c ∧ x = x ∧ y = y ∧ True) ∧ True ∧ True ∧ True else false = Snd.soundsB c x y
    /-CV-/ := by
  obtain ⟨⟨hn, hq⟩, hx, hy⟩ := h
  have hn : c.length ≤ 1000000 := hn
  have hx : x.length ≤ 1000000 := hx
  simp only [true_and, and_true]
  refine bifP (fun hb => ?_) fun hxy => ⟨⟨0, ⟨Nat.zero_le _, rfl⟩, rfl⟩, ?_⟩
  · unfold Snd.soundsB; rw [hb]; rfl
  rintro p ⟨hp, ha⟩
  have hti : ((p : Int).toNat) = p := rfl
  simp only [hti]
  have hxy : (x == y) = false := hxy
  refine bifP (fun hb => ?_) fun hb => ?_
  · have hlt : p < c.length := by have := of_decide_eq_true hb; omega
    have hqp := hq _ (Snd.mem_getD c ([], []) p hlt)
    have yes : Snd.hitB x y (c.getD p ([], [])) = true → true = Snd.soundsB c x y := fun h => by
      unfold Snd.soundsB; rw [Snd.any_yes c ([], []) _ p hlt h, Bool.or_true]
    have hst := Snd.any_step c ([], []) (Snd.hitB x y) p hlt
    generalize c.getD p ([], []) = z at *
    refine ⟨⟨by omega, by omega⟩, ⟨by omega, by omega⟩, ⟨hx, hqp.1, hqp.2⟩, bifP (fun h1 => yes ?_) fun h1 => ⟨⟨by omega, by omega⟩, ⟨by omega, by omega⟩, ⟨hx, hqp.2, hqp.1⟩, bifP (fun h2 => yes ?_) fun h2 => ⟨⟨by omega, by omega⟩, p + 1, ⟨by omega, ?_⟩, by omega, by omega⟩⟩⟩
    · unfold Snd.hitB; rw [h1]; rfl
    · unfold Snd.hitB; rw [h2, Bool.or_true]
    · rw [hst, ha]; unfold Snd.hitB; rw [h1, h2]; rfl
  · have hle : c.length ≤ p := by have := of_decide_eq_false hb; omega
    rw [List.take_of_length_le hle] at ha
    unfold Snd.soundsB
    rw [hxy, ha]; rfl
set_option maxRecDepth 100000 in
theorem ralike_vc (c : CfP) (x y : List UInt8) (h : cRAlike.pre (c, x, y)) :
    /-VC fun (c : CfP) (x y : List UInt8) => vcOf Tryz.prog [cRProper, cRLet, cRSounds] [] cRAlike Tryz.f14 (c, x, y) -/
    LongC c ∧ bif Snd.properB c then x.length ≤ (1000000 : Nat) ∧ bif Snd.lettersB x (1 : Int) (12 : Int) then y.length ≤ (1000000 : Nat) ∧ bif Snd.lettersB y (1 : Int) (12 : Int) then (LongC c
    ∧ x.length ≤ (1000000 : Nat) ∧ y.length ≤ (1000000 : Nat)) ∧ Snd.soundsB c x y = Snd.alikeB c x y else false = Snd.alikeB c x y else false = Snd.alikeB c x y else false = Snd.alikeB c x y
    /-CV-/ := by
  obtain ⟨hL, hx, hy⟩ := h
  have hx : x.length ≤ 1000000 := hx
  have hy : y.length ≤ 1000000 := hy
  unfold Snd.alikeB Snd.heardB
  refine ⟨hL, bifP (fun h1 => ⟨hx, bifP (fun h2 => ⟨hy, bifP (fun h3 => ⟨⟨hL, hx, hy⟩, ?_⟩) fun h3 => ?_⟩) fun h2 => ?_⟩) fun h1 => ?_⟩
  · rw [h1, h2, h3]; rfl
  · rw [h3]; simp
  · rw [h2]; simp
  · rw [h1]; rfl
set_option maxRecDepth 100000 in
theorem rnear_vc (lang : List UInt8) (ws : List (List UInt8)) (c : CfP) (x : List UInt8) (h : cRNear.pre ((lang, ws), c, x)) :
    /-VC fun (lang : List UInt8) (ws : List (List UInt8)) (c : CfP) (x : List UInt8) => vcOf Tryz.prog [cRValid, cRProper, cRLet, cRSounds] (anRNear ws c x) cRNear Tryz.f8 ((lang, ws), c, x) -/
    LongW (lang, ws) ∧ bif !Snd.validB lang ws then ([], (1 : Int)) = Snd.nearB lang ws c x else LongC c ∧ bif !Snd.properB c then ([], (1 : Int)) = Snd.nearB lang ws c x else x.length ≤
    (1000000 : Nat) ∧ bif !Snd.lettersB x (1 : Int) (12 : Int) then ([], (1 : Int)) = Snd.nearB lang ws c x else (∃ (p' : Nat), p' ≤ ws.length ∧ (True ∧ (0 : Int) = (↑p' : Int) ∧ c = c ∧ x = x ∧
    True ∧ True) ∧ ((lang = lang ∧ ws = ws ∧ True) ∧ True) ∧ (Snd.nearL ws c x p' = [] ∧ True) ∧ True) ∧ ∀ (p : Nat), p ≤ ws.length → bif decide ((↑p : Int) < (↑ws.length : Int)) then ((0 : Int)
    ≤ (↑p : Int) ∧ (↑p : Int) < (↑ws.length : Int)) ∧ (LongC c ∧ (ws.getD (↑p : Int).toNat []).length ≤ (1000000 : Nat) ∧ x.length ≤ (1000000 : Nat)) ∧ bif Snd.soundsB c (ws.getD (↑p :
    Int).toNat []) x then ((Snd.nearL ws c x p).length + [(↑p : Int)].length) * (8 : Nat) ≤ (140737488355328 : Nat) ∧ ((-9223372036854775808 : Int) ≤ (↑p : Int) + (1 : Int) ∧ (↑p : Int) + (1 :
    Int) ≤ (9223372036854775807 : Int)) ∧ ∃ (p' : Nat), p' ≤ ws.length ∧ ws.length - p' < ws.length - p ∧ (True ∧ (↑p : Int) + (1 : Int) = (↑p' : Int) ∧ c = c ∧ x = x ∧ True ∧ True) ∧ ((lang =
    lang ∧ ws = ws ∧ True) ∧ True) ∧ (Snd.nearL ws c x p ++ [(↑p : Int)] = Snd.nearL ws c x p' ∧ True) ∧ True else ((-9223372036854775808 : Int) ≤ (↑p : Int) + (1 : Int) ∧ (↑p : Int) + (1 : Int)
    ≤ (9223372036854775807 : Int)) ∧ ∃ (p' : Nat), p' ≤ ws.length ∧ ws.length - p' < ws.length - p ∧ (True ∧ (↑p : Int) + (1 : Int) = (↑p' : Int) ∧ c = c ∧ x = x ∧ True ∧ True) ∧ ((lang = lang ∧
    ws = ws ∧ True) ∧ True) ∧ (Snd.nearL ws c x p = Snd.nearL ws c x p' ∧ True) ∧ True else (Snd.nearL ws c x p, (0 : Int)) = Snd.nearB lang ws c x
    /-CV-/ := by
  obtain ⟨hW, hL, hx⟩ := h
  have hx : x.length ≤ 1000000 := hx
  have hn : ws.length ≤ 1000000 := hW.2.1
  simp only [true_and, and_true]
  have bad : (Snd.validB lang ws && (Snd.properB c && Snd.heardB x)) = false → (([], 1) : List Int × Int) = Snd.nearB lang ws c x := fun h => by
    unfold Snd.nearB; rw [if_neg (by rw [h]; exact Bool.noConfusion)]
  refine ⟨hW, bifP (fun hb => bad ?_) fun h1 => ⟨hL, bifP (fun hb => bad ?_) fun h2 => ⟨hx, bifP (fun hb => bad ?_) fun h3 => ?_⟩⟩⟩
  · rw [show Snd.validB lang ws = false by simpa using hb]; rfl
  · rw [show Snd.properB c = false by simpa using hb, Bool.false_and, Bool.and_false]
  · rw [show Snd.heardB x = false by simpa [Snd.heardB] using hb, Bool.and_false, Bool.and_false]
  have hok : (Snd.validB lang ws && (Snd.properB c && Snd.heardB x)) = true := by
    rw [show Snd.validB lang ws = true by simpa using h1, show Snd.properB c = true by simpa using h2, show Snd.heardB x = true by simpa [Snd.heardB] using h3]; rfl
  refine ⟨⟨0, Nat.zero_le _, rfl, rfl⟩, ?_⟩
  intro p hp
  have hti : ((p : Int).toNat) = p := rfl
  simp only [hti]
  refine bifP (fun hb => ?_) fun hb => ?_
  · have hlt : p < ws.length := by have := of_decide_eq_true hb; omega
    have hlen : (Snd.nearL ws c x p).length ≤ p := by
      unfold Snd.nearL
      rw [List.length_map]
      exact Nat.le_trans (List.length_filter_le _ _) (by rw [List.length_range]; exact Nat.le_refl _)
    have hst : Snd.nearL ws c x (p + 1) = Snd.nearL ws c x p ++ if Snd.soundsB c (ws.getD p []) x then [(p : Int)] else [] := by
      unfold Snd.nearL
      rw [List.range_succ, List.filter_append, List.map_append]
      cases h : Snd.soundsB c (ws.getD p []) x
      · rw [List.filter_cons, if_neg (by rw [h]; exact Bool.noConfusion)]; rfl
      · rw [List.filter_cons, if_pos h]; rfl
    have hwl := hW.2.2 _ (Snd.mem_getD ws [] p hlt)
    refine ⟨⟨by omega, by omega⟩, ⟨hL, hwl, hx⟩, bifP (fun hs => ?_) fun hs => ?_⟩
    · refine ⟨by rw [List.length_singleton]; omega, ⟨by omega, by omega⟩, p + 1, by omega, by omega, by omega, ?_⟩
      rw [hst, hs]; rfl
    · refine ⟨⟨by omega, by omega⟩, p + 1, by omega, by omega, by omega, ?_⟩
      rw [hst, hs]; simp
  · have hle : p = ws.length := by have := of_decide_eq_false hb; omega
    subst hle
    unfold Snd.nearB
    rw [if_pos hok]
set_option maxRecDepth 100000 in
theorem match_vc (lang : List UInt8) (ws : List (List UInt8)) (c : CfP) (x y : List UInt8) (h : cMatch.pre ((lang, ws), c, x, y)) :
    /-VC fun (lang : List UInt8) (ws : List (List UInt8)) (c : CfP) (x y : List UInt8) => vcOf Tryz.prog consMatch [] cMatch Tryz.f3 ((lang, ws), c, x, y) -/
    True ∧ [x, y].length ≤ (1000000 : Nat) ∧ bif !fewLB (c, [x, y]) then true = true else True ∧ bif !fewWB (lang, ws) then true = true else (LongW (lang, ws) ∧ LongC c ∧ x.length ≤ (1000000 :
    Nat)) ∧ (LongW (lang, ws) ∧ LongC c ∧ x.length ≤ (1000000 : Nat)) ∧ LongW (lang, ws) ∧ LongW (lang, ws) ∧ bif Snd.validB lang ws == Snd.validB lang ws then LongC c ∧ LongC c ∧ bif
    Snd.properB c == Snd.properB c then (LongC c ∧ x.length ≤ (1000000 : Nat) ∧ y.length ≤ (1000000 : Nat)) ∧ (LongC c ∧ x.length ≤ (1000000 : Nat) ∧ y.length ≤ (1000000 : Nat)) ∧ bif Snd.alikeB
    c x y == Snd.alikeB c x y then (Snd.nearB lang ws c x).fst.length ≤ (1000000000000000 : Nat) ∧ bif (Snd.nearB lang ws c x).fst == (Snd.nearB lang ws c x).fst then ((Snd.nearB lang ws c
    x).snd == (Snd.nearB lang ws c x).snd) = true else false = true else false = true else false = true else false = true
    /-CV-/ := by
  have hlen : [x, y].length ≤ 1000000 := by show 2 ≤ 1000000; omega
  simp only [true_and, and_true]
  refine ⟨hlen, bifP (fun _ => trivial) fun hf => bifP (fun _ => trivial) fun hw => ?_⟩
  have hf : fewLB (c, [x, y]) = true := by simpa using hf
  have hw : fewWB (lang, ws) = true := by simpa using hw
  obtain ⟨hc, hws⟩ := few_out hf
  have hx : x.length ≤ 100 := hws x (by simp)
  have hy : y.length ≤ 100 := hws y (by simp)
  have hL := long_of hc
  have hW := longW_of (few_w hw)
  have hn : ws.length ≤ 40 := (few_w hw).1
  have hnl : (Snd.nearB lang ws c x).1.length ≤ 1000000000000000 := by
    unfold Snd.nearB
    split
    · show (Snd.nearL ws c x ws.length).length ≤ _
      unfold Snd.nearL
      rw [List.length_map]
      exact Nat.le_trans (List.length_filter_le _ _) (by rw [List.length_range]; omega)
    · exact Nat.zero_le _
  simp only [beq_self_eq_true, cond_true]
  exact ⟨⟨hW, hL, by omega⟩, ⟨hW, hL, by omega⟩, hW, hW, hL, hL, ⟨hL, by omega, by omega⟩, ⟨hL, by omega, by omega⟩, hnl, trivial⟩
end Go.Proofs.YtgjdbnkeamjhhaaGreatDoor

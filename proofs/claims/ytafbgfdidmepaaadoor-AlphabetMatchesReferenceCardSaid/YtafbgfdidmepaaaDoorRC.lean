/-
  At, formed: what they return.
-/
import Derived.Test.YtafbgfdidmepaaaDoorRB
import Derived.Test.YtafbgfdidmepaaaDoorAlPlaces
import Derived.Test.YtafbgfdidmepaaaDoorAlLBytesA
set_option linter.unusedVariables false
namespace Go.Proofs.YtafbgfdidmepaaaDoor
open Go.RowKit
open R
theorem best_lt (L : List (List UInt8)) (s : List UInt8) : ∀ k, k ≤ L.length → -1 ≤ Al.best L s k ∧ Al.best L s k < k := by
  intro k
  induction k with
  | zero => intro _; exact ⟨Int.le_refl _, by show (-1 : Int) < 0; omega⟩
  | succ k ih =>
    intro hk
    obtain ⟨h1, h2⟩ := ih (by omega)
    show -1 ≤ Al.better L s k (Al.best L s k) ∧ Al.better L s k (Al.best L s k) < ((k + 1 : Nat) : Int)
    unfold Al.better
    split <;> constructor <;> omega
set_option maxRecDepth 100000 in
theorem at_vc (nm : List UInt8) (ls : List (List UInt8)) (sm : List Int) (s : List UInt8) (i : Int) (h : cAt.pre ((nm, ls, sm), s, i)) :
    /-VC fun (nm : List UInt8) (ls : List (List UInt8)) (sm : List Int) (s : List UInt8) (i : Int) => vcOf Tryd.prog [cBegins] (anAt ls (s.drop i.toNat)) cAt Tryd.f40 ((nm, ls, sm), s, i) -/
    (∃ (p' : Nat), p' ≤ ls.length ∧ ((-1 : Int) = Al.best ls (List.drop i.toNat s) p' ∧ (0 : Int) = (↑p' : Int) ∧ s = s ∧ i = i ∧ True ∧ True) ∧ ((nm = nm ∧ ls = ls ∧ sm = sm ∧ True) ∧ True) ∧
    True ∧ True) ∧ ∀ (p : Nat), p ≤ ls.length → bif decide ((↑p : Int) < (↑ls.length : Int)) then ((0 : Int) ≤ i ∧ i ≤ (↑s.length : Int) ∧ (↑s.length : Int) ≤ (↑s.length : Int)) ∧ ((0 : Int) ≤
    (↑p : Int) ∧ (↑p : Int) < (↑ls.length : Int)) ∧ True ∧ bif (ls.getD (↑p : Int).toNat []).isPrefixOf (List.drop i.toNat (List.take (↑s.length : Int).toNat s)) then bif decide (Al.best ls
    (List.drop i.toNat s) p < (0 : Int)) then ((-9223372036854775808 : Int) ≤ (↑p : Int) + (1 : Int) ∧ (↑p : Int) + (1 : Int) ≤ (9223372036854775807 : Int)) ∧ ∃ (p' : Nat), p' ≤ ls.length ∧
    ls.length - p' < ls.length - p ∧ ((↑p : Int) = Al.best ls (List.drop i.toNat s) p' ∧ (↑p : Int) + (1 : Int) = (↑p' : Int) ∧ s = s ∧ i = i ∧ True ∧ True) ∧ ((nm = nm ∧ ls = ls ∧ sm = sm ∧
    True) ∧ True) ∧ True ∧ True else ((0 : Int) ≤ (↑p : Int) ∧ (↑p : Int) < (↑ls.length : Int)) ∧ ((0 : Int) ≤ Al.best ls (List.drop i.toNat s) p ∧ Al.best ls (List.drop i.toNat s) p <
    (↑ls.length : Int)) ∧ bif decide ((↑(ls.getD (Al.best ls (List.drop i.toNat s) p).toNat []).length : Int) < (↑(ls.getD (↑p : Int).toNat []).length : Int)) then ((-9223372036854775808 : Int)
    ≤ (↑p : Int) + (1 : Int) ∧ (↑p : Int) + (1 : Int) ≤ (9223372036854775807 : Int)) ∧ ∃ (p' : Nat), p' ≤ ls.length ∧ ls.length - p' < ls.length - p ∧ ((↑p : Int) = Al.best ls (List.drop i.toNat
    s) p' ∧ (↑p : Int) + (1 : Int) = (↑p' : Int) ∧ s = s ∧ i = i ∧ True ∧ True) ∧ ((nm = nm ∧ ls = ls ∧ sm = sm ∧ True) ∧ True) ∧ True ∧ True else ((-9223372036854775808 : Int) ≤ (↑p : Int) + (1
    : Int) ∧ (↑p : Int) + (1 : Int) ≤ (9223372036854775807 : Int)) ∧ ∃ (p' : Nat), p' ≤ ls.length ∧ ls.length - p' < ls.length - p ∧ (Al.best ls (List.drop i.toNat s) p = Al.best ls (List.drop
    i.toNat s) p' ∧ (↑p : Int) + (1 : Int) = (↑p' : Int) ∧ s = s ∧ i = i ∧ True ∧ True) ∧ ((nm = nm ∧ ls = ls ∧ sm = sm ∧ True) ∧ True) ∧ True ∧ True else ((-9223372036854775808 : Int) ≤ (↑p :
    Int) + (1 : Int) ∧ (↑p : Int) + (1 : Int) ≤ (9223372036854775807 : Int)) ∧ ∃ (p' : Nat), p' ≤ ls.length ∧ ls.length - p' < ls.length - p ∧ (Al.best ls (List.drop i.toNat s) p = Al.best ls
    (List.drop i.toNat s) p' ∧ (↑p : Int) + (1 : Int) = (↑p' : Int) ∧ s = s ∧ i = i ∧ True ∧ True) ∧ ((nm = nm ∧ ls = ls ∧ sm = sm ∧ True) ∧ True) ∧ True ∧ True else Al.best ls (List.drop
    i.toNat s) p = Al.best ls (List.drop i.toNat s) ls.length
    /-CV-/ := by
  obtain ⟨⟨h70, h20, _, _⟩, hi0, hi1, hs⟩ := h
  have hi0 : 0 ≤ i := hi0
  have hi1 : i ≤ (s.length : Int) := hi1
  have h70 : ls.length ≤ 70 := h70
  have hb : ∀ k, k ≤ ls.length → -1 ≤ Al.best ls (s.drop i.toNat) k ∧ Al.best ls (s.drop i.toNat) k < k := best_lt ls _
  simp only [Int.toNat_natCast, List.take_length, true_and, and_true, eq_self]
  refine ⟨⟨0, Nat.zero_le _, rfl, rfl⟩, fun p hp => ?_⟩
  by_cases hlt : p < ls.length
  · have hlt' : (p : Int) < (ls.length : Int) := by omega
    have hget : Al.letterAt ls (p : Int) = ls.getD p [] := rfl
    rw [decide_eq_true hlt']
    have hstep : Al.best ls (s.drop i.toNat) (p + 1) = Al.better ls (s.drop i.toNat) p (Al.best ls (s.drop i.toNat) p) := rfl
    obtain ⟨hb1, hb2⟩ := hb p hp
    refine ⟨⟨hi0, hi1, Int.le_refl _⟩, ⟨by omega, hlt'⟩, ?_⟩
    have go : ∀ v : Int, v = Al.best ls (s.drop i.toNat) (p + 1) → (-9223372036854775808 ≤ (p : Int) + 1 ∧ (p : Int) + 1 ≤ 9223372036854775807) ∧ ∃ p' : Nat, p' ≤ ls.length ∧ ls.length - p' < ls.length - p ∧ v = Al.best ls (s.drop i.toNat) p' ∧ (p : Int) + 1 = (p' : Int) :=
      fun v hv => ⟨⟨by omega, by omega⟩, p + 1, hlt, by omega, hv, by omega⟩
    generalize Al.best ls (s.drop i.toNat) p = b at *
    cases hpre : (ls.getD p []).isPrefixOf (s.drop i.toNat)
    · exact go _ (by rw [hstep]; unfold Al.better; rw [hget, hpre]; simp)
    · by_cases hn : b < 0
      · rw [decide_eq_true hn]
        exact go _ (by rw [hstep]; unfold Al.better; rw [hget, hpre, decide_eq_true hn]; simp)
      · rw [decide_eq_false hn]
        refine ⟨⟨by omega, hlt'⟩, ⟨by omega, by omega⟩, ?_⟩
        by_cases hl : (((ls.getD b.toNat []).length : Nat) : Int) < ((ls.getD p []).length : Int)
        · rw [decide_eq_true hl]
          have hl' : (Al.letterAt ls b).length < (ls.getD p []).length := by show (ls.getD b.toNat []).length < _; omega
          exact go _ (by rw [hstep]; unfold Al.better; rw [hget, hpre, decide_eq_true hl']; simp)
        · rw [decide_eq_false hl]
          have hl' : ¬ (Al.letterAt ls b).length < (ls.getD p []).length := by show ¬ (ls.getD b.toNat []).length < _; omega
          exact go _ (by rw [hstep]; unfold Al.better; rw [hget, hpre, decide_eq_false hn, decide_eq_false hl']; simp)
  · have hpe : p = ls.length := by omega
    subst hpe
    rw [decide_eq_false (by omega)]
    rfl
set_option maxRecDepth 100000 in
theorem at_holds : cAt.Holds Tryd.prog := by
  refine holdsF (cons := [cBegins]) Tryd.func40 (by kernel_rfl) (by kernel_rfl) mixed (by kernel_rfl) (fun c h => by obtain rfl := List.mem_singleton.1 h; exact begins_holds) (fun p => anAt p.1.2.1 (List.drop (Int.toNat p.2.2) p.2.1)) fun p hp => ?_
  obtain ⟨⟨nm, ls, sm⟩, s, i⟩ := p
  refine cast ?_ (at_vc nm ls sm s i hp)
  kernel_rfl
set_option maxRecDepth 100000 in
theorem formed_vc (nm : List UInt8) (ls : List (List UInt8)) (sm : List Int) (h : cFormed.pre (nm, ls, sm)) :
    /-VC fun (nm : List UInt8) (ls : List (List UInt8)) (sm : List Int) => vcOf Tryd.prog [cName] (anFormed nm ls sm) cFormed Tryd.f34 (nm, ls, sm) -/
    nm.length ≤ (1000000 : Nat) ∧ bif !Lx.nameB nm then false = Al.formedB (alOf (nm, ls, sm)) else bif decide ((↑ls.length : Int) < (1 : Int)) then false = Al.formedB (alOf (nm, ls, sm)) else
    bif decide ((64 : Int) < (↑ls.length : Int)) then false = Al.formedB (alOf (nm, ls, sm)) else bif (↑sm.length : Int) != (↑ls.length : Int) then false = Al.formedB (alOf (nm, ls, sm)) else (∃
    (p' : Nat), (p' ≤ ls.length ∧ (List.take p' ls).all Al.printedB = true ∧ Al.noTwice (List.take p' ls) = true ∧ ∀ (x : Int), x ∈ List.take p' sm → (0 : Int) ≤ x ∧ x < (↑ls.length : Int)) ∧
    ((0 : Int) = (↑p' : Int) ∧ True ∧ True) ∧ ((nm = nm ∧ ls = ls ∧ sm = sm ∧ True) ∧ True) ∧ True ∧ True) ∧ ∀ (p : Nat), (p ≤ ls.length ∧ (List.take p ls).all Al.printedB = true ∧ Al.noTwice
    (List.take p ls) = true ∧ ∀ (x : Int), x ∈ List.take p sm → (0 : Int) ≤ x ∧ x < (↑ls.length : Int)) → bif decide ((↑p : Int) < (↑ls.length : Int)) then ((0 : Int) ≤ (↑p : Int) ∧ (↑p : Int) <
    (↑ls.length : Int)) ∧ bif decide ((↑(ls.getD (↑p : Int).toNat []).length : Int) < (1 : Int)) then false = Al.formedB (alOf (nm, ls, sm)) else bif decide ((3 : Int) < (↑(ls.getD (↑p :
    Int).toNat []).length : Int)) then false = Al.formedB (alOf (nm, ls, sm)) else ((0 : Int) ≤ (↑p : Int) ∧ (↑p : Int) < (↑sm.length : Int)) ∧ bif decide (sm.getD (↑p : Int).toNat (0 : Int) <
    (0 : Int)) then false = Al.formedB (alOf (nm, ls, sm)) else ((0 : Int) ≤ (↑p : Int) ∧ (↑p : Int) < (↑sm.length : Int)) ∧ bif decide ((↑ls.length : Int) ≤ sm.getD (↑p : Int).toNat (0 : Int))
    then false = Al.formedB (alOf (nm, ls, sm)) else (∃ (p' : Nat), (p' ≤ (ls.getD (↑p : Int).toNat []).length ∧ (List.take p' (ls.getD (↑p : Int).toNat [])).all Al.okByte = true) ∧ ((0 : Int) =
    (↑p' : Int) ∧ True ∧ (↑p : Int) = (↑p : Int) ∧ ls.getD (↑p : Int).toNat [] = ls.getD (↑p : Int).toNat [] ∧ True) ∧ ((nm = nm ∧ ls = ls ∧ sm = sm ∧ True) ∧ True) ∧ True ∧ True) ∧ ∀ (p_1 :
    Nat), p_1 ≤ (ls.getD (↑p : Int).toNat []).length ∧ (List.take p_1 (ls.getD (↑p : Int).toNat [])).all Al.okByte = true → bif decide ((↑p_1 : Int) < (↑(ls.getD (↑p : Int).toNat []).length :
    Int)) then ((0 : Int) ≤ (↑p_1 : Int) ∧ (↑p_1 : Int) < (↑(ls.getD (↑p : Int).toNat []).length : Int)) ∧ bif decide ((↑((ls.getD (↑p : Int).toNat []).getD (↑p_1 : Int).toNat (0 : UInt8)).toNat
    : Int) < (33 : Int)) then false = Al.formedB (alOf (nm, ls, sm)) else ((0 : Int) ≤ (↑p_1 : Int) ∧ (↑p_1 : Int) < (↑(ls.getD (↑p : Int).toNat []).length : Int)) ∧ bif decide ((126 : Int) <
    (↑((ls.getD (↑p : Int).toNat []).getD (↑p_1 : Int).toNat (0 : UInt8)).toNat : Int)) then false = Al.formedB (alOf (nm, ls, sm)) else ((0 : Int) ≤ (↑p_1 : Int) ∧ (↑p_1 : Int) < (↑(ls.getD (↑p
    : Int).toNat []).length : Int)) ∧ bif (↑((ls.getD (↑p : Int).toNat []).getD (↑p_1 : Int).toNat (0 : UInt8)).toNat : Int) == (34 : Int) then false = Al.formedB (alOf (nm, ls, sm)) else
    ((-9223372036854775808 : Int) ≤ (↑p_1 : Int) + (1 : Int) ∧ (↑p_1 : Int) + (1 : Int) ≤ (9223372036854775807 : Int)) ∧ ∃ (p' : Nat), (p' ≤ (ls.getD (↑p : Int).toNat []).length ∧ (List.take p'
    (ls.getD (↑p : Int).toNat [])).all Al.okByte = true) ∧ (ls.getD (↑p : Int).toNat []).length - p' < (ls.getD (↑p : Int).toNat []).length - p_1 ∧ ((↑p_1 : Int) + (1 : Int) = (↑p' : Int) ∧ True
    ∧ (↑p : Int) = (↑p : Int) ∧ ls.getD (↑p : Int).toNat [] = ls.getD (↑p : Int).toNat [] ∧ True) ∧ ((nm = nm ∧ ls = ls ∧ sm = sm ∧ True) ∧ True) ∧ True ∧ True else (∃ (p' : Nat), ((↑p' : Int) ≤
    (↑p : Int) ∧ (List.take p' ls).contains (ls.getD (↑p : Int).toNat []) = false) ∧ ((0 : Int) = (↑p' : Int) ∧ True ∧ (↑p : Int) = (↑p : Int) ∧ ls.getD (↑p : Int).toNat [] = ls.getD (↑p :
    Int).toNat [] ∧ True) ∧ ((nm = nm ∧ ls = ls ∧ sm = sm ∧ True) ∧ True) ∧ True ∧ True) ∧ ∀ (p_2 : Nat), (↑p_2 : Int) ≤ (↑p : Int) ∧ (List.take p_2 ls).contains (ls.getD (↑p : Int).toNat []) =
    false → bif decide ((↑p_2 : Int) < (↑p : Int)) then ((0 : Int) ≤ (↑p_2 : Int) ∧ (↑p_2 : Int) < (↑ls.length : Int)) ∧ bif ls.getD (↑p_2 : Int).toNat [] == ls.getD (↑p : Int).toNat [] then
    false = Al.formedB (alOf (nm, ls, sm)) else ((-9223372036854775808 : Int) ≤ (↑p_2 : Int) + (1 : Int) ∧ (↑p_2 : Int) + (1 : Int) ≤ (9223372036854775807 : Int)) ∧ ∃ (p' : Nat), ((↑p' : Int) ≤
    (↑p : Int) ∧ (List.take p' ls).contains (ls.getD (↑p : Int).toNat []) = false) ∧ (↑p : Int).toNat - p' < (↑p : Int).toNat - p_2 ∧ ((↑p_2 : Int) + (1 : Int) = (↑p' : Int) ∧ True ∧ (↑p : Int)
    = (↑p : Int) ∧ ls.getD (↑p : Int).toNat [] = ls.getD (↑p : Int).toNat [] ∧ True) ∧ ((nm = nm ∧ ls = ls ∧ sm = sm ∧ True) ∧ True) ∧ True ∧ True else ((-9223372036854775808 : Int) ≤ (↑p : Int)
    + (1 : Int) ∧ (↑p : Int) + (1 : Int) ≤ (9223372036854775807 : Int)) ∧ ∃ (p' : Nat), (p' ≤ ls.length ∧ (List.take p' ls).all Al.printedB = true ∧ Al.noTwice (List.take p' ls) = true ∧ ∀ (x :
    Int), x ∈ List.take p' sm → (0 : Int) ≤ x ∧ x < (↑ls.length : Int)) ∧ ls.length - p' < ls.length - p ∧ ((↑p : Int) + (1 : Int) = (↑p' : Int) ∧ True ∧ True) ∧ ((nm = nm ∧ ls = ls ∧ sm = sm ∧
    True) ∧ True) ∧ True ∧ True else (∃ (p' : Nat), (p' ≤ sm.length ∧ ∀ (x : Int), x ∈ List.take p' sm → sm.getD x.toNat (0 : Int) = x) ∧ ((0 : Int) = (↑p' : Int) ∧ True ∧ True) ∧ ((nm = nm ∧ ls
    = ls ∧ sm = sm ∧ True) ∧ True) ∧ True ∧ True) ∧ ∀ (p : Nat), (p ≤ sm.length ∧ ∀ (x : Int), x ∈ List.take p sm → sm.getD x.toNat (0 : Int) = x) → bif decide ((↑p : Int) < (↑sm.length : Int))
    then ((0 : Int) ≤ (↑p : Int) ∧ (↑p : Int) < (↑sm.length : Int)) ∧ ((0 : Int) ≤ sm.getD (↑p : Int).toNat (0 : Int) ∧ sm.getD (↑p : Int).toNat (0 : Int) < (↑sm.length : Int)) ∧ ((0 : Int) ≤
    (↑p : Int) ∧ (↑p : Int) < (↑sm.length : Int)) ∧ bif sm.getD (sm.getD (↑p : Int).toNat (0 : Int)).toNat (0 : Int) != sm.getD (↑p : Int).toNat (0 : Int) then false = Al.formedB (alOf (nm, ls,
    sm)) else ((-9223372036854775808 : Int) ≤ (↑p : Int) + (1 : Int) ∧ (↑p : Int) + (1 : Int) ≤ (9223372036854775807 : Int)) ∧ ∃ (p' : Nat), (p' ≤ sm.length ∧ ∀ (x : Int), x ∈ List.take p' sm →
    sm.getD x.toNat (0 : Int) = x) ∧ sm.length - p' < sm.length - p ∧ ((↑p : Int) + (1 : Int) = (↑p' : Int) ∧ True ∧ True) ∧ ((nm = nm ∧ ls = ls ∧ sm = sm ∧ True) ∧ True) ∧ True ∧ True else true
    = Al.formedB (alOf (nm, ls, sm))
    /-CV-/ := by
  obtain ⟨h70, h20, hs70, hn⟩ := h
  have h70 : ls.length ≤ 70 := h70
  have hs70 : sm.length ≤ 70 := hs70
  have hn : nm.length ≤ 100 := hn
  have no : (Lx.nameB nm = false ∨ ls.length < 1 ∨ 64 < ls.length ∨ sm.length ≠ ls.length ∨ (∃ l ∈ ls, Al.printedB l = false) ∨ Al.noTwice ls = false ∨ (∃ k ∈ sm, Al.smallAt ls.length sm k = false)) → false = Al.formedB (alOf (nm, ls, sm)) := fun h => (Al.not_formed (a := alOf (nm, ls, sm)) h).symm
  simp only [true_and, and_true]
  refine ⟨by omega, bifP (fun hb => no (.inl (by simpa using hb))) fun hnm => bifP (fun hb => no (.inr (.inl (by have := of_decide_eq_true hb; omega)))) fun h1 => bifP (fun hb => no (.inr (.inr (.inl (by have := of_decide_eq_true hb; omega))))) fun h64 => bifP (fun hb => no (.inr (.inr (.inr (.inl (by have := bne_iff_ne.1 hb; omega)))))) fun hsl => ?_⟩
  have hsl : sm.length = ls.length := by have := bne_eq_false_iff_eq.1 hsl; omega
  have h1 : ¬ ls.length < 1 := by have := of_decide_eq_false h1; omega
  have h64 : ¬ 64 < ls.length := by have := of_decide_eq_false h64; omega
  have hnm : Lx.nameB nm = true := by simpa using hnm
  refine ⟨⟨0, ⟨Nat.zero_le _, rfl, rfl, by simp⟩, rfl⟩, ?_⟩
  rintro p ⟨hp, hpr, hnt, hrg⟩
  refine bifP (fun hb => ?_) fun hb => ?_
  · have hlt : p < ls.length := by have := of_decide_eq_true hb; omega
    have hmem : ls.getD p [] ∈ ls := by rw [List.getD_eq_getElem?_getD, List.getElem?_eq_getElem hlt]; exact List.getElem_mem hlt
    have hsm : sm.getD p 0 ∈ sm := by rw [List.getD_eq_getElem?_getD, List.getElem?_eq_getElem (by omega)]; exact List.getElem_mem _
    have hgl : ls[p] = ls.getD p [] := by rw [List.getD_eq_getElem?_getD, List.getElem?_eq_getElem hlt]; rfl
    have hgs : sm[p]'(by omega) = sm.getD p 0 := by rw [List.getD_eq_getElem?_getD, List.getElem?_eq_getElem (by omega)]; rfl
    have hl20 : (ls.getD p []).length ≤ 20 := h20 _ hmem
    generalize hL0 : ls.getD ((p : Int).toNat) [] = L
    have hL : ls.getD p [] = L := hL0
    generalize hK0 : sm.getD ((p : Int).toNat) 0 = K
    have hK : sm.getD p 0 = K := hK0
    rw [hL] at hmem hgl hl20
    rw [hK] at hsm hgs
    have noL : Al.printedB L = false → false = Al.formedB (alOf (nm, ls, sm)) := fun h => no (.inr (.inr (.inr (.inr (.inl ⟨L, hmem, h⟩)))))
    have noS : Al.smallAt ls.length sm K = false → false = Al.formedB (alOf (nm, ls, sm)) := fun h => no (.inr (.inr (.inr (.inr (.inr (.inr ⟨K, hsm, h⟩))))))
    refine ⟨⟨by omega, by omega⟩, bifP (fun hb => noL ?_) fun hl1 => bifP (fun hb => noL ?_) fun hl3 => ⟨⟨by omega, by omega⟩, bifP (fun hb => noS ?_) fun hk0 => ⟨⟨by omega, by omega⟩, bifP (fun hb => noS ?_) fun hkn => ⟨⟨0, ⟨Nat.zero_le _, rfl⟩, rfl⟩, ?_⟩⟩⟩⟩
    · have : L.length < 1 := by have := of_decide_eq_true hb; omega
      unfold Al.printedB; rw [decide_eq_false (p := 1 ≤ L.length) (by omega)]; simp
    · have : 3 < L.length := by have := of_decide_eq_true hb; omega
      unfold Al.printedB; rw [decide_eq_false (p := L.length ≤ 3) (by omega)]; simp
    · have : K < 0 := of_decide_eq_true hb
      unfold Al.smallAt; rw [decide_eq_false (p := 0 ≤ K) (by omega)]; rfl
    · have : (ls.length : Int) ≤ K := of_decide_eq_true hb
      unfold Al.smallAt; rw [decide_eq_false (p := K < _) (by omega)]; simp
    have hl1 : ¬ L.length < 1 := by have := of_decide_eq_false hl1; omega
    have hl3 : ¬ 3 < L.length := by have := of_decide_eq_false hl3; omega
    have hk0 : ¬ K < 0 := of_decide_eq_false hk0
    have hkn : ¬ (ls.length : Int) ≤ K := of_decide_eq_false hkn
    rintro j ⟨hj, hob⟩
    refine bifP (fun hb => ?_) fun hb => ?_
    · have hjl : j < L.length := by have := of_decide_eq_true hb; omega
      have hgc : L[j] = L.getD j 0 := by rw [List.getD_eq_getElem?_getD, List.getElem?_eq_getElem hjl]; rfl
      have hcm : L.getD j 0 ∈ L := by rw [← hgc]; exact List.getElem_mem hjl
      have hbyte := okByte_nat (L.getD j 0)
      generalize hC0 : L.getD ((j : Int).toNat) 0 = C
      have hC : L.getD j 0 = C := hC0
      rw [hC] at hgc hcm hbyte
      have noC : Al.okByte C = false → false = Al.formedB (alOf (nm, ls, sm)) := fun h => noL (by
        unfold Al.printedB
        rw [show L.all Al.okByte = false from by
          rw [← Bool.not_eq_true, List.all_eq_true]
          intro ha
          have := ha C hcm
          rw [h] at this; cases this]
        rfl)
      refine ⟨⟨by omega, by omega⟩, bifP (fun hb => noC (by rw [hbyte, hb]; rfl)) fun c1 => ⟨⟨by omega, by omega⟩, bifP (fun hb => noC (by rw [hbyte, c1, hb]; rfl)) fun c2 => ⟨⟨by omega, by omega⟩, bifP (fun hb => noC (by rw [hbyte, c1, c2, hb]; rfl)) fun c3 => ⟨⟨by omega, by omega⟩, j + 1, ⟨hjl, ?_⟩, by omega, by omega⟩⟩⟩⟩
      rw [Al.all_snoc _ _ _ hjl, hob, hgc, hbyte, c1, c2, c3]
      rfl
    · have hjl : ¬ j < L.length := by have := of_decide_eq_false hb; omega
      have hall : L.all Al.okByte = true := by rwa [List.take_of_length_le (by omega)] at hob
      have hprL : Al.printedB L = true := by
        unfold Al.printedB
        rw [hall, decide_eq_true (p := 1 ≤ L.length) (by omega), decide_eq_true (p := L.length ≤ 3) (by omega)]
        rfl
      refine ⟨⟨0, ⟨by omega, rfl⟩, rfl⟩, ?_⟩
      rintro q ⟨hq, hnc⟩
      refine bifP (fun hb => ?_) fun hb => ?_
      · have hqp : q < p := by have := of_decide_eq_true hb; omega
        refine ⟨⟨by omega, by omega⟩, bifP (fun hb => ?_) fun hne => ⟨⟨by omega, by omega⟩, q + 1, ⟨by omega, ?_⟩, by omega, by omega⟩⟩
        · have he : ls.getD q [] = L := beq_iff_eq.1 hb
          refine no (.inr (.inr (.inr (.inr (.inr (.inl ?_))))))
          refine Al.noTwice_dup (k := p) hlt ?_
          rw [List.contains_iff_mem, hgl]
          rw [← he, List.getD_eq_getElem?_getD, List.getElem?_eq_getElem (by omega), Option.getD_some]
          have : (ls.take p)[q]? = some ls[q] := by rw [List.getElem?_take, if_pos hqp, List.getElem?_eq_getElem (by omega)]
          exact List.mem_of_getElem? this
        · have hne : ls.getD q [] ≠ L := beq_eq_false_iff_ne.1 hne
          have hgq : ls[q]'(by omega) = ls.getD q [] := by rw [List.getD_eq_getElem?_getD, List.getElem?_eq_getElem (by omega)]; rfl
          rw [Al.take_snoc ls q (by omega), ← Bool.not_eq_true, List.contains_iff_mem, List.mem_append]
          rintro (hm | hm)
          · rw [← Bool.not_eq_true, List.contains_iff_mem] at hnc
            exact hnc hm
          · exact hne (by rw [← hgq]; exact (List.mem_singleton.1 hm).symm)
      · have hqp : q = p := by have := of_decide_eq_false hb; omega
        subst hqp
        refine ⟨⟨by omega, by omega⟩, q + 1, ⟨hlt, ?_, ?_, ?_⟩, by omega, by omega⟩
        · rw [Al.all_snoc _ _ _ hlt, hpr, hgl, hprL]; rfl
        · rw [Al.take_snoc ls q hlt, Al.noTwice_snoc, hnt, hgl, hnc]; rfl
        · intro x hx
          rw [Al.take_snoc sm q (by omega), List.mem_append] at hx
          rcases hx with hx | hx
          · exact hrg x hx
          · rw [List.mem_singleton.1 hx, hgs]
            exact ⟨by omega, by omega⟩
  · have hpl : p = ls.length := by have := of_decide_eq_false hb; omega
    subst hpl
    rw [List.take_length] at hpr hnt
    rw [List.take_of_length_le (by omega)] at hrg
    refine ⟨⟨0, ⟨Nat.zero_le _, by simp⟩, rfl⟩, ?_⟩
    rintro j ⟨hj, hfix⟩
    refine bifP (fun hb => ?_) fun hb => ?_
    · have hjl : j < sm.length := by have := of_decide_eq_true hb; omega
      have hgs : sm[j] = sm.getD j 0 := by rw [List.getD_eq_getElem?_getD, List.getElem?_eq_getElem hjl]; rfl
      have hsm : sm.getD j 0 ∈ sm := by rw [← hgs]; exact List.getElem_mem hjl
      obtain ⟨r1, r2⟩ := hrg _ hsm
      generalize hK0 : sm.getD ((j : Int).toNat) 0 = K
      have hK : sm.getD j 0 = K := hK0
      rw [hK] at hgs hsm r1 r2
      refine ⟨⟨by omega, by omega⟩, ⟨r1, by omega⟩, ⟨by omega, by omega⟩, bifP (fun hb => ?_) fun hb => ⟨⟨by omega, by omega⟩, j + 1, ⟨hjl, ?_⟩, by omega, by omega⟩⟩
      · have hb : sm.getD K.toNat 0 ≠ K := bne_iff_ne.1 hb
        refine no (.inr (.inr (.inr (.inr (.inr (.inr ⟨K, hsm, ?_⟩))))))
        show (decide (0 ≤ K) && decide (K < (ls.length : Int)) && (sm.getD K.toNat 0 == K)) = false
        rw [beq_eq_false_iff_ne.2 hb, Bool.and_false]
      · have hb : sm.getD K.toNat 0 = K := bne_eq_false_iff_eq.1 hb
        intro x hx
        rw [Al.take_snoc sm j hjl, List.mem_append] at hx
        rcases hx with hx | hx
        · exact hfix x hx
        · rw [List.mem_singleton.1 hx, hgs]; exact hb
    · have hjl : sm.length ≤ j := by have := of_decide_eq_false hb; omega
      rw [List.take_of_length_le hjl] at hfix
      refine (Al.is_formed (a := alOf (nm, ls, sm)) hnm (by show 1 ≤ ls.length; omega) (by show ls.length ≤ 64; omega) hsl hpr hnt ?_).symm
      rw [List.all_eq_true]
      intro x hx
      obtain ⟨r1, r2⟩ := hrg x hx
      show (decide (0 ≤ x) && decide (x < (ls.length : Int)) && (sm.getD x.toNat 0 == x)) = true
      rw [decide_eq_true r1, decide_eq_true r2, beq_iff_eq.2 (hfix x hx)]
      rfl
set_option maxRecDepth 100000 in
theorem formed_holds : cFormed.Holds Tryd.prog := by
  refine holdsF (cons := [cName]) Tryd.func34 (by kernel_rfl) (by kernel_rfl) mixed (by kernel_rfl) (fun c h => by obtain rfl := List.mem_singleton.1 h; exact name_holds) (fun p => anFormed p.1 p.2.1 p.2.2) fun p hp => ?_
  obtain ⟨nm, ls, sm⟩ := p
  refine cast ?_ (formed_vc nm ls sm hp)
  kernel_rfl
end Go.Proofs.YtafbgfdidmepaaaDoor

/-
  follows, Valid: what they return.
-/
import Derived.Test.YtafbgfdidmepaaaDoorRD
set_option linter.unusedVariables false
namespace Go.Proofs.YtafbgfdidmepaaaDoor
open Go.RowKit
open R
set_option maxRecDepth 100000 in
theorem follows_vc (f : Nat) (nm : List UInt8) (ls : List (List UInt8)) (sm : List Int) (s : List UInt8) (h : (cFollows (f + 1)).pre ((nm, ls, sm), s)) :
    /-VC fun (f : Nat) (nm : List UInt8) (ls : List (List UInt8)) (sm : List Int) (s : List UInt8) => vcOf Tryd.prog [cBegins, cFollows f] (anFollows f ls s) (cFollows (f + 1)) Tryd.f36 ((nm, ls, sm), s) -/
    (∃ (p' : Nat), (p' ≤ ls.length ∧ ((List.take p' ls).any fun (l : List UInt8) => s.isPrefixOf l || l.isPrefixOf s && Al.follows ls f (List.drop l.length s)) = false) ∧ ((0 : Int) = (↑p' :
    Int) ∧ s = s ∧ True ∧ True) ∧ ((nm = nm ∧ ls = ls ∧ sm = sm ∧ True) ∧ True) ∧ True ∧ True) ∧ ∀ (p : Nat), p ≤ ls.length ∧ ((List.take p ls).any fun (l : List UInt8) => s.isPrefixOf l ||
    l.isPrefixOf s && Al.follows ls f (List.drop l.length s)) = false → bif decide ((↑p : Int) < (↑ls.length : Int)) then ((0 : Int) ≤ (↑p : Int) ∧ (↑p : Int) < (↑ls.length : Int)) ∧ True ∧ bif
    s.isPrefixOf (ls.getD (↑p : Int).toNat []) then true = Al.follows ls (f + (1 : Nat)) s else ((0 : Int) ≤ (↑p : Int) ∧ (↑p : Int) < (↑ls.length : Int)) ∧ True ∧ bif (ls.getD (↑p : Int).toNat
    []).isPrefixOf s then ((0 : Int) ≤ (↑p : Int) ∧ (↑p : Int) < (↑ls.length : Int)) ∧ ((0 : Int) ≤ (↑(ls.getD (↑p : Int).toNat []).length : Int) ∧ (↑(ls.getD (↑p : Int).toNat []).length : Int)
    ≤ (↑s.length : Int) ∧ (↑s.length : Int) ≤ (↑s.length : Int)) ∧ (FormP (nm, ls, sm) ∧ (List.drop (↑(ls.getD (↑p : Int).toNat []).length : Int).toNat (List.take (↑s.length : Int).toNat
    s)).length < f) ∧ bif Al.follows ls f (List.drop (↑(ls.getD (↑p : Int).toNat []).length : Int).toNat (List.take (↑s.length : Int).toNat s)) then true = Al.follows ls (f + (1 : Nat)) s else
    ((-9223372036854775808 : Int) ≤ (↑p : Int) + (1 : Int) ∧ (↑p : Int) + (1 : Int) ≤ (9223372036854775807 : Int)) ∧ ∃ (p' : Nat), (p' ≤ ls.length ∧ ((List.take p' ls).any fun (l : List UInt8)
    => s.isPrefixOf l || l.isPrefixOf s && Al.follows ls f (List.drop l.length s)) = false) ∧ ls.length - p' < ls.length - p ∧ ((↑p : Int) + (1 : Int) = (↑p' : Int) ∧ s = s ∧ True ∧ True) ∧ ((nm
    = nm ∧ ls = ls ∧ sm = sm ∧ True) ∧ True) ∧ True ∧ True else ((-9223372036854775808 : Int) ≤ (↑p : Int) + (1 : Int) ∧ (↑p : Int) + (1 : Int) ≤ (9223372036854775807 : Int)) ∧ ∃ (p' : Nat), (p'
    ≤ ls.length ∧ ((List.take p' ls).any fun (l : List UInt8) => s.isPrefixOf l || l.isPrefixOf s && Al.follows ls f (List.drop l.length s)) = false) ∧ ls.length - p' < ls.length - p ∧ ((↑p :
    Int) + (1 : Int) = (↑p' : Int) ∧ s = s ∧ True ∧ True) ∧ ((nm = nm ∧ ls = ls ∧ sm = sm ∧ True) ∧ True) ∧ True ∧ True else false = Al.follows ls (f + (1 : Nat)) s
    /-CV-/ := by
  obtain ⟨⟨⟨h70, h20, hs70, hn⟩, hf⟩, hs⟩ := h
  have h70 : ls.length ≤ 70 := h70
  have hs : s.length < f + 1 := hs
  have hlet : ∀ l ∈ ls, 1 ≤ l.length ∧ l.length ≤ 3 := Al.formed_letters hf
  have hfs : Al.follows ls (f + 1) s = ls.any fun l => s.isPrefixOf l || l.isPrefixOf s && Al.follows ls f (List.drop l.length s) := rfl
  simp only [true_and, and_true]
  refine ⟨⟨0, ⟨Nat.zero_le _, rfl⟩, rfl⟩, ?_⟩
  rintro p ⟨hp, hno⟩
  refine bifP (fun hb => ?_) fun hb => ?_
  · have hlt : p < ls.length := by have := of_decide_eq_true hb; omega
    have hmem : ls.getD p [] ∈ ls := by rw [List.getD_eq_getElem?_getD, List.getElem?_eq_getElem hlt]; exact List.getElem_mem hlt
    have hgl : ls[p] = ls.getD p [] := by rw [List.getD_eq_getElem?_getD, List.getElem?_eq_getElem hlt]; rfl
    generalize hL0 : ls.getD ((p : Int).toNat) [] = L
    have hL : ls.getD p [] = L := hL0
    rw [hL] at hmem hgl
    obtain ⟨l1, l3⟩ := hlet L hmem
    have yes : (s.isPrefixOf L || L.isPrefixOf s && Al.follows ls f (List.drop L.length s)) = true → true = Al.follows ls (f + 1) s := fun h => by
      rw [hfs]; exact (List.any_eq_true.2 ⟨L, hmem, h⟩).symm
    have nx : (s.isPrefixOf L || L.isPrefixOf s && Al.follows ls f (List.drop L.length s)) = false → (List.take (p + 1) ls).any (fun l => s.isPrefixOf l || l.isPrefixOf s && Al.follows ls f (List.drop l.length s)) = false := fun h => by
      rw [Al.take_snoc ls p hlt, List.any_append, hno, hgl, Bool.false_or, List.any_cons, h]; rfl
    have htk : List.take ((s.length : Int).toNat) s = s := List.take_length
    have hdl : ((L.length : Int).toNat) = L.length := rfl
    refine ⟨⟨by omega, by omega⟩, bifP (fun h1 => yes (by rw [h1]; rfl)) fun h1 => ⟨⟨by omega, by omega⟩, bifP (fun h2 => ?_) fun h2 => ⟨⟨by omega, by omega⟩, p + 1, ⟨hlt, nx (by rw [h1, h2]; rfl)⟩, by omega, by omega⟩⟩⟩
    have hle : L.length ≤ s.length := (List.isPrefixOf_iff_prefix.1 h2).length_le
    rw [htk, hdl]
    refine ⟨⟨by omega, by omega⟩, ⟨by omega, by omega, by omega⟩, ⟨⟨⟨h70, h20, hs70, hn⟩, hf⟩, by rw [List.length_drop]; omega⟩, bifP (fun h3 => yes (by rw [h1, h2, h3]; rfl)) fun h3 => ⟨⟨by omega, by omega⟩, p + 1, ⟨hlt, nx (by rw [h1, h2, h3]; rfl)⟩, by omega, by omega⟩⟩
  · have hpl : p = ls.length := by have := of_decide_eq_false hb; omega
    subst hpl
    rw [List.take_length] at hno
    rw [hfs]; exact hno.symm
set_option maxRecDepth 100000 in
theorem follows_holds (f : Nat) : (cFollows f).Holds Tryd.prog := by
  induction f with
  | zero =>
    refine holdsF (cons := []) Tryd.func36 (by kernel_rfl) (by kernel_rfl) mixed (by kernel_rfl) (fun c h => by cases h) (fun p => []) fun p hp => ?_
    exact absurd hp.2 (Nat.not_lt_zero _)
  | succ f ih =>
    refine holdsF (cons := [cBegins, cFollows f]) Tryd.func36 (by kernel_rfl) (by kernel_rfl) mixed (by kernel_rfl) (fun c h => by
      rcases List.mem_cons.1 h with rfl | h
      · exact begins_holds
      · obtain rfl := List.mem_singleton.1 h; exact ih) (fun p => anFollows f p.1.2.1 p.2) fun p hp => ?_
    obtain ⟨⟨nm, ls, sm⟩, s⟩ := p
    refine cast ?_ (follows_vc f nm ls sm s hp)
    kernel_rfl
set_option maxRecDepth 100000 in
theorem valid_vc (nm : List UInt8) (ls : List (List UInt8)) (sm : List Int) (h : cValid.pre (nm, ls, sm)) :
    /-VC fun (nm : List UInt8) (ls : List (List UInt8)) (sm : List Int) => vcOf Tryd.prog [cFormed, cBegins, cFollows 4] (anValid ls) cValid Tryd.f20 (nm, ls, sm) -/
    FewP (nm, ls, sm) ∧ bif !Al.formedB (alOf (nm, ls, sm)) then false = Al.validB (alOf (nm, ls, sm)) else (∃ (p' : Nat), (p' ≤ ls.length ∧ ∀ (i' : Nat), i' < p' → ∀ (k : Nat), k < ls.length →
    Al.refClash ls i' k = false) ∧ ((0 : Int) = (↑p' : Int) ∧ True ∧ True) ∧ ((nm = nm ∧ ls = ls ∧ sm = sm ∧ True) ∧ True) ∧ True ∧ True) ∧ ∀ (p : Nat), (p ≤ ls.length ∧ ∀ (i' : Nat), i' < p → ∀
    (k : Nat), k < ls.length → Al.refClash ls i' k = false) → bif decide ((↑p : Int) < (↑ls.length : Int)) then (∃ (p' : Nat), (p' ≤ ls.length ∧ ∀ (k' : Nat), k' < p' → Al.refClash ls (↑p :
    Int).toNat k' = false) ∧ ((0 : Int) = (↑p' : Int) ∧ True ∧ (↑p : Int) = (↑p : Int) ∧ True) ∧ ((nm = nm ∧ ls = ls ∧ sm = sm ∧ True) ∧ True) ∧ True ∧ True) ∧ ∀ (p_1 : Nat), (p_1 ≤ ls.length ∧
    ∀ (k' : Nat), k' < p_1 → Al.refClash ls (↑p : Int).toNat k' = false) → bif decide ((↑p_1 : Int) < (↑ls.length : Int)) then ((0 : Int) ≤ (↑p : Int) ∧ (↑p : Int) < (↑ls.length : Int)) ∧ ((0 :
    Int) ≤ (↑p_1 : Int) ∧ (↑p_1 : Int) < (↑ls.length : Int)) ∧ bif (↑p : Int) != (↑p_1 : Int) then True ∧ bif (ls.getD (↑p_1 : Int).toNat []).isPrefixOf (ls.getD (↑p : Int).toNat []) then ((0 :
    Int) ≤ (↑(ls.getD (↑p_1 : Int).toNat []).length : Int) ∧ (↑(ls.getD (↑p_1 : Int).toNat []).length : Int) ≤ (↑(ls.getD (↑p : Int).toNat []).length : Int) ∧ (↑(ls.getD (↑p : Int).toNat
    []).length : Int) ≤ (↑(ls.getD (↑p : Int).toNat []).length : Int)) ∧ (FormP (nm, ls, sm) ∧ (List.drop (↑(ls.getD (↑p_1 : Int).toNat []).length : Int).toNat (List.take (↑(ls.getD (↑p :
    Int).toNat []).length : Int).toNat (ls.getD (↑p : Int).toNat []))).length < (4 : Nat)) ∧ bif Al.follows ls (4 : Nat) (List.drop (↑(ls.getD (↑p_1 : Int).toNat []).length : Int).toNat
    (List.take (↑(ls.getD (↑p : Int).toNat []).length : Int).toNat (ls.getD (↑p : Int).toNat []))) then false = Al.validB (alOf (nm, ls, sm)) else ((-9223372036854775808 : Int) ≤ (↑p_1 : Int) +
    (1 : Int) ∧ (↑p_1 : Int) + (1 : Int) ≤ (9223372036854775807 : Int)) ∧ ∃ (p' : Nat), (p' ≤ ls.length ∧ ∀ (k' : Nat), k' < p' → Al.refClash ls (↑p : Int).toNat k' = false) ∧ ls.length - p' <
    ls.length - p_1 ∧ ((↑p_1 : Int) + (1 : Int) = (↑p' : Int) ∧ True ∧ (↑p : Int) = (↑p : Int) ∧ True) ∧ ((nm = nm ∧ ls = ls ∧ sm = sm ∧ True) ∧ True) ∧ True ∧ True else ((-9223372036854775808 :
    Int) ≤ (↑p_1 : Int) + (1 : Int) ∧ (↑p_1 : Int) + (1 : Int) ≤ (9223372036854775807 : Int)) ∧ ∃ (p' : Nat), (p' ≤ ls.length ∧ ∀ (k' : Nat), k' < p' → Al.refClash ls (↑p : Int).toNat k' =
    false) ∧ ls.length - p' < ls.length - p_1 ∧ ((↑p_1 : Int) + (1 : Int) = (↑p' : Int) ∧ True ∧ (↑p : Int) = (↑p : Int) ∧ True) ∧ ((nm = nm ∧ ls = ls ∧ sm = sm ∧ True) ∧ True) ∧ True ∧ True
    else ((-9223372036854775808 : Int) ≤ (↑p_1 : Int) + (1 : Int) ∧ (↑p_1 : Int) + (1 : Int) ≤ (9223372036854775807 : Int)) ∧ ∃ (p' : Nat), (p' ≤ ls.length ∧ ∀ (k' : Nat), k' < p' → Al.refClash
    ls (↑p : Int).toNat k' = false) ∧ ls.length - p' < ls.length - p_1 ∧ ((↑p_1 : Int) + (1 : Int) = (↑p' : Int) ∧ True ∧ (↑p : Int) = (↑p : Int) ∧ True) ∧ ((nm = nm ∧ ls = ls ∧ sm = sm ∧ True)
    ∧ True) ∧ True ∧ True else ((-9223372036854775808 : Int) ≤ (↑p : Int) + (1 : Int) ∧ (↑p : Int) + (1 : Int) ≤ (9223372036854775807 : Int)) ∧ ∃ (p' : Nat), (p' ≤ ls.length ∧ ∀ (i' : Nat), i' <
    p' → ∀ (k : Nat), k < ls.length → Al.refClash ls i' k = false) ∧ ls.length - p' < ls.length - p ∧ ((↑p : Int) + (1 : Int) = (↑p' : Int) ∧ True ∧ True) ∧ ((nm = nm ∧ ls = ls ∧ sm = sm ∧ True)
    ∧ True) ∧ True ∧ True else true = Al.validB (alOf (nm, ls, sm))
    /-CV-/ := by
  obtain ⟨h70, h20, hs70, hn⟩ := h
  have h70 : ls.length ≤ 70 := h70
  simp only [true_and, and_true]
  refine ⟨⟨h70, h20, hs70, hn⟩, bifP (fun hb => ?_) fun hfo => ?_⟩
  · have hb : Al.formedB (alOf (nm, ls, sm)) = false := by simpa using hb
    unfold Al.validB; rw [hb]; rfl
  have hfo : Al.formedB (alOf (nm, ls, sm)) = true := by simpa using hfo
  have hlet : ∀ l ∈ ls, 1 ≤ l.length ∧ l.length ≤ 3 := Al.formed_letters hfo
  have hvr : Al.validB (alOf (nm, ls, sm)) = !((List.range ls.length).any fun i => (List.range ls.length).any fun k => Al.refClash ls i k) := Al.valid_ref hfo
  refine ⟨⟨0, ⟨Nat.zero_le _, fun i' h => by omega⟩, rfl⟩, ?_⟩
  rintro i ⟨hi, hall⟩
  refine bifP (fun hb => ?_) fun hb => ?_
  · have hil : i < ls.length := by have := of_decide_eq_true hb; omega
    refine ⟨⟨0, ⟨Nat.zero_le _, fun i' h => by omega⟩, rfl⟩, ?_⟩
    rintro k ⟨hk, hrow⟩
    refine bifP (fun hb => ?_) fun hb => ?_
    · have hkl : k < ls.length := by have := of_decide_eq_true hb; omega
      have nx : Al.refClash ls i k = false → ∀ k' : Nat, k' < k + 1 → Al.refClash ls i k' = false := fun h k' hk' => by
        rcases Nat.lt_or_ge k' k with h' | h'
        · exact hrow k' h'
        · rw [show k' = k from by omega]; exact h
      have hIm : ls.getD i [] ∈ ls := by rw [List.getD_eq_getElem?_getD, List.getElem?_eq_getElem hil]; exact List.getElem_mem hil
      have hKm : ls.getD k [] ∈ ls := by rw [List.getD_eq_getElem?_getD, List.getElem?_eq_getElem hkl]; exact List.getElem_mem hkl
      have hrc : Al.refClash ls i k = (decide (i ≠ k) && ((ls.getD k []).isPrefixOf (ls.getD i []) && Al.follows ls 4 (List.drop (ls.getD k []).length (ls.getD i [])))) := rfl
      generalize hI0 : ls.getD ((i : Int).toNat) [] = I
      generalize hK0 : ls.getD ((k : Int).toNat) [] = K
      have hI : ls.getD i [] = I := hI0
      have hK : ls.getD k [] = K := hK0
      rw [hI] at hIm hrc
      rw [hK] at hKm hrc
      obtain ⟨i1, i3⟩ := hlet I hIm
      obtain ⟨k1, k3⟩ := hlet K hKm
      have htk : List.take ((I.length : Int).toNat) I = I := List.take_length
      have hdl : ((K.length : Int).toNat) = K.length := rfl
      refine ⟨⟨by omega, by omega⟩, ⟨by omega, by omega⟩, bifP (fun hne => ?_) fun he => ⟨⟨by omega, by omega⟩, k + 1, ⟨hkl, nx ?_⟩, by omega, by omega⟩⟩
      · have hne : i ≠ k := by have := bne_iff_ne.1 hne; omega
        refine bifP (fun h2 => ?_) fun h2 => ⟨⟨by omega, by omega⟩, k + 1, ⟨hkl, nx (by rw [hrc, h2, Bool.false_and, Bool.and_false])⟩, by omega, by omega⟩
        have hle : K.length ≤ I.length := (List.isPrefixOf_iff_prefix.1 h2).length_le
        rw [htk, hdl]
        refine ⟨⟨by omega, by omega, by omega⟩, ⟨⟨⟨h70, h20, hs70, hn⟩, hfo⟩, by rw [List.length_drop]; omega⟩, bifP (fun h3 => ?_) fun h3 => ⟨⟨by omega, by omega⟩, k + 1, ⟨hkl, nx (by rw [hrc, h2, h3, Bool.and_false, Bool.and_false])⟩, by omega, by omega⟩⟩
        rw [hvr]
        have : Al.refClash ls i k = true := by rw [hrc, h2, h3, decide_eq_true hne]; rfl
        rw [List.any_eq_true.2 ⟨i, List.mem_range.2 hil, List.any_eq_true.2 ⟨k, List.mem_range.2 hkl, this⟩⟩]
        rfl
      · have he : i = k := by have := bne_eq_false_iff_eq.1 he; omega
        rw [hrc, decide_eq_false (p := i ≠ k) (by omega), Bool.false_and]
    · have hkl : k = ls.length := by have := of_decide_eq_false hb; omega
      subst hkl
      refine ⟨⟨by omega, by omega⟩, i + 1, ⟨hil, fun i' hi' => ?_⟩, by omega, by omega⟩
      rcases Nat.lt_or_ge i' i with h' | h'
      · exact hall i' h'
      · rw [show i' = i from by omega]; exact hrow
  · have hpl : i = ls.length := by have := of_decide_eq_false hb; omega
    subst hpl
    rw [hvr]
    have : ((List.range ls.length).any fun i => (List.range ls.length).any fun k => Al.refClash ls i k) = false := by
      rw [← Bool.not_eq_true, List.any_eq_true]
      rintro ⟨a, ha, h⟩
      obtain ⟨b, hb, h⟩ := List.any_eq_true.1 h
      rw [hall a (List.mem_range.1 ha) b (List.mem_range.1 hb)] at h
      cases h
    rw [this]; rfl
set_option maxRecDepth 100000 in
theorem valid_holds : cValid.Holds Tryd.prog := by
  refine holdsF (cons := [cFormed, cBegins, cFollows 4]) Tryd.func20 (by kernel_rfl) (by kernel_rfl) mixed (by kernel_rfl) (fun c h => by
    rcases List.mem_cons.1 h with rfl | h
    · exact formed_holds
    rcases List.mem_cons.1 h with rfl | h
    · exact begins_holds
    · obtain rfl := List.mem_singleton.1 h; exact follows_holds 4) (fun p => anValid p.2.1) fun p hp => ?_
  obtain ⟨nm, ls, sm⟩ := p
  refine cast ?_ (valid_vc nm ls sm hp)
  kernel_rfl
end Go.Proofs.YtafbgfdidmepaaaDoor

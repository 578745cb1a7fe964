/-
  Read, Join, Fold: what they return.
-/
import Derived.Test.YtafbgfdidmepaaaDoorRH
set_option linter.unusedVariables false
namespace Go.Proofs.YtafbgfdidmepaaaDoor
open Go.RowKit
open R
set_option maxRecDepth 100000 in
theorem read_vc (nm : List UInt8) (ls : List (List UInt8)) (sm : List Int) (s : List UInt8) (h : cRead.pre ((nm, ls, sm), s)) :
    /-VC fun (nm : List UInt8) (ls : List (List UInt8)) (sm : List Int) (s : List UInt8) => vcOf Tryd.prog [cValid, cLetters] [] cRead Tryd.f14 ((nm, ls, sm), s) -/
    FewP (nm, ls, sm) ∧ bif !Al.validB (alOf (nm, ls, sm)) then ([], (1 : Int), (0 : Int)) = Al.readB (alOf (nm, ls, sm)) s else (FormP (nm, ls, sm) ∧ s.length ≤ (1000000 : Nat)) ∧ ((Al.readL ls
    s).fst, (Al.readL ls s).snd.fst, (Al.readL ls s).snd.snd) = Al.readB (alOf (nm, ls, sm)) s
    /-CV-/ := by
  obtain ⟨hfew, hs⟩ := h
  have hs : s.length ≤ 1000000 := hs
  refine ⟨hfew, bifP (fun hb => ?_) fun hv => ?_⟩
  · have hb : Al.validB (alOf (nm, ls, sm)) = false := by simpa using hb
    unfold Al.readB; rw [hb]; rfl
  have hv : Al.validB (alOf (nm, ls, sm)) = true := by simpa using hv
  exact ⟨⟨⟨hfew, Al.valid_formed hv⟩, hs⟩, by unfold Al.readB; rw [hv]; rfl⟩
set_option maxRecDepth 100000 in
theorem read_holds : cRead.Holds Tryd.prog := by
  refine holdsF (cons := [cValid, cLetters]) Tryd.func14 (by kernel_rfl) (by kernel_rfl) mixed (by kernel_rfl) (fun c h => by
    rcases List.mem_cons.1 h with rfl | h
    · exact valid_holds
    · obtain rfl := List.mem_singleton.1 h; exact letters_holds) (fun p => []) fun p hp => ?_
  obtain ⟨⟨nm, ls, sm⟩, s⟩ := p
  refine cast ?_ (read_vc nm ls sm s hp)
  kernel_rfl
set_option maxRecDepth 100000 in
theorem join_vc (nm : List UInt8) (ls : List (List UInt8)) (sm : List Int) (ks : List Int) (h : cJoin.pre ((nm, ls, sm), ks)) :
    /-VC fun (nm : List UInt8) (ls : List (List UInt8)) (sm : List Int) (ks : List Int) => vcOf Tryd.prog [cValid] (anJoin ls ks) cJoin Tryd.f16 ((nm, ls, sm), ks) -/
    FewP (nm, ls, sm) ∧ bif !Al.validB (alOf (nm, ls, sm)) then ([], (1 : Int)) = Al.joinB (alOf (nm, ls, sm)) ks else bif decide ((↑ks.length : Int) < (1 : Int)) then ([], (1 : Int)) = Al.joinB
    (alOf (nm, ls, sm)) ks else bif decide ((24 : Int) < (↑ks.length : Int)) then ([], (1 : Int)) = Al.joinB (alOf (nm, ls, sm)) ks else (∃ (p' : Nat), (p' ≤ ks.length ∧ Al.inRange ls.length
    (List.take p' ks) = true) ∧ ([] = Al.joinL ls (List.take p' ks) ∧ (0 : Int) = (↑p' : Int) ∧ ks = ks ∧ True ∧ True) ∧ ((nm = nm ∧ ls = ls ∧ sm = sm ∧ True) ∧ True) ∧ True ∧ True) ∧ ∀ (p :
    Nat), p ≤ ks.length ∧ Al.inRange ls.length (List.take p ks) = true → bif decide ((↑p : Int) < (↑ks.length : Int)) then ((0 : Int) ≤ (↑p : Int) ∧ (↑p : Int) < (↑ks.length : Int)) ∧ bif decide
    (ks.getD (↑p : Int).toNat (0 : Int) < (0 : Int)) then ([], (1 : Int)) = Al.joinB (alOf (nm, ls, sm)) ks else ((0 : Int) ≤ (↑p : Int) ∧ (↑p : Int) < (↑ks.length : Int)) ∧ bif decide
    ((↑ls.length : Int) ≤ ks.getD (↑p : Int).toNat (0 : Int)) then ([], (1 : Int)) = Al.joinB (alOf (nm, ls, sm)) ks else ((0 : Int) ≤ (↑p : Int) ∧ (↑p : Int) < (↑ks.length : Int)) ∧ ((0 : Int)
    ≤ ks.getD (↑p : Int).toNat (0 : Int) ∧ ks.getD (↑p : Int).toNat (0 : Int) < (↑ls.length : Int)) ∧ (Al.joinL ls (List.take p ks)).length + (ls.getD (ks.getD (↑p : Int).toNat (0 : Int)).toNat
    []).length ≤ (9223372036854775807 : Nat) ∧ ((-9223372036854775808 : Int) ≤ (↑p : Int) + (1 : Int) ∧ (↑p : Int) + (1 : Int) ≤ (9223372036854775807 : Int)) ∧ ∃ (p' : Nat), (p' ≤ ks.length ∧
    Al.inRange ls.length (List.take p' ks) = true) ∧ ks.length - p' < ks.length - p ∧ (Al.joinL ls (List.take p ks) ++ ls.getD (ks.getD (↑p : Int).toNat (0 : Int)).toNat [] = Al.joinL ls
    (List.take p' ks) ∧ (↑p : Int) + (1 : Int) = (↑p' : Int) ∧ ks = ks ∧ True ∧ True) ∧ ((nm = nm ∧ ls = ls ∧ sm = sm ∧ True) ∧ True) ∧ True ∧ True else (Al.joinL ls (List.take p ks), (0 : Int))
    = Al.joinB (alOf (nm, ls, sm)) ks
    /-CV-/ := by
  obtain ⟨hfew, hs⟩ := h
  have hs : ks.length ≤ 1000000 := hs
  have h20 : ∀ l ∈ ls, l.length ≤ 20 := hfew.2.1
  have no : (Al.validB (alOf (nm, ls, sm)) = false ∨ ks.length < 1 ∨ 24 < ks.length ∨ Al.inRange ls.length ks = false) → ([], (1 : Int)) = Al.joinB (alOf (nm, ls, sm)) ks := fun h => (Al.join_no (a := alOf (nm, ls, sm)) h).symm
  simp only [true_and, and_true]
  refine ⟨hfew, bifP (fun hb => no (.inl (by simpa using hb))) fun hv => bifP (fun hb => no (.inr (.inl (by have := of_decide_eq_true hb; omega)))) fun h1 => bifP (fun hb => no (.inr (.inr (.inl (by have := of_decide_eq_true hb; omega))))) fun h24 => ?_⟩
  have hv : Al.validB (alOf (nm, ls, sm)) = true := by simpa using hv
  have h1 : ¬ ks.length < 1 := by have := of_decide_eq_false h1; omega
  have h24 : ¬ 24 < ks.length := by have := of_decide_eq_false h24; omega
  refine ⟨⟨0, ⟨Nat.zero_le _, rfl⟩, rfl, rfl⟩, ?_⟩
  rintro p ⟨hp, hr⟩
  refine bifP (fun hb => ?_) fun hb => ?_
  · have hlt : p < ks.length := by have := of_decide_eq_true hb; omega
    have hmem : ks.getD p 0 ∈ ks := by rw [List.getD_eq_getElem?_getD, List.getElem?_eq_getElem hlt]; exact List.getElem_mem hlt
    have hg : ks[p] = ks.getD p 0 := by rw [List.getD_eq_getElem?_getD, List.getElem?_eq_getElem hlt]; rfl
    generalize hK0 : ks.getD ((p : Int).toNat) 0 = K
    have hK : ks.getD p 0 = K := hK0
    rw [hK] at hmem hg
    refine ⟨⟨by omega, by omega⟩, bifP (fun hb => no (.inr (.inr (.inr (Al.inRange_no hmem (by have := of_decide_eq_true hb; omega)))))) fun k0 => ⟨⟨by omega, by omega⟩, bifP (fun hb => no (.inr (.inr (.inr (Al.inRange_no hmem (by have := of_decide_eq_true hb; omega)))))) fun k1 => ?_⟩⟩
    have k0 : ¬ K < 0 := of_decide_eq_false k0
    have k1 : ¬ (ls.length : Int) ≤ K := of_decide_eq_false k1
    have hll : (ls.getD K.toNat []).length ≤ 20 := by
      rw [List.getD_eq_getElem?_getD, List.getElem?_eq_getElem (by omega)]; exact h20 _ (List.getElem_mem _)
    have hjl := Al.joinL_le h20 (ks.take p)
    rw [List.length_take] at hjl
    refine ⟨⟨by omega, by omega⟩, ⟨by omega, by omega⟩, by omega, ⟨by omega, by omega⟩, p + 1, ⟨hlt, ?_⟩, by omega, ?_, by omega⟩
    · rw [Al.take_snoc ks p hlt, Al.inRange_snoc, hr, hg, decide_eq_true (p := 0 ≤ K) (by omega), decide_eq_true (p := K < _) (by omega)]; rfl
    · rw [Al.take_snoc ks p hlt, Al.joinL_snoc, hg]; rfl
  · have hpl : p = ks.length := by have := of_decide_eq_false hb; omega
    subst hpl
    rw [List.take_length] at hr ⊢
    exact (Al.join_yes (a := alOf (nm, ls, sm)) hv (by omega) (by omega) hr).symm
set_option maxRecDepth 100000 in
theorem join_holds : cJoin.Holds Tryd.prog := by
  refine holdsF (cons := [cValid]) Tryd.func16 (by kernel_rfl) (by kernel_rfl) mixed (by kernel_rfl) (fun c h => by obtain rfl := List.mem_singleton.1 h; exact valid_holds) (fun p => anJoin p.1.2.1 p.2) fun p hp => ?_
  obtain ⟨⟨nm, ls, sm⟩, ks⟩ := p
  refine cast ?_ (join_vc nm ls sm ks hp)
  kernel_rfl
set_option maxRecDepth 100000 in
theorem fold_vc (nm : List UInt8) (ls : List (List UInt8)) (sm : List Int) (s : List UInt8) (h : cFold.pre ((nm, ls, sm), s)) :
    /-VC fun (nm : List UInt8) (ls : List (List UInt8)) (sm : List Int) (s : List UInt8) => vcOf Tryd.prog [cRead] (anFold ls sm (Al.readB (alOf (nm, ls, sm)) s).1) cFold Tryd.f18 ((nm, ls, sm), s) -/
    (FewP (nm, ls, sm) ∧ s.length ≤ (1000000 : Nat)) ∧ bif (Al.readB (alOf (nm, ls, sm)) s).snd.fst != (0 : Int) then ([], (1 : Int)) = Al.foldB (alOf (nm, ls, sm)) s else (∃ (p' : Nat), p' ≤
    (Al.readB (alOf (nm, ls, sm)) s).fst.length ∧ ([] = Al.joinL ls (List.map (fun (k : Int) => sm.getD k.toNat (0 : Int)) (List.take p' (Al.readB (alOf (nm, ls, sm)) s).fst)) ∧ (0 : Int) = (↑p'
    : Int) ∧ s = s ∧ True ∧ (Al.readB (alOf (nm, ls, sm)) s).fst = (Al.readB (alOf (nm, ls, sm)) s).fst ∧ True) ∧ ((nm = nm ∧ ls = ls ∧ sm = sm ∧ True) ∧ True) ∧ True ∧ True) ∧ ∀ (p : Nat), p ≤
    (Al.readB (alOf (nm, ls, sm)) s).fst.length → bif decide ((↑p : Int) < (↑(Al.readB (alOf (nm, ls, sm)) s).fst.length : Int)) then ((0 : Int) ≤ (↑p : Int) ∧ (↑p : Int) < (↑(Al.readB (alOf
    (nm, ls, sm)) s).fst.length : Int)) ∧ ((0 : Int) ≤ (Al.readB (alOf (nm, ls, sm)) s).fst.getD (↑p : Int).toNat (0 : Int) ∧ (Al.readB (alOf (nm, ls, sm)) s).fst.getD (↑p : Int).toNat (0 : Int)
    < (↑sm.length : Int)) ∧ ((0 : Int) ≤ sm.getD ((Al.readB (alOf (nm, ls, sm)) s).fst.getD (↑p : Int).toNat (0 : Int)).toNat (0 : Int) ∧ sm.getD ((Al.readB (alOf (nm, ls, sm)) s).fst.getD (↑p :
    Int).toNat (0 : Int)).toNat (0 : Int) < (↑ls.length : Int)) ∧ (Al.joinL ls (List.map (fun (k : Int) => sm.getD k.toNat (0 : Int)) (List.take p (Al.readB (alOf (nm, ls, sm)) s).fst))).length
    + (ls.getD (sm.getD ((Al.readB (alOf (nm, ls, sm)) s).fst.getD (↑p : Int).toNat (0 : Int)).toNat (0 : Int)).toNat []).length ≤ (9223372036854775807 : Nat) ∧ ((-9223372036854775808 : Int) ≤
    (↑p : Int) + (1 : Int) ∧ (↑p : Int) + (1 : Int) ≤ (9223372036854775807 : Int)) ∧ ∃ (p' : Nat), p' ≤ (Al.readB (alOf (nm, ls, sm)) s).fst.length ∧ (Al.readB (alOf (nm, ls, sm)) s).fst.length
    - p' < (Al.readB (alOf (nm, ls, sm)) s).fst.length - p ∧ (Al.joinL ls (List.map (fun (k : Int) => sm.getD k.toNat (0 : Int)) (List.take p (Al.readB (alOf (nm, ls, sm)) s).fst)) ++ ls.getD
    (sm.getD ((Al.readB (alOf (nm, ls, sm)) s).fst.getD (↑p : Int).toNat (0 : Int)).toNat (0 : Int)).toNat [] = Al.joinL ls (List.map (fun (k : Int) => sm.getD k.toNat (0 : Int)) (List.take p'
    (Al.readB (alOf (nm, ls, sm)) s).fst)) ∧ (↑p : Int) + (1 : Int) = (↑p' : Int) ∧ s = s ∧ True ∧ (Al.readB (alOf (nm, ls, sm)) s).fst = (Al.readB (alOf (nm, ls, sm)) s).fst ∧ True) ∧ ((nm = nm
    ∧ ls = ls ∧ sm = sm ∧ True) ∧ True) ∧ True ∧ True else (Al.joinL ls (List.map (fun (k : Int) => sm.getD k.toNat (0 : Int)) (List.take p (Al.readB (alOf (nm, ls, sm)) s).fst)), (0 : Int)) =
    Al.foldB (alOf (nm, ls, sm)) s
    /-CV-/ := by
  obtain ⟨hfew, hs⟩ := h
  have hs : s.length ≤ 1000000 := hs
  have h20 : ∀ l ∈ ls, l.length ≤ 20 := hfew.2.1
  simp only [true_and, and_true]
  refine ⟨⟨hfew, hs⟩, bifP (fun hb => ?_) fun he => ?_⟩
  · have hb : (Al.readB (alOf (nm, ls, sm)) s).2.1 ≠ 0 := bne_iff_ne.1 hb
    exact (Al.folds_none hb).symm
  have he : (Al.readB (alOf (nm, ls, sm)) s).2.1 = 0 := bne_eq_false_iff_eq.1 he
  obtain ⟨hv, _, _, _, hr, hne, hl24⟩ := Al.read_ok he
  have hfo := Al.valid_formed hv
  have hfb : Al.foldB (alOf (nm, ls, sm)) s = Al.joinB (alOf (nm, ls, sm)) ((Al.readB (alOf (nm, ls, sm)) s).1.map fun k => sm.getD k.toNat 0) := by unfold Al.foldB; rw [if_pos he]; rfl
  obtain ⟨hsr, _⟩ := Al.small_range hfo hr
  have hsl : sm.length = ls.length := (Al.formed_small hfo).1
  rw [hfb]
  generalize (Al.readB (alOf (nm, ls, sm)) s).1 = ks at *
  have hne : 1 ≤ ks.length := by cases ks with
    | nil => exact absurd rfl hne
    | cons a r => exact Nat.succ_le_succ (Nat.zero_le _)
  have hr : Al.inRange ls.length ks = true := hr
  have hsr : Al.inRange ls.length (ks.map fun k => sm.getD k.toNat 0) = true := hsr
  refine ⟨⟨0, Nat.zero_le _, rfl, rfl⟩, fun p hp => ?_⟩
  refine bifP (fun hb => ?_) fun hb => ?_
  · have hlt : p < ks.length := by have := of_decide_eq_true hb; omega
    have hmem : ks.getD p 0 ∈ ks := by rw [List.getD_eq_getElem?_getD, List.getElem?_eq_getElem hlt]; exact List.getElem_mem hlt
    have hg : ks[p] = ks.getD p 0 := by rw [List.getD_eq_getElem?_getD, List.getElem?_eq_getElem hlt]; rfl
    generalize hK0 : ks.getD ((p : Int).toNat) 0 = K
    have hK : ks.getD p 0 = K := hK0
    rw [hK] at hmem hg
    obtain ⟨k0, k1⟩ := Al.inRange_mem hr K hmem
    obtain ⟨s0, s1⟩ := Al.inRange_mem hsr (sm.getD K.toNat 0) (List.mem_map_of_mem hmem)
    generalize hS : sm.getD K.toNat 0 = S at *
    have hll : (ls.getD S.toNat []).length ≤ 20 := by
      rw [List.getD_eq_getElem?_getD, List.getElem?_eq_getElem (by omega)]; exact h20 _ (List.getElem_mem _)
    have hjl := Al.joinL_le h20 ((ks.take p).map fun k => sm.getD k.toNat 0)
    rw [List.length_map, List.length_take] at hjl
    refine ⟨⟨by omega, by omega⟩, ⟨by omega, by omega⟩, ⟨by omega, by omega⟩, by omega, ⟨by omega, by omega⟩, p + 1, hlt, by omega, ?_, by omega⟩
    rw [Al.take_snoc ks p hlt, List.map_append, List.map_cons, List.map_nil, Al.joinL_snoc, hg, hS]; rfl
  · have hpl : p = ks.length := by have := of_decide_eq_false hb; omega
    subst hpl
    rw [List.take_length]
    exact (Al.join_yes (a := alOf (nm, ls, sm)) hv (by rw [List.length_map]; exact hne) (by rw [List.length_map]; omega) hsr).symm
set_option maxRecDepth 100000 in
theorem fold_holds : cFold.Holds Tryd.prog := by
  refine holdsF (cons := [cRead]) Tryd.func18 (by kernel_rfl) (by kernel_rfl) mixed (by kernel_rfl) (fun c h => by obtain rfl := List.mem_singleton.1 h; exact read_holds) (fun p => anFold p.1.2.1 p.1.2.2 (Al.readB (alOf p.1) p.2).1) fun p hp => ?_
  obtain ⟨⟨nm, ls, sm⟩, s⟩ := p
  refine cast ?_ (fold_vc nm ls sm s hp)
  kernel_rfl
end Go.Proofs.YtafbgfdidmepaaaDoor

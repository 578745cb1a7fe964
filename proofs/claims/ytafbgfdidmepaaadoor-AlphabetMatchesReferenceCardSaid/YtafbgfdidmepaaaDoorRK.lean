/-
  AlphabetMatchesReference: what it returns.
-/
import Derived.Test.YtafbgfdidmepaaaDoorRJ
set_option linter.unusedVariables false
namespace Go.Proofs.YtafbgfdidmepaaaDoor
open Go.RowKit
open R
theorem Al.collect_len : ∀ (l : List (Nat × Int)) (out : List Int), out.length ≤ 24 → (Al.collect out l).1.length ≤ 24 := by
  intro l
  induction l with
  | nil => intro out h; exact h
  | cons x r ih =>
    intro out h
    obtain ⟨i, k⟩ := x
    show (if k < 0 then (([], 3, (i : Int)) : List Int × Int × Int) else if out.length = 24 then ([], 2, (i : Int)) else Al.collect (out ++ [k]) r).1.length ≤ 24
    split
    · exact Nat.zero_le _
    · split
      · exact Nat.zero_le _
      · refine ih _ ?_
        rw [List.length_append]
        show out.length + 1 ≤ 24
        omega
theorem Al.readB_len (a : Al.Alph) (s : List UInt8) : (Al.readB a s).1.length ≤ 24 := by
  unfold Al.readB
  split
  · unfold Al.readL
    split
    · exact Nat.zero_le _
    · exact Al.collect_len _ _ (Nat.zero_le _)
  · exact Nat.zero_le _
set_option maxRecDepth 100000 in
theorem lawref_vc (nm : List UInt8) (ls : List (List UInt8)) (sm : List Int) (s : List UInt8) (ks : List Int) (h : cLawRef.pre ((nm, ls, sm), s, ks)) :
    /-VC fun (nm : List UInt8) (ls : List (List UInt8)) (sm : List Int) (s : List UInt8) (ks : List Int) => vcOf Tryd.prog consLaw [] cLawRef Tryd.f3 ((nm, ls, sm), s, ks) -/
    True ∧ (Sized (alOf (nm, ls, sm)) ∧ s.length ≤ (9223372036854775807 : Nat)) ∧ bif !(fewB (alOf (nm, ls, sm)) && decide (s.length ≤ (300 : Nat))) then true = true else bif decide ((40 : Int)
    < (↑ks.length : Int)) then true = true else (FewP (nm, ls, sm) ∧ s.length ≤ (1000000 : Nat)) ∧ (FewP (nm, ls, sm) ∧ s.length ≤ (1000000 : Nat)) ∧ (FewP (nm, ls, sm) ∧ ks.length ≤ (1000000 :
    Nat)) ∧ (FewP (nm, ls, sm) ∧ ks.length ≤ (1000000 : Nat)) ∧ (FewP (nm, ls, sm) ∧ s.length ≤ (1000000 : Nat)) ∧ (FewP (nm, ls, sm) ∧ s.length ≤ (1000000 : Nat)) ∧ FewP (nm, ls, sm) ∧ FewP
    (nm, ls, sm) ∧ bif Al.validB (alOf (nm, ls, sm)) == Al.validB (alOf (nm, ls, sm)) then ((Al.readB (alOf (nm, ls, sm)) s).fst.length ≤ (1000000000000000 : Nat) ∧ (Al.readB (alOf (nm, ls, sm))
    s).fst.length ≤ (1000000000000000 : Nat)) ∧ bif (Al.readB (alOf (nm, ls, sm)) s).fst == (Al.readB (alOf (nm, ls, sm)) s).fst then bif (Al.readB (alOf (nm, ls, sm)) s).snd.fst == (Al.readB
    (alOf (nm, ls, sm)) s).snd.fst then bif (Al.readB (alOf (nm, ls, sm)) s).snd.snd == (Al.readB (alOf (nm, ls, sm)) s).snd.snd then bif (Al.joinB (alOf (nm, ls, sm)) ks).fst == (Al.joinB (alOf
    (nm, ls, sm)) ks).fst then bif (Al.joinB (alOf (nm, ls, sm)) ks).snd == (Al.joinB (alOf (nm, ls, sm)) ks).snd then bif (Al.foldB (alOf (nm, ls, sm)) s).fst == (Al.foldB (alOf (nm, ls, sm))
    s).fst then ((Al.foldB (alOf (nm, ls, sm)) s).snd == (Al.foldB (alOf (nm, ls, sm)) s).snd) = true else false = true else false = true else false = true else false = true else false = true
    else false = true else false = true
    /-CV-/ := by
  obtain ⟨hz, hs, hk⟩ := h
  refine ⟨trivial, ⟨hz, hs⟩, bifP (fun _ => rfl) fun hf => bifP (fun _ => rfl) fun h40 => ?_⟩
  have hf : (fewB (alOf (nm, ls, sm)) && decide (s.length ≤ 300)) = true := by simpa using hf
  obtain ⟨hF, h300⟩ := few_out hf
  have hFP : FewP (nm, ls, sm) := ⟨hF.n, hF.len, hF.s, hF.name⟩
  have h40 : ks.length ≤ 1000000 := by have := of_decide_eq_false h40; omega
  have hs : s.length ≤ 1000000 := by omega
  have hrl := Al.readB_len (alOf (nm, ls, sm)) s
  refine ⟨⟨hFP, hs⟩, ⟨hFP, hs⟩, ⟨hFP, h40⟩, ⟨hFP, h40⟩, ⟨hFP, hs⟩, ⟨hFP, hs⟩, hFP, hFP, ?_⟩
  simp only [BEq.rfl, cond_true, and_true]
  exact ⟨by omega, by omega⟩
set_option maxRecDepth 100000 in
theorem lawref_holds : cLawRef.Holds Tryd.prog := by
  refine holdsF (cons := consLaw) Tryd.func3 (by kernel_rfl) (by kernel_rfl) mixed (by kernel_rfl) (fun c h => by
    unfold consLaw at h
    rcases List.mem_cons.1 h with rfl | h
    · exact headA_holds
    rcases List.mem_cons.1 h with rfl | h
    · exact fewA_holds
    rcases List.mem_cons.1 h with rfl | h
    · exact pread_holds
    rcases List.mem_cons.1 h with rfl | h
    · exact read_holds
    rcases List.mem_cons.1 h with rfl | h
    · exact pjoin_holds
    rcases List.mem_cons.1 h with rfl | h
    · exact join_holds
    rcases List.mem_cons.1 h with rfl | h
    · exact pfold_holds
    rcases List.mem_cons.1 h with rfl | h
    · exact fold_holds
    rcases List.mem_cons.1 h with rfl | h
    · exact pvalid_holds
    rcases List.mem_cons.1 h with rfl | h
    · exact valid_holds
    · obtain rfl := List.mem_singleton.1 h; exact intsA_holds) (fun p => []) fun p hp => ?_
  obtain ⟨⟨nm, ls, sm⟩, s, ks⟩ := p
  refine cast ?_ (lawref_vc nm ls sm s ks hp)
  kernel_rfl
end Go.Proofs.YtafbgfdidmepaaaDoor

/-
  A region that draws its order, inside the wide fence: quiet operations, one that does whatever it does (a call of yield), quiet ones behind it.
-/
import Derived.Test.YtgjdbnkeamjhhaaDoorLater
import Derived.Sort.QuietThIn
set_option linter.unusedVariables false
namespace Go.Proofs.YtgjdbnkeamjhhaaDoor
open Go.RowKit
section
variable {P : Program} {ops : Array Oper} {md : Region.Mode} {C : World → Prop} {m : Nat}
theorem wpOpInW_of_qOp {i : Nat} {a : Act} {K : Act → Prop} {K' : Act → World → Prop} {Q' : Exit → Act → World → Prop} {w : World} (hC : C w) (h : ∀ a w', C w' → K a → K' a w')
    (hh : qOp P ops C i K a) : wpOpIn Fence.wide m P ops Q' i K' a w := by
  unfold qOp at hh
  unfold wpOpIn
  split
  · rename_i ho; simp only [ho] at hh; exact h _ _ hC hh
  · rename_i o ho
    simp only [ho] at hh
    split
    · rename_i hw
      simp only [hw, if_true] at hh
      obtain ⟨v, h1, h2⟩ := hh
      have h3 := h1 w hC
      unfold Oper.quietAt at h3
      unfold Oper.wpIn
      refine ⟨fun _ _ => trivial, ?_⟩
      rw [show Fence.wide.round = none from rfl, Oper.semAt_none]
      generalize (execOp a.eval o).run P w = r at *
      cases r with
      | ok x w' =>
        cases x <;> simp only [Oper.quietUpon] at h3 <;> simp only [Oper.uponIn]
        case value u =>
          obtain ⟨e1, e2⟩ := h3
          rw [e1, e2]
          exact h _ _ hC h2
        case skip =>
          obtain ⟨e1, e2⟩ := h3
          rw [e1, ← e2]
          exact h _ _ hC h2
        case enter f args =>
          obtain ⟨e1, hc⟩ := h3
          rw [e1]
          refine ⟨fun hd => (by cases hd), callsIn_wide.2 (hc.mono fun e w'' ⟨he, hw''⟩ => by subst he; exact h _ _ hw'' h2)⟩
      | halt x w' => simp only [Oper.quietUpon] at h3
    · rename_i hw
      simp only [hw] at hh
      exact ⟨fun _ _ => trivial, h _ _ hC hh⟩
theorem wpAnyInW_of_headQ {n g : Nat} {L : Array Bool → Act → Prop} {Q' : Exit → Act → World → Prop} (hL : ∀ listed a w, C w → L listed a → wpAnyIn Fence.wide m P md ops Q' g listed a w) :
    ∀ (f : Nat) (listed : Array Bool) (a : Act) (w : World), C w → wpAnyLQ P md ops C n L f listed a → wpAnyIn Fence.wide m P md ops Q' (f + g) listed a w
  | 0, listed, a, w, hw, h => by rw [Nat.zero_add]; exact hL _ _ _ hw h
  | f + 1, listed, a, w, hw, h => by
    rw [show f + 1 + g = (f + g) + 1 by omega]
    exact ⟨fun h0 => absurd h0 h.1, fun i hi => wpOpInW_of_qOp hw (fun a' w' hw' h' => wpAnyInW_of_headQ hL f _ a' w' hw' h') (h.2 i hi).2⟩
theorem wpAnyInW_of_quiet {Q : Act → Prop} {Q' : Exit → Act → World → Prop} (hQ : ∀ a w, C w → Q a → Q' .normal a w) : ∀ (fuel : Nat) (listed : Array Bool) (a : Act) (w : World), C w →
    wpAnyQ P md ops C Q fuel listed a → wpAnyIn Fence.wide m P md ops Q' fuel listed a w
  | 0, _, _, _, hw, h => ⟨h.1, hQ _ _ hw h.2⟩
  | fuel + 1, _, _, _, hw, h => ⟨fun h0 => hQ _ _ hw (h.1 h0), fun i hi => wpOpInW_of_qOp hw (fun a' w' hw' => wpAnyInW_of_quiet hQ fuel _ a' w' hw') (h.2 i hi)⟩
theorem uponIn_then {o : Oper} {a : Act} {next K : Act → World → Prop} {Q : Exit → Act → World → Prop} {r : Result Next} (h : o.uponIn Fence.wide m P a next (Exit.then K Q) r) : o.uponIn Fence.wide m P a next Q r := by
  cases r with
  | ok n w' =>
    cases n <;> simp only [Oper.uponIn] at h ⊢ <;> exact h
  | halt x w' =>
    cases x <;> simp only [Oper.uponIn] at h ⊢ <;> exact h
theorem wpIn_region_quiet_mid {id : Nat} {Q : Exit → Act → World → Prop} {a : Act} {w : World} {l : List Oper} (n : Nat) (hm : P.follows .mixedOrders = true) (hB : lexMidB .any l.toArray n = true) (hC : C { w with drawn := w.drawn + 1 })
    (h : wpQuiet P l.toArray C (fun a' => ∀ w', C w' → wpListIn Fence.wide m P l.toArray (Exit.then (fun a2 w2 => wpQuiet P l.toArray (fun x => x = w2) (fun a3 => Q .normal a3 w2) (l.drop (n + 1)) a2) Q) ((l.drop n).take 1) a' w') (l.take n) a) :
    (Code.region id l.toArray true).wpIn Fence.wide m P Q a w := by
  simp only [lexMidB, Bool.and_eq_true, decide_eq_true_eq] at hB
  obtain ⟨⟨⟨⟨hsel, hn⟩, hs⟩, hc⟩, hlex⟩ := hB
  have hn' : n < l.length := by simpa using hn
  have htl : (l.take n).length = n := by simp; omega
  have inv0 : HeadInv .any l.toArray n (Array.replicate l.toArray.size false) :=
    ⟨by simp, fun j oj _ hl => (by rw [getD_replicate_false] at hl; cases hl), fun t _ ht => getD_in (by simpa using ht) (getD_replicate_false _ _)⟩
  have H := wpAnyLQ_mid (md := .any) hsel hs hc hn (l.take n) 0 _ a (fun j hj => by
    have hj' : j < n := by rw [htl] at hj; exact hj
    simp [hj']) (by simpa using htl) inv0 (by rw [htl]; exact hlex) h
  refine wpIn_region_any hm ?_
  have := wpAnyInW_of_headQ (m := m) (Q' := Q) (g := (l.toArray.size - (n + 1)) + 1) (fun listed a' w' hw' hL => by
    obtain ⟨⟨hr, hf⟩, hq⟩ := hL
    have hq := hq w' hw'
    refine ⟨fun h0 => (by rw [hr] at h0; cases h0), fun i hi => ?_⟩
    obtain rfl : i = n := by rw [hr] at hi; simpa using hi
    have ho : l.toArray[i]? = some l[i] := by simp [hn']
    have hone : (l.drop i).take 1 = [l[i]] := by rw [List.drop_eq_getElem_cons hn']; rfl
    have fin : ∀ a2 w2, wpQuiet P l.toArray (fun x => x = w2) (fun a3 => Q .normal a3 w2) (l.drop (i + 1)) a2 → wpAnyIn Fence.wide m P .any l.toArray Q (l.toArray.size - (i + 1)) (listed.setIfInBounds i true) a2 w2 := by
      intro a2 w2 hq2
      have hd : (l.drop (i + 1)).length = l.toArray.size - (i + 1) := by simp
      have h4 := wpAnyQ_lex (C := fun x => x = w2) (md := .any) hsel (l.drop (i + 1)) (i + 1) (listed.setIfInBounds i true) a2 (fun j => by simp [List.getElem?_drop]) (by rw [hd]; exact hf) hq2
      rw [hd] at h4
      exact wpAnyInW_of_quiet (C := fun x => x = w2) (Q := fun a3 => Q .normal a3 w2) (fun a3 w3 hw3 h5 => by rw [hw3]; exact h5) _ _ _ _ rfl h4
    rw [hone] at hq
    unfold wpListIn at hq
    unfold wpOpIn
    simp only [ho]
    split
    · rename_i hw
      rw [if_pos hw] at hq
      refine Oper.wpIn_mono (fun a2 w2 h2 => fin a2 w2 h2) ⟨hq.1, uponIn_then hq.2⟩
    · rename_i hw
      rw [if_neg hw] at hq
      exact ⟨hq.1, fin _ _ hq.2⟩) _ _ _ _ hC H
  rw [htl, show n + ((l.toArray.size - (n + 1)) + 1) = l.toArray.size by omega] at this
  exact this
end
/-- over a world some draws on -/
theorem wpIn_region_drawn_mid {P : Program} {id m : Nat} {Q : Exit → Act → World → Prop} {a : Act} {w : World} {l : List Oper} (n : Nat) (hm : P.follows .mixedOrders = true) (hB : lexMidB .any l.toArray n = true)
    (h : wpQuiet P l.toArray (fun w' => ∃ k, w' = w.drewN k) (fun a' => ∀ w', (∃ k, w' = w.drewN k) → wpListIn Fence.wide m P l.toArray (Exit.then (fun a2 w2 => wpQuiet P l.toArray (fun x => x = w2) (fun a3 => Q .normal a3 w2) (l.drop (n + 1)) a2) Q) ((l.drop n).take 1) a' w') (l.take n) a) :
    (Code.region id l.toArray true).wpIn Fence.wide m P Q a w :=
  wpIn_region_quiet_mid (C := fun w' => ∃ k, w' = w.drewN k) n hm hB ⟨1, rfl⟩ h
end Go.Proofs.YtgjdbnkeamjhhaaDoor

/-
  Layer 11: RulesPlain in plain Lean: rules of single letters.
-/
import Derived.Test.YtldnfdghkdibmaaGreatDoorRuZH
set_option linter.unusedVariables false
namespace Go.Proofs.YtldnfdghkdibmaaGreatDoor
open Go.RowKit
open R
/-- the letter of a rule's From -/
theorem single {a : Al.Alph} (ha : Al.validB a = true) {x : Rul.Rule} (h : okP a.letters x = true) :
    ∃ j : Int, 0 ≤ j ∧ j < (a.letters.length : Int) ∧ Rul.openR a.letters x = (x, [j], []) ∧ x.2.2.2 = false ∧ x.1 = Al.letterAt a.letters j := by
  unfold okP at h
  simp only [Bool.and_eq_true, beq_iff_eq, Bool.not_eq_true'] at h
  obtain ⟨h1, h2, h3, h4⟩ := h
  have hre : Al.readB a x.1 = Al.readL a.letters x.1 := by unfold Al.readB; rw [if_pos ha]
  obtain ⟨_, q1, q2, q3, q4, _, _⟩ := Al.read_ok (a := a) (s := x.1) (by rw [hre]; exact h1)
  rw [hre] at q3 q4
  obtain ⟨j, hj⟩ := List.length_eq_one_iff.1 h2
  rw [hj] at q3 q4
  have hr := Al.inRange_mem q4 j (List.mem_singleton.2 rfl)
  refine ⟨j, hr.1, hr.2, ?_, h4, by rw [q3]; simp [Al.joinL]⟩
  unfold Rul.openR Rul.readO
  rw [if_neg q1, if_pos h3, hj]
theorem stands_single {L : List (List UInt8)} {x : Rul.Rule} {j : Int} (ho : Rul.openR L x = (x, [j], [])) (he : x.2.2.2 = false) {w : List Int} {k : Nat} {c : Int} (hc : w[k]? = some c) :
    Rul.standsB (Rul.openR L x) (w.drop k) = (j == c) := by
  have hlt : k < w.length := (List.getElem?_eq_some_iff.1 hc).1
  have hd : w.drop k = c :: w.drop (k + 1) := by
    rw [List.drop_eq_getElem_cons hlt]
    have := (List.getElem?_eq_some_iff.1 hc).2
    rw [this]
  rw [ho, hd]
  unfold Rul.standsB
  dsimp only
  rw [he, if_neg Bool.noConfusion, if_pos rfl, Bool.and_true]
  simp
theorem hit_single {a : Al.Alph} (ha : Al.validB a = true) {x : Rul.Rule} {j c : Int} (h0 : 0 ≤ j) (h1 : j < (a.letters.length : Int)) (hx : x.1 = Al.letterAt a.letters j) (c0 : 0 ≤ c) (c1 : c < (a.letters.length : Int)) : hit a.letters c x = (j == c) := by
  have hf : Al.formedB a = true := by
    unfold Al.validB at ha; rw [Bool.and_eq_true] at ha; exact ha.1
  have e : hit a.letters c x = (decide (0 ≤ c) && (decide (c < (a.letters.length : Int)) && Al.letterAt a.letters c == x.1)) := rfl
  rw [e, decide_eq_true c0, decide_eq_true c1, Bool.true_and, Bool.true_and, hx, Bool.eq_iff_iff, beq_iff_eq, beq_iff_eq]
  constructor
  · intro h
    have p1 := Al.idx_letterAt hf c0 c1
    have p2 := Al.idx_letterAt hf h0 h1
    rw [h] at p1
    omega
  · rintro rfl; rfl
theorem distinct_filter {L : List (List UInt8)} {c : Int} {x : Rul.Rule} : ∀ {l : List Rul.Rule}, distinct l → x ∈ l → hit L c x = true → l.filter (hit L c) = [x]
  | y :: r, hd, hx, hh => by
    obtain ⟨h1, h2⟩ := List.pairwise_cons.1 hd
    have from_ : ∀ z, hit L c z = true → L.getD c.toNat [] = z.1 := fun z hz => by
      unfold hit at hz
      simp only [Bool.and_eq_true, beq_iff_eq] at hz
      exact hz.2.2
    rcases List.mem_cons.1 hx with rfl | hx
    · rw [List.filter_cons_of_pos hh]
      congr 1
      rw [List.filter_eq_nil_iff]
      intro z hz hzz
      exact h1 z hz ((from_ x hh).symm.trans (from_ z hzz))
    · have hy : ¬ hit L c y = true := fun hyy => h1 x hx ((from_ y hyy).symm.trans (from_ x hh))
      rw [List.filter_cons_of_neg hy]
      exact distinct_filter h2 hx hh
section
variable {a : Al.Alph} {l : List Rul.Rule} {w : List Int}
theorem reach_plain (ha : Al.validB a = true) (hok : l.all (okP a.letters) = true) (hd : distinct l) (hw : ∀ c ∈ w, 0 ≤ c ∧ c < (a.letters.length : Int)) :
    ∀ (k : Nat), k ≤ w.length → ∀ s, Rul.Reach (l.map (Rul.openR a.letters)) w k s ↔ wholeP a.letters l (w.take k) = true ∧ s = wantP a.letters l (w.take k)
  | 0, _, s => by
    constructor
    · intro h
      rcases Rul.reach_cases h with h | ⟨j, s', x, _, _, hx, _, he, _⟩
      · exact ⟨rfl, h.2⟩
      · obtain ⟨y, hy, rfl⟩ := List.mem_map.1 hx
        obtain ⟨i, _, _, ho, _⟩ := single ha (List.all_eq_true.1 hok y hy)
        rw [ho] at he
        have he : 0 = j + 1 := he
        omega
    · rintro ⟨_, rfl⟩; exact .zero
  | k + 1, hk, s => by
    have hlt : k < w.length := hk
    have hc : w[k]? = some w[k] := List.getElem?_eq_getElem hlt
    have ih := reach_plain ha hok hd hw k (by omega)
    have hcr := hw w[k] (List.getElem_mem hlt)
    have ht : w.take (k + 1) = w.take k ++ [w[k]] := by rw [List.take_add_one, hc]; rfl
    have e1 : wholeP a.letters l (w.take (k + 1)) = (wholeP a.letters l (w.take k) && l.any (hit a.letters w[k])) := by
      unfold wholeP; rw [ht, List.all_append]; simp
    have e2 : wantP a.letters l (w.take (k + 1)) = wantP a.letters l (w.take k) ++ tosOf a.letters l w[k] := by
      unfold wantP; rw [ht, List.flatMap_append]; simp
    rw [e1, e2]
    generalize w[k] = c at *
    constructor
    · intro h
      rcases Rul.reach_cases h with ⟨h, _⟩ | ⟨j, s', x, hr, hj, hx, hs, he, rfl⟩
      · omega
      · obtain ⟨y, hy, rfl⟩ := List.mem_map.1 hx
        obtain ⟨i, i0, i1, ho, hend, hfrom⟩ := single ha (List.all_eq_true.1 hok y hy)
        have hjk : j = k := by
          rw [ho] at he
          have he : k + 1 = j + 1 := he
          omega
        subst hjk
        rw [stands_single ho hend hc] at hs
        have hh : hit a.letters c y = true := by rw [hit_single ha i0 i1 hfrom hcr.1 hcr.2]; exact hs
        obtain ⟨q1, q2⟩ := (ih s').1 hr
        refine ⟨by rw [q1, Bool.true_and]; exact List.any_eq_true.2 ⟨y, hy, hh⟩, ?_⟩
        rw [q2]
        unfold tosOf
        rw [distinct_filter hd hy hh]
        simp [Rul.openR]
    · rintro ⟨q, rfl⟩
      rw [Bool.and_eq_true] at q
      obtain ⟨y, hy, hh⟩ := List.any_eq_true.1 q.2
      obtain ⟨i, i0, i1, ho, hend, hfrom⟩ := single ha (List.all_eq_true.1 hok y hy)
      have hs : Rul.standsB (Rul.openR a.letters y) (w.drop k) = true := by
        rw [stands_single ho hend hc, ← hit_single ha i0 i1 hfrom hcr.1 hcr.2]; exact hh
      have := Rul.Reach.step ((ih _).2 ⟨q.1, rfl⟩) hlt (List.mem_map.2 ⟨y, hy, rfl⟩) hs
      have e3 : tosOf a.letters l c = y.2.1 := by
        unfold tosOf
        rw [distinct_filter hd hy hh]
        simp
      rw [e3]
      rw [ho] at this
      exact this
theorem write_plain (ha : Al.validB a = true) (hp : Rul.Pos (l.map (Rul.openR a.letters))) (hok : l.all (okP a.letters) = true) (hd : distinct l) (hw : ∀ c ∈ w, 0 ≤ c ∧ c < (a.letters.length : Int)) :
    Rul.writeL (l.map (Rul.openR a.letters)) w = (if wholeP a.letters l w then [wantP a.letters l w] else [], 0) := by
  have hset : ∀ k, k ≤ w.length → Rul.setOf (Rul.tabs (l.map (Rul.openR a.letters)) w k k) = if wholeP a.letters l (w.take k) then [wantP a.letters l (w.take k)] else [] := fun k hk => by
    refine Rul.setTabs_eq hp hk ?_ fun s => ?_
    · split
      · exact List.pairwise_singleton _ _
      · exact List.Pairwise.nil
    · rw [reach_plain ha hok hd hw k hk s]
      cases h : wholeP a.letters l (w.take k)
      · simp
      · simp
  unfold Rul.writeL
  rw [if_neg]
  · rw [hset _ (Nat.le_refl _), List.take_length]
  · rw [Bool.not_eq_true]
    refine List.any_eq_false.2 fun k hk => ?_
    unfold Rul.tooMany
    rw [hset k (by have := List.mem_range.1 hk; omega)]
    split <;> simp
end
theorem tos_next {L : List (List UInt8)} {l : List Rul.Rule} {j : Nat} {x : Rul.Rule} (hx : l[j]? = some x) (c : Int) : tosOf L (l.take (j + 1)) c = tosOf L (l.take j) c ++ (if hit L c x then x.2.1 else []) ∧ (l.take (j + 1)).any (hit L c) = ((l.take j).any (hit L c) || hit L c x) := by
  refine ⟨?_, ?_⟩
  · unfold tosOf
    rw [List.take_add_one, hx, List.filter_append, List.flatMap_append]
    cases h : hit L c x <;> simp [h]
  · rw [List.take_add_one, hx, List.any_append]; simp
theorem tos_len {L : List (List UInt8)} {m : Nat} (l : List Rul.Rule) (h : ∀ x ∈ l, x.2.1.length ≤ m) (c : Int) : (tosOf L l c).length ≤ m * l.length := by
  induction l with
  | nil => simp [tosOf]
  | cons x r ih =>
    have ih := ih fun y hy => h y (List.mem_cons_of_mem _ hy)
    have hx := h x List.mem_cons_self
    unfold tosOf at ih ⊢
    rw [List.length_cons, Nat.mul_add]
    cases hh : hit L c x
    · rw [List.filter_cons_of_neg (by rw [hh]; simp)]; omega
    · rw [List.filter_cons_of_pos hh, List.flatMap_cons, List.length_append]; omega
theorem want_len {L : List (List UInt8)} {m : Nat} (l : List Rul.Rule) (h : ∀ x ∈ l, x.2.1.length ≤ m) (w : List Int) : (wantP L l w).length ≤ m * l.length * w.length := by
  induction w with
  | nil => simp [wantP]
  | cons c r ih =>
    have h1 := tos_len (L := L) l h c
    unfold wantP at ih ⊢
    rw [List.flatMap_cons, List.length_append, List.length_cons, Nat.mul_add]
    omega
theorem want_next {L : List (List UInt8)} {l : List Rul.Rule} {w : List Int} {i : Nat} (h : i < w.length) : wantP L l (w.take (i + 1)) = wantP L l (w.take i) ++ tosOf L l (w.getD i 0) ∧ wholeP L l (w.take (i + 1)) = (wholeP L l (w.take i) && l.any (hit L (w.getD i 0))) := by
  have hx := getD_some w 0 i h
  refine ⟨?_, ?_⟩
  · unfold wantP; rw [List.take_add_one, hx, List.flatMap_append]; simp
  · unfold wholeP; rw [List.take_add_one, hx, List.all_append]; simp
end Go.Proofs.YtldnfdghkdibmaaGreatDoor

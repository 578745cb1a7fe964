/-
  Plain laws of alphabets: join, fold, errors, parts. No program in sight.
-/
import Derived.Test.YtafbgfdidmepaaaDoorAlLaw
set_option linter.unusedVariables false
namespace Go.Proofs.YtafbgfdidmepaaaDoor
namespace Al

theorem formed_noTwice {a : Alph} (h : formedB a = true) : noTwice a.letters = true := by
  unfold formedB at h
  simp only [Bool.and_eq_true] at h
  exact h.1.2
theorem formed_small {a : Alph} (h : formedB a = true) : a.small.length = a.letters.length ∧ ∀ k ∈ a.small, 0 ≤ k ∧ k < (a.letters.length : Int) ∧ a.small.getD k.toNat 0 = k := by
  unfold formedB at h
  simp only [Bool.and_eq_true, beq_iff_eq, List.all_eq_true] at h
  refine ⟨h.1.1.1.2, fun k hk => ?_⟩
  have := h.2 k hk
  unfold smallAt at this
  simp only [Bool.and_eq_true, decide_eq_true_eq, beq_iff_eq] at this
  exact ⟨this.1.1, this.1.2, this.2⟩

theorem letterAt_mem {a : Alph} {k : Int} (h0 : 0 ≤ k) (h1 : k < (a.letters.length : Int)) : letterAt a.letters k ∈ a.letters := by
  unfold letterAt
  rw [List.getD_eq_getElem?_getD, List.getElem?_eq_getElem (by omega)]
  exact List.getElem_mem _
theorem idx_letterAt {a : Alph} (h : formedB a = true) {k : Int} (h0 : 0 ≤ k) (h1 : k < (a.letters.length : Int)) : (idx a.letters (letterAt a.letters k) : Int) = k := by
  unfold letterAt
  rw [List.getD_eq_getElem?_getD, List.getElem?_eq_getElem (by omega), Option.getD_some, noTwice_idx (formed_noTwice h)]
  omega
theorem letterAt_idx {L : List (List UInt8)} {x : List UInt8} (h : x ∈ L) : letterAt L (idx L x : Int) = x := by
  unfold letterAt
  rw [List.getD_eq_getElem?_getD, Int.toNat_natCast, idx_get (by simpa using h)]
  rfl
theorem inRange_mem {n : Nat} {ks : List Int} (h : inRange n ks = true) : ∀ k ∈ ks, 0 ≤ k ∧ k < (n : Int) := by
  intro k hk
  unfold inRange at h
  rw [List.all_eq_true] at h
  have := h k hk
  simpa using this
theorem joinL_flatten (L : List (List UInt8)) (ks : List Int) : joinL L ks = (ks.map (letterAt L)).flatten := by
  unfold joinL
  rw [List.flatMap_def]
theorem map_idx {a : Alph} (h : formedB a = true) {ks : List Int} (hr : inRange a.letters.length ks = true) : (ks.map (letterAt a.letters)).map (fun x => (idx a.letters x : Int)) = ks := by
  rw [List.map_map]
  refine (List.map_congr_left (g := id) fun k hk => ?_).trans (List.map_id ks)
  have := inRange_mem hr k hk
  exact idx_letterAt h this.1 this.2
theorem map_mem {a : Alph} {ks : List Int} (hr : inRange a.letters.length ks = true) : ∀ y ∈ ks.map (letterAt a.letters), y ∈ a.letters := by
  intro y hy
  obtain ⟨k, hk, rfl⟩ := List.mem_map.1 hy
  have := inRange_mem hr k hk
  exact letterAt_mem this.1 this.2
theorem joinL_ne {a : Alph} (h : formedB a = true) {ks : List Int} (hr : inRange a.letters.length ks = true) (h1 : ks ≠ []) : joinL a.letters ks ≠ [] := by
  cases ks with
  | nil => exact absurd rfl h1
  | cons k ks =>
    have := inRange_mem hr k (by simp)
    have hm := (formed_letters h _ (letterAt_mem this.1 this.2)).1
    intro h0
    rw [joinL_flatten, List.map_cons, List.flatten_cons, List.append_eq_nil_iff] at h0
    rw [h0.1] at hm
    simp at hm

/-- joined letters are read -/
theorem read_join {a : Alph} (h : validB a = true) {ks : List Int} (hr : inRange a.letters.length ks = true) (h1 : ks ≠ []) (h2 : ks.length ≤ 24) : readB a (joinL a.letters ks) = (ks, 0, 0) := by
  have hf := valid_formed h
  unfold readB readL
  rw [if_pos h, if_neg (joinL_ne hf hr h1)]
  have := (collect_join h (ks.map (letterAt a.letters)) ((joinL a.letters ks).length + 1) 0 [] (map_mem hr) (by rw [← joinL_flatten]; omega)).1 (by rw [List.length_map]; simpa using h2)
  rw [← joinL_flatten, map_idx hf hr] at this
  simpa using this
/-- too many letters -/
theorem read_many {a : Alph} (h : validB a = true) {ks : List Int} (hr : inRange a.letters.length ks = true) (h2 : 24 < ks.length) : (readB a (joinL a.letters ks)).2.1 = 2 := by
  have hf := valid_formed h
  unfold readB readL
  rw [if_pos h, if_neg (joinL_ne hf hr (by rintro rfl; simp at h2))]
  obtain ⟨o, ho, _⟩ := (collect_join h (ks.map (letterAt a.letters)) ((joinL a.letters ks).length + 1) 0 [] (map_mem hr) (by rw [← joinL_flatten]; omega)).2 (by simp) (by rw [List.length_map]; simpa using h2)
  rw [← joinL_flatten] at ho
  rw [ho]
/-- what is read -/
theorem read_ok {a : Alph} {s : List UInt8} (he : (readB a s).2.1 = 0) : validB a = true ∧ s ≠ [] ∧ readB a s = ((readB a s).1, 0, 0) ∧ s = joinL a.letters (readB a s).1 ∧ inRange a.letters.length (readB a s).1 = true ∧ (readB a s).1 ≠ [] ∧ (readB a s).1.length ≤ 24 := by
  unfold readB at he ⊢
  by_cases h : validB a = true
  · rw [if_pos h] at he ⊢
    unfold readL at he ⊢
    by_cases hs : s = []
    · rw [if_pos hs] at he; cases he
    · rw [if_neg hs] at he ⊢
      obtain ⟨ks, e, o, hc⟩ : ∃ ks e o, collect [] (places a.letters (s.length + 1) 0 s) = (ks, e, o) := ⟨_, _, _, rfl⟩
      rw [hc] at he ⊢
      have he' : e = 0 := he
      subst he'
      have ho : o = 0 := by
        have H : ∀ (ps : List (Nat × Int)) (out ks : List Int) (o : Int), collect out ps = (ks, 0, o) → o = 0 := by
          intro ps
          induction ps with
          | nil => intro out ks o h; simp [collect] at h; exact h.2.symm
          | cons p ps ih =>
            intro out ks o h
            obtain ⟨at_, k⟩ := p
            rw [collect] at h
            by_cases h1 : k < 0
            · rw [if_pos h1] at h; simp at h
            · rw [if_neg h1] at h
              by_cases h2 : out.length = 24
              · rw [if_pos h2] at h; simp at h
              · rw [if_neg h2] at h; exact ih _ _ _ h
        exact H _ _ _ _ hc
      subst ho
      obtain ⟨rs, h1, h2, h3, h4⟩ := places_join a.letters (s.length + 1) 0 s [] ks (by omega) (by simp) hc
      simp only [List.nil_append] at h3
      refine ⟨h, hs, rfl, ?_, ?_, ?_, ?_⟩
      · simp only []
        rw [joinL_flatten, h3, List.map_map, ← h2]
        congr 1
        refine (List.map_id rs).symm.trans (List.map_congr_left fun x hx => ?_)
        exact (letterAt_idx (h1 x hx)).symm
      · simp only []
        unfold inRange
        rw [List.all_eq_true, h3]
        intro k hk
        obtain ⟨x, hx, rfl⟩ := List.mem_map.1 hk
        have := idx_lt (L := a.letters) (l := x) (by simpa using h1 x hx)
        simp
        exact this
      · simp only []
        rintro rfl
        have : rs = [] := by simpa using h3.symm
        subst this
        exact hs h2.symm
      · simp only []
        rw [h3, List.length_map]
        simpa using h4
  · rw [if_neg h] at he; cases he

/-- P10.3 -/
theorem joins_law {a : Alph} (h : validB a = true) {x : List Int} (hx : (joinB a x).2 = 0) : joinB a x = (joinL a.letters x, 0) ∧ readB a (joinL a.letters x) = (x, 0, 0) := by
  unfold joinB at hx ⊢
  split at hx
  · rename_i hc
    rw [if_pos hc]
    simp only [Bool.and_eq_true, decide_eq_true_eq] at hc
    exact ⟨rfl, read_join h hc.2 (by rintro rfl; simp at hc) hc.1.2.2⟩
  · cases hx
theorem joins_inj {a : Alph} (h : validB a = true) {x y : List Int} (hx : (joinB a x).2 = 0) (hy : (joinB a y).2 = 0) : (joinB a x).1 = (joinB a y).1 ↔ x = y := by
  constructor
  · intro he
    have h1 := joins_law h hx
    have h2 := joins_law h hy
    rw [h1.1, h2.1] at he
    simp only [] at he
    have := h1.2
    rw [he, h2.2] at this
    simpa using this.symm
  · rintro rfl; rfl
theorem join_err {a : Alph} {x : List Int} (hx : (joinB a x).2 ≠ 0) : joinB a x = ([], 1) := by
  unfold joinB at hx ⊢
  split at hx
  · exact absurd rfl hx
  · rw [if_neg ‹_›]

/-- P10.4 -/
theorem small_range {a : Alph} (h : formedB a = true) {ks : List Int} (hr : inRange a.letters.length ks = true) : inRange a.letters.length (ks.map fun k => a.small.getD k.toNat 0) = true ∧
    (ks.map fun k => a.small.getD k.toNat 0).map (fun k => a.small.getD k.toNat 0) = ks.map fun k => a.small.getD k.toNat 0 := by
  obtain ⟨hs1, hs2⟩ := formed_small h
  have H : ∀ k ∈ ks, a.small.getD k.toNat 0 ∈ a.small := by
    intro k hk
    have := inRange_mem hr k hk
    rw [List.getD_eq_getElem?_getD, List.getElem?_eq_getElem (by omega)]
    exact List.getElem_mem _
  constructor
  · unfold inRange
    rw [List.all_eq_true]
    intro k hk
    obtain ⟨x, hx, rfl⟩ := List.mem_map.1 hk
    have := hs2 _ (H x hx)
    simp only [Bool.and_eq_true, decide_eq_true_eq]
    exact ⟨this.1, this.2.1⟩
  · rw [List.map_map]
    refine List.map_congr_left fun k hk => ?_
    exact (hs2 _ (H k hk)).2.2
theorem folds_law {a : Alph} {s : List UInt8} (he : (readB a s).2.1 = 0) :
    foldB a s = (joinL a.letters ((readB a s).1.map fun k => a.small.getD k.toNat 0), 0) ∧
    readB a (foldB a s).1 = ((readB a s).1.map fun k => a.small.getD k.toNat 0, 0, 0) ∧ foldB a (foldB a s).1 = foldB a s := by
  obtain ⟨h1, h2, h3, h4, h5, h6, h7⟩ := read_ok he
  have hf := valid_formed h1
  obtain ⟨s1, s2⟩ := small_range hf h5
  have hne : ((readB a s).1.map fun k => a.small.getD k.toNat 0) ≠ [] := by simpa using h6
  have hle : ((readB a s).1.map fun k => a.small.getD k.toNat 0).length ≤ 24 := by rw [List.length_map]; exact h7
  have hj : foldB a s = (joinL a.letters ((readB a s).1.map fun k => a.small.getD k.toNat 0), 0) := by
    unfold foldB
    rw [if_pos he]
    unfold joinB
    rw [if_pos]
    simp only [Bool.and_eq_true, decide_eq_true_eq]
    refine ⟨⟨h1, ?_, hle⟩, s1⟩
    have := List.length_pos_iff.2 hne
    exact this
  have hr := read_join h1 s1 hne hle
  refine ⟨hj, by rw [hj]; exact hr, ?_⟩
  rw [hj]
  simp only []
  unfold foldB
  rw [hr]
  simp only [if_true]
  rw [s2]
  unfold joinB
  rw [if_pos]
  simp only [Bool.and_eq_true, decide_eq_true_eq]
  exact ⟨⟨h1, List.length_pos_iff.2 hne, hle⟩, s1⟩
theorem folds_none {a : Alph} {s : List UInt8} (he : (readB a s).2.1 ≠ 0) : foldB a s = ([], 1) := by
  unfold foldB
  rw [if_neg he]
theorem fold_ok {a : Alph} {s : List UInt8} (h : (foldB a s).2 = 0) : (readB a s).2.1 = 0 := by
  unfold foldB at h
  split at h
  · assumption
  · cases h

/-- P10.6 -/
theorem parts_law {a : Alph} {x y : List UInt8} (hx : (readB a x).2.1 = 0) (hy : (readB a y).2.1 = 0) :
    (24 < (readB a x).1.length + (readB a y).1.length → (readB a (x ++ y)).2.1 = 2) ∧ ((readB a x).1.length + (readB a y).1.length ≤ 24 → readB a (x ++ y) = ((readB a x).1 ++ (readB a y).1, 0, 0)) := by
  obtain ⟨v, x2, x3, x4, x5, x6, x7⟩ := read_ok hx
  obtain ⟨_, y2, y3, y4, y5, y6, y7⟩ := read_ok hy
  have hj : x ++ y = joinL a.letters ((readB a x).1 ++ (readB a y).1) := by
    unfold joinL
    rw [List.flatMap_append]
    have e1 := x4
    have e2 := y4
    unfold joinL at e1 e2
    rw [← e1, ← e2]
  have hr : inRange a.letters.length ((readB a x).1 ++ (readB a y).1) = true := by
    unfold inRange at x5 y5 ⊢
    rw [List.all_append, x5, y5]
    rfl
  rw [hj]
  exact ⟨fun h => read_many v hr (by rw [List.length_append]; exact h), fun h => read_join v hr (by simp [x6]) (by rw [List.length_append]; exact h)⟩
end Al
end Go.Proofs.YtafbgfdidmepaaaDoor

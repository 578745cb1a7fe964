/-
  slices.Sorted(maps.Keys(m)): both calls do what R says.
-/
import Derived.Test.YtldnfdghkdibmaaGreatDoorRuK
import Derived.Test.YtldnfdghkdibmaaGreatDoorMP
import Derived.Test.YtldnfdghkdibmaaGreatDoorShelf
set_option linter.unusedVariables false
namespace Go.Proofs.YtldnfdghkdibmaaGreatDoor
open Go.RowKit Go.Maps Go.Sort
namespace R
theorem sortS_mem {l : List (List UInt8)} {x : List UInt8} : x ∈ sortS l ↔ x ∈ l := (List.mergeSort_perm l _).mem_iff
theorem sortS_up {l : List (List UInt8)} (h : l.Nodup) : Rul.Up (sortS l) := by
  have hs := List.pairwise_mergeSort (le := fun a b : List UInt8 => decide (a ≤ b)) (fun a b c h1 h2 => decide_eq_true (List.le_trans (of_decide_eq_true h1) (of_decide_eq_true h2))) (fun a b => by
    rcases List.le_total a b with h | h
    · rw [decide_eq_true h]; rfl
    · rw [decide_eq_true h]; simp) l
  have hn : (sortS l).Nodup := (List.mergeSort_perm l _).nodup_iff.2 h
  refine (hs.and hn).imp fun ⟨h1, h2⟩ => ?_
  refine Rul.below_iff.2 ?_
  have h1 := of_decide_eq_true h1
  exact Classical.byContradiction fun h' => h2 (List.le_antisymm h1 (List.not_lt.1 h'))
theorem sortS_perm {l m : List (List UInt8)} (hm : m.Nodup) (h : l.Perm m) : sortS l = sortS m :=
  Rul.up_ext (sortS_up (h.nodup_iff.2 hm)) (sortS_up hm) fun x => by rw [sortS_mem, sortS_mem]; exact h.mem_iff
theorem sortS_set {l m : List (List UInt8)} (hl : l.Nodup) (h : ∀ x, x ∈ l ↔ x ∈ m) : sortS l = Rul.setOf m :=
  (Rul.setOf_eq (sortS_up hl) fun x => by rw [sortS_mem]; exact h x).symm
abbrev fKeys : FuncId := 38
abbrev fSorted : FuncId := 37
abbrev fKeyIt : FuncId := 70
theorem sorted_some (g b nn : Nat) (D0 : DataW Unit) (w : World) (hg : g < w.heap.size) (hc : w.cell? ⟨g, 0, none⟩ = some (.map (some b))) (hown : w.ownsMap Tryz.prog 9 (plainElem Tryz.prog 4) b nn D0) (hmax : Maps.size D0 ≤ 1000000000) :
    Calls Tryz.prog fSorted #[.func (.func fKeyIt) #[] #[.pointer (some ⟨g, 0, none⟩)]] w fun e w' => ∃ (v : Value) (ss : List (List UInt8)), e = .returned v ∧ ss.Perm (strKeys D0) ∧
      w'.ownsRow w.heap.size 9 1 v ss.length ((ss.mergeSort (fun x y => decide (x ≤ y))).map encStr) ∧ (v = .slice none 0 0 ↔ ss = []) ∧ Below w.heap.size w w' := by
  have hseq : SeqGives Fence.wide 2 Tryz.prog fKeyIt #[.pointer (some ⟨g, 0, none⟩)] encStr (fun ss => ss.Perm (strKeys D0)) (Maps.size D0) w :=
    AnyZ.keys_gives (ρ := Tryz.keys38_ren) { Tryz.keys38 with } Fence.wide _ trivial rfl (by omega) g b nn D0 _ hg hc (by
      obtain ⟨es, clock, hb, Ft, hs, hD⟩ := hown
      exact ⟨es, clock, hb, Ft, hs, hD⟩)
  refine (callsIn_wide (n := 5)).1 ?_
  exact AnyZ.sorted_in Tryz.sorted37 Fence.wide 5 trivial trivial trivial trivial rfl (by omega) (Tryz.sorts37 _) (enters_of Tryz.func69 (by kernel_rfl) rfl) fKeyIt #[.pointer (some ⟨g, 0, none⟩)] trivial (enters_of Tryz.func70 (by kernel_rfl) rfl) _ _ (by unfold maxLen; omega) (by omega) _ hseq
theorem sorted_none (g : Nat) (w : World) (hg : g < w.heap.size) (hc : w.cell? ⟨g, 0, none⟩ = some (.map none)) :
    Calls Tryz.prog fSorted #[.func (.func fKeyIt) #[] #[.pointer (some ⟨g, 0, none⟩)]] w fun e w' => ∃ (v : Value) (ss : List (List UInt8)), e = .returned v ∧ ss = [] ∧
      w'.ownsRow w.heap.size 9 1 v ss.length ((ss.mergeSort (fun x y => decide (x ≤ y))).map encStr) ∧ (v = .slice none 0 0 ↔ ss = []) ∧ Below w.heap.size w w' := by
  have hseq : SeqGives Fence.wide 2 Tryz.prog fKeyIt #[.pointer (some ⟨g, 0, none⟩)] encStr (fun ss : List (List UInt8) => ss = []) 0 w :=
    AnyZ.keys_gives_nil (ρ := Tryz.keys38_ren) { Tryz.keys38 with } Fence.wide _ trivial rfl g _ hg hc
  refine (callsIn_wide (n := 5)).1 ?_
  exact AnyZ.sorted_in Tryz.sorted37 Fence.wide 5 trivial trivial trivial trivial rfl (by omega) (Tryz.sorts37 _) (enters_of Tryz.func69 (by kernel_rfl) rfl) fKeyIt #[.pointer (some ⟨g, 0, none⟩)] trivial (enters_of Tryz.func70 (by kernel_rfl) rfl) _ 0 (Nat.zero_le _) (by omega) _ hseq
theorem srcOfC_spec {κ : Cx} {w : World} {c : Cell} {s : Src} {v : Value} (h : srcOfC c = some s) (hv : c.Rep κ w v) : v = .map (κ.src s) := by
  cases c <;> simp only [srcOfC] at h <;> first | (injection h with h; subst h; exact hv) | cases h
theorem kInl_ok : InlOk Tryz.prog (kInl fKeys fSorted fKeyIt) := by
  intro w0 f xs off st K KP κ a w vs h hR hvs
  unfold kInl at h
  split at h
  · rename_i c
    cases hf : f.beq fKeys
    · rw [hf] at h
      dsimp only [cond_false] at h
      cases hf2 : f.beq fSorted
      · rw [hf2] at h; exact h.elim
      · rw [hf2] at h
        dsimp only [cond_true] at h
        obtain rfl := Nat.eq_of_beq_eq_true hf2
        obtain ⟨v, rfl⟩ := List.length_eq_one_iff.1 hvs.1
        obtain ⟨v', hv', hv⟩ := hvs.2 0 _ rfl
        injection hv' with hv'; subst hv'
        split at h
        · rename_i g s
          cases hg : g.beq fKeyIt
          · rw [hg] at h; exact h.elim
          · rw [hg] at h
            dsimp only [cond_true] at h
            obtain rfl := Nat.eq_of_beq_eq_true hg
            split at h
            · rename_i l hl
              obtain ⟨⟨hnd, hlen, hbig⟩, hK⟩ := h
              refine ⟨⟨_, Tryz.func37, by kernel_rfl, by kernel_rfl⟩, ?_⟩
              obtain ⟨g, rfl, hgl, hgS, hgc⟩ := hv
              have fin : ∀ (w' : World) (v : Value) (ss : List (List UInt8)), ss.Perm l → w'.ownsRow w.heap.size 9 1 v ss.length ((ss.mergeSort (fun x y => decide (x ≤ y))).map encStr) → Below w.heap.size w w' →
                  ∃ (v' : Value) (rs : List Comp) (κ' : Cx) (st' : St), Ending.returned v = .returned v' ∧ K rs st' ∧ Rel w0 κ' st' a w' ∧ (retAV rs).Rep κ' w' v' := fun w' v ss hp hrow hbl => by
                refine ⟨v, _, _, st, rfl, hK, hR.later hbl, ?_⟩
                have e : sortS ss = sortS l := sortS_perm hnd hp
                have hlen' : ss.length = (sortS l).length := by rw [← e]; exact (List.length_mergeSort ss).symm
                have hrow' : w'.ownsRow w.heap.size 9 1 v ss.length ((sortS l).map encStr) := by rw [← e]; exact hrow
                exact texts_row hlen' hrow' fun g h1 h2 => .inr ⟨h1, h2⟩
              rcases keysS_spec hR hl with ⟨hs, rfl⟩ | ⟨b, es, clock, hs, hb, hborn, hap, hsz, hat⟩
              · rw [hs] at hgc
                refine (sorted_none g w hgl hgc).mono ?_
                rintro e w' ⟨v, ss, rfl, rfl, hrow, _, hbl⟩
                exact .inl (fin w' v [] (List.Perm.refl _) hrow hbl)
              · rw [hs] at hgc
                obtain ⟨D0, hown, hsize, hperm⟩ := owns_texts hb hborn hap hsz hat hnd hlen hbig
                refine (sorted_some g b _ D0 w hgl hgc hown (by omega)).mono ?_
                rintro e w' ⟨v, ss, rfl, hp, hrow, _, hbl⟩
                exact .inl (fin w' v ss (hp.trans hperm) hrow hbl)
            · exact h.elim
        · exact h.elim
    · rw [hf] at h
      dsimp only [cond_true] at h
      obtain rfl := Nat.eq_of_beq_eq_true hf
      obtain ⟨v, rfl⟩ := List.length_eq_one_iff.1 hvs.1
      obtain ⟨v', hv', hv⟩ := hvs.2 0 _ rfl
      injection hv' with hv'; subst hv'
      split at h
      · rename_i s hs
        refine ⟨⟨_, Tryz.func38, by kernel_rfl, by kernel_rfl⟩, ?_⟩
        obtain rfl := srcOfC_spec hs hv
        refine ((callsIn_wide (n := 5)).1 (Tryz.maps_Keys_38 (κ.src s) w)).mono ?_
        rintro e w' ⟨rfl, rfl⟩
        have hbl : Below w.heap.size w (w.alloc (.cells #[.map (κ.src s)] 73)) := bel_alloc (bel_refl w) _
        refine .inl ⟨_, _, _, st, rfl, h, hR.later hbl, ?_⟩
        exact ⟨w.heap.size, rfl, by simp, .inr ⟨Nat.le_refl _, by simp⟩, by simp; rfl⟩
      · exact h.elim
  · exact h.elim
end R
end Go.Proofs.YtldnfdghkdibmaaGreatDoor

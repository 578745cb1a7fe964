/-
  places: what it returns at every alphabet of few letters.
-/
import Derived.Test.YtldnfdghkdibmaaGreatDoorAlNamed
import Derived.Test.YtldnfdghkdibmaaGreatDoorAlMap
import Derived.Maps.OwnSet
set_option linter.unusedVariables false
namespace Go.Proofs.YtldnfdghkdibmaaGreatDoor
open Go.RowKit Go.Maps
attribute [local go_sem] alloc_drewN setCell_drewN setRow_drewN

namespace Al
theorem noTwice_snoc (l : List (List UInt8)) (x : List UInt8) : noTwice (l ++ [x]) = (noTwice l && !l.contains x) := by
  induction l with
  | nil => simp [noTwice]
  | cons y l ih =>
    rw [List.cons_append, noTwice, noTwice, ih, Bool.eq_iff_iff]
    simp only [Bool.and_eq_true, Bool.not_eq_true', ← Bool.not_eq_true, List.contains_iff_mem, List.mem_append, List.mem_singleton, List.mem_cons]
    constructor
    · rintro ⟨h1, h2, h3⟩
      exact ⟨⟨fun h => h1 (.inl h), h2⟩, fun h => h.elim (fun h => h1 (.inr (.inl h.symm))) h3⟩
    · rintro ⟨⟨h1, h2⟩, h3⟩
      exact ⟨fun h => h.elim h1 (fun h => h.elim (fun h => h3 (.inl h.symm)) (fun h => by cases h)), h2, fun h => h3 (.inr h)⟩
theorem noTwice_dup {L : List (List UInt8)} {k : Nat} (hk : k < L.length) (h : (L.take k).contains L[k] = true) : noTwice L = false := by
  rw [← Bool.not_eq_true]
  intro hn
  obtain ⟨i, hi, he⟩ := List.getElem_of_mem (List.contains_iff_mem.1 h)
  rw [List.getElem_take] at he
  rw [List.length_take] at hi
  have := noTwice_inj hn (by omega) hk he
  omega
theorem take_snoc {α : Type} (L : List α) (k : Nat) (hk : k < L.length) : L.take (k + 1) = L.take k ++ [L[k]] := by
  rw [List.take_succ_eq_append_getElem hk]
theorem not_formed {a : Alph} (h : Lx.nameB a.name = false ∨ a.letters.length < 1 ∨ 64 < a.letters.length ∨ a.small.length ≠ a.letters.length ∨ (∃ l ∈ a.letters, printedB l = false) ∨ noTwice a.letters = false ∨ (∃ k ∈ a.small, smallAt a.letters.length a.small k = false)) : formedB a = false := by
  rw [← Bool.not_eq_true]
  intro hf
  unfold formedB at hf
  simp only [Bool.and_eq_true, decide_eq_true_eq, beq_iff_eq, List.all_eq_true] at hf
  obtain ⟨⟨⟨⟨⟨h1, h2, h3⟩, h4⟩, h5⟩, h6⟩, h7⟩ := hf
  rcases h with h | h | h | h | ⟨l, hl, h⟩ | h | ⟨k, hk, h⟩
  · rw [h1] at h; cases h
  · omega
  · omega
  · exact h h4
  · rw [h5 l hl] at h; cases h
  · rw [h6] at h; cases h
  · rw [h7 k hk] at h; cases h
theorem is_formed {a : Alph} (h1 : Lx.nameB a.name = true) (h2 : 1 ≤ a.letters.length) (h3 : a.letters.length ≤ 64) (h4 : a.small.length = a.letters.length) (h5 : a.letters.all printedB = true) (h6 : noTwice a.letters = true) (h7 : a.small.all (smallAt a.letters.length a.small) = true) : formedB a = true := by
  unfold formedB
  rw [h1, h5, h6, h7, h4]
  simp [h2, h3]
end Al

/-- what places leaves -/
def PlacesPost (a : Al.Alph) (w : World) (e : Ending) (w' : World) : Prop :=
  Below w.heap.size w w' ∧ ((Al.formedB a = false ∧ e = .returned (.tuple #[.map none, .bool false])) ∨
    (Al.formedB a = true ∧ ∃ b, e = .returned (.tuple #[.map (some b), .bool true]) ∧ w.heap.size ≤ b ∧ w'.ownsMap Tryz.prog 9 (plainElem Tryz.prog 3) b a.letters.length (Al.idxD a.letters a.letters.length)))
theorem PlacesPost.no {a : Al.Alph} {w w' : World} (hb : Below w.heap.size w w') (h : Al.formedB a = false) : PlacesPost a w (.returned (.tuple #[.map none, .bool false])) w' := ⟨hb, .inl ⟨h, rfl⟩⟩

theorem lawStr : Keyed Tryz.prog 9 := string_keyed Tryz.underlying9
theorem zeroInt (w : World) : (zeroValue 3).run Tryz.prog w = .ok (.int .i64 0) w := by kernel_rfl
theorem keyStr (l : List UInt8) (h : l.length ≤ maxLen) : keyOf Tryz.prog 9 (.string (bs l)) = some (.string l) := WideMaps.keyOf_string_mk Tryz.underlying9 h

set_option maxRecDepth 100000 in
set_option maxHeartbeats 4000000 in
theorem places_any (a : Al.Alph) (A A' : Option Addr) (c c' : Nat) (w : World) (hF : Few a) (hA : StrAt w A a.letters) (hS : IntAt w A' a.small) :
    Calls Tryz.prog 34 #[alv a A c A' c'] w (PlacesPost a w) := by
  obtain ⟨hF1, hF2, hF3, hF4⟩ := hF
  have HF2 := Lib.hid hF2
  clear hF2
  have hmm := @run_makeMap Tryz.prog
  obtain ⟨hF1', hF3'⟩ : (a.letters.length : Int) ≤ 70 ∧ (a.small.length : Int) ≤ 70 := by omega
  have hnm : (bs a.name).size ≤ 5000 := by rw [bs_size]; omega
  go_enter Tryz.func34, Tryz.ntmps34
  go_wp2_with fail
  refine (named_any (bs a.name) _ hnm).mono ?_
  rintro e w1 ⟨rfl, hb1⟩
  rw [bs_list]
  have hblk := (Blk.new w 28 #[.string (bs a.name), .slice A a.letters.length c, .slice A' a.small.length c']).bel hb1
  have c0 : w1.cell? ⟨w.heap.size, 0, none⟩ = some (.string (bs a.name)) := hblk.cell 0
  have c1 : w1.cell? ⟨w.heap.size, 1, none⟩ = some (.slice A a.letters.length c) := hblk.cell 1
  have c2 : w1.cell? ⟨w.heap.size, 2, none⟩ = some (.slice A' a.small.length c') := hblk.cell 2
  have hbw : Below w.heap.size w w1 := bel_trans (bel_alloc (bel_refl w) _) hb1
  have hsz1 : w.heap.size < w1.heap.size := hblk.lt
  have HBW := Lib.hid hbw
  have HBLK := Lib.hid hblk
  have HA := Lib.hid hA
  have HS := Lib.hid hS
  clear hbw hblk hb1 hA hS
  cases hn : Lx.nameB a.name
  · have hf := Al.not_formed (a := a) (.inl hn)
    have HF := Lib.hid hf
    clear hf hn
    go_wp2
    go_ret2
    exact PlacesPost.no HBW.out HF.out
  · have HN := Lib.hid hn
    clear hn
    by_cases h1 : a.letters.length < 1
    · have hf := Al.not_formed (a := a) (.inr (.inl h1))
      have HF := Lib.hid hf
      have h1' : (a.letters.length : Int) < 1 := by omega
      clear hf
      go_wp2
      go_ret2
      exact PlacesPost.no HBW.out HF.out
    · have h1' : ¬ (a.letters.length : Int) < 1 := by omega
      by_cases h64 : 64 < a.letters.length
      · have hf := Al.not_formed (a := a) (.inr (.inr (.inl h64)))
        have HF := Lib.hid hf
        have h64' : 64 < (a.letters.length : Int) := by omega
        clear hf
        go_wp2
        go_ret2
        exact PlacesPost.no HBW.out HF.out
      · have h64' : ¬ 64 < (a.letters.length : Int) := by omega
        by_cases hsl : a.small.length = a.letters.length
        · have hsl' : ((a.small.length : Int) != (a.letters.length : Int)) = false := by rw [hsl]; simp
          have HSL := Lib.hid hsl
          clear hsl
          go_wp2
          go_loopw [38] (fun v wr => ∃ k : Nat, v = .int .i64 k ∧ k ≤ a.letters.length ∧ wr.ownsMap Tryz.prog 9 (plainElem Tryz.prog 3) w1.heap.size k (Al.idxD a.letters k) ∧ Below w1.heap.size w1 wr ∧ (a.letters.take k).all Al.printedB = true ∧ Al.noTwice (a.letters.take k) = true) (fun v _ => a.letters.length - (intOf v).toNat)
          case atStart => exact ⟨0, rfl, Nat.zero_le _, World.ownsMap_made _ _ _ _, bel_alloc (bel_refl w1) _, rfl, rfl⟩
          case round =>
            obtain ⟨k, rfl, hk, hown, hbr, hpr, hnt⟩ := hrel
            have d2 : wr.cell? ⟨w.heap.size, 2, none⟩ = some (.slice A' a.small.length c') := ((HBLK.out.bel hbr).cell 2)
            have hszr := hbr.size
            have HPR := Lib.hid hpr
            have HNT := Lib.hid hnt
            have HOWN := Lib.hid hown
            have HBR := Lib.hid hbr
            clear hpr hnt hown hbr c0 c1 c2
            by_cases hlt : k < a.letters.length
            · obtain ⟨g, off, rfl, hg, hcx⟩ := HA.out.at_ k hlt
              have hcx : wr.cell? ⟨g, off + k, none⟩ = some (.string (bs a.letters[k])) := (HBR.out.cell (p := ⟨g, off + k, none⟩) (Nat.lt_of_lt_of_le hg HBW.out.size)).trans ((HBW.out.cell (p := ⟨g, off + k, none⟩) hg).trans hcx)
              have hl20 : a.letters[k].length ≤ 20 := HF2.out _ (List.getElem_mem hlt)
              have hkey := keyStr a.letters[k] (by unfold maxLen; omega)
              have HKEY := Lib.hid hkey
              have hdup := @Al.noTwice_dup a.letters k hlt
              have hsn := Al.noTwice_snoc (a.letters.take k) a.letters[k]
              have htk := Al.take_snoc a.letters k hlt
              have hlk := Al.letterAt_nat a.letters k hlt
              have hmem := List.getElem_mem hlt
              have hhas := Al.has_idxD a.letters a.letters[k] k hk
              have HDUP := Lib.hid hdup
              have HSN := Lib.hid hsn
              have HTK := Lib.hid htk
              have HLK := Lib.hid hlk
              have HMEM := Lib.hid hmem
              clear hkey hdup hsn htk hlk hmem
              generalize a.letters[k] = x at *
              cases hct : (a.letters.take k).contains x
              · rw [hct] at hhas
                have HCT := Lib.hid hct
                have HHAS := Lib.hid hhas
                clear hct hhas
                go_wp2_with (at_lookup; refine wpList_lookup_own_ok_int _ rfl _ _ 67 rfl 9 3 .i64 lawStr Tryz.underlying67 Tryz.underlying3 (zeroInt _) w1.heap.size k _ rfl HOWN.out _ _ rfl HKEY.out ?_; intro cc hat hwc; rw [HHAS.out]; clear hat hwc)
                refine (printed_any (bs x) _ (by rw [bs_size]; omega)).mono ?_
                rintro e w' ⟨rfl, rfl⟩
                rw [bs_list]
                cases hpx : Al.printedB x
                · have hf := Al.not_formed (a := a) (.inr (.inr (.inr (.inr (.inl ⟨x, HMEM.out, hpx⟩)))))
                  have HF := Lib.hid hf
                  clear hf hpx
                  go_wp2
                  go_ret2
                  exact PlacesPost.no (bel_trans HBW.out HBR.out) HF.out
                · have HPX := Lib.hid hpx
                  clear hpx
                  go_wp2_with (at_mapUpdate; refine wpList_mapUpdate_own _ rfl _ _ _ 67 rfl 9 3 lawStr Tryz.underlying67 _ w1.heap.size k _ rfl HOWN.out (by unfold maxLen; omega) _ _ _ rfl rfl HKEY.out _ [] (plainElem_int Tryz.underlying3 (by exact wf_nat k (by omega))) ?_; intro w4 hown4 hgrow4; have HOWN4 := Lib.hid hown4; have HG4 := Lib.hid hgrow4; clear hown4 hgrow4)
                  go_roundw
                  case rel =>
                    refine ⟨k + 1, by go_num, hlt, ?_, ?_, ?_, ?_⟩
                    · have := HOWN4.out
                      rw [Al.idxD, HLK.out]
                      exact this
                    · exact bel_grown HBR.out HG4.out (fun j hj => by cases hj; exact Nat.le_refl _)
                    · rw [HTK.out, List.all_append, HPR.out]
                      simp [HPX.out]
                    · rw [HTK.out, HSN.out, HNT.out, HCT.out]
                      rfl
                  case measure => simp [intOf]; omega
              · rw [hct] at hhas
                have hf := Al.not_formed (a := a) (.inr (.inr (.inr (.inr (.inr (.inl (HDUP.out hct)))))))
                have HF := Lib.hid hf
                have HHAS := Lib.hid hhas
                clear hf hct hhas
                go_wp2_with (at_lookup; refine wpList_lookup_own_ok_int _ rfl _ _ 67 rfl 9 3 .i64 lawStr Tryz.underlying67 Tryz.underlying3 (zeroInt _) w1.heap.size k _ rfl HOWN.out _ _ rfl HKEY.out ?_; intro cc hat hwc; rw [HHAS.out]; clear hat hwc)
                go_ret2
                exact PlacesPost.no (bel_trans HBW.out HBR.out) HF.out
            · obtain rfl : k = a.letters.length := by omega
              go_wp2
              go_loop [62] (fun v => ∃ j : Nat, v = .int .i64 j ∧ j ≤ a.small.length ∧ (a.small.take j).all (Al.smallAt a.letters.length a.small) = true) (fun v => a.small.length - (intOf v).toNat)
              case atStart => exact ⟨0, rfl, Nat.zero_le _, rfl⟩
              case round =>
                obtain ⟨j, rfl, hj, hsm⟩ := hrel
                have HSM := Lib.hid hsm
                clear hsm
                by_cases hlt2 : j < a.small.length
                · have hnos : ∀ k ∈ a.small, Al.smallAt a.letters.length a.small k = false → Al.formedB a = false := fun k h1 h2 => Al.not_formed (a := a) (.inr (.inr (.inr (.inr (.inr (.inr ⟨k, h1, h2⟩))))))
                  have HNOS := Lib.hid hnos
                  obtain ⟨g, off, rfl, hg, hall⟩ := HS.out (by omega)
                  have hW : ∀ (j : Nat) k, a.small[j]? = some k → wr.cell? ⟨g, off + j, none⟩ = some (.int .i64 k) := fun j k h => (HBR.out.cell (p := ⟨g, off + j, none⟩) (Nat.lt_of_lt_of_le hg HBW.out.size)).trans ((HBW.out.cell (p := ⟨g, off + j, none⟩) hg).trans (hall j k h))
                  have HW := Lib.hid hW
                  obtain ⟨x, hx⟩ : ∃ x, a.small[j]? = some x := ⟨_, List.getElem?_eq_getElem hlt2⟩
                  have hcx := hW j x hx
                  have hxm : x ∈ a.small := List.mem_of_getElem? hx
                  have htk : a.small.take (j + 1) = a.small.take j ++ [x] := by rw [List.take_add_one, hx]; rfl
                  have HXM := Lib.hid hxm
                  have HTK := Lib.hid htk
                  clear hnos hall hW hx hxm htk
                  by_cases x0 : x < 0
                  · have hf := HNOS.out x HXM.out (by unfold Al.smallAt; rw [decide_eq_false (by omega)]; rfl)
                    have HF := Lib.hid hf
                    clear hf
                    go_wp2
                    go_ret2
                    exact PlacesPost.no (bel_trans HBW.out HBR.out) HF.out
                  · by_cases xn : (a.letters.length : Int) ≤ x
                    · have hf := HNOS.out x HXM.out (by unfold Al.smallAt; rw [decide_eq_false (p := x < _) (by omega)]; simp)
                      have HF := Lib.hid hf
                      clear hf
                      go_wp2
                      go_ret2
                      exact PlacesPost.no (bel_trans HBW.out HBR.out) HF.out
                    · obtain ⟨X, rfl⟩ : ∃ X : Nat, x = X := ⟨x.toNat, by omega⟩
                      have hXl : X < a.small.length := by rw [HSL.out]; omega
                      obtain ⟨y, hy⟩ : ∃ y, a.small[X]? = some y := ⟨_, List.getElem?_eq_getElem hXl⟩
                      have hcy := HW.out X y hy
                      have hya : Al.smallAt a.letters.length a.small X = (y == (X : Int)) := by
                        unfold Al.smallAt
                        rw [decide_eq_true (by omega), decide_eq_true (by omega), List.getD_eq_getElem?_getD, Int.toNat_natCast, hy]
                        rfl
                      have HYA := Lib.hid hya
                      clear hy hya
                      by_cases hyx : y = (X : Int)
                      · subst hyx
                        have hb2 : ((X : Int) != (X : Int)) = false := by simp
                        go_wp2
                        go_round
                        case rel =>
                          refine ⟨j + 1, by go_num, hlt2, ?_⟩
                          rw [HTK.out, List.all_append, HSM.out]
                          simp [HYA.out]
                        case measure => simp [intOf]; omega
                      · have hf := HNOS.out X HXM.out (by rw [HYA.out, beq_eq_false_iff_ne]; exact hyx)
                        have HF := Lib.hid hf
                        have hb2 : (y != (X : Int)) = true := by rw [bne_iff_ne]; exact hyx
                        clear hf hyx
                        by_cases y0 : y < 0
                        · go_wp2
                          go_ret2
                          exact PlacesPost.no (bel_trans HBW.out HBR.out) HF.out
                        · by_cases yn : (a.letters.length : Int) ≤ y
                          · go_wp2
                            go_ret2
                            exact PlacesPost.no (bel_trans HBW.out HBR.out) HF.out
                          · go_wp2
                            go_ret2
                            exact PlacesPost.no (bel_trans HBW.out HBR.out) HF.out
                · have hall : a.small.all (Al.smallAt a.letters.length a.small) = true := by
                    have := HSM.out
                    rwa [List.take_of_length_le (by omega)] at this
                  have h5 : a.letters.all Al.printedB = true := by
                    have := HPR.out
                    rwa [List.take_of_length_le (by omega)] at this
                  have h6 : Al.noTwice a.letters = true := by
                    have := HNT.out
                    rwa [List.take_of_length_le (by omega)] at this
                  have hf := Al.is_formed HN.out (by omega) (by omega) HSL.out h5 h6 hall
                  have HF := Lib.hid hf
                  clear hall h5 h6 hf
                  go_wp2
                  go_ret2
                  exact ⟨bel_trans HBW.out HBR.out, .inr ⟨HF.out, _, rfl, by omega, HOWN.out⟩⟩
        · have hf := Al.not_formed (a := a) (.inr (.inr (.inr (.inl hsl))))
          have HF := Lib.hid hf
          have hsl' : ((a.small.length : Int) != (a.letters.length : Int)) = true := by rw [bne_iff_ne]; omega
          clear hf hsl
          go_wp2
          go_ret2
          exact PlacesPost.no HBW.out HF.out
end Go.Proofs.YtldnfdghkdibmaaGreatDoor

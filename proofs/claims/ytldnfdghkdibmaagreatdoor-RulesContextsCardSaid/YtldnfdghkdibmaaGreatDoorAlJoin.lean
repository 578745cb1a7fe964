/-
  Join: what it returns at every alphabet of few letters.
-/
import Derived.Test.YtldnfdghkdibmaaGreatDoorAlRead
import Derived.Test.YtldnfdghkdibmaaGreatDoorBuilder
set_option linter.unusedVariables false
namespace Go.Proofs.YtldnfdghkdibmaaGreatDoor
open Go.RowKit Go.Maps
attribute [local go_sem] alloc_drewN setCell_drewN setRow_drewN

namespace Al
theorem joinL_snoc (L : List (List UInt8)) (ks : List Int) (k : Int) : joinL L (ks ++ [k]) = joinL L ks ++ letterAt L k := by simp [joinL]
theorem inRange_snoc (n : Nat) (ks : List Int) (k : Int) : inRange n (ks ++ [k]) = (inRange n ks && (decide (0 ≤ k) && decide (k < n))) := by simp [inRange]
theorem inRange_no {n : Nat} {ks : List Int} {k : Int} (hk : k ∈ ks) (h : ¬ (0 ≤ k ∧ k < (n : Int))) : inRange n ks = false := by
  rw [← Bool.not_eq_true]
  intro hr
  exact h (inRange_mem hr k hk)
theorem joinL_le {L : List (List UInt8)} (h : ∀ l ∈ L, l.length ≤ 20) (ks : List Int) : (joinL L ks).length ≤ 20 * ks.length := by
  induction ks with
  | nil => simp [joinL]
  | cons k ks ih =>
    have hl : (letterAt L k).length ≤ 20 := by
      unfold letterAt
      rw [List.getD_eq_getElem?_getD]
      cases hg : L[k.toNat]? with
      | none => simp
      | some x => exact h x (List.mem_of_getElem? hg)
    have : joinL L (k :: ks) = letterAt L k ++ joinL L ks := by simp [joinL]
    rw [this, List.length_append, List.length_cons]
    omega
theorem join_no {a : Alph} {ks : List Int} (h : validB a = false ∨ ks.length < 1 ∨ 24 < ks.length ∨ inRange a.letters.length ks = false) : joinB a ks = ([], 1) := by
  unfold joinB
  rw [if_neg]
  simp only [Bool.and_eq_true, decide_eq_true_eq]
  rintro ⟨⟨h1, h2, h3⟩, h4⟩
  rcases h with h | h | h | h
  · rw [h1] at h; cases h
  · omega
  · omega
  · rw [h4] at h; cases h
theorem join_yes {a : Alph} {ks : List Int} (h1 : validB a = true) (h2 : 1 ≤ ks.length) (h3 : ks.length ≤ 24) (h4 : inRange a.letters.length ks = true) : joinB a ks = (joinL a.letters ks, 0) := by
  unfold joinB
  rw [if_pos]
  simp only [Bool.and_eq_true, decide_eq_true_eq]
  exact ⟨⟨h1, h2, h3⟩, h4⟩
end Al

/-- what Join leaves -/
def JoinPost (a : Al.Alph) (ks : List Int) (w : World) (e : Ending) (w' : World) : Prop :=
  e = .returned (.tuple #[.string (bs (Al.joinB a ks).1), .int .i64 (Al.joinB a ks).2]) ∧ Below w.heap.size w w'
theorem JoinPost.no {a : Al.Alph} {ks : List Int} {w w' : World} (h : Al.joinB a ks = ([], 1)) (hb : Below w.heap.size w w') : JoinPost a ks w (.returned (.tuple #[.string { data := #[] }, .int .i64 1])) w' := ⟨by rw [h]; rfl, hb⟩

set_option maxRecDepth 100000 in
set_option maxHeartbeats 2000000 in
theorem join_any (a : Al.Alph) (A A' K : Option Addr) (c c' ck : Nat) (ks : List Int) (w : World) (hF : Few a) (hA : StrAt w A a.letters) (hS : IntAt w A' a.small) (hK : IntAt w K ks) (hks : ks.length ≤ 1000000) :
    Calls Tryz.prog 21 #[alv a A c A' c', .slice K ks.length ck] w (JoinPost a ks w) := by
  have HFEW := Lib.hid hF
  have HF2 := Lib.hid hF.len
  have hF1 := hF.n
  clear hF
  go_enter Tryz.func21, Tryz.ntmps21
  go_wp2_with fail
  refine (valid_any a A A' c c' _ HFEW.out (hA.bel (bel_alloc (bel_refl w) _)) (hS.bel (bel_alloc (bel_refl w) _))).mono ?_
  rintro e w1 ⟨rfl, hb1⟩
  have hbw : Below w.heap.size w w1 := bel_trans (bel_alloc (bel_refl w) _) hb1
  have hblk := (Blk.new w 28 #[.string (bs a.name), .slice A a.letters.length c, .slice A' a.small.length c']).bel hb1
  have hsz1 : w.heap.size < w1.heap.size := hblk.lt
  have HBW := Lib.hid hbw
  have HBLK := Lib.hid hblk
  have HA := Lib.hid hA
  have HK := Lib.hid hK
  clear hbw hblk hb1 hA hS hK
  cases hv : Al.validB a
  · have hj := Al.join_no (ks := ks) (.inl hv)
    have HJ := Lib.hid hj
    clear hj hv
    go_wp2
    go_ret2
    exact JoinPost.no HJ.out HBW.out
  · have HV := Lib.hid hv
    clear hv
    by_cases h1 : ks.length < 1
    · have hj := Al.join_no (a := a) (ks := ks) (.inr (.inl h1))
      have HJ := Lib.hid hj
      have h1' : (ks.length : Int) < 1 := by omega
      clear hj
      go_wp2
      go_ret2
      exact JoinPost.no HJ.out HBW.out
    · have h1' : ¬ (ks.length : Int) < 1 := by omega
      by_cases h24 : 24 < ks.length
      · have hj := Al.join_no (a := a) (ks := ks) (.inr (.inr (.inl h24)))
        have HJ := Lib.hid hj
        have h24' : 24 < (ks.length : Int) := by omega
        clear hj
        go_wp2
        go_ret2
        exact JoinPost.no HJ.out HBW.out
      · have h24' : ¬ 24 < (ks.length : Int) := by omega
        go_wp2
        go_loopw [24] (fun v wr => ∃ k : Nat, v = .int .i64 k ∧ k ≤ ks.length ∧ Al.inRange a.letters.length (ks.take k) = true ∧ Lib.IsBuilder 99 5 w1.heap.size w1.heap.size (Lib.byteCells (Al.joinL a.letters (ks.take k))) wr ∧ Below w1.heap.size w1 wr) (fun v _ => ks.length - (intOf v).toNat)
        case atStart => exact ⟨0, rfl, by omega, rfl, Lib.fresh_isBuilder _ _ w1, bel_alloc (bel_refl w1) _⟩
        case round =>
          obtain ⟨k, rfl, hk, hin, hbd, hbr⟩ := hrel
          have hszr := hbr.size
          have hc1 : wr.cell? ⟨w.heap.size, 1, none⟩ = some (.slice A a.letters.length c) := ((HBLK.out.bel hbr).cell 1)
          have hjl := Al.joinL_le HF2.out (ks.take k)
          rw [List.length_take] at hjl
          have HIN := Lib.hid hin
          have HBD := Lib.hid hbd
          have HBR := Lib.hid hbr
          clear hin hbd hbr
          by_cases hlt : k < ks.length
          · obtain ⟨g, off, rfl, hg, hcx⟩ := HK.out.at_ k hlt
            have hcx : wr.cell? ⟨g, off + k, none⟩ = some (.int .i64 ks[k]) := (HBR.out.cell (p := ⟨g, off + k, none⟩) (Nat.lt_of_lt_of_le hg HBW.out.size)).trans ((HBW.out.cell (p := ⟨g, off + k, none⟩) hg).trans hcx)
            have htk := Al.take_snoc ks k hlt
            have hmem : ks[k] ∈ ks := List.getElem_mem hlt
            have HTK := Lib.hid htk
            have HMEM := Lib.hid hmem
            clear htk hmem
            generalize ks[k] = x at *
            by_cases x0 : x < 0
            · have hj := Al.join_no (a := a) (ks := ks) (.inr (.inr (.inr (Al.inRange_no HMEM.out (by omega)))))
              have HJ := Lib.hid hj
              clear hj
              go_wp2
              go_ret2
              exact JoinPost.no HJ.out (bel_trans HBW.out HBR.out)
            · by_cases xn : (a.letters.length : Int) ≤ x
              · have hj := Al.join_no (a := a) (ks := ks) (.inr (.inr (.inr (Al.inRange_no HMEM.out (by omega)))))
                have HJ := Lib.hid hj
                clear hj
                go_wp2
                go_ret2
                exact JoinPost.no HJ.out (bel_trans HBW.out HBR.out)
              · obtain ⟨X, rfl⟩ : ∃ X : Nat, x = X := ⟨x.toNat, by omega⟩
                have hX : X < a.letters.length := by omega
                obtain ⟨g2, off2, rfl, hg2, hcy⟩ := HA.out.at_ X hX
                have hcy : wr.cell? ⟨g2, off2 + X, none⟩ = some (.string (bs a.letters[X])) := (HBR.out.cell (p := ⟨g2, off2 + X, none⟩) (Nat.lt_of_lt_of_le hg2 HBW.out.size)).trans ((HBW.out.cell (p := ⟨g2, off2 + X, none⟩) hg2).trans hcy)
                have hla := Al.letterAt_nat a.letters X hX
                have hl20 := HF2.out _ (List.getElem_mem hX)
                have HLA := Lib.hid hla
                clear hla
                generalize a.letters[X] = y at *
                go_wp2_with fail
                refine (write_any w1.heap.size w1.heap.size _ (bs y) _ HBD.out (by rw [Lib.byteCells_length, bs_size]; omega) (by omega)).mono ?_
                rintro e w5 ⟨rfl, hbd5, hb5, _⟩
                have HBD5 := Lib.hid hbd5
                have HB5 := Lib.hid hb5
                clear hbd5 hb5
                go_wp2
                go_roundw
                case rel =>
                  refine ⟨k + 1, by go_num, hlt, ?_, ?_, HBR.out.trans HB5.out⟩
                  · rw [HTK.out, Al.inRange_snoc, HIN.out]
                    simp
                    exact hX
                  · rw [HTK.out, Al.joinL_snoc, HLA.out, Lib.byteCells, List.map_append]
                    exact HBD5.out
                case measure => simp [intOf]; omega
          · have hall : Al.inRange a.letters.length ks = true := by
              have := HIN.out
              rwa [List.take_of_length_le (by omega)] at this
            have hj := Al.join_yes HV.out (by omega) (by omega) hall
            have hbd2 := HBD.out
            rw [List.take_of_length_le (by omega)] at hbd2
            have HJ := Lib.hid hj
            have HBD2 := Lib.hid hbd2
            clear hall hj hbd2
            go_wp2_with fail
            refine (Tryz.Builder_String_any w1.heap.size w1.heap.size _ _ HBD2.out (by omega)).mono ?_
            rintro e w6 ⟨rfl, hb6⟩
            have HB6 := Lib.hid hb6
            clear hb6
            go_wp2
            go_ret2
            refine ⟨?_, HBW.out.trans ((HBR.out.trans HB6.out).mono HBW.out.size)⟩
            rw [HJ.out]
            rfl
end Go.Proofs.YtldnfdghkdibmaaGreatDoor

/-
  Valid: what it returns at every alphabet of few letters.
-/
import Derived.Test.YtldnfdghkdibmaaGreatDoorAlPlaces
import Derived.Laws.EntriesVeiled
set_option linter.unusedVariables false
namespace Go.Proofs.YtldnfdghkdibmaaGreatDoor
open Go.RowKit Go.Maps
attribute [local go_sem] alloc_drewN setCell_drewN setRow_drewN

/-- the variable that holds the closure 'follows', and the alphabet that it has captured -/
structure Fol (w : World) (L : List (List UInt8)) (ba bf : Nat) (A : Option Addr) (c : Nat) : Prop where
  a1 : w.cell? ⟨ba, 1, none⟩ = some (.slice A L.length c)
  f0 : w.cell? ⟨bf, 0, none⟩ = some (.func (.func 60) #[] #[.pointer (some ⟨ba, 0, none⟩), .pointer (some ⟨bf, 0, none⟩)])
  st : StrAt w A L

def fol1 (L : List (List UInt8)) (f : Nat) (s l : List UInt8) : Bool := s.isPrefixOf l || (l.isPrefixOf s && Al.follows L f (s.drop l.length))
theorem follows_succ (L : List (List UInt8)) (f : Nat) (s : List UInt8) : Al.follows L (f + 1) s = L.any (fol1 L f s) := rfl

set_option maxRecDepth 100000 in
set_option maxHeartbeats 2000000 in
theorem follows_any (L : List (List UInt8)) (hL : ∀ l ∈ L, 1 ≤ l.length ∧ l.length ≤ 20) (hn : L.length ≤ 70) (ba bf : Nat) (A : Option Addr) (c : Nat) : ∀ (f : Nat) (s : List UInt8) (w : World), s.length < f → s.length ≤ 1000 → Fol w L ba bf A c →
    Calls Tryz.prog 60 #[.string (bs s), .pointer (some ⟨ba, 0, none⟩), .pointer (some ⟨bf, 0, none⟩)] w fun e w' => e = .returned (.bool (Al.follows L f s)) ∧ w' = w := by
  intro f
  induction f with
  | zero => intro s w h; omega
  | succ f ih =>
    intro s w hs hs2 hF
    have HL := Lib.hid hL
    have IH := Lib.hid ih
    have h1 := hF.a1
    have h2 := hF.f0
    have HST := Lib.hid hF.st
    have HF := Lib.hid hF
    have HFS := Lib.hid (follows_succ L f s)
    clear hL ih hF
    go_enter Tryz.func60, Tryz.ntmps60
    go_wp2
    go_loop [12] (fun v => ∃ k : Nat, v = .int .i64 k ∧ k ≤ L.length ∧ Al.follows L (f + 1) s = (L.drop k).any (fol1 L f s)) (fun v => L.length - (intOf v).toNat)
    case atStart => exact ⟨0, rfl, by omega, HFS.out⟩
    case round =>
      obtain ⟨k, rfl, hk, hr⟩ := hrel
      have HR := Lib.hid hr
      clear hr
      by_cases hlt : k < L.length
      · obtain ⟨g, off, rfl, hg, hcx⟩ := HST.out.at_ k hlt
        have hlx := HL.out _ (List.getElem_mem hlt)
        have hdr := List.drop_eq_getElem_cons hlt
        have HDR := Lib.hid hdr
        clear hdr
        generalize L[k] = x at *
        go_wp2_with fail
        refine (Tryz.strings_HasPrefix (bs x) (bs s) _).mono ?_
        rintro e w' ⟨rfl, rfl⟩
        rw [bs_list, bs_list]
        unfold Lib.hasPrefix
        cases hp : s.isPrefixOf x
        · have HP := Lib.hid hp
          have hs1 : 1 ≤ s.length := by
            cases s with
            | nil => simp at hp
            | cons y r => simp
          clear hp
          go_wp2_with fail
          refine (Tryz.strings_CutPrefix (bs s) (bs x) _).mono ?_
          rintro e w' ⟨rfl, rfl⟩
          rw [bs_list, bs_list]
          unfold Lib.hasPrefix
          cases hq : x.isPrefixOf s
          · have hf : Al.follows L (f + 1) s = (L.drop (k + 1)).any (fol1 L f s) := by
              rw [HR.out, HDR.out, List.any_cons]
              have : fol1 L f s x = false := by unfold fol1; rw [HP.out, hq]; rfl
              rw [this]
              rfl
            have HFF := Lib.hid hf
            clear hf hq
            go_wp2
            go_round
            case rel => exact ⟨k + 1, by go_num, hlt, HFF.out⟩
            case measure => simp [intOf]; omega
          · have htr : (⟨(Lib.trimPrefix s x).toArray⟩ : ByteArray) = bs (s.drop x.length) := by
              unfold Lib.trimPrefix
              rw [if_pos (by unfold Lib.hasPrefix; exact hq)]
              rfl
            rw [htr]
            have HQ := Lib.hid hq
            clear hq htr
            go_wp2_with fail
            refine (IH.out (s.drop x.length) _ (by rw [List.length_drop]; omega) (by rw [List.length_drop]; omega) HF.out).mono ?_
            rintro e w' ⟨rfl, rfl⟩
            have hx : fol1 L f s x = Al.follows L f (s.drop x.length) := by unfold fol1; rw [HP.out, HQ.out]; rfl
            have hf : Al.follows L (f + 1) s = (Al.follows L f (s.drop x.length) || (L.drop (k + 1)).any (fol1 L f s)) := by
              rw [HR.out, HDR.out, List.any_cons, hx]
            have HFF := Lib.hid hf
            clear hx hf
            cases hfo : Al.follows L f (s.drop x.length)
            · have hff := HFF.out
              rw [hfo, Bool.false_or] at hff
              have HFF2 := Lib.hid hff
              clear hff hfo
              go_wp2
              go_round
              case rel => exact ⟨k + 1, by go_num, hlt, HFF2.out⟩
              case measure => simp [intOf]; omega
            · have hff := HFF.out
              rw [hfo, Bool.true_or] at hff
              have HFF2 := Lib.hid hff
              clear hff hfo
              go_wp2
              go_ret
              exact ⟨ret_bool HFF2.out.symm, rfl⟩
        · have hf : Al.follows L (f + 1) s = true := by
            rw [HR.out, HDR.out, List.any_cons]
            have : fol1 L f s x = true := by unfold fol1; rw [hp]; rfl
            rw [this]
            rfl
          have HFF := Lib.hid hf
          clear hf hp
          go_wp2
          go_ret
          exact ⟨ret_bool HFF.out.symm, rfl⟩
      · have hf : Al.follows L (f + 1) s = false := by
          rw [HR.out, List.drop_eq_nil_of_le (by omega)]
          rfl
        have HFF := Lib.hid hf
        clear hf
        go_wp2
        go_ret
        exact ⟨ret_bool HFF.out.symm, rfl⟩

/-- no clash at a letter -/
def goodL (L : List (List UInt8)) (l : List UInt8) : Bool := !Al.clash L l 1 && !Al.clash L l 2
theorem Fol.drewN {w : World} {L : List (List UInt8)} {ba bf : Nat} {A : Option Addr} {c : Nat} (h : Fol w L ba bf A c) (n : Nat) : Fol (w.drewN n) L ba bf A c := ⟨h.a1, h.f0, h.st⟩

set_option maxRecDepth 100000 in
set_option maxHeartbeats 1000000 in
theorem valid_any (a : Al.Alph) (A A' : Option Addr) (c c' : Nat) (w : World) (hF : Few a) (hA : StrAt w A a.letters) (hS : IntAt w A' a.small) :
    Calls Tryz.prog 33 #[alv a A c A' c'] w fun e w' => e = .returned (.bool (Al.validB a)) ∧ Below w.heap.size w w' := by
  have HFEW := Lib.hid hF
  clear hF
  go_enter Tryz.func33, Tryz.ntmps33
  go_wp2
  go_step3
  go_wp2_with fail
  refine (places_any a A A' c c' _ HFEW.out (hA.bel (bel_alloc (bel_refl w) _)) (hS.bel (bel_alloc (bel_refl w) _))).mono ?_
  rintro e w1 ⟨hb1, (⟨hf, rfl⟩ | ⟨hf, b, rfl, hb, hown⟩)⟩
  · have hv : Al.validB a = false := by unfold Al.validB; rw [hf]; rfl
    have HV := Lib.hid hv
    have HB := Lib.hid (bel_trans (bel_alloc (bel_refl w) _) hb1)
    clear hv hf hb1 hA hS
    go_wp2
    repeat (first | rw [Exit.noGoto_ret] | simp only [Exit.inBlock, Exit.then])
    go_ret
    exact ⟨ret_bool HV.out.symm, HB.out⟩
  · have hblk := (Blk.new w 28 #[.string (bs a.name), .slice A a.letters.length c, .slice A' a.small.length c']).bel hb1
    have hbw : Below w.heap.size w w1 := bel_trans (bel_alloc (bel_refl w) _) hb1
    have hsz1 : w.heap.size < w1.heap.size := hblk.lt
    have c1 : w1.cell? ⟨w.heap.size, 1, none⟩ = some (.slice A a.letters.length c) := hblk.cell 1
    have HBW := Lib.hid hbw
    have HBLK := Lib.hid hblk
    have HA := Lib.hid hA
    have HFO := Lib.hid hf
    have HOWN := Lib.hid hown
    clear hbw hblk hb1 hA hS hf hown
    go_wp2
    have hF0 : Fol (w1.alloc (.cells #[.func (.func 60) #[] #[.pointer (some ⟨w.heap.size, 0, none⟩), .pointer (some ⟨w1.heap.size, 0, none⟩)]] 49)) a.letters w.heap.size w1.heap.size A c :=
      ⟨((HBLK.out.alloc _).cell 1), (Blk.new w1 _ _).cell 0, HA.out.bel (bel_alloc HBW.out _)⟩
    have hown0 := HOWN.out.alloc (.cells #[.func (.func 60) #[] #[.pointer (some ⟨w.heap.size, 0, none⟩), .pointer (some ⟨w1.heap.size, 0, none⟩)]] 49)
    have hbw0 := bel_alloc HBW.out (.cells #[.func (.func 60) #[] #[.pointer (some ⟨w.heap.size, 0, none⟩), .pointer (some ⟨w1.heap.size, 0, none⟩)]] 49)
    have hfc := hF0.f0
    have hac := hF0.a1
    generalize w1.alloc (.cells #[.func (.func 60) #[] #[.pointer (some ⟨w.heap.size, 0, none⟩), .pointer (some ⟨w1.heap.size, 0, none⟩)]] 49) = W0 at *
    have HF0 := Lib.hid hF0
    have HOWN0 := Lib.hid hown0
    have HBW0 := Lib.hid hbw0
    clear hF0 hown0 hbw0 HBW HOWN HBLK HA c1
    obtain ⟨q1, q2, q3, q4⟩ := HFEW.out
    have HQ2 := Lib.hid q2
    have HL3 := Lib.hid (Al.formed_letters HFO.out)
    clear q2 q3 q4
    go_step3
    go_wp2
    go_loopg [22] a.letters.length (fun g v wr => ∃ k m : Nat, k + g = a.letters.length ∧ v = .int .i64 k ∧ wr = W0.drewN m ∧ (a.letters.take k).all (goodL a.letters) = true)
    case atStart => exact ⟨0, 0, by omega, rfl, rfl, rfl⟩
    case round =>
      obtain ⟨k, m, hkg, rfl, rfl, hgd⟩ := hrel
      have HGD := Lib.hid hgd
      clear hgd
      cases gk with
      | zero =>
        have hv : Al.validB a = true := by
          have := HGD.out
          rw [List.take_of_length_le (by omega)] at this
          unfold Al.validB
          rw [HFO.out, Bool.true_and]
          exact this
        have HV := Lib.hid hv
        have hk2 : ¬ ((k : Int) < (a.letters.length : Int)) := by omega
        clear hv
        go_wp2
        repeat (first | rw [Exit.noGoto_ret] | simp only [Exit.inBlock, Exit.then])
        go_ret
        exact ⟨ret_bool HV.out.symm, bel_drewN HBW0.out _⟩
      | succ g =>
        have hlt : k < a.letters.length := by omega
        have hk2 : ((k : Int) < (a.letters.length : Int)) := by omega
        obtain ⟨gb, off, rfl, hg, hcx⟩ := HF0.out.st.at_ k hlt
        have hlx := HL3.out _ (List.getElem_mem hlt)
        have htk := Al.take_snoc a.letters k hlt
        have hmem := List.getElem_mem hlt
        have HTK := Lib.hid htk
        have HMEM := Lib.hid hmem
        clear htk hmem
        generalize a.letters[k] = x at *
        have hxs : (bs x).size ≤ 3 := by rw [bs_size]; exact hlx.2
        go_wp2
        go_loopg [8] 3 (fun g2 v wr => ∃ j m2 : Nat, j + g2 = 4 ∧ 1 ≤ j ∧ v = .int .i64 j ∧ wr = W0.drewN m2 ∧ (2 ≤ j → Al.clash a.letters x 1 = false) ∧ (3 ≤ j → Al.clash a.letters x 2 = false))
        case atStart => exact ⟨1, m, by omega, by omega, rfl, rfl, fun h => by omega, fun h => by omega⟩
        case round =>
          obtain ⟨j, m2, hjg, hj1, rfl, rfl, hc1, hc2⟩ := hrel
          have HC1 := Lib.hid hc1
          have HC2 := Lib.hid hc2
          clear hc1 hc2
          by_cases hjx : j < x.length
          · have hj2 : j ≤ 2 := by omega
            have hjx' : ((j : Int) < ((bs x).size : Int)) := by rw [bs_size]; omega
            have e1 : (bs x).extract 0 j = bs (x.take j) := by rw [extract_bs, bs_list, List.drop_zero, Nat.sub_zero]
            have e2 : (bs x).extract j x.length = bs (x.drop j) := by rw [extract_bs, bs_list, List.take_of_length_le (by rw [List.length_drop]; omega)]
            have hkey := keyStr (x.take j) (by unfold maxLen; rw [List.length_take]; omega)
            have HKEY := Lib.hid hkey
            have hhas := Al.has_all a.letters (x.take j)
            have hcd : Al.clash a.letters x j = (a.letters.contains (x.take j) && Al.follows a.letters 4 (x.drop j)) := by
              unfold Al.clash
              rw [decide_eq_true hjx, Bool.true_and]
            have HCD := Lib.hid hcd
            clear hkey hcd
            cases hct : a.letters.contains (x.take j)
            · rw [hct] at hhas
              have HHAS := Lib.hid hhas
              have hcf : Al.clash a.letters x j = false := by rw [HCD.out, hct]; rfl
              have HCF := Lib.hid hcf
              clear hct hhas hcf
              go_wp2_with (at_lookup; refine wpList_lookup_own_ok_int _ rfl _ _ 67 rfl 9 3 .i64 lawStr Tryz.underlying67 Tryz.underlying3 (zeroInt _) b a.letters.length _ rfl HOWN0.out _ _ rfl HKEY.out ?_; intro cc hat hwc; rw [HHAS.out]; clear hat hwc)
              go_roundg (gk - 1)
              case measure => omega
              case rel =>
                refine ⟨j + 1, m2, by omega, by omega, by go_num, rfl, fun h => ?_, fun h => ?_⟩
                · by_cases h1 : j = 1
                  · have := HCF.out
                    rw [h1] at this
                    exact this
                  · exact HC1.out (by omega)
                · obtain rfl : j = 2 := by omega
                  exact HCF.out
            · rw [hct] at hhas
              have HHAS := Lib.hid hhas
              have hcf : Al.clash a.letters x j = Al.follows a.letters 4 (x.drop j) := by rw [HCD.out, hct]; rfl
              have HCF := Lib.hid hcf
              clear hct hhas hcf
              have hcall : ∀ n : Nat, Calls Tryz.prog 60 #[.string (bs (x.drop j)), .pointer (some ⟨w.heap.size, 0, none⟩), .pointer (some ⟨w1.heap.size, 0, none⟩)] (W0.drewN n) fun e w' => e = .returned (.bool (Al.follows a.letters 4 (x.drop j))) ∧ w' = W0.drewN n := fun n => follows_any a.letters (fun l hl => ⟨(HL3.out l hl).1, HQ2.out l hl⟩) (by omega) _ _ _ _ 4 (x.drop j) _ (by rw [List.length_drop]; omega) (by rw [List.length_drop]; omega) (HF0.out.drewN n)
              have HCALL := Lib.hid hcall
              clear hcall
              go_wp2_with (at_lookup; refine wpList_lookup_own_ok_int _ rfl _ _ 67 rfl 9 3 .i64 lawStr Tryz.underlying67 Tryz.underlying3 (zeroInt _) b a.letters.length _ rfl HOWN0.out _ _ rfl HKEY.out ?_; intro cc hat hwc; rw [HHAS.out]; clear hat hwc)
              go_quiet ((go_at_call 60; exact quiet_add_same (HCALL.out _)))
              cases hfo : Al.follows a.letters 4 (x.drop j)
              · have hcf := HCF.out
                rw [hfo] at hcf
                have HCF2 := Lib.hid hcf
                clear hcf hfo
                by_cases h2 : j = 2
                · have h2' : ((j : Int) == 2) = true := by rw [h2]; rfl
                  have g1 : goodL a.letters x = true := by
                    unfold goodL
                    have := HCF2.out
                    rw [h2] at this
                    rw [this, HC1.out (by omega)]
                    rfl
                  have HG1 := Lib.hid g1
                  clear g1 h2
                  go_wp2
                  go_roundg g
                  case measure => omega
                  case rel =>
                    refine ⟨k + 1, _, by omega, by go_num, rfl, ?_⟩
                    rw [HTK.out, List.all_append, HGD.out]
                    simp [HG1.out]
                · have h2' : ((j : Int) == 2) = false := by rw [beq_eq_false_iff_ne]; omega
                  go_wp2
                  go_roundg (gk - 1)
                  case measure => omega
                  case rel =>
                    obtain rfl : j = 1 := by omega
                    exact ⟨1 + 1, _, by omega, by omega, by go_num, rfl, fun h => HCF2.out, fun h => by omega⟩
              · have hv : Al.validB a = false := by
                  have hcf := HCF.out
                  rw [hfo] at hcf
                  have hj : j = 1 ∨ j = 2 := by omega
                  rw [← Bool.not_eq_true]
                  intro hv
                  have := Al.valid_clash hv HMEM.out
                  rcases hj with rfl | rfl
                  · rw [this.1] at hcf; cases hcf
                  · rw [this.2] at hcf; cases hcf
                have HV := Lib.hid hv
                clear hv hfo
                go_wp2
                repeat (first | rw [Exit.noGoto_ret] | simp only [Exit.inBlock, Exit.then])
                go_ret
                exact ⟨ret_bool HV.out.symm, bel_drewN (bel_drewN HBW0.out _) _⟩
          · have g1 : goodL a.letters x = true := by
              have a1 : Al.clash a.letters x 1 = false := by
                by_cases h2 : 2 ≤ j
                · exact HC1.out h2
                · unfold Al.clash
                  rw [decide_eq_false (by omega)]
                  rfl
              have a2 : Al.clash a.letters x 2 = false := by
                by_cases h2 : 3 ≤ j
                · exact HC2.out h2
                · unfold Al.clash
                  rw [decide_eq_false (by omega)]
                  rfl
              unfold goodL
              rw [a1, a2]
              rfl
            have HG1 := Lib.hid g1
            have hjx' : ¬ ((j : Int) < ((bs x).size : Int)) := by rw [bs_size]; omega
            clear g1
            go_wp2
            go_roundg g
            case measure => omega
            case rel =>
              refine ⟨k + 1, m2, by omega, by go_num, rfl, ?_⟩
              rw [HTK.out, List.all_append, HGD.out]
              simp [HG1.out]
end Go.Proofs.YtldnfdghkdibmaaGreatDoor

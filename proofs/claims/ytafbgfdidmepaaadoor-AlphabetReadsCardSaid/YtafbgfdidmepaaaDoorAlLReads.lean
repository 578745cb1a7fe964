/-
  AlphabetReads: it returns true.
-/
import Derived.Test.YtafbgfdidmepaaaDoorAlBox
import Derived.Test.YtafbgfdidmepaaaDoorAlLaw3
import Derived.Deep.LoopGhost
set_option linter.unusedVariables false
namespace Go.Proofs.YtafbgfdidmepaaaDoor
open Go.RowKit Go.Maps
attribute [local go_sem] alloc_drewN setCell_drewN setRow_drewN Later.cell Later.frozen wrap64_nat wrap64_add wrap64_succ

namespace Al
theorem joinL_append (L : List (List UInt8)) (x y : List Int) : joinL L (x ++ y) = joinL L x ++ joinL L y := by unfold joinL; rw [List.flatMap_append]
theorem part_split {L : List (List UInt8)} {ks : List Int} {s : List UInt8} (h : s = joinL L ks) (k : Nat) : s = joinL L (ks.take k) ++ joinL L (ks.drop k) := by
  rw [← joinL_append, List.take_append_drop]; exact h
theorem part_le {L : List (List UInt8)} {ks : List Int} {s : List UInt8} (h : s = joinL L ks) (k : Nat) : (joinL L (ks.take k)).length ≤ s.length := by
  have := congrArg List.length (part_split h k)
  rw [List.length_append] at this
  omega
theorem part_drop {L : List (List UInt8)} {ks : List Int} {s : List UInt8} (h : s = joinL L ks) (k : Nat) (hk : k < ks.length) : s.drop (joinL L (ks.take k)).length = letterAt L ks[k] ++ joinL L (ks.drop (k + 1)) := by
  have hs := part_split h k
  have hd : joinL L (ks.drop k) = letterAt L ks[k] ++ joinL L (ks.drop (k + 1)) := by
    rw [List.drop_eq_getElem_cons hk]
    unfold joinL
    rw [List.flatMap_cons]
  rw [← hd]
  generalize (joinL L (ks.take k)) = u at hs ⊢
  rw [hs, List.drop_left]
theorem part_next (L : List (List UInt8)) (ks : List Int) (k : Nat) (hk : k < ks.length) : (joinL L (ks.take (k + 1))).length = (joinL L (ks.take k)).length + (letterAt L ks[k]).length := by
  rw [take_snoc ks k hk, joinL_append, List.length_append]
  simp [joinL]
theorem part_longest {a : Alph} (h : validB a = true) {ks : List Int} (hr : inRange a.letters.length ks = true) {s : List UInt8} (hs : s = joinL a.letters ks) (k : Nat) (hk : k < ks.length) {m : List UInt8} (hm : m ∈ a.letters)
    (hlt : (letterAt a.letters ks[k]).length < m.length) : ¬ m <+: s.drop (joinL a.letters (ks.take k)).length := by
  rw [part_drop hs k hk, joinL_flatten]
  have hmem := map_mem hr
  have h1 : letterAt a.letters ks[k] ∈ a.letters := hmem _ (List.mem_map.2 ⟨_, List.getElem_mem hk, rfl⟩)
  exact no_longer h h1 (fun y hy => by
    obtain ⟨z, hz, rfl⟩ := List.mem_map.1 hy
    exact hmem _ (List.mem_map.2 ⟨z, List.mem_of_mem_drop hz, rfl⟩)) hm hlt
theorem collect_none (P : List (Nat × Int)) : ∀ (out : List Int), (collect out P).2.1 ≠ 0 → (collect out P).1 = [] := by
  induction P with
  | nil => intro out h; exact absurd rfl h
  | cons p r ih =>
    intro out h
    obtain ⟨q, k⟩ := p
    unfold collect at h ⊢
    by_cases h1 : k < 0
    · rw [if_pos h1]
    · rw [if_neg h1] at h ⊢
      by_cases h2 : out.length = 24
      · rw [if_pos h2]
      · rw [if_neg h2] at h ⊢
        exact ih _ h
theorem read_none {a : Alph} {s : List UInt8} {ks : List Int} {e o : Int} (hr : readB a s = (ks, e, o)) (he : e ≠ 0) : ks = [] := by
  unfold readB readL at hr
  split at hr
  · split at hr
    · exact (congrArg Prod.fst hr).symm
    · have := collect_none (places a.letters (s.length + 1) 0 s) []
      rw [hr] at this
      exact this he
  · exact (congrArg Prod.fst hr).symm
end Al

set_option maxRecDepth 100000 in
theorem begins_any (s x : List UInt8) (w : World) (hs : s.length ≤ 9223372036854775807) (hx : x.length ≤ 9223372036854775807) :
    Calls Tryd.prog 22 #[.string (bs s), .string (bs x)] w fun e w' => e = .returned (.bool (x.isPrefixOf s)) ∧ w' = w := by
  have hex : (bs s).extract 0 x.length = bs (s.take x.length) := by rw [extract_bs, bs_list, List.drop_zero, Nat.sub_zero]
  by_cases hl : x.length ≤ s.length
  · have hd : ((x.length : Int) ≤ (s.length : Int)) := by omega
    have hst : ((bs (s.take x.length)).toList == (bs x).toList) = x.isPrefixOf s := by
      rw [Lib.toList_data, Lib.toList_data, bs_list, bs_list, Bool.eq_iff_iff, beq_iff_eq, List.isPrefixOf_iff_prefix, List.prefix_iff_eq_take]
      exact eq_comm
    have HST := Lib.hid hst
    clear hst
    go_enter Tryd.func22, Tryd.ntmps22
    go_wp2
    go_ret
    exact ⟨ret_bool HST.out, rfl⟩
  · have hd : ¬ ((x.length : Int) ≤ (s.length : Int)) := by omega
    have hno : x.isPrefixOf s = false := by
      rw [← Bool.not_eq_true, List.isPrefixOf_iff_prefix]
      exact fun h => hl h.length_le
    have HNO := Lib.hid hno
    clear hno
    go_enter Tryd.func22, Tryd.ntmps22
    go_wp2
    go_ret
    exact ⟨ret_bool HNO.out.symm, rfl⟩
theorem begins_at {s x : List UInt8} {b : Bool} (h : x.isPrefixOf s = b) (w : World) (hs : s.length ≤ 9223372036854775807) (hx : x.length ≤ 9223372036854775807) :
    Calls Tryd.prog 22 #[.string (bs s), .string (bs x)] w fun e w' => e = .returned (.bool b) ∧ w' = w := by
  subst h
  exact begins_any s x w hs hx

set_option maxRecDepth 100000 in
set_option maxHeartbeats 2000000 in
theorem lreads_any (a : Al.Alph) (A A' : Option Addr) (c c' : Nat) (s : List UInt8) (w : World) (hz : Sized a) (hA : StrAt w A a.letters) (hS : IntAt w A' a.small) (hs : s.length ≤ 9223372036854775807) :
    Calls Tryd.prog 4 #[alv a A c A' c', .string (bs s)] w fun e w' => e = .returned (.bool true) ∧ Below w.heap.size w w' := by
  go_enter Tryd.func4, Tryd.ntmps4
  go_wp2_with fail
  have S0 := Lib.hid (Box.new c c' hA hS)
  clear hA hS
  refine (ahead_any _).mono ?_
  rintro e w1 ⟨rfl, b1⟩
  have S1 := Lib.hid (S0.out.next b1)
  have k0 := S1.out.c0
  have k1 := S1.out.c1
  have k2 := S1.out.c2
  clear b1
  have hsz1 := S1.out.lt
  cases hfw : (fewB a && decide (s.length ≤ 300))
  · have HFW := Lib.hid hfw
    clear hfw
    go_wp2_with fail
    refine (few_at HFW.out A A' c c' _ hz S1.out.hA hs).mono ?_
    rintro e w2 ⟨rfl, b2⟩
    have S2 := Lib.hid (S1.out.next b2)
    clear k0 k1 k2 b2
    have k0 := S2.out.c0
    have k1 := S2.out.c1
    have k2 := S2.out.c2
    go_wp2
    go_ret
    exact ⟨rfl, by first | exact S2.out.bel | (have := S2.out.bel; rwa [World.drewN_drewN] at this)⟩
  · obtain ⟨hF, h300⟩ := few_out hfw
    have HFW := Lib.hid hfw
    have HF := Lib.hid hF
    clear hfw hF
    obtain ⟨ks, er, o, hr⟩ : ∃ ks er o, Al.readB a s = (ks, er, o) := ⟨_, _, _, rfl⟩
    have HR := Lib.hid hr
    by_cases he : er = 0
    · subst he
      have hro := @Al.read_ok a s (by rw [hr])
      rw [hr] at hro
      obtain ⟨hv, z1, z2, hsj, hin, hne, h24⟩ := hro
      clear z1 z2
      dsimp only at hsj hin hne h24
      have hpos : 0 < ks.length := List.length_pos_iff.2 hne
      have HV := Lib.hid hv
      have HSJ := Lib.hid hsj
      have HIN := Lib.hid hin
      clear hr hv hsj hin hne
      go_wp2_with fail
      refine (few_at HFW.out A A' c c' _ hz S1.out.hA hs).mono ?_
      rintro e w2 ⟨rfl, b2⟩
      have S2 := Lib.hid (S1.out.next b2)
      clear k0 k1 k2 b2
      have k0 := S2.out.c0
      have k1 := S2.out.c1
      have k2 := S2.out.c2
      go_wp2_with fail
      refine (read_at HR.out A A' c c' _ HF.out S2.out.hA S2.out.hS (by omega)).mono ?_
      rintro e w3 ⟨R, cr, rfl, iI1, b3⟩
      have S3 := Lib.hid (S2.out.next b3)
      have I1 := Lib.hid iI1
      clear iI1
      clear k0 k1 k2 b3
      have k0 := S3.out.c0
      have k1 := S3.out.c1
      have k2 := S3.out.c2
      have hwl := S3.out.lt
      have h70 := HF.out.n
      go_wp2
      go_loopg [9, 10] ks.length (fun gh v1 v2 wr => ∃ k n : Nat, k + gh = ks.length ∧ v2 = .int .i64 k ∧ v1 = .int .i64 (Al.joinL a.letters (ks.take k)).length ∧ wr = w3.drewN n)
      case atStart => exact ⟨0, 0, by omega, rfl, rfl, rfl⟩
      case round =>
        obtain ⟨k, n, hkg, rfl, rfl, rfl⟩ := hrel
        have hps := Al.part_le HSJ.out k
        have HDR := Lib.hid (fun hk => Al.part_drop HSJ.out k hk)
        have HNX := Lib.hid (fun hk => Al.part_next a.letters ks k hk)
        generalize hP : (Al.joinL a.letters (ks.take k)).length = p at *
        cases gk with
        | zero =>
          have hpe : p = s.length := by rw [← hP, List.take_of_length_le (by omega), ← HSJ.out]
          subst hpe
          have hk2 : ¬ ((k : Int) < (ks.length : Int)) := by omega
          have hd1 : decide ((ks.length : Int) ≥ 1) = true := by rw [decide_eq_true_eq]; omega
          have hd2 : decide ((ks.length : Int) ≤ 24) = true := by rw [decide_eq_true_eq]; omega
          go_wp2
          repeat (first | rw [Exit.noGoto_ret] | simp only [Exit.inBlock, Exit.then])
          go_ret
          exact ⟨rfl, bel_drewN S3.out.bel n⟩
        | succ gg =>
          have hlt : k < ks.length := by omega
          have hk2 : ((k : Int) < (ks.length : Int)) := by omega
          obtain ⟨gl, ol, rfl, hgl, hcl⟩ := I1.out.at_ k hlt
          have hkr := Al.inRange_mem HIN.out ks[k] (List.getElem_mem hlt)
          have hnl := fun m (hm : m ∈ a.letters) => Al.part_longest HV.out HIN.out HSJ.out k hlt hm
          rw [hP] at hnl
          have hdr := HDR.out hlt
          have hnx := HNX.out hlt
          generalize ks[k] = x at *
          obtain ⟨X, rfl⟩ : ∃ X : Nat, x = X := ⟨x.toNat, by omega⟩
          have hX : X < a.letters.length := by omega
          obtain ⟨ga, oa, rfl, hga, hca⟩ := S3.out.hA (by omega)
          have hcx := hca X a.letters[X] (List.getElem?_eq_getElem hX)
          have hlx : Al.letterAt a.letters (X : Int) = a.letters[X] := by
            unfold Al.letterAt
            rw [Int.toNat_natCast, List.getD_eq_getElem?_getD, List.getElem?_eq_getElem hX]
            rfl
          rw [hlx] at hdr hnx hnl
          have HCA := Lib.hid hca
          have HNL := Lib.hid hnl
          have HDR2 := Lib.hid hdr
          have hl20 := HF.out.len _ (List.getElem_mem hX)
          clear hca hnl hlx HDR HNX hdr
          generalize a.letters[X] = x at *
          have HNX2 := Lib.hid hnx
          clear hnx hP
          have hd1 : decide ((X : Int) < 0) = false := by simp
          have hd2 : decide ((X : Int) ≥ (a.letters.length : Int)) = false := by rw [decide_eq_false_iff_not]; omega
          have hex : (bs s).extract p s.length = bs (s.drop p) := by rw [extract_bs, bs_list, List.take_of_length_le (by rw [List.length_drop]; omega)]
          have hyes : x.isPrefixOf (s.drop p) = true := by rw [HDR2.out]; simp
          have hcall : ∀ n : Nat, Calls Tryd.prog 22 #[.string (bs (s.drop p)), .string (bs x)] (w3.drewN n) fun e w' => e = .returned (.bool true) ∧ w' = w3.drewN n := fun n => begins_at hyes _ (by rw [List.length_drop]; omega) (by omega)
          have HCALL := Lib.hid hcall
          clear hcall hyes
          go_wp2
          go_quiet ((go_at_call 22; exact quiet_add_same (HCALL.out _)))
          go_wp2
          go_loopg [11] a.letters.length (fun g2 v wr => ∃ j m : Nat, j + g2 = a.letters.length ∧ v = .int .i64 j ∧ wr = w3.drewN m)
          case atStart => exact ⟨0, _, by omega, rfl, by first | rfl | rw [World.drewN_drewN]⟩
          case round =>
            obtain ⟨j, m, hjg, rfl, rfl⟩ := hrel
            cases gk with
            | zero =>
              have hj2 : ¬ ((j : Int) < (a.letters.length : Int)) := by omega
              have hpx : p + x.length ≤ 9223372036854775807 := by omega
              go_wp2
              go_quiet (fail)
              go_wp2
              go_roundg gg
              case measure => omega
              case rel => exact ⟨k + 1, _, by omega, by go_num, by rw [HNX2.out]; go_num, by first | rfl | rw [World.drewN_drewN]⟩
            | succ g2 =>
              have hjl : j < a.letters.length := by omega
              have hj2 : ((j : Int) < (a.letters.length : Int)) := by omega
              have hcj := HCA.out j a.letters[j] (List.getElem?_eq_getElem hjl)
              have hnj := HNL.out a.letters[j] (List.getElem_mem hjl)
              have hj20 := HF.out.len _ (List.getElem_mem hjl)
              generalize a.letters[j] = y at *
              by_cases hlen : x.length < y.length
              · have hd3 : decide ((y.length : Int) > (x.length : Int)) = true := by rw [decide_eq_true_eq]; omega
                have hno : y.isPrefixOf (s.drop p) = false := by
                  rw [← Bool.not_eq_true, List.isPrefixOf_iff_prefix]
                  exact hnj hlen
                have hcall : ∀ n : Nat, Calls Tryd.prog 22 #[.string (bs (s.drop p)), .string (bs y)] (w3.drewN n) fun e w' => e = .returned (.bool false) ∧ w' = w3.drewN n := fun n => begins_at hno _ (by rw [List.length_drop]; omega) (by omega)
                have HC2 := Lib.hid hcall
                clear hcall hno hnj
                go_wp2
                go_quiet ((go_at_call 22; exact quiet_add_same (HC2.out _)))
                go_wp2
                go_roundg g2
                case measure => omega
                case rel => exact ⟨j + 1, _, by omega, by go_num, by first | rfl | rw [World.drewN_drewN]⟩
              · have hd3 : decide ((y.length : Int) > (x.length : Int)) = false := by rw [decide_eq_false_iff_not]; omega
                clear hnj
                go_wp2
                go_quiet (fail)
                go_wp2
                go_roundg g2
                case measure => omega
                case rel => exact ⟨j + 1, _, by omega, by go_num, by first | rfl | rw [World.drewN_drewN]⟩
    · have hk0 : ks = [] := Al.read_none hr he
      subst hk0
      have he' : (er != 0) = true := by rw [bne_iff_ne]; exact he
      clear hr
      go_wp2_with fail
      refine (few_at HFW.out A A' c c' _ hz S1.out.hA hs).mono ?_
      rintro e w2 ⟨rfl, b2⟩
      have S2 := Lib.hid (S1.out.next b2)
      clear k0 k1 k2 b2
      have k0 := S2.out.c0
      have k1 := S2.out.c1
      have k2 := S2.out.c2
      go_wp2_with fail
      refine (read_at HR.out A A' c c' _ HF.out S2.out.hA S2.out.hS (by omega)).mono ?_
      rintro e w3 ⟨R, cr, rfl, iI1, b3⟩
      have S3 := Lib.hid (S2.out.next b3)
      have I1 := Lib.hid iI1
      clear iI1
      clear k0 k1 k2 b3
      have k0 := S3.out.c0
      have k1 := S3.out.c1
      have k2 := S3.out.c2
      go_wp2
      go_ret
      exact ⟨rfl, by first | exact S3.out.bel | (have := S3.out.bel; rwa [World.drewN_drewN] at this)⟩
end Go.Proofs.YtafbgfdidmepaaaDoor

/-
  LexerWords: the law's walk: it returns true at every name, number, symbol and text.
-/
import Derived.Test.YtpnenbodmonkiaaDoorLexWords
import Derived.Deep.CutRange
import Derived.Deep.CutBlock
set_option linter.unusedVariables false
namespace Go.Proofs.YtpnenbodmonkiaaDoor
open Go.RowKit
attribute [local go_sem] alloc_drewN setCell_drewN setRow_drewN Later.cell Later.frozen wrap64_nat wrap64_add wrap64_succ

/-- the whole text, in one piece -/
def wordsText (s : ByteArray) (c : UInt8) (N : Nat) (t : ByteArray) : List UInt8 := s.data.toList ++ (c :: (Lx.dec N ++ 34 :: (t.data.toList ++ [34])))
theorem words_bs (s : ByteArray) (c : UInt8) (N : Nat) (t : ByteArray) : s ++ bs [c] ++ bs (Lx.dec N) ++ { data := #[34] } ++ t ++ { data := #[34] } = bs (wordsText s c N t) := by
  simp only [app_bs, bs_list]
  congr 1
  simp [wordsText]
theorem sym_slice (K : Nat) (h : K < 15) : ∃ c, ByteArray.extract { data := #[61, 59, 60, 62, 40, 41, 123, 125, 91, 93, 44, 46, 58, 43, 45] } K (K + 1) = bs [c] ∧ Lx.symB c = true := by
  have H : ∀ d : Fin 15, ∃ c : Fin 256, ([61, 59, 60, 62, 40, 41, 123, 125, 91, 93, 44, 46, 58, 43, 45].drop d.val).take (d.val + 1 - d.val) = [UInt8.ofNat c.val] ∧ Lx.symB (UInt8.ofNat c.val) = true := by decide +kernel
  obtain ⟨c, h1, h2⟩ := H ⟨K, h⟩
  refine ⟨_, ?_, h2⟩
  rw [extract_bs]
  congr 1

set_option maxRecDepth 100000 in
set_option maxHeartbeats 4000000 in
theorem words_any (s : ByteArray) (v y : Int) (t : ByteArray) (w : World) (hs : s.size ≤ 9223372036854775807) (hv : (Lit.int .u64 v).wf = true) (hy : (Lit.int .u8 y).wf = true) (ht : t.size ≤ 9223372036854775807) :
    Calls Tryd.prog 10 #[.string s, .int .u64 v, .int .u8 y, .string t] w fun e w' => e = .returned (.bool true) ∧ Below w.heap.size w w' := by
  have hs2 := hs
  cases hnm : Lx.nameB s.data.toList
  · have HNM := Lib.hid hnm
    clear hnm
    go_enter Tryd.func10, Tryd.ntmps10
    go_wp2_with fail
    refine (head_any _).mono ?_
    rintro e w1 ⟨rfl, hb1⟩
    have HB1 := Lib.hid hb1
    clear hb1
    go_wp2_with fail
    refine (rname_is s _ hs2 HNM.out).mono ?_
    rintro e w' ⟨rfl, rfl⟩
    go_wp2
    go_ret
    exact ⟨rfl, HB1.out⟩
  · have HNM := Lib.hid hnm
    clear hnm
    by_cases hbig : 400 < t.size
    · go_enter Tryd.func10, Tryd.ntmps10
      go_wp2_with fail
      refine (head_any _).mono ?_
      rintro e w1 ⟨rfl, hb1⟩
      have HB1 := Lib.hid hb1
      clear hb1
      go_wp2_with fail
      refine (rname_is s _ hs2 HNM.out).mono ?_
      rintro e w' ⟨rfl, rfl⟩
      go_wp2
      go_ret
      exact ⟨rfl, HB1.out⟩
    · go_enter Tryd.func10, Tryd.ntmps10
      go_wp2_with fail
      refine (head_any _).mono ?_
      rintro e w1 ⟨rfl, hb1⟩
      have HB1 := Lib.hid hb1
      clear hb1
      go_wp2_with fail
      refine (rname_is s _ hs2 HNM.out).mono ?_
      rintro e w' ⟨rfl, rfl⟩
      have ht4 : t.size ≤ 400 := by omega
      go_wp2
      go_loop [10] (fun i => ∃ k : Nat, k ≤ t.size ∧ i = .int .i64 k ∧ t.data.toList.all Lx.inText = (t.data.toList.drop k).all Lx.inText) (fun i => t.size - (intOf i).toNat)
      case atStart => exact ⟨0, by omega, rfl, rfl⟩
      case round =>
        obtain ⟨k, hk, rfl, hc⟩ := hrel
        have HC := Lib.hid hc
        clear hc
        by_cases hlt : k < t.size
        · have hb : t[k].toNat < 256 := UInt8.toNat_lt t[k]
          have hd := drop_get t k hlt
          have HD := Lib.hid hd
          clear hd
          by_cases h1 : (t[k].toNat : Int) = 34
          · have h1' : ((t[k].toNat : Int) == 34) = true := by rw [beq_iff_eq]; exact h1
            clear h1
            go_wp2
            go_ret
            exact ⟨rfl, HB1.out⟩
          · have h1' : ((t[k].toNat : Int) == 34) = false := by rw [beq_eq_false_iff_ne]; exact h1
            by_cases h2 : (t[k].toNat : Int) = 10
            · have h2' : ((t[k].toNat : Int) == 10) = true := by rw [beq_iff_eq]; exact h2
              clear h1 h2
              go_wp2
              go_ret
              exact ⟨rfl, HB1.out⟩
            · have h2' : ((t[k].toNat : Int) == 10) = false := by rw [beq_eq_false_iff_ne]; exact h2
              have hin : Lx.inText t[k] = true := by
                have n1 : (t[k] == 34) = false := by
                  rw [beq_eq_false_iff_ne]
                  intro h
                  rw [h] at h1
                  exact h1 rfl
                have n2 : (t[k] == 10) = false := by
                  rw [beq_eq_false_iff_ne]
                  intro h
                  rw [h] at h2
                  exact h2 rfl
                simp [Lx.inText, n1, n2]
              have HIN := Lib.hid hin
              clear h1 h2 hin
              go_wp2
              go_round
              case rel =>
                refine ⟨k + 1, by omega, by go_num, ?_⟩
                rw [HC.out, HD.out, List.all_cons, HIN.out]
                rfl
              case measure => simp [intOf]; omega
        · have hall : t.data.toList.all Lx.inText = true := by
            rw [HC.out, List.drop_eq_nil_of_le (by rw [← size_list]; omega)]
            rfl
          have HALL := Lib.hid hall
          clear hall HC
          have hs24 : s.size ≤ 24 := by
            have h := HNM.out
            unfold Lx.nameB at h
            rw [Bool.and_eq_true, Bool.and_eq_true, Bool.and_eq_true, decide_eq_true_eq, decide_eq_true_eq] at h
            rw [size_list]
            exact h.1.2.2
          have hv2 : 0 ≤ v ∧ v ≤ 18446744073709551615 := by
            have h1 : (decide (IntKind.u64.min ≤ v) && decide (v ≤ IntKind.u64.max)) = true := hv
            rw [Bool.and_eq_true, decide_eq_true_eq, decide_eq_true_eq] at h1
            exact h1
          have hy2 : 0 ≤ y ∧ y ≤ 255 := by
            have h1 : (decide (IntKind.u8.min ≤ y) && decide (y ≤ IntKind.u8.max)) = true := hy
            rw [Bool.and_eq_true, decide_eq_true_eq, decide_eq_true_eq] at h1
            exact h1
          obtain ⟨V, rfl⟩ : ∃ V : Nat, v = V := ⟨v.toNat, by omega⟩
          obtain ⟨Y, rfl⟩ : ∃ Y : Nat, y = Y := ⟨y.toNat, by omega⟩
          have hm2 : (V : Int) % 10000000000000 = ((V % 10000000000000 : Nat) : Int) := by omega
          have hm1 : (V : Int).tmod 10000000000000 = ((V % 10000000000000 : Nat) : Int) := by rw [Int.tmod_eq_emod_of_nonneg (by omega), hm2]
          have hm3 : V % 10000000000000 ≤ 9999999999999 := by omega
          have hn2 : (Y : Int) % 15 = ((Y % 15 : Nat) : Int) := by omega
          have hn1 : (Y : Int).tmod 15 = ((Y % 15 : Nat) : Int) := by rw [Int.tmod_eq_emod_of_nonneg (by omega), hn2]
          have hn3 : Y % 15 < 15 := by omega
          have hY1 : (Y : Int) ≤ 255 := hy2.2
          clear hv hy
          generalize V % 10000000000000 = N at *
          generalize Y % 15 = K at *
          obtain ⟨c, hc1, hc2⟩ := sym_slice K hn3
          have hdl := Lx.dec_len 12 N (by omega)
          have hok := Lx.words_ok s.data.toList t.data.toList c N HNM.out hc2 hm3 (List.all_eq_true.1 HALL.out) (by rw [← size_list]; exact ht4)
          have hwl : (wordsText s c N t).length ≤ 5000 := by
            have z1 := size_list s
            have z2 := size_list t
            simp only [wordsText, List.length_append, List.length_cons, List.length_nil]
            omega
          have hlex := Lx.lex_ok (l := wordsText s c N t) hwl hok
          rw [← size_list] at hlex
          have HLEX := Lib.hid hlex
          have HWL := Lib.hid hwl
          have HC1 := Lib.hid hc1
          have hK1 : K + 1 ≤ 15 := by omega
          have HWB := Lib.hid (words_bs s c N t)
          have hwz : (bs (wordsText s c N t)).size ≤ 9223372036854775807 := by rw [bs_size]; omega
          clear hc1 hok hlex hwl hc2 hv2 hy2
          go_wp2_with fail
          refine (rdec_any N hm3 _).mono ?_
          rintro e w3 ⟨rfl, hb3⟩
          have HB3 := Lib.hid hb3
          clear hb3
          have htx : ((bs (wordsText s c N t)).data.toList) = wordsText s c N t := rfl
          clear htx
          go_upto_region 12 with fail
          rw [HC1.out]
          have hsum : s.size + (bs [c]).size + (bs (Lx.dec N)).size + 1 + t.size + 1 ≤ 9223372036854775807 := by rw [bs_size, bs_size]; simp only [List.length_cons, List.length_nil]; omega
          have hc1z : (bs [c]).size = 1 := rfl
          have HC1Z := Lib.hid hc1z
          clear hc1z
          go_wp2_with fail
          rw [HWB.out]
          refine (lex_at (wordsText s c N t) (Nat.le_trans HWL.out (by omega)) HLEX.out _).mono ?_
          rintro e w4 ⟨A, cp, rfl, R4, B4⟩
          have HB4 := Lib.hid B4
          have htg := tok_guard
          have hteq := tok_eql
          obtain ⟨g, rfl, _, hg, hcs⟩ := R4.cells (by simp)
          have k0 : w4.cell? ⟨g, 0, none⟩ = some (.int .i64 1) := hcs 0 _ rfl
          have k1 : w4.cell? ⟨g, 1, none⟩ = some (.int .i64 0) := hcs 1 _ rfl
          have k2 : w4.cell? ⟨g, 2, none⟩ = some (.int .i64 0) := hcs 2 _ rfl
          have k3 : w4.cell? ⟨g, 3, none⟩ = some (.string s) := hcs 3 _ rfl
          have k4 : w4.cell? ⟨g, 4, none⟩ = some (.int .i64 4) := hcs 4 _ rfl
          have k5 : w4.cell? ⟨g, 5, none⟩ = some (.int .i64 s.size) := hcs 5 _ rfl
          have k6 : w4.cell? ⟨g, 6, none⟩ = some (.int .i64 0) := hcs 6 _ rfl
          have k7 : w4.cell? ⟨g, 7, none⟩ = some (.string (bs [c])) := hcs 7 _ rfl
          have k8 : w4.cell? ⟨g, 8, none⟩ = some (.int .i64 2) := hcs 8 _ rfl
          have k9 : w4.cell? ⟨g, 9, none⟩ = some (.int .i64 ((s.size : Int) + 1)) := hcs 9 _ rfl
          have k10 : w4.cell? ⟨g, 10, none⟩ = some (.int .i64 N) := hcs 10 _ rfl
          have k11 : w4.cell? ⟨g, 11, none⟩ = some (.string (bs (Lx.dec N))) := hcs 11 _ rfl
          have k12 : w4.cell? ⟨g, 12, none⟩ = some (.int .i64 3) := hcs 12 _ rfl
          have k13 : w4.cell? ⟨g, 13, none⟩ = some (.int .i64 ((s.size : Int) + 1 + ((bs (Lx.dec N)).size : Int))) := hcs 13 _ rfl
          have k14 : w4.cell? ⟨g, 14, none⟩ = some (.int .i64 0) := hcs 14 _ rfl
          have k15 : w4.cell? ⟨g, 15, none⟩ = some (.string t) := hcs 15 _ rfl
          have t0 := tokB_self 1 0 0 s
          have t1 := tokB_self 4 s.size 0 (bs [c])
          have t2 := tokB_self 2 ((s.size : Int) + 1) N (bs (Lx.dec N))
          have t3 := tokB_self 3 ((s.size : Int) + 1 + ((Lx.dec N).length : Int)) 0 t
          have hdz : (bs (Lx.dec N)).size ≤ 13 := by rw [bs_size]; omega
          clear hcs R4 B4
          go_wp2_with fail
          go_ret
          exact ⟨rfl, bel_trans HB1.out (bel_trans HB3.out HB4.out)⟩
end Go.Proofs.YtpnenbodmonkiaaDoor

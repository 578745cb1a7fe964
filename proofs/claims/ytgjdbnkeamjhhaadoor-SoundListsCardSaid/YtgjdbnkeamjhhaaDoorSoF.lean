/-
  Proper: what it returns.
-/
import Derived.Test.YtgjdbnkeamjhhaaDoorSoE
import Derived.Deep.MidRow
import Derived.Maps.OwnOps
set_option linter.unusedVariables false
namespace Go.Proofs.YtgjdbnkeamjhhaaDoor
open Go.RowKit Go.Maps
open R
attribute [local go_sem] alloc_drewN setCell_drewN setRow_drewN
/-- a slice that reads as these confusions -/
def CfAt (w : World) (A : Option Addr) (l : CfP) : Prop :=
  0 < l.length → ∃ g off, A = some ⟨g, off, none⟩ ∧ g < w.heap.size ∧ ∀ (j : Nat) x, l[j]? = some x → w.cell? ⟨g, off + j * 2, none⟩ = some (.string (bs x.1)) ∧ w.cell? ⟨g, off + j * 2 + 1, none⟩ = some (.string (bs x.2))
theorem CfAt.bel {w w' : World} {A : Option Addr} {l : CfP} (h : CfAt w A l) (hb : Below w.heap.size w w') : CfAt w' A l := fun hl => by
  obtain ⟨g, off, h1, h2, h3⟩ := h hl
  exact ⟨g, off, h1, Nat.lt_of_lt_of_le h2 hb.size, fun j u hu => ⟨(hb.cell (p := ⟨g, off + j * 2, none⟩) h2).trans (h3 j u hu).1, (hb.cell (p := ⟨g, off + j * 2 + 1, none⟩) h2).trans (h3 j u hu).2⟩⟩
theorem CfAt.at_ {w : World} {A : Option Addr} {l : CfP} (h : CfAt w A l) (j : Nat) (hj : j < l.length) : ∃ g off, A = some ⟨g, off, none⟩ ∧ g < w.heap.size ∧ w.rangeAt g (off + j * 2) [.string (bs (l.getD j ([], [])).1), .string (bs (l.getD j ([], [])).2)] := by
  obtain ⟨g, off, h1, h2, h3⟩ := h (by omega)
  have he : l[j]? = some (l.getD j ([], [])) := by rw [List.getD_eq_getElem?_getD, List.getElem?_eq_getElem hj]; rfl
  obtain ⟨a, b⟩ := h3 j _ he
  refine ⟨g, off, h1, h2, fun i v hv => ?_⟩
  match i, hv with
  | 0, hv => injection hv with hv; subst hv; exact a
  | 1, hv => injection hv with hv; subst hv; exact b
theorem cf_rep {S : Nat → Prop} {w : World} {v : Value} {l : CfP} (h : Kd.Rep w S (.sl kCf) l v) : ∃ A c, v = .slice A l.length c ∧ CfAt w A l := by
  obtain ⟨A, c, rfl, hc, h⟩ := h
  refine ⟨A, c, rfl, fun hl => ?_⟩
  obtain ⟨g, off, rfl, hg, _, hi⟩ := h hl
  refine ⟨g, off, rfl, hg, fun j x hj => ?_⟩
  obtain ⟨⟨u, hu, hr⟩, ⟨u', hu', hr'⟩⟩ := hi j x hj
  obtain rfl : u = .string (bs x.1) := hr
  obtain rfl : u' = .string (bs x.2) := hr'
  exact ⟨hu, hu'⟩
theorem rangeAt_bel {w w' : World} {g o : Nat} {l : List Value} (h : w.rangeAt g o l) {B : Nat} (hb : Below B w w') (hg : g < B) : w'.rangeAt g o l := fun i v hv => (hb.cell (p := ⟨g, o + i, none⟩) hg).trans (h i v hv)
theorem cf_info : (Tryd.prog.info? 29).map (·.size) = some 2 := by kernel_rfl
theorem no_proper (c : CfP) (k : Nat) (hk : k < c.length) (h : Snd.okC (c.getD k ([], [])) = false) : Snd.properB c = false := by
  unfold Snd.properB
  rw [Snd.all_no c ([], []) _ k hk h]; simp
theorem no_proper2 (c : CfP) (k : Nat) (hk : k < c.length) (h : (c.take k).any (Snd.same (c.getD k ([], []))) = true) : Snd.properB c = false := by
  unfold Snd.properB
  rw [Snd.fresh_no c ([], []) k hk h]; simp
theorem owns_map_bel {H : Type} {P : Program} {k : TypeId} {R : Value → Option (DataW H × List MemPlace)} {w w' : World} {b n : Nat} {D : DataW H} (h : w.ownsMap P k R b n D) (hb : Below w.heap.size w w') : w'.ownsMap P k R b n D := by
  have hl := h.lt
  obtain ⟨es, cl, h1, h2⟩ := h
  exact ⟨es, cl, (hb.block b hl).trans h1, h2⟩
theorem plainElem_bool_inv {P : Program} {e : TypeId} (he : P.underlying e = some .bool) {v : Value} {r : Bool} {ps : List MemPlace} (h : plainElem (H := Unit) P e v = some (.lit (.bool r), ps)) : v = .bool r := by
  unfold plainElem at h
  rw [he] at h
  cases v <;> simp at h
  rw [h.1]
theorem look_bool {P : Program} {k e t : TypeId} {w : World} {b n : Nat} {D : DataW Unit} (h : w.ownsMap P k (plainElem P e) b n D) (K : Keyed P k) (ht : P.underlying t = some (.map k e)) (he : P.underlying e = some .bool) (hz : (zeroValue e).run P w = .ok (.bool false) w) {key : Value} {kl : Lit} (hkey : keyOf P k key = some kl) {r : Bool} (hat : D.atKey kl (.lit (.bool false)) = .lit (.bool r)) :
    (Instr.lookup t (.map (some b)) key false).run P w = .ok (.bool r) w := by
  obtain ⟨v, ps, hrun, hv⟩ := h.lookup K ht hz (plainElem_bool he false) hkey
  rw [hat] at hv
  rw [hrun, plainElem_bool_inv he hv]
theorem zero_bool (w : World) : (zeroValue 4).run Tryd.prog w = .ok (.bool false) w := by kernel_rfl
theorem okC_parts (p : Snd.Conf) : Snd.okC p = (Snd.lettersB p.1 1 3 && (Snd.lettersB p.2 1 3 && !(p.1 == p.2))) := rfl
set_option maxRecDepth 100000 in
set_option maxHeartbeats 4000000 in
theorem proper_any (c : CfP) (A : Option Addr) (cap : Nat) (w : World) (hL : LongC c) (hA : CfAt w A c) :
    Calls Tryd.prog 12 #[.slice A c.length cap] w fun e w' => e = .returned (.bool (Snd.properB c)) ∧ Below w.heap.size w w' := by
  have hmm := @run_makeMap Tryd.prog
  have hn : c.length ≤ 1000000 := hL.1
  have HL := Lib.hid hL
  have HA := Lib.hid hA
  clear hL hA
  go_enter Tryd.func12, Tryd.ntmps12
  go_wp2
  go_loopw [9] (fun v wr => ∃ k : Nat, v = .int .i64 k ∧ k ≤ c.length ∧ wr.ownsMap Tryd.prog 29 (plainElem Tryd.prog 4) w.heap.size k (seenD c k) ∧ Below w.heap.size w wr ∧ (c.take k).all Snd.okC = true ∧ Snd.fresh (c.take k) = true) (fun v _ => c.length - (intOf v).toNat)
  case atStart => exact ⟨0, rfl, Nat.zero_le _, World.ownsMap_made _ _ _ _, bel_alloc (bel_refl w) _, rfl, rfl⟩
  case round =>
    obtain ⟨k, rfl, hk, hown, hbr, hok, hfr⟩ := hrel
    have hszr := hown.lt
    have HOK := Lib.hid hok
    have HFR := Lib.hid hfr
    have HOWN := Lib.hid hown
    have HBR := Lib.hid hbr
    clear hok hfr hown hbr
    by_cases hlt : k < c.length
    · obtain ⟨g, off, rfl, hg, hrg⟩ := HA.out.at_ k hlt
      have hrg := rangeAt_bel hrg HBR.out hg
      have hnl := norm_len HL.out k hlt
      have hpl := HL.out.2 _ (Snd.mem_getD c ([], []) k hlt)
      have hno1 := no_proper c k hlt
      have hno2 := no_proper2 c k hlt
      have hfst := Snd.fresh_step c ([], []) k hlt
      have host := Snd.all_step c ([], []) Snd.okC k hlt
      have hseen : seenD c (k + 1) = (seenD c k).put (cfl (Snd.norm (c.getD k ([], [])))) (.lit (.bool true)) := rfl
      generalize c.getD k ([], []) = p at *
      obtain ⟨x, y⟩ := p
      have HRG := Lib.hid hrg
      have HNO1 := Lib.hid hno1
      have HNO2 := Lib.hid hno2
      have HFST := Lib.hid hfst
      have HOST := Lib.hid host
      have HSEEN := Lib.hid hseen
      have HNL := Lib.hid hnl
      clear hrg hno1 hno2 hfst host hseen hnl
      obtain ⟨n1, n2, hnm, hln1, hln2⟩ : ∃ n1 n2 : List UInt8, Snd.norm (x, y) = (n1, n2) ∧ n1.length ≤ 1000000 ∧ n2.length ≤ 1000000 := ⟨_, _, rfl, HNL.out.1, HNL.out.2⟩
      have hok : Snd.okC (x, y) = (Snd.lettersB n1 1 3 && (Snd.lettersB n2 1 3 && !(n1 == n2))) := by rw [← Snd.okC_norm, hnm, okC_parts]
      have hsm : (seenD c k).atKey (cfl (n1, n2)) (.lit (.bool false)) = .lit (.bool ((c.take k).any (Snd.same (x, y)))) := by
        have := at_seen HL.out (n1, n2) hln1 hln2 (by rw [← hnm]; exact norm_norm _) k hk
        rw [this]
        congr 2
        rw [show Snd.same (n1, n2) = Snd.same (x, y) from funext fun d => by rw [Snd.same_norm, Snd.same_norm, ← hnm, norm_norm]]
      have hkey := key_cf (n1, n2) (show n1.length ≤ maxLen by unfold maxLen; omega) (show n2.length ≤ maxLen by unfold maxLen; omega)
      have HOKC := Lib.hid hok
      have HSM := Lib.hid hsm
      have HKEY := Lib.hid hkey
      clear hok hsm hkey
      have three : (Op.bytesLess (bs x).toList (bs y).toList = true ∧ n1 = x ∧ n2 = y) ∨ (Op.bytesLess (bs x).toList (bs y).toList = false ∧ ((bs x).toList == (bs y).toList) = true ∧ n1 = x ∧ n2 = y) ∨ (Op.bytesLess (bs x).toList (bs y).toList = false ∧ ((bs x).toList == (bs y).toList) = false ∧ n1 = y ∧ n2 = x) := by
        rw [Lib.toList_data, Lib.toList_data, bs_list, bs_list]
        unfold Snd.norm at hnm
        cases h1 : Op.bytesLess x y <;> cases h2 : x == y <;> simp only [h1, h2] at hnm
        · exact .inr (.inr ⟨rfl, rfl, (congrArg Prod.fst hnm).symm, (congrArg Prod.snd hnm).symm⟩)
        · exact .inr (.inl ⟨rfl, rfl, (congrArg Prod.fst hnm).symm, (congrArg Prod.snd hnm).symm⟩)
        · exact .inl ⟨rfl, (congrArg Prod.fst hnm).symm, (congrArg Prod.snd hnm).symm⟩
        · exact .inl ⟨rfl, (congrArg Prod.fst hnm).symm, (congrArg Prod.snd hnm).symm⟩
      have HNM := Lib.hid hnm
      clear hnm hpl
      have hbl0 := bel_alloc HBR.out (.cells #[.string (bs n1), .string (bs n2)] 29)
      have hblk0 := Blk.new wr 29 #[.string (bs n1), .string (bs n2)]
      have hown0 := HOWN.out.alloc (.cells #[.string (bs n1), .string (bs n2)] 29)
      have HBL0 := Lib.hid hbl0
      have HBLK0 := Lib.hid hblk0
      have HOWN0 := Lib.hid hown0
      clear hbl0 hblk0 hown0
      rcases three with ⟨hc1, e1, e2⟩ | ⟨hc1, hc2, e1, e2⟩ | ⟨hc1, hc2, e1, e2⟩
      all_goals
        subst e1; subst e2
        go_wp2_with (first | (refine wpList_load_mid rfl 29 _ rfl g (off + k * 2) rfl [.string (bs _), .string (bs _)] _ HRG.out Tryd.underlying29 rfl cf_info ?_))
        refine (slet_any _ 1 3 _ (by assumption)).mono ?_
        rintro e w2 ⟨rfl, hb2⟩
        have HB2 := Lib.hid hb2
        have hblk2 := HBLK0.out.bel hb2
        have c0 := hblk2.cell 0
        have c1 := hblk2.cell 1
        have HBLK2 := Lib.hid hblk2
        clear hb2 hblk2
        cases hl1 : Snd.lettersB n1 1 3
        · have hf := HNO1.out (by rw [HOKC.out, hl1]; rfl)
          have HF := Lib.hid hf
          clear hf hl1
          go_wp2
          go_ret
          exact ⟨ret_bool HF.out.symm, bel_trans HBL0.out HB2.out⟩
        · have HL1 := Lib.hid hl1
          clear hl1
          go_wp2_with fail
          refine (slet_any _ 1 3 _ (by assumption)).mono ?_
          rintro e w3 ⟨rfl, hb3⟩
          have hbl3 := bel_trans (bel_trans HBL0.out HB2.out) hb3
          have hblk3 := HBLK2.out.bel hb3
          have hown3 := owns_map_bel (owns_map_bel HOWN0.out HB2.out) hb3
          have hr3 : w3.rangeAt wr.heap.size 0 [.string (bs n1), .string (bs n2)] := fun i v hv => by
            rw [Nat.zero_add]
            exact (hblk3.cell i).trans (by rw [← hv]; simp)
          have hld : (Instr.loadAt 29 (.pointer (some ⟨wr.heap.size, 0, none⟩))).run Tryd.prog w3 = .ok (.agg #[.string (bs n1), .string (bs n2)]) w3 := run_loadAt_mid w3 wr.heap.size 0 _ _ _ hr3 Tryd.underlying29 rfl cf_info
          have hlk := look_bool hown3 cf_law Tryd.underlying47 Tryd.underlying4 (zero_bool w3) HKEY.out HSM.out
          unfold cfv at hlk
          simp only [] at hlk
          have HBL3 := Lib.hid hbl3
          have HBLK3 := Lib.hid hblk3
          have HOWN3 := Lib.hid hown3
          have d0 := hblk3.cell 0
          have d1 := hblk3.cell 1
          clear hb3 hbl3 hblk3 hown3 hr3 c0 c1
          cases hl2 : Snd.lettersB n2 1 3
          · have hf := HNO1.out (by rw [HOKC.out, HL1.out, hl2]; rfl)
            have HF := Lib.hid hf
            clear hf hl2
            go_wp2
            go_ret
            exact ⟨ret_bool HF.out.symm, HBL3.out⟩
          · have HL2 := Lib.hid hl2
            clear hl2
            cases heq : ((bs n1).toList == (bs n2).toList)
            · try (exfalso; rw [hc2] at heq; exact Bool.noConfusion heq)
              all_goals
                have hne : (n1 == n2) = false := by rwa [Lib.toList_data, Lib.toList_data, bs_list, bs_list] at heq
                have hok1 := HOKC.out
                rw [HL1.out, HL2.out, hne] at hok1
                have HOK1 := Lib.hid hok1
                clear hne hok1
                cases hsn : (c.take k).any (Snd.same _)
                · rw [hsn] at hlk
                  have HSN := Lib.hid hsn
                  clear hsn
                  go_wp2_with (first | (at_mapUpdate; refine wpList_mapUpdate_own _ rfl _ _ _ 47 rfl 29 4 cf_law Tryd.underlying47 _ w.heap.size k _ rfl HOWN3.out (by unfold maxLen; omega) _ _ _ rfl rfl HKEY.out _ [] (plainElem_bool Tryd.underlying4 true) ?_; intro w4 hown4 hgrow4; have HOWN4 := Lib.hid hown4; have HG4 := Lib.hid hgrow4; clear hown4 hgrow4))
                  have g1 : w4.ownsMap Tryd.prog 29 (plainElem Tryd.prog 4) w.heap.size (k + 1) (seenD c (k + 1)) := by
                    have := HOWN4.out
                    rw [HSEEN.out, HNM.out]
                    exact this
                  have g2 : Below w.heap.size w w4 := bel_grown HBL3.out HG4.out (fun j hj => by cases hj; exact Nat.le_refl _)
                  have g3 : (c.take (k + 1)).all Snd.okC = true := by rw [HOST.out, HOK.out, HOK1.out]; rfl
                  have g4 : Snd.fresh (c.take (k + 1)) = true := by rw [HFST.out, HFR.out, HSN.out]; rfl
                  go_roundw
                  all_goals first | rfl | exact ⟨k + 1, by go_num, hlt, g1, g2, g3, g4⟩ | (simp [intOf]; omega)
                · rw [hsn] at hlk
                  have hf := HNO2.out hsn
                  have HF := Lib.hid hf
                  clear hf hsn
                  go_wp2
                  go_ret
                  exact ⟨ret_bool HF.out.symm, HBL3.out⟩
            · have he : (n1 == n2) = true := by rwa [Lib.toList_data, Lib.toList_data, bs_list, bs_list] at heq
              have hf := HNO1.out (by rw [HOKC.out, HL1.out, HL2.out, he]; rfl)
              have HF := Lib.hid hf
              clear hf he
              go_wp2
              go_ret
              exact ⟨ret_bool HF.out.symm, HBL3.out⟩
    · obtain rfl : k = c.length := by omega
      have hok := HOK.out
      have hfr := HFR.out
      rw [List.take_length] at hok hfr
      have hv : Snd.properB c = decide (c.length ≤ 200) := by
        unfold Snd.properB
        rw [hok, hfr, Bool.and_true, Bool.and_true]
      have HV := Lib.hid hv
      clear hok hfr hv
      go_wp2
      go_ret
      refine ⟨ret_bool ?_, HBR.out⟩
      rw [HV.out]
      exact decide_eq_decide.2 (by omega)
end Go.Proofs.YtgjdbnkeamjhhaaDoor

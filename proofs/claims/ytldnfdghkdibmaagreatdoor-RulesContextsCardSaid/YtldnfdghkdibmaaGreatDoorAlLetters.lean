/-
  letters: the iterator's contract.
-/
import Derived.Test.YtldnfdghkdibmaaGreatDoorAlValid
import Derived.RangeFuncNested
import Derived.RangeFuncBound
import Derived.RangeFuncCalls
import Derived.RangeFuncLeaves
import Derived.Shelf.Abstract
import Derived.Shelf.RegionOpen
import Derived.OwnWalkIn
import Derived.TacticsInMore
import Derived.LoopNIn
import Derived.LoopIn
import Derived.RegionTactic
import Derived.BigRegion
import Derived.Deep.CutRange
import Derived.Deep.CutBlock
set_option linter.unusedVariables false
namespace Go.Proofs.YtldnfdghkdibmaaGreatDoor
open Go.RowKit Go.Maps Go.Shelf
attribute [local go_sem] alloc_drewN setCell_drewN setRow_drewN Oper.semAt_some

theorem letters_any (b : Nat) (s : ByteArray) (w : World) :
    Calls Tryz.prog 35 #[.map (some b), .string s] w fun e w' => e = .returned (.func (.func 65) #[] #[.pointer (some ⟨w.heap.size + 1, 0, none⟩), .pointer (some ⟨w.heap.size, 0, none⟩)]) ∧
      w' = (w.alloc (.cells #[.map (some b)] 67)).alloc (.cells #[.string s] 9) := by
  go_enter Tryz.func35, Tryz.ntmps35
  go_wp2
  go_ret
  exact ⟨rfl, rfl⟩

/-- what the iterator reads: its text, its map -/
structure Lay (W : World) (bt bi bm : Nat) (L : List (List UInt8)) (s : List UInt8) : Prop where
  text : W.cell? ⟨bt, 0, none⟩ = some (.string (bs s))
  inb : W.cell? ⟨bi, 0, none⟩ = some (.map (some bm))
  own : W.ownsMap Tryz.prog 9 (plainElem Tryz.prog 3) bm L.length (Al.idxD L L.length)
/-- what a round keeps of it -/
def Keep (bt bi bm : Nat) (W W' : World) : Prop := W'.heap[bt]? = W.heap[bt]? ∧ W'.heap[bi]? = W.heap[bi]? ∧ W'.heap[bm]? = W.heap[bm]?
theorem Keep.trans {bt bi bm : Nat} {A B C : World} (h : Keep bt bi bm A B) (k : Keep bt bi bm B C) : Keep bt bi bm A C := ⟨k.1.trans h.1, k.2.1.trans h.2.1, k.2.2.trans h.2.2⟩
theorem Lay.keep {W W' : World} {bt bi bm : Nat} {L : List (List UInt8)} {s : List UInt8} (h : Lay W bt bi bm L s) (k : Keep bt bi bm W W') : Lay W' bt bi bm L s := by
  refine ⟨(World.cell?_of_block k.1).trans h.text, (World.cell?_of_block k.2.1).trans h.inb, ?_⟩
  obtain ⟨es, cl, h1, h2⟩ := h.own
  exact ⟨es, cl, k.2.2.trans h1, h2⟩
theorem Lay.drewN {W : World} {bt bi bm : Nat} {L : List (List UInt8)} {s : List UInt8} (h : Lay W bt bi bm L s) (n : Nat) : Lay (W.drewN n) bt bi bm L s := ⟨h.text, h.inb, h.own⟩
theorem Lay.of_drewN {W : World} {bt bi bm : Nat} {L : List (List UInt8)} {s : List UInt8} {n : Nat} (h : Lay (W.drewN n) bt bi bm L s) : Lay W bt bi bm L s := ⟨h.text, h.inb, h.own⟩

/-- what a look-up hands back -/
def idx0 (L : List (List UInt8)) (x : List UInt8) : Int := if L.contains x then (Al.idx L x : Int) else 0
theorem look_at {w : World} {b : Nat} {L : List (List UInt8)} (hd : Al.noTwice L = true) (h : w.ownsMap Tryz.prog 9 (plainElem Tryz.prog 3) b L.length (Al.idxD L L.length)) (x : List UInt8) (hx : x.length ≤ maxLen) :
    (Instr.lookup 67 (.map (some b)) (.string (bs x)) true).run Tryz.prog w = .ok (.tuple #[.int .i64 (idx0 L x), .bool (L.contains x)]) w := by
  obtain ⟨v, ps, hrun, hv⟩ := h.look_ok lawStr Tryz.underlying67 (zeroInt w) (plainElem_int Tryz.underlying3 (by decide)) (keyStr x hx)
  rw [Al.has_all] at hrun
  obtain ⟨c, rfl, hc, _⟩ := plainElem_int_inv Tryz.underlying3 hv
  have hc' := congrArg Prod.fst hc
  simp only [] at hc'
  rw [hrun]
  unfold idx0
  cases hct : L.contains x
  · have hh : has (Al.idxD L L.length) (.string x) = false := by rw [Al.has_all]; exact hct
    rw [atKey_of_not_has hh] at hc'
    have e := (Lit.int.inj (DataW.lit.inj hc')).2
    rw [if_neg (by decide), ← e]
  · rw [Al.at_all hd hct] at hc'
    have e := (Lit.int.inj (DataW.lit.inj hc')).2
    rw [if_pos rfl, ← e]

theorem places_none (L : List (List UInt8)) (f at_ : Nat) (s : List UInt8) (h : at_ < s.length) (hf : Al.first L (s.drop at_) = none) : Al.places L (f + 1) at_ (s.drop at_) = [(at_, -1)] := by
  cases hd : s.drop at_ with
  | nil => have := congrArg List.length hd; rw [List.length_drop] at this; simp at this; omega
  | cons c r => rw [hd] at hf; rw [Al.places, hf]
theorem places_some (L : List (List UInt8)) (f at_ : Nat) (s : List UInt8) {k m : Nat} (h : at_ < s.length) (hf : Al.first L (s.drop at_) = some (k, m)) : Al.places L (f + 1) at_ (s.drop at_) = (at_, (k : Int)) :: Al.places L f (at_ + m) (s.drop (at_ + m)) := by
  have hdd : s.drop (at_ + m) = (s.drop at_).drop m := by rw [List.drop_drop]
  rw [hdd]
  cases hd : s.drop at_ with
  | nil => have := congrArg List.length hd; rw [List.length_drop] at this; simp at this; omega
  | cons c r => rw [hd] at hf; rw [Al.places, hf]

abbrev encP (p : Nat × Int) : Array Value := #[.int .i64 (p.1 : Int), .int .i64 p.2]

set_option maxRecDepth 100000 in
set_option maxHeartbeats 1000000 in
theorem letters_in (n : Nat) (hn : 1 ≤ n) (l bt bi bm : Nat) (L : List (List UInt8)) (hd : Al.noTwice L = true) (s : List UInt8) (hs : s.length ≤ 1000000) (J Jx : List (Nat × Int) → World → Prop) (PL : List (Nat × Int)) (hPL : PL = Al.places L (s.length + 1) 0 s)
    (hY : ∀ pre x W, J pre W → pre.length < PL.length → YieldAt Fence.wide (n - 1) Tryz.prog l (encP x) W fun e W' => (e = .returned (.bool true) ∧ J (pre ++ [x]) W' ∧ Keep bt bi bm W W') ∨ (e = .returned (.bool false) ∧ Jx (pre ++ [x]) W'))
    (hJd : ∀ pre W k, J pre W → J pre (W.drewN k)) (W : World) (hW : Lay W bt bi bm L s) (h0 : J [] W) :
    CallsIn Fence.wide n Tryz.prog 65 #[.func (.yield l) #[] #[], .pointer (some ⟨bt, 0, none⟩), .pointer (some ⟨bi, 0, none⟩)] W fun e W' =>
      (∃ v, e = .returned v) ∧ ((∃ ys, ys = PL ∧ J ys W') ∨ (∃ pre, pre <+: PL ∧ Jx pre W')) := by
  refine callsIn_of_wp Tryz.func65 rfl trivial ?_ rfl
  simp only [Tryz.ntmps65, List.size_toArray, List.length_cons, List.length_nil, Nat.reduceAdd, Nat.reduceSub, Array.replicate_succ, Array.replicate_zero, List.push_toArray, List.append_toArray, List.nil_append, List.cons_append]
  have HJD := Lib.hid hJd
  have HY := Lib.hid hY
  have HPL := Lib.hid hPL
  have HW := Lib.hid hW
  have HJ0 := Lib.hid h0
  have HD := Lib.hid hd
  clear hJd hY hPL hW h0 hd
  refine wpIn_wide.2 ?_
  go_wp2
  go_loopw [4] (fun v wr => ∃ (at_ f : Nat) (pre : List (Nat × Int)), v = .int .i64 at_ ∧ at_ ≤ s.length ∧ s.length < f + at_ ∧ PL = pre ++ Al.places L f at_ (s.drop at_) ∧ J pre wr ∧ Lay wr bt bi bm L s) (fun v _ => s.length - (intOf v).toNat)
  case atStart => exact ⟨0, s.length + 1, [], rfl, Nat.zero_le _, by omega, HPL.out, HJ0.out, HW.out⟩
  case round =>
    obtain ⟨at_, f, pre, rfl, hat, hf, hpl, hJ, hLay⟩ := hrel
    have HJ := Lib.hid hJ
    have HLAY := Lib.hid hLay
    have HPL2 := Lib.hid hpl
    have t0 := hLay.text
    have t1 := hLay.inb
    clear hJ hLay hpl
    by_cases hlt : at_ < s.length
    · obtain ⟨f, rfl⟩ : ∃ f', f = f' + 1 := ⟨f - 1, by omega⟩
      have hlt' : (at_ : Int) < (s.length : Int) := by omega
      obtain ⟨M, hM⟩ : ∃ M, M = min 3 (s.length - at_) := ⟨_, rfl⟩
      have hM' : min 3 ((s.length : Int) - (at_ : Int)) = (M : Int) := by omega
      have hMl : M + at_ ≤ s.length := by omega
      have hM1 : 1 ≤ M := by omega
      have hfi : Al.first L (s.drop at_) = Al.longest L (s.drop at_) M := by unfold Al.first; rw [List.length_drop, hM]
      have HFI := Lib.hid hfi
      have HMD := Lib.hid hM
      clear hfi hM
      obtain ⟨wo, rfl⟩ : ∃ wo, wo = wr := ⟨_, rfl⟩
      go_wp2
      go_quiet (fail)
      go_wp2
      go_loopw [5, 6] (fun v5 v6 wy => ∃ j m : Nat, v5 = .int .i64 (-1) ∧ v6 = .int .i64 j ∧ j ≤ M ∧ wy = wo.drewN m ∧ Al.longest L (s.drop at_) M = Al.longest L (s.drop at_) j) (fun _ v6 _ => (intOf v6).toNat)
      case atStart => exact ⟨M, _, rfl, rfl, Nat.le_refl _, rfl, rfl⟩
      case round =>
        obtain ⟨j, m, rfl, rfl, hj, rfl, hlg⟩ := hrel
        have HLG := Lib.hid hlg
        clear hlg
        cases j with
        | zero =>
          have hno : Al.first L (s.drop at_) = none := by rw [HFI.out, HLG.out]; rfl
          have hpl2 : PL = pre ++ [(at_, (-1 : Int))] := by rw [HPL2.out, places_none L f at_ s hlt hno]
          obtain ⟨fn, tmps, assign, body, hy, hR⟩ := HY.out pre (at_, -1) (wo.drewN m) (HJD.out _ _ _ HJ.out) (by rw [hpl2]; simp)
          have HPL3 := Lib.hid hpl2
          dsimp only [encP] at hy
          clear hno hpl2
          go_upto_region 8 with fail
          refine (wpIn_wide (n := n)).1 ?_
          gi_wp2
          refine hR.mono ?_
          rintro e W3 (⟨rfl, hJ3, hk3⟩ | ⟨rfl, hJx3⟩)
          · gi_wp2
            go_wp2
            refine bodyPost_ret (results_none rfl _ _ _) rfl ?_
            exact ⟨⟨_, rfl⟩, .inl ⟨_, HPL3.out.symm, hJ3⟩⟩
          · gi_wp2
            go_wp2
            refine bodyPost_ret (results_none rfl _ _ _) rfl ?_
            exact ⟨⟨_, rfl⟩, .inr ⟨_, ⟨[], by rw [List.append_nil]; exact HPL3.out.symm⟩, hJx3⟩⟩
        | succ j =>
          have hj0 : (0 : Int) < ((j + 1 : Nat) : Int) := by omega
          have hje : at_ + (j + 1) ≤ s.length := by omega
          have hex : (bs s).extract at_ (at_ + (j + 1)) = bs ((s.drop at_).take (j + 1)) := by rw [extract_bs, bs_list, Nat.add_sub_cancel_left]
          have hlk : ∀ q : Nat, (Instr.lookup 67 (.map (some bm)) (.string (bs ((s.drop at_).take (j + 1)))) true).run Tryz.prog (wo.drewN q) = .ok (.tuple #[.int .i64 (idx0 L ((s.drop at_).take (j + 1))), .bool (L.contains ((s.drop at_).take (j + 1)))]) (wo.drewN q) := fun q => look_at HD.out (HLAY.out.drewN q).own _ (by unfold maxLen; rw [List.length_take]; omega)
          have hls : Al.longest L (s.drop at_) (j + 1) = if L.contains ((s.drop at_).take (j + 1)) then some (Al.idx L ((s.drop at_).take (j + 1)), j + 1) else Al.longest L (s.drop at_) j := rfl
          cases hct : L.contains ((s.drop at_).take (j + 1))
          · have hid0 : idx0 L ((s.drop at_).take (j + 1)) = 0 := by unfold idx0; rw [hct]; rfl
            rw [hct] at hls
            simp only [hct, hid0] at hlk
            have HLS := Lib.hid (HLG.out.trans hls)
            clear hls hct hid0
            go_wp2
            go_quiet (fail)
            go_wp2
            go_roundw
            case rel => exact ⟨j, _, rfl, by go_num, by omega, rfl, by rw [HLS.out]; rfl⟩
            case measure => simp [intOf]
          · have hid0 : idx0 L ((s.drop at_).take (j + 1)) = (Al.idx L ((s.drop at_).take (j + 1)) : Int) := by unfold idx0; rw [hct]; rfl
            rw [hct] at hls
            simp only [hct, hid0] at hlk
            have hso : Al.first L (s.drop at_) = some (Al.idx L ((s.drop at_).take (j + 1)), j + 1) := by rw [HFI.out, HLG.out, hls]; rfl
            have hpl2 := places_some L f at_ s hlt hso
            generalize Al.idx L ((s.drop at_).take (j + 1)) = ix at *
            have hpl3 : PL = (pre ++ [(at_, (ix : Int))]) ++ Al.places L f (at_ + (j + 1)) (s.drop (at_ + (j + 1))) := by rw [HPL2.out, hpl2]; simp
            have HPL3 := Lib.hid hpl3
            have HY2 := Lib.hid (fun q => HY.out pre (at_, (ix : Int)) (wo.drewN q) (HJD.out _ _ _ HJ.out) (by rw [hpl3]; simp))
            clear hls hct hid0 hso hpl2 hpl3
            go_wp2
            go_quiet (fail)
            go_upto_region 8 with fail
            refine (wpIn_wide (n := n)).1 ?_
            obtain ⟨fn, tmps, assign, body, hy, hR⟩ := HY2.out (m + nq)
            dsimp only [encP] at hy
            gi_wp2
            refine hR.mono ?_
            rintro e W3 (⟨rfl, hJ3, hk3⟩ | ⟨rfl, hJx3⟩)
            · have hix : ¬ ((ix : Int) < 0) := by omega
              gi_wp2
              go_wp2
              go_roundw
              case rel => exact ⟨at_ + (j + 1), f, _, by go_num, by omega, by omega, HPL3.out, hJ3, (HLAY.out.drewN _).keep hk3⟩
              case measure => simp [intOf]; omega
            · gi_wp2
              go_wp2
              refine bodyPost_ret (results_none rfl _ _ _) rfl ?_
              exact ⟨⟨_, rfl⟩, .inr ⟨_, ⟨_, HPL3.out.symm⟩, hJx3⟩⟩
    · have hpe : PL = pre := by
        rw [HPL2.out, List.drop_eq_nil_of_le (by omega)]
        cases f <;> simp [Al.places]
      have HPE := Lib.hid hpe
      clear hpe
      go_wp2
      go_end0
      exact ⟨⟨_, rfl⟩, .inl ⟨pre, HPE.out.symm, HJ.out⟩⟩
end Go.Proofs.YtldnfdghkdibmaaGreatDoor

/-
  Near's parts: searching, sorting and freeing of doubles, over rows of the call's own.
-/
import Derived.Test.YtgjdbnkeamjhhaaDoorSoI
import Derived.Test.YtgjdbnkeamjhhaaDoorAlMem
import Derived.Sort.OwnSortedInts
set_option linter.unusedVariables false
namespace Go.Proofs.YtgjdbnkeamjhhaaDoor
open Go.RowKit Go.Sort
def bsRen : Go.Shelf.Ren := ⟨fun | 26 => 23 | 33 => 29 | 34 => 30 | 38 => 37 | n => n, fun | 24 => 32 | 3 => 3 | 4 => 4 | 9 => 9 | 0 => 0 | 40 => 65 | n => n, fun | n => n⟩
theorem bsLay : Go.Proofs.Lays2.n26 Tryd.prog bsRen := {
  mixed := by kernel_rfl
  f26 := Tryd.func23.trans (congrArg some (by kernel_rfl))
  f33 := Tryd.func29.trans (congrArg some (by kernel_rfl))
  f34 := Tryd.func30.trans (congrArg some (by kernel_rfl))
  f38 := Tryd.func37.trans (congrArg some (by kernel_rfl))
  t0 := Tryd.underlying0
  a0 := Tryd.isAgg0
  z0 := Tryd.sizeOf0
  v0 := Tryd.zeroValue0
  t3 := Tryd.underlying3
  a3 := Tryd.isAgg3
  z3 := Tryd.sizeOf3
  v3 := Tryd.zeroValue3
  t4 := Tryd.underlying4
  a4 := Tryd.isAgg4
  z4 := Tryd.sizeOf4
  v4 := Tryd.zeroValue4
  t9 := Tryd.underlying9
  a9 := Tryd.isAgg9
  z9 := Tryd.sizeOf9
  v9 := Tryd.zeroValue9
  t24 := Tryd.underlying32
  a24 := Tryd.isAgg32
  z24 := Tryd.sizeOf32
  v24 := Tryd.zeroValue32
  t40 := Tryd.underlying65
  a40 := Tryd.isAgg65
  z40 := Tryd.sizeOf65
  v40 := Tryd.zeroValue65 }
theorem bs_any (ws : List (List UInt8)) (A : Option Addr) (cap : Nat) (s : List UInt8) (w : World) (hA : StrAt w A ws) (hr : Snd.rising ws = true) (h0 : 0 < ws.length) (hn : ws.length ≤ 1000000) :
    Calls Tryd.prog 23 #[.slice A ws.length cap, .string (bs s)] w fun e w' => e = .returned (.tuple #[.int .i64 (Snd.below ws s : Nat), .bool (decide (Snd.below ws s < ws.length ∧ ws.getD (Snd.below ws s) [] = s))]) ∧ ∃ q, w' = w.drewN q := by
  obtain ⟨g, off, rfl, hg, hc⟩ := hA h0
  have h := Any2.slices_BinarySearch_string bsLay g off ws.length cap (fun j => bs (ws.getD j [])) (bs s) w (by omega) (fun j hj => hc j _ (by rw [List.getD_eq_getElem?_getD, List.getElem?_eq_getElem hj]; rfl))
  have hb : Lib.bsGo (fun t => Op.bytesLess (bs (ws.getD t [])).toList (bs s).toList) ws.length 0 ws.length = Snd.below ws s := Snd.bs_below hr s _ (fun t ht => by rw [Lib.toList_data, Lib.toList_data, bs_list, bs_list])
  rw [hb] at h
  refine Calls.mono h ?_
  rintro e w' ⟨rfl, hw⟩
  refine ⟨?_, hw⟩
  have hd : decide (Snd.below ws s < ws.length ∧ bs (ws.getD (Snd.below ws s) []) = bs s) = decide (Snd.below ws s < ws.length ∧ ws.getD (Snd.below ws s) [] = s) := decide_eq_decide.2 (and_congr_right fun _ => bs_inj)
  rw [hd]
section
variable {w : World} {base : Nat} {v : Value}
theorem sort_own {zs : List Int} (h : w.ownsRow base 3 1 v zs.length (zs.map (Value.int .i64))) (hz : zs.length ≤ 1000000000) :
    Calls Tryd.prog 24 #[v] w fun e w' => e = .returned (.tuple #[]) ∧ w'.ownsRow base 3 1 v zs.length ((zs.mergeSort fun x y => decide (x ≤ y)).map (Value.int .i64)) ∧ w.grownBy w' v.ownBlock := by
  rcases h.2 with ⟨rfl, h0⟩ | ⟨g, cap, cur, rfl, hb, hh, hc, hm, hsz, ht⟩
  · obtain rfl : zs = [] := List.length_eq_zero_iff.1 h0
    refine (Tryd.slices_Sort_int_none none 0 w).mono ?_
    rintro e w' ⟨rfl, rfl⟩
    exact ⟨rfl, by rw [List.mergeSort_nil]; exact h, rfl, rfl, rfl, Nat.le_refl _, fun _ _ _ => rfl⟩
  · rw [Nat.mul_one] at ht
    have hH := holds_of_blockI hh ht
    have hlt : g < w.heap.size := (Array.getElem?_eq_some_iff.1 hh).1
    refine (Tryd.slices_Sort_int g 0 cap zs w hH hlt (by omega)).mono ?_
    rintro e w' ⟨rfl, n, os, rfl⟩
    exact ⟨rfl, ownsRow_sortedI (by simp) hb hh hc hm hsz, grownBy_sortedI _⟩
theorem compact_own {zs : List Int} (h : w.ownsRow base 3 1 v zs.length (zs.map (Value.int .i64))) (hz : zs.length ≤ 1000000000) :
    Calls Tryd.prog 25 #[v] w fun e w' => ∃ v', e = .returned v' ∧ w'.ownsRow base 3 1 v' (Lib.compact zs).length ((Lib.compact zs).map (Value.int .i64)) ∧ w.grownBy w' v.ownBlock := by
  rcases h.2 with ⟨rfl, h0⟩ | ⟨g, cap, cur, rfl, hb, hh, hc, hm, hsz, ht⟩
  · obtain rfl : zs = [] := List.length_eq_zero_iff.1 h0
    refine (Tryd.slices_Compact_int_empty none 0 w).mono ?_
    rintro e w' ⟨rfl, rfl⟩
    exact ⟨_, rfl, h, rfl, rfl, rfl, Nat.le_refl _, fun _ _ _ => rfl⟩
  · rw [Nat.mul_one] at ht
    have hH := holds_of_blockI hh ht
    have hlt : g < w.heap.size := (Array.getElem?_eq_some_iff.1 hh).1
    have hcl : (Lib.compact zs).length ≤ zs.length := by
      unfold Lib.compact Lib.compactUpTo
      rw [List.length_map]
      exact Nat.le_trans (List.length_filter_le _ _) (by simp)
    refine (Tryd.slices_Compact_int g 0 cap zs w hH (by omega) hc).mono ?_
    rintro e w' ⟨rfl, q, rfl⟩
    have hb' := heap_sortedI (n := q) (os := #[]) (Lib.compact zs ++ List.replicate (zs.length - (Lib.compact zs).length) 0).toArray hh
    rw [grow_empty] at hb'
    have hg := grownBy_sortedI (w := w) (g := g) (n := q) (os := #[]) (Lib.compact zs ++ List.replicate (zs.length - (Lib.compact zs).length) 0).toArray
    rw [grow_empty] at hg
    refine ⟨_, rfl, ⟨by simp, .inr ⟨g, cap, _, rfl, hb, hb', by omega, hm, by simp [putCells, hsz], ?_⟩⟩, hg⟩
    have ht2 := take_putCellsI cur (Lib.compact zs ++ List.replicate (zs.length - (Lib.compact zs).length) 0) (by simp; omega)
    have h3 := congrArg (List.take (Lib.compact zs).length) ht2
    rw [List.take_take, Nat.min_eq_left (by simp), List.map_append, List.take_left' (by simp)] at h3
    rw [Nat.mul_one]
    exact h3
end
end Go.Proofs.YtgjdbnkeamjhhaaDoor

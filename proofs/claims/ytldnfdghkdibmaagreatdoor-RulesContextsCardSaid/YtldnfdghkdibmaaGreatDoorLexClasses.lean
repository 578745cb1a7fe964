/-
  The lexer's table of classes: 'classes' returns the class of each byte.
-/
import Derived.Test.YtldnfdghkdibmaaGreatDoorLexScan
import Derived.WalkSmall
import Derived.Deep.WholeRow
namespace Go.Proofs.YtldnfdghkdibmaaGreatDoor
open Go.RowKit

/-- a table in which the bytes of a text have a class -/
def setAll (C : Array Value) (l : List UInt8) (k : Int) : Array Value := l.foldl (fun C c => C.setIfInBounds c.toNat (.int .i64 k)) C
theorem setAll_size (C : Array Value) (l : List UInt8) (k : Int) : (setAll C l k).size = C.size := by
  unfold setAll
  induction l generalizing C with
  | nil => rfl
  | cons c r ih => rw [List.foldl_cons, ih]; simp
theorem setAll_snoc (C : Array Value) (l : List UInt8) (c : UInt8) (k : Int) : setAll C (l ++ [c]) k = (setAll C l k).setIfInBounds c.toNat (.int .i64 k) := by
  simp [setAll]
theorem setRow_setCell (w : World) (g i : Nat) (C : Array Value) (t : TypeId) (v : Value) (C' : Array Value) (hg : w.heap[g]? = some (.cells C t (0, 0))) : (w.setRow g C').setCell ⟨g, i, none⟩ v = w.setRow g (C'.setIfInBounds i v) := by
  simp only [World.setRow, World.setCell]
  congr 1
  apply Array.ext_getElem?
  intro j
  simp only [Array.getElem?_modify]
  by_cases h : g = j
  · subst h; simp [hg]
  · simp [h]
theorem setRow_heap (w : World) (g : Nat) (C : Array Value) (t : TypeId) (C' : Array Value) (hg : w.heap[g]? = some (.cells C t (0, 0))) : (w.setRow g C').heap[g]? = some (.cells C' t (0, 0)) := by
  simp [World.setRow, Array.getElem?_modify, hg]
theorem setRow_self (w : World) (g : Nat) (C : Array Value) (t : TypeId) (hg : w.heap[g]? = some (.cells C t (0, 0))) : w.setRow g C = w := by
  simp only [World.setRow]
  have : (w.heap.modify g fun | .cells _ elem frozen => .cells C elem frozen | o => o) = w.heap := by
    apply Array.ext_getElem?
    intro j
    rw [Array.getElem?_modify]
    by_cases h : g = j
    · subst h; simp [hg]
    · simp [h]
  exact congrArg (fun h => ({ w with heap := h } : World)) this

set_option maxRecDepth 100000 in
set_option maxHeartbeats 1000000 in
theorem set_any (s : ByteArray) (k : Int) (g : Nat) (C : Array Value) (w : World) (hs : s.size ≤ 1000) (hC : C.size = 256) (hg : w.heap[g]? = some (.cells C 82 (0, 0))) :
    Calls Tryz.prog 71 #[.string s, .int .i64 k, .pointer (some ⟨g, 0, none⟩)] w fun e w' => e = .returned (.tuple #[]) ∧ w' = w.setRow g (setAll C s.data.toList k) := by
  have HG := Lib.hid hg
  have hw : w = w.setRow g (setAll C (s.data.toList.take 0) k) := (setRow_self w g C _ hg).symm
  have HW := Lib.hid hw
  clear hw hg
  have HC := Lib.hid hC; clear hC
  go_enter Tryz.func71, Tryz.ntmps71
  go_wp2
  go_loopw [5] (fun v wr => ∃ i : Nat, i ≤ s.size ∧ v = .int .i64 i ∧ wr = w.setRow g (setAll C (s.data.toList.take i) k)) (fun v _ => s.size - (intOf v).toNat)
  case atStart => exact ⟨0, by omega, rfl, HW.out⟩
  case round =>
    obtain ⟨i, hi, rfl, hwr⟩ := hrel
    have HWR := Lib.hid hwr
    clear hwr
    by_cases hlt : i < s.size
    · have hx := get_list s i hlt
      have HX := Lib.hid hx; clear hx
      have hb : s[i].toNat < 256 := UInt8.toNat_lt s[i]
      have hh : wr.heap[g]? = some (.cells (setAll C (s.data.toList.take i) k) 82 (0, 0)) := by rw [HWR.out]; exact setRow_heap w g C _ _ HG.out
      have hcell : wr.cell? ⟨g, s[i].toNat, none⟩ = some ((setAll C (s.data.toList.take i) k)[s[i].toNat]'(by rw [setAll_size, HC.out]; exact hb)) := by
        rw [cell_of_row wr g _ _ _ _ hh]
        simp
      have hfr : wr.frozen? ⟨g, s[i].toNat, none⟩ = false := frozen_of_row wr g _ _ _ hh
      clear hh
      generalize (setAll C (s.data.toList.take i) k)[s[i].toNat]'(by rw [setAll_size, HC.out]; exact hb) = old at *
      go_wp2
      go_roundw
      case rel =>
        refine ⟨i + 1, by omega, by go_num, ?_⟩
        rw [List.take_add_one, HX.out, HWR.out]
        simp only [Option.toList]
        rw [setAll_snoc, ← setRow_setCell w g _ C _ _ _ HG.out]
      case measure => simp [intOf]; omega
    · go_wp2
      go_end0
      refine ⟨rfl, ?_⟩
      have hi2 : i = s.size := by omega
      rw [HWR.out, List.take_of_length_le (by rw [← size_list]; omega)]

theorem setRow_two (w : World) (o : Obj) (c c' : Array Value) (t : TypeId) : ((w.alloc o).alloc (.cells c t)).setRow (w.heap.size + 1) c' = (w.alloc o).alloc (.cells c' t) := by
  have := World.setRow_alloc_new (w.alloc o) c c' t
  simpa using this
theorem heap_two (w : World) (o o' : Obj) : ((w.alloc o).alloc o').heap[w.heap.size + 1]? = some o' := by
  have := heap_alloc_last (w.alloc o) o'
  simpa using this
theorem set_two (s : ByteArray) (k : Int) (w : World) (o : Obj) (C : Array Value) (hs : s.size ≤ 1000) (hC : C.size = 256) :
    Calls Tryz.prog 71 #[.string s, .int .i64 k, .pointer (some ⟨w.heap.size + 1, 0, none⟩)] ((w.alloc o).alloc (.cells C 82)) fun e w' =>
      e = .returned (.tuple #[]) ∧ w' = (w.alloc o).alloc (.cells (setAll C s.data.toList k) 82) := by
  refine (set_any s k (w.heap.size + 1) C _ hs hC (heap_two w o _)).mono ?_
  rintro e w' ⟨rfl, rfl⟩
  exact ⟨rfl, setRow_two w o _ _ _⟩

def tab0 : Array Value := Array.replicate 256 (.int .i64 0)
def tab1 : Array Value := setAll tab0 [97, 98, 99, 100, 101, 102, 103, 104, 105, 106, 107, 108, 109, 110, 111, 112, 113, 114, 115, 116, 117, 118, 119, 120, 121, 122, 65, 66, 67, 68, 69, 70, 71, 72, 73, 74, 75, 76, 77, 78, 79, 80, 81, 82, 83, 84, 85, 86, 87, 88, 89, 90] 3
def tab2 : Array Value := setAll tab1 [48, 49, 50, 51, 52, 53, 54, 55, 56, 57] 4
def tab3 : Array Value := setAll tab2 [95] 5
def tab4 : Array Value := setAll tab3 [32, 9, 10] 1
def tab5 : Array Value := setAll tab4 [35] 2
def tab6 : Array Value := setAll tab5 [34] 6
def tab7 : Array Value := setAll tab6 [33] 7
def tab8 : Array Value := setAll tab7 [60, 62] 8
def tab9 : Array Value := setAll tab8 [59, 44, 46, 58, 40, 41, 91, 93, 123, 125, 61, 43, 45] 9
theorem tab0_size : tab0.size = 256 := by simp [tab0]
theorem tab1_size : tab1.size = 256 := by unfold tab1; rw [setAll_size, tab0_size]
theorem tab2_size : tab2.size = 256 := by unfold tab2; rw [setAll_size, tab1_size]
theorem tab3_size : tab3.size = 256 := by unfold tab3; rw [setAll_size, tab2_size]
theorem tab4_size : tab4.size = 256 := by unfold tab4; rw [setAll_size, tab3_size]
theorem tab5_size : tab5.size = 256 := by unfold tab5; rw [setAll_size, tab4_size]
theorem tab6_size : tab6.size = 256 := by unfold tab6; rw [setAll_size, tab5_size]
theorem tab7_size : tab7.size = 256 := by unfold tab7; rw [setAll_size, tab6_size]
theorem tab8_size : tab8.size = 256 := by unfold tab8; rw [setAll_size, tab7_size]
theorem tab9_size : tab9.size = 256 := by unfold tab9; rw [setAll_size, tab8_size]

/-- the class of each byte, as the table has it -/
def clsTab : Array Value := ((List.range 256).map fun c => Value.int .i64 (Lx.cls (UInt8.ofNat c) : Nat)).toArray
theorem tab_all : tab9 = clsTab := by kernel_rfl
theorem clsTab_size : clsTab.size = 256 := by kernel_rfl
theorem clsTab_at (c : UInt8) : clsTab[c.toNat]? = some (.int .i64 (Lx.cls c : Nat)) := by
  have hc : c.toNat < 256 := UInt8.toNat_lt c
  have h : clsTab.toList[c.toNat]? = some (.int .i64 (Lx.cls c : Nat)) := by
    show ((List.range 256).map fun c => Value.int .i64 (Lx.cls (UInt8.ofNat c) : Nat))[c.toNat]? = _
    rw [List.getElem?_map, List.getElem?_range hc]
    simp
  simpa using h
theorem clsTab_one : clsTab.all (·.oneCell') = true := by kernel_rfl
theorem zero_tab : ∀ w, (zeroValue 82).run Tryz.prog w = .ok (.agg tab0) w := fun _ => by kernel_rfl
theorem info_tab : (Tryz.prog.info? 82).map (·.size) = some 256 := by kernel_rfl

set_option maxRecDepth 100000 in
set_option maxHeartbeats 1000000 in
theorem classes_any (w : World) :
    Calls Tryz.prog 39 #[] w fun e w' => e = .returned (.agg clsTab) ∧ Below w.heap.size w w' := by
  have hmf : ∀ (fn : Fn) (first cap : Array Value) (w : World), (Instr.makeFunc fn first cap).run Tryz.prog w = .ok (.func fn first cap) w := fun _ _ _ _ => rfl
  have hz := zero_tab
  go_enter Tryz.func39, Tryz.ntmps39
  go_wp2_with fail
  refine (set_two { data := #[97, 98, 99, 100, 101, 102, 103, 104, 105, 106, 107, 108, 109, 110, 111, 112, 113, 114, 115, 116, 117, 118, 119, 120, 121, 122, 65, 66, 67, 68, 69, 70, 71, 72, 73, 74, 75, 76, 77, 78, 79, 80, 81, 82, 83, 84, 85, 86, 87, 88, 89, 90] } 3 w _ tab0 (by show 52 ≤ 1000; omega) tab0_size).mono ?_
  rintro e w' ⟨rfl, rfl⟩
  rw [show setAll tab0 ({ data := #[97, 98, 99, 100, 101, 102, 103, 104, 105, 106, 107, 108, 109, 110, 111, 112, 113, 114, 115, 116, 117, 118, 119, 120, 121, 122, 65, 66, 67, 68, 69, 70, 71, 72, 73, 74, 75, 76, 77, 78, 79, 80, 81, 82, 83, 84, 85, 86, 87, 88, 89, 90] } : ByteArray).data.toList 3 = tab1 from rfl]
  go_wp2_with fail
  refine (set_two { data := #[48, 49, 50, 51, 52, 53, 54, 55, 56, 57] } 4 w _ tab1 (by show 10 ≤ 1000; omega) tab1_size).mono ?_
  rintro e w' ⟨rfl, rfl⟩
  rw [show setAll tab1 ({ data := #[48, 49, 50, 51, 52, 53, 54, 55, 56, 57] } : ByteArray).data.toList 4 = tab2 from rfl]
  go_wp2_with fail
  refine (set_two { data := #[95] } 5 w _ tab2 (by show 1 ≤ 1000; omega) tab2_size).mono ?_
  rintro e w' ⟨rfl, rfl⟩
  rw [show setAll tab2 ({ data := #[95] } : ByteArray).data.toList 5 = tab3 from rfl]
  go_wp2_with fail
  refine (set_two { data := #[32, 9, 10] } 1 w _ tab3 (by show 3 ≤ 1000; omega) tab3_size).mono ?_
  rintro e w' ⟨rfl, rfl⟩
  rw [show setAll tab3 ({ data := #[32, 9, 10] } : ByteArray).data.toList 1 = tab4 from rfl]
  go_wp2_with fail
  refine (set_two { data := #[35] } 2 w _ tab4 (by show 1 ≤ 1000; omega) tab4_size).mono ?_
  rintro e w' ⟨rfl, rfl⟩
  rw [show setAll tab4 ({ data := #[35] } : ByteArray).data.toList 2 = tab5 from rfl]
  go_wp2_with fail
  refine (set_two { data := #[34] } 6 w _ tab5 (by show 1 ≤ 1000; omega) tab5_size).mono ?_
  rintro e w' ⟨rfl, rfl⟩
  rw [show setAll tab5 ({ data := #[34] } : ByteArray).data.toList 6 = tab6 from rfl]
  go_wp2_with fail
  refine (set_two { data := #[33] } 7 w _ tab6 (by show 1 ≤ 1000; omega) tab6_size).mono ?_
  rintro e w' ⟨rfl, rfl⟩
  rw [show setAll tab6 ({ data := #[33] } : ByteArray).data.toList 7 = tab7 from rfl]
  go_wp2_with fail
  refine (set_two { data := #[60, 62] } 8 w _ tab7 (by show 2 ≤ 1000; omega) tab7_size).mono ?_
  rintro e w' ⟨rfl, rfl⟩
  rw [show setAll tab7 ({ data := #[60, 62] } : ByteArray).data.toList 8 = tab8 from rfl]
  go_wp2_with fail
  refine (set_two { data := #[59, 44, 46, 58, 40, 41, 91, 93, 123, 125, 61, 43, 45] } 9 w _ tab8 (by show 13 ≤ 1000; omega) tab8_size).mono ?_
  rintro e w' ⟨rfl, rfl⟩
  rw [show setAll tab8 ({ data := #[59, 44, 46, 58, 40, 41, 91, 93, 123, 125, 61, 43, 45] } : ByteArray).data.toList 9 = tab9 from rfl]
  rw [tab_all]
  go_wp2_with (first | (refine wpList_load_row rfl 82 _ rfl (w.heap.size + 1) rfl 82 clsTab (0, 0) _ (heap_two w _ _) Tryz.underlying82 rfl (by rw [clsTab_size]; exact info_tab) ?_) | (refine wpList_store_row rfl 82 _ _ rfl w.heap.size clsTab rfl rfl 82 tab0 ?h1 (by rw [clsTab_size]; exact info_tab) (by rw [clsTab_size, tab0_size]) clsTab_one ?_))
  case h1 => exact heap_alloc2_old w _ _
  have hh : ((((w.alloc (.cells tab0 82)).alloc (.cells clsTab 82))).setRow w.heap.size clsTab).heap[w.heap.size]? = some (.cells clsTab 82 (0, 0)) :=
    setRow_heap _ _ tab0 _ _ (heap_alloc2_old w _ _)
  refine bodyPost_ret (results_cell_row rfl _ _ w.heap.size 82 clsTab (0, 0) _ rfl hh Tryz.underlying82 rfl (by rw [clsTab_size]; exact info_tab)) rfl ⟨rfl, ?_⟩
  refine (((Below.refl w.heap.size w).alloc (Nat.le_refl _) (.cells tab0 82)).alloc (by simp) (.cells clsTab 82)).trans ⟨rfl, rfl, rfl, by simp, fun k hk => ?_⟩
  simp only [World.setRow, Array.getElem?_modify]
  rw [if_neg (by omega)]
end Go.Proofs.YtldnfdghkdibmaaGreatDoor

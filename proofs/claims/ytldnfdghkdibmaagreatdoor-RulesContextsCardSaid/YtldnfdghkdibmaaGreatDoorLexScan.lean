/-
  The lexer's scanner: what 'at', 'while' and 'gap' return, at every scanner in memory.
-/
import Derived.Test.YtldnfdghkdibmaaGreatDoorLexSpec
import Derived.Test.YtldnfdghkdibmaaGreatDoorWalkBase
set_option linter.unusedVariables false
namespace Go.Proofs.YtldnfdghkdibmaaGreatDoor
open Go.RowKit

/-- a scanner in block b: its text, and the classes of the bytes -/
structure Scan (w : World) (b : Nat) (s : ByteArray) : Prop where
  text : w.cell? ⟨b, 0, none⟩ = some (.string s)
  cls : ∀ c : UInt8, w.cell? ⟨b, 1 + c.toNat, none⟩ = some (.int .i64 (Lx.cls c : Nat))

theorem Scan.drewN {w : World} {b : Nat} {s : ByteArray} (h : Scan w b s) (n : Nat) : Scan (w.drewN n) b s := ⟨h.text, h.cls⟩
theorem Scan.drewN' {w : World} {b n : Nat} {s : ByteArray} (h : Scan (w.drewN n) b s) : Scan w b s := ⟨h.text, h.cls⟩
theorem Scan.below {B : Nat} {w w' : World} {b : Nat} {s : ByteArray} (h : Scan w b s) (hb : Below B w w') (hB : b < B) : Scan w' b s :=
  ⟨(hb.cell (p := ⟨b, 0, none⟩) hB).trans h.text, fun c => (hb.cell (p := ⟨b, 1 + c.toNat, none⟩) hB).trans (h.cls c)⟩

theorem Scan.alloc {w : World} {b : Nat} {s : ByteArray} (h : Scan w b s) (hB : b < w.heap.size) (o : Obj) : Scan (w.alloc o) b s :=
  h.below ((Below.refl w.heap.size w).alloc (Nat.le_refl _) o) hB

set_option maxHeartbeats 400000 in
theorem at_ge (b : Nat) (s : ByteArray) (i : Int) (w : World) (hs : s.size ≤ 9223372036854775807) (hi : (s.size : Int) ≤ i)
   (h0 : w.cell? ⟨b, 0, none⟩ = some (.string s)) :
    Calls Tryz.prog 73 #[.pointer (some ⟨b, 0, none⟩), .int .i64 i] w fun e w' => e = .returned (.int .i64 0) ∧ w = w' := by
  go_enter Tryz.func73, Tryz.ntmps73
  go_wp2
  go_ret
  exact ⟨rfl, rfl⟩
set_option maxHeartbeats 400000 in
theorem at_lt (b : Nat) (s : ByteArray) (i : Nat) (w : World) (hs : s.size ≤ 9223372036854775807) (hi : i < s.size)
   (h0 : w.cell? ⟨b, 0, none⟩ = some (.string s)) (hc : w.cell? ⟨b, 1 + s[i].toNat, none⟩ = some (.int .i64 (Lx.cls s[i] : Nat))) :
    Calls Tryz.prog 73 #[.pointer (some ⟨b, 0, none⟩), .int .i64 i] w fun e w' => e = .returned (.int .i64 (Lx.cls s[i] : Nat)) ∧ ∃ n, w' = w.drewN n := by
  have hb : s[i].toNat < 256 := UInt8.toNat_lt s[i]
  go_enter Tryz.func73, Tryz.ntmps73
  go_wp2
  go_quiet (fail)
  go_wp2
  go_ret
  exact ⟨rfl, _, rfl⟩

/-- 'at' at every offset -/
theorem at_any (b : Nat) (s : ByteArray) (i : Int) (w : World) (hs : s.size ≤ 9223372036854775807) (hi : 0 ≤ i) (h : Scan w b s) :
    Calls Tryz.prog 73 #[.pointer (some ⟨b, 0, none⟩), .int .i64 i] w fun e w' =>
      e = .returned (.int .i64 (Lx.clsAt (s.data.toList.drop i.toNat) : Nat)) ∧ ∃ n, w' = w.drewN n := by
  obtain ⟨k, rfl⟩ := Int.eq_ofNat_of_zero_le hi
  rw [Int.toNat_natCast]
  by_cases hlt : k < s.size
  · rw [drop_get s k hlt]
    exact at_lt b s k w hs hlt h.text (h.cls _)
  · have hd : s.data.toList.drop k = [] := List.drop_eq_nil_of_le (by rw [← size_list]; omega)
    rw [hd]
    exact (at_ge b s k w hs (by omega) h.text).mono fun e w' ⟨he, hw⟩ => ⟨he, 0, hw.symm⟩

/-- the classes of a slice of classes that have a byte -/
def among (zs : List Int) (c : UInt8) : Bool := zs.contains (Lx.cls c : Nat)

theorem span_cons {p : UInt8 → Bool} {c : UInt8} {l : List UInt8} (h : p c = true) : Lx.span p (c :: l) = Lx.span p l + 1 := by
  simp [Lx.span, h]
theorem span_stop {p : UInt8 → Bool} {c : UInt8} {l : List UInt8} (h : p c = false) : Lx.span p (c :: l) = 0 := by
  simp [Lx.span, h]
theorem span_le (p : UInt8 → Bool) (l : List UInt8) : Lx.span p l ≤ l.length := by
  induction l with
  | nil => simp [Lx.span]
  | cons c r ih =>
    cases h : p c
    · rw [span_stop h]; omega
    · rw [span_cons h, List.length_cons]; omega

set_option maxHeartbeats 1000000 in
theorem while_any (b : Nat) (s : ByteArray) (i : Nat) (bk n c : Nat) (zs : List Int) (w : World) (hs : s.size ≤ 4611686018427387904) (hi : i ≤ s.size) (h : Scan w b s)
    (hn : n = zs.length) (hn1 : 0 < n) (hn2 : n ≤ 100) (hz : ∀ j, j < zs.length → w.cell? ⟨bk, 0 + j, none⟩ = some (.int .i64 (zs.getD j 0))) :
    Calls Tryz.prog 72 #[.pointer (some ⟨b, 0, none⟩), .int .i64 i, .slice (some ⟨bk, 0, none⟩) n c] w fun e w' =>
      e = .returned (.int .i64 (i + Lx.span (among zs) (s.data.toList.drop i) : Nat)) ∧ ∃ m, w' = w.drewN m := by
  have htake : zs.take n = zs := List.take_of_length_le (by omega)
  have HT := Lib.hid htake; clear htake
  have HZ := Lib.hid hz; clear hz
  have HN := Lib.hid hn
  have hnz : n ≤ zs.length := by omega
  clear hn
  go_enter Tryz.func72, Tryz.ntmps72
  go_wp2
  go_loopw [1] (fun v wr => ∃ k m : Nat, k ≤ s.size ∧ v = .int .i64 k ∧ wr = w.drewN m ∧ i + Lx.span (among zs) (s.data.toList.drop i) = k + Lx.span (among zs) (s.data.toList.drop k)) (fun v _ => s.size - (intOf v).toNat)
  case atStart => exact ⟨i, 0, hi, rfl, rfl, rfl⟩
  case round =>
    obtain ⟨k, m, hk, rfl, rfl, hrest⟩ := hrel
    have HR := Lib.hid hrest; clear hrest
    have h0 := h.text
    by_cases hlt : k < s.size
    · have hc := drop_get s k hlt
      have HC := Lib.hid hc; clear hc
      go_wp2_with fail
      refine (at_any b s k _ (by omega) (by omega) (h.drewN m)).mono ?_
      rintro e w' ⟨rfl, m1, rfl⟩
      rw [Int.toNat_natCast, HC.out]
      go_wp2_with fail
      refine (Tryz.slices_Contains_int bk 0 n c zs _ _ hnz (by omega) (by exact HZ.out)).mono ?_
      rintro e w' ⟨rfl, rfl⟩
      rw [HT.out]
      have hx : zs.contains ((Lx.clsAt (s[k] :: List.drop (k + 1) s.data.toList) : Nat) : Int) = among zs s[k] := rfl
      rw [hx]
      clear hx
      cases hq : among zs s[k]
      · go_wp2
        go_ret
        refine ⟨?_, _, rfl⟩
        rw [HR.out, HC.out, span_stop hq]
        rfl
      · go_wp2
        go_roundw
        case rel => 
          refine ⟨k + 1, _, by omega, by go_num, rfl, ?_⟩
          rw [HR.out, HC.out, span_cons hq]
          omega
        case measure => simp [intOf]; omega
    · go_wp2
      go_ret
      refine ⟨?_, _, rfl⟩
      rw [HR.out]
      have hd : s.data.toList.drop k = [] := List.drop_eq_nil_of_le (by rw [← size_list]; omega)
      rw [hd]
      rfl
end Go.Proofs.YtldnfdghkdibmaaGreatDoor

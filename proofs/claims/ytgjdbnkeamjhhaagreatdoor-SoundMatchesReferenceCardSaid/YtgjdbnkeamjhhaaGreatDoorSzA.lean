/-
  Layer 40, the reference's functions: contracts, loops.
-/
import Derived.Test.YtgjdbnkeamjhhaaGreatDoorSoN
import Derived.Test.YtgjdbnkeamjhhaaGreatDoorRefName
set_option linter.unusedVariables false
namespace Go.Proofs.YtgjdbnkeamjhhaaGreatDoor
open Go.RowKit
open R
abbrev ckStr : CK := .one .str
abbrev ckInt : CK := .one (.int .i64)
def cName : Con := .of 26 [ckStr] [.one .bool] (fun s => List.length s ≤ 1000000) Lx.nameB
theorem name_holds : cName.Holds Tryz.prog := holds_str_bool Tryz.func26 (by kernel_rfl) (by kernel_rfl) fun s w h => (rname_any (bs s) w (by rw [bs_size]; omega)).mono fun e w' ⟨he, hw⟩ => ⟨he, hw ▸ bel_refl w⟩
def cRLet : Con := .of 23 [ckStr, ckInt, ckInt] [.one .bool] (fun p => List.length p.1 ≤ 1000000) (fun p => Snd.lettersB p.1 p.2.1 p.2.2)
def anRLet (s : List UInt8) : List (Nat × Ann) := [ann 0 Nat [0, 1, 2] (fun k => [(7, R.int .i64 k)]) (fun k => k ≤ s.length ∧ (s.take k).all Snd.letB = true) (fun k => s.length - k)]
def cRValid : Con := .of 10 [ckWl] [.one .bool] LongW (fun p => Snd.validB p.1 p.2)
def anRValid (ws : List (List UInt8)) : List (Nat × Ann) :=
  [ann 0 Nat [1] (fun k => [(3, R.int .i64 k)]) (fun k => k ≤ ws.length ∧ (ws.take k).all (fun s => Snd.lettersB s 3 8) = true ∧ Snd.rising (ws.take k) = true) (fun k => ws.length - k)]
def cRProper : Con := .of 12 [ckCf] [.one .bool] LongC Snd.properB
def anRProper (c : CfP) : List (Nat × Ann) :=
  [ann 0 Nat [0] (fun k => [(3, R.int .i64 k)]) (fun k => k ≤ c.length ∧ (c.take k).all Snd.okC = true ∧ Snd.fresh (c.take k) = true) (fun k => c.length - k),
   annS 2 Nat [0, 3] (fun k => [(4, R.int .i64 k)]) (fun _ => []) (fun st k => k ≤ (st.intOf 3).toNat ∧ (c.take k).any (Snd.same (c.getD (st.intOf 3).toNat ([], []))) = false) (fun st k => (st.intOf 3).toNat - k)]
def cRRep : Con := .of 33 [ckStr, ckStr, ckStr, ckStr] [.one .bool] (fun p => List.length p.1 ≤ 1000000 ∧ List.length p.2.2.1 ≤ 1000000 ∧ List.length p.2.2.2 ≤ 1000000) (fun p => Snd.repB p.1 p.2.1 p.2.2.1 p.2.2.2)
def anRRep (x y a b : List UInt8) : List (Nat × Ann) :=
  [ann 0 Nat [0, 1, 2, 3] (fun k => [(9, R.int .i64 k)]) (fun k => k ≤ x.length + 1 ∧ ∀ j, j < k → Snd.repAt x y a b j = false) (fun k => x.length + 1 - k)]
def cRSounds : Con := .of 24 [ckCf, ckStr, ckStr] [.one .bool] (fun p => LongC p.1 ∧ List.length p.2.1 ≤ 1000000 ∧ List.length p.2.2 ≤ 1000000) (fun p => Snd.soundsB p.1 p.2.1 p.2.2)
def anRSounds (c : CfP) (x y : List UInt8) : List (Nat × Ann) :=
  [ann 0 Nat [0, 1, 2] (fun k => [(7, R.int .i64 k)]) (fun k => k ≤ c.length ∧ (c.take k).any (Snd.hitB x y) = false) (fun k => c.length - k)]
def cRAlike : Con := .of 14 [ckCf, ckStr, ckStr] [.one .bool] (fun p => LongC p.1 ∧ List.length p.2.1 ≤ 1000000 ∧ List.length p.2.2 ≤ 1000000) (fun p => Snd.alikeB p.1 p.2.1 p.2.2)
def cRNear : Con := .of 8 [ckWl, ckCf, ckStr] [ckInts, ckInt] (fun p => LongW p.1 ∧ LongC p.2.1 ∧ List.length p.2.2 ≤ 1000000) (fun p => Snd.nearB p.1.1 p.1.2 p.2.1 p.2.2)
def anRNear (ws : List (List UInt8)) (c : CfP) (x : List UInt8) : List (Nat × Ann) :=
  [annR 0 Nat [1, 2, 3] (fun k => [(8, ownAV 41), (9, R.int .i64 k)]) (fun k => [(41, iRow (Snd.nearL ws c x k))]) (fun k => k ≤ ws.length) (fun k => ws.length - k)]
def cMatch : Con := .of 3 [ckWl, ckCf, ckStr, ckStr] [.one .bool] (fun p => CK.Big ckWl p.1 ∧ CK.Big ckCf p.2.1 ∧ CK.Big ckStr p.2.2.1 ∧ CK.Big ckStr p.2.2.2) (fun _ => true)
def consMatch : List Con := [cHead, cFewL, cFewW, cNear, cRNear, cValid, cRValid, cProper, cRProper, cAlike, cRAlike, cInts]
theorem few_out {c : CfP} {ws : List (List UInt8)} (h : fewLB (c, ws) = true) : (c.length ≤ 30 ∧ ∀ x ∈ c, x.1.length ≤ 100 ∧ x.2.length ≤ 100) ∧ ∀ s ∈ ws, s.length ≤ 100 := by
  unfold fewLB fewCB at h
  simp only [Bool.and_eq_true, List.all_eq_true, decide_eq_true_eq] at h
  exact ⟨⟨h.2.1, h.2.2⟩, h.1⟩
theorem long_of {c : CfP} (h : c.length ≤ 30 ∧ ∀ x ∈ c, x.1.length ≤ 100 ∧ x.2.length ≤ 100) : LongC c := ⟨by omega, fun x hx => by have := h.2 x hx; omega⟩
theorem few_w {p : WlP} (h : fewWB p = true) : p.2.length ≤ 40 ∧ p.1.length ≤ 100 ∧ ∀ s ∈ p.2, s.length ≤ 100 := by
  unfold fewWB at h
  simp only [Bool.and_eq_true, List.all_eq_true, decide_eq_true_eq] at h
  exact h
theorem longW_of {p : WlP} (h : p.2.length ≤ 40 ∧ p.1.length ≤ 100 ∧ ∀ s ∈ p.2, s.length ≤ 100) : LongW p := ⟨by omega, by omega, fun s hs => by have := h.2.2 s hs; omega⟩
end Go.Proofs.YtgjdbnkeamjhhaaGreatDoor

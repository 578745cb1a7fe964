/-
  Arguments of a contract, one by one; rows of strings, of numbers.
-/
import Derived.Test.YtldnfdghkdibmaaGreatDoorMC
import Derived.Test.YtldnfdghkdibmaaGreatDoorAlMem
set_option linter.unusedVariables false
namespace Go.Proofs.YtldnfdghkdibmaaGreatDoor
open Go.RowKit
open R
theorem mixed : Tryz.prog.follows .mixedOrders = true := by kernel_rfl
abbrev ckStr : CK := .one .str
abbrev ckInt : CK := .one (.int .i64)
abbrev ckInts : CK := .one (.sl (.one (.int .i64)))
abbrev ckStrs : CK := .one (.sl (.one .str))
theorem one_arg {κ : Cx} {w : World} {a : Comp} {vs : List Value} (h : CompsRep κ w [a] vs) : ∃ x, vs = [x] ∧ a.Rep κ w x := by
  match vs, h with
  | [x], h =>
    obtain ⟨u, hu, hr⟩ := h.2 0 _ rfl
    injection hu with hu
    have hu : x = u := hu
    subst hu
    exact ⟨_, rfl, hr⟩
theorem two_args {κ : Cx} {w : World} {a b : Comp} {vs : List Value} (h : CompsRep κ w [a, b] vs) : ∃ x y, vs = [x, y] ∧ a.Rep κ w x ∧ b.Rep κ w y := by
  match vs, h with
  | [x, y], h =>
    obtain ⟨u, hu, hr⟩ := h.2 0 _ rfl
    obtain ⟨u', hu', hr'⟩ := h.2 1 _ rfl
    injection hu with hu; injection hu' with hu'
    have hu : x = u := hu
    have hu' : y = u' := hu'
    subst hu; subst hu'
    exact ⟨_, _, rfl, hr, hr'⟩
theorem three_args {κ : Cx} {w : World} {a b c : Comp} {vs : List Value} (h : CompsRep κ w [a, b, c] vs) : ∃ x y z, vs = [x, y, z] ∧ a.Rep κ w x ∧ b.Rep κ w y ∧ c.Rep κ w z := by
  match vs, h with
  | [x, y, z], h =>
    obtain ⟨u, hu, hr⟩ := h.2 0 _ rfl
    obtain ⟨u', hu', hr'⟩ := h.2 1 _ rfl
    obtain ⟨u'', hu'', hr''⟩ := h.2 2 _ rfl
    injection hu with hu; injection hu' with hu'; injection hu'' with hu''
    have hu : x = u := hu
    have hu' : y = u' := hu'
    have hu'' : z = u'' := hu''
    subst hu; subst hu'; subst hu''
    exact ⟨_, _, _, rfl, hr, hr', hr''⟩
section
variable {S : Nat → Prop} {w w' : World} {v : Value}
theorem str_rep {ls : List (List UInt8)} (h : Kd.Rep w S (.sl (.one .str)) ls v) : ∃ A c, v = .slice A ls.length c ∧ StrAt w A ls := by
  obtain ⟨A, c, rfl, hc, h⟩ := h
  refine ⟨A, c, rfl, fun hl => ?_⟩
  obtain ⟨g, off, rfl, hg, _, hi⟩ := h hl
  refine ⟨g, off, rfl, hg, fun j s hj => ?_⟩
  obtain ⟨u, hu, hr⟩ := hi j s hj
  obtain rfl : u = .string (bs s) := hr
  rwa [show (Kds.one Kd.str).size = 1 from rfl, Nat.mul_one] at hu
theorem int_rep {ls : List Int} (h : Kd.Rep w S (.sl (.one (.int .i64))) ls v) : ∃ A c, v = .slice A ls.length c ∧ IntAt w A ls := by
  obtain ⟨A, c, rfl, hc, h⟩ := h
  refine ⟨A, c, rfl, fun hl => ?_⟩
  obtain ⟨g, off, rfl, hg, _, hi⟩ := h hl
  refine ⟨g, off, rfl, hg, fun j s hj => ?_⟩
  obtain ⟨u, hu, hr⟩ := hi j s hj
  obtain rfl : u = .int .i64 s := hr
  rwa [show (Kds.one (Kd.int .i64)).size = 1 from rfl, Nat.mul_one] at hu
theorem ints_row {base : Nat} {e : TypeId} {ks : List Int} {n : Nat} (hn : n = ks.length) (h : w.ownsRow base e 1 v n (ks.map (Value.int .i64))) (hS : ∀ g, base ≤ g → g < w.heap.size → S g) : Kd.Rep w S (.sl (.one (.int .i64))) ks v := by
  subst hn
  rcases h.2 with ⟨rfl, h0⟩ | ⟨g, cap, cur, rfl, hb, hg, hc, _, hsz, ht⟩
  · refine ⟨none, 0, by rw [h0], by rw [h0]; exact Nat.le_refl _, fun hl => ?_⟩
    have hl : 0 < ks.length := hl
    omega
  · have hlt : g < w.heap.size := by
      rcases Nat.lt_or_ge g w.heap.size with h' | h'
      · exact h'
      · rw [Array.getElem?_eq_none h'] at hg; cases hg
    refine ⟨_, cap, rfl, hc, fun hl => ⟨g, 0, rfl, hlt, hS g hb hlt, fun i x hx => ?_⟩⟩
    refine ⟨.int .i64 x, ?_, rfl⟩
    rw [show (Kds.one (Kd.int .i64)).size = 1 from rfl, Nat.mul_one, Nat.zero_add]
    have hil : i < ks.length := by
      rcases Nat.lt_or_ge i ks.length with h' | h'
      · exact h'
      · have hx : ks[i]? = some x := hx
        rw [List.getElem?_eq_none h'] at hx; cases hx
    have h1 : (cur.toList.take (ks.length * 1))[i]? = some (.int .i64 x) := by
      rw [ht, List.getElem?_map, show ks[i]? = some x from hx]; rfl
    rw [Nat.mul_one, List.getElem?_take, if_pos hil, Array.getElem?_toList] at h1
    unfold World.cell?
    simp [hg, h1]
end
end Go.Proofs.YtldnfdghkdibmaaGreatDoor

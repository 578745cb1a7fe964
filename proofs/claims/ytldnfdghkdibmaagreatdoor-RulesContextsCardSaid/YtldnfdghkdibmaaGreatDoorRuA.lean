/-
  Layer 11: contracts of the program's functions, loops.
-/
import Derived.Test.YtldnfdghkdibmaaGreatDoorRuP
import Derived.Test.YtldnfdghkdibmaaGreatDoorPAl
set_option linter.unusedVariables false
namespace Go.Proofs.YtldnfdghkdibmaaGreatDoor
open Go.RowKit
open R
abbrev kRule : Kds := .cons .str (.cons .str (.cons .str (.one .bool)))
abbrev ckRule : CK := .agg kRule
abbrev ckRules : CK := .agg (.cons .str (.cons .str (.one (.sl kRule))))
abbrev kO : Kds := .cons .str (.cons .str (.cons .str (.cons .bool (.cons (.sl (.one (.int .i64))) (.one (.sl (.one (.int .i64))))))))
abbrev OP : Type := List UInt8 × List UInt8 × List UInt8 × Bool × List Int × List Int
def opOf (x : Rul.Opened) : OP := (x.1.1, x.1.2.1, x.1.2.2.1, x.1.2.2.2, x.2.1, x.2.2)
def toOp (p : OP) : Rul.Opened := ((p.1, p.2.1, p.2.2.1, p.2.2.2.1), p.2.2.2.2.1, p.2.2.2.2.2)
/-- rules of a size that all functions take -/
def FewT (x : Rul.Rule) : Prop := x.1.length ≤ 1000 ∧ x.2.1.length ≤ 1000 ∧ x.2.2.1.length ≤ 1000
def FewR (r : Rul.Rules) : Prop := r.1.length ≤ 1000 ∧ r.2.1.length ≤ 1000 ∧ r.2.2.length ≤ 1000 ∧ ∀ x ∈ r.2.2, FewT x
def cPlain : Con := .of 82 [ckStr, ckInt, ckInt] [.one .bool] (fun p => List.length p.1 ≤ 1000000000) (fun p => Rul.plainB p.1 p.2.1 p.2.2)
theorem plain_holds : cPlain.Holds Tryz.prog := by
  refine ⟨⟨⟨_, Tryz.func82, by kernel_rfl, by kernel_rfl⟩, fun F' hF p r hr => by injection hF with hF; subst hF; exact hr⟩, fun p vs w S hS hp hvs => ?_⟩
  obtain ⟨s, lo, hi⟩ := p
  obtain ⟨v, v2, v3, rfl, hv, hv2, hv3⟩ := three_args hvs
  obtain rfl : v = .string (bs s) := hv
  obtain rfl : v2 = .int .i64 lo := hv2
  obtain rfl : v3 = .int .i64 hi := hv3
  refine (plain_any s lo hi w hp).mono ?_
  rintro e w' ⟨rfl, hbl⟩
  exact ⟨Rul.plainB s lo hi, _, rfl, rfl, rfl, hbl⟩
def cIsName : Con := .of 83 [ckStr] [.one .bool] (fun s => List.length s ≤ 1000) Lx.nameB
def readPB (p : AlP × List UInt8 × Int) : List Int × Bool :=
  if p.2.1 = [] then ([], true) else ((Al.readB (alOf p.1) p.2.1).1, (Al.readB (alOf p.1) p.2.1).2.1 == 0 && decide (((Al.readB (alOf p.1) p.2.1).1.length : Int) ≤ p.2.2))
def cReadR : Con := .of 59 [ckAl, ckStr, ckInt] [ckInts, .one .bool] (fun p => FewP p.1 ∧ List.length p.2.1 ≤ 1000000) readPB
def cFormedP : Con := .of 51 [ckRules] [.one .bool] FewR Rul.formedB
def openB (p : Rul.Rules × AlP × AlP) : List OP × Bool := if Rul.validB p.1 (alOf p.2.1) (alOf p.2.2) then ((p.1.2.2.map (Rul.openR p.2.1.2.1)).map opOf, true) else ([], false)
def cOpen : Con := .of 32 [ckRules, ckAl, ckAl] [.one (.sl kO), .one .bool] (fun p => FewR p.1 ∧ FewP p.2.1 ∧ FewP p.2.2) openB
def oRow (l : List OP) : Row := ⟨76, kO, l⟩
def anOpen (r : Rul.Rules) (f t : AlP) : List (Nat × Ann) :=
  [annR 0 Nat [3, 4, 5, 45, 46] (fun k => [(8, ownAV 88), (47, R.int .i64 k)]) (fun k => [(88, oRow (((r.2.2.take k).map (Rul.openR f.2.1)).map opOf))])
    (fun k => k ≤ r.2.2.length ∧ (r.2.2.take k).all (Rul.okIn f.2.1 t.2.1) = true) (fun k => r.2.2.length - k)]
def cValidP : Con := .of 12 [ckRules, ckAl, ckAl] [.one .bool] (fun p => FewR p.1 ∧ FewP p.2.1 ∧ FewP p.2.2) (fun p => Rul.validB p.1 (alOf p.2.1) (alOf p.2.2))
def cStands : Con := .of 36 [.agg kO, ckInts] [.one .bool] (fun p => List.length p.1.2.2.2.2.1 ≤ 1000000 ∧ List.length p.1.2.2.2.2.2 ≤ 1000000 ∧ List.length p.2 ≤ 1000000) (fun p => Rul.standsB (toOp p.1) p.2)
/-! the library's -/
def cEqI : Con := .of 66 [ckInts, ckInts] [.one .bool] (fun p => List.length p.1 ≤ 1000000 ∧ List.length p.2 ≤ 1000000) (fun p => p.1 == p.2)
def cContI : Con := .of 67 [ckInts, ckInt] [.one .bool] (fun p => List.length p.1 ≤ 1000000) (fun p => p.1.contains p.2)
theorem int_cells {w : World} {A : Option Addr} {l : List Int} (h : IntAt w A l) (hl : 0 < l.length) : ∃ g off, A = some ⟨g, off, none⟩ ∧ ∀ j, j < l.length → w.cell? ⟨g, off + j, none⟩ = some (.int .i64 (l.getD j 0)) := by
  obtain ⟨g, off, h1, _, h3⟩ := h hl
  refine ⟨g, off, h1, fun j hj => h3 j _ ?_⟩
  rw [List.getD_eq_getElem?_getD, List.getElem?_eq_getElem hj]; rfl
theorem eqI_holds : cEqI.Holds Tryz.prog := by
  refine ⟨⟨⟨_, Tryz.func66, by kernel_rfl, by kernel_rfl⟩, fun F' hF p r hr => by injection hF with hF; subst hF; exact hr⟩, fun p vs w S hS hp hvs => ?_⟩
  obtain ⟨x, y⟩ := p
  have hp1 : x.length ≤ 1000000 := hp.1
  have hp2 : y.length ≤ 1000000 := hp.2
  obtain ⟨v, v2, rfl, hv, hv2⟩ := two_args hvs
  obtain ⟨A, c, rfl, hA⟩ := int_rep (ls := x) hv
  obtain ⟨B, d, rfl, hB⟩ := int_rep (ls := y) hv2
  by_cases hn : x.length = y.length
  · by_cases h0 : 0 < x.length
    · obtain ⟨g, off, rfl, hc⟩ := int_cells hA h0
      obtain ⟨g', off', rfl, hc'⟩ := int_cells hB (by omega)
      refine (Tryz.slices_Equal_int g off x.length c g' off' y.length d x y w (Nat.le_refl _) (Nat.le_refl _) (by omega) (by omega) hc hc').mono ?_
      rintro e w' ⟨rfl, q, rfl⟩
      refine ⟨x == y, _, rfl, rfl, ?_, bel_drewN (bel_refl w) q⟩
      show Value.bool (List.take x.length x == List.take y.length y) = .bool (x == y)
      rw [List.take_length, List.take_length]
    · have hx : x = [] := List.eq_nil_of_length_eq_zero (by omega)
      have hy : y = [] := List.eq_nil_of_length_eq_zero (by omega)
      subst hx; subst hy
      refine (Tryz.slices_Equal_int_empty A B c 0 d w (by omega)).mono ?_
      rintro e w' ⟨rfl, rfl⟩
      exact ⟨true, _, rfl, rfl, rfl, bel_refl _⟩
  · refine (Tryz.slices_Equal_int_lens A B x.length c y.length d w hn).mono ?_
    rintro e w' ⟨rfl, rfl⟩
    refine ⟨x == y, _, rfl, rfl, ?_, bel_refl _⟩
    show Value.bool false = .bool (x == y)
    rw [beq_eq_false_iff_ne.2 (fun e => hn (by rw [e]))]
theorem contI_holds : cContI.Holds Tryz.prog := by
  refine ⟨⟨⟨_, Tryz.func67, by kernel_rfl, by kernel_rfl⟩, fun F' hF p r hr => by injection hF with hF; subst hF; exact hr⟩, fun p vs w S hS hp hvs => ?_⟩
  obtain ⟨x, y⟩ := p
  have hp : x.length ≤ 1000000 := hp
  obtain ⟨v, v2, rfl, hv, hv2⟩ := two_args hvs
  obtain ⟨A, c, rfl, hA⟩ := int_rep (ls := x) hv
  obtain rfl : v2 = .int .i64 y := hv2
  by_cases h0 : 0 < x.length
  · obtain ⟨g, off, rfl, hc⟩ := int_cells hA h0
    refine (Tryz.slices_Contains_int g off x.length c x y w (Nat.le_refl _) (by omega) hc).mono ?_
    rintro e w' ⟨rfl, rfl⟩
    refine ⟨x.contains y, _, rfl, rfl, ?_, bel_refl _⟩
    show Value.bool ((List.take x.length x).contains y) = .bool (x.contains y)
    rw [List.take_length]
  · have hx : x = [] := List.eq_nil_of_length_eq_zero (by omega)
    subst hx
    refine (Tryz.slices_Contains_int_empty A c y w).mono ?_
    rintro e w' ⟨rfl, rfl⟩
    exact ⟨false, _, rfl, rfl, rfl, bel_refl _⟩
end Go.Proofs.YtldnfdghkdibmaaGreatDoor

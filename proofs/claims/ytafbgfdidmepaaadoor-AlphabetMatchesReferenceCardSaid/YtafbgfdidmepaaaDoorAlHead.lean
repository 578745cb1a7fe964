/-
  head: the chapter's examples: it returns true.
-/
import Derived.Test.YtafbgfdidmepaaaDoorAlFew
import Derived.RangeFuncBox
import Derived.Deep.CutBlock
import Derived.Deep.CutRange
set_option linter.unusedVariables false
namespace Go.Proofs.YtafbgfdidmepaaaDoor
open Go.RowKit Go.Maps
attribute [local go_sem] alloc_drewN setCell_drewN setRow_drewN

namespace Al
def more : Alph := ⟨smp.name, smp.letters ++ [[98, 99]], smp.small ++ [5]⟩
theorem more_few : Few more := ⟨by decide, by decide, by decide, by decide⟩
theorem x0 : readB smp [97, 98, 97, 65, 99] = ([1, 0, 3, 2], 0, 0) := by decide +kernel
theorem x1 : readB smp [98] = ([], 3, 0) := by decide +kernel
theorem x2 : readB smp [97, 99, 98] = ([], 3, 2) := by decide +kernel
theorem x3 : foldB smp [65, 99, 65, 98] = ([], 1) := by decide +kernel
theorem x4 : foldB smp [65, 67, 97, 98] = ([97, 99, 97, 98], 0) := by decide +kernel
theorem x5 : joinB smp [1, 0, 3, 2] = ([97, 98, 97, 65, 99], 0) := by decide +kernel
theorem x6 : validB smp = true := by decide +kernel
theorem x7 : validB more = false := by decide +kernel
end Al

theorem read_at {a : Al.Alph} {s : List UInt8} {l : List Int} {er o : Int} (h : Al.readB a s = (l, er, o)) (A A' : Option Addr) (c c' : Nat) (w : World) (hF : Few a) (hA : StrAt w A a.letters) (hS : IntAt w A' a.small) (hs : s.length ≤ 1000000) :
    Calls Tryd.prog 13 #[alv a A c A' c', .string (bs s)] w fun e w' => ∃ R cr, e = .returned (.tuple #[.slice R l.length cr, .int .i64 er, .int .i64 o]) ∧ IntAt w' R l ∧ Below w.heap.size w w' := by
  refine (read_any a A A' c c' s w hF hA hS hs).mono ?_
  rintro e w' ⟨v, rfl, hrow, hb⟩
  rw [h] at hrow ⊢
  obtain ⟨R, cr, rfl⟩ := slice_of_row hrow
  exact ⟨R, cr, rfl, IntAt.of_row hrow, hb⟩
theorem fold_at {a : Al.Alph} {s t : List UInt8} {er : Int} (h : Al.foldB a s = (t, er)) (A A' : Option Addr) (c c' : Nat) (w : World) (hF : Few a) (hA : StrAt w A a.letters) (hS : IntAt w A' a.small) (hs : s.length ≤ 1000000) :
    Calls Tryd.prog 17 #[alv a A c A' c', .string (bs s)] w fun e w' => e = .returned (.tuple #[.string (bs t), .int .i64 er]) ∧ Below w.heap.size w w' := by
  refine (fold_any a A A' c c' s w hF hA hS hs).mono ?_
  rintro e w' ⟨rfl, hb⟩
  rw [h]
  exact ⟨rfl, hb⟩
theorem join_at {a : Al.Alph} {ks : List Int} {t : List UInt8} {er : Int} (h : Al.joinB a ks = (t, er)) (A A' K : Option Addr) (c c' ck : Nat) (w : World) (hF : Few a) (hA : StrAt w A a.letters) (hS : IntAt w A' a.small) (hK : IntAt w K ks) (hks : ks.length ≤ 1000000) :
    Calls Tryd.prog 15 #[alv a A c A' c', .slice K ks.length ck] w fun e w' => e = .returned (.tuple #[.string (bs t), .int .i64 er]) ∧ Below w.heap.size w w' := by
  refine (join_any a A A' K c c' ck ks w hF hA hS hK hks).mono ?_
  rintro e w' ⟨rfl, hb⟩
  rw [h]
  exact ⟨rfl, hb⟩
theorem valid_at {a : Al.Alph} {b : Bool} (h : Al.validB a = b) (A A' : Option Addr) (c c' : Nat) (w : World) (hF : Few a) (hA : StrAt w A a.letters) (hS : IntAt w A' a.small) :
    Calls Tryd.prog 19 #[alv a A c A' c'] w fun e w' => e = .returned (.bool b) ∧ Below w.heap.size w w' := by
  subst h
  exact valid_any a A A' c c' w hF hA hS
/-- a new block of four integers -/
theorem four_ints (w : World) (p q r s : Int) : IntAt (w.alloc (.cells #[.int .i64 p, .int .i64 q, .int .i64 r, .int .i64 s] 3)) (some ⟨w.heap.size, 0, none⟩) [p, q, r, s] := by
  intro _
  have hb := Blk.new w 3 #[.int .i64 p, .int .i64 q, .int .i64 r, .int .i64 s]
  refine ⟨w.heap.size, 0, rfl, hb.lt, fun j x h => ?_⟩
  rw [Nat.zero_add, hb.cell j]
  match j, h with
  | 0, h => injection h with h; subst h; rfl
  | 1, h => injection h with h; subst h; rfl
  | 2, h => injection h with h; subst h; rfl
  | 3, h => injection h with h; subst h; rfl
  | j + 4, h => cases h

theorem info_str : (Tryd.prog.info? 9).map (fun i => (i.zero, i.size, i.bytes)) = some (some (.string { data := #[] }), 1, 16) := by kernel_rfl
/-- a new slice of no element -/
theorem empty_row (w : World) (e : TypeId) (g base : Nat) (hg : g = w.heap.size) (hb : base ≤ g) : (w.alloc (.cells #[] e)).ownsRow base e 1 (.slice (some ⟨g, 0, none⟩) 0 0) 0 [] := by
  subst hg
  exact ⟨rfl, .inr ⟨w.heap.size, 0, #[], rfl, hb, Blk.new w e #[], Nat.le_refl _, by decide, rfl, rfl⟩⟩
theorem add_plain' (g off j : Nat) : (⟨g, off, none⟩ : Addr).add j = ⟨g, off + j, none⟩ := by unfold Addr.add; split <;> simp_all
theorem str_news {w : World} {g off : Nat} {l : List (List UInt8)} (h : ∀ (j : Nat) s, l[j]? = some s → w.cell? ⟨g, off + j, none⟩ = some (.string (bs s))) : ∀ (j : Nat) (u : Value), (l.map fun s => Value.string (bs s))[j]? = some u → w.cell? ((⟨g, off, none⟩ : Addr).add j) = some u := by
  intro j u hj
  rw [List.getElem?_map] at hj
  rw [add_plain']
  cases hl : l[j]? with
  | none => rw [hl] at hj; cases hj
  | some s => rw [hl] at hj; injection hj with hj; subst hj; exact h j s hl
theorem int_news {w : World} {g off : Nat} {l : List Int} (h : ∀ (j : Nat) s, l[j]? = some s → w.cell? ⟨g, off + j, none⟩ = some (.int .i64 s)) : ∀ (j : Nat) (u : Value), (l.map (Value.int .i64))[j]? = some u → w.cell? ((⟨g, off, none⟩ : Addr).add j) = some u := by
  intro j u hj
  rw [List.getElem?_map] at hj
  rw [add_plain']
  cases hl : l[j]? with
  | none => rw [hl] at hj; cases hj
  | some s => rw [hl] at hj; injection hj with hj; subst hj; exact h j s hl
theorem StrAt.of_row {w : World} {A : Option Addr} {base n c : Nat} {e : TypeId} {l : List (List UInt8)} (h : w.ownsRow base e 1 (.slice A n c) l.length (l.map fun s => Value.string (bs s))) : StrAt w A l := fun hl => by
  obtain ⟨h1, h2⟩ := h
  rcases h2 with ⟨_, h2⟩ | ⟨g, cap, cur, hv, hb, hh, hc1, hc2, hc3, hc4⟩
  · omega
  · injection hv with hA hn hc
    subst hA
    have hlt : g < w.heap.size := Blk.lt (t := e) (cs := cur) hh
    refine ⟨g, 0, rfl, hlt, fun j u hu => ?_⟩
    have hu' : (l.map fun s => Value.string (bs s))[j]? = some (.string (bs u)) := by rw [List.getElem?_map, hu]; rfl
    rw [Nat.zero_add, cell_of_row w g j cur _ _ hh]
    rw [← hc4, List.getElem?_take] at hu'
    split at hu'
    · simpa using hu'
    · cases hu'

/-- the example's alphabet lies in a variable -/
structure St (w W : World) (ba : Nat) (A A' : Option Addr) : Prop where
  blk : Blk W ba 25 #[.string (bs smp.name), .slice A 5 5, .slice A' 5 5]
  hA : StrAt W A smp.letters
  hS : IntAt W A' smp.small
  bel : Below w.heap.size w W
theorem St.next {w W W' : World} {ba : Nat} {A A' : Option Addr} (h : St w W ba A A') (hb : Below W.heap.size W W') : St w W' ba A A' := ⟨h.blk.bel hb, h.hA.bel hb, h.hS.bel hb, bel_trans h.bel hb⟩
theorem St.c0 {w W : World} {ba : Nat} {A A' : Option Addr} (h : St w W ba A A') : W.cell? ⟨ba, 0, none⟩ = some (.string (bs smp.name)) := h.blk.cell 0
theorem St.c1 {w W : World} {ba : Nat} {A A' : Option Addr} (h : St w W ba A A') : W.cell? ⟨ba, 1, none⟩ = some (.slice A 5 5) := h.blk.cell 1
theorem St.c2 {w W : World} {ba : Nat} {A A' : Option Addr} (h : St w W ba A A') : W.cell? ⟨ba, 2, none⟩ = some (.slice A' 5 5) := h.blk.cell 2

set_option maxRecDepth 100000 in
set_option maxHeartbeats 4000000 in
theorem ahead_any (w : World) : Calls Tryd.prog 11 #[] w fun e w' => e = .returned (.bool true) ∧ Below w.heap.size w w' := by
  go_enter Tryd.func11, Tryd.ntmps11
  go_wp2_with fail
  refine (sample_any _).mono ?_
  rintro e w0 ⟨A, A', rfl, hA, hS, hb0⟩
  go_wp2_with fail
  have S0 : Hid (St w (w0.alloc (.cells #[.string (bs smp.name), .slice A 5 5, .slice A' 5 5] 25)) w0.heap.size A A') := ⟨Blk.new w0 _ _, hA.bel (bel_alloc (bel_refl w0) _), hS.bel (bel_alloc (bel_refl w0) _), bel_alloc hb0 _⟩
  clear hA hS hb0
  refine (read_at Al.x0 A A' 5 5 _ smp_few S0.out.hA S0.out.hS (by decide)).mono ?_
  rintro e w1 ⟨R1, q1, rfl, i1, b1⟩
  have S1 := Lib.hid (S0.out.next b1)
  have k0_1 := S1.out.c0
  have k1_1 := S1.out.c1
  have k2_1 := S1.out.c2
  have B1 := Lib.hid b1
  clear b1
  have I1 := Lib.hid i1
  clear i1
  go_wp2_with fail
  refine (read_at Al.x1 A A' 5 5 _ smp_few S1.out.hA S1.out.hS (by decide)).mono ?_
  rintro e w2 ⟨R2, q2, rfl, i2, b2⟩
  have S2 := Lib.hid (S1.out.next b2)
  clear k0_1 k1_1 k2_1
  have k0_2 := S2.out.c0
  have k1_2 := S2.out.c1
  have k2_2 := S2.out.c2
  have B2 := Lib.hid b2
  clear b2
  have I1 := Lib.hid (I1.out.bel B2.out)
  clear i2
  go_wp2_with fail
  refine (read_at Al.x2 A A' 5 5 _ smp_few S2.out.hA S2.out.hS (by decide)).mono ?_
  rintro e w3 ⟨R3, q3, rfl, i3, b3⟩
  have S3 := Lib.hid (S2.out.next b3)
  clear k0_2 k1_2 k2_2
  have k0_3 := S3.out.c0
  have k1_3 := S3.out.c1
  have k2_3 := S3.out.c2
  have B3 := Lib.hid b3
  clear b3
  have I1 := Lib.hid (I1.out.bel B3.out)
  clear i3
  go_wp2_with fail
  refine (fold_at Al.x3 A A' 5 5 _ smp_few S3.out.hA S3.out.hS (by decide)).mono ?_
  rintro e w4 ⟨rfl, b4⟩
  have S4 := Lib.hid (S3.out.next b4)
  clear k0_3 k1_3 k2_3
  have k0_4 := S4.out.c0
  have k1_4 := S4.out.c1
  have k2_4 := S4.out.c2
  have B4 := Lib.hid b4
  clear b4
  have I1 := Lib.hid (I1.out.bel B4.out)
  go_wp2_with fail
  refine (fold_at Al.x4 A A' 5 5 _ smp_few S4.out.hA S4.out.hS (by decide)).mono ?_
  rintro e w5 ⟨rfl, b5⟩
  have S5 := Lib.hid (S4.out.next b5)
  clear k0_4 k1_4 k2_4
  have k0_5 := S5.out.c0
  have k1_5 := S5.out.c1
  have k2_5 := S5.out.c2
  have B5 := Lib.hid b5
  clear b5
  have I1 := Lib.hid (I1.out.bel B5.out)
  go_wp2_with fail
  refine (join_at Al.x5 A A' (some ⟨w5.heap.size, 0, none⟩) 5 5 4 _ smp_few (S5.out.hA.bel (bel_alloc (bel_refl w5) _)) (S5.out.hS.bel (bel_alloc (bel_refl w5) _)) (four_ints w5 1 0 3 2) (by decide)).mono ?_
  rintro e w6 ⟨rfl, b6⟩
  have S6 := Lib.hid (S5.out.next (bel_trans (bel_alloc (bel_refl w5) _) b6))
  clear k0_5 k1_5 k2_5
  have k0_6 := S6.out.c0
  have k1_6 := S6.out.c1
  have k2_6 := S6.out.c2
  have B6 := Lib.hid b6
  clear b6
  have I1 := Lib.hid (I1.out.bel (bel_trans (bel_alloc (bel_refl w5) _) B6.out))
  obtain ⟨ga, oa, rfl, hga, hgc⟩ := S6.out.hA (by decide)
  obtain ⟨gs, os, rfl, hgs, hgsc⟩ := S6.out.hS (by decide)
  have HGA := Lib.hid (And.intro hga hgc)
  have HGS := Lib.hid (And.intro hgs hgsc)
  have hlt6 : w0.heap.size < w6.heap.size := S6.out.blk.lt
  clear hga hgc hgs hgsc
  obtain ⟨i0, hi0, hz0, hz1, hz2⟩ := info_parts info_str
  obtain ⟨j0, hj0, hy0, hy1, hy2⟩ := info_parts info_int
  go_upto_region 9 with fail
  have MX0 : Hid (Blk (w6.alloc (.cells #[.string (bs smp.name), .slice (some ⟨ga, oa, none⟩) 5 5, .slice (some ⟨gs, os, none⟩) 5 5] 25)) w6.heap.size 25 #[.string (bs smp.name), .slice (some ⟨ga, oa, none⟩) 5 5, .slice (some ⟨gs, os, none⟩) 5 5]) := Blk.new w6 _ _
  have LX0 : Hid (Below w6.heap.size w6 (w6.alloc (.cells #[.string (bs smp.name), .slice (some ⟨ga, oa, none⟩) 5 5, .slice (some ⟨gs, os, none⟩) 5 5] 25))) := bel_alloc (bel_refl w6) _
  have HLTX0 : Hid (w6.heap.size < (w6.alloc (.cells #[.string (bs smp.name), .slice (some ⟨ga, oa, none⟩) 5 5, .slice (some ⟨gs, os, none⟩) 5 5] 25)).heap.size) := Blk.lt MX0
  have kx1 : (w6.alloc (.cells #[.string (bs smp.name), .slice (some ⟨ga, oa, none⟩) 5 5, .slice (some ⟨gs, os, none⟩) 5 5] 25)).cell? ⟨w0.heap.size, 1, none⟩ = some (.slice (some ⟨ga, oa, none⟩) 5 5) := (LX0.out.cell (p := ⟨w0.heap.size, 1, none⟩) hlt6).trans k1_6
  generalize w6.alloc (.cells #[.string (bs smp.name), .slice (some ⟨ga, oa, none⟩) 5 5, .slice (some ⟨gs, os, none⟩) 5 5] 25) = X0 at *
  generalize hMB : w6.heap.size = MB at *
  have HSZX0 : Hid (MB ≤ X0.heap.size) := Nat.le_of_lt HLTX0.out
  have lt0 : w0.heap.size < X0.heap.size := Nat.lt_trans hlt6 HLTX0.out
  go_upto_region 10 with (first | (at_builtin; refine wpList_append_own _ rfl _ _ 22 rfl X0.heap.size 9 i0 (.string { data := #[] }) 1 16 Tryd.underlying22 hi0 hz0 hz1 hz2 rfl (by decide) _ _ _ rfl (empty_row X0 9 _ _ rfl (Nat.le_refl _)) ⟨ga, oa, none⟩ 5 5 (smp.letters.map fun s => Value.string (bs s)) rfl rfl (str_news (fun j s h => (LX0.out.alloc (Nat.le_trans (Nat.le_refl _) HSZX0.out) (.cells #[] 9)).cell (p := ⟨ga, oa + j, none⟩) HGA.out.1 |>.trans (HGA.out.2 j s h))) (by simp [Value.oneCell']) (by decide) (by decide) (by simp) ?_; intro v1 u1 o1 g1 _; obtain ⟨R7, d7, rfl⟩ := slice_of_row o1; have m1 := Lib.hid ((MX0.out.alloc (.cells #[] 9)).grown g1 (fun e => absurd (Option.some.inj e) (Nat.ne_of_lt HLTX0.out))); have l1 := Lib.hid ((LX0.out.alloc HSZX0.out (.cells #[] 9)).grown g1 (Nat.le_trans HSZX0.out (by simp)) (fun q hq => by cases hq; exact HSZX0.out)); have O1 := Lib.hid o1; clear o1 g1) | (at_builtin; refine wpList_append_own _ rfl _ _ 22 rfl X0.heap.size 9 i0 (.string { data := #[] }) 1 16 Tryd.underlying22 hi0 hz0 hz1 hz2 rfl (by decide) _ _ _ rfl (O1.out.alloc _) ⟨u1.heap.size, 0, none⟩ 1 1 [.string { data := #[98, 99] }] rfl rfl (cell_one_new _ _ _) (by simp [Value.oneCell']) (by decide) (by decide) (by have := l1.out.size; have := HLTX0.out; have := (O1.out.form (by decide)).choose_spec.choose_spec; simp; omega) ?_; intro v2 u2 o2 g2 _; obtain ⟨R8, d8, rfl⟩ := slice_of_row o2; have m2 := Lib.hid ((m1.out.alloc (.cells #[.string { data := #[98, 99] }] 9)).grown g2 (fun e => by have := owns_block O1.out _ e.symm; have := HLTX0.out; omega)); have l2 := Lib.hid ((l1.out.alloc (by have := l1.out.size; omega) (.cells #[.string { data := #[98, 99] }] 9)).grown g2 (by have := l1.out.size; simp; omega) (fun q hq => Nat.le_trans HSZX0.out (owns_block O1.out q hq))); have mc2 : u2.cell? ⟨MB, 1, none⟩ = some (.slice (some ⟨ga, oa, none⟩) 5 5) := m2.out.cell 1; have mf2 := m2.out.frozen 1; have O2 := Lib.hid o2; clear o2 g2))
  have MX1 := Lib.hid (m2.out.set_ 1 (.slice R8 6 d8))
  have LX1 := Lib.hid (l2.out.setCell (p := ⟨MB, 1, none⟩) (Nat.le_refl _) (.slice R8 6 d8))
  have OX1 : Hid ((u2.setCell ⟨MB, 1, none⟩ (.slice R8 6 d8)).ownsRow X0.heap.size 9 1 (.slice R8 6 d8) 6 (Al.more.letters.map fun s => Value.string (bs s))) := ownsRow_setCell_other O2.out (a := ⟨MB, 1, none⟩) (fun e => absurd (owns_block O2.out MB e) (Nat.not_le_of_lt HLTX0.out)) _
  have HLTX1 : Hid (MB < (u2.setCell ⟨MB, 1, none⟩ (.slice R8 6 d8)).heap.size) := Blk.lt MX1.out
  have kx2 : (u2.setCell ⟨MB, 1, none⟩ (.slice R8 6 d8)).cell? ⟨w0.heap.size, 2, none⟩ = some (.slice (some ⟨gs, os, none⟩) 5 5) := (LX1.out.cell (p := ⟨w0.heap.size, 2, none⟩) hlt6).trans k2_6
  clear mc2 mf2 kx1 lt0
  generalize u2.setCell ⟨MB, 1, none⟩ (.slice R8 6 d8) = X1 at *
  obtain ⟨g8, cp8, hv8, _, hg8⟩ := OX1.out.form (by decide)
  have hR8 : R8 = some ⟨g8, 0, none⟩ := by injection hv8
  subst hR8
  clear hv8
  have HSZX1 : Hid (MB ≤ X1.heap.size) := Nat.le_of_lt HLTX1.out
  have lt0 : w0.heap.size < X1.heap.size := Nat.lt_trans hlt6 HLTX1.out
  go_upto_region 11 with (first | (at_builtin; refine wpList_append_own _ rfl _ _ 23 rfl X1.heap.size 3 j0 (.int .i64 0) 1 8 Tryd.underlying23 hj0 hy0 hy1 hy2 rfl (by decide) _ _ _ rfl (empty_row X1 3 _ _ rfl (Nat.le_refl _)) ⟨gs, os, none⟩ 5 5 (smp.small.map (Value.int .i64)) rfl rfl (int_news (fun j s h => (LX1.out.alloc (Nat.le_trans (Nat.le_refl _) HSZX1.out) (.cells #[] 3)).cell (p := ⟨gs, os + j, none⟩) HGS.out.1 |>.trans (HGS.out.2 j s h))) (by simp [Value.oneCell']) (by decide) (by decide) (by simp) ?_; intro v3 u3 o3 g3 _; obtain ⟨R9, d9, rfl⟩ := slice_of_row o3; have m3 := Lib.hid ((MX1.out.alloc (.cells #[] 3)).grown g3 (fun e => absurd (Option.some.inj e) (Nat.ne_of_lt HLTX1.out))); have l3 := Lib.hid ((LX1.out.alloc HSZX1.out (.cells #[] 3)).grown g3 (Nat.le_trans HSZX1.out (by simp)) (fun q hq => by cases hq; exact HSZX1.out)); have P3 := Lib.hid ((OX1.out.alloc (.cells #[] 3)).kept g3 (.inr (fun e => absurd (OX1.out.lt _ e).2 (Nat.lt_irrefl _)))); have O3 := Lib.hid o3; clear o3 g3) | (at_builtin; refine wpList_append_own _ rfl _ _ 23 rfl X1.heap.size 3 j0 (.int .i64 0) 1 8 Tryd.underlying23 hj0 hy0 hy1 hy2 rfl (by decide) _ _ _ rfl (O3.out.alloc _) ⟨u3.heap.size, 0, none⟩ 1 1 [.int .i64 5] rfl rfl (cell_one_new _ _ _) (by simp [Value.oneCell']) (by decide) (by decide) (by have := l3.out.size; have := HLTX1.out; have := (O3.out.form (by decide)).choose_spec.choose_spec; simp; omega) ?_; intro v4 u4 o4 g4 _; obtain ⟨R10, d10, rfl⟩ := slice_of_row o4; have m4 := Lib.hid ((m3.out.alloc (.cells #[.int .i64 5] 3)).grown g4 (fun e => by have := owns_block O3.out _ e.symm; have := HLTX1.out; omega)); have l4 := Lib.hid ((l3.out.alloc (by have := l3.out.size; omega) (.cells #[.int .i64 5] 3)).grown g4 (by have := l3.out.size; simp; omega) (fun q hq => Nat.le_trans HSZX1.out (owns_block O3.out q hq))); have mc4 : u4.cell? ⟨MB, 2, none⟩ = some (.slice (some ⟨gs, os, none⟩) 5 5) := m4.out.cell 2; have mf4 := m4.out.frozen 2; have P4 := Lib.hid ((P3.out.alloc (.cells #[.int .i64 5] 3)).kept g4 (.inr (fun e => absurd (owns_block O3.out g8 e.symm) (Nat.not_le_of_lt hg8)))); have O4 := Lib.hid o4; clear o4 g4))
  have MX2 := Lib.hid (m4.out.set_ 2 (.slice R10 6 d10))
  have LX2 := Lib.hid (l4.out.setCell (p := ⟨MB, 2, none⟩) (Nat.le_refl _) (.slice R10 6 d10))
  have hsz2 : MB ≤ u4.heap.size := Nat.le_of_lt m4.out.lt
  have SM : Hid (StrAt (u4.setCell ⟨MB, 2, none⟩ (.slice R10 6 d10)) (some ⟨g8, 0, none⟩) Al.more.letters) := StrAt.of_row (l := Al.more.letters) (ownsRow_setCell_other P4.out (a := ⟨MB, 2, none⟩) (fun e => absurd (owns_block P4.out MB e) (Nat.not_le_of_lt HLTX0.out)) _)
  have IM : Hid (IntAt (u4.setCell ⟨MB, 2, none⟩ (.slice R10 6 d10)) R10 Al.more.small) := IntAt.of_row (l := Al.more.small) (ownsRow_setCell_other O4.out (a := ⟨MB, 2, none⟩) (fun e => absurd (owns_block O4.out MB e) (Nat.not_le_of_lt HLTX1.out)) _)
  have hlx : Below w6.heap.size w6 (u4.setCell ⟨MB, 2, none⟩ (.slice R10 6 d10)) := by rw [hMB]; exact LX2.out
  have S7 := Lib.hid (S6.out.next hlx)
  have I7 := Lib.hid (I1.out.bel hlx)
  have MX3 : Hid (Blk (u4.setCell ⟨MB, 2, none⟩ (.slice R10 6 d10)) MB 25 #[.string (bs smp.name), .slice (some ⟨g8, 0, none⟩) 6 d8, .slice R10 6 d10]) := MX2.out
  clear mc4 mf4 kx2 lt0 hlx hsz2 k0_6 k1_6 k2_6 MX2 LX2 m4 l4 O4 P4 I1 m3 l3 O3 P3 MX1 LX1 OX1 m2 l2 O2 m1 l1 O1 MX0 LX0
  generalize u4.setCell ⟨MB, 2, none⟩ (.slice R10 6 d10) = X2 at *
  have e1 : bs [97, 99, 97, 98] = { data := #[97, 99, 97, 98] } := rfl
  have e2 : bs [97, 98, 97, 65, 99] = { data := #[97, 98, 97, 65, 99] } := rfl
  go_wp2_with fail
  refine (ints_any R1 (some ⟨X2.heap.size, 0, none⟩) q1 4 [1, 0, 3, 2] [1, 0, 3, 2] _ (I7.out.bel (bel_alloc (bel_refl X2) _)) (four_ints X2 1 0 3 2) (by decide) (by decide)).mono ?_
  rintro e w7 ⟨rfl, n7, rfl⟩
  rw [show (([1, 0, 3, 2] : List Int) == [1, 0, 3, 2]) = true from by decide]
  have hb8 : Below X2.heap.size X2 ((X2.alloc (.cells #[.int .i64 1, .int .i64 0, .int .i64 3, .int .i64 2] 3)).drewN n7) := bel_drewN (bel_alloc (bel_refl X2) _) _
  have S8 := Lib.hid (S7.out.next hb8)
  have M8 := Lib.hid (MX3.out.bel hb8)
  have SM8 := Lib.hid (SM.out.bel hb8)
  have IM8 := Lib.hid (IM.out.bel hb8)
  clear hb8
  generalize (X2.alloc (.cells #[.int .i64 1, .int .i64 0, .int .i64 3, .int .i64 2] 3)).drewN n7 = X3 at *
  have k0 := S8.out.c0
  have k1 := S8.out.c1
  have k2 := S8.out.c2
  go_wp2_with fail
  refine (valid_at Al.x6 _ _ 5 5 _ smp_few S8.out.hA S8.out.hS).mono ?_
  rintro e w9 ⟨rfl, b9⟩
  have j0' : w9.cell? ⟨MB, 0, none⟩ = some (.string (bs smp.name)) := (M8.out.bel b9).cell 0
  have j1 : w9.cell? ⟨MB, 1, none⟩ = some (.slice (some ⟨g8, 0, none⟩) 6 d8) := (M8.out.bel b9).cell 1
  have j2 : w9.cell? ⟨MB, 2, none⟩ = some (.slice R10 6 d10) := (M8.out.bel b9).cell 2
  have B9 := Lib.hid b9
  clear b9 k0 k1 k2
  go_wp2_with fail
  refine (valid_at Al.x7 (some ⟨g8, 0, none⟩) R10 d8 d10 _ Al.more_few (SM8.out.bel B9.out) (IM8.out.bel B9.out)).mono ?_
  rintro e w10 ⟨rfl, b10⟩
  have HB := Lib.hid (bel_trans (bel_trans S8.out.bel B9.out) b10)
  clear b10
  go_wp2
  go_ret
  exact ⟨rfl, HB.out⟩
end Go.Proofs.YtafbgfdidmepaaaDoor

/-
  Fold: what it returns at every alphabet of few letters.
-/
import Derived.Test.YtafbgfdidmepaaaDoorAlJoin
import Derived.Laws.OwnMore
set_option linter.unusedVariables false
namespace Go.Proofs.YtafbgfdidmepaaaDoor
open Go.RowKit Go.Maps
attribute [local go_sem] alloc_drewN setCell_drewN setRow_drewN

namespace Al
def sm (a : Alph) (k : Int) : Int := a.small.getD k.toNat 0
end Al
/-- a row of integers whose first k have been turned -/
def half (f : Int → Int) (l : List Int) (k : Nat) : List Int := (l.take k).map f ++ l.drop k
theorem half_zero (f : Int → Int) (l : List Int) : half f l 0 = l := by simp [half]
theorem half_all (f : Int → Int) (l : List Int) : half f l l.length = l.map f := by simp [half]
theorem half_length (f : Int → Int) (l : List Int) (k : Nat) (h : k ≤ l.length) : (half f l k).length = l.length := by simp [half]; omega
theorem half_at (f : Int → Int) (l : List Int) (k : Nat) (h : k < l.length) : (half f l k)[k]? = some l[k] := by
  unfold half
  rw [List.getElem?_append_right (by rw [List.length_map, List.length_take]; omega), List.length_map, List.length_take, Nat.min_eq_left (by omega), Nat.sub_self, List.getElem?_drop, Nat.add_zero, List.getElem?_eq_getElem h]
theorem half_succ (f : Int → Int) (l : List Int) (k : Nat) (h : k < l.length) : (half f l k).set k (f l[k]) = half f l (k + 1) := by
  unfold half
  have hlen : ((l.take k).map f).length = k := by simp; omega
  rw [List.set_append_right _ _ (by omega), hlen, Nat.sub_self, List.drop_eq_getElem_cons h, List.set_cons_zero, Al.take_snoc l k h, List.map_append]
  simp

/-- what Fold leaves -/
def FoldPost (a : Al.Alph) (s : List UInt8) (w : World) (e : Ending) (w' : World) : Prop :=
  e = .returned (.tuple #[.string (bs (Al.foldB a s).1), .int .i64 (Al.foldB a s).2]) ∧ Below w.heap.size w w'

theorem join_n (a : Al.Alph) (A A' K : Option Addr) (c c' ck : Nat) (ks : List Int) (n : Nat) (hn : ks.length = n) (w : World) (hF : Few a) (hA : StrAt w A a.letters) (hS : IntAt w A' a.small) (hK : IntAt w K ks) (hks : ks.length ≤ 1000000) :
    Calls Tryd.prog 15 #[alv a A c A' c', .slice K n ck] w (JoinPost a ks w) := by
  subst hn
  exact join_any a A A' K c c' ck ks w hF hA hS hK hks

set_option maxRecDepth 100000 in
set_option maxHeartbeats 2000000 in
theorem fold_any (a : Al.Alph) (A A' : Option Addr) (c c' : Nat) (s : List UInt8) (w : World) (hF : Few a) (hA : StrAt w A a.letters) (hS : IntAt w A' a.small) (hs : s.length ≤ 1000000) :
    Calls Tryd.prog 17 #[alv a A c A' c', .string (bs s)] w (FoldPost a s w) := by
  have HFEW := Lib.hid hF
  clear hF
  go_enter Tryd.func17, Tryd.ntmps17
  go_wp2_with fail
  refine (read_any a A A' c c' s _ HFEW.out (hA.bel (bel_alloc (bel_refl w) _)) (hS.bel (bel_alloc (bel_refl w) _)) hs).mono ?_
  rintro e w1 ⟨v, rfl, hrow, hb1⟩
  have hbw : Below w.heap.size w w1 := bel_trans (bel_alloc (bel_refl w) _) hb1
  have hblk := (Blk.new w 25 #[.string (bs a.name), .slice A a.letters.length c, .slice A' a.small.length c']).bel hb1
  have hsz1 : w.heap.size < w1.heap.size := hblk.lt
  have c0 : w1.cell? ⟨w.heap.size, 0, none⟩ = some (.string (bs a.name)) := hblk.cell 0
  have c1 : w1.cell? ⟨w.heap.size, 1, none⟩ = some (.slice A a.letters.length c) := hblk.cell 1
  have c2 : w1.cell? ⟨w.heap.size, 2, none⟩ = some (.slice A' a.small.length c') := hblk.cell 2
  obtain ⟨R, cr, rfl⟩ := slice_of_row hrow
  rw [World.size_alloc] at hrow
  have HBW := Lib.hid hbw
  have HBLK := Lib.hid hblk
  have HA := Lib.hid hA
  have HS := Lib.hid hS
  have HROW := Lib.hid hrow
  clear hbw hblk hb1 hA hS hrow
  have hrd := @Al.read_ok a s
  have hno := @Al.folds_none a s
  have hfd : Al.foldB a s = if (Al.readB a s).2.1 = 0 then Al.joinB a ((Al.readB a s).1.map (Al.sm a)) else ([], 1) := rfl
  have HRD := Lib.hid hrd
  have HNO := Lib.hid hno
  have HFD := Lib.hid hfd
  clear hrd hno hfd
  generalize Al.readB a s = RR at *
  obtain ⟨l, er, o⟩ := RR
  simp only [] at HRD HNO HFD HROW
  by_cases he : er = 0
  · have he' : (er != 0) = false := by rw [he]; rfl
    obtain ⟨hv, y1, y2, y3, hin, y4, hl24⟩ := HRD.out he
    clear y1 y2 y3 y4
    have hfo := Al.valid_formed hv
    obtain ⟨hsl, _⟩ := Al.formed_small hfo
    have hfd := HFD.out
    rw [if_pos he] at hfd
    have HFD2 := Lib.hid hfd
    have HIN := Lib.hid hin
    have HSL := Lib.hid hsl
    clear he hfd hin hfo hsl HRD HNO HFD hv
    go_wp2
    go_loopw [22] (fun v wr => ∃ k : Nat, v = .int .i64 k ∧ k ≤ l.length ∧ wr.ownsRow (w.heap.size + 1) 3 1 (.slice R l.length cr) l.length ((half (Al.sm a) l k).map (Value.int .i64)) ∧ Below (w.heap.size + 1) w1 wr) (fun v _ => l.length - (intOf v).toNat)
    case atStart => exact ⟨0, rfl, Nat.zero_le _, by rw [half_zero]; exact HROW.out, Below.refl _ _⟩
    case round =>
      obtain ⟨k, rfl, hk, hrow, hbr⟩ := hrel
      have hszr := hbr.size
      have hw0 : ∀ p : Addr, p.block < w.heap.size → wr.cell? p = w.cell? p := fun p hp => (hbr.cell (by omega)).trans (HBW.out.cell hp)
      have d0 : wr.cell? ⟨w.heap.size, 0, none⟩ = some (.string (bs a.name)) := (hbr.cell (p := ⟨w.heap.size, 0, none⟩) (by dsimp only; omega)).trans c0
      have d1 : wr.cell? ⟨w.heap.size, 1, none⟩ = some (.slice A a.letters.length c) := (hbr.cell (p := ⟨w.heap.size, 1, none⟩) (by dsimp only; omega)).trans c1
      have d2 : wr.cell? ⟨w.heap.size, 2, none⟩ = some (.slice A' a.small.length c') := (hbr.cell (p := ⟨w.heap.size, 2, none⟩) (by dsimp only; omega)).trans c2
      have HW0 := Lib.hid hw0
      have HR := Lib.hid hrow
      have HBR := Lib.hid hbr
      clear hw0 hrow hbr
      by_cases hlt : k < l.length
      · obtain ⟨g, cap, hfm, _, hgl⟩ := HR.out.form (by omega)
        have hR : R = some ⟨g, 0, none⟩ := by injection hfm
        subst hR
        have hck : wr.cell? ⟨g, k, none⟩ = some (.int .i64 l[k]) := by
          rw [HR.out.cellAt k (by omega), List.getElem?_map, half_at _ _ _ hlt]
          rfl
        have hfk := HR.out.frozenAt k
        have hgb : w.heap.size + 1 ≤ g := owns_block HR.out g rfl
        have hkr := Al.inRange_mem HIN.out l[k] (List.getElem_mem hlt)
        have hst := half_succ (Al.sm a) l k hlt
        have HST := Lib.hid hst
        clear hst
        generalize l[k] = x at *
        obtain ⟨X, rfl⟩ : ∃ X : Nat, x = X := ⟨x.toNat, by omega⟩
        have hX : X < a.small.length := by rw [HSL.out]; omega
        have hX' : X < a.letters.length := by omega
        obtain ⟨g2, off2, rfl, hg2, hcy⟩ := HS.out.at_ X hX
        have hcy : wr.cell? ⟨g2, off2 + X, none⟩ = some (.int .i64 a.small[X]) := (HW0.out ⟨g2, off2 + X, none⟩ hg2).trans hcy
        have hsm : Al.sm a (X : Int) = a.small[X] := by
          unfold Al.sm
          rw [List.getD_eq_getElem?_getD, Int.toNat_natCast, List.getElem?_eq_getElem hX]
          rfl
        have HSM := Lib.hid hsm
        clear hsm
        generalize a.small[X] = y at *
        go_wp2
        go_roundw
        case rel =>
          refine ⟨k + 1, by go_num, hlt, ?_, HBR.out.setCell (p := ⟨g, k, none⟩) hgb _⟩
          have := (HR.out.stored k (.int .i64 y)).1
          rw [← HST.out, List.map_set, HSM.out]
          exact this
        case measure => simp [intOf]; omega
      · obtain rfl : k = l.length := by omega
        have hkt : IntAt wr R (l.map (Al.sm a)) := by
          have hr := HR.out
          rw [half_all] at hr
          have hl : l.length = (l.map (Al.sm a)).length := by simp
          rw [hl] at hr
          exact IntAt.of_row hr
        have hbb : Below w.heap.size w wr := HBW.out.trans (HBR.out.mono (by omega))
        have HKT := Lib.hid hkt
        have HBB := Lib.hid hbb
        clear hkt hbb
        go_wp2_with fail
        refine (join_n a A A' R c c' cr (l.map (Al.sm a)) l.length (by simp) _ HFEW.out (HA.out.bel HBB.out) (HS.out.bel HBB.out) HKT.out (by rw [List.length_map]; omega)).mono ?_
        rintro e w5 ⟨rfl, hb5⟩
        have HB5 := Lib.hid hb5
        clear hb5
        rw [← HFD2.out]
        go_wp2
        go_ret2
        exact ⟨rfl, bel_trans HBB.out HB5.out⟩
  · have he' : (er != 0) = true := by rw [bne_iff_ne]; exact he
    have hf := HNO.out he
    have HF := Lib.hid hf
    clear he hf
    go_wp2
    go_ret2
    exact ⟨by rw [HF.out]; rfl, HBW.out⟩
end Go.Proofs.YtafbgfdidmepaaaDoor

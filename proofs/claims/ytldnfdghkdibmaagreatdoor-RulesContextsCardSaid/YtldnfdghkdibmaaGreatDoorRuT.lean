/-
  Layer 11: Text: what it returns.
-/
import Derived.Test.YtldnfdghkdibmaaGreatDoorRuD
import Derived.Test.YtldnfdghkdibmaaGreatDoorBuilder
set_option linter.unusedVariables false
namespace Go.Proofs.YtldnfdghkdibmaaGreatDoor
open Go.RowKit
open R
attribute [local go_sem] alloc_drewN setCell_drewN setRow_drewN
/-- a row of rules in the memory at hand -/
def RulW (w : World) (l : List Rul.Rule) (v : Value) : Prop := Kd.Rep w (Here w) (.sl kRule) l v
theorem RulW.bel {w w' : World} {l : List Rul.Rule} {v : Value} (h : RulW w l v) (hb : Below w.heap.size w w') : RulW w' l v :=
  Kd.Rep.keeps (Keeps.below hb _) (fun g _ hg => Nat.lt_of_lt_of_le hg hb.size) (.sl kRule) l v h
theorem RulW.slice {w : World} {l : List Rul.Rule} {v : Value} (h : RulW w l v) : ∃ A c, v = .slice A l.length c := by
  obtain ⟨A, c, h, _⟩ := h
  exact ⟨A, c, h⟩
theorem RulW.at_ {w : World} {l : List Rul.Rule} {A : Option Addr} {c : Nat} (h : RulW w l (.slice A l.length c)) {k : Nat} {x : Rul.Rule} (hx : l[k]? = some x) :
    ∃ g off, A = some ⟨g, off, none⟩ ∧ g < w.heap.size ∧ w.cell? ⟨g, off + k * 4, none⟩ = some (.string (bs x.1)) ∧ w.cell? ⟨g, off + k * 4 + 1, none⟩ = some (.string (bs x.2.1)) ∧ w.cell? ⟨g, off + k * 4 + 2, none⟩ = some (.string (bs x.2.2.1)) ∧ w.cell? ⟨g, off + k * 4 + 3, none⟩ = some (.bool x.2.2.2) := by
  obtain ⟨A', c', he, _, h⟩ := h
  injection he with he
  subst he
  have hlt : k < l.length := (List.getElem?_eq_some_iff.1 hx).1
  obtain ⟨g, off, rfl, hg, _, hc⟩ := h (by show 0 < l.length; omega)
  obtain ⟨⟨u0, e0, q0⟩, ⟨u1, e1, q1⟩, ⟨u2, e2, q2⟩, u3, e3, q3⟩ := hc k x hx
  obtain rfl : u0 = _ := q0
  obtain rfl : u1 = _ := q1
  obtain rfl : u2 = _ := q2
  obtain rfl : u3 = _ := q3
  exact ⟨g, off, rfl, hg, e0, e1, e2, e3⟩
def rulV (r : Rul.Rules) (v : Value) : Value := .agg #[.string (bs r.1), .string (bs r.2.1), v]
theorem rulV_rep {r : Rul.Rules} {w : World} {v : Value} (h : RulW w r.2.2 v) : (CK.comp ckRules r).Rep (Cx.of (Here w)) w (rulV r v) := by
  obtain ⟨A, c, rfl⟩ := h.slice
  refine ⟨_, rfl, rfl, fun i c hc => ?_, fun i u hu => ?_⟩
  · match i, hc with
    | 0, hc => injection hc with hc; subst hc; exact ⟨_, rfl, rfl⟩
    | 1, hc => injection hc with hc; subst hc; exact ⟨_, rfl, rfl⟩
    | 2, hc => injection hc with hc; subst hc; exact ⟨_, rfl, h⟩
  · match i, hu with
    | 0, hu => injection hu with hu; subst hu; rfl
    | 1, hu => injection hu with hu; subst hu; rfl
    | 2, hu => injection hu with hu; subst hu; rfl
theorem rulV_out {r : Rul.Rules} {κ : Cx} {w : World} {v : Value} (hκ : ∀ g, κ.S g → g < w.heap.size) (h : (CK.comp ckRules r).Rep κ w v) : ∃ u, v = rulV r u ∧ RulW w r.2.2 u := by
  obtain ⟨vs, rfl, hsz, hc, _⟩ := h
  obtain ⟨u0, e0, r0⟩ := hc 0 _ rfl
  obtain ⟨u1, e1, r1⟩ := hc 1 _ rfl
  obtain ⟨u2, e2, r2⟩ := hc 2 _ rfl
  obtain rfl : u0 = .string (bs r.1) := r0
  obtain rfl : u1 = .string (bs r.2.1) := r1
  refine ⟨u2, ?_, Kd.Rep.keeps (S' := Here w) (Keeps.refl w _) (fun g hg _ => hκ g hg) (.sl kRule) r.2.2 u2 r2⟩
  obtain ⟨l⟩ := vs
  have hsz : l.length = 3 := hsz
  match l, hsz with
  | [a, b, d], _ =>
    injection e0 with e0; injection e1 with e1; injection e2 with e2
    have e0 : a = _ := e0
    have e1 : b = _ := e1
    have e2 : d = _ := e2
    subst e0; subst e1; subst e2
    rfl
theorem formed_any (r : Rul.Rules) (v : Value) (w : World) (hF : FewR r) (h : RulW w r.2.2 v) : Calls Tryz.prog 51 #[rulV r v] w fun e w' => e = .returned (.bool (Rul.formedB r)) ∧ Below w.heap.size w w' := by
  have := formed_holds.2 r [rulV r v] w (Here w) (fun _ h => h) hF ⟨rfl, fun i c hc => by
    match i, hc with
    | 0, hc => injection hc with hc; subst hc; exact ⟨_, rfl, rulV_rep h⟩⟩
  refine Calls.mono this ?_
  rintro e w' ⟨b, u, rfl, rfl, hu, hb⟩
  have hu : u = .bool (Rul.formedB r) := hu
  exact ⟨by rw [hu], hb⟩
def headT (r : Rul.Rules) : List UInt8 := [114, 117, 108, 101, 115, 32] ++ r.1 ++ [32, 116, 111, 32] ++ r.2.1 ++ [59, 10]
def soFar (r : Rul.Rules) (k : Nat) : List UInt8 := headT r ++ (r.2.2.take k).flatMap Rul.textR
theorem soFar_next {r : Rul.Rules} {k : Nat} {x : Rul.Rule} (h : r.2.2[k]? = some x) : soFar r (k + 1) = soFar r k ++ Rul.textR x := by
  unfold soFar
  rw [List.take_add_one, h, List.flatMap_append, List.append_assoc]
  simp
theorem cells_app (a b : List UInt8) : Lib.byteCells (a ++ b) = Lib.byteCells a ++ Lib.byteCells b := by unfold Lib.byteCells; rw [List.map_append]
theorem strCells_bs (s : List UInt8) : Lib.strCells (bs s) = Lib.byteCells s := rfl
def quoT (x y : List UInt8) : List UInt8 := [34] ++ x ++ [34, 32, 116, 111, 32, 34] ++ y ++ [34]
def befT (x : List UInt8) : List UInt8 := [32, 98, 101, 102, 111, 114, 101, 32, 34] ++ x ++ [34]
theorem builder_bel {T e : TypeId} {B b : Nat} {bs : List Value} {w w' : World} (h : Lib.IsBuilder T e B b bs w) (hb : Below w.heap.size w w') : Lib.IsBuilder T e B b bs w' := by
  have key : ∀ {p : Value}, Lib.BuilderAt T e B b p bs w → Lib.BuilderAt T e B b p bs w' := fun {p} h => by
    have hlt := h.lt
    obtain ⟨hB, v, hbk, hown, hne⟩ := h
    exact ⟨hB, v, (hb.block b hlt).trans hbk, owns_bel hown hb, hne⟩
  exact h.imp key key
theorem soFar_len {r : Rul.Rules} (h : FewR r) : ∀ k, (soFar r k).length ≤ 3000 + 4000 * k
  | 0 => by
    have h1 := h.1
    have h2 := h.2.1
    unfold soFar headT
    simp; omega
  | k + 1 => by
    have ih := soFar_len h k
    cases hx : r.2.2[k]? with
    | none =>
      have : soFar r (k + 1) = soFar r k := by unfold soFar; rw [List.take_add_one, hx]; simp
      rw [this]; omega
    | some x =>
      rw [soFar_next hx, List.length_append]
      obtain ⟨f1, f2, f3⟩ := h.2.2.2 x (List.mem_of_getElem? hx)
      have : (Rul.textR x).length ≤ 4000 := by
        unfold Rul.textR Rul.quo
        split
        · simp; omega
        · split <;> simp <;> omega
      omega
set_option maxRecDepth 100000 in
set_option maxHeartbeats 2000000 in
theorem text_any (r1 r2 : List UInt8) (l : List Rul.Rule) (A : Option Addr) (c : Nat) (w : World) (hF : FewR (r1, r2, l)) (hA : RulW w l (.slice A l.length c)) :
    Calls Tryz.prog 24 #[.agg #[.string (bs r1), .string (bs r2), .slice A l.length c]] w fun e w' => e = .returned (.tuple #[.string (bs (Rul.textB (r1, r2, l)).1), .int .i64 (Rul.textB (r1, r2, l)).2]) ∧ Below w.heap.size w w' := by
  have hr1 : r1.length ≤ 1000 := hF.1
  have hr2 : r2.length ≤ 1000 := hF.2.1
  have hl : l.length ≤ 1000 := hF.2.2.1
  have hx : ∀ x ∈ l, FewT x := hF.2.2.2
  have HX := Lib.hid hx
  have HFEW := Lib.hid hF
  clear hx hF
  go_enter Tryz.func24, Tryz.ntmps24
  go_wp2_with fail
  refine (formed_any (r1, r2, l) _ _ HFEW.out (hA.bel (bel_alloc (bel_refl w) _))).mono ?_
  rintro e w1 ⟨rfl, hb1⟩
  have hbw : Below w.heap.size w w1 := bel_trans (bel_alloc (bel_refl w) _) hb1
  have hblk := (Blk.new w 24 #[.string (bs r1), .string (bs r2), .slice A l.length c]).bel hb1
  have hsz1 : w.heap.size < w1.heap.size := hblk.lt
  have HBW := Lib.hid hbw
  have HBLK := Lib.hid hblk
  have HA := Lib.hid hA
  clear hbw hblk hb1 hA
  cases hv : Rul.formedB (r1, r2, l)
  · have hj : Rul.textB (r1, r2, l) = ([], 1) := by unfold Rul.textB; rw [hv]; rfl
    have HJ := Lib.hid hj
    clear hj hv
    go_wp2
    go_ret2
    exact ⟨by rw [HJ.out]; rfl, HBW.out⟩
  · have hj : Rul.textB (r1, r2, l) = (soFar (r1, r2, l) l.length, 0) := by
      unfold Rul.textB; rw [hv, if_pos rfl]
      unfold soFar headT Rul.textL
      dsimp only
      rw [List.take_length]
    have HJ := Lib.hid hj
    clear hj hv
    have k0 : w1.cell? ⟨w.heap.size, 0, none⟩ = some (.string (bs r1)) := HBLK.out.cell 0
    have k1 : w1.cell? ⟨w.heap.size, 1, none⟩ = some (.string (bs r2)) := HBLK.out.cell 1
    have hsum : r1.length + r2.length ≤ 100000 := by omega
    go_wp2_with fail
    rw [show ({ data := #[114, 117, 108, 101, 115, 32] } : ByteArray) ++ bs r1 ++ { data := #[32, 116, 111, 32] } ++ bs r2 ++ { data := #[59, 10] } = bs (headT (r1, r2, l)) from by
      simp only [app_bs]; unfold headT; simp [bs]]
    have hht : (headT (r1, r2, l)).length ≤ 3000 := by simp [headT]; omega
    refine (write_any w1.heap.size w1.heap.size [] (bs (headT (r1, r2, l))) _ (Lib.fresh_isBuilder _ _ w1) (by rw [bs_size]; simp; omega) (by simp)).mono ?_
    rintro e w2 ⟨rfl, hbd, hb2, hkp2⟩
    have hbd : Lib.IsBuilder 99 5 w1.heap.size w1.heap.size (Lib.byteCells (soFar (r1, r2, l) 0)) w2 := by
      have e : soFar (r1, r2, l) 0 = headT (r1, r2, l) := by unfold soFar; simp
      rw [e]; exact hbd
    have hbb : Below w1.heap.size w1 w2 := (bel_alloc (bel_refl w1) _).trans hb2
    have hsz2 := hbb.size
    have HBD := Lib.hid hbd
    have HBB := Lib.hid hbb
    clear hbd hbb hb2 hht
    have k2 : w2.cell? ⟨w.heap.size, 2, none⟩ = some (.slice A l.length c) := ((HBLK.out.bel HBB.out).cell 2)
    go_wp2
    go_loopw [22] (fun v wr => ∃ k : Nat, v = .int .i64 k ∧ k ≤ l.length ∧ Lib.IsBuilder 99 5 w1.heap.size w1.heap.size (Lib.byteCells (soFar (r1, r2, l) k)) wr ∧ Below w1.heap.size w1 wr) (fun v _ => l.length - (intOf v).toNat)
    case atStart => exact ⟨0, rfl, by omega, HBD.out, HBB.out⟩
    case round =>
      obtain ⟨k, rfl, hk, hbd, hbr⟩ := hrel
      have hszr := hbr.size
      have HBD := Lib.hid hbd
      have HBR := Lib.hid hbr
      clear hbd hbr
      by_cases hlt : k < l.length
      · have hxk : l[k]? = some l[k] := List.getElem?_eq_getElem hlt
        obtain ⟨g, off, rfl, hg, a0, a1, a2, a3⟩ := HA.out.at_ hxk
        obtain ⟨f1, f2, f3⟩ := HX.out _ (List.getElem_mem hlt)
        have hnx : soFar (r1, r2, l) (k + 1) = soFar (r1, r2, l) k ++ Rul.textR l[k] := soFar_next hxk
        have hsl := soFar_len HFEW.out k
        clear hxk
        generalize l[k] = x at *
        obtain ⟨x1, x2, x3, x4⟩ := x
        simp only [] at a0 a1 a2 a3 f1 f2 f3
        have hgw : g < w1.heap.size := by omega
        have c0 : wr.cell? ⟨g, off + k * 4, none⟩ = some (.string (bs x1)) := (HBR.out.cell (p := ⟨g, off + k * 4, none⟩) hgw).trans ((HBW.out.cell (p := ⟨g, off + k * 4, none⟩) hg).trans a0)
        have c1 : wr.cell? ⟨g, off + k * 4 + 1, none⟩ = some (.string (bs x2)) := (HBR.out.cell (p := ⟨g, off + k * 4 + 1, none⟩) hgw).trans ((HBW.out.cell (p := ⟨g, off + k * 4 + 1, none⟩) hg).trans a1)
        have c2 : wr.cell? ⟨g, off + k * 4 + 2, none⟩ = some (.string (bs x3)) := (HBR.out.cell (p := ⟨g, off + k * 4 + 2, none⟩) hgw).trans ((HBW.out.cell (p := ⟨g, off + k * 4 + 2, none⟩) hg).trans a2)
        have c3 : wr.cell? ⟨g, off + k * 4 + 3, none⟩ = some (.bool x4) := (HBR.out.cell (p := ⟨g, off + k * 4 + 3, none⟩) hgw).trans ((HBW.out.cell (p := ⟨g, off + k * 4 + 3, none⟩) hg).trans a3)
        have HNX := Lib.hid hnx
        clear a0 a1 a2 a3 hnx
        have hsl : (soFar (r1, r2, l) k).length ≤ 10000000 := by omega
        generalize soFar (r1, r2, l) k = so at *
        have hs1 : x1.length + x2.length ≤ 100000 := by omega
        have htx : Rul.textR (x1, x2, x3, x4) = quoT x1 x2 ++ (if x4 then [32, 97, 116, 32, 101, 110, 100] else if x3 = [] then [] else befT x3) ++ [59, 10] := by
          unfold Rul.textR Rul.quo quoT befT
          split
          · simp
          · split <;> simp
        have HTX := Lib.hid htx
        clear htx
        have hqt : (quoT x1 x2).length ≤ 3000 := by simp [quoT]; omega
        have hbt : (befT x3).length ≤ 3000 := by simp [befT]; omega
        go_wp2_with fail
        rw [show ({ data := #[34] } : ByteArray) ++ bs x1 ++ { data := #[34, 32, 116, 111, 32, 34] } ++ bs x2 ++ { data := #[34] } = bs (quoT x1 x2) from by
          simp only [app_bs]; unfold quoT; simp [bs]]
        refine (write_any w1.heap.size w1.heap.size (Lib.byteCells so) (bs (quoT x1 x2)) _ (builder_bel HBD.out (bel_alloc (bel_refl wr) _)) (by rw [bs_size, Lib.byteCells_length]; omega) (by simp; omega)).mono ?_
        rintro e w3 ⟨rfl, hbd3, hb3, hkp3⟩
        rw [strCells_bs, ← cells_app] at hbd3
        have hblt : w1.heap.size < wr.heap.size := HBD.out.elim (fun h => h.lt) (fun h => h.lt)
        have hbx := hkp3 _ _ _ (by decide) (by omega) (Blk.new wr 36 #[.string (bs x1), .string (bs x2), .string (bs x3), .bool x4])
        have hsz3 := hb3.size
        have hb3 : Below w1.heap.size w1 w3 := HBR.out.trans (((bel_alloc (bel_refl wr) _).mono (by omega)).trans hb3)
        have e2 : w3.cell? ⟨wr.heap.size, 2, none⟩ = some (.string (bs x3)) := hbx.cell 2
        have e3 : w3.cell? ⟨wr.heap.size, 3, none⟩ = some (.bool x4) := hbx.cell 3
        have HBD3 := Lib.hid hbd3
        have HB3 := Lib.hid hb3
        clear hbd3 hb3 hkp3 hbx
        simp only [World.size_alloc] at hsz3
        have hl3 : (so ++ quoT x1 x2).length ≤ 10003000 := by rw [List.length_append]; omega
        have last : ∀ (w4 : World) (mid : List UInt8), mid.length ≤ 3000 → w1.heap.size ≤ w4.heap.size → Rul.textR (x1, x2, x3, x4) = quoT x1 x2 ++ mid ++ [59, 10] → Lib.IsBuilder 99 5 w1.heap.size w1.heap.size (Lib.byteCells (so ++ quoT x1 x2 ++ mid)) w4 → Below w1.heap.size w1 w4 →
            Calls Tryz.prog 45 #[.pointer (some ⟨w1.heap.size, 0, none⟩), .string { data := #[59, 10] }] w4 fun e w' => e = .returned (.tuple #[.int .i64 2, .nilIface]) ∧ Lib.IsBuilder 99 5 w1.heap.size w1.heap.size (Lib.byteCells (so ++ Rul.textR (x1, x2, x3, x4))) w' ∧ Below w1.heap.size w1 w' := fun w4 mid hm hs ht hd hb => by
          refine (write_any w1.heap.size w1.heap.size _ (bs [59, 10]) w4 hd (by rw [bs_size, Lib.byteCells_length, List.length_append]; simp; omega) hs).mono ?_
          rintro e w' ⟨rfl, h1, h2, _⟩
          rw [strCells_bs, ← cells_app] at h1
          refine ⟨rfl, ?_, hb.trans h2⟩
          rw [ht, ← List.append_assoc, ← List.append_assoc]; exact h1
        have LAST := Lib.hid last
        clear last
        cases x4
        · by_cases h3 : x3 = []
          · have ht := HTX.out
            rw [if_neg Bool.noConfusion, if_pos h3] at ht
            have HT := Lib.hid ht
            have hne : (bs x3).toList.isEmpty = true := by rw [Lib.toList_data, bs_list, h3]; rfl
            clear ht h3
            go_wp2_with fail
            refine (LAST.out w3 [] (Nat.zero_le _) (by omega) HT.out (by rw [List.append_nil]; exact HBD3.out) HB3.out).mono ?_
            rintro e w5 ⟨rfl, hbd5, hb5⟩
            have HBD5 := Lib.hid hbd5
            have HB5 := Lib.hid hb5
            clear hbd5 hb5
            go_wp2
            go_roundw
            case rel => exact ⟨k + 1, by go_num, hlt, by rw [HNX.out]; exact HBD5.out, HB5.out⟩
            case measure => simp [intOf]; omega
          · have ht := HTX.out
            rw [if_neg Bool.noConfusion, if_neg h3] at ht
            have HT := Lib.hid ht
            have hne : (bs x3).toList.isEmpty = false := by
              rw [Lib.toList_data, bs_list]
              cases x3 with
              | nil => exact absurd rfl h3
              | cons a r => rfl
            clear ht h3
            go_wp2_with fail
            rw [show ({ data := #[32, 98, 101, 102, 111, 114, 101, 32, 34] } : ByteArray) ++ bs x3 ++ { data := #[34] } = bs (befT x3) from by
              simp only [app_bs]; unfold befT; simp [bs]]
            refine (write_any w1.heap.size w1.heap.size _ (bs (befT x3)) _ HBD3.out (by rw [bs_size, Lib.byteCells_length]; omega) (by omega)).mono ?_
            rintro e w4 ⟨rfl, hbd4, hb4, _⟩
            rw [strCells_bs, ← cells_app] at hbd4
            have hsz4 := hb4.size
            have HBD4 := Lib.hid hbd4
            have HB4 := Lib.hid (HB3.out.trans hb4)
            clear hbd4 hb4
            go_wp2_with fail
            refine (LAST.out w4 (befT x3) (by omega) (by omega) HT.out HBD4.out HB4.out).mono ?_
            rintro e w5 ⟨rfl, hbd5, hb5⟩
            have HBD5 := Lib.hid hbd5
            have HB5 := Lib.hid hb5
            clear hbd5 hb5
            go_wp2
            go_roundw
            case rel => exact ⟨k + 1, by go_num, hlt, by rw [HNX.out]; exact HBD5.out, HB5.out⟩
            case measure => simp [intOf]; omega
        · have ht := HTX.out
          rw [if_pos rfl] at ht
          have HT := Lib.hid ht
          clear ht
          go_wp2_with fail
          refine (write_any w1.heap.size w1.heap.size _ (bs [32, 97, 116, 32, 101, 110, 100]) _ HBD3.out (by rw [bs_size, Lib.byteCells_length]; simp; omega) (by omega)).mono ?_
          rintro e w4 ⟨rfl, hbd4, hb4, _⟩
          rw [strCells_bs, ← cells_app] at hbd4
          have hsz4 := hb4.size
          have HBD4 := Lib.hid hbd4
          have HB4 := Lib.hid (HB3.out.trans hb4)
          clear hbd4 hb4
          go_wp2_with fail
          refine (LAST.out w4 [32, 97, 116, 32, 101, 110, 100] (by simp) (by omega) HT.out HBD4.out HB4.out).mono ?_
          rintro e w5 ⟨rfl, hbd5, hb5⟩
          have HBD5 := Lib.hid hbd5
          have HB5 := Lib.hid hb5
          clear hbd5 hb5
          go_wp2
          go_roundw
          case rel => exact ⟨k + 1, by go_num, hlt, by rw [HNX.out]; exact HBD5.out, HB5.out⟩
          case measure => simp [intOf]; omega
      · obtain rfl : k = l.length := by omega
        have HS := Lib.hid hszr
        go_wp2_with fail
        refine (Tryz.Builder_String_any w1.heap.size w1.heap.size _ _ HBD.out (by omega)).mono ?_
        rintro e w6 ⟨rfl, hb6⟩
        have HB6 := Lib.hid hb6
        clear hb6
        go_wp2
        go_ret2
        exact ⟨by rw [HJ.out]; rfl, HBW.out.trans ((HBR.out.trans HB6.out).mono HBW.out.size)⟩
def cTextR : Con := .of 24 [ckRules] [ckStr, ckInt] FewR Rul.textB
theorem textr_holds : cTextR.Holds Tryz.prog := by
  refine ⟨⟨⟨_, Tryz.func24, by kernel_rfl, by kernel_rfl⟩, fun F' hF p r hr => by injection hF with hF; subst hF; exact hr⟩, fun p vs w S hS hp hvs => ?_⟩
  obtain ⟨v, rfl, hv⟩ := one_arg hvs
  obtain ⟨u, rfl, hu⟩ := rulV_out (r := p) hS hv
  obtain ⟨A, c, rfl⟩ := hu.slice
  obtain ⟨r1, r2, l⟩ := p
  refine (text_any r1 r2 l A c w hp hu).mono ?_
  rintro e w' ⟨rfl, hbl⟩
  refine ⟨Rul.textB (r1, r2, l), _, rfl, rfl, ⟨_, rfl, rfl, ?_⟩, hbl⟩
  intro i x hx
  match i, hx with
  | 0, hx => injection hx with hx; subst hx; exact ⟨_, rfl, rfl⟩
  | 1, hx => injection hx with hx; subst hx; exact ⟨_, rfl, rfl⟩
end Go.Proofs.YtldnfdghkdibmaaGreatDoor

/-
  Alike: what it returns.
-/
import Derived.Test.YtgjdbnkeamjhhaaDoorSoH
import Derived.Maps.AppendAt
set_option linter.unusedVariables false
namespace Go.Proofs.YtgjdbnkeamjhhaaDoor
open Go.RowKit Go.Maps Go.Shelf
attribute [local go_sem] alloc_drewN setCell_drewN setRow_drewN Oper.semAt_some
theorem alike_results (tmps : Array Value) (w : World) (b6 : Nat) (v6 : Value) (h6 : tmps.getD 6 undef = .pointer (some ⟨b6, 0, none⟩)) (c6 : w.cell? ⟨b6, 0, none⟩ = some v6) : (results Tryd.f13 tmps).run Tryd.prog w = .ok v6 w := by
  have h6' : tmps[6]?.getD undef = .pointer (some ⟨b6, 0, none⟩) := by simpa using h6
  simp [results, Tryd.results13, h6', asAddr, go_sem, c6]
/-- what Alike leaves -/
def AlikePost (r : Bool) (w : World) (e : Ending) (w' : World) : Prop := e = .returned (.bool r) ∧ Below w.heap.size w w'
theorem alike_early {r : Bool} {w w1 : World} {b6 : Nat} {t6 : TypeId} {u6 : Value} (tmps : Array Value) (hr : r = false) (hb : Below w.heap.size w w1) (H6 : Blk w1 b6 t6 #[u6]) (l6 : w.heap.size ≤ b6) (h6 : tmps.getD 6 undef = .pointer (some ⟨b6, 0, none⟩)) :
    ∃ v, (results Tryd.f13 tmps).run Tryd.prog (w1.setCell ⟨b6, 0, none⟩ (.bool false)) = .ok v (w1.setCell ⟨b6, 0, none⟩ (.bool false)) ∧ AlikePost r w (.returned v) (w1.setCell ⟨b6, 0, none⟩ (.bool false)) := by
  have z6 := H6.set_ 0 (.bool false)
  refine ⟨_, alike_results tmps _ b6 _ h6 (z6.cell 0), ?_, bel_set hb l6 _⟩
  rw [hr]
  rfl
theorem boxed_kept {W W' : World} {B : Nat} {t : TypeId} {v : Value} {row : Option Nat} (h : Boxed W B t v) (hg : W.grownBy W' row) (hr : ∀ r, row = some r → ∃ o : Obj, W.heap[r]? = some o ∧ o.isCells = false) : Boxed W' B t v :=
  h.kept hg (fun e' => by obtain ⟨o, ho, hc⟩ := hr B e'.symm; rw [show W.heap[B]? = _ from h] at ho; cases ho; cases hc)
/-- between two rounds -/
def AlikeI (w : World) (b5 b6 : Nat) (y : List UInt8) (pre : List (List UInt8)) (W : World) : Prop :=
  (∀ s ∈ pre, s ≠ y) ∧ Boxed W b6 4 (.bool false) ∧ Boxed W b5 9 (.string (bs y)) ∧ Below w.heap.size w W
/-- where a round has returned -/
def AlikeX (w : World) (b6 : Nat) (y : List UInt8) (c : Code) (pre : List (List UInt8)) (W : World) : Prop :=
  (c = .ret ∧ y ∈ pre) ∧ Boxed W b6 4 (.bool true) ∧ Below w.heap.size w W
theorem alikeI_own {w : World} {b5 b6 : Nat} {y : List UInt8} {B : Nat} (hB : w.heap.size ≤ B) : OwnFrom B (fun pre W => AlikeI w b5 b6 y pre W) := by
  rintro pre W W' row ⟨h0, h6, h5, h9⟩ hg hr
  have hr' : ∀ r, row = some r → ∃ o : Obj, W.heap[r]? = some o ∧ o.isCells = false := fun r e => (hr r e).2
  exact ⟨h0, boxed_kept h6 hg hr', boxed_kept h5 hg hr', h9.grown hg h9.size (fun k e => Nat.le_trans hB (hr k e).1)⟩
theorem alikeX_own {w : World} {b6 : Nat} {y : List UInt8} (c : Code) {B : Nat} (hB : w.heap.size ≤ B) : OwnFrom B (fun pre W => AlikeX w b6 y c pre W) := by
  rintro pre W W' row ⟨h0, h6, h9⟩ hg hr
  have hr' : ∀ r, row = some r → ∃ o : Obj, W.heap[r]? = some o ∧ o.isCells = false := fun r e => (hr r e).2
  exact ⟨h0, boxed_kept h6 hg hr', h9.grown hg h9.size (fun k e => Nat.le_trans hB (hr k e).1)⟩
theorem kpM_put {B0 : Nat} {W : World} {l : Nat} {o : Obj} (o' : Obj) (hB : B0 ≤ l) (ho : W.heap[l]? = some o) (hc : o.isCells = false) (hw : o.isWalk = false) : KpM B0 W (W.putObj l o') := by
  refine ⟨fun g hg => World.putObj_heap_other (by omega), by simp, fun g o2 h2 hm => ?_⟩
  by_cases e : g = l
  · subst e
    rw [ho] at h2
    injection h2 with h2
    subst h2
    cases o <;> first | exact Bool.noConfusion hm | exact Bool.noConfusion hc | exact Bool.noConfusion hw
  · exact (World.putObj_heap_other e).trans h2
theorem kpM_set {B0 : Nat} {W : World} {b : Nat} {t : TypeId} {v : Value} (v' : Value) (hB : B0 ≤ b) (hb : Boxed W b t v) (hm : Mine (.cells #[v] t (0, 0)) = false) : KpM B0 W (W.setCell ⟨b, 0, none⟩ v') := by
  refine ⟨fun g hg => Below.heap_setCell W ⟨b, 0, none⟩ v' g (by show g ≠ b; omega), by simp, fun g o h2 hm2 => ?_⟩
  by_cases e : g = b
  · subst e
    rw [show W.heap[g]? = _ from hb] at h2
    injection h2 with h2
    subst h2
    rw [hm] at hm2; cases hm2
  · exact (Below.heap_setCell W ⟨b, 0, none⟩ v' g e).trans h2
set_option maxRecDepth 100000 in
set_option maxHeartbeats 2000000 in
theorem salike_any (c : CfP) (A : Option Addr) (cap : Nat) (x y : List UInt8) (w : World) (hL : LongC c) (hA : CfAt w A c) (hx : x.length ≤ 1000000) (hy : y.length ≤ 1000000) :
    Calls Tryd.prog 13 #[.slice A c.length cap, .string (bs x), .string (bs y)] w (AlikePost (Snd.alikeB c x y) w) := by
  refine (callsIn_wide (n := 6)).1 ?_
  refine callsIn_of_wp_marks Tryd.func13 rfl trivial ?_ rfl
  simp only [Tryd.ntmps13, List.size_toArray, List.length_cons, List.length_nil, Nat.reduceAdd, Nat.reduceSub, Array.replicate_succ, Array.replicate_zero, List.push_toArray, List.append_toArray, List.nil_append, List.cons_append]
  refine wpIn_wide.2 ?_
  have HLC := Lib.hid hL
  have HA := Lib.hid hA
  clear hL hA
  go_wp2_with fail
  refine (proper_any c A cap _ HLC.out (HA.out.bel (bel_alloc (bel_alloc (bel_refl w) _) _))).mono ?_
  rintro e w1 ⟨rfl, hb1⟩
  have hbw : Below w.heap.size w w1 := bel_trans (bel_alloc (bel_alloc (bel_refl w) _) _) hb1
  have hB5 := ((Blk.new w 9 #[.string (bs y)]).alloc (.cells #[.bool false] 4)).bel hb1
  have hB6 := (Blk.new (w.alloc (.cells #[.string (bs y)] 9)) 4 #[.bool false]).bel hb1
  simp only [World.size_alloc] at hB6
  have k6 := hB6.cell 0
  have f6 := hB6.frozen 0
  have HB5 := Lib.hid hB5
  have HB6 := Lib.hid hB6
  have HBW := Lib.hid hbw
  clear hB5 hB6 hbw hb1
  cases hp : Snd.properB c
  · have hr : Snd.alikeB c x y = false := by unfold Snd.alikeB; rw [hp]; rfl
    have HR := Lib.hid hr
    clear hr hp
    go_wp2
    exact alike_early _ HR.out HBW.out HB6.out (by omega) rfl
  · have HP := Lib.hid hp
    clear hp k6 f6
    go_wp2_with fail
    refine (slet_any x 1 12 _ hx).mono ?_
    rintro e w2 ⟨rfl, hb2⟩
    have hB5 := HB5.out.bel hb2
    have hB6 := HB6.out.bel hb2
    have hbw := bel_trans HBW.out hb2
    have k5 := hB5.cell 0
    have k6 := hB6.cell 0
    have f6 := hB6.frozen 0
    have GB5 := Lib.hid hB5
    have GB6 := Lib.hid hB6
    have GBW := Lib.hid hbw
    clear hB5 hB6 hbw hb2 HB5 HB6 HBW
    cases hx1 : Snd.lettersB x 1 12
    · have hr : Snd.alikeB c x y = false := by unfold Snd.alikeB Snd.heardB; rw [HP.out, hx1]; rfl
      have HR := Lib.hid hr
      clear hr hx1
      go_wp2
      exact alike_early _ HR.out GBW.out GB6.out (by omega) rfl
    · have HX1 := Lib.hid hx1
      clear hx1 k6 f6
      go_wp2_with fail
      refine (slet_any y 1 12 _ hy).mono ?_
      rintro e w3 ⟨rfl, hb3⟩
      have hB5 := GB5.out.bel hb3
      have hB6 := GB6.out.bel hb3
      have hbw := bel_trans GBW.out hb3
      have k5 := hB5.cell 0
      have k6 := hB6.cell 0
      have f6 := hB6.frozen 0
      have HB5 := Lib.hid hB5
      have HB6 := Lib.hid hB6
      have HBW := Lib.hid hbw
      clear hB5 hB6 hbw hb3 GB5 GB6 GBW
      cases hy1 : Snd.lettersB y 1 12
      · have hr : Snd.alikeB c x y = false := by unfold Snd.alikeB Snd.heardB; rw [HP.out, HX1.out, hy1]; rfl
        have HR := Lib.hid hr
        clear hr hy1
        go_wp2
        exact alike_early _ HR.out HBW.out HB6.out (by omega) rfl
      · have hr : Snd.alikeB c x y = Snd.soundsB c x y := by unfold Snd.alikeB Snd.heardB; rw [HP.out, HX1.out, hy1]; rfl
        have HR := Lib.hid hr
        clear hr hy1 k5 k6 f6
        have hsz3 := HB6.out.lt
        go_wp2_with fail
        refine (alike_mk c A cap x _).mono ?_
        rintro e w' ⟨rfl, rfl⟩
        go_wp2
        have hbox5 : Boxed ((w3.alloc (.cells #[.slice A c.length cap] 22)).alloc (.cells #[.string (bs x)] 9)) w.heap.size 9 (.string (bs y)) := (HB5.out.alloc (.cells #[.slice A c.length cap] 22)).alloc (.cells #[.string (bs x)] 9)
        have hbox6 : Boxed ((w3.alloc (.cells #[.slice A c.length cap] 22)).alloc (.cells #[.string (bs x)] 9)) (w.heap.size + 1) 4 (.bool false) := (HB6.out.alloc (.cells #[.slice A c.length cap] 22)).alloc (.cells #[.string (bs x)] 9)
        have hbl := bel_alloc (bel_alloc HBW.out (.cells #[.slice A c.length cap] 22)) (.cells #[.string (bs x)] 9)
        have hlay : SLay ((w3.alloc (.cells #[.slice A c.length cap] 22)).alloc (.cells #[.string (bs x)] 9)) w.heap.size (w3.heap.size + 1) w3.heap.size A cap c x := by
          refine ⟨?_, (Blk.new w3 22 #[.slice A c.length cap]).alloc _, fun hl => ?_⟩
          · have := Blk.new (w3.alloc (.cells #[.slice A c.length cap] 22)) 9 #[.string (bs x)]
            simpa only [World.size_alloc] using this
          · obtain ⟨g, off, h1, h2, h3⟩ := HA.out hl
            exact ⟨g, off, h1, h2, fun j z hj => ⟨(hbl.cell (p := ⟨g, off + j * 2, none⟩) h2).trans (h3 j z hj).1, (hbl.cell (p := ⟨g, off + j * 2 + 1, none⟩) h2).trans (h3 j z hj).2⟩⟩
        have hz4 : ((w3.alloc (.cells #[.slice A c.length cap] 22)).alloc (.cells #[.string (bs x)] 9)).heap.size = w3.heap.size + 2 := by simp
        generalize (w3.alloc (.cells #[.slice A c.length cap] 22)).alloc (.cells #[.string (bs x)] 9) = W3 at *
        generalize ebw : w3.heap.size + 1 = bw at *
        generalize ebl : w3.heap.size = bl at *
        generalize eb6 : w.heap.size + 1 = b6 at *
        generalize eb5 : w.heap.size = b5 at *
        have hlen := HX1.out
        unfold Snd.lettersB at hlen
        simp only [Bool.and_eq_true, decide_eq_true_eq] at hlen
        obtain ⟨hlet, _, hx12⟩ := hlen
        obtain ⟨PL, hPL⟩ : ∃ PL, PL = Snd.alikeL c x := ⟨_, rfl⟩
        have hmem : y ∈ PL ↔ Snd.soundsB c x y = true := by rw [hPL]; exact Snd.mem_alikeL HP.out
        have HMEM := Lib.hid hmem
        have HPL := Lib.hid hPL
        have HLET := Lib.hid hlet
        have HLAY := Lib.hid hlay
        have hseq : SeqStopsK Fence.wide (6 - 1) Tryd.prog 27 #[.pointer (some ⟨bw, 0, none⟩), .pointer (some ⟨bl, 0, none⟩)] (fun s : List UInt8 => #[.string (bs s)]) (KpM b5) (fun ys => ys = PL) (fun pre => pre <+: PL) PL.length W3 := fun l J Jx W hW hJ _ hY h0 =>
          alike_in (6 - 1) (by omega) l b5 bw bl A cap c x (by omega) HLET.out HLC.out.1 HLC.out.2 J Jx PL HPL.out hY W (Nat.le_trans (by omega) hW.size) hJ
            (HLAY.out.keep ⟨fun g hg => hW.block g (by omega), hW.size, fun g o ho _ => (hW.block g (Array.getElem?_eq_some_iff.1 ho).1).trans ho⟩) h0
        have HSEQ := Lib.hid hseq
        have H5 := Lib.hid hbox5
        have H6 := Lib.hid hbox6
        have HBL := Lib.hid hbl
        clear hmem hPL hlet hlay hseq hbox5 hbox6 hbl
        refine (wpIn_wide (n := 6)).1 ?_
        refine wpIn_rangeFunc_ownG (F := Fence.wide) rfl (by omega) (gf := 27) (lb := #[.pointer (some ⟨bw, 0, none⟩), .pointer (some ⟨bl, 0, none⟩)]) rfl trivial (enters_of Tryd.func27 (by kernel_rfl) rfl)
          HSEQ.out (fun h k => h.trans k) (fun W l o o' hl hlo hc hw => kpM_put o' (by omega) hlo hc hw) (Below.refl _ _) (fun _ => rfl)
          (fun pre W => AlikeI w b5 b6 y pre W)
          (fun cc pre W => AlikeX w b6 y cc pre W)
          (alikeI_own (by omega)) (fun cc => alikeX_own cc (by omega))
          ⟨by simp, H6.out, H5.out, by rw [eb5]; exact HBL.out⟩
          (fun s : List UInt8 => { tmps := #[.slice A c.length cap, .string (bs x), .string (bs y), undef, undef, .pointer (some ⟨b5, 0, none⟩), .pointer (some ⟨b6, 0, none⟩), .string (bs s), .slice A c.length cap,
            .bool true, .bool false, .bool false, .string (bs x), .bool true, .bool false, .bool false, .bool false, .string (bs y), .bool true, .bool false, .bool false, .slice A c.length cap, .string (bs x),
            .func (.func 27) #[] #[.pointer (some ⟨bw, 0, none⟩), .pointer (some ⟨bl, 0, none⟩)], .string (bs s), undef, undef, undef], defers := [] }) ?assign ?body ?done ?stop
        case assign =>
          intro l s W K hK
          gi_wp2
          exact hK
        case body =>
          rintro l pre s W ⟨hnn, q6, q5, qb⟩ hlen
          have c5 := q5.cell
          have c6 := q6.cell
          have g6 := q6.frozen
          have hsW := qb.size
          have HNN := Lib.hid hnn
          have Q5 := Lib.hid q5
          have Q6 := Lib.hid q6
          have QB := Lib.hid qb
          clear hnn q5 q6 qb hlen
          by_cases hs : s = y
          · have hse : ((bs s).toList == (bs y).toList) = true := by rw [hs, beq_self_eq_true]
            have HS := Lib.hid hs
            clear hs
            gi_wp2
            exact ⟨(KeepsOthers.setCell _ _ _).from _, ⟨rfl, by rw [HS.out]; simp⟩, Q6.out.set _, bel_set QB.out (by dsimp only; omega) _⟩
          · have hse : ((bs s).toList == (bs y).toList) = false := by
              rw [Lib.toList_data, Lib.toList_data, bs_list, bs_list]
              exact beq_eq_false_iff_ne.2 hs
            have HS := Lib.hid hs
            clear hs
            gi_wp2
            refine ⟨(KeepsOthers.refl _).from _, KpM.refl _ _, fun z hz => ?_, Q6.out, Q5.out, QB.out⟩
            rcases List.mem_append.1 hz with hz | hz
            · exact HNN.out z hz
            · rw [List.mem_singleton.1 hz]; exact HS.out
        case done =>
          rintro D ys W hD rfl ⟨hnn, q6, q5, qb⟩ hK
          have hfin : Snd.alikeB c x y = false := by
            rw [HR.out]
            cases hs : Snd.soundsB c x y
            · rfl
            · exact absurd rfl (hnn y (HMEM.out.2 hs))
          have HFIN := Lib.hid hfin
          dsimp only
          have c6 := q6.cell
          have g6 := q6.frozen
          have Q6 := Lib.hid q6
          have QB := Lib.hid qb
          have HK := Lib.hid hK
          clear hnn q6 q5 qb hfin hK
          go_wp2
          have hK' : (W.setCell ⟨b6, 0, none⟩ (.bool false)).heap[D]? = some (.deferred (some [])) := (KeepsOthers.setCell _ _ _).same D _ HK.out rfl
          refine ⟨by simp, .inl ⟨D, _, rfl, run_takeDeferred hK', ?_⟩⟩
          have z6 := boxed_kept (Q6.out.set (.bool false)) (grownBy_putObj' _ D (.deferred none)) (fun r e => by cases e; exact ⟨_, hK', rfl⟩)
          have hbelow := bel_set QB.out (p := ⟨b6, 0, none⟩) (by dsimp only; omega) (.bool false)
          refine ⟨_, alike_results _ _ b6 _ rfl z6.cell, ?_, hbelow.grown (grownBy_putObj' _ D _) hbelow.size (fun k e => by cases e; omega)⟩
          rw [HFIN.out]
        case stop =>
          rintro D cc pre W hD hpre ⟨⟨rfl, hmem⟩, q6, qb⟩ hK
          have hfin : Snd.alikeB c x y = true := by
            rw [HR.out]
            exact HMEM.out.1 (hpre.subset hmem)
          have HFIN := Lib.hid hfin
          dsimp only
          have Q6 := Lib.hid q6
          have QB := Lib.hid qb
          have HK := Lib.hid hK
          clear q6 qb hfin hK hmem
          gi_wp2
          go_wp2
          refine ⟨by simp, .inl ⟨D, _, rfl, run_takeDeferred HK.out, ?_⟩⟩
          have z6 := boxed_kept Q6.out (grownBy_putObj' _ D (.deferred none)) (fun r e => by cases e; exact ⟨_, HK.out, rfl⟩)
          refine ⟨_, alike_results _ _ b6 _ rfl z6.cell, ?_, QB.out.grown (grownBy_putObj' _ D _) QB.out.size (fun k e => by cases e; omega)⟩
          rw [HFIN.out]
end Go.Proofs.YtgjdbnkeamjhhaaDoor

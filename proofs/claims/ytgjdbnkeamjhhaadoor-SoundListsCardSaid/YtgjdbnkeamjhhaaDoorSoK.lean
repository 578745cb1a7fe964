/-
  Near: what it returns.
-/
import Derived.Test.YtgjdbnkeamjhhaaDoorSoJ
set_option linter.unusedVariables false
namespace Go.Proofs.YtgjdbnkeamjhhaaDoor
open Go.RowKit Go.Maps Go.Shelf
open R
attribute [local go_sem] alloc_drewN setCell_drewN setRow_drewN Oper.semAt_some
/-- the value of a word list -/
abbrev wlv (l : WlP) (A : Option Addr) (cap : Nat) : Value := .agg #[.string (bs l.1), .slice A l.2.length cap]
theorem strs_rep {w : World} {A : Option Addr} {c : Nat} {ls : List (List UInt8)} (h : StrAt w A ls) (hc : ls.length ≤ c) : Kd.Rep w (fun g => g < w.heap.size) (.sl (.one .str)) ls (.slice A ls.length c) := by
  refine ⟨A, c, rfl, hc, fun hl => ?_⟩
  obtain ⟨g, off, rfl, hg, hi⟩ := h hl
  refine ⟨g, off, rfl, hg, hg, fun i x hx => ⟨_, ?_, rfl⟩⟩
  rw [show (Kds.one Kd.str).size = 1 from rfl, Nat.mul_one]
  exact hi i x hx
theorem wlv_rep {w : World} {l : WlP} {A : Option Addr} {cap : Nat} (hA : StrAt w A l.2) (hc : l.2.length ≤ cap) : (CK.comp ckWl l).Rep (Cx.of fun g => g < w.heap.size) w (wlv l A cap) := by
  refine ⟨_, rfl, rfl, ?_, ?_⟩
  · intro i x hx
    match i, hx with
    | 0, hx => injection hx with hx; subst hx; exact ⟨_, rfl, rfl⟩
    | 1, hx => injection hx with hx; subst hx; exact ⟨_, rfl, strs_rep hA hc⟩
  · intro i x hx
    match i, hx with
    | 0, hx => injection hx with hx; subst hx; rfl
    | 1, hx => injection hx with hx; subst hx; rfl
theorem svalid_any (l : WlP) (A : Option Addr) (cap : Nat) (w : World) (hL : LongW l) (hA : StrAt w A l.2) (hc : l.2.length ≤ cap) :
    Calls Tryd.prog 17 #[wlv l A cap] w fun e w' => e = .returned (.bool (Snd.validB l.1 l.2)) ∧ Below w.heap.size w w' := by
  have h := valid_holds.2 l [wlv l A cap] w (fun g => g < w.heap.size) (fun _ h => h) hL ⟨rfl, fun i y hy => by
    match i, hy with
    | 0, hy => injection hy with hy; subst hy; exact ⟨_, rfl, wlv_rep hA hc⟩⟩
  refine Calls.mono h ?_
  rintro e w' ⟨r, v, rfl, hr, hv, hbl⟩
  have hr : r = Snd.validB l.1 l.2 := hr
  subst hr
  have hv : v = .bool (Snd.validB l.1 l.2) := hv
  exact ⟨by rw [hv], hbl⟩
/-- what Near leaves -/
def NearPost (r : List Int × Int) (w : World) (e : Ending) (w' : World) : Prop :=
  ∃ v, e = .returned (.tuple #[v, .int .i64 r.2]) ∧ w'.ownsRow w.heap.size 3 1 v r.1.length (r.1.map (Value.int .i64)) ∧ Below w.heap.size w w'
theorem blk_kept {W W' : World} {g : Nat} {t : TypeId} {cs : Array Value} {row : Option Nat} (h : Blk W g t cs) (hg : W.grownBy W' row) (hr : ∀ r, row = some r → ∃ o : Obj, W.heap[r]? = some o ∧ o.isCells = false) : Blk W' g t cs :=
  h.grown hg (fun e' => by obtain ⟨o, ho, hc⟩ := hr g e'.symm; rw [show W.heap[g]? = _ from h] at ho; cases ho; cases hc)
/-- between two rounds -/
def NearI (w : World) (b3 bo : Nat) (l : WlP) (A : Option Addr) (cap : Nat) (pre : List (List UInt8)) (W : World) : Prop :=
  (∃ v, Boxed W bo 36 v ∧ W.ownsRow bo 3 1 v (Snd.foundL l.2 pre).length ((Snd.foundL l.2 pre).map (Value.int .i64)) ∧ True) ∧ Blk W b3 34 #[.string (bs l.1), .slice A l.2.length cap] ∧ Below w.heap.size w W
theorem nearI_own {w : World} {b3 bo : Nat} {l : WlP} {A : Option Addr} {cap B : Nat} (hB : w.heap.size ≤ B) : OwnFrom B (fun pre W => NearI w b3 bo l A cap pre W) := by
  rintro pre W W' row ⟨⟨v, h1, h2, _⟩, h3, h9⟩ hg hr
  have hr' : ∀ r, row = some r → ∃ o : Obj, W.heap[r]? = some o ∧ o.isCells = false := fun r e => (hr r e).2
  obtain ⟨v', k1, k2, _⟩ := holdsRow_own bo bo 36 3 1 (fun pre : List (List UInt8) => (Snd.foundL l.2 pre).length) (fun pre => (Snd.foundL l.2 pre).map (Value.int .i64)) (fun _ _ => True) pre W W' row ⟨v, h1, h2, trivial⟩ hg hr'
  exact ⟨⟨v', k1, k2, trivial⟩, blk_kept h3 hg hr', h9.grown hg h9.size (fun k e => Nat.le_trans hB (hr k e).1)⟩
theorem found_snoc (ws pre : List (List UInt8)) (s : List UInt8) : Snd.foundL ws (pre ++ [s]) = Snd.foundL ws pre ++ Snd.findL ws s := by simp [Snd.foundL]
theorem find_len (ws : List (List UInt8)) (s : List UInt8) : (Snd.findL ws s).length ≤ 1 := by
  unfold Snd.findL
  split <;> simp
theorem found_len (ws : List (List UInt8)) : ∀ l : List (List UInt8), (Snd.foundL ws l).length ≤ l.length
  | [] => Nat.le_refl _
  | s :: l => by
    have h := found_len ws l
    have h2 := find_len ws s
    have e : Snd.foundL ws (s :: l) = Snd.findL ws s ++ Snd.foundL ws l := rfl
    rw [e, List.length_append, List.length_cons]
    omega
theorem cut_len (w : List UInt8) (i : Nat) (p : Snd.Conf) : (Snd.cutRep w i p).length ≤ 1 := by
  unfold Snd.cutRep
  split <;> simp
theorem at_len (w : List UInt8) (i : Nat) : ∀ c : CfP, (Snd.atL c w i).length ≤ 2 * c.length
  | [] => Nat.le_refl _
  | p :: c => by
    have h := at_len w i c
    have h1 := cut_len w i p
    have h2 := cut_len w i (Snd.flip p)
    have e : Snd.atL (p :: c) w i = (Snd.cutRep w i p ++ Snd.cutRep w i (Snd.flip p)) ++ Snd.atL c w i := rfl
    rw [e, List.length_append, List.length_append, List.length_cons]
    omega
theorem rest_len (w : List UInt8) (c : CfP) : ∀ f i, (Snd.restL c w f i).length ≤ f * (2 * c.length)
  | 0, i => by simp [Snd.restL]
  | f + 1, i => by
    have h := rest_len w c f (i + 1)
    have h1 := at_len w i c
    rw [Snd.restL, List.length_append, Nat.succ_mul]
    omega
theorem info_int : (Tryd.prog.info? 3).map (fun i => (i.zero, i.size, i.bytes)) = some (some (.int .i64 0), 1, 8) := by kernel_rfl
theorem wl_info : (Tryd.prog.info? 34).map (·.size) = some 2 := by kernel_rfl
theorem not_row_obj {W : World} {D base : Nat} {e : TypeId} {size k : Nat} {v : Value} {xs : List Value} {o : Obj} (h : W.heap[D]? = some o) (ho : o.isCells = false) (hrow : W.ownsRow base e size v k xs) : some D ≠ v.ownBlock := by
  intro e'
  rcases hrow.2 with ⟨rfl, _⟩ | ⟨g', cap, cur, rfl, _, h3, _⟩
  · cases e'
  · have : D = g' := by simpa [Value.ownBlock] using e'
    subst this
    rw [h3] at h
    injection h with h
    subst h
    cases ho
theorem kpM_append {B0 : Nat} {W w1 : World} {base : Nat} {e : TypeId} {size k : Nat} {v : Value} {xs : List Value} {tmp : Obj} (hrow : W.ownsRow base e size v k xs) (hb : B0 ≤ base) (hW : B0 ≤ W.heap.size) (he : ∀ cs fr, Mine (.cells cs e fr) = false)
    (hg : (W.alloc tmp).grownBy w1 v.ownBlock) : KpM B0 W w1 := by
  refine ⟨fun g hg' => ?_, ?_, fun g o ho hm => ?_⟩
  · rw [hg.block g (by simp; omega) (fun e' => by have := owns_block hrow g e'.symm; omega)]
    exact Below.heap_alloc W tmp g (by omega)
  · have := hg.size
    simp at this
    omega
  · have hlt : g < W.heap.size := (Array.getElem?_eq_some_iff.1 ho).1
    rw [hg.block g (by simp; omega) (fun e' => by
      rcases hrow.2 with ⟨rfl, _⟩ | ⟨g', cap, cur, rfl, _, h3, _⟩
      · cases e'
      · have : g = g' := by simpa [Value.ownBlock] using e'
        subst this
        rw [h3] at ho
        injection ho with ho
        subst ho
        rw [he] at hm; cases hm)]
    rw [Below.heap_alloc W tmp g hlt]
    exact ho
theorem near_err {r : List Int × Int} {w w1 : World} (h : r = ([], 1)) (hb : Below w.heap.size w w1) (tmps : Array Value) (h6 : tmps.getD 6 undef = .slice none 0 0) (h7 : tmps.getD 7 undef = .int .i64 1) :
    ∃ v, (results Tryd.f16 tmps).run Tryd.prog w1 = .ok v w1 ∧ NearPost r w (.returned v) w1 := by
  refine ⟨_, results_tmp2 Tryd.results16 _ _ _, .slice none 0 0, ?_, ?_, hb⟩
  · rw [h6, h7, h]
  · rw [h]; exact World.ownsRow_nil _ _ _ _
set_option maxRecDepth 100000 in
set_option maxHeartbeats 2000000 in
theorem snear_any (l : WlP) (c : CfP) (x : List UInt8) (A B : Option Addr) (cap capB : Nat) (w : World) (hLW : LongW l) (hL : LongC c) (hA : StrAt w A l.2) (hcap : l.2.length ≤ cap) (hB : CfAt w B c) (hx : x.length ≤ 1000000) :
    Calls Tryd.prog 16 #[wlv l A cap, .slice B c.length capB, .string (bs x)] w (NearPost (Snd.nearB l.1 l.2 c x) w) := by
  refine (callsIn_wide (n := 6)).1 ?_
  refine callsIn_of_wp_marks Tryd.func16 rfl trivial ?_ rfl
  simp only [Tryd.ntmps16, List.size_toArray, List.length_cons, List.length_nil, Nat.reduceAdd, Nat.reduceSub, Array.replicate_succ, Array.replicate_zero, List.push_toArray, List.append_toArray, List.nil_append, List.cons_append]
  refine wpIn_wide.2 ?_
  have HLC := Lib.hid hL
  have HLW := Lib.hid hLW
  have HA := Lib.hid hA
  have HB := Lib.hid hB
  clear hL hA hLW hB
  have hb3 := Blk.new w 34 #[.string (bs l.1), .slice A l.2.length cap]
  have hr3 : (w.alloc (.cells #[.string (bs l.1), .slice A l.2.length cap] 34)).rangeAt w.heap.size 0 [.string (bs l.1), .slice A l.2.length cap] := fun i v hv => by
    rw [Nat.zero_add]
    exact (hb3.cell i).trans (by rw [← hv]; simp)
  have HR3 := Lib.hid hr3
  have HB3 := Lib.hid hb3
  clear hr3 hb3
  go_wp2_with (first | (refine wpList_load_mid rfl 34 _ rfl w.heap.size 0 rfl [.string (bs l.1), .slice A l.2.length cap] _ HR3.out Tryd.underlying34 rfl wl_info ?_))
  refine (svalid_any l A cap _ HLW.out (HA.out.bel (bel_alloc (bel_refl w) _)) hcap).mono ?_
  rintro e w1 ⟨rfl, hb1⟩
  have hbw : Below w.heap.size w w1 := bel_trans (bel_alloc (bel_refl w) _) hb1
  have hB3 := HB3.out.bel hb1
  have GB3 := Lib.hid hB3
  have HBW := Lib.hid hbw
  clear hB3 hbw hb1 HR3 HB3
  cases hv : Snd.validB l.1 l.2
  · have hr : Snd.nearB l.1 l.2 c x = ([], 1) := by unfold Snd.nearB; rw [hv]; rfl
    have HR := Lib.hid hr
    clear hr hv
    go_wp2
    exact near_err HR.out HBW.out _ rfl rfl
  · have HV := Lib.hid hv
    clear hv
    go_wp2_with fail
    refine (proper_any c B capB _ HLC.out (HB.out.bel HBW.out)).mono ?_
    rintro e w2 ⟨rfl, hb2⟩
    have hB3 := GB3.out.bel hb2
    have hbw := bel_trans HBW.out hb2
    have HB3 := Lib.hid hB3
    have GBW := Lib.hid hbw
    clear hB3 hbw hb2 GB3 HBW
    cases hp : Snd.properB c
    · have hr : Snd.nearB l.1 l.2 c x = ([], 1) := by unfold Snd.nearB; rw [HV.out, hp]; rfl
      have HR := Lib.hid hr
      clear hr hp
      go_wp2
      exact near_err HR.out GBW.out _ rfl rfl
    · have HP := Lib.hid hp
      clear hp
      go_wp2_with fail
      refine (slet_any x 1 12 _ hx).mono ?_
      rintro e w3 ⟨rfl, hb3⟩
      have hB3 := HB3.out.bel hb3
      have hbw := bel_trans GBW.out hb3
      have GB3 := Lib.hid hB3
      have HBW := Lib.hid hbw
      clear hB3 hbw hb3 HB3 GBW
      cases hx1 : Snd.lettersB x 1 12
      · have hr : Snd.nearB l.1 l.2 c x = ([], 1) := by unfold Snd.nearB Snd.heardB; rw [HV.out, HP.out, hx1]; rfl
        have HR := Lib.hid hr
        clear hr hx1
        go_wp2
        exact near_err HR.out HBW.out _ rfl rfl
      · have hr : Snd.nearB l.1 l.2 c x = (Snd.nearL l.2 c x l.2.length, 0) := by unfold Snd.nearB Snd.heardB; rw [HV.out, HP.out, hx1]; rfl
        have HR := Lib.hid hr
        have HX1 := Lib.hid hx1
        clear hr hx1
        go_wp2_with fail
        refine (alike_mk c B capB x _).mono ?_
        rintro e w' ⟨rfl, rfl⟩
        go_wp2
        have hbo := ((Boxed.new w3 36 (.slice none 0 0)).alloc (.cells #[.slice B c.length capB] 22)).alloc (.cells #[.string (bs x)] 9)
        have hb3 := ((GB3.out.alloc (.cells #[.slice none 0 0] 36)).alloc (.cells #[.slice B c.length capB] 22)).alloc (.cells #[.string (bs x)] 9)
        have hsz3 := GB3.out.lt
        have hbl := bel_alloc (bel_alloc (bel_alloc HBW.out (.cells #[.slice none 0 0] 36)) (.cells #[.slice B c.length capB] 22)) (.cells #[.string (bs x)] 9)
        have hlay : SLay (((w3.alloc (.cells #[.slice none 0 0] 36)).alloc (.cells #[.slice B c.length capB] 22)).alloc (.cells #[.string (bs x)] 9)) w.heap.size (w3.heap.size + 1 + 1) (w3.heap.size + 1) B capB c x := by
          refine ⟨?_, ?_, fun hl => ?_⟩
          · have := Blk.new ((w3.alloc (.cells #[.slice none 0 0] 36)).alloc (.cells #[.slice B c.length capB] 22)) 9 #[.string (bs x)]
            simpa only [World.size_alloc] using this
          · have := (Blk.new (w3.alloc (.cells #[.slice none 0 0] 36)) 22 #[.slice B c.length capB]).alloc (.cells #[.string (bs x)] 9)
            simpa only [World.size_alloc] using this
          · obtain ⟨g, off, h1, h2, h3⟩ := HB.out hl
            exact ⟨g, off, h1, h2, fun j z hj => ⟨(hbl.cell (p := ⟨g, off + j * 2, none⟩) h2).trans (h3 j z hj).1, (hbl.cell (p := ⟨g, off + j * 2 + 1, none⟩) h2).trans (h3 j z hj).2⟩⟩
        have hz4 : (((w3.alloc (.cells #[.slice none 0 0] 36)).alloc (.cells #[.slice B c.length capB] 22)).alloc (.cells #[.string (bs x)] 9)).heap.size = w3.heap.size + 3 := by simp
        generalize ((w3.alloc (.cells #[.slice none 0 0] 36)).alloc (.cells #[.slice B c.length capB] 22)).alloc (.cells #[.string (bs x)] 9) = W3 at *
        generalize ebw : w3.heap.size + 1 + 1 = bw at *
        generalize ebl : w3.heap.size + 1 = bl at *
        generalize ebo : w3.heap.size = bo at *
        generalize eb3 : w.heap.size = b3 at *
        have hlen := HX1.out
        unfold Snd.lettersB at hlen
        simp only [Bool.and_eq_true, decide_eq_true_eq] at hlen
        obtain ⟨hlet, _, hx12⟩ := hlen
        have hval := HV.out
        unfold Snd.validB at hval
        simp only [Bool.and_eq_true, decide_eq_true_eq] at hval
        obtain ⟨_, hn1, hn4, _, hris⟩ := hval
        obtain ⟨PL, hPL⟩ : ∃ PL, PL = Snd.alikeL c x := ⟨_, rfl⟩
        have hpl : PL.length ≤ 100000000 := by
          have := rest_len x c x.length 0
          have hcl : c.length ≤ 1000000 := HLC.out.1
          have h12 : x.length ≤ 12 := by omega
          have hm : x.length * (2 * c.length) ≤ 12 * (2 * c.length) := Nat.mul_le_mul_right _ h12
          rw [hPL]
          unfold Snd.alikeL
          rw [List.length_cons]
          omega
        have hnear : Lib.compact ((Snd.foundL l.2 PL).mergeSort fun a b => decide (a ≤ b)) = Snd.nearL l.2 c x l.2.length := by rw [hPL]; exact Snd.near_found hris HP.out x
        have HNEAR := Lib.hid hnear
        have HPL := Lib.hid hPL
        have HLET := Lib.hid hlet
        have HRIS := Lib.hid hris
        have HLAY := Lib.hid hlay
        have hseq : SeqStopsK Fence.wide (6 - 1) Tryd.prog 27 #[.pointer (some ⟨bw, 0, none⟩), .pointer (some ⟨bl, 0, none⟩)] (fun s : List UInt8 => #[.string (bs s)]) (KpM b3) (fun ys => ys = PL) (fun pre => pre <+: PL) PL.length W3 := fun l' J Jx W hW hJ _ hY h0 =>
          alike_in (6 - 1) (by omega) l' b3 bw bl B capB c x (by omega) HLET.out HLC.out.1 HLC.out.2 J Jx PL HPL.out hY W (Nat.le_trans (by omega) hW.size) hJ
            (HLAY.out.keep ⟨fun g hg => hW.block g (by omega), hW.size, fun g o ho _ => (hW.block g (Array.getElem?_eq_some_iff.1 ho).1).trans ho⟩) h0
        have HSEQ := Lib.hid hseq
        have HBO := Lib.hid hbo
        have H3 := Lib.hid hb3
        have HBL := Lib.hid hbl
        have hrowi := info_parts info_int
        obtain ⟨i0, hi0, hz0, hz1, hz2⟩ := hrowi
        have hn6 : l.2.length ≤ 1000000 := HLW.out.2.1
        clear hnear hPL hlet hris hlay hseq hbo hb3 hbl
        refine (wpIn_wide (n := 6)).1 ?_
        refine wpIn_rangeFunc_ownG (F := Fence.wide) rfl (by omega) (gf := 27) (lb := #[.pointer (some ⟨bw, 0, none⟩), .pointer (some ⟨bl, 0, none⟩)]) rfl trivial (enters_of Tryd.func27 (by kernel_rfl) rfl)
          HSEQ.out (fun h k => h.trans k) (fun W l o o' hl hlo hc hw => kpM_put o' (by omega) hlo hc hw) (Below.refl _ _) (fun _ => rfl)
          (fun pre W => NearI w b3 bo l A cap pre W)
          (fun _ _ _ => False)
          (nearI_own (by omega)) (fun _ _ _ _ _ h _ _ => h)
          ⟨⟨_, HBO.out, World.ownsRow_nil _ _ _ _, trivial⟩, H3.out, by rw [eb3]; exact HBL.out⟩
          (fun s : List UInt8 => { tmps := #[wlv l A cap, .slice B c.length capB, .string (bs x), .pointer (some ⟨b3, 0, none⟩), undef, undef, .slice none 0 0, .int .i64 0, .pointer (some ⟨bo, 0, none⟩), .string (bs s), undef, undef,
            .agg #[.string (bs l.1), .slice A l.2.length cap], .bool true, .bool false, .bool false, .slice B c.length capB, .bool true, .bool false, .bool false, .bool false, .string (bs x), .bool true, .bool false, .bool false,
            .slice B c.length capB, .string (bs x), .func (.func 27) #[] #[.pointer (some ⟨bw, 0, none⟩), .pointer (some ⟨bl, 0, none⟩)], .string (bs s), undef, undef, undef, undef, undef, undef, undef, undef, undef, undef, undef, undef, undef, undef, undef, undef], defers := [] }) ?assign ?body ?done ?stop
        case assign =>
          intro l s W K hK
          gi_wp2
          exact hK
        case body =>
          rintro l' pre s W ⟨⟨v, hv, hrow, _⟩, q3, qb⟩ hlen
          obtain ⟨Ao, co, rfl⟩ := slice_of_row hrow
          have co0 := hv.cell
          have co1 := hv.frozen
          have k1 : W.cell? ⟨b3, 1, none⟩ = some (.slice A l.2.length cap) := q3.cell 1
          have hsW := qb.size
          have hboW : bo ≤ W.heap.size := Nat.le_of_lt hv.lt
          have hfl := found_len l.2 pre
          have hbs := bs_any l.2 A cap s W (HA.out.bel qb) HRIS.out (by omega) hn6
          have HVB := Lib.hid hv
          have HROW := Lib.hid hrow
          have Q3 := Lib.hid q3
          have QB := Lib.hid qb
          by_cases hfd : Snd.below l.2 s < l.2.length ∧ l.2.getD (Snd.below l.2 s) [] = s
          · rw [decide_eq_true hfd] at hbs
            have hfs : Snd.foundL l.2 (pre ++ [s]) = Snd.foundL l.2 pre ++ [(Snd.below l.2 s : Int)] := by rw [found_snoc]; unfold Snd.findL; rw [if_pos hfd]
            have hbn : Snd.below l.2 s < l.2.length := hfd.1
            have HFS := Lib.hid hfs
            have HBS := Lib.hid hbs
            clear hv hrow q3 qb hbs hfd hfs
            generalize Snd.below l.2 s = kb at *
            gi_wp2_with (first
              | (refine ⟨trivial, ?_⟩; gi_at_call 23; refine (CallsIn.inRound l' (callsIn_wide.2 HBS.out)).mono ?_; rintro e w' ⟨rfl, q, rfl⟩)
              | (gi_at_builtin; refine wpListIn_append_own _ rfl _ _ 36 rfl bo 3 i0 (.int .i64 0) 1 8 Tryd.underlying36 hi0 hz0 hz1 hz2 rfl (by decide) _ _ _ rfl (show ((W.drewN _).alloc _).ownsRow _ _ _ _ _ _ from HROW.out.alloc _) ⟨W.heap.size, 0, none⟩ 1 1 [.int .i64 kb] rfl rfl (cell_one_new _ _ _) (by simp [Value.oneCell']) (by unfold maxLen; omega) (by omega) (by simp; omega) ?_; intro v' w5 hown' hgrow _; obtain ⟨g', cap', rfl⟩ := ownsRow_succ hown'; obtain ⟨hv1, hv2, hr2, hk2, hb2⟩ := (show Boxed (W.drewN q) bo 36 _ from HVB.out).appended (by decide) (show (W.drewN q).ownsRow bo 3 1 _ _ _ from HROW.out) hboW (Nat.le_refl _) hown' hgrow; have hc1 := hv1.cell; have hf1 := hv1.frozen))
            have hgr : ((W.drewN q).alloc (.cells #[.int .i64 kb] 3)).grownBy w5 (Value.slice Ao (Snd.foundL l.2 pre).length co).ownBlock := hgrow
            have hb3W : b3 ≤ (W.drewN q).heap.size := by show b3 ≤ W.heap.size; omega
            have hkp := (kpM_append (show (W.drewN q).ownsRow bo 3 1 _ _ _ from HROW.out) (show b3 ≤ bo by omega) hb3W (fun _ _ => rfl) hgr).trans (kpM_set (.slice (some ⟨g', 0, none⟩) ((Snd.foundL l.2 pre).length + 1) cap') (show b3 ≤ bo by omega) hv1 rfl)
            have e3 := ((show Blk (W.drewN q) b3 _ _ from Q3.out).alloc (.cells #[.int .i64 kb] 3)).grown hgr (fun e => by have := owns_block HROW.out b3 e.symm; omega)
            refine ⟨(show KeepsOthers W _ from ⟨hk2.size, hk2.same⟩).from _, ⟨hkp.old, hkp.size, hkp.mine⟩, ⟨_, hv2, ?_, trivial⟩, e3.far (p := ⟨bo, 0, none⟩) (by show b3 ≠ bo; omega) _, (bel_drewN QB.out q).trans (hb2.mono (by omega))⟩
            rw [HFS.out, List.map_append, List.length_append]
            exact hr2
          · rw [decide_eq_false hfd] at hbs
            have hfs : Snd.foundL l.2 (pre ++ [s]) = Snd.foundL l.2 pre := by rw [found_snoc]; unfold Snd.findL; rw [if_neg hfd, List.append_nil]
            have HFS := Lib.hid hfs
            have HBS := Lib.hid hbs
            clear hv hrow q3 qb hbs hfd hfs
            gi_wp2_with (refine ⟨trivial, ?_⟩; gi_at_call 23; refine (CallsIn.inRound l' (callsIn_wide.2 HBS.out)).mono ?_; rintro e w' ⟨rfl, q, rfl⟩)
            exact ⟨(show KeepsOthers W (W.drewN _) from ⟨Nat.le_refl _, fun _ _ h _ => h⟩).from _, ⟨fun _ _ => rfl, Nat.le_refl _, fun _ _ h _ => h⟩, ⟨_, HVB.out, by rw [HFS.out]; exact HROW.out, trivial⟩, Q3.out, bel_drewN QB.out _⟩
        case done =>
          rintro D ys W hD rfl ⟨⟨v, hv, hrow, _⟩, q3, qb⟩ hK
          obtain ⟨Ao, co, rfl⟩ := slice_of_row hrow
          have hfl := found_len l.2 ys
          dsimp only
          have co0 := hv.cell
          have HVB := Lib.hid hv
          have HROW := Lib.hid hrow
          have QB := Lib.hid qb
          have HK := Lib.hid hK
          clear hv hrow q3 qb hK
          go_wp2_with fail
          refine (sort_own HROW.out (by omega)).mono ?_
          rintro e W1 ⟨rfl, hrow1, hg1⟩
          have hv1 := HVB.out.kept hg1 (HVB.out.not_row (by decide) HROW.out)
          have hk1 : W1.heap[D]? = some (.deferred (some [])) := (hg1.block D (Array.getElem?_eq_some_iff.1 HK.out).1 (not_row_obj HK.out rfl HROW.out)).trans HK.out
          have hb1 : Below w.heap.size w W1 := QB.out.grown hg1 QB.out.size (fun k e => by have := owns_block HROW.out k e; omega)
          have hsl : ((Snd.foundL l.2 ys).mergeSort fun a b => decide (a ≤ b)).length = (Snd.foundL l.2 ys).length := by simp
          have hrow1' : W1.ownsRow bo 3 1 (.slice Ao (Snd.foundL l.2 ys).length co) ((Snd.foundL l.2 ys).mergeSort fun a b => decide (a ≤ b)).length (((Snd.foundL l.2 ys).mergeSort fun a b => decide (a ≤ b)).map (Value.int .i64)) := by rw [hsl]; exact hrow1
          have co1 := hv1.cell
          have HROW1 := Lib.hid hrow1'
          have HK1 := Lib.hid hk1
          have HB1 := Lib.hid hb1
          clear hv1 hk1 hb1 hrow1 hrow1' hg1 co0
          go_wp2_with fail
          refine (compact_own HROW1.out (by omega)).mono ?_
          rintro e W2 ⟨v', rfl, hrow2, hg2⟩
          have hk2 : W2.heap[D]? = some (.deferred (some [])) := (hg2.block D (Array.getElem?_eq_some_iff.1 HK1.out).1 (not_row_obj HK1.out rfl HROW1.out)).trans HK1.out
          have hb2 : Below w.heap.size w W2 := HB1.out.grown hg2 HB1.out.size (fun k e => by have := owns_block HROW1.out k e; omega)
          rw [HNEAR.out] at hrow2
          have HROW2 := Lib.hid hrow2
          have HK2 := Lib.hid hk2
          have HB2 := Lib.hid hb2
          clear hk2 hb2 hrow2 hg2
          go_wp2
          refine ⟨by simp, .inl ⟨D, _, rfl, run_takeDeferred HK2.out, ?_⟩⟩
          refine ⟨_, results_tmp2 Tryd.results16 _ _ _, v', ?_, ?_, ?_⟩
          · rw [HR.out]; rfl
          · rw [HR.out]
            exact owns_mono (ownsRow_putObj HROW2.out (.deferred none) HK2.out rfl) (by omega)
          · exact HB2.out.grown (grownBy_putObj' _ D _) HB2.out.size (fun k e => by cases e; omega)
        case stop =>
          rintro D cc pre W hD hpre hf hK
          exact hf.elim
end Go.Proofs.YtgjdbnkeamjhhaaDoor

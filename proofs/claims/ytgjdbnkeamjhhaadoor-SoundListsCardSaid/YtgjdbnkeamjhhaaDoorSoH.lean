/-
  alike: the iterator's contract, walked.
-/
import Derived.Test.YtgjdbnkeamjhhaaDoorSoG
import Derived.Test.YtgjdbnkeamjhhaaDoorLaterIn
set_option linter.unusedVariables false
namespace Go.Proofs.YtgjdbnkeamjhhaaDoor
open Go.RowKit Go.Maps Go.Shelf
attribute [local go_sem] alloc_drewN setCell_drewN setRow_drewN Oper.semAt_some
/-- what is left of the ways of one confusion -/
def restW (s : List UInt8) (i : Nat) (x y : List UInt8) : Nat → List (List UInt8)
  | 0 => Snd.cutRep s i (x, y) ++ Snd.cutRep s i (y, x)
  | 1 => Snd.cutRep s i (y, x)
  | _ => []
theorem way_at (s : List UInt8) (i : Nat) (x y : List UInt8) (m : Nat) (hm : m < 2) (hx : x.length ≤ 1000000) (hy : y.length ≤ 1000000) : ∃ a b, restW s i x y m = Snd.cutRep s i (a, b) ++ restW s i x y (m + 1) ∧ a.length ≤ 1000000 ∧ b.length ≤ 1000000 ∧
    ∀ (w : World) (g : Nat) (t : TypeId), Blk w g t #[.string (bs x), .string (bs y), .string (bs y), .string (bs x)] → w.rangeAt g (m * 2) [.string (bs a), .string (bs b)] := by
  match m, hm with
  | 0, _ =>
    refine ⟨x, y, rfl, hx, hy, fun w g t h j v hv => ?_⟩
    match j, hv with
    | 0, hv => injection hv with hv; subst hv; exact h.cell 0
    | 1, hv => injection hv with hv; subst hv; exact h.cell 1
  | 1, _ =>
    refine ⟨y, x, by simp [restW], hy, hx, fun w g t h j v hv => ?_⟩
    match j, hv with
    | 0, hv => injection hv with hv; subst hv; exact h.cell 2
    | 1, hv => injection hv with hv; subst hv; exact h.cell 3
theorem heap_alloc_keep {W : World} {D : Nat} {o : Obj} (o' : Obj) (h : W.heap[D]? = some o) : (W.alloc o').heap[D]? = some o :=
  (Below.heap_alloc W o' D (Array.getElem?_eq_some_iff.1 h).1).trans h
theorem two_info : (Tryd.prog.info? 61).map (·.size) = some 2 := by kernel_rfl
theorem cutRep_one (s : List UInt8) (i : Nat) (a b : List UInt8) (h : a.isPrefixOf (s.drop i) = true) : Snd.cutRep s i (a, b) = [s.take i ++ b ++ (s.drop i).drop a.length] := by unfold Snd.cutRep; rw [if_pos h]
theorem cutRep_none (s : List UInt8) (i : Nat) (a b : List UInt8) (h : a.isPrefixOf (s.drop i) = false) : Snd.cutRep s i (a, b) = [] := by unfold Snd.cutRep; rw [if_neg (by rw [h]; exact Bool.noConfusion)]
set_option maxRecDepth 100000 in
set_option maxHeartbeats 4000000 in
theorem alike_in (n : Nat) (hn : 1 ≤ n) (l B0 bw bl : Nat) (A : Option Addr) (cap : Nat) (c : CfP) (s : List UInt8) (hs : s.length ≤ 12) (hl : s.all Snd.letB = true) (hc : c.length ≤ 1000000) (hcl : ∀ x ∈ c, x.1.length ≤ 1000000 ∧ x.2.length ≤ 1000000)
    (J Jx : List (List UInt8) → World → Prop) (PL : List (List UInt8)) (hPL : PL = Snd.alikeL c s)
    (hY : ∀ pre x W, J pre W → pre.length < PL.length → YieldAt Fence.wide (n - 1) Tryd.prog l #[.string (bs x)] W fun e W' => (e = .returned (.bool true) ∧ J (pre ++ [x]) W' ∧ KpM B0 W W') ∨ (e = .returned (.bool false) ∧ Jx (pre ++ [x]) W'))
    (W : World) (hB0 : B0 ≤ W.heap.size) (hJ : AbidesFrom W.heap.size J) (hW : SLay W B0 bw bl A cap c s) (h0 : J [] W) :
    CallsIn Fence.wide n Tryd.prog 27 #[.func (.yield l) #[] #[], .pointer (some ⟨bw, 0, none⟩), .pointer (some ⟨bl, 0, none⟩)] W fun e W' =>
      (∃ v, e = .returned v) ∧ ((∃ ys, ys = PL ∧ J ys W') ∨ (∃ pre, pre <+: PL ∧ Jx pre W')) := by
  refine callsIn_of_wp Tryd.func27 rfl trivial ?_ rfl
  simp only [Tryd.ntmps27, List.size_toArray, List.length_cons, List.length_nil, Nat.reduceAdd, Nat.reduceSub, Array.replicate_succ, Array.replicate_zero, List.push_toArray, List.append_toArray, List.nil_append, List.cons_append]
  have HY := Lib.hid hY
  have HPL := Lib.hid hPL
  have HCL := Lib.hid hcl
  have HJA := Lib.hid (fun pre W' o (h : J pre W') => hJ pre W' _ none h (World.grownBy_alloc W' o none) (fun r e => by cases e))
  have HJD := Lib.hid (fun pre W' k (h : J pre W') => hJ pre W' _ none h (grown_drewN W' k) (fun r e => by cases e))
  have HJP := Lib.hid (fun pre W' D o o' (h : J pre W') (hB : W.heap.size ≤ D) (hD : W'.heap[D]? = some o) (ho : o.isWalk = true) => hJ pre W' _ (some D) h (grownBy_putObj' W' D o') (fun r e => by cases e; exact ⟨hB, o, hD, ho⟩))
  have HL := Lib.hid hl
  clear hY hPL hcl hJ hl
  obtain ⟨hw0, hl0⟩ := hW.cells
  obtain ⟨fn, tmps, assign, body, hy, hR⟩ := HY.out [] s W h0 (by rw [HPL.out]; simp [Snd.alikeL])
  have HW := Lib.hid hW
  clear hW h0
  refine wpIn_wide.2 ?_
  go_upto_region 0 with fail
  refine (wpIn_wide (n := n)).1 ?_
  gi_wp2
  refine hR.mono ?_
  clear hR hy
  rintro e W1 (⟨rfl, hJ1, hk1⟩ | ⟨rfl, hJx1⟩)
  · have hW1 := HW.out.keep hk1
    have hz1 := hk1.size
    obtain ⟨w1, l1⟩ := hW1.cells
    have HW1 := Lib.hid hW1
    have HJ1 := Lib.hid hJ1
    clear hW1 hk1 hJ1 HW hw0 hl0
    gi_wp2
    go_wp2
    go_loopw [4] (fun v wr => ∃ (i : Nat) (pre : List (List UInt8)), i ≤ s.length ∧ PL = pre ++ Snd.restL c s (s.length - i) i ∧ J pre wr ∧ SLay wr B0 bw bl A cap c s ∧ W1.heap.size < wr.heap.size ∧ wr.heap[W1.heap.size]? = some (.stringIter (bs s) i)) (fun _ wr => s.length - wr.iterPos W1.heap.size)
    case atStart => exact ⟨0, [s], Nat.zero_le _, by rw [HPL.out]; rfl, HJA.out _ _ _ HJ1.out, HW1.out.alloc (by omega) _, by simp [World.iter], World.iter_heap _ _ _⟩
    case round =>
      obtain ⟨i, pre, hi, hpl, hJr, hLr, hzr, hD⟩ := hrel
      have HPL2 := Lib.hid hpl
      clear hpl
      by_cases hlt : i < s.length
      · have hlet : Snd.letB (s.getD i 0) = true := List.all_eq_true.1 HL.out _ (Snd.mem_getD s 0 i hlt)
        have hnx : ∀ ty, (Instr.next (.pointer (some ⟨W1.heap.size, 0, none⟩)) true ty).run Tryd.prog wr = _ := fun ty => next_let ty _ i hD hlt hlet
        have hip := iterPos_of hD
        have HIP := Lib.hid hip
        clear hip
        have hJp := HJP.out pre wr _ _ (.stringIter (bs s) (i + 1)) hJr (by omega) hD rfl
        have hLp := hLr.put (by omega) hD rfl (.stringIter (bs s) (i + 1))
        have hDp : (wr.putObj W1.heap.size (.stringIter (bs s) (i + 1))).heap[W1.heap.size]? = some (.stringIter (bs s) (i + 1)) := World.putObj_heap_same hzr
        have hzp : (wr.putObj W1.heap.size (.stringIter (bs s) (i + 1))).heap.size = wr.heap.size := World.putObj_size
        generalize wr.putObj W1.heap.size (.stringIter (bs s) (i + 1)) = wp at *
        obtain ⟨hpw, hpl⟩ := hLp.cells
        have HJP2 := Lib.hid hJp
        have HLP := Lib.hid hLp
        have HDP := Lib.hid hDp
        clear hJr hLr hD hJp hLp hDp hlet w1 l1
        go_wp2
        go_loopw [22] (fun v wy => ∃ (k : Nat) (pre : List (List UInt8)), v = .int .i64 k ∧ k ≤ c.length ∧ PL = pre ++ ((c.drop k).flatMap (Snd.wayL s i) ++ Snd.restL c s (s.length - (i + 1)) (i + 1)) ∧ J pre wy ∧ SLay wy B0 bw bl A cap c s ∧ W1.heap.size < wy.heap.size ∧ wy.heap[W1.heap.size]? = some (.stringIter (bs s) (i + 1))) (fun v _ => c.length - (intOf v).toNat)
        case atStart =>
          refine ⟨0, pre, rfl, Nat.zero_le _, ?_, HJP2.out, HLP.out, by omega, HDP.out⟩
          rw [HPL2.out, show s.length - i = s.length - (i + 1) + 1 by omega]
          rfl
        case round =>
          obtain ⟨k, pre2, rfl, hk, hpl2, hJy, hLy, hzy, hDy⟩ := hrel
          have HPL3 := Lib.hid hpl2
          have HJY := Lib.hid hJy
          have HDY := Lib.hid hDy
          clear hpl2 hJy hDy HJP2 HLP HDP hpw hpl HPL2
          obtain ⟨hyw, hyl⟩ := hLy.cells
          by_cases hkc : k < c.length
          · obtain ⟨g, off, hA, hg, hrg⟩ := hLy.at_ k hkc
            have hxl := HCL.out _ (Snd.mem_getD c ([], []) k hkc)
            have hdr : (c.drop k).flatMap (Snd.wayL s i) = Snd.cutRep s i (c.getD k ([], [])) ++ (Snd.cutRep s i (Snd.flip (c.getD k ([], []))) ++ (c.drop (k + 1)).flatMap (Snd.wayL s i)) := by
              rw [List.drop_eq_getElem_cons hkc, List.flatMap_cons, List.getD_eq_getElem?_getD, List.getElem?_eq_getElem hkc]
              show Snd.cutRep s i c[k] ++ Snd.cutRep s i (Snd.flip c[k]) ++ _ = _
              rw [List.append_assoc]
              rfl
            have hpl4 := HPL3.out
            rw [hdr] at hpl4
            have HPL4 := Lib.hid hpl4
            clear hdr hpl4 HPL3
            generalize c.getD k ([], []) = p at *
            obtain ⟨x, y⟩ := p
            have HRG := Lib.hid hrg
            have HLY := Lib.hid hLy
            clear hrg hLy
            go_wp2_with (first | (refine wpList_load_mid rfl 29 _ rfl g (off + k * 2) (by rw [hA]; rfl) [.string (bs x), .string (bs y)] _ HRG.out Tryd.underlying29 rfl cf_info ?_))
            have hj := HJA.out _ _ (.cells #[.string (bs x), .string (bs y), .string (bs y), .string (bs x)] 61) (HJA.out _ _ (.cells #[.string (bs x), .string (bs y)] 29) HJY.out)
            have hly := (HLY.out.alloc (by omega) (.cells #[.string (bs x), .string (bs y)] 29)).alloc (by simp; omega) (.cells #[.string (bs x), .string (bs y), .string (bs y), .string (bs x)] 61)
            have hd := heap_alloc_keep (.cells #[.string (bs x), .string (bs y), .string (bs y), .string (bs x)] 61) (heap_alloc_keep (.cells #[.string (bs x), .string (bs y)] 29) HDY.out)
            have hbk := Blk.new (wr.alloc (.cells #[.string (bs x), .string (bs y)] 29)) 61 #[.string (bs x), .string (bs y), .string (bs y), .string (bs x)]
            simp only [World.size_alloc] at hbk
            have hz4 : wr.heap.size + 2 ≤ ((wr.alloc (.cells #[.string (bs x), .string (bs y)] 29)).alloc (.cells #[.string (bs x), .string (bs y), .string (bs y), .string (bs x)] 61)).heap.size := by simp
            generalize (wr.alloc (.cells #[.string (bs x), .string (bs y)] 29)).alloc (.cells #[.string (bs x), .string (bs y), .string (bs y), .string (bs x)] 61) = w4 at *
            generalize hE : wr.heap.size + 1 = E at *
            have HJ4 := Lib.hid hj
            have HL4 := Lib.hid hly
            have HD4 := Lib.hid hd
            have HB4 := Lib.hid hbk
            clear hj hly hd hbk HJY HLY HDY HRG hyw hyl
            go_loopw [38] (fun v wz => ∃ (m : Nat) (pre : List (List UInt8)), v = .int .i64 m ∧ m ≤ 2 ∧ PL = pre ++ (restW s i x y m ++ ((c.drop (k + 1)).flatMap (Snd.wayL s i) ++ Snd.restL c s (s.length - (i + 1)) (i + 1))) ∧ J pre wz ∧ SLay wz B0 bw bl A cap c s ∧ E < wz.heap.size ∧ wz.heap[W1.heap.size]? = some (.stringIter (bs s) (i + 1)) ∧ Blk wz E 61 #[.string (bs x), .string (bs y), .string (bs y), .string (bs x)]) (fun v _ => 2 - (intOf v).toNat)
            case atStart =>
              refine ⟨0, pre2, rfl, by omega, ?_, HJ4.out, HL4.out, by omega, HD4.out, HB4.out⟩
              rw [HPL4.out]
              simp [restW, Snd.flip]
            case round =>
              obtain ⟨m, pre3, rfl, hm, hpl5, hJz, hLz, hzz, hDz, hBz⟩ := hrel
              have HPL5 := Lib.hid hpl5
              have HDZ := Lib.hid hDz
              have HBZ := Lib.hid hBz
              have HJZ := Lib.hid hJz
              obtain ⟨hzw, hzl⟩ := hLz.cells
              have HLZ := Lib.hid hLz
              clear hpl5 hDz hBz hJz hLz HJ4 HL4 HD4 HB4
              by_cases hm2 : m < 2
              · obtain ⟨a, b, hab, hal, hbl, hrw⟩ := way_at s i x y m hm2 hxl.1 hxl.2
                have hra := hrw _ _ _ HBZ.out
                have HRA := Lib.hid hra
                have HAB := Lib.hid hab
                clear hra hrw hab
                go_wp2_with (first | (refine wpList_load_mid rfl 61 _ rfl E (m * 2) rfl [.string (bs a), .string (bs b)] _ HRA.out Tryd.underlying61 rfl two_info ?_))
                have hj := HJA.out _ _ (.cells #[.string (bs a), .string (bs b)] 61) HJZ.out
                have hly := HLZ.out.alloc (by omega) (.cells #[.string (bs a), .string (bs b)] 61)
                have hd := heap_alloc_keep (.cells #[.string (bs a), .string (bs b)] 61) HDZ.out
                have hbk := HBZ.out.alloc (.cells #[.string (bs a), .string (bs b)] 61)
                have hbn := Blk.new wr 61 #[.string (bs a), .string (bs b)]
                have hz5 : wr.heap.size + 1 ≤ (wr.alloc (.cells #[.string (bs a), .string (bs b)] 61)).heap.size := by simp
                generalize wr.alloc (.cells #[.string (bs a), .string (bs b)] 61) = w5 at *
                generalize hF : wr.heap.size = F at *
                obtain ⟨h5w, h5l⟩ := hly.cells
                have c0 := hbn.cell 0
                have c1 := hbn.cell 1
                have HJ5 := Lib.hid hj
                have HL5 := Lib.hid hly
                have HD5 := Lib.hid hd
                have HE5 := Lib.hid hbk
                have HF5 := Lib.hid hbn
                clear hj hly hd hbk hbn HJZ HLZ HDZ HBZ HRA hzw hzl
                have hi5 : (i : Int) ≤ ((bs s).size : Int) := by rw [bs_size]; omega
                have hex : ((bs s).extract i s.length).data.toList = s.drop i := by rw [extract_bs, bs_list, bs_list, List.take_of_length_le (by rw [List.length_drop]; omega)]
                cases hpx : a.isPrefixOf (s.drop i)
                · have hcp : ∀ W', Calls Tryd.prog 28 #[.string ((bs s).extract i s.length), .string (bs a)] W' fun e w' => e = .returned (.tuple #[.string (bs (s.drop i)), .bool false]) ∧ w' = W' := fun W' =>
                    (Tryd.strings_CutPrefix _ _ W').mono fun e w' he => ⟨by
                      rw [he.1, hex, bs_list]
                      have h1 : Lib.hasPrefix (s.drop i) a = false := hpx
                      unfold Lib.trimPrefix
                      rw [h1]; rfl, he.2⟩
                  have HCP := Lib.hid hcp
                  have hab2 := HAB.out
                  rw [cutRep_none s i a b hpx, List.nil_append] at hab2
                  have HAB2 := Lib.hid hab2
                  clear hcp hpx hab2 hex
                  go_quiet ((go_at_call 28; exact (HCP.out _).mono fun e w' he => ⟨he.1, _, he.2⟩))
                  go_wp2
                  go_quiet (fail)
                  go_wp2
                  go_roundw
                  case rel => exact ⟨m + 1, pre3, by go_num, by omega, by rw [HPL5.out, HAB2.out], HJD.out _ _ _ HJ5.out, HL5.out.drewN _, by show E < w5.heap.size; omega, HD5.out, HE5.out⟩
                  case measure => simp [intOf]; omega
                · have hcp : ∀ W', Calls Tryd.prog 28 #[.string ((bs s).extract i s.length), .string (bs a)] W' fun e w' => e = .returned (.tuple #[.string (bs ((s.drop i).drop a.length)), .bool true]) ∧ w' = W' := fun W' =>
                    (Tryd.strings_CutPrefix _ _ W').mono fun e w' he => ⟨by
                      rw [he.1, hex, bs_list]
                      have h1 : Lib.hasPrefix (s.drop i) a = true := hpx
                      unfold Lib.trimPrefix
                      rw [h1]; rfl, he.2⟩
                  have HCP := Lib.hid hcp
                  have hab2 := HAB.out
                  rw [cutRep_one s i a b hpx] at hab2
                  have HAB2 := Lib.hid hab2
                  have hrl : ((s.drop i).drop a.length).length ≤ 12 := by rw [List.length_drop, List.length_drop]; omega
                  clear hcp hpx hab2 hex
                  generalize (s.drop i).drop a.length = rest at *
                  go_quiet ((go_at_call 28; exact (HCP.out _).mono fun e w' he => ⟨he.1, _, he.2⟩))
                  go_upto_region 11 with fail
                  refine (wpIn_wide (n := n)).1 ?_
                  refine wpIn_region_drawn_mid 11 (by kernel_rfl) (by kernel_rfl) ?_
                  simp only [List.take_succ_cons, List.take_zero, List.drop_succ_cons, List.drop_zero]
                  repeat (go_big_quiet_step ((fail)))
                  refine wpQuiet_nil ?_
                  rintro _ ⟨q, rfl⟩
                  have harg : (bs s).extract 0 i ++ bs b ++ bs rest = bs (s.take i ++ b ++ rest) := by
                    rw [app_bs, app_bs, extract_bs]; simp only [bs_list, List.drop_zero, Nat.sub_zero]
                  have hplx : PL = pre3 ++ [s.take i ++ b ++ rest] ++ (restW s i x y (m + 1) ++ ((c.drop (k + 1)).flatMap (Snd.wayL s i) ++ Snd.restL c s (s.length - (i + 1)) (i + 1))) := by
                    rw [HPL5.out, HAB2.out]
                    simp only [List.append_assoc, List.cons_append, List.nil_append, List.singleton_append]
                  have HPLX := Lib.hid hplx
                  have HL6 := Lib.hid (HL5.out.drewN (nq + q))
                  obtain ⟨fn2, tmps2, assign2, body2, hy2, hR2⟩ := HY.out pre3 (s.take i ++ b ++ rest) (w5.drewN (nq + q)) (HJD.out _ _ _ HJ5.out) (by rw [hplx]; simp)
                  rw [← harg] at hy2
                  clear hplx harg
                  gi_wp2
                  refine hR2.mono ?_
                  clear hR2 hy2
                  rintro e W6 (⟨rfl, hJ6, hk6⟩ | ⟨rfl, hJx6⟩)
                  · have hz6 : w5.heap.size ≤ W6.heap.size := hk6.size
                    have HK6 := Lib.hid hk6
                    have HJ6 := Lib.hid hJ6
                    clear hk6 hJ6
                    gi_wp2
                    repeat (go_big_quiet_step ((fail)))
                    refine wpQuiet_nil ?_
                    go_wp2
                    go_roundw
                    case rel => exact ⟨m + 1, _, by go_num, by omega, HPLX.out, HJ6.out, HL6.out.keep HK6.out, by omega, HK6.out.mine _ _ HD5.out rfl, HK6.out.mine _ _ HE5.out rfl⟩
                    case measure => simp [intOf]; omega
                  · have HX := Lib.hid hJx6
                    clear hJx6
                    gi_wp2
                    repeat (go_big_quiet_step ((fail)))
                    refine wpQuiet_nil ?_
                    go_wp2
                    refine bodyPost_ret (results_none rfl _ _ _) rfl ?_
                    exact ⟨⟨_, rfl⟩, .inr ⟨_, ⟨_, HPLX.out.symm⟩, HX.out⟩⟩
              · obtain rfl : m = 2 := by omega
                have hfin := HPL5.out
                have HFIN := Lib.hid (show PL = pre3 ++ ((c.drop (k + 1)).flatMap (Snd.wayL s i) ++ Snd.restL c s (s.length - (i + 1)) (i + 1)) from hfin)
                clear hfin hzw hzl
                go_wp2
                rw [← hA]
                go_roundw
                case rel => exact ⟨k + 1, pre3, by go_num, by omega, HFIN.out, HJZ.out, HLZ.out, by omega, HDZ.out⟩
                case measure => simp [intOf]; omega
          · have hfin : PL = pre2 ++ Snd.restL c s (s.length - (i + 1)) (i + 1) := by rw [HPL3.out, List.drop_eq_nil_of_le (by omega)]; rfl
            have HFIN := Lib.hid hfin
            have HLY := Lib.hid hLy
            clear hfin hLy HPL3 hyw hyl
            go_wp2
            go_roundw
            case rel => exact ⟨i + 1, pre2, by omega, HFIN.out, HJY.out, HLY.out, hzy, HDY.out⟩
            case measure => rw [iterPos_of HDY.out, HIP.out]; omega
      · have hnx : ∀ ty, (Instr.next (.pointer (some ⟨W1.heap.size, 0, none⟩)) true ty).run Tryd.prog wr = _ := fun ty => next_end ty _ i hD hlt
        have hfin : PL = pre := by rw [HPL2.out, show s.length - i = 0 by omega]; simp [Snd.restL]
        have HFIN := Lib.hid hfin
        have HJR := Lib.hid hJr
        clear hfin hJr hLr hD w1 l1
        go_wp2
        go_end0
        exact ⟨⟨_, rfl⟩, .inl ⟨pre, HFIN.out.symm, HJR.out⟩⟩
  · have HX := Lib.hid hJx1
    have hpre : [s] <+: PL := by rw [HPL.out]; exact List.prefix_append [s] _
    have HPRE := Lib.hid hpre
    clear hJx1 hpre
    gi_wp2
    go_wp2
    refine bodyPost_ret (results_none rfl _ _ _) rfl ?_
    exact ⟨⟨_, rfl⟩, .inr ⟨_, HPRE.out, HX.out⟩⟩
end Go.Proofs.YtgjdbnkeamjhhaaDoor

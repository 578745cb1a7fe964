/-
  Read: what it returns at every alphabet of few letters.
-/
import Derived.Test.YtldnfdghkdibmaaGreatDoorAlLetters
import Derived.RangeFuncBox
import Derived.Maps.AppendAt
set_option linter.unusedVariables false
namespace Go.Proofs.YtldnfdghkdibmaaGreatDoor
open Go.RowKit Go.Maps Go.Shelf
attribute [local go_sem] alloc_drewN setCell_drewN setRow_drewN Oper.semAt_some

namespace Al
theorem collect_all (xs : List (Nat × Int)) : ∀ (out : List Int), (∀ p ∈ xs, 0 ≤ p.2) → out.length + xs.length ≤ 24 → collect out xs = (out ++ xs.map (·.2), 0, 0) := by
  induction xs with
  | nil => intro out _ _; simp [collect]
  | cons x xs ih =>
    intro out h1 h2
    obtain ⟨a, k⟩ := x
    rw [List.length_cons] at h2
    have h0 : 0 ≤ k := h1 (a, k) (by simp)
    rw [collect, if_neg (by omega), if_neg (by omega), ih _ (fun p hp => h1 p (by simp [hp])) (by rw [List.length_append]; simp only [List.length_cons, List.length_nil]; omega)]
    simp
theorem collect_stop (x : Nat × Int) (r : List (Nat × Int)) (q : List (Nat × Int)) : ∀ (out : List Int), (∀ p ∈ q, 0 ≤ p.2) → out.length + q.length ≤ 24 →
    (x.2 < 0 → collect out (q ++ x :: r) = ([], 3, (x.1 : Int))) ∧ (0 ≤ x.2 → out.length + q.length = 24 → collect out (q ++ x :: r) = ([], 2, (x.1 : Int))) := by
  induction q with
  | nil =>
    intro out _ _
    obtain ⟨a, k⟩ := x
    refine ⟨fun h => ?_, fun h h2 => ?_⟩
    · rw [List.nil_append, collect, if_pos h]
    · rw [List.nil_append, collect, if_neg (by have : 0 ≤ k := h; omega), if_pos (by simpa using h2)]
  | cons y q ih =>
    intro out h1 h2
    obtain ⟨b, j⟩ := y
    rw [List.length_cons] at h2
    have h0 : 0 ≤ j := h1 (b, j) (by simp)
    have := ih (out ++ [j]) (fun p hp => h1 p (by simp [hp])) (by rw [List.length_append]; simp only [List.length_cons, List.length_nil]; omega)
    rw [List.length_append] at this
    simp only [List.length_cons, List.length_nil] at this
    rw [List.cons_append, collect, if_neg (by omega), if_neg (by omega)]
    refine ⟨fun h => this.1 h, fun h h3 => this.2 h ?_⟩
    rw [List.length_cons] at h3
    omega
end Al

/-- what Read leaves -/
def ReadPost (a : Al.Alph) (s : List UInt8) (w : World) (e : Ending) (w' : World) : Prop :=
  ∃ v, e = .returned (.tuple #[v, .int .i64 (Al.readB a s).2.1, .int .i64 (Al.readB a s).2.2]) ∧ w'.ownsRow w.heap.size 3 1 v (Al.readB a s).1.length ((Al.readB a s).1.map (Value.int .i64)) ∧ Below w.heap.size w w'
theorem ReadPost.err {a : Al.Alph} {s : List UInt8} {w w' : World} {e o : Int} (h : Al.readB a s = ([], e, o)) (hb : Below w.heap.size w w') : ReadPost a s w (.returned (.tuple #[.slice none 0 0, .int .i64 e, .int .i64 o])) w' := by
  refine ⟨.slice none 0 0, ?_, ?_, hb⟩
  · rw [h]
  · rw [h]; exact World.ownsRow_nil _ _ _ _

theorem read_results (tmps : Array Value) (w : World) (b4 b5 b6 : Nat) (v4 v5 v6 : Value) (h4 : tmps.getD 4 undef = .pointer (some ⟨b4, 0, none⟩)) (h5 : tmps.getD 5 undef = .pointer (some ⟨b5, 0, none⟩)) (h6 : tmps.getD 6 undef = .pointer (some ⟨b6, 0, none⟩))
    (c4 : w.cell? ⟨b4, 0, none⟩ = some v4) (c5 : w.cell? ⟨b5, 0, none⟩ = some v5) (c6 : w.cell? ⟨b6, 0, none⟩ = some v6) : (results Tryz.f13 tmps).run Tryz.prog w = .ok (.tuple #[v4, v5, v6]) w := by
  have h4' : tmps[4]?.getD undef = .pointer (some ⟨b4, 0, none⟩) := by simpa using h4
  have h5' : tmps[5]?.getD undef = .pointer (some ⟨b5, 0, none⟩) := by simpa using h5
  have h6' : tmps[6]?.getD undef = .pointer (some ⟨b6, 0, none⟩) := by simpa using h6
  simp [results, Tryz.results13, h4', h5', h6', asAddr, go_sem, c4, c5, c6]

theorem read_early {a : Al.Alph} {s : List UInt8} {w w1 : World} {e o : Int} {b4 b5 b6 : Nat} {t4 t5 t6 : TypeId} {u4 u5 u6 : Value} (tmps : Array Value) (hr : Al.readB a s = ([], e, o)) (hb : Below w.heap.size w w1)
    (H4 : Blk w1 b4 t4 #[u4]) (H5 : Blk w1 b5 t5 #[u5]) (H6 : Blk w1 b6 t6 #[u6]) (l4 : w.heap.size ≤ b4) (l5 : b4 < b5) (l6 : b5 < b6)
    (h4 : tmps.getD 4 undef = .pointer (some ⟨b4, 0, none⟩)) (h5 : tmps.getD 5 undef = .pointer (some ⟨b5, 0, none⟩)) (h6 : tmps.getD 6 undef = .pointer (some ⟨b6, 0, none⟩)) :
    ∃ v, (results Tryz.f13 tmps).run Tryz.prog (((w1.setCell ⟨b4, 0, none⟩ (.slice none 0 0)).setCell ⟨b5, 0, none⟩ (.int .i64 e)).setCell ⟨b6, 0, none⟩ (.int .i64 o)) = .ok v (((w1.setCell ⟨b4, 0, none⟩ (.slice none 0 0)).setCell ⟨b5, 0, none⟩ (.int .i64 e)).setCell ⟨b6, 0, none⟩ (.int .i64 o)) ∧
      ReadPost a s w (.returned v) (((w1.setCell ⟨b4, 0, none⟩ (.slice none 0 0)).setCell ⟨b5, 0, none⟩ (.int .i64 e)).setCell ⟨b6, 0, none⟩ (.int .i64 o)) := by
  have z4 := ((H4.set_ 0 (.slice none 0 0)).far (p := ⟨b5, 0, none⟩) (Nat.ne_of_lt l5) (.int .i64 e)).far (p := ⟨b6, 0, none⟩) (Nat.ne_of_lt (Nat.lt_trans l5 l6)) (.int .i64 o)
  have z5 := ((H5.far (p := ⟨b4, 0, none⟩) (Nat.ne_of_gt l5) (.slice none 0 0)).set_ 0 (.int .i64 e)).far (p := ⟨b6, 0, none⟩) (Nat.ne_of_lt l6) (.int .i64 o)
  have z6 := ((H6.far (p := ⟨b4, 0, none⟩) (Nat.ne_of_gt (Nat.lt_trans l5 l6)) (.slice none 0 0)).far (p := ⟨b5, 0, none⟩) (Nat.ne_of_gt l6) (.int .i64 e)).set_ 0 (.int .i64 o)
  refine ⟨_, read_results tmps _ b4 b5 b6 _ _ _ h4 h5 h6 (z4.cell 0) (z5.cell 0) (z6.cell 0), ReadPost.err hr ?_⟩
  exact bel_set (bel_set (bel_set hb l4 _) (Nat.le_trans l4 (Nat.le_of_lt l5)) _) (Nat.le_trans l4 (Nat.le_of_lt (Nat.lt_trans l5 l6))) _

theorem grown_drewN (w : World) (n : Nat) : w.grownBy (w.drewN n) none := ⟨rfl, rfl, rfl, Nat.le_refl _, fun _ _ _ => rfl⟩
/-- what holds between two rounds of Read's loop -/
def ReadI (w : World) (b4 b5 b6 bo bt bi bm : Nat) (s : List UInt8) (pre : List (Nat × Int)) (W : World) : Prop :=
  ((∀ p ∈ pre, (0 : Int) ≤ p.2) ∧ pre.length ≤ 24) ∧ ((∃ v, Boxed W bo 26 v ∧ W.ownsRow bo 3 1 v pre.length (pre.map fun p => Value.int .i64 p.2) ∧ True) ∧
    (Boxed W b4 26 (.slice none 0 0) ∧ (Boxed W b5 32 (.int .i64 0) ∧ (Boxed W b6 3 (.int .i64 0) ∧ (Boxed W bt 9 (.string (bs s)) ∧ (Boxed W bi 67 (.map (some bm)) ∧
      ((∃ es cl, W.heap[bm]? = some (.map es cl)) ∧ Below w.heap.size w W)))))))
/-- what holds where a round has returned -/
def ReadX (w : World) (b4 b5 b6 : Nat) (c : Code) (pre : List (Nat × Int)) (W : World) : Prop :=
  (c = .ret ∧ ∃ (q : List (Nat × Int)) (x : Nat × Int) (er : Int), (pre = q ++ [x] ∧ (∀ p ∈ q, (0 : Int) ≤ p.2) ∧ q.length ≤ 24 ∧ ((x.2 < 0 ∧ er = 3) ∨ (0 ≤ x.2 ∧ q.length = 24 ∧ er = 2))) ∧
    (Boxed W b4 26 (.slice none 0 0) ∧ Boxed W b5 32 (.int .i64 er) ∧ Boxed W b6 3 (.int .i64 (x.1 : Int)))) ∧ Below w.heap.size w W
theorem boxed_kept {W W' : World} {B : Nat} {t : TypeId} {v : Value} {row : Option Nat} (h : Boxed W B t v) (hg : W.grownBy W' row) (hr : ∀ r, row = some r → ∃ o : Obj, W.heap[r]? = some o ∧ o.isCells = false) : Boxed W' B t v :=
  h.kept hg (fun e' => by obtain ⟨o, ho, hc⟩ := hr B e'.symm; rw [show W.heap[B]? = _ from h] at ho; cases ho; cases hc)
theorem readI_own {w : World} {b4 b5 b6 bo bt bi bm : Nat} {s : List UInt8} {B : Nat} (hB : w.heap.size ≤ B) (hm : bm < B) : OwnFrom B (fun pre W => ReadI w b4 b5 b6 bo bt bi bm s pre W) := by
  rintro pre W W' row ⟨h0, ⟨v, h1, h2, _⟩, h3, h4, h5, h6, h7, ⟨es, cl, h8⟩, h9⟩ hg hr
  have hr' : ∀ r, row = some r → ∃ o : Obj, W.heap[r]? = some o ∧ o.isCells = false := fun r e => (hr r e).2
  obtain ⟨v', k1, k2, _⟩ := holdsRow_own bo bo 26 3 1 (fun pre : List (Nat × Int) => pre.length) (fun pre => pre.map fun p => Value.int .i64 p.2) (fun _ _ => True) pre W W' row ⟨v, h1, h2, trivial⟩ hg hr'
  exact ⟨h0, ⟨v', k1, k2, trivial⟩, boxed_kept h3 hg hr', boxed_kept h4 hg hr', boxed_kept h5 hg hr', boxed_kept h6 hg hr', boxed_kept h7 hg hr',
    ⟨es, cl, (hg.block bm (Array.getElem?_eq_some_iff.1 h8).1 (fun e => by have := (hr bm e.symm).1; omega)).trans h8⟩, h9.grown hg h9.size (fun k e => Nat.le_trans hB (hr k e).1)⟩
theorem readX_own {w : World} {b4 b5 b6 : Nat} (c : Code) {B : Nat} (hB : w.heap.size ≤ B) : OwnFrom B (fun pre W => ReadX w b4 b5 b6 c pre W) := by
  rintro pre W W' row ⟨⟨hc, q, x, er, hp, h4, h5, h6⟩, h9⟩ hg hr
  have hr' : ∀ r, row = some r → ∃ o : Obj, W.heap[r]? = some o ∧ o.isCells = false := fun r e => (hr r e).2
  exact ⟨⟨hc, q, x, er, hp, boxed_kept h4 hg hr', boxed_kept h5 hg hr', boxed_kept h6 hg hr'⟩, h9.grown hg h9.size (fun k e => Nat.le_trans hB (hr k e).1)⟩

theorem info_int : (Tryz.prog.info? 3).map (fun i => (i.zero, i.size, i.bytes)) = some (some (.int .i64 0), 1, 8) := by kernel_rfl

set_option maxRecDepth 100000 in
set_option maxHeartbeats 2000000 in
theorem read_any (a : Al.Alph) (A A' : Option Addr) (c c' : Nat) (s : List UInt8) (w : World) (hF : Few a) (hA : StrAt w A a.letters) (hS : IntAt w A' a.small) (hs : s.length ≤ 1000000) :
    Calls Tryz.prog 13 #[alv a A c A' c', .string (bs s)] w (ReadPost a s w) := by
  refine (callsIn_wide (n := 6)).1 ?_
  refine callsIn_of_wp_marks Tryz.func13 rfl trivial ?_ rfl
  simp only [Tryz.ntmps13, List.size_toArray, List.length_cons, List.length_nil, Nat.reduceAdd, Nat.reduceSub, Array.replicate_succ, Array.replicate_zero, List.push_toArray, List.append_toArray, List.nil_append, List.cons_append]
  refine wpIn_wide.2 ?_
  have HFEW := Lib.hid hF
  clear hF
  go_wp2_with fail
  refine (valid_any a A A' c c' _ HFEW.out (hA.bel (bel_alloc (bel_alloc (bel_alloc (bel_alloc (bel_refl w) _) _) _) _)) (hS.bel (bel_alloc (bel_alloc (bel_alloc (bel_alloc (bel_refl w) _) _) _) _))).mono ?_
  rintro e w1 ⟨rfl, hb1⟩
  have hbw : Below w.heap.size w w1 := bel_trans (bel_alloc (bel_alloc (bel_alloc (bel_alloc (bel_refl w) _) _) _) _) hb1
  have hB0 := ((((Blk.new w 28 #[.string (bs a.name), .slice A a.letters.length c, .slice A' a.small.length c']).alloc (.cells #[.slice none 0 0] 26)).alloc (.cells #[.int .i64 0] 32)).alloc (.cells #[.int .i64 0] 3)).bel hb1
  have hB4 := (((Blk.new (w.alloc (.cells #[.string (bs a.name), .slice A a.letters.length c, .slice A' a.small.length c'] 28)) 26 #[.slice none 0 0]).alloc (.cells #[.int .i64 0] 32)).alloc (.cells #[.int .i64 0] 3)).bel hb1
  have hB5 := ((Blk.new ((w.alloc (.cells #[.string (bs a.name), .slice A a.letters.length c, .slice A' a.small.length c'] 28)).alloc (.cells #[.slice none 0 0] 26)) 32 #[.int .i64 0]).alloc (.cells #[.int .i64 0] 3)).bel hb1
  have hB6 := (Blk.new (((w.alloc (.cells #[.string (bs a.name), .slice A a.letters.length c, .slice A' a.small.length c'] 28)).alloc (.cells #[.slice none 0 0] 26)).alloc (.cells #[.int .i64 0] 32)) 3 #[.int .i64 0]).bel hb1
  simp only [World.size_alloc] at hB4 hB5 hB6
  have k0 : w1.cell? ⟨w.heap.size, 0, none⟩ = some (.string (bs a.name)) := hB0.cell 0
  have k1 : w1.cell? ⟨w.heap.size, 1, none⟩ = some (.slice A a.letters.length c) := hB0.cell 1
  have k2 : w1.cell? ⟨w.heap.size, 2, none⟩ = some (.slice A' a.small.length c') := hB0.cell 2
  have k4 : w1.cell? ⟨w.heap.size + 1, 0, none⟩ = some (.slice none 0 0) := hB4.cell 0
  have k5 : w1.cell? ⟨w.heap.size + 1 + 1, 0, none⟩ = some (.int .i64 0) := hB5.cell 0
  have k6 : w1.cell? ⟨w.heap.size + 1 + 1 + 1, 0, none⟩ = some (.int .i64 0) := hB6.cell 0
  have f4 := hB4.frozen 0
  have f5 := hB5.frozen 0
  have f6 := hB6.frozen 0
  have HB0 := Lib.hid hB0
  have HB4 := Lib.hid hB4
  have HB5 := Lib.hid hB5
  have HB6 := Lib.hid hB6
  have HBW := Lib.hid hbw
  have HA := Lib.hid hA
  have HS := Lib.hid hS
  clear hB0 hB4 hB5 hB6 hbw hA hS hb1
  cases hv : Al.validB a
  · have hr : Al.readB a s = ([], 1, 0) := by unfold Al.readB; rw [hv]; rfl
    have HR := Lib.hid hr
    clear hr hv
    go_wp2
    exact read_early _ HR.out HBW.out HB4.out HB5.out HB6.out (by omega) (by omega) (by omega) rfl rfl rfl
  · by_cases hs0 : s = []
    · have hr : Al.readB a s = ([], 6, 0) := by unfold Al.readB Al.readL; rw [hv, hs0]; rfl
      have hse : (bs s).toList = [] := by rw [Lib.toList_data, bs_list]; exact hs0
      have hse2 : (bs s).toList.isEmpty = true := by rw [hse]; rfl
      have HR := Lib.hid hr
      clear hr hv hs0
      go_wp2
      exact read_early _ HR.out HBW.out HB4.out HB5.out HB6.out (by omega) (by omega) (by omega) rfl rfl rfl
    · have hr : Al.readB a s = Al.collect [] (Al.places a.letters (s.length + 1) 0 s) := by unfold Al.readB Al.readL; rw [if_pos hv, if_neg hs0]
      have hfo := Al.valid_formed hv
      have hse2 : (bs s).toList.isEmpty = false := by
        rw [Lib.toList_data, bs_list]
        cases s with
        | nil => exact absurd rfl hs0
        | cons x r => rfl
      have hse3 : ¬ (bs s).toList = [] := by rw [Lib.toList_data, bs_list]; exact hs0
      have HR := Lib.hid hr
      have HFO := Lib.hid hfo
      clear hr hv hs0 hfo
      go_wp2_with fail
      refine (places_any a A A' c c' _ HFEW.out (HA.out.bel HBW.out) (HS.out.bel HBW.out)).mono ?_
      rintro e w2 ⟨hb2, (⟨hf, _⟩ | ⟨_, bm, rfl, hbm, hown⟩)⟩
      · rw [HFO.out] at hf; cases hf
      · have hbw2 := bel_trans HBW.out hb2
        have HBW2 := Lib.hid hbw2
        have hg4 := HB4.out.bel hb2
        have hg5 := HB5.out.bel hb2
        have hg6 := HB6.out.bel hb2
        have hbml := hown.lt
        have HG4 := Lib.hid hg4
        have HG5 := Lib.hid hg5
        have HG6 := Lib.hid hg6
        have HOWN := Lib.hid hown
        have hszw := HB6.out.lt
        have hsz2 := hb2.size
        clear hb2 hown hg4 hg5 hg6 hbw2 HBW HA HS k0 k1 k2 k4 k5 k6 f4 f5 f6 HB0 HB4 HB5 HB6
        go_wp2_with fail
        refine (letters_any bm (bs s) _).mono ?_
        rintro e w' ⟨rfl, rfl⟩
        go_wp2
        have ho := (((Blk.new w2 26 #[.slice none 0 0]).alloc (.cells #[.map (some bm)] 67)).alloc (.cells #[.string (bs s)] 9))
        have hi := ((Blk.new (w2.alloc (.cells #[.slice none 0 0] 26)) 67 #[.map (some bm)]).alloc (.cells #[.string (bs s)] 9))
        have ht := (Blk.new ((w2.alloc (.cells #[.slice none 0 0] 26)).alloc (.cells #[.map (some bm)] 67)) 9 #[.string (bs s)])
        have h4 := ((HG4.out.alloc (.cells #[.slice none 0 0] 26)).alloc (.cells #[.map (some bm)] 67)).alloc (.cells #[.string (bs s)] 9)
        have h5 := ((HG5.out.alloc (.cells #[.slice none 0 0] 26)).alloc (.cells #[.map (some bm)] 67)).alloc (.cells #[.string (bs s)] 9)
        have h6 := ((HG6.out.alloc (.cells #[.slice none 0 0] 26)).alloc (.cells #[.map (some bm)] 67)).alloc (.cells #[.string (bs s)] 9)
        have hm := ((HOWN.out.alloc (.cells #[.slice none 0 0] 26)).alloc (.cells #[.map (some bm)] 67)).alloc (.cells #[.string (bs s)] 9)
        have hbl := bel_alloc (bel_alloc (bel_alloc HBW2.out (.cells #[.slice none 0 0] 26)) (.cells #[.map (some bm)] 67)) (.cells #[.string (bs s)] 9)
        have hz3 : (((w2.alloc (.cells #[.slice none 0 0] 26)).alloc (.cells #[.map (some bm)] 67)).alloc (.cells #[.string (bs s)] 9)).heap.size = w2.heap.size + 3 := by simp
        simp only [World.size_alloc] at hi ht
        generalize ((w2.alloc (.cells #[.slice none 0 0] 26)).alloc (.cells #[.map (some bm)] 67)).alloc (.cells #[.string (bs s)] 9) = W3 at *
        clear HG4 HG5 HG6 HOWN HBW2
        generalize ebt : w2.heap.size + 1 + 1 = bt at *
        generalize ebi : w2.heap.size + 1 = bi at *
        generalize ebo : w2.heap.size = bo at *
        generalize eb6 : w.heap.size + 1 + 1 + 1 = b6 at *
        generalize eb5 : w.heap.size + 1 + 1 = b5 at *
        generalize eb4 : w.heap.size + 1 = b4 at *
        generalize eb0 : w.heap.size = b0 at *
        obtain ⟨PL, hPL⟩ : ∃ PL, PL = Al.places a.letters (s.length + 1) 0 s := ⟨_, rfl⟩
        have hrd := HR.out
        rw [← hPL] at hrd
        have HRD := Lib.hid hrd
        have HPL := Lib.hid hPL
        have hseq : SeqStopsK Fence.wide (6 - 1) Tryz.prog 65 #[.pointer (some ⟨bt, 0, none⟩), .pointer (some ⟨bi, 0, none⟩)] encP (Keep bt bi bm) (fun ys => ys = PL) (fun pre => pre <+: PL) PL.length W3 := fun l J Jx W hW hJ _ hY h0 =>
          letters_in (6 - 1) (by omega) l bt bi bm a.letters (Al.formed_noTwice HFO.out) s hs J Jx PL HPL.out hY (fun pre W k hj => hJ pre W _ none hj (grown_drewN W k) (fun r e => by cases e)) W
            ((⟨ht.cell 0, hi.cell 0, hm⟩ : Lay W3 bt bi bm a.letters s).keep ⟨hW.block bt (by omega), hW.block bi (by omega), hW.block bm (by omega)⟩) h0
        have HSEQ := Lib.hid hseq
        clear hrd hPL hseq HR HPL
        have hrowi := info_parts info_int
        obtain ⟨i0, hi0, hz0, hz1, hz2⟩ := hrowi
        have HO := Lib.hid ho
        have HI := Lib.hid hi
        have HT := Lib.hid ht
        have H4 := Lib.hid h4
        have H5 := Lib.hid h5
        have H6 := Lib.hid h6
        have HM := Lib.hid hm
        have HBL := Lib.hid hbl
        clear ho hi ht h4 h5 h6 hm hbl
        refine (wpIn_wide (n := 6)).1 ?_
        refine wpIn_rangeFunc_ownG (F := Fence.wide) rfl (by omega) (gf := 65) (lb := #[.pointer (some ⟨bt, 0, none⟩), .pointer (some ⟨bi, 0, none⟩)]) rfl trivial (enters_of Tryz.func65 (by kernel_rfl) rfl)
          HSEQ.out (fun h k => h.trans k) (fun W l o o' hl hlo _ _ => ⟨World.putObj_heap_other (by omega), World.putObj_heap_other (by omega), World.putObj_heap_other (by omega)⟩) (Below.refl _ _) (fun _ => rfl)
          (fun pre W => ReadI w b4 b5 b6 bo bt bi bm s pre W)
          (fun cc pre W => ReadX w b4 b5 b6 cc pre W)
          (readI_own (by omega) (by omega)) (fun cc => readX_own cc (by omega))
          ⟨⟨by simp, by simp⟩, ⟨_, HO.out, World.ownsRow_nil _ _ _ _, trivial⟩, H4.out, H5.out, H6.out, HT.out, HI.out, ⟨HM.out.choose, HM.out.choose_spec.choose, HM.out.choose_spec.choose_spec.1⟩, by rw [eb0]; exact HBL.out⟩
          (fun x : Nat × Int => { tmps := #[alv a A c A' c', .string (bs s), .pointer (some ⟨b0, 0, none⟩), undef, .pointer (some ⟨b4, 0, none⟩), .pointer (some ⟨b5, 0, none⟩), .pointer (some ⟨b6, 0, none⟩), .map (some bm), .bool true, .pointer (some ⟨bo, 0, none⟩), .int .i64 (x.1 : Int), .int .i64 x.2, .agg #[.string (bs a.name), .slice A a.letters.length c, .slice A' a.small.length c'], .bool true, .bool false, .string (bs s), .bool false, .tuple #[.map (some bm), .bool true], .agg #[.string (bs a.name), .slice A a.letters.length c, .slice A' a.small.length c'], .tuple #[.map (some bm), .bool true], .map (some bm), .bool true, .map (some bm), .string (bs s), .func (.func 65) #[] #[.pointer (some ⟨bt, 0, none⟩), .pointer (some ⟨bi, 0, none⟩)], .int .i64 (x.1 : Int), .int .i64 x.2, undef, undef, undef, undef, undef, undef, undef, undef, undef, undef, undef, undef, undef, undef], defers := [] }) ?assign ?body ?done ?stop
        case assign =>
          intro l x W K hK
          gi_wp2
          exact hK
        case body =>
          rintro l pre x W ⟨⟨hnn, hle⟩, ⟨v, hv, hrow, _⟩, q4, q5, q6, qt, qi, ⟨es, cl, qm⟩, qb⟩ hlen
          obtain ⟨xa, xk⟩ := x
          obtain ⟨Ao, co, rfl⟩ := slice_of_row hrow
          dsimp only
          have co0 := hv.cell
          have co1 := hv.frozen
          have c4 := q4.cell
          have c5 := q5.cell
          have c6 := q6.cell
          have g4 := q4.frozen
          have g5 := q5.frozen
          have g6 := q6.frozen
          have hle' : (pre.length : Int) ≤ 24 := by omega
          have hsW := qb.size
          have hboW : bo ≤ W.heap.size := Nat.le_of_lt hv.lt
          have HV := Lib.hid hv
          have HROW := Lib.hid hrow
          have HNN := Lib.hid hnn
          have Q4 := Lib.hid q4
          have Q5 := Lib.hid q5
          have Q6 := Lib.hid q6
          have QT := Lib.hid qt
          have QI := Lib.hid qi
          have QM := Lib.hid qm
          have QB := Lib.hid qb
          clear hv hrow hnn q4 q5 q6 qt qi qm qb hlen
          by_cases hk : xk < 0
          · gi_wp2
            exact ⟨((((KeepsOthers.setCell _ _ _).trans (KeepsOthers.setCell _ _ _)).trans (KeepsOthers.setCell _ _ _))).from _, ⟨rfl, pre, (xa, xk), 3, ⟨rfl, HNN.out, hle, .inl ⟨hk, rfl⟩⟩, ((Q4.out.set _).other (by omega) _).other (by omega) _, ((Q5.out.other (by omega) _).set _).other (by omega) _, ((Q6.out.other (by omega) _).other (by omega) _).set _⟩, bel_set (bel_set (bel_set QB.out (by dsimp only; omega) _) (by dsimp only; omega) _) (by dsimp only; omega) _⟩
          · by_cases h24 : pre.length = 24
            · have h24' : ((pre.length : Int) == 24) = true := by rw [beq_iff_eq]; omega
              gi_wp2
              exact ⟨((((KeepsOthers.setCell _ _ _).trans (KeepsOthers.setCell _ _ _)).trans (KeepsOthers.setCell _ _ _))).from _, ⟨rfl, pre, (xa, xk), 2, ⟨rfl, HNN.out, hle, .inr ⟨by show 0 ≤ xk; omega, h24, rfl⟩⟩, ((Q4.out.set _).other (by omega) _).other (by omega) _, ((Q5.out.other (by omega) _).set _).other (by omega) _, ((Q6.out.other (by omega) _).other (by omega) _).set _⟩, bel_set (bel_set (bel_set QB.out (by dsimp only; omega) _) (by dsimp only; omega) _) (by dsimp only; omega) _⟩
            · have h24' : ((pre.length : Int) == 24) = false := by rw [beq_eq_false_iff_ne]; omega
              gi_wp2_with (gi_at_builtin; refine wpListIn_append_own _ rfl _ _ 26 rfl bo 3 i0 (.int .i64 0) 1 8 Tryz.underlying26 hi0 hz0 hz1 hz2 rfl (by decide) _ _ _ rfl (HROW.out.alloc _) ⟨W.heap.size, 0, none⟩ 1 1 [.int .i64 xk] rfl rfl (cell_one_new _ _ _) (by simp [Value.oneCell']) (by unfold maxLen; omega) (by omega) (by simp; omega) ?_; intro v' w5 hown' hgrow _; obtain ⟨g', cap', rfl⟩ := ownsRow_succ hown'; obtain ⟨hv1, hv2, hr2, hk2, hb2⟩ := HV.out.appended (by decide) HROW.out hboW (Nat.le_refl _) hown' hgrow; have hc1 := hv1.cell; have hf1 := hv1.frozen)
              have hnr : ∀ k, k < bo → some k ≠ (Value.slice Ao pre.length co).ownBlock := fun k hk e => by have := owns_block HROW.out k e.symm; omega
              have e4 := ((Q4.out.alloc (.cells #[.int .i64 xk] 3)).kept hgrow (hnr _ (by omega))).other (B' := bo) (by omega) (.slice (some ⟨g', 0, none⟩) (pre.length + 1) cap')
              have e5 := ((Q5.out.alloc (.cells #[.int .i64 xk] 3)).kept hgrow (hnr _ (by omega))).other (B' := bo) (by omega) (.slice (some ⟨g', 0, none⟩) (pre.length + 1) cap')
              have e6 := ((Q6.out.alloc (.cells #[.int .i64 xk] 3)).kept hgrow (hnr _ (by omega))).other (B' := bo) (by omega) (.slice (some ⟨g', 0, none⟩) (pre.length + 1) cap')
              have et := ((QT.out.alloc (.cells #[.int .i64 xk] 3)).kept hgrow (QT.out.not_row (by decide) HROW.out)).other (B' := bo) (by omega) (.slice (some ⟨g', 0, none⟩) (pre.length + 1) cap')
              have ei := ((QI.out.alloc (.cells #[.int .i64 xk] 3)).kept hgrow (QI.out.not_row (by decide) HROW.out)).other (B' := bo) (by omega) (.slice (some ⟨g', 0, none⟩) (pre.length + 1) cap')
              have em := hk2.same bm _ QM.out rfl
              refine ⟨hk2.from _, ⟨(show _ = _ from et).trans (show _ = _ from QT.out).symm, (show _ = _ from ei).trans (show _ = _ from QI.out).symm, em.trans QM.out.symm⟩, ⟨⟨?_, ?_⟩, ⟨_, hv2, ?_, trivial⟩, e4, e5, e6, et, ei, ⟨es, cl, em⟩, QB.out.trans (hb2.mono (by omega))⟩⟩
              · intro p hp
                rcases List.mem_append.1 hp with hp | hp
                · exact HNN.out p hp
                · obtain rfl := List.mem_singleton.1 hp
                  show 0 ≤ xk
                  omega
              · rw [List.length_append]; simp only [List.length_cons, List.length_nil]; omega
              · rw [List.map_append, List.length_append]
                exact hr2
        case done =>
          rintro D ys W hD rfl ⟨⟨hnn, hle⟩, ⟨v, hv, hrow, _⟩, q4, q5, q6, qt, qi, qm, qb⟩ hK
          have hcol := Al.collect_all ys [] hnn (by simpa using hle)
          rw [List.nil_append] at hcol
          have hfin := HRD.out.trans hcol
          have HFIN := Lib.hid hfin
          dsimp only
          have co0 := hv.cell
          have c4 := q4.cell
          have c5 := q5.cell
          have c6 := q6.cell
          have g4 := q4.frozen
          have g5 := q5.frozen
          have g6 := q6.frozen
          have HV := Lib.hid hv
          have HROW := Lib.hid hrow
          have Q4 := Lib.hid q4
          have Q5 := Lib.hid q5
          have Q6 := Lib.hid q6
          have QB := Lib.hid qb
          have HK := Lib.hid hK
          obtain ⟨Ao, co, rfl⟩ := slice_of_row hrow
          clear hv hrow hnn q4 q5 q6 qt qi qm qb hcol hfin hK
          go_wp2
          have hK' : (((W.setCell ⟨b4, 0, none⟩ (.slice Ao ys.length co)).setCell ⟨b5, 0, none⟩ (.int .i64 0)).setCell ⟨b6, 0, none⟩ (.int .i64 0)).heap[D]? = some (.deferred (some [])) := (((KeepsOthers.setCell _ _ _).trans (KeepsOthers.setCell _ _ _)).trans (KeepsOthers.setCell _ _ _)).same D _ HK.out rfl
          refine ⟨by simp, .inl ⟨D, _, rfl, run_takeDeferred hK', ?_⟩⟩
          have z4 := boxed_kept (((Q4.out.set (.slice Ao ys.length co)).other (B' := b5) (by omega) (.int .i64 0)).other (B' := b6) (by omega) (.int .i64 0)) (grownBy_putObj' _ D (.deferred none)) (fun r e => by cases e; exact ⟨_, hK', rfl⟩)
          have z5 := boxed_kept (((Q5.out.other (B' := b4) (by omega) (.slice Ao ys.length co)).set (.int .i64 0)).other (B' := b6) (by omega) (.int .i64 0)) (grownBy_putObj' _ D (.deferred none)) (fun r e => by cases e; exact ⟨_, hK', rfl⟩)
          have z6 := boxed_kept (((Q6.out.other (B' := b4) (by omega) (.slice Ao ys.length co)).other (B' := b5) (by omega) (.int .i64 0)).set (.int .i64 0)) (grownBy_putObj' _ D (.deferred none)) (fun r e => by cases e; exact ⟨_, hK', rfl⟩)
          have hnr : ∀ k, k < bo → (Value.slice Ao ys.length co).ownBlock ≠ some k := fun k hk e => by have := owns_block HROW.out k e; omega
          have hrow4 := ownsRow_putObj (((HROW.out.kept (grownBy_setCell' W b4 (.slice Ao ys.length co)) (.inr (hnr _ (by omega)))).kept (grownBy_setCell' _ b5 (.int .i64 0)) (.inr (hnr _ (by omega)))).kept (grownBy_setCell' _ b6 (.int .i64 0)) (.inr (hnr _ (by omega)))) (.deferred none) hK' rfl
          have hbelow := bel_set (bel_set (bel_set QB.out (p := ⟨b4, 0, none⟩) (by dsimp only; omega) (.slice Ao ys.length co)) (p := ⟨b5, 0, none⟩) (by dsimp only; omega) (.int .i64 0)) (p := ⟨b6, 0, none⟩) (by dsimp only; omega) (.int .i64 0)
          refine ⟨_, read_results _ _ b4 b5 b6 _ _ _ rfl rfl rfl z4.cell z5.cell z6.cell, .slice Ao ys.length co, ?_, ?_, hbelow.grown (grownBy_putObj' _ D _) hbelow.size (fun k e => by cases e; omega)⟩
          · rw [HFIN.out]
          · rw [HFIN.out]
            refine owns_mono ?_ (show w.heap.size ≤ bo by omega)
            rw [List.length_map, List.map_map]
            exact hrow4
        case stop =>
          rintro D cc pre W hD hpre ⟨⟨rfl, q, x, er, ⟨rfl, hnn, hle, hwhy⟩, q4, q5, q6⟩, qb⟩ hK
          have hfin : Al.readB a s = ([], er, (x.1 : Int)) := by
            obtain ⟨r, hr⟩ := hpre
            rw [HRD.out, ← hr, List.append_assoc]
            have := Al.collect_stop x r q [] hnn (by simpa using hle)
            rcases hwhy with ⟨h1, rfl⟩ | ⟨h1, h2, rfl⟩
            · exact this.1 h1
            · exact this.2 h1 (by simpa using h2)
          have HFIN := Lib.hid hfin
          dsimp only
          have Q4 := Lib.hid q4
          have Q5 := Lib.hid q5
          have Q6 := Lib.hid q6
          have QB := Lib.hid qb
          have HK := Lib.hid hK
          clear q4 q5 q6 qb hfin hK
          gi_wp2
          go_wp2
          refine ⟨by simp, .inl ⟨D, _, rfl, run_takeDeferred HK.out, ?_⟩⟩
          have z4 := boxed_kept Q4.out (grownBy_putObj' _ D (.deferred none)) (fun r e => by cases e; exact ⟨_, HK.out, rfl⟩)
          have z5 := boxed_kept Q5.out (grownBy_putObj' _ D (.deferred none)) (fun r e => by cases e; exact ⟨_, HK.out, rfl⟩)
          have z6 := boxed_kept Q6.out (grownBy_putObj' _ D (.deferred none)) (fun r e => by cases e; exact ⟨_, HK.out, rfl⟩)
          exact ⟨_, read_results _ _ b4 b5 b6 _ _ _ rfl rfl rfl z4.cell z5.cell z6.cell, ReadPost.err HFIN.out (QB.out.grown (grownBy_putObj' _ D _) QB.out.size (fun k e => by cases e; omega))⟩
end Go.Proofs.YtldnfdghkdibmaaGreatDoor

/-
  Lists of tokens: all, Alike and Same, where they answer yes.
-/
import Derived.Test.YtpnenbodmonkiaaDoorLawPlaces
set_option linter.unusedVariables false
namespace Go.Proofs.YtpnenbodmonkiaaDoor
open Go.RowKit
attribute [local go_sem] alloc_drewN setCell_drewN setRow_drewN Later.cell Later.frozen wrap64_nat wrap64_add wrap64_succ

/-- a slice that reads as these tokens -/
def TokAt (w : World) (A : Option Addr) (l : List Lx.Tok) : Prop :=
  0 < l.length → ∃ g off, A = some ⟨g, off, none⟩ ∧ g < w.heap.size ∧ ∀ j u, (tokCells l)[j]? = some u → w.cell? ⟨g, off + j, none⟩ = some u
theorem TokAt.bel {w w' : World} {A : Option Addr} {l : List Lx.Tok} (h : TokAt w A l) (hb : Below w.heap.size w w') : TokAt w' A l := fun hl => by
  obtain ⟨g, off, h1, h2, h3⟩ := h hl
  exact ⟨g, off, h1, Nat.lt_of_lt_of_le h2 hb.size, fun j u hu => (hb.cell (p := ⟨g, off + j, none⟩) h2).trans (h3 j u hu)⟩
theorem TokAt.of_row {w : World} {base : Nat} {A : Option Addr} {n c : Nat} {l : List Lx.Tok} (h : TokRow w base (.slice A n c) l) : TokAt w A l := fun hl => by
  obtain ⟨g, h1, h2, h3, h4⟩ := h.cells hl
  exact ⟨g, 0, h1, h3, fun j u hu => by rw [Nat.zero_add]; exact h4 j u hu⟩
theorem TokAt.tok {w : World} {A : Option Addr} {l : List Lx.Tok} (h : TokAt w A l) (j : Nat) (t : Lx.Tok) (hj : l[j]? = some t) :
    ∃ g off, A = some ⟨g, off, none⟩ ∧ g < w.heap.size ∧ w.cell? ⟨g, off + j * 4, none⟩ = some (.int .i64 t.kind) ∧ w.cell? ⟨g, off + j * 4 + 1, none⟩ = some (.int .i64 t.pos) ∧
      w.cell? ⟨g, off + j * 4 + 2, none⟩ = some (.int .i64 t.n) ∧ w.cell? ⟨g, off + j * 4 + 3, none⟩ = some (.string (bs t.text)) := by
  have hlt := (List.getElem?_eq_some_iff.1 hj).1
  obtain ⟨g, off, h1, h2, h4⟩ := h (by omega)
  exact ⟨g, off, h1, h2, h4 (j * 4 + 0) _ (tok_cell l j t hj 0 (by omega)), h4 _ _ (tok_cell l j t hj 1 (by omega)), h4 _ _ (tok_cell l j t hj 2 (by omega)), h4 _ _ (tok_cell l j t hj 3 (by omega))⟩

set_option maxRecDepth 100000 in
set_option maxHeartbeats 2000000 in
theorem alike_true (A B : Option Addr) (c c' : Nat) (a b : List Lx.Tok) (w : World) (ha : TokAt w A a) (hb : TokAt w B b) (hl : Lx.Likes a b) (hlen : a.length ≤ 100000) :
    Calls Tryd.prog 19 #[.slice A a.length c, .slice B b.length c'] w fun e w' => e = .returned (.bool true) ∧ ∃ n, w' = w.drewN n := by
  have hll := hl.1
  rw [← hll]
  have HL := Lib.hid hl
  clear hl
  have HLL := Lib.hid hll
  clear hll
  go_enter Tryd.func19, Tryd.ntmps19
  go_wp2
  go_loopw [5] (fun i wr => ∃ k n : Nat, i = .int .i64 k ∧ k ≤ a.length ∧ wr = w.drewN n) (fun i _ => a.length - (intOf i).toNat)
  case atStart => exact ⟨0, 0, rfl, Nat.zero_le _, rfl⟩
  case round =>
    obtain ⟨k, n, rfl, hk, rfl⟩ := hrel
    by_cases hlt : k < a.length
    · have hx : a[k]? = some a[k] := List.getElem?_eq_getElem hlt
      have hlt2 : k < b.length := by rw [← HLL.out]; exact hlt
      have hy : b[k]? = some b[k] := List.getElem?_eq_getElem hlt2
      obtain ⟨g, off, rfl, hg, a0, a1, a2, a3⟩ := ha.tok k _ hx
      obtain ⟨g', off', rfl, hg', b0, b1, b2, b3⟩ := hb.tok k _ hy
      obtain ⟨l1, l2, l3⟩ := HL.out.2 k _ _ hx hy
      rw [← l1] at b0
      rw [← l2] at b2
      rw [← l3] at b3
      clear l1 l2 l3 hx hy
      generalize a[k] = x at *
      generalize b[k] = y at *
      have e1 : (x.kind != x.kind) = false := by simp
      have e2 : (x.n != x.n) = false := by simp
      go_wp2
      go_quiet (fail)
      go_wp2
      go_roundw
      case rel => exact ⟨k + 1, _, by go_num, by omega, rfl⟩
      case measure => simp [intOf]; omega
    · go_wp2
      go_ret
      exact ⟨rfl, _, rfl⟩

set_option maxRecDepth 100000 in
set_option maxHeartbeats 2000000 in
theorem same_true (A B : Option Addr) (c c' d : Nat) (a b : List Lx.Tok) (w : World) (ha : TokAt w A a) (hb : TokAt w B b) (hl : b = a.map fun t => { t with pos := t.pos + d }) (hlen : a.length ≤ 100000)
    (hpos : ∀ (j : Nat) (t : Lx.Tok), a[j]? = some t → ∃ p : Nat, t.pos = p ∧ p + d ≤ 1000000) :
    Calls Tryd.prog 14 #[.slice A a.length c, .int .i64 d, .slice B b.length c'] w fun e w' => e = .returned (.bool true) ∧ Below w.heap.size w w' := by
  have hll : b.length = a.length := by rw [hl]; simp
  rw [hll]
  have HL := Lib.hid hl
  clear hl
  have HLL := Lib.hid hll
  clear hll
  have htg := tok_guard
  have htn := tok_neq
  go_enter Tryd.func14, Tryd.ntmps14
  go_wp2
  go_loopw [7] (fun i wr => ∃ k : Nat, i = .int .i64 k ∧ k ≤ a.length ∧ Below w.heap.size w wr) (fun i _ => a.length - (intOf i).toNat)
  case atStart => exact ⟨0, rfl, Nat.zero_le _, bel_refl _⟩
  case round =>
    obtain ⟨k, rfl, hk, hbr⟩ := hrel
    have HBR := Lib.hid hbr
    clear hbr
    by_cases hlt : k < a.length
    · have hx : a[k]? = some a[k] := List.getElem?_eq_getElem hlt
      have hy : b[k]? = some { a[k] with pos := a[k].pos + d } := by rw [HL.out, List.getElem?_map, hx]; rfl
      obtain ⟨g, off, rfl, hg, a0, a1, a2, a3⟩ := ha.tok k _ hx
      obtain ⟨g', off', rfl, hg', b0, b1, b2, b3⟩ := hb.tok k _ hy
      obtain ⟨p, hp, hp2⟩ := hpos k _ hx
      clear hx hy
      generalize a[k] = x at *
      obtain ⟨xk, xp, xn, xt⟩ := x
      simp only [] at hp a0 a1 a2 a3 b0 b1 b2 b3
      subst hp
      have hgr : g < wr.heap.size := Nat.lt_of_lt_of_le hg HBR.out.size
      have hgr' : g' < wr.heap.size := Nat.lt_of_lt_of_le hg' HBR.out.size
      have c0 := (HBR.out.cell (p := ⟨g, off + k * 4, none⟩) hg).trans a0
      have c1 := (HBR.out.cell (p := ⟨g, off + k * 4 + 1, none⟩) hg).trans a1
      have c2 := (HBR.out.cell (p := ⟨g, off + k * 4 + 2, none⟩) hg).trans a2
      have c3 := (HBR.out.cell (p := ⟨g, off + k * 4 + 3, none⟩) hg).trans a3
      have d0 := (HBR.out.cell (p := ⟨g', off' + k * 4, none⟩) hg').trans b0
      have d1 := (HBR.out.cell (p := ⟨g', off' + k * 4 + 1, none⟩) hg').trans b1
      have d2 := (HBR.out.cell (p := ⟨g', off' + k * 4 + 2, none⟩) hg').trans b2
      have d3 := (HBR.out.cell (p := ⟨g', off' + k * 4 + 3, none⟩) hg').trans b3
      clear a0 a1 a2 a3 b0 b1 b2 b3
      have hself := tokB_self xk ((p : Int) + (d : Int)) xn (bs xt)
      have hpd : p + d ≤ 9223372036854775807 := by omega
      have HPOS := Lib.hid hpos
      go_wp2
      go_quiet (fail)
      go_wp2
      go_roundw
      case rel => exact ⟨k + 1, by go_num, by omega, bel_drewN (bel_alloc HBR.out _) _⟩
      case measure => simp [intOf]; omega
    · go_wp2
      go_ret
      exact ⟨rfl, HBR.out⟩

theorem allText_append (a b : List Lx.Tok) : Lx.allText (a ++ b) = Lx.allText a ++ Lx.allText b := by simp [Lx.allText]
theorem allText_take (a : List Lx.Tok) (k : Nat) (h : k < a.length) : Lx.allText (a.take (k + 1)) = Lx.allText (a.take k) ++ (a[k].written ++ [32]) := by
  rw [List.take_add_one, List.getElem?_eq_getElem h, allText_append]
  simp [Lx.allText]
theorem allText_le (a : List Lx.Tok) (k : Nat) : (Lx.allText (a.take k)).length ≤ (Lx.allText a).length := by
  have h := allText_append (a.take k) (a.drop k)
  rw [List.take_append_drop] at h
  rw [h, List.length_append]
  omega

set_option maxRecDepth 100000 in
set_option maxHeartbeats 2000000 in
theorem all_any (A : Option Addr) (c : Nat) (a : List Lx.Tok) (w : World) (ha : TokAt w A a) (hlen : a.length ≤ 100000) (hsz : (Lx.allText a).length ≤ 100000000) :
    Calls Tryd.prog 18 #[.slice A a.length c] w fun e w' => e = .returned (.string (bs (Lx.allText a))) ∧ Below w.heap.size w w' := by
  go_enter Tryd.func18, Tryd.ntmps18
  go_wp2
  go_loopw [3, 4] (fun s i wr => ∃ k : Nat, i = .int .i64 k ∧ s = .string (bs (Lx.allText (a.take k))) ∧ k ≤ a.length ∧ Below w.heap.size w wr) (fun _ i _ => a.length - (intOf i).toNat)
  case atStart => exact ⟨0, rfl, rfl, Nat.zero_le _, bel_refl _⟩
  case round =>
    obtain ⟨k, rfl, rfl, hk, hbr⟩ := hrel
    have HBR := Lib.hid hbr
    clear hbr
    by_cases hlt : k < a.length
    · have hx : a[k]? = some a[k] := List.getElem?_eq_getElem hlt
      obtain ⟨g, off, rfl, hg, a0, a1, a2, a3⟩ := ha.tok k _ hx
      have hstep := allText_take a k hlt
      have hle := allText_le a (k + 1)
      rw [hstep] at hle
      have tl := Lx.text_le a[k]
      clear hx
      generalize a[k] = x at *
      have hgr : g < wr.heap.size := Nat.lt_of_lt_of_le hg HBR.out.size
      have c0 := (HBR.out.cell (p := ⟨g, off + k * 4, none⟩) hg).trans a0
      have c1 := (HBR.out.cell (p := ⟨g, off + k * 4 + 1, none⟩) hg).trans a1
      have c2 := (HBR.out.cell (p := ⟨g, off + k * 4 + 2, none⟩) hg).trans a2
      have c3 := (HBR.out.cell (p := ⟨g, off + k * 4 + 3, none⟩) hg).trans a3
      clear a0 a1 a2 a3
      generalize Lx.allText (a.take k) = S at *
      obtain ⟨xk, xp, xn, xt⟩ := x
      simp only [] at tl c0 c1 c2 c3
      obtain ⟨W, hW⟩ : ∃ W, Lx.Tok.written ⟨xk, xp, xn, xt⟩ = W := ⟨_, rfl⟩
      rw [hW] at tl hle hstep
      have HW := Lib.hid hW
      have HST := Lib.hid hstep
      clear hW hstep
      have hle2 : S.length + (W.length + 1) ≤ 100000000 := by
        have h1 : (S ++ (W ++ [32])).length = S.length + (W.length + 1) := by simp
        omega
      clear hle
      go_wp2_with fail
      refine (written_w xk xp xn xt W HW.out _ (by omega)).mono ?_
      rintro e w2 ⟨rfl, hb2⟩
      have HB2 := Lib.hid hb2
      clear hb2
      go_wp2
      go_roundw
      case rel =>
        refine ⟨k + 1, by go_num, ?_, by omega, bel_trans HBR.out HB2.out⟩
        rw [HST.out, app_bs, app_bs]
        rfl
      case measure => simp [intOf]; omega
    · have hka : a.take k = a := List.take_of_length_le (by omega)
      rw [hka]
      clear hka
      go_wp2
      go_ret
      exact ⟨rfl, HBR.out⟩
end Go.Proofs.YtpnenbodmonkiaaDoor

/-
  Layer 11: Parse: what it returns.
-/
import Derived.Test.YtldnfdghkdibmaaGreatDoorRuU
set_option linter.unusedVariables false
namespace Go.Proofs.YtldnfdghkdibmaaGreatDoor
open Go.RowKit
open R
attribute [local go_sem] alloc_drewN setCell_drewN setRow_drewN
theorem rules_any (ts : List Rul.TP) (e : Int) (g : Nat) (ty : TypeId) (A : Option Addr) (c n : Nat) (hn : n = ts.length) (w : World) (S : Nat → Prop) (hS : ∀ k, S k → k < w.heap.size) (hg : ¬ S g) (hb : Blk w g ty #[.slice A n c, .int .i64 e]) (hr : Kd.Rep w S (.sl kTok) ts (.slice A n c)) (hs : smallT (ts, e)) :
    Calls Tryz.prog 43 #[.pointer (some ⟨g, 0, none⟩)] w fun x w' => w.grownBy w' (some g) ∧
      ((∃ r v, rulesP (ts, e) = .ok r ∧ x = .returned v ∧ (CK.comp ckRules r).Rep (Cx.of fun k => S k ∨ (w.heap.size ≤ k ∧ k < w'.heap.size)) w' v) ∨
       ∃ a b, rulesP (ts, e) = .error (a, b) ∧ x = .panicked [{ v := .iface 90 (.agg #[.int .i64 a, .int .i64 b]), recovered := false }]) := by
  subst hn
  have := rules_holds.2 (ts, e) () g ty #[.slice A ts.length c, .int .i64 e] [] w S hS hg hb ⟨rfl, fun i c hc => ?_, fun i v hv => ?_⟩ hs ⟨rfl, fun i c h => by cases h⟩
  · refine Calls.mono this ?_
    rintro x w' ⟨hgr, h⟩
    refine ⟨hgr, ?_⟩
    rcases h with ⟨hn, v, ty', us', rfl, hv, _⟩ | ⟨_, y, v, hy, rfl, hv⟩
    · left
      have hn : panE (rulesP (ts, e)) = none := hn rfl
      cases hx : rulesP (ts, e) with
      | error x => rw [hx] at hn; cases hn
      | ok r =>
        refine ⟨r, v, rfl, rfl, ?_⟩
        have hv : (CK.comp ckRules (resE ([], [], []) id (rulesP (ts, e)))).Rep _ w' v := hv
        rw [hx] at hv
        exact hv
    · right
      have hy : panE (rulesP (ts, e)) = some y := hy
      cases hx : rulesP (ts, e) with
      | ok r => rw [hx] at hy; cases hy
      | error x =>
        rw [hx] at hy
        injection hy with hy
        subst hy
        obtain ⟨a, b⟩ := x
        refine ⟨a, b, rfl, ?_⟩
        obtain ⟨us, rfl, hl, hu⟩ := hv
        obtain ⟨u0, e0, r0⟩ := hu 0 ⟨.int .i64, a⟩ rfl
        obtain ⟨u1, e1, r1⟩ := hu 1 ⟨.int .i64, b⟩ rfl
        obtain rfl : u0 = .int .i64 a := r0
        obtain rfl : u1 = .int .i64 b := r1
        have hl : us.length = 2 := hl
        match us, hl with
        | [p, q], _ =>
          injection e0 with e0
          injection e1 with e1
          have e0 : p = _ := e0
          have e1 : q = _ := e1
          subst e0; subst e1
          rfl
  · match i, hc with
    | 0, hc => injection hc with hc; subst hc; exact ⟨_, rfl, hr⟩
    | 1, hc => injection hc with hc; subst hc; exact ⟨_, rfl, rfl⟩
  · match i, hv with
    | 0, hv => injection hv with hv; subst hv; rfl
    | 1, hv => injection hv with hv; subst hv; rfl
theorem rules_info : (Tryz.prog.info? 24).map (·.size) = some 3 := by kernel_rfl
theorem parse_res (tm : Array Value) (W : World) (b : Nat) (t0 t1 t2 : TypeId) (V : Array Value) (e a : Int) (hV : V.size = 3) (p2 : tm[2]?.getD undef = .pointer (some ⟨b, 0, none⟩)) (p3 : tm[3]?.getD undef = .pointer (some ⟨b + 1, 0, none⟩)) (p4 : tm[4]?.getD undef = .pointer (some ⟨b + 2, 0, none⟩))
    (h0 : Blk W b t0 V) (h1 : Blk W (b + 1) t1 #[.int .i64 e]) (h2 : Blk W (b + 2) t2 #[.int .i64 a]) : (results Tryz.f18 tm).run Tryz.prog W = .ok (.tuple #[.agg V, .int .i64 e, .int .i64 a]) W := by
  obtain ⟨l⟩ := V
  have hV : l.length = 3 := hV
  match l, hV, h0 with
  | [x, y, z], _, h0 =>
  have c0 : W.cell? ⟨b, 0, none⟩ = some x := h0.cell 0
  have c1 : W.cell? ⟨b, 1, none⟩ = some y := h0.cell 1
  have c2 : W.cell? ⟨b, 2, none⟩ = some z := h0.cell 2
  have e0 : W.cell? ⟨b + 1, 0, none⟩ = some (.int .i64 e) := h1.cell 0
  have a0 : W.cell? ⟨b + 2, 0, none⟩ = some (.int .i64 a) := h2.cell 0
  simp [results, Tryz.results18, p2, p3, p4, asAddr, go_sem, c0, c1, c2, e0, a0]
theorem zero_rep (κ : Cx) (w : World) : (CK.comp ckRules ([], [], [])).Rep κ w (.agg zeroR) := by
  refine ⟨_, rfl, rfl, fun i c hc => ?_, fun i u hu => ?_⟩
  · match i, hc with
    | 0, hc => injection hc with hc; subst hc; exact ⟨_, rfl, rfl⟩
    | 1, hc => injection hc with hc; subst hc; exact ⟨_, rfl, rfl⟩
    | 2, hc => injection hc with hc; subst hc; exact ⟨_, rfl, none, 0, rfl, Nat.le_refl _, fun h => absurd h (Nat.lt_irrefl _)⟩
  · match i, hu with
    | 0, hu => injection hu with hu; subst hu; rfl
    | 1, hu => injection hu with hu; subst hu; rfl
    | 2, hu => injection hu with hu; subst hu; rfl
theorem blk_oth (w : World) (g k i : Nat) (v : Value) (T : TypeId) (cs : Array Value) (h : k ≠ g) (hb : Blk w k T cs) : Blk (w.setCell ⟨g, i, none⟩ v) k T cs := (Below.heap_setCell w ⟨g, i, none⟩ v k h).trans hb
/-- the named results, written one after the other -/
theorem named_set {w0 W : World} {b : Nat} (hb : Below b w0 W) {t0 t1 t2 : TypeId} {V : Array Value} {x y : Value} (hV : V.size = 3) (h0 : Blk W b t0 V) (h1 : Blk W (b + 1) t1 #[x]) (h2 : Blk W (b + 2) t2 #[y]) (p q r : Value) (e a : Int) :
    Blk (((((W.setCell ⟨b, 0, none⟩ p).setCell ⟨b, 1, none⟩ q).setCell ⟨b, 2, none⟩ r).setCell ⟨b + 1, 0, none⟩ (.int .i64 e)).setCell ⟨b + 2, 0, none⟩ (.int .i64 a)) b t0 #[p, q, r] ∧
    Blk (((((W.setCell ⟨b, 0, none⟩ p).setCell ⟨b, 1, none⟩ q).setCell ⟨b, 2, none⟩ r).setCell ⟨b + 1, 0, none⟩ (.int .i64 e)).setCell ⟨b + 2, 0, none⟩ (.int .i64 a)) (b + 1) t1 #[.int .i64 e] ∧
    Blk (((((W.setCell ⟨b, 0, none⟩ p).setCell ⟨b, 1, none⟩ q).setCell ⟨b, 2, none⟩ r).setCell ⟨b + 1, 0, none⟩ (.int .i64 e)).setCell ⟨b + 2, 0, none⟩ (.int .i64 a)) (b + 2) t2 #[.int .i64 a] ∧
    Below b w0 (((((W.setCell ⟨b, 0, none⟩ p).setCell ⟨b, 1, none⟩ q).setCell ⟨b, 2, none⟩ r).setCell ⟨b + 1, 0, none⟩ (.int .i64 e)).setCell ⟨b + 2, 0, none⟩ (.int .i64 a)) := by
  refine ⟨?_, ?_, ?_, ?_⟩
  · obtain ⟨l⟩ := V
    have hV : l.length = 3 := hV
    match l, hV with
    | [u1, u2, u3], _ => exact blk_oth _ _ _ _ _ _ _ (by omega) (blk_oth _ _ _ _ _ _ _ (by omega) (((h0.set_ 0 p).set_ 1 q).set_ 2 r))
  · exact blk_oth _ _ _ _ _ _ _ (by omega) ((blk_oth _ _ _ _ _ _ _ (by omega) (blk_oth _ _ _ _ _ _ _ (by omega) (blk_oth _ _ _ _ _ _ _ (by omega) h1))).set_ 0 (.int .i64 e))
  · exact (blk_oth _ _ _ _ _ _ _ (by omega) (blk_oth _ _ _ _ _ _ _ (by omega) (blk_oth _ _ _ _ _ _ _ (by omega) (blk_oth _ _ _ _ _ _ _ (by omega) h2)))).set_ 0 (.int .i64 a)
  · exact (((((hb.setCell (p := ⟨b, 0, none⟩) (Nat.le_refl b) _).setCell (p := ⟨b, 1, none⟩) (Nat.le_refl b) _).setCell (p := ⟨b, 2, none⟩) (Nat.le_refl b) _).setCell (p := ⟨b + 1, 0, none⟩) (show b ≤ b + 1 by omega) _).setCell (p := ⟨b + 2, 0, none⟩) (show b ≤ b + 2 by omega) _)
set_option maxRecDepth 100000 in
set_option maxHeartbeats 2000000 in
theorem parse_any (s : List UInt8) (w : World) (hs : s.length ≤ 1000000) :
    Calls Tryz.prog 18 #[.string (bs s)] w fun e w' => ∃ v, e = .returned (.tuple #[v, .int .i64 (Rul.parseB s).2.1, .int .i64 (Rul.parseB s).2.2]) ∧ (CK.comp ckRules (Rul.parseB s).1).Rep (Cx.of fun k => w.heap.size ≤ k ∧ k < w'.heap.size) w' v ∧ Below w.heap.size w w' := by
  have hmf : ∀ (fn : Fn) (first cap : Array Value) (w : World), (Instr.makeFunc fn first cap).run Tryz.prog w = .ok (.func fn first cap) w := fun _ _ _ _ => rfl
  have hsz : (bs s).size ≤ 9223372036854775807 := by rw [bs_size]; omega
  go_enter_defers Tryz.func18, Tryz.ntmps18
  go_wp2_with fail
  have z2 := ((Blk.new w 24 zeroR).bel (bel_alloc (bel_refl _) (.cells #[.int .i64 0] 32))).bel (bel_alloc (bel_refl _) (.cells #[.int .i64 0] 3))
  have z3 := (Blk.new (w.alloc (.cells zeroR 24)) 32 #[.int .i64 0]).bel (bel_alloc (bel_refl _) (.cells #[.int .i64 0] 3))
  have z4 := Blk.new ((w.alloc (.cells zeroR 24)).alloc (.cells #[.int .i64 0] 32)) 3 #[.int .i64 0]
  have hb0 : Below w.heap.size w (((w.alloc (.cells zeroR 24)).alloc (.cells #[.int .i64 0] 32)).alloc (.cells #[.int .i64 0] 3)) :=
    ((bel_alloc (bel_refl w) _).alloc (by simp) _).alloc (by simp; omega) _
  have hs0 : (((w.alloc (.cells zeroR 24)).alloc (.cells #[.int .i64 0] 32)).alloc (.cells #[.int .i64 0] 3)).heap.size = w.heap.size + 3 := by simp
  have hw : ((w.alloc (.cells #[.string { data := #[] }, .string { data := #[] }, .slice none 0 0] 24)).alloc (.cells #[.int .i64 0] 32)).alloc (.cells #[.int .i64 0] 3) = ((w.alloc (.cells zeroR 24)).alloc (.cells #[.int .i64 0] 32)).alloc (.cells #[.int .i64 0] 3) := rfl
  rw [hw]
  clear hw
  generalize ((w.alloc (.cells zeroR 24)).alloc (.cells #[.int .i64 0] 32)).alloc (.cells #[.int .i64 0] 3) = w1 at *
  have z3 : Blk w1 (w.heap.size + 1) 32 #[.int .i64 0] := by simpa using z3
  have z4 : Blk w1 (w.heap.size + 2) 3 #[.int .i64 0] := by simpa using z4
  refine (lex_any (bs s) _ hsz).mono ?_
  rintro e w2 ⟨v, rfl, R2, hb2⟩
  rw [bs_list] at R2
  have hsm := small_lex s s.length
  have hp : Rul.parseB s = if (Lx.lex s).2.1 == 0 then match Rul.rulesM s.length ((Lx.lex s).1.map Rul.tp) with
      | .ok r => (r, 0, 0)
      | .error x => (([], [], []), x.1, x.2)
    else (([], [], []), (Lx.lex s).2.1, (Lx.lex s).2.2) := rfl
  rw [bs_list]
  obtain ⟨A, c, rfl⟩ := slice_of_row R2
  generalize Lx.lex s = L at *
  obtain ⟨l, er, a⟩ := L
  dsimp only at *
  have y2 := z2.bel hb2
  have y3 := z3.bel hb2
  have y4 := z4.bel hb2
  have hb := hb0.trans (hb2.mono (by omega))
  have hs2 := hb2.size
  clear z2 z3 z4 hb0 hb2
  by_cases he : er = 0
  · have he' : (er == 0) = true := by rw [beq_iff_eq]; exact he
    rw [he', if_pos rfl] at hp
    have hrow : Kd.Rep w2 (fun k => w1.heap.size ≤ k ∧ k < w2.heap.size) (.sl kTok) (l.map Rul.tp) (.slice A l.length c) := tok_row R2 fun g h1 h2 => ⟨h1, h2⟩
    have HP := Lib.hid hp
    have HR := Lib.hid hrow
    have HY2 := Lib.hid y2
    have HY3 := Lib.hid y3
    have HY4 := Lib.hid y4
    have HB := Lib.hid hb
    have HS := Lib.hid hsm
    have d0 : w2.cell? ⟨w.heap.size, 0, none⟩ = some (.string { data := #[] }) := y2.cell 0
    have d1 : w2.cell? ⟨w.heap.size, 1, none⟩ = some (.string { data := #[] }) := y2.cell 1
    have d2 : w2.cell? ⟨w.heap.size, 2, none⟩ = some (.slice none 0 0) := y2.cell 2
    have e0 : w2.cell? ⟨w.heap.size + 1, 0, none⟩ = some (.int .i64 0) := y3.cell 0
    have f0 : w2.cell? ⟨w.heap.size + 1 + 1, 0, none⟩ = some (.int .i64 0) := y4.cell 0
    have n0 := y2.frozen 0
    have n1 := y2.frozen 1
    have n2 := y2.frozen 2
    have n3 := y3.frozen 0
    have n4 : w2.frozen? ⟨w.heap.size + 1 + 1, 0, none⟩ = false := y4.frozen 0
    clear hp R2 y2 y3 y4 hb hsm he hrow
    go_wp2_with fail
    have hba := bel_alloc (bel_refl w2) (.cells #[.slice A l.length c, .int .i64 s.length] 94)
    have hz := Blk.new w2 94 #[.slice A l.length c, .int .i64 s.length]
    have v2 := HY2.out.bel hba
    have v3 := HY3.out.bel hba
    have v4 := HY4.out.bel hba
    have hrr : Kd.Rep (w2.alloc (.cells #[.slice A l.length c, .int .i64 s.length] 94)) (fun k => w1.heap.size ≤ k ∧ k < w2.heap.size) (.sl kTok) (l.map Rul.tp) (.slice A l.length c) :=
      Kd.Rep.keeps (Keeps.below hba _) (fun g h _ => h) (.sl kTok) _ _ HR.out
    have hbn := HB.out.trans (hba.mono HB.out.size)
    have hwn : (w2.alloc (.cells #[.slice A l.length c, .int .i64 s.length] 94)).heap.size = w2.heap.size + 1 := by simp
    generalize w2.alloc (.cells #[.slice A l.length c, .int .i64 s.length] 94) = wn at *
    refine (rules_any (l.map Rul.tp) s.length w2.heap.size _ A c _ (List.length_map _).symm wn (fun k => w1.heap.size ≤ k ∧ k < w2.heap.size) (fun k h => by have := h.2; omega) (fun h => absurd h.2 (Nat.lt_irrefl _)) hz hrr HS.out).mono ?_
    rintro x w3 ⟨hgr, h⟩
    have hg3 := hgr.size
    have u2 := v2.grown hgr (fun e => by injection e with e; have := v2.lt; omega)
    have u3 := v3.grown hgr (fun e => by injection e with e; have := v3.lt; omega)
    have u4 := v4.grown hgr (fun e => by injection e with e; have := v4.lt; omega)
    have hb3 : Below w.heap.size w w3 := hbn.grown hgr (by omega) (fun k hk => by injection hk with hk; omega)
    have U2 := Lib.hid u2
    have U3 := Lib.hid u3
    have U4 := Lib.hid u4
    have HB3 := Lib.hid hb3
    have d0 : w3.cell? ⟨w.heap.size, 0, none⟩ = some (.string { data := #[] }) := u2.cell 0
    have d1 : w3.cell? ⟨w.heap.size, 1, none⟩ = some (.string { data := #[] }) := u2.cell 1
    have d2 : w3.cell? ⟨w.heap.size, 2, none⟩ = some (.slice none 0 0) := u2.cell 2
    have e0 : w3.cell? ⟨w.heap.size + 1, 0, none⟩ = some (.int .i64 0) := u3.cell 0
    have f0 : w3.cell? ⟨w.heap.size + 1 + 1, 0, none⟩ = some (.int .i64 0) := u4.cell 0
    have n0 := u2.frozen 0
    have n1 := u2.frozen 1
    have n2 := u2.frozen 2
    have n3 := u3.frozen 0
    have n4 : w3.frozen? ⟨w.heap.size + 1 + 1, 0, none⟩ = false := u4.frozen 0
    clear u2 u3 u4 v2 v3 v4 hb3 hbn hba hz hrr hgr
    have hm0 : Rul.rulesM s.length (l.map Rul.tp) = rulesP (l.map Rul.tp, s.length) := rfl
    rcases h with ⟨r, v, hok, rfl, hv⟩ | ⟨ea, eb, hbad, rfl⟩
    · obtain ⟨u, rfl, hru⟩ := rulV_out (fun g hg => by
        rcases hg with hg | hg
        · have := hg.2; omega
        · exact hg.2) hv
      obtain ⟨A2, c2, rfl⟩ := hru.slice
      clear hru
      rw [hm0, hok] at HP
      have HV := Lib.hid hv
      clear hv hok hm0
      unfold rulV
      go_wp2
      refine leaves_cons (f := 42) (args := #[.pointer (some ⟨w.heap.size, 0, none⟩), .pointer (some ⟨w.heap.size + 1, 0, none⟩), .pointer (some ⟨w.heap.size + 2, 0, none⟩)]) (by simp) (by simp [go_sem]) ?_
      refine (catch_idle _ _ _ _).mono ?_
      rintro e u' w5 ⟨rfl, rfl, hb5⟩
      obtain ⟨x1, x2, x3, x4⟩ := named_set HB3.out rfl U2.out U3.out U4.out (.string (bs r.1)) (.string (bs r.2.1)) (.slice A2 r.2.2.length c2) 0 0
      have hk : Keeps w3 (((((w3.setCell ⟨w.heap.size, 0, none⟩ (.string (bs r.1))).setCell ⟨w.heap.size, 1, none⟩ (.string (bs r.2.1))).setCell ⟨w.heap.size, 2, none⟩ (.slice A2 r.2.2.length c2)).setCell ⟨w.heap.size + 1, 0, none⟩ (.int .i64 0)).setCell ⟨w.heap.size + 2, 0, none⟩ (.int .i64 0)) (fun k => (w1.heap.size ≤ k ∧ k < w2.heap.size) ∨ (wn.heap.size ≤ k ∧ k < w3.heap.size)) :=
        ((((Keeps.set (by dsimp only; omega) _).trans (Keeps.set (by dsimp only; omega) _)).trans (Keeps.set (by dsimp only; omega) _)).trans (Keeps.set (by dsimp only; omega) _)).trans (Keeps.set (by dsimp only; omega) _)
      refine ⟨_, parse_res _ _ _ _ _ _ _ _ _ rfl rfl rfl rfl (x1.bel hb5) (x2.bel hb5) (x3.bel hb5), ?_⟩
      rw [HP.out]
      have hsz5 := hb5.size
      refine ⟨_, rfl, ?_, x4.trans (hb5.mono x4.size)⟩
      refine Comp.Rep.mono (κ := Cx.of fun k => (w1.heap.size ≤ k ∧ k < w2.heap.size) ∨ (wn.heap.size ≤ k ∧ k < w3.heap.size)) (w := w3) (fun c v hc => Cell.Rep.keeps (κ := Cx.of fun k => (w1.heap.size ≤ k ∧ k < w2.heap.size) ∨ (wn.heap.size ≤ k ∧ k < w3.heap.size)) (κ' := Cx.of fun k => w.heap.size ≤ k ∧ k < w5.heap.size) rfl rfl rfl (hk.trans (Keeps.below hb5 _)) (fun g hg hlt => ?_) hc) HV.out
      have hkz := Nat.le_trans hk.size hsz5
      exact ⟨by rcases hg with hg | hg <;> omega, by omega⟩
    · rw [hm0, hbad] at HP
      clear hbad hm0
      go_wp2
      refine leaves_cons (f := 42) (args := #[.pointer (some ⟨w.heap.size, 0, none⟩), .pointer (some ⟨w.heap.size + 1, 0, none⟩), .pointer (some ⟨w.heap.size + 2, 0, none⟩)]) (by simp) (by simp [go_sem]) ?_
      refine (catch_fault w.heap.size ea eb [] w3 U2.out U3.out U4.out).mono ?_
      rintro e u' w5 ⟨rfl, rfl, ⟨t0, x1⟩, ⟨t1, x2⟩, ⟨t2, x3⟩, x4⟩
      refine ⟨_, parse_res _ _ _ _ _ _ _ _ _ rfl rfl rfl rfl x1 x2 x3, ?_⟩
      rw [HP.out]
      exact ⟨_, rfl, zero_rep _ _, HB3.out.trans x4⟩
  · have he' : (er == 0) = false := by rw [beq_eq_false_iff_ne]; exact he
    rw [he'] at hp
    have HP := Lib.hid hp
    have HR := Lib.hid R2
    have HY2 := Lib.hid y2
    have HY3 := Lib.hid y3
    have HY4 := Lib.hid y4
    have HB := Lib.hid hb
    have HS := Lib.hid hsm
    have d0 : w2.cell? ⟨w.heap.size, 0, none⟩ = some (.string { data := #[] }) := y2.cell 0
    have d1 : w2.cell? ⟨w.heap.size, 1, none⟩ = some (.string { data := #[] }) := y2.cell 1
    have d2 : w2.cell? ⟨w.heap.size, 2, none⟩ = some (.slice none 0 0) := y2.cell 2
    have e0 : w2.cell? ⟨w.heap.size + 1, 0, none⟩ = some (.int .i64 0) := y3.cell 0
    have f0 : w2.cell? ⟨w.heap.size + 1 + 1, 0, none⟩ = some (.int .i64 0) := y4.cell 0
    have n0 := y2.frozen 0
    have n1 := y2.frozen 1
    have n2 := y2.frozen 2
    have n3 := y3.frozen 0
    have n4 : w2.frozen? ⟨w.heap.size + 1 + 1, 0, none⟩ = false := y4.frozen 0
    clear hp R2 y2 y3 y4 hb hsm he
    go_wp2
    obtain ⟨w1, w2, w3, w4⟩ := named_set HB.out rfl HY2.out HY3.out HY4.out (.string { data := #[] }) (.string { data := #[] }) (.slice none 0 0) er a
    refine ⟨_, parse_res _ _ _ _ _ _ _ _ _ rfl rfl rfl rfl w1 w2 w3, ?_⟩
    rw [HP.out]
    exact ⟨_, rfl, zero_rep _ _, w4⟩
def cParse : Con := .of 18 [ckStr] [ckRules, ckInt, ckInt] (fun s => List.length s ≤ 1000000) Rul.parseB
theorem parse_holds : cParse.Holds Tryz.prog := by
  refine ⟨⟨⟨_, Tryz.func18, by kernel_rfl, by kernel_rfl⟩, fun F' hF p r hr => by injection hF with hF; subst hF; exact hr⟩, fun s vs w S hS hp hvs => ?_⟩
  obtain ⟨v, rfl, hv⟩ := one_arg hvs
  obtain rfl : v = .string (bs s) := hv
  refine (parse_any s w hp).mono ?_
  rintro e w' ⟨v, rfl, hv, hbl⟩
  refine ⟨Rul.parseB s, _, rfl, rfl, ⟨_, rfl, rfl, ?_⟩, hbl⟩
  have hv2 : (CK.comp ckRules (Rul.parseB s).1).Rep (Cx.of fun k => S k ∨ (w.heap.size ≤ k ∧ k < w'.heap.size)) w' v :=
    Comp.Rep.mono (fun c v hc => Cell.Rep.keeps (κ := Cx.of fun k => w.heap.size ≤ k ∧ k < w'.heap.size) (κ' := Cx.of fun k => S k ∨ (w.heap.size ≤ k ∧ k < w'.heap.size)) rfl rfl rfl (Keeps.refl w' _) (fun g hg _ => .inr hg) hc) hv
  intro i x hx
  match i, hx with
  | 0, hx => injection hx with hx; subst hx; exact ⟨_, rfl, hv2⟩
  | 1, hx => injection hx with hx; subst hx; exact ⟨_, rfl, rfl⟩
  | 2, hx => injection hx with hx; subst hx; exact ⟨_, rfl, rfl⟩
end Go.Proofs.YtldnfdghkdibmaaGreatDoor

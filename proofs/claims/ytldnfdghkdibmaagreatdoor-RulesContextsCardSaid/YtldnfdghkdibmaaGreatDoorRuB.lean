/-
  Layer 11: isName, read, open, Valid, stands: what they return.
-/
import Derived.Test.YtldnfdghkdibmaaGreatDoorRuA
set_option linter.unusedVariables false
namespace Go.Proofs.YtldnfdghkdibmaaGreatDoor
open Go.RowKit
open R
set_option maxRecDepth 100000 in
theorem isname_vc (s : List UInt8) (h : cIsName.pre s) :
    /-VC fun (s : List UInt8) => vcOf Tryz.prog [cLex] [] cIsName Tryz.f83 s -/
    s.length ≤ (1000000 : Nat) ∧ bif (Lx.lex s).snd.fst == (0 : Int) then bif (↑(List.map tokP (Lx.lex s).fst).length : Int) == (1 : Int) then ((0 : Int) ≤ (0 : Int) ∧ (0 : Int) < (↑(List.map
    tokP (Lx.lex s).fst).length : Int)) ∧ bif ((List.map tokP (Lx.lex s).fst).getD (Int.toNat (0 : Int)) ((0 : Int), (0 : Int), (0 : Int), [])).fst == (1 : Int) then ((0 : Int) ≤ (0 : Int) ∧ (0
    : Int) < (↑(List.map tokP (Lx.lex s).fst).length : Int)) ∧ (((List.map tokP (Lx.lex s).fst).getD (Int.toNat (0 : Int)) ((0 : Int), (0 : Int), (0 : Int), [])).snd.snd.snd == s) = Lx.nameB s
    else false = Lx.nameB s else false = Lx.nameB s else false = Lx.nameB s
    /-CV-/ := by
  have h1000 : s.length ≤ 1000 := h
  have hyes := Lx.lex_name s (by omega)
  have hno : ∀ (t : Lx.Tok) (e a : Int), Lx.lex s = ([t], e, a) → e = 0 → t.kind = 1 → t.text = s → Lx.nameB s = true := fun t e a => Lx.name_lex s (by omega)
  have nam : (Lx.nameB s = true → False) → false = Lx.nameB s := fun h => by
    cases hh : Lx.nameB s
    · rfl
    · exact (h hh).elim
  generalize Lx.lex s = L at *
  obtain ⟨l, er, a⟩ := L
  dsimp only at *
  refine ⟨by omega, bifP (fun he => bifP (fun hl => ?_) fun hl => nam fun hh => ?_) fun he => nam fun hh => ?_⟩
  · obtain ⟨t, rfl⟩ : ∃ t, l = [t] := by
      have : ((l.map tokP).length : Int) = 1 := beq_iff_eq.1 hl
      rw [List.length_map] at this
      exact List.length_eq_one_iff.1 (by omega)
    have he : er = 0 := beq_iff_eq.1 he
    refine ⟨⟨by omega, by show (0 : Int) < 1; omega⟩, bifP (fun hk => ⟨⟨by omega, by show (0 : Int) < 1; omega⟩, ?_⟩) fun hk => nam fun hh => ?_⟩
    · have hk : t.kind = 1 := beq_iff_eq.1 hk
      show (t.text == s) = Lx.nameB s
      by_cases ht : t.text = s
      · rw [hno t er a rfl he hk ht]; exact beq_iff_eq.2 ht
      · rw [beq_eq_false_iff_ne.2 ht]
        refine nam fun hh => ht ?_
        have := hyes hh
        simp at this
        rw [this.1]
    · have := hyes hh
      simp at this
      exact (beq_eq_false_iff_ne.1 hk) (by show t.kind = 1; rw [this.1])
  · have := hyes hh
    simp at this
    rw [this.1] at hl
    exact (beq_eq_false_iff_ne.1 hl) rfl
  · have := hyes hh
    simp at this
    exact (beq_eq_false_iff_ne.1 he) this.2.1
set_option maxRecDepth 100000 in
theorem readr_vc (a : AlP) (s : List UInt8) (most : Int) (h : cReadR.pre (a, s, most)) :
    /-VC fun (a : AlP) (s : List UInt8) (most : Int) => vcOf Tryz.prog [cPRead] [] cReadR Tryz.f59 (a, s, most) -/
    bif s == [] then ([], true) = readPB (a, s, most) else (FewP (a.fst, a.snd.fst, a.snd.snd) ∧ s.length ≤ (1000000 : Nat)) ∧ bif (Al.readB (alOf (a.fst, a.snd.fst, a.snd.snd)) s).snd.fst == (0
    : Int) then ((Al.readB (alOf (a.fst, a.snd.fst, a.snd.snd)) s).fst, decide ((↑(Al.readB (alOf (a.fst, a.snd.fst, a.snd.snd)) s).fst.length : Int) ≤ most)) = readPB (a, s, most) else
    ((Al.readB (alOf (a.fst, a.snd.fst, a.snd.snd)) s).fst, false) = readPB (a, s, most)
    /-CV-/ := by
  obtain ⟨hF, hs⟩ := h
  have e : ∀ c : List Int × Bool, c = (if s = [] then ([], true) else ((Al.readB (alOf a) s).1, (Al.readB (alOf a) s).2.1 == 0 && decide (((Al.readB (alOf a) s).1.length : Int) ≤ most))) → c = readPB (a, s, most) := fun c h => h
  refine bifP (fun hb => e _ ?_) fun hb => ⟨⟨hF, hs⟩, bifP (fun h0 => e _ ?_) fun h0 => e _ ?_⟩
  · rw [if_pos (beq_iff_eq.1 hb)]
  · rw [if_neg (beq_eq_false_iff_ne.1 hb)]
    show _ = (_, ((Al.readB (alOf a) s).2.1 == 0) && _)
    rw [show ((Al.readB (alOf a) s).2.1 == 0) = true from h0, Bool.true_and]
  · rw [if_neg (beq_eq_false_iff_ne.1 hb)]
    show _ = (_, ((Al.readB (alOf a) s).2.1 == 0) && _)
    rw [show ((Al.readB (alOf a) s).2.1 == 0) = false from h0, Bool.false_and]
set_option maxRecDepth 100000 in
theorem open_vc (r1 r2 : List UInt8) (l : List Rul.Rule) (f t : AlP) (h : cOpen.pre ((r1, r2, l), f, t)) :
    /-VC fun (r1 r2 : List UInt8) (l : List Rul.Rule) (f t : AlP) => vcOf Tryz.prog [cFormedP, cPValid, cReadR] (anOpen (r1, r2, l) f t) cOpen Tryz.f32 ((r1, r2, l), f, t) -/
    FewR (r1, r2, l) ∧ bif !Rul.formedB (r1, r2, l) then ([], false) = openB ((r1, r2, l), f, t) else FewP (f.fst, f.snd.fst, f.snd.snd) ∧ bif !Al.validB (alOf (f.fst, f.snd.fst, f.snd.snd))
    then ([], false) = openB ((r1, r2, l), f, t) else FewP (t.fst, t.snd.fst, t.snd.snd) ∧ bif !Al.validB (alOf (t.fst, t.snd.fst, t.snd.snd)) then ([], false) = openB ((r1, r2, l), f, t) else
    bif !r1 == f.fst then ([], false) = openB ((r1, r2, l), f, t) else bif !r2 == t.fst then ([], false) = openB ((r1, r2, l), f, t) else (∃ (p' : Nat), (p' ≤ l.length ∧ (List.take p' l).all
    (Rul.okIn f.snd.fst t.snd.fst) = true) ∧ (True ∧ (0 : Int) = (↑p' : Int) ∧ True ∧ True ∧ True ∧ l = l ∧ (↑l.length : Int) = (↑l.length : Int) ∧ True) ∧ ((t.fst = t.fst ∧ t.snd.fst =
    t.snd.fst ∧ t.snd.snd = t.snd.snd ∧ True) ∧ (f.fst = f.fst ∧ f.snd.fst = f.snd.fst ∧ f.snd.snd = f.snd.snd ∧ True) ∧ (r1 = r1 ∧ r2 = r2 ∧ l = l ∧ True) ∧ True) ∧ (List.map opOf (List.map
    (Rul.openR f.snd.fst) (List.take p' l)) = [] ∧ True) ∧ True ∧ True ∧ True ∧ True ∧ True) ∧ ∀ (p : Nat), p ≤ l.length ∧ (List.take p l).all (Rul.okIn f.snd.fst t.snd.fst) = true → bif decide
    ((↑p : Int) < (↑l.length : Int)) then ((0 : Int) ≤ (↑p : Int) ∧ (↑p : Int) < (↑l.length : Int)) ∧ (FewP (f.fst, f.snd.fst, f.snd.snd) ∧ (l.getD (↑p : Int).toNat ([], [], [],
    false)).fst.length ≤ (1000000 : Nat)) ∧ (FewP (f.fst, f.snd.fst, f.snd.snd) ∧ (l.getD (↑p : Int).toNat ([], [], [], false)).snd.snd.fst.length ≤ (1000000 : Nat)) ∧ (FewP (t.fst, t.snd.fst,
    t.snd.snd) ∧ (l.getD (↑p : Int).toNat ([], [], [], false)).snd.fst.length ≤ (1000000 : Nat)) ∧ bif !(readPB ((f.fst, f.snd.fst, f.snd.snd), (l.getD (↑p : Int).toNat ([], [], [], false)).fst,
    (3 : Int))).snd then ([], false) = openB ((r1, r2, l), f, t) else bif !(readPB ((f.fst, f.snd.fst, f.snd.snd), (l.getD (↑p : Int).toNat ([], [], [], false)).snd.snd.fst, (10 : Int))).snd
    then ([], false) = openB ((r1, r2, l), f, t) else bif !(readPB ((t.fst, t.snd.fst, t.snd.snd), (l.getD (↑p : Int).toNat ([], [], [], false)).snd.fst, (3 : Int))).snd then ([], false) = openB
    ((r1, r2, l), f, t) else ((List.map opOf (List.map (Rul.openR f.snd.fst) (List.take p l))).length + [((l.getD (↑p : Int).toNat ([], [], [], false)).fst, (l.getD (↑p : Int).toNat ([], [], [],
    false)).snd.fst, (l.getD (↑p : Int).toNat ([], [], [], false)).snd.snd.fst, (l.getD (↑p : Int).toNat ([], [], [], false)).snd.snd.snd, (readPB ((f.fst, f.snd.fst, f.snd.snd), (l.getD (↑p :
    Int).toNat ([], [], [], false)).fst, (3 : Int))).fst, (readPB ((f.fst, f.snd.fst, f.snd.snd), (l.getD (↑p : Int).toNat ([], [], [], false)).snd.snd.fst, (10 : Int))).fst)].length) * (104 :
    Nat) ≤ (140737488355328 : Nat) ∧ ((-9223372036854775808 : Int) ≤ (↑p : Int) + (1 : Int) ∧ (↑p : Int) + (1 : Int) ≤ (9223372036854775807 : Int)) ∧ ∃ (p' : Nat), (p' ≤ l.length ∧ (List.take p'
    l).all (Rul.okIn f.snd.fst t.snd.fst) = true) ∧ l.length - p' < l.length - p ∧ (True ∧ (↑p : Int) + (1 : Int) = (↑p' : Int) ∧ True ∧ True ∧ True ∧ l = l ∧ (↑l.length : Int) = (↑l.length :
    Int) ∧ True) ∧ ((t.fst = t.fst ∧ t.snd.fst = t.snd.fst ∧ t.snd.snd = t.snd.snd ∧ True) ∧ (f.fst = f.fst ∧ f.snd.fst = f.snd.fst ∧ f.snd.snd = f.snd.snd ∧ True) ∧ (r1 = r1 ∧ r2 = r2 ∧ l = l ∧
    True) ∧ True) ∧ (List.map opOf (List.map (Rul.openR f.snd.fst) (List.take p l)) ++ [((l.getD (↑p : Int).toNat ([], [], [], false)).fst, (l.getD (↑p : Int).toNat ([], [], [], false)).snd.fst,
    (l.getD (↑p : Int).toNat ([], [], [], false)).snd.snd.fst, (l.getD (↑p : Int).toNat ([], [], [], false)).snd.snd.snd, (readPB ((f.fst, f.snd.fst, f.snd.snd), (l.getD (↑p : Int).toNat ([],
    [], [], false)).fst, (3 : Int))).fst, (readPB ((f.fst, f.snd.fst, f.snd.snd), (l.getD (↑p : Int).toNat ([], [], [], false)).snd.snd.fst, (10 : Int))).fst)] = List.map opOf (List.map
    (Rul.openR f.snd.fst) (List.take p' l)) ∧ True) ∧ True ∧ True ∧ True ∧ True ∧ True else (List.map opOf (List.map (Rul.openR f.snd.fst) (List.take p l)), true) = openB ((r1, r2, l), f, t)
    /-CV-/ := by
  obtain ⟨hR, hf, ht⟩ := h
  have hn : l.length ≤ 1000 := hR.2.2.1
  have bad : Rul.validB (r1, r2, l) (alOf f) (alOf t) = false → (([], false) : List OP × Bool) = openB ((r1, r2, l), f, t) := fun h => by
    unfold openB
    rw [if_neg (by rw [h]; exact Bool.noConfusion)]
  have hv : Rul.validB (r1, r2, l) (alOf f) (alOf t) = (Rul.formedB (r1, r2, l) && (Al.validB (alOf f) && (Al.validB (alOf t) && (r1 == f.1 && (r2 == t.1 && l.all (Rul.okIn f.2.1 t.2.1)))))) := rfl
  simp only [true_and, and_true]
  refine ⟨hR, bifP (fun hb => bad ?_) fun h1 => ⟨hf, bifP (fun hb => bad ?_) fun h2 => ⟨ht, bifP (fun hb => bad ?_) fun h3 => bifP (fun hb => bad ?_) fun h4 => bifP (fun hb => bad ?_) fun h5 => ?_⟩⟩⟩
  · rw [hv, show Rul.formedB (r1, r2, l) = false by simpa using hb]; rfl
  · rw [hv, show Al.validB (alOf f) = false by simpa using hb]; simp
  · rw [hv, show Al.validB (alOf t) = false by simpa using hb]; simp
  · rw [hv, show (r1 == f.1) = false by simpa using hb]; simp
  · rw [hv, show (r2 == t.1) = false by simpa using hb]; simp
  have hvl : Rul.validB (r1, r2, l) (alOf f) (alOf t) = l.all (Rul.okIn f.2.1 t.2.1) := by
    rw [hv, show Rul.formedB (r1, r2, l) = true by simpa using h1, show Al.validB (alOf f) = true by simpa using h2, show Al.validB (alOf t) = true by simpa using h3, show (r1 == f.1) = true by simpa using h4, show (r2 == t.1) = true by simpa using h5]
    rfl
  have hrf : ∀ s most, readPB (f, s, most) = Rul.readO f.2.1 s most := fun s most => by
    unfold readPB Rul.readO Al.readB
    rw [if_pos (show Al.validB (alOf f) = true by simpa using h2)]
    rfl
  have hrt : ∀ s most, readPB (t, s, most) = Rul.readO t.2.1 s most := fun s most => by
    unfold readPB Rul.readO Al.readB
    rw [if_pos (show Al.validB (alOf t) = true by simpa using h3)]
    rfl
  refine ⟨⟨0, ⟨Nat.zero_le _, rfl⟩, rfl, rfl⟩, ?_⟩
  rintro p ⟨hp, ha⟩
  have hti : ((p : Int).toNat) = p := rfl
  simp only [hti]
  refine bifP (fun hb => ?_) fun hb => ?_
  · have hlt : p < l.length := by have := of_decide_eq_true hb; omega
    have hx := hR.2.2.2 _ (Snd.mem_getD l ([], [], [], false) p hlt)
    have hst := Snd.all_step l ([], [], [], false) (Rul.okIn f.2.1 t.2.1) p hlt
    have htk := Snd.take_getD l ([], [], [], false) p hlt
    have hno : Rul.okIn f.2.1 t.2.1 (l.getD p ([], [], [], false)) = false → (([], false) : List OP × Bool) = openB ((r1, r2, l), f, t) := fun h => bad (by rw [hvl]; exact Snd.all_no l ([], [], [], false) _ p hlt h)
    generalize l.getD p ([], [], [], false) = x at *
    obtain ⟨q1, q2, q3⟩ := hx
    have hf' : FewP (f.1, f.2.1, f.2.2) := hf
    have ht' : FewP (t.1, t.2.1, t.2.2) := ht
    have e1 : readPB ((f.1, f.2.1, f.2.2), x.1, 3) = Rul.readO f.2.1 x.1 3 := hrf _ _
    have e2 : readPB ((f.1, f.2.1, f.2.2), x.2.2.1, 10) = Rul.readO f.2.1 x.2.2.1 10 := hrf _ _
    have e3 : readPB ((t.1, t.2.1, t.2.2), x.2.1, 3) = Rul.readO t.2.1 x.2.1 3 := hrt _ _
    rw [e1, e2, e3]
    have hok : Rul.okIn f.2.1 t.2.1 x = ((Rul.readO f.2.1 x.1 3).2 && ((Rul.readO f.2.1 x.2.2.1 10).2 && (Rul.readO t.2.1 x.2.1 3).2)) := rfl
    refine ⟨⟨by omega, by omega⟩, ⟨hf', by omega⟩, ⟨hf', by omega⟩, ⟨ht', by omega⟩, bifP (fun hb => hno ?_) fun g1 => bifP (fun hb => hno ?_) fun g2 => bifP (fun hb => hno ?_) fun g3 => ?_⟩
    · rw [hok, show (Rul.readO f.2.1 x.1 3).2 = false by simpa using hb]; rfl
    · rw [hok, show (Rul.readO f.2.1 x.2.2.1 10).2 = false by simpa using hb]; simp
    · rw [hok, show (Rul.readO t.2.1 x.2.1 3).2 = false by simpa using hb]; simp
    have hk : Rul.okIn f.2.1 t.2.1 x = true := by
      rw [hok, show (Rul.readO f.2.1 x.1 3).2 = true by simpa using g1, show (Rul.readO f.2.1 x.2.2.1 10).2 = true by simpa using g2, show (Rul.readO t.2.1 x.2.1 3).2 = true by simpa using g3]; rfl
    refine ⟨?_, ⟨by omega, by omega⟩, p + 1, ⟨by omega, by rw [hst, ha, hk]; rfl⟩, by omega, by omega, ?_⟩
    · rw [List.length_map, List.length_map, List.length_take, List.length_singleton]
      omega
    · rw [htk, List.map_append, List.map_append]; rfl
  · have hle : l.length ≤ p := by have := of_decide_eq_false hb; omega
    rw [List.take_of_length_le hle] at ha ⊢
    unfold openB
    rw [if_pos (by rw [hvl]; exact ha)]
set_option maxRecDepth 100000 in
theorem validp_vc (r : Rul.Rules) (f t : AlP) (h : cValidP.pre (r, f, t)) :
    /-VC fun (r : Rul.Rules) (f t : AlP) => vcOf Tryz.prog [cOpen] [] cValidP Tryz.f12 (r, f, t) -/
    (FewR (r.fst, r.snd.fst, r.snd.snd) ∧ FewP (f.fst, f.snd.fst, f.snd.snd) ∧ FewP (t.fst, t.snd.fst, t.snd.snd)) ∧ (openB ((r.fst, r.snd.fst, r.snd.snd), (f.fst, f.snd.fst, f.snd.snd), t.fst,
    t.snd.fst, t.snd.snd)).snd = Rul.validB r (alOf f) (alOf t)
    /-CV-/ := by
  refine ⟨h, ?_⟩
  show (openB (r, f, t)).2 = _
  unfold openB
  cases Rul.validB r (alOf f) (alOf t) <;> rfl
set_option maxRecDepth 100000 in
theorem stands_vc (x1 x2 x3 : List UInt8) (x4 : Bool) (f n rest : List Int) (h : cStands.pre ((x1, x2, x3, x4, f, n), rest)) :
    /-VC fun (x1 x2 x3 : List UInt8) (x4 : Bool) (f n rest : List Int) => vcOf Tryz.prog [cEqI, cContI] [] cStands Tryz.f36 ((x1, x2, x3, x4, f, n), rest) -/
    bif decide ((↑rest.length : Int) < (↑f.length : Int)) then false = Rul.standsB (toOp (x1, x2, x3, x4, f, n)) rest else ((0 : Int) ≤ (0 : Int) ∧ (0 : Int) ≤ (↑f.length : Int) ∧ (↑f.length :
    Int) ≤ (↑rest.length : Int)) ∧ (f.length ≤ (1000000 : Nat) ∧ (List.drop (Int.toNat (0 : Int)) (List.take (↑f.length : Int).toNat rest)).length ≤ (1000000 : Nat)) ∧ bif !f == List.drop
    (Int.toNat (0 : Int)) (List.take (↑f.length : Int).toNat rest) then false = Rul.standsB (toOp (x1, x2, x3, x4, f, n)) rest else bif x4 then ((↑f.length : Int) == (↑rest.length : Int)) =
    Rul.standsB (toOp (x1, x2, x3, x4, f, n)) rest else bif decide ((0 : Int) < (↑n.length : Int)) then bif decide ((↑f.length : Int) < (↑rest.length : Int)) then ((0 : Int) ≤ (↑f.length : Int)
    ∧ (↑f.length : Int) < (↑rest.length : Int)) ∧ n.length ≤ (1000000 : Nat) ∧ n.contains (rest.getD (↑f.length : Int).toNat (0 : Int)) = Rul.standsB (toOp (x1, x2, x3, x4, f, n)) rest else
    false = Rul.standsB (toOp (x1, x2, x3, x4, f, n)) rest else true = Rul.standsB (toOp (x1, x2, x3, x4, f, n)) rest
    /-CV-/ := by
  obtain ⟨hf, hn, hr⟩ := h
  have hf : f.length ≤ 1000000 := hf
  have hn : n.length ≤ 1000000 := hn
  have hr : rest.length ≤ 1000000 := hr
  have hv : Rul.standsB (toOp (x1, x2, x3, x4, f, n)) rest = (decide (f.length ≤ rest.length) && (f == rest.take f.length &&
    (if x4 then f.length == rest.length else if n = [] then true else decide (f.length < rest.length) && n.contains (rest.getD f.length 0)))) := rfl
  rw [hv]
  have hti : ((f.length : Int).toNat) = f.length := rfl
  have htz : Int.toNat 0 = 0 := rfl
  simp only [hti, htz, List.drop_zero]
  refine bifP (fun hb => ?_) fun h1 => ⟨⟨by omega, by omega, by have := of_decide_eq_false h1; omega⟩, ⟨hf, by rw [List.length_take]; omega⟩, bifP (fun hb => ?_) fun h2 => ?_⟩
  · rw [decide_eq_false (p := f.length ≤ rest.length) (by have := of_decide_eq_true hb; omega)]; rfl
  · rw [show (f == rest.take f.length) = false by simpa using hb]; simp
  have hle : f.length ≤ rest.length := by have := of_decide_eq_false h1; omega
  rw [decide_eq_true hle, show (f == rest.take f.length) = true by simpa using h2, Bool.true_and, Bool.true_and]
  refine bifP (fun h3 => ?_) fun h3 => ?_
  · have h3 : x4 = true := h3
    rw [if_pos h3, Bool.eq_iff_iff, beq_iff_eq, beq_iff_eq]; omega
  · have h3 : x4 = false := h3
    rw [if_neg (by rw [h3]; exact Bool.noConfusion)]
    refine bifP (fun h4 => ?_) fun h4 => ?_
    · have h4 : 0 < n.length := by have := of_decide_eq_true h4; omega
      rw [if_neg (fun e => by rw [e] at h4; cases h4)]
      refine bifP (fun h5 => ⟨⟨by omega, by have := of_decide_eq_true h5; omega⟩, hn, ?_⟩) fun h5 => ?_
      · rw [decide_eq_true (p := f.length < rest.length) (by have := of_decide_eq_true h5; omega), Bool.true_and]
      · rw [decide_eq_false (p := f.length < rest.length) (by have := of_decide_eq_false h5; omega), Bool.false_and]
    · have h4 : n = [] := List.eq_nil_of_length_eq_zero (by have := of_decide_eq_false h4; omega)
      rw [if_pos h4]
set_option maxRecDepth 100000 in
theorem isname_holds : cIsName.Holds Tryz.prog := by
  refine holdsF (cons := [cLex]) Tryz.func83 (by kernel_rfl) (by kernel_rfl) mixed (by kernel_rfl) (fun c h => by obtain rfl := List.mem_singleton.1 h; exact lex_holds) (fun _ => []) fun p hp => ?_
  refine cast ?_ (isname_vc p hp)
  kernel_rfl
set_option maxRecDepth 100000 in
theorem readr_holds : cReadR.Holds Tryz.prog := by
  refine holdsF (cons := [cPRead]) Tryz.func59 (by kernel_rfl) (by kernel_rfl) mixed (by kernel_rfl) (fun c h => by obtain rfl := List.mem_singleton.1 h; exact pread_holds) (fun _ => []) fun p hp => ?_
  obtain ⟨a, s, most⟩ := p
  refine cast ?_ (readr_vc a s most hp)
  kernel_rfl
set_option maxRecDepth 100000 in
theorem stands_holds : cStands.Holds Tryz.prog := by
  refine holdsF (cons := [cEqI, cContI]) Tryz.func36 (by kernel_rfl) (by kernel_rfl) mixed (by kernel_rfl) (fun c h => by
    rcases List.mem_cons.1 h with rfl | h
    · exact eqI_holds
    · obtain rfl := List.mem_singleton.1 h; exact contI_holds) (fun _ => []) fun p hp => ?_
  obtain ⟨⟨x1, x2, x3, x4, f, n⟩, rest⟩ := p
  refine cast ?_ (stands_vc x1 x2 x3 x4 f n rest hp)
  kernel_rfl
end Go.Proofs.YtldnfdghkdibmaaGreatDoor

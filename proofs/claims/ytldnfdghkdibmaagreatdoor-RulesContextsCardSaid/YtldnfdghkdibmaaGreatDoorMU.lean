/-
  Several texts in one: RuM, RuN, RuO, RuQ.
-/
import Derived.Test.YtldnfdghkdibmaaGreatDoorRuC
import Derived.Test.YtldnfdghkdibmaaGreatDoorMP
/-
  Layer 11: the parser's methods as contracts over its variable.
-/
set_option linter.unusedVariables false
namespace Go.Proofs.YtldnfdghkdibmaaGreatDoor
open Go.RowKit
open R
abbrev kPs : Kds := .cons (.sl kTok) (.one (.int .i64))
abbrev kFlt : Kds := .cons (.int .i64) (.one (.int .i64))
abbrev PsP : Type := List Rul.TP × Int
def panE {α : Type} : Except Rul.Flt α → Option (Int × Int)
  | .error x => some x
  | .ok _ => none
def resE {α β : Type} (d : β) (g : α → β) : Except Rul.Flt α → β
  | .error _ => d
  | .ok a => g a
def okPs (p : PsP) : Prop := List.length p.1 ≤ 100000
def cNext : RCon := { f := 78, ks := kPs, args := [], res := [.agg kTok], pre := fun _ _ => True, F := fun x _ => (Rul.nextT x.2 x.1, x) }
def takeP (x : PsP) (p : Int × List UInt8) : Except Rul.Flt (Rul.TP × List Rul.TP) := Rul.takeM x.2 p.1 p.2 x.1
def cTake : RCon := { f := 77, ks := kPs, args := [ckInt, ckStr], res := [.agg kTok], pre := fun _ _ => True, F := fun (x : PsP) p => resE ((0, 0, 0, []), x) (fun y => (y.1, (y.2, x.2))) (takeP x p), panics := true, pt := 90, pks := kFlt, pan := fun (x : PsP) p => panE (takeP x p) }
def textP (x : PsP) (p : Int × Int) : Except Rul.Flt (List UInt8 × List Rul.TP) := Rul.textM x.2 p.1 p.2 x.1
def smallT (x : PsP) : Prop := List.length x.1 ≤ 1000000 ∧ ∀ t ∈ x.1, List.length t.2.2.2 ≤ 1000000000
def cText : RCon := { f := 106, ks := kPs, args := [ckInt, ckInt], res := [ckStr], pre := fun (x : PsP) _ => smallT x, F := fun (x : PsP) p => resE ([], x) (fun y => (y.1, (y.2, x.2))) (textP x p), panics := true, pt := 90, pks := kFlt, pan := fun (x : PsP) p => panE (textP x p) }
def ruleP (x : PsP) : Except Rul.Flt (Rul.Rule × List Rul.TP) := Rul.ruleM x.2 x.1
def cRule : RCon := { f := 79, ks := kPs, args := [], res := [ckRule], pre := fun (x : PsP) _ => smallT x, F := fun (x : PsP) _ => resE (([], [], [], false), x) (fun y => (y.1, (y.2, x.2))) (ruleP x), panics := true, pt := 90, pks := kFlt, pan := fun (x : PsP) _ => panE (ruleP x) }
def rulesP (x : PsP) : Except Rul.Flt Rul.Rules := Rul.rulesM x.2 x.1
def cRules : RCon := { f := 43, ks := kPs, args := [], res := [ckRules], pre := fun (x : PsP) _ => smallT x, F := fun (x : PsP) _ => (resE ([], [], []) id (rulesP x), ([], x.2)), panics := true, pt := 90, pks := kFlt, pan := fun (x : PsP) _ => panE (rulesP x) }
def ruleRow (l : List Rul.Rule) : Row := ⟨36, kRule, l⟩
def R.box3 (st : St) : List Cell :=
  match st.box 3 with
  | some (a :: b :: _) => [a, b, .own 67]
  | _ => []
def R.box2 (st : St) : List Cell :=
  match st.box 2 with
  | some l => l
  | _ => []
def inRules (ts : List Rul.TP) (e : Int) (acc : List Rul.Rule) (us : List Rul.TP) : Prop :=
  ((Rul.headM e ts).bind fun x => Rul.listM (x.2.2.length + 1) e [] x.2.2) = Rul.listM (us.length + 1) e acc us ∧ smallT (us, e) ∧ acc.length ≤ 80 ∧ acc.all Rul.okRule = true ∧ Rul.once acc = true
def anRules (ts : List Rul.TP) (e : Int) : List (Nat × Ann) :=
  [(0, { ι := List Rul.Rule × List Rul.TP, at_ := fun st p => { st.head [0, 2, 3, 4] [] [(67, ruleRow p.1)] with boxes := [(0, kPs.cells (p.2, e)), (3, R.box3 st), (2, R.box2 st)], maps := [(22, seenRow p.1)] }, inv := fun _ p => inRules ts e p.1 p.2, mu := fun _ p => p.2.length })]
end Go.Proofs.YtldnfdghkdibmaaGreatDoor

/-
  Layer 11: the parser's methods: what they do.
-/
set_option linter.unusedVariables false
namespace Go.Proofs.YtldnfdghkdibmaaGreatDoor
open Go.RowKit
open R
set_option maxRecDepth 100000 in
theorem next_vc (ts : List Rul.TP) (e : Int) :
    /-VC fun (ts : List Rul.TP) (e : Int) => vcRef Tryz.prog [] [] [] (fun _ => []) [] cNext Tryz.f78 (ts, e) () -/
    bif (↑ts.length : Int) == (0 : Int) then True ∧ ((0 : Int), e, (0 : Int), []) = Rul.nextT e ts ∧ (ts, e) = (ts, e) else ((0 : Int) ≤ (0 : Int) ∧ (0 : Int) < (↑ts.length : Int)) ∧ True ∧
    ((ts.getD (Int.toNat (0 : Int)) ((0 : Int), (0 : Int), (0 : Int), [])).fst, (ts.getD (Int.toNat (0 : Int)) ((0 : Int), (0 : Int), (0 : Int), [])).snd.fst, (ts.getD (Int.toNat (0 : Int)) ((0
    : Int), (0 : Int), (0 : Int), [])).snd.snd.fst, (ts.getD (Int.toNat (0 : Int)) ((0 : Int), (0 : Int), (0 : Int), [])).snd.snd.snd) = Rul.nextT e ts ∧ (ts, e) = (ts, e)
    /-CV-/ := by
  simp only [true_and, and_true]
  cases ts with
  | nil => rfl
  | cons t r =>
    rw [show (((t :: r).length : Int) == 0) = false from beq_eq_false_iff_ne.2 (by rw [List.length_cons]; omega)]
    exact ⟨⟨by omega, by rw [List.length_cons]; omega⟩, rfl⟩
set_option maxRecDepth 100000 in
theorem take_vc (ts : List Rul.TP) (e k : Int) (s : List UInt8) :
    /-VC fun (ts : List Rul.TP) (e k : Int) (s : List UInt8) => vcRef Tryz.prog [] [cNext] [] (fun _ => []) [] cTake Tryz.f77 (ts, e) (k, s) -/
    True ∧ ∀ (r : Int × Int × Int × List UInt8) (y : List (Int × Int × Int × List UInt8) × Int), (Rul.nextT e ts, ts, e) = (r, y) → bif r.fst == (0 : Int) then panE (takeP (ts, e) (k, s)) = some
    ((6 : Int), y.snd) else bif r.fst != k then panE (takeP (ts, e) (k, s)) = some ((5 : Int), r.snd.fst) else bif !s == [] then bif !r.snd.snd.snd == s then panE (takeP (ts, e) (k, s)) = some
    ((5 : Int), r.snd.fst) else ((0 : Int) ≤ (1 : Int) ∧ (1 : Int) ≤ (↑y.fst.length : Int) ∧ (↑y.fst.length : Int) ≤ (↑y.fst.length : Int)) ∧ panE (takeP (ts, e) (k, s)) = none ∧ (r.fst,
    r.snd.fst, r.snd.snd.fst, r.snd.snd.snd) = (resE (((0 : Int), (0 : Int), (0 : Int), []), ts, e) (fun (y : Rul.TP × List Rul.TP) => (y.fst, y.snd, e)) (takeP (ts, e) (k, s))).fst ∧ (List.drop
    (Int.toNat (1 : Int)) (List.take (↑y.fst.length : Int).toNat y.fst), y.snd) = (resE (((0 : Int), (0 : Int), (0 : Int), []), ts, e) (fun (y : Rul.TP × List Rul.TP) => (y.fst, y.snd, e))
    (takeP (ts, e) (k, s))).snd else ((0 : Int) ≤ (1 : Int) ∧ (1 : Int) ≤ (↑y.fst.length : Int) ∧ (↑y.fst.length : Int) ≤ (↑y.fst.length : Int)) ∧ panE (takeP (ts, e) (k, s)) = none ∧ (r.fst,
    r.snd.fst, r.snd.snd.fst, r.snd.snd.snd) = (resE (((0 : Int), (0 : Int), (0 : Int), []), ts, e) (fun (y : Rul.TP × List Rul.TP) => (y.fst, y.snd, e)) (takeP (ts, e) (k, s))).fst ∧ (List.drop
    (Int.toNat (1 : Int)) (List.take (↑y.fst.length : Int).toNat y.fst), y.snd) = (resE (((0 : Int), (0 : Int), (0 : Int), []), ts, e) (fun (y : Rul.TP × List Rul.TP) => (y.fst, y.snd, e))
    (takeP (ts, e) (k, s))).snd
    /-CV-/ := by
  simp only [true_and, and_true]
  have hT : takeP (ts, e) (k, s) = Rul.takeM e k s ts := rfl
  rw [hT]
  unfold Rul.takeM
  intro r y hry
  obtain ⟨rfl, rfl⟩ := Prod.mk.inj hry
  clear hry
  dsimp only
  cases ts with
  | nil => exact rfl
  | cons t r =>
    have hl : ((0 : Int) ≤ (1 : Int) ∧ (1 : Int) ≤ ((t :: r).length : Int) ∧ ((t :: r).length : Int) ≤ ((t :: r).length : Int)) := ⟨by omega, by rw [List.length_cons]; omega, by omega⟩
    have hd : List.drop (Int.toNat 1) (List.take ((t :: r).length : Int).toNat (t :: r)) = r := by
      rw [show ((t :: r).length : Int).toNat = (t :: r).length from rfl, List.take_length]; rfl
    rw [hd]
    cases h1 : ((Rul.nextT e (t :: r)).1 == 0)
    · rw [if_neg (by simp)]
      cases h2 : ((Rul.nextT e (t :: r)).1 != k)
      · have h2' : ((Rul.nextT e (t :: r)).1 == k) = true := by simpa using h2
        rw [h2']
        cases h3 : (s == [])
        · cases h4 : ((Rul.nextT e (t :: r)).2.2.2 == s)
          · exact rfl
          · exact ⟨hl, rfl, rfl, rfl⟩
        · exact ⟨hl, rfl, rfl, rfl⟩
      · have h2' : ((Rul.nextT e (t :: r)).1 == k) = false := by simpa using h2
        rw [h2']
        exact rfl
    · exact rfl
set_option maxRecDepth 100000 in
theorem text_vc (ts : List Rul.TP) (e lo hi : Int) (h : smallT (ts, e)) :
    /-VC fun (ts : List Rul.TP) (e lo hi : Int) => vcRef Tryz.prog [cPlain] [cTake] [] (fun _ => []) [] cText Tryz.f106 (ts, e) (lo, hi) -/
    True ∧ (∀ (y : Int × Int), panE (takeP (ts, e) ((3 : Int), [])) = some y → panE (textP (ts, e) (lo, hi)) = some y) ∧ (panE (takeP (ts, e) ((3 : Int), [])) = none → ∀ (r : Int × Int × Int ×
    List UInt8) (y : List (Int × Int × Int × List UInt8) × Int), resE (((0 : Int), (0 : Int), (0 : Int), []), ts, e) (fun (y : Rul.TP × List Rul.TP) => (y.fst, y.snd, e)) (takeP (ts, e) ((3 :
    Int), [])) = (r, y) → r.snd.snd.snd.length ≤ (1000000000 : Nat) ∧ bif !Rul.plainB r.snd.snd.snd lo hi then panE (textP (ts, e) (lo, hi)) = some ((1 : Int), r.snd.fst) else panE (textP (ts,
    e) (lo, hi)) = none ∧ r.snd.snd.snd = (resE ([], ts, e) (fun (y : List UInt8 × List Rul.TP) => (y.fst, y.snd, e)) (textP (ts, e) (lo, hi))).fst ∧ (y.fst, y.snd) = (resE ([], ts, e) (fun (y :
    List UInt8 × List Rul.TP) => (y.fst, y.snd, e)) (textP (ts, e) (lo, hi))).snd)
    /-CV-/ := by
  simp only [true_and, and_true]
  have hT : textP (ts, e) (lo, hi) = (Rul.takeM e 3 [] ts).bind fun x => if Rul.plainB x.1.2.2.2 lo hi then .ok (x.1.2.2.2, x.2) else .error (1, x.1.2.1) := rfl
  have hU : takeP (ts, e) (3, []) = Rul.takeM e 3 [] ts := rfl
  rw [hT, hU]
  cases h1 : Rul.takeM e 3 [] ts with
  | error x => exact ⟨fun y h => h, fun h => by cases h⟩
  | ok a =>
    refine ⟨fun y h => (by cases h), fun _ r y hry => ?_⟩
    obtain ⟨rfl, rfl⟩ := Prod.mk.inj (show (a.1, (a.2, e)) = (r, y) from hry)
    refine ⟨?_, ?_⟩
    · obtain ⟨r, rfl, _⟩ := Rul.takeM_ok h1
      exact h.2 _ List.mem_cons_self
    · show bif !Rul.plainB a.1.2.2.2 lo hi then panE (Except.bind (.ok a) _) = _ else _
      rw [show ((Except.ok a : Except Rul.Flt (Rul.TP × List Rul.TP)).bind fun x => if Rul.plainB x.1.2.2.2 lo hi then Except.ok (x.1.2.2.2, x.2) else Except.error ((1, x.1.2.1) : Rul.Flt)) = (if Rul.plainB a.1.2.2.2 lo hi then Except.ok (a.1.2.2.2, a.2) else Except.error ((1, a.1.2.1) : Rul.Flt)) from rfl]
      cases h2 : Rul.plainB a.1.2.2.2 lo hi
      · exact rfl
      · exact ⟨rfl, rfl, rfl⟩
set_option maxRecDepth 100000 in
theorem next_holds : cNext.Holds Tryz.prog := by
  refine holdsRef (cons := []) (rcs := []) (inls := []) (annsI := fun _ => []) cNext Tryz.func78 (by kernel_rfl) (by kernel_rfl) mixed (by kernel_rfl) (fun c h => by cases h) (fun c h => by cases h) InlFacts.nil (fun _ _ => []) fun b p hp => ?_
  obtain ⟨ts, e⟩ := b
  refine cast ?_ (next_vc ts e)
  kernel_rfl
set_option maxRecDepth 100000 in
theorem take_holds : cTake.Holds Tryz.prog := by
  refine holdsRef (cons := []) (rcs := [cNext]) (inls := []) (annsI := fun _ => []) cTake Tryz.func77 (by kernel_rfl) (by kernel_rfl) mixed (by kernel_rfl) (fun c h => by cases h) (fun c h => by obtain rfl := List.mem_singleton.1 h; exact next_holds) InlFacts.nil (fun _ _ => []) fun b p hp => ?_
  obtain ⟨ts, e⟩ := b
  obtain ⟨k, s⟩ := p
  refine cast ?_ (take_vc ts e k s)
  kernel_rfl
set_option maxRecDepth 100000 in
theorem text_holds : cText.Holds Tryz.prog := by
  refine holdsRef (cons := [cPlain]) (rcs := [cTake]) (inls := []) (annsI := fun _ => []) cText Tryz.func106 (by kernel_rfl) (by kernel_rfl) mixed (by kernel_rfl) (fun c h => by obtain rfl := List.mem_singleton.1 h; exact plain_holds) (fun c h => by obtain rfl := List.mem_singleton.1 h; exact take_holds) InlFacts.nil (fun _ _ => []) fun b p hp => ?_
  obtain ⟨ts, e⟩ := b
  obtain ⟨lo, hi⟩ := p
  refine cast ?_ (text_vc ts e lo hi hp)
  kernel_rfl
end Go.Proofs.YtldnfdghkdibmaaGreatDoor

/-
  Layer 11: the parser's rule and rules: what they do.
-/
set_option linter.unusedVariables false
namespace Go.Proofs.YtldnfdghkdibmaaGreatDoor
open Go.RowKit
open R
theorem stepE {α β R Y : Type} (X : Except Rul.Flt α) (k : α → Except Rul.Flt β) (Z : Except Rul.Flt β) (hZ : Z = X.bind k) (d : R × Y) (g : α → R × Y) (Q : R → Y → Prop) (h : ∀ a, X = .ok a → Z = k a → Q (g a).1 (g a).2) :
    (∀ y, panE X = some y → panE Z = some y) ∧ (panE X = none → ∀ r y, resE d g X = (r, y) → Q r y) := by
  subst hZ
  cases X with
  | error x => exact ⟨fun y h => h, fun h => by cases h⟩
  | ok a =>
    refine ⟨fun y h => (by cases h), fun _ r y hry => ?_⟩
    have hry : g a = (r, y) := hry
    have := h a rfl rfl
    rw [hry] at this
    exact this
theorem small_take {ts : List Rul.TP} {e k : Int} {s : List UInt8} {a : Rul.TP × List Rul.TP} (h : smallT (ts, e)) (ha : Rul.takeM e k s ts = .ok a) : smallT (a.2, e) := by
  obtain ⟨r, rfl, hr, _⟩ := Rul.takeM_ok ha
  rw [hr]
  have h1 : (a.1 :: r).length ≤ 1000000 := h.1
  rw [List.length_cons] at h1
  exact ⟨by show r.length ≤ _; omega, fun t ht => h.2 t (List.mem_cons_of_mem _ ht)⟩
theorem small_text {ts : List Rul.TP} {e lo hi : Int} {a : List UInt8 × List Rul.TP} (h : smallT (ts, e)) (ha : Rul.textM e lo hi ts = .ok a) : smallT (a.2, e) := by
  obtain ⟨t, r, rfl, rfl, _⟩ := Rul.textM_ok ha
  have h1 : (t :: r).length ≤ 1000000 := h.1
  rw [List.length_cons] at h1
  exact ⟨by show r.length ≤ _; omega, fun t ht => h.2 t (List.mem_cons_of_mem _ ht)⟩
set_option maxRecDepth 100000 in
theorem rule_vc (ts : List Rul.TP) (e : Int) (h : smallT (ts, e)) :
    /-VC fun (ts : List Rul.TP) (e : Int) => vcRef Tryz.prog [] [cNext, cTake, cText] [(105, Tryz.f105)] (fun _ => []) [] cRule Tryz.f79 (ts, e) () -/
    smallT (ts, e) ∧ (∀ (y : Int × Int), panE (textP (ts, e) ((1 : Int), (9 : Int))) = some y → panE (ruleP (ts, e)) = some y) ∧ (panE (textP (ts, e) ((1 : Int), (9 : Int))) = none → ∀ (r : List
    UInt8) (y : List (Int × Int × Int × List UInt8) × Int), resE ([], ts, e) (fun (y : List UInt8 × List Rul.TP) => (y.fst, y.snd, e)) (textP (ts, e) ((1 : Int), (9 : Int))) = (r, y) → True ∧ (∀
    (y_1 : Int × Int), panE (takeP (y.fst, y.snd) ((1 : Int), [(116 : UInt8), (111 : UInt8)])) = some y_1 → panE (ruleP (ts, e)) = some y_1) ∧ (panE (takeP (y.fst, y.snd) ((1 : Int), [(116 :
    UInt8), (111 : UInt8)])) = none → ∀ (r_1 : Int × Int × Int × List UInt8) (y_1 : List (Int × Int × Int × List UInt8) × Int), resE (((0 : Int), (0 : Int), (0 : Int), []), y.fst, y.snd) (fun
    (y_2 : Rul.TP × List Rul.TP) => (y_2.fst, y_2.snd, y.snd)) (takeP (y.fst, y.snd) ((1 : Int), [(116 : UInt8), (111 : UInt8)])) = (r_1, y_1) → smallT (y_1.fst, y_1.snd) ∧ (∀ (y : Int × Int),
    panE (textP (y_1.fst, y_1.snd) ((0 : Int), (9 : Int))) = some y → panE (ruleP (ts, e)) = some y) ∧ (panE (textP (y_1.fst, y_1.snd) ((0 : Int), (9 : Int))) = none → ∀ (r_2 : List UInt8) (y :
    List (Int × Int × Int × List UInt8) × Int), resE ([], y_1.fst, y_1.snd) (fun (y : List UInt8 × List Rul.TP) => (y.fst, y.snd, y_1.snd)) (textP (y_1.fst, y_1.snd) ((0 : Int), (9 : Int))) =
    (r_2, y) → True ∧ ∀ (r_3 : Int × Int × Int × List UInt8) (y_2 : List (Int × Int × Int × List UInt8) × Int), (Rul.nextT y.snd y.fst, y.fst, y.snd) = (r_3, y_2) → bif r_3.fst == (1 : Int) then
    bif r_3.snd.snd.snd == [(98 : UInt8), (101 : UInt8), (102 : UInt8), (111 : UInt8), (114 : UInt8), (101 : UInt8)] then True ∧ (∀ (y : Int × Int), panE (takeP (y_2.fst, y_2.snd) ((1 : Int),
    [(98 : UInt8), (101 : UInt8), (102 : UInt8), (111 : UInt8), (114 : UInt8), (101 : UInt8)])) = some y → panE (ruleP (ts, e)) = some y) ∧ (panE (takeP (y_2.fst, y_2.snd) ((1 : Int), [(98 :
    UInt8), (101 : UInt8), (102 : UInt8), (111 : UInt8), (114 : UInt8), (101 : UInt8)])) = none → ∀ (r_4 : Int × Int × Int × List UInt8) (y : List (Int × Int × Int × List UInt8) × Int), resE
    (((0 : Int), (0 : Int), (0 : Int), []), y_2.fst, y_2.snd) (fun (y : Rul.TP × List Rul.TP) => (y.fst, y.snd, y_2.snd)) (takeP (y_2.fst, y_2.snd) ((1 : Int), [(98 : UInt8), (101 : UInt8), (102
    : UInt8), (111 : UInt8), (114 : UInt8), (101 : UInt8)])) = (r_4, y) → smallT (y.fst, y.snd) ∧ (∀ (y_3 : Int × Int), panE (textP (y.fst, y.snd) ((1 : Int), (30 : Int))) = some y_3 → panE
    (ruleP (ts, e)) = some y_3) ∧ (panE (textP (y.fst, y.snd) ((1 : Int), (30 : Int))) = none → ∀ (r_5 : List UInt8) (y_3 : List (Int × Int × Int × List UInt8) × Int), resE ([], y.fst, y.snd)
    (fun (y_4 : List UInt8 × List Rul.TP) => (y_4.fst, y_4.snd, y.snd)) (textP (y.fst, y.snd) ((1 : Int), (30 : Int))) = (r_5, y_3) → panE (ruleP (ts, e)) = none ∧ (r, r_2, r_5, false) = (resE
    (([], [], [], false), ts, e) (fun (y : Rul.Rule × List Rul.TP) => (y.fst, y.snd, e)) (ruleP (ts, e))).fst ∧ (y_3.fst, y_3.snd) = (resE (([], [], [], false), ts, e) (fun (y : Rul.Rule × List
    Rul.TP) => (y.fst, y.snd, e)) (ruleP (ts, e))).snd)) else bif r_3.snd.snd.snd == [(97 : UInt8), (116 : UInt8)] then True ∧ (∀ (y : Int × Int), panE (takeP (y_2.fst, y_2.snd) ((1 : Int), [(97
    : UInt8), (116 : UInt8)])) = some y → panE (ruleP (ts, e)) = some y) ∧ (panE (takeP (y_2.fst, y_2.snd) ((1 : Int), [(97 : UInt8), (116 : UInt8)])) = none → ∀ (r_4 : Int × Int × Int × List
    UInt8) (y : List (Int × Int × Int × List UInt8) × Int), resE (((0 : Int), (0 : Int), (0 : Int), []), y_2.fst, y_2.snd) (fun (y : Rul.TP × List Rul.TP) => (y.fst, y.snd, y_2.snd)) (takeP
    (y_2.fst, y_2.snd) ((1 : Int), [(97 : UInt8), (116 : UInt8)])) = (r_4, y) → True ∧ (∀ (y_3 : Int × Int), panE (takeP (y.fst, y.snd) ((1 : Int), [(101 : UInt8), (110 : UInt8), (100 :
    UInt8)])) = some y_3 → panE (ruleP (ts, e)) = some y_3) ∧ (panE (takeP (y.fst, y.snd) ((1 : Int), [(101 : UInt8), (110 : UInt8), (100 : UInt8)])) = none → ∀ (r_5 : Int × Int × Int × List
    UInt8) (y_3 : List (Int × Int × Int × List UInt8) × Int), resE (((0 : Int), (0 : Int), (0 : Int), []), y.fst, y.snd) (fun (y_4 : Rul.TP × List Rul.TP) => (y_4.fst, y_4.snd, y.snd)) (takeP
    (y.fst, y.snd) ((1 : Int), [(101 : UInt8), (110 : UInt8), (100 : UInt8)])) = (r_5, y_3) → panE (ruleP (ts, e)) = none ∧ (r, r_2, [], true) = (resE (([], [], [], false), ts, e) (fun (y :
    Rul.Rule × List Rul.TP) => (y.fst, y.snd, e)) (ruleP (ts, e))).fst ∧ (y_3.fst, y_3.snd) = (resE (([], [], [], false), ts, e) (fun (y : Rul.Rule × List Rul.TP) => (y.fst, y.snd, e)) (ruleP
    (ts, e))).snd)) else panE (ruleP (ts, e)) = none ∧ (r, r_2, [], false) = (resE (([], [], [], false), ts, e) (fun (y : Rul.Rule × List Rul.TP) => (y.fst, y.snd, e)) (ruleP (ts, e))).fst ∧
    (y_2.fst, y_2.snd) = (resE (([], [], [], false), ts, e) (fun (y : Rul.Rule × List Rul.TP) => (y.fst, y.snd, e)) (ruleP (ts, e))).snd else panE (ruleP (ts, e)) = none ∧ (r, r_2, [], false) =
    (resE (([], [], [], false), ts, e) (fun (y : Rul.Rule × List Rul.TP) => (y.fst, y.snd, e)) (ruleP (ts, e))).fst ∧ (y_2.fst, y_2.snd) = (resE (([], [], [], false), ts, e) (fun (y : Rul.Rule ×
    List Rul.TP) => (y.fst, y.snd, e)) (ruleP (ts, e))).snd)))
    /-CV-/ := by
  simp only [true_and, and_true]
  refine ⟨h, stepE _ (fun (x : List UInt8 × List Rul.TP) => (Rul.takeM e 1 Rul.wTo x.2).bind fun y => (Rul.textM e 0 9 y.2).bind fun z => Rul.tailM e x.1 z.1 z.2) (ruleP (ts, e)) rfl _ _ _ fun a ha hz => ?_⟩
  have h1 : smallT (a.2, e) := small_text h ha
  dsimp only
  refine stepE _ (fun (y : Rul.TP × List Rul.TP) => (Rul.textM e 0 9 y.2).bind fun z => Rul.tailM e a.1 z.1 z.2) _ hz _ _ _ fun b hb hz => ?_
  have h2 : smallT (b.2, e) := small_take h1 hb
  dsimp only
  refine ⟨h2, stepE _ (fun (z : List UInt8 × List Rul.TP) => Rul.tailM e a.1 z.1 z.2) _ hz _ _ _ fun c hc hz => ?_⟩
  have h3 : smallT (c.2, e) := small_text h2 hc
  dsimp only
  intro r y hry
  obtain ⟨rfl, rfl⟩ := Prod.mk.inj hry
  clear hry
  dsimp only
  unfold Rul.tailM at hz
  refine bifP (fun n1 => ?_) fun n1 => ?_
  · rw [if_pos n1] at hz
    refine bifP (fun n2 => ?_) fun n2 => ?_
    · rw [if_pos n2] at hz
      refine stepE _ (fun (x : Rul.TP × List Rul.TP) => (Rul.textM e 1 30 x.2).bind fun y => .ok ((a.1, c.1, y.1, false), y.2)) _ hz _ _ _ fun b hb hz => ?_
      have h2 : smallT (b.2, e) := small_take h3 hb
      dsimp only
      refine ⟨h2, stepE _ (fun (y : List UInt8 × List Rul.TP) => .ok ((a.1, c.1, y.1, false), y.2)) _ hz _ _ _ fun b hb hz => ?_⟩
      rw [hz]
      exact ⟨rfl, rfl, rfl⟩
    · rw [if_neg (by rw [n2]; simp)] at hz
      refine bifP (fun n3 => ?_) fun n3 => ?_
      · rw [if_pos n3] at hz
        refine stepE _ (fun (x : Rul.TP × List Rul.TP) => (Rul.takeM e 1 Rul.wEnd x.2).bind fun y => .ok ((a.1, c.1, [], true), y.2)) _ hz _ _ _ fun b hb hz => ?_
        dsimp only
        refine stepE _ (fun (y : Rul.TP × List Rul.TP) => .ok ((a.1, c.1, [], true), y.2)) _ hz _ _ _ fun b hb hz => ?_
        rw [hz]
        exact ⟨rfl, rfl, rfl⟩
      · rw [if_neg (by rw [n3]; simp)] at hz
        rw [hz]
        exact ⟨rfl, rfl, rfl⟩
  · rw [if_neg (by rw [n1]; simp)] at hz
    rw [hz]
    exact ⟨rfl, rfl, rfl⟩
set_option maxRecDepth 100000 in
theorem rule_holds : cRule.Holds Tryz.prog := by
  refine holdsRef (cons := []) (rcs := [cNext, cTake, cText]) (inls := [(105, Tryz.f105)]) (annsI := fun _ => []) cRule Tryz.func79 (by kernel_rfl) (by kernel_rfl) mixed (by kernel_rfl) (fun c h => by cases h) (fun c h => by
    rcases List.mem_cons.1 h with rfl | h
    · exact next_holds
    rcases List.mem_cons.1 h with rfl | h
    · exact take_holds
    obtain rfl := List.mem_singleton.1 h; exact text_holds) (InlFacts.more Tryz.func105 (by kernel_rfl) (by kernel_rfl) InlFacts.nil) (fun _ _ => []) fun b p hp => ?_
  obtain ⟨ts, e⟩ := b
  refine cast ?_ (rule_vc ts e hp)
  kernel_rfl
end Go.Proofs.YtldnfdghkdibmaaGreatDoor

/-
  Layer 11: the parser's rules: what it does.
-/
set_option linter.unusedVariables false
namespace Go.Proofs.YtldnfdghkdibmaaGreatDoor
open Go.RowKit
open R
theorem e_assoc {α β γ : Type} (x : Except Rul.Flt α) (f : α → Except Rul.Flt β) (g : β → Except Rul.Flt γ) : (x.bind f).bind g = x.bind fun a => (f a).bind g := by cases x <;> rfl
theorem e_ok {α β : Type} (x : α) (f : α → Except Rul.Flt β) : (Except.ok x : Except Rul.Flt α).bind f = f x := rfl
theorem rules_out (e : Int) (ts : List Rul.TP) : rulesP (ts, e) = (Rul.takeM e 1 Rul.wRules ts).bind fun x => (Rul.takeM e 1 [] x.2).bind fun a => (Rul.takeM e 1 Rul.wTo a.2).bind fun y => (Rul.takeM e 1 [] y.2).bind fun b =>
    (Rul.takeM e 4 [59] b.2).bind fun z => (Rul.listM (z.2.length + 1) e [] z.2).bind fun l => .ok (a.1.2.2.2, b.1.2.2.2, l) := by
  show Rul.rulesM e ts = _
  unfold Rul.rulesM Rul.headM
  simp only [e_assoc, e_ok]
theorem bind_ok {α β : Type} {x : Except Rul.Flt α} {f : α → Except Rul.Flt β} {b : β} (h : x.bind f = .ok b) : ∃ a, x = .ok a ∧ f a = .ok b := by
  cases x with
  | error e => cases h
  | ok a => exact ⟨a, rfl, h⟩
theorem small_rule {ts : List Rul.TP} {e : Int} {a : Rul.Rule × List Rul.TP} (h : smallT (ts, e)) (ha : Rul.ruleM e ts = .ok a) : smallT (a.2, e) := by
  unfold Rul.ruleM at ha
  obtain ⟨x, hx, ha⟩ := bind_ok ha
  obtain ⟨y, hy, ha⟩ := bind_ok ha
  obtain ⟨z, hz, ha⟩ := bind_ok ha
  have s := small_text (small_take (small_text h hx) hy) hz
  unfold Rul.tailM at ha
  split at ha
  · split at ha
    · obtain ⟨u, hu, ha⟩ := bind_ok ha
      obtain ⟨v, hv, ha⟩ := bind_ok ha
      injection ha with ha; subst ha
      exact small_text (small_take s hu) hv
    · split at ha
      · obtain ⟨u, hu, ha⟩ := bind_ok ha
        obtain ⟨v, hv, ha⟩ := bind_ok ha
        injection ha with ha; subst ha
        exact small_take (small_take s hu) hv
      · injection ha with ha; subst ha; exact s
  · injection ha with ha; subst ha; exact s
set_option maxRecDepth 100000 in
theorem rules_vc (ts : List Rul.TP) (e : Int) (h : smallT (ts, e)) :
    /-VC fun (ts : List Rul.TP) (e : Int) => vcRef Tryz.prog [] [cNext, cTake, cRule] [] (fun _ => []) (anRules ts e) cRules Tryz.f43 (ts, e) () -/
    True ∧ (∀ (y : Int × Int), panE (takeP (ts, e) ((1 : Int), [(114 : UInt8), (117 : UInt8), (108 : UInt8), (101 : UInt8), (115 : UInt8)])) = some y → panE (rulesP (ts, e)) = some y) ∧ (panE
    (takeP (ts, e) ((1 : Int), [(114 : UInt8), (117 : UInt8), (108 : UInt8), (101 : UInt8), (115 : UInt8)])) = none → ∀ (r : Int × Int × Int × List UInt8) (y : List (Int × Int × Int × List
    UInt8) × Int), resE (((0 : Int), (0 : Int), (0 : Int), []), ts, e) (fun (y : Rul.TP × List Rul.TP) => (y.fst, y.snd, e)) (takeP (ts, e) ((1 : Int), [(114 : UInt8), (117 : UInt8), (108 :
    UInt8), (101 : UInt8), (115 : UInt8)])) = (r, y) → True ∧ (∀ (y_1 : Int × Int), panE (takeP (y.fst, y.snd) ((1 : Int), [])) = some y_1 → panE (rulesP (ts, e)) = some y_1) ∧ (panE (takeP
    (y.fst, y.snd) ((1 : Int), [])) = none → ∀ (r : Int × Int × Int × List UInt8) (y_1 : List (Int × Int × Int × List UInt8) × Int), resE (((0 : Int), (0 : Int), (0 : Int), []), y.fst, y.snd)
    (fun (y_2 : Rul.TP × List Rul.TP) => (y_2.fst, y_2.snd, y.snd)) (takeP (y.fst, y.snd) ((1 : Int), [])) = (r, y_1) → True ∧ (∀ (y : Int × Int), panE (takeP (y_1.fst, y_1.snd) ((1 : Int),
    [(116 : UInt8), (111 : UInt8)])) = some y → panE (rulesP (ts, e)) = some y) ∧ (panE (takeP (y_1.fst, y_1.snd) ((1 : Int), [(116 : UInt8), (111 : UInt8)])) = none → ∀ (r_1 : Int × Int × Int ×
    List UInt8) (y : List (Int × Int × Int × List UInt8) × Int), resE (((0 : Int), (0 : Int), (0 : Int), []), y_1.fst, y_1.snd) (fun (y : Rul.TP × List Rul.TP) => (y.fst, y.snd, y_1.snd)) (takeP
    (y_1.fst, y_1.snd) ((1 : Int), [(116 : UInt8), (111 : UInt8)])) = (r_1, y) → True ∧ (∀ (y_2 : Int × Int), panE (takeP (y.fst, y.snd) ((1 : Int), [])) = some y_2 → panE (rulesP (ts, e)) =
    some y_2) ∧ (panE (takeP (y.fst, y.snd) ((1 : Int), [])) = none → ∀ (r_2 : Int × Int × Int × List UInt8) (y_2 : List (Int × Int × Int × List UInt8) × Int), resE (((0 : Int), (0 : Int), (0 :
    Int), []), y.fst, y.snd) (fun (y_3 : Rul.TP × List Rul.TP) => (y_3.fst, y_3.snd, y.snd)) (takeP (y.fst, y.snd) ((1 : Int), [])) = (r_2, y_2) → True ∧ (∀ (y : Int × Int), panE (takeP
    (y_2.fst, y_2.snd) ((4 : Int), [(59 : UInt8)])) = some y → panE (rulesP (ts, e)) = some y) ∧ (panE (takeP (y_2.fst, y_2.snd) ((4 : Int), [(59 : UInt8)])) = none → ∀ (r_3 : Int × Int × Int ×
    List UInt8) (y : List (Int × Int × Int × List UInt8) × Int), resE (((0 : Int), (0 : Int), (0 : Int), []), y_2.fst, y_2.snd) (fun (y : Rul.TP × List Rul.TP) => (y.fst, y.snd, y_2.snd)) (takeP
    (y_2.fst, y_2.snd) ((4 : Int), [(59 : UInt8)])) = (r_3, y) → (∃ (p' : List Rul.Rule × List Rul.TP), inRules ts e p'.fst p'.snd ∧ (True ∧ True ∧ True ∧ True ∧ True) ∧ ((y.fst = p'.snd ∧ y.snd
    = e ∧ True) ∧ (r.snd.snd.snd = r.snd.snd.snd ∧ r_2.snd.snd.snd = r_2.snd.snd.snd ∧ True ∧ True) ∧ (([] : List UInt8) = [] ∧ ([] : List UInt8) = [] ∧ True ∧ True) ∧ True) ∧ (p'.fst = [] ∧
    True) ∧ True ∧ ([] = List.map (fun (x : List UInt8 × List UInt8 × List UInt8 × Bool) => (x, true)) p'.fst ∧ True) ∧ (True ∧ True) ∧ True ∧ True) ∧ ∀ (p : List Rul.Rule × List Rul.TP),
    inRules ts e p.fst p.snd → bif (↑p.fst.length : Int) == (0 : Int) then True ∧ ∀ (r_4 : Int × Int × Int × List UInt8) (y : List (Int × Int × Int × List UInt8) × Int), (Rul.nextT e p.snd,
    p.snd, e) = (r_4, y) → bif (↑p.fst.length : Int) == (80 : Int) then bif r_4.fst == (3 : Int) then panE (rulesP (ts, e)) = some ((2 : Int), r_4.snd.fst) else smallT (y.fst, y.snd) ∧ (∀ (y_3 :
    Int × Int), panE (ruleP (y.fst, y.snd)) = some y_3 → panE (rulesP (ts, e)) = some y_3) ∧ (panE (ruleP (y.fst, y.snd)) = none → ∀ (r_5 : List UInt8 × List UInt8 × List UInt8 × Bool) (y_3 :
    List (Int × Int × Int × List UInt8) × Int), resE (([], [], [], false), y.fst, y.snd) (fun (y_4 : Rul.Rule × List Rul.TP) => (y_4.fst, y_4.snd, y.snd)) (ruleP (y.fst, y.snd)) = (r_5, y_3) →
    True ∧ (∀ (y : Int × Int), panE (takeP (y_3.fst, y_3.snd) ((4 : Int), [(59 : UInt8)])) = some y → panE (rulesP (ts, e)) = some y) ∧ (panE (takeP (y_3.fst, y_3.snd) ((4 : Int), [(59 :
    UInt8)])) = none → ∀ (r_6 : Int × Int × Int × List UInt8) (y : List (Int × Int × Int × List UInt8) × Int), resE (((0 : Int), (0 : Int), (0 : Int), []), y_3.fst, y_3.snd) (fun (y : Rul.TP ×
    List Rul.TP) => (y.fst, y.snd, y_3.snd)) (takeP (y_3.fst, y_3.snd) ((4 : Int), [(59 : UInt8)])) = (r_6, y) → bif (Mp.get (fun (x x_1 : List UInt8 × List UInt8 × List UInt8 × Bool) => x.fst
    == x_1.fst && (x.snd.fst == x_1.snd.fst && (x.snd.snd.fst == x_1.snd.snd.fst && x.snd.snd.snd == x_1.snd.snd.snd))) (r_5.fst, r_5.snd.fst, r_5.snd.snd.fst, r_5.snd.snd.snd) (List.map (fun (x
    : List UInt8 × List UInt8 × List UInt8 × Bool) => (x, true)) p.fst)).getD false then panE (rulesP (ts, e)) = some ((8 : Int), r_6.snd.fst) else (p.fst.length + [(r_5.fst, r_5.snd.fst,
    r_5.snd.snd.fst, r_5.snd.snd.snd)].length) * (56 : Nat) ≤ (140737488355328 : Nat) ∧ ∃ (p' : List Rul.Rule × List Rul.TP), inRules ts e p'.fst p'.snd ∧ p'.snd.length < p.snd.length ∧ (True ∧
    True ∧ True ∧ True ∧ True) ∧ ((y.fst = p'.snd ∧ y.snd = e ∧ True) ∧ (r.snd.snd.snd = r.snd.snd.snd ∧ r_2.snd.snd.snd = r_2.snd.snd.snd ∧ True ∧ True) ∧ (([] : List UInt8) = [] ∧ ([] : List
    UInt8) = [] ∧ True ∧ True) ∧ True) ∧ (p.fst ++ [(r_5.fst, r_5.snd.fst, r_5.snd.snd.fst, r_5.snd.snd.snd)] = p'.fst ∧ True) ∧ True ∧ (Mp.put (fun (x x_1 : List UInt8 × List UInt8 × List UInt8
    × Bool) => x.fst == x_1.fst && (x.snd.fst == x_1.snd.fst && (x.snd.snd.fst == x_1.snd.snd.fst && x.snd.snd.snd == x_1.snd.snd.snd))) (r_5.fst, r_5.snd.fst, r_5.snd.snd.fst, r_5.snd.snd.snd)
    true (List.map (fun (x : List UInt8 × List UInt8 × List UInt8 × Bool) => (x, true)) p.fst) = List.map (fun (x : List UInt8 × List UInt8 × List UInt8 × Bool) => (x, true)) p'.fst ∧ True) ∧
    (True ∧ True) ∧ True ∧ True)) else smallT (y.fst, y.snd) ∧ (∀ (y_3 : Int × Int), panE (ruleP (y.fst, y.snd)) = some y_3 → panE (rulesP (ts, e)) = some y_3) ∧ (panE (ruleP (y.fst, y.snd)) =
    none → ∀ (r_5 : List UInt8 × List UInt8 × List UInt8 × Bool) (y_3 : List (Int × Int × Int × List UInt8) × Int), resE (([], [], [], false), y.fst, y.snd) (fun (y_4 : Rul.Rule × List Rul.TP)
    => (y_4.fst, y_4.snd, y.snd)) (ruleP (y.fst, y.snd)) = (r_5, y_3) → True ∧ (∀ (y : Int × Int), panE (takeP (y_3.fst, y_3.snd) ((4 : Int), [(59 : UInt8)])) = some y → panE (rulesP (ts, e)) =
    some y) ∧ (panE (takeP (y_3.fst, y_3.snd) ((4 : Int), [(59 : UInt8)])) = none → ∀ (r_6 : Int × Int × Int × List UInt8) (y : List (Int × Int × Int × List UInt8) × Int), resE (((0 : Int), (0 :
    Int), (0 : Int), []), y_3.fst, y_3.snd) (fun (y : Rul.TP × List Rul.TP) => (y.fst, y.snd, y_3.snd)) (takeP (y_3.fst, y_3.snd) ((4 : Int), [(59 : UInt8)])) = (r_6, y) → bif (Mp.get (fun (x
    x_1 : List UInt8 × List UInt8 × List UInt8 × Bool) => x.fst == x_1.fst && (x.snd.fst == x_1.snd.fst && (x.snd.snd.fst == x_1.snd.snd.fst && x.snd.snd.snd == x_1.snd.snd.snd))) (r_5.fst,
    r_5.snd.fst, r_5.snd.snd.fst, r_5.snd.snd.snd) (List.map (fun (x : List UInt8 × List UInt8 × List UInt8 × Bool) => (x, true)) p.fst)).getD false then panE (rulesP (ts, e)) = some ((8 : Int),
    r_6.snd.fst) else (p.fst.length + [(r_5.fst, r_5.snd.fst, r_5.snd.snd.fst, r_5.snd.snd.snd)].length) * (56 : Nat) ≤ (140737488355328 : Nat) ∧ ∃ (p' : List Rul.Rule × List Rul.TP), inRules ts
    e p'.fst p'.snd ∧ p'.snd.length < p.snd.length ∧ (True ∧ True ∧ True ∧ True ∧ True) ∧ ((y.fst = p'.snd ∧ y.snd = e ∧ True) ∧ (r.snd.snd.snd = r.snd.snd.snd ∧ r_2.snd.snd.snd =
    r_2.snd.snd.snd ∧ True ∧ True) ∧ (([] : List UInt8) = [] ∧ ([] : List UInt8) = [] ∧ True ∧ True) ∧ True) ∧ (p.fst ++ [(r_5.fst, r_5.snd.fst, r_5.snd.snd.fst, r_5.snd.snd.snd)] = p'.fst ∧
    True) ∧ True ∧ (Mp.put (fun (x x_1 : List UInt8 × List UInt8 × List UInt8 × Bool) => x.fst == x_1.fst && (x.snd.fst == x_1.snd.fst && (x.snd.snd.fst == x_1.snd.snd.fst && x.snd.snd.snd ==
    x_1.snd.snd.snd))) (r_5.fst, r_5.snd.fst, r_5.snd.snd.fst, r_5.snd.snd.snd) true (List.map (fun (x : List UInt8 × List UInt8 × List UInt8 × Bool) => (x, true)) p.fst) = List.map (fun (x :
    List UInt8 × List UInt8 × List UInt8 × Bool) => (x, true)) p'.fst ∧ True) ∧ (True ∧ True) ∧ True ∧ True)) else bif decide ((0 : Int) < (↑p.snd.length : Int)) then True ∧ ∀ (r_4 : Int × Int ×
    Int × List UInt8) (y : List (Int × Int × Int × List UInt8) × Int), (Rul.nextT e p.snd, p.snd, e) = (r_4, y) → bif (↑p.fst.length : Int) == (80 : Int) then bif r_4.fst == (3 : Int) then panE
    (rulesP (ts, e)) = some ((2 : Int), r_4.snd.fst) else smallT (y.fst, y.snd) ∧ (∀ (y_3 : Int × Int), panE (ruleP (y.fst, y.snd)) = some y_3 → panE (rulesP (ts, e)) = some y_3) ∧ (panE (ruleP
    (y.fst, y.snd)) = none → ∀ (r_5 : List UInt8 × List UInt8 × List UInt8 × Bool) (y_3 : List (Int × Int × Int × List UInt8) × Int), resE (([], [], [], false), y.fst, y.snd) (fun (y_4 :
    Rul.Rule × List Rul.TP) => (y_4.fst, y_4.snd, y.snd)) (ruleP (y.fst, y.snd)) = (r_5, y_3) → True ∧ (∀ (y : Int × Int), panE (takeP (y_3.fst, y_3.snd) ((4 : Int), [(59 : UInt8)])) = some y →
    panE (rulesP (ts, e)) = some y) ∧ (panE (takeP (y_3.fst, y_3.snd) ((4 : Int), [(59 : UInt8)])) = none → ∀ (r_6 : Int × Int × Int × List UInt8) (y : List (Int × Int × Int × List UInt8) ×
    Int), resE (((0 : Int), (0 : Int), (0 : Int), []), y_3.fst, y_3.snd) (fun (y : Rul.TP × List Rul.TP) => (y.fst, y.snd, y_3.snd)) (takeP (y_3.fst, y_3.snd) ((4 : Int), [(59 : UInt8)])) =
    (r_6, y) → bif (Mp.get (fun (x x_1 : List UInt8 × List UInt8 × List UInt8 × Bool) => x.fst == x_1.fst && (x.snd.fst == x_1.snd.fst && (x.snd.snd.fst == x_1.snd.snd.fst && x.snd.snd.snd ==
    x_1.snd.snd.snd))) (r_5.fst, r_5.snd.fst, r_5.snd.snd.fst, r_5.snd.snd.snd) (List.map (fun (x : List UInt8 × List UInt8 × List UInt8 × Bool) => (x, true)) p.fst)).getD false then panE
    (rulesP (ts, e)) = some ((8 : Int), r_6.snd.fst) else (p.fst.length + [(r_5.fst, r_5.snd.fst, r_5.snd.snd.fst, r_5.snd.snd.snd)].length) * (56 : Nat) ≤ (140737488355328 : Nat) ∧ ∃ (p' : List
    Rul.Rule × List Rul.TP), inRules ts e p'.fst p'.snd ∧ p'.snd.length < p.snd.length ∧ (True ∧ True ∧ True ∧ True ∧ True) ∧ ((y.fst = p'.snd ∧ y.snd = e ∧ True) ∧ (r.snd.snd.snd =
    r.snd.snd.snd ∧ r_2.snd.snd.snd = r_2.snd.snd.snd ∧ True ∧ True) ∧ (([] : List UInt8) = [] ∧ ([] : List UInt8) = [] ∧ True ∧ True) ∧ True) ∧ (p.fst ++ [(r_5.fst, r_5.snd.fst,
    r_5.snd.snd.fst, r_5.snd.snd.snd)] = p'.fst ∧ True) ∧ True ∧ (Mp.put (fun (x x_1 : List UInt8 × List UInt8 × List UInt8 × Bool) => x.fst == x_1.fst && (x.snd.fst == x_1.snd.fst &&
    (x.snd.snd.fst == x_1.snd.snd.fst && x.snd.snd.snd == x_1.snd.snd.snd))) (r_5.fst, r_5.snd.fst, r_5.snd.snd.fst, r_5.snd.snd.snd) true (List.map (fun (x : List UInt8 × List UInt8 × List
    UInt8 × Bool) => (x, true)) p.fst) = List.map (fun (x : List UInt8 × List UInt8 × List UInt8 × Bool) => (x, true)) p'.fst ∧ True) ∧ (True ∧ True) ∧ True ∧ True)) else smallT (y.fst, y.snd) ∧
    (∀ (y_3 : Int × Int), panE (ruleP (y.fst, y.snd)) = some y_3 → panE (rulesP (ts, e)) = some y_3) ∧ (panE (ruleP (y.fst, y.snd)) = none → ∀ (r_5 : List UInt8 × List UInt8 × List UInt8 × Bool)
    (y_3 : List (Int × Int × Int × List UInt8) × Int), resE (([], [], [], false), y.fst, y.snd) (fun (y_4 : Rul.Rule × List Rul.TP) => (y_4.fst, y_4.snd, y.snd)) (ruleP (y.fst, y.snd)) = (r_5,
    y_3) → True ∧ (∀ (y : Int × Int), panE (takeP (y_3.fst, y_3.snd) ((4 : Int), [(59 : UInt8)])) = some y → panE (rulesP (ts, e)) = some y) ∧ (panE (takeP (y_3.fst, y_3.snd) ((4 : Int), [(59 :
    UInt8)])) = none → ∀ (r_6 : Int × Int × Int × List UInt8) (y : List (Int × Int × Int × List UInt8) × Int), resE (((0 : Int), (0 : Int), (0 : Int), []), y_3.fst, y_3.snd) (fun (y : Rul.TP ×
    List Rul.TP) => (y.fst, y.snd, y_3.snd)) (takeP (y_3.fst, y_3.snd) ((4 : Int), [(59 : UInt8)])) = (r_6, y) → bif (Mp.get (fun (x x_1 : List UInt8 × List UInt8 × List UInt8 × Bool) => x.fst
    == x_1.fst && (x.snd.fst == x_1.snd.fst && (x.snd.snd.fst == x_1.snd.snd.fst && x.snd.snd.snd == x_1.snd.snd.snd))) (r_5.fst, r_5.snd.fst, r_5.snd.snd.fst, r_5.snd.snd.snd) (List.map (fun (x
    : List UInt8 × List UInt8 × List UInt8 × Bool) => (x, true)) p.fst)).getD false then panE (rulesP (ts, e)) = some ((8 : Int), r_6.snd.fst) else (p.fst.length + [(r_5.fst, r_5.snd.fst,
    r_5.snd.snd.fst, r_5.snd.snd.snd)].length) * (56 : Nat) ≤ (140737488355328 : Nat) ∧ ∃ (p' : List Rul.Rule × List Rul.TP), inRules ts e p'.fst p'.snd ∧ p'.snd.length < p.snd.length ∧ (True ∧
    True ∧ True ∧ True ∧ True) ∧ ((y.fst = p'.snd ∧ y.snd = e ∧ True) ∧ (r.snd.snd.snd = r.snd.snd.snd ∧ r_2.snd.snd.snd = r_2.snd.snd.snd ∧ True ∧ True) ∧ (([] : List UInt8) = [] ∧ ([] : List
    UInt8) = [] ∧ True ∧ True) ∧ True) ∧ (p.fst ++ [(r_5.fst, r_5.snd.fst, r_5.snd.snd.fst, r_5.snd.snd.snd)] = p'.fst ∧ True) ∧ True ∧ (Mp.put (fun (x x_1 : List UInt8 × List UInt8 × List UInt8
    × Bool) => x.fst == x_1.fst && (x.snd.fst == x_1.snd.fst && (x.snd.snd.fst == x_1.snd.snd.fst && x.snd.snd.snd == x_1.snd.snd.snd))) (r_5.fst, r_5.snd.fst, r_5.snd.snd.fst, r_5.snd.snd.snd)
    true (List.map (fun (x : List UInt8 × List UInt8 × List UInt8 × Bool) => (x, true)) p.fst) = List.map (fun (x : List UInt8 × List UInt8 × List UInt8 × Bool) => (x, true)) p'.fst ∧ True) ∧
    (True ∧ True) ∧ True ∧ True)) else panE (rulesP (ts, e)) = none ∧ (r.snd.snd.snd, r_2.snd.snd.snd, p.fst) = resE ([], [], []) id (rulesP (ts, e)) ∧ (p.snd, e) = ([], e))))))
    /-CV-/ := by
  simp only [true_and, and_true]
  refine stepE _ (fun (x : Rul.TP × List Rul.TP) => (Rul.takeM e 1 [] x.2).bind fun a => (Rul.takeM e 1 Rul.wTo a.2).bind fun y => (Rul.takeM e 1 [] y.2).bind fun b =>
    (Rul.takeM e 4 [59] b.2).bind fun z => (Rul.listM (z.2.length + 1) e [] z.2).bind fun l => .ok (a.1.2.2.2, b.1.2.2.2, l)) (rulesP (ts, e)) (rules_out e ts) _ _ _ fun x hx hz => ?_
  have hx : Rul.takeM e 1 Rul.wRules ts = .ok x := hx
  have s1 := small_take h hx
  dsimp only
  refine stepE _ (fun (a : Rul.TP × List Rul.TP) => (Rul.takeM e 1 Rul.wTo a.2).bind fun y => (Rul.takeM e 1 [] y.2).bind fun b =>
    (Rul.takeM e 4 [59] b.2).bind fun z => (Rul.listM (z.2.length + 1) e [] z.2).bind fun l => .ok (a.1.2.2.2, b.1.2.2.2, l)) _ hz _ _ _ fun a ha hz => ?_
  have ha : Rul.takeM e 1 [] x.2 = .ok a := ha
  have s2 := small_take s1 ha
  dsimp only
  refine stepE _ (fun (y : Rul.TP × List Rul.TP) => (Rul.takeM e 1 [] y.2).bind fun b =>
    (Rul.takeM e 4 [59] b.2).bind fun z => (Rul.listM (z.2.length + 1) e [] z.2).bind fun l => .ok (a.1.2.2.2, b.1.2.2.2, l)) _ hz _ _ _ fun y hy hz => ?_
  have hy : Rul.takeM e 1 Rul.wTo a.2 = .ok y := hy
  have s3 := small_take s2 hy
  dsimp only
  refine stepE _ (fun (b : Rul.TP × List Rul.TP) => (Rul.takeM e 4 [59] b.2).bind fun z => (Rul.listM (z.2.length + 1) e [] z.2).bind fun l => .ok (a.1.2.2.2, b.1.2.2.2, l)) _ hz _ _ _ fun b hb hz => ?_
  have hb : Rul.takeM e 1 [] y.2 = .ok b := hb
  have s4 := small_take s3 hb
  dsimp only
  refine stepE _ (fun (z : Rul.TP × List Rul.TP) => (Rul.listM (z.2.length + 1) e [] z.2).bind fun l => .ok (a.1.2.2.2, b.1.2.2.2, l)) _ hz _ _ _ fun z hzz hz => ?_
  have hzz : Rul.takeM e 4 [59] b.2 = .ok z := hzz
  have s5 := small_take s4 hzz
  dsimp only
  have hH : Rul.headM e ts = .ok (a.1.2.2.2, b.1.2.2.2, z.2) := by
    unfold Rul.headM
    simp only [hx, ha, hy, hb, hzz, e_ok]
  refine ⟨⟨([], z.2), ⟨by rw [hH]; rfl, s5, Nat.zero_le 80, rfl, rfl⟩, ⟨rfl, rfl⟩, rfl, rfl⟩, fun p hI => ?_⟩
  obtain ⟨acc, us⟩ := p
  obtain ⟨hl, hs, h80, hok, honce⟩ := hI
  dsimp only at hl hs h80 hok honce ⊢
  have hl : Rul.listM (z.2.length + 1) e [] z.2 = Rul.listM (us.length + 1) e acc us := by rw [hH] at hl; exact hl
  rw [hl] at hz
  have hz : rulesP (ts, e) = (if acc.length == 0 || decide (0 < us.length) then (Rul.moreM e acc us).bind fun x => Rul.listM us.length e x.1 x.2 else .ok acc).bind fun l => .ok (a.1.2.2.2, b.1.2.2.2, l) := hz
  have c0 : ((acc.length : Int) == 0) = (acc.length == 0) := by rw [Bool.eq_iff_iff, beq_iff_eq, beq_iff_eq]; omega
  have c8 : ((acc.length : Int) == 80) = (acc.length == 80) := by rw [Bool.eq_iff_iff, beq_iff_eq, beq_iff_eq]; omega
  have cu : decide ((0 : Int) < (us.length : Int)) = decide (0 < us.length) := decide_eq_decide.2 (by omega)
  rw [c0, c8, cu]
  have body : (acc.length == 0 || decide (0 < us.length)) = true → ((acc.length == 80 && (Rul.nextT e us).1 == 3) = true → rulesP (ts, e) = .error (2, (Rul.nextT e us).2.1)) ∧
      ((acc.length == 80 && (Rul.nextT e us).1 == 3) = false → rulesP (ts, e) = (Rul.ruleM e us).bind fun x => (Rul.takeM e 4 [59] x.2).bind fun y => if acc.contains x.1 then .error (8, y.1.2.1) else (Rul.listM us.length e (acc ++ [x.1]) y.2).bind fun l => .ok (a.1.2.2.2, b.1.2.2.2, l)) := fun hc => by
    rw [hz, if_pos hc]
    unfold Rul.moreM
    refine ⟨fun h => by rw [if_pos h]; rfl, fun h => ?_⟩
    rw [if_neg (by rw [h]; simp)]
    simp only [e_assoc]
    congr 1
    funext x
    congr 1
    funext y
    split <;> rfl
  have done : (acc.length == 0) = false → decide (0 < us.length) = false → rulesP (ts, e) = .ok (a.1.2.2.2, b.1.2.2.2, acc) := fun h1 h2 => by
    rw [hz, if_neg (by rw [h1, h2]; simp)]; rfl
  have hl2 : Rul.listM (z.2.length + 1) e [] z.2 = (if acc.length == 0 || decide (0 < us.length) then (Rul.moreM e acc us).bind fun x => Rul.listM us.length e x.1 x.2 else .ok acc) := hl
  clear hz hl hx ha hy hb hzz
  have hfuel : (acc.length == 0 || decide (0 < us.length)) = true → (acc.length == 80 && (Rul.nextT e us).1 == 3) = false → ∀ x y, Rul.ruleM e us = .ok x → Rul.takeM e 4 [59] x.2 = .ok y → acc.contains x.1 = false →
      inRules ts e (acc ++ [x.1]) y.2 ∧ y.2.length < us.length := fun hc0 hc x y hx hy hn => by
    have hm : Rul.moreM e acc us = .ok (acc ++ [x.1], y.2) := by
      unfold Rul.moreM
      rw [if_neg (by rw [hc]; simp), hx, e_ok, hy, e_ok, if_neg (by rw [hn]; simp)]
    obtain ⟨p1, p2, p3, p4, p5⟩ := Rul.moreM_ok hm h80 hok honce
    refine ⟨⟨?_, small_take (small_rule hs hx) hy, p3, p4, p5⟩, p1⟩
    rw [hH, e_ok, hl2, if_pos hc0, hm, e_ok]
    exact Rul.listM_fuel e _ _ _ _ p1 (Nat.lt_succ_self _) p3 p4 p5
  clear hl2 hH h hz
  refine bifP (fun g1 => ?_) fun g1 => bifP (fun g2 => ?_) fun g2 => ?_
  case refine_3 =>
    have hn : us = [] := List.eq_nil_of_length_eq_zero (by have := of_decide_eq_false g2; omega)
    rw [done g1 g2]
    subst hn
    exact ⟨rfl, rfl, rfl⟩
  all_goals
    have gc : (acc.length == 0 || decide (0 < us.length)) = true := by first | rw [g1, Bool.true_or] | rw [g2, Bool.or_true]
    obtain ⟨b1, b2⟩ := body gc
    have hfuel := hfuel gc
    intro r w hrw
    obtain ⟨rfl, rfl⟩ := Prod.mk.inj hrw
    clear hrw
    dsimp only
    refine bifP (fun g3 => bifP (fun g4 => ?_) fun g4 => ?_) fun g3 => ?_
    case' refine_1 =>
      rw [b1 (by rw [g3, g4]; rfl)]
      rfl
    all_goals
      have gd : (acc.length == 80 && (Rul.nextT e us).1 == 3) = false := by first | rw [g3, Bool.false_and] | rw [g4, Bool.and_false]
      refine ⟨hs, stepE _ (fun (x : Rul.Rule × List Rul.TP) => (Rul.takeM e 4 [59] x.2).bind fun y => if acc.contains x.1 then .error (8, y.1.2.1) else (Rul.listM us.length e (acc ++ [x.1]) y.2).bind fun l => .ok (a.1.2.2.2, b.1.2.2.2, l)) _ (b2 gd) _ _ _ fun x hx hz => ?_⟩
      dsimp only
      refine stepE _ (fun (y : Rul.TP × List Rul.TP) => if acc.contains x.1 then .error (8, y.1.2.1) else (Rul.listM us.length e (acc ++ [x.1]) y.2).bind fun l => .ok (a.1.2.2.2, b.1.2.2.2, l)) _ hz _ _ _ fun y hy hz => ?_
      dsimp only
      refine bifP (fun g5 => ?_) fun g5 => ?_
      · have g5 : acc.contains x.1 = true := (get_seen x.1 acc).symm.trans g5
        rw [hz, if_pos g5]; rfl
      · have g5 : acc.contains x.1 = false := (get_seen x.1 acc).symm.trans g5
        obtain ⟨q1, q2⟩ := hfuel gd x y hx hy g5
        exact ⟨by rw [List.length_singleton]; omega, (acc ++ [x.1], y.2), q1, q2, ⟨rfl, rfl⟩, rfl, put_seen x.1 acc g5⟩
set_option maxRecDepth 100000 in
theorem rules_holds : cRules.Holds Tryz.prog := by
  refine holdsRef (cons := []) (rcs := [cNext, cTake, cRule]) (inls := []) (annsI := fun _ => []) cRules Tryz.func43 (by kernel_rfl) (by kernel_rfl) mixed (by kernel_rfl) (fun c h => by cases h) (fun c h => by
    rcases List.mem_cons.1 h with rfl | h
    · exact next_holds
    rcases List.mem_cons.1 h with rfl | h
    · exact take_holds
    obtain rfl := List.mem_singleton.1 h; exact rule_holds) InlFacts.nil (fun b _ => anRules b.1 b.2) fun b p hp => ?_
  obtain ⟨ts, e⟩ := b
  refine cast ?_ (rules_vc ts e hp)
  kernel_rfl
end Go.Proofs.YtldnfdghkdibmaaGreatDoor

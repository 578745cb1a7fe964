/-
  Several texts in one: RuZE, RuZF, RuZK, RuZL, RuZM, RuZP, RuZQ, RuZR, RuZU, RuZS.
-/
import Derived.Test.YtldnfdghkdibmaaGreatDoorRuZC
import Derived.Test.YtldnfdghkdibmaaGreatDoorPAlJoin
import Derived.Test.YtldnfdghkdibmaaGreatDoorMP
import Derived.Test.YtldnfdghkdibmaaGreatDoorRuF
/-
  Layer 11: find, among, RulesMore: contracts, loops.
-/
set_option linter.unusedVariables false
namespace Go.Proofs.YtldnfdghkdibmaaGreatDoor
open Go.RowKit
open R
def R.bx (st : St) (i : Nat) : Nat × List Cell := (i, match st.box i with
  | some l => l
  | none => [])
def R.bxOwn (st : St) (i r : Nat) : Nat × List Cell := (i, match st.box i with
  | some (a :: b :: _) => [a, b, .own r]
  | _ => [])
def findI (s : List UInt8) : List (List UInt8) → Int → Int
  | [], _ => -1
  | x :: r, i => if x == s then i else findI s r (i + 1)
def cFind : Con := .of 22 [ckStrs, ckStr] [ckInt] (fun p => List.length p.1 ≤ 1000000000) (fun p => findI p.2 p.1 0)
def anFind (l : List (List UInt8)) (s : List UInt8) : List (Nat × Ann) := [ann 0 Nat [0, 1] (fun k => [(5, R.int .i64 k)]) (fun k => k ≤ l.length ∧ (l.take k).contains s = false) (fun k => l.length - k)]
def amongB (a b : List (List UInt8)) : Bool := a.all fun x => b.contains x
def cAmong : Con := .of 16 [ckStrs, ckStrs] [.one .bool] (fun p => List.length p.1 ≤ 1000000000 ∧ List.length p.2 ≤ 1000000000) (fun p => amongB p.1 p.2)
def anAmong (a b : List (List UInt8)) : List (Nat × Ann) := [ann 0 Nat [0, 1] (fun k => [(5, R.int .i64 k)]) (fun k => k ≤ a.length ∧ amongB (a.take k) b = true) (fun k => a.length - k)]
def cMore : Con := .of 4 [ckRules, ckAl, ckAl, ckStr, ckRule] [.one .bool] (fun p => BigR p.1 ∧ BigA p.2.1 ∧ BigA p.2.2.1 ∧ CK.Big ckStr p.2.2.2.1 ∧ CK.Big ckRule p.2.2.2.2) (fun _ => true)
def anMore (l : List Rul.Rule) : List (Nat × Ann) :=
  [(0, { ι := Nat, at_ := fun st p => { st.head [3, 5, 6, 7, 9, 11, 12, 13, 14] [(15, R.int .i64 ((l.length : Int) - 1 - p))] [(76, ruleRow (l.reverse.take p))] with boxes := [R.bxOwn st 14 76, R.bx st 5, R.bx st 6, R.bx st 7, R.bx st 9] }, inv := fun _ p => p ≤ l.length, mu := fun _ p => l.length - p })]
def consMore : List Con := [cHead11, cFewA11, cWrit, cTexts, cValidP, cAmong]
theorem findI_mem (s : List UInt8) : ∀ (l : List (List UInt8)) (i : Int), 0 ≤ i → (findI s l i < 0 ↔ l.contains s = false)
  | [], i, h => by simp [findI]
  | x :: r, i, h => by
    unfold findI
    rw [List.contains_cons]
    by_cases e : x = s
    · subst e
      rw [if_pos (by simp)]
      simp; omega
    · rw [if_neg (by rw [beq_iff_eq]; exact e), findI_mem s r (i + 1) (by omega), show (s == x) = false from beq_eq_false_iff_ne.2 (Ne.symm e), Bool.false_or]
theorem findI_at (s : List UInt8) : ∀ (l : List (List UInt8)) (i : Int) (k : Nat) (x : List UInt8), l[k]? = some x → x = s → (l.take k).contains s = false → findI s l i = i + k
  | [], i, k, x, h, _, _ => by cases h
  | y :: r, i, 0, x, h, hx, _ => by
    injection h with h; subst h; subst hx
    unfold findI; rw [if_pos (by simp)]; simp
  | y :: r, i, k + 1, x, h, hx, hc => by
    rw [List.take_succ_cons, List.contains_cons, Bool.or_eq_false_iff] at hc
    have hne : (y == s) = false := by rw [beq_eq_false_iff_ne]; exact fun e => (beq_eq_false_iff_ne.1 hc.1) e.symm
    unfold findI
    rw [hne, if_neg Bool.noConfusion, findI_at s r (i + 1) k x h hx hc.2]
    omega
theorem findI_none (s : List UInt8) (l : List (List UInt8)) (h : l.contains s = false) : findI s l 0 = -1 := by
  have : ∀ (l : List (List UInt8)) (i : Int), l.contains s = false → findI s l i = -1 := by
    intro l
    induction l with
    | nil => intro i _; rfl
    | cons y r ih =>
      intro i h
      rw [List.contains_cons, Bool.or_eq_false_iff] at h
      have hne : (y == s) = false := by rw [beq_eq_false_iff_ne]; exact fun e => (beq_eq_false_iff_ne.1 h.1) e.symm
      unfold findI
      rw [hne, if_neg Bool.noConfusion]
      exact ih _ h.2
  exact this l 0 h
theorem contains_more {l : List (List UInt8)} {k : Nat} {x s : List UInt8} (hx : l[k]? = some x) (h : (l.take k).contains s = false) (hne : (x == s) = false) : (l.take (k + 1)).contains s = false := by
  rw [List.take_add_one, hx]
  have : (s == x) = false := by rw [beq_eq_false_iff_ne]; exact fun e => (beq_eq_false_iff_ne.1 hne) e.symm
  cases hh : (List.take k l ++ (some x).toList).contains s
  · rfl
  · rw [List.contains_iff_mem] at hh
    rcases List.mem_append.1 hh with hm | hm
    · rw [List.contains_iff_mem.2 hm] at h; cases h
    · have hm : s = x := by simpa using hm
      exact absurd hm (beq_eq_false_iff_ne.1 this)
end Go.Proofs.YtldnfdghkdibmaaGreatDoor

/-
  Layer 11: find, among; RulesMore.
-/
set_option linter.unusedVariables false
namespace Go.Proofs.YtldnfdghkdibmaaGreatDoor
open Go.RowKit
open R
set_option maxRecDepth 100000 in
theorem find_vc (l : List (List UInt8)) (s : List UInt8) (h : cFind.pre (l, s)) :
    /-VC fun (l : List (List UInt8)) (s : List UInt8) => vcOf Tryz.prog [] (anFind l s) cFind Tryz.f22 (l, s) -/
    (∃ (p' : Nat), (p' ≤ l.length ∧ (List.take p' l).contains s = false) ∧ ((0 : Int) = (↑p' : Int) ∧ l = l ∧ s = s ∧ True) ∧ True ∧ True ∧ True ∧ True ∧ True ∧ True ∧ True) ∧ ∀ (p : Nat), p ≤
    l.length ∧ (List.take p l).contains s = false → bif decide ((↑p : Int) < (↑l.length : Int)) then ((0 : Int) ≤ (↑p : Int) ∧ (↑p : Int) < (↑l.length : Int)) ∧ bif l.getD (↑p : Int).toNat [] ==
    s then (↑p : Int) = findI s l (0 : Int) else ((-9223372036854775808 : Int) ≤ (↑p : Int) + (1 : Int) ∧ (↑p : Int) + (1 : Int) ≤ (9223372036854775807 : Int)) ∧ ∃ (p' : Nat), (p' ≤ l.length ∧
    (List.take p' l).contains s = false) ∧ l.length - p' < l.length - p ∧ ((↑p : Int) + (1 : Int) = (↑p' : Int) ∧ l = l ∧ s = s ∧ True) ∧ True ∧ True ∧ True ∧ True ∧ True ∧ True ∧ True else (-1
    : Int) = findI s l (0 : Int)
    /-CV-/ := by
  simp only [true_and, and_true]
  have hl : l.length ≤ 1000000000 := h
  refine ⟨⟨0, ⟨Nat.zero_le _, rfl⟩, rfl⟩, fun p hp => bifP (fun hb => ?_) fun hb => ?_⟩
  · have hlt : p < l.length := by have := of_decide_eq_true hb; omega
    have hx := getD_some l [] p hlt
    have q : ((p : Int)).toNat = p := rfl
    rw [q]
    refine ⟨⟨by omega, by omega⟩, bifP (fun he => ?_) fun he => ⟨⟨by omega, by omega⟩, p + 1, ⟨by omega, contains_more hx hp.2 he⟩, by omega, by omega⟩⟩
    have := findI_at s l 0 p _ hx (beq_iff_eq.1 he) hp.2
    show (p : Int) = findI s l 0
    omega
  · have hle : l.length ≤ p := by have := of_decide_eq_false hb; omega
    have hc := hp.2
    rw [List.take_of_length_le hle] at hc
    exact (findI_none s l hc).symm
set_option maxRecDepth 100000 in
theorem find_holds : cFind.Holds Tryz.prog := by
  refine holdsF (cons := []) Tryz.func22 (by kernel_rfl) (by kernel_rfl) mixed (by kernel_rfl) (fun c h => by cases h) (fun p => anFind p.1 p.2) fun p hp => ?_
  obtain ⟨l, s⟩ := p
  refine cast ?_ (find_vc l s hp)
  kernel_rfl
set_option maxRecDepth 100000 in
theorem among_vc (a b : List (List UInt8)) (h : cAmong.pre (a, b)) :
    /-VC fun (a b : List (List UInt8)) => vcOf Tryz.prog [cFind] (anAmong a b) cAmong Tryz.f16 (a, b) -/
    (∃ (p' : Nat), (p' ≤ a.length ∧ amongB (List.take p' a) b = true) ∧ ((0 : Int) = (↑p' : Int) ∧ a = a ∧ b = b ∧ True) ∧ True ∧ True ∧ True ∧ True ∧ True ∧ True ∧ True) ∧ ∀ (p : Nat), p ≤
    a.length ∧ amongB (List.take p a) b = true → bif decide ((↑p : Int) < (↑a.length : Int)) then ((0 : Int) ≤ (↑p : Int) ∧ (↑p : Int) < (↑a.length : Int)) ∧ b.length ≤ (1000000000 : Nat) ∧ bif
    decide (findI (a.getD (↑p : Int).toNat []) b (0 : Int) < (0 : Int)) then false = amongB a b else ((-9223372036854775808 : Int) ≤ (↑p : Int) + (1 : Int) ∧ (↑p : Int) + (1 : Int) ≤
    (9223372036854775807 : Int)) ∧ ∃ (p' : Nat), (p' ≤ a.length ∧ amongB (List.take p' a) b = true) ∧ a.length - p' < a.length - p ∧ ((↑p : Int) + (1 : Int) = (↑p' : Int) ∧ a = a ∧ b = b ∧ True)
    ∧ True ∧ True ∧ True ∧ True ∧ True ∧ True ∧ True else true = amongB a b
    /-CV-/ := by
  simp only [true_and, and_true]
  obtain ⟨ha, hb⟩ := h
  have ha : a.length ≤ 1000000000 := ha
  have hb : b.length ≤ 1000000000 := hb
  refine ⟨⟨0, ⟨Nat.zero_le _, rfl⟩, rfl⟩, fun p hp => bifP (fun hc => ?_) fun hc => ?_⟩
  · have hlt : p < a.length := by have := of_decide_eq_true hc; omega
    have hx := getD_some a [] p hlt
    have q : ((p : Int)).toNat = p := rfl
    rw [q]
    have hm := List.mem_of_getElem? hx
    generalize a.getD p [] = x at *
    refine ⟨⟨by omega, by omega⟩, hb, bifP (fun he => ?_) fun he => ⟨⟨by omega, by omega⟩, p + 1, ⟨by omega, all_more hx hp.2 ?_⟩, by omega, by omega⟩⟩
    · exact (all_no hm ((findI_mem x b 0 (by omega)).1 (of_decide_eq_true he))).symm
    · cases hh : b.contains x
      · exact absurd ((findI_mem x b 0 (by omega)).2 hh) (of_decide_eq_false he)
      · rfl
  · have hle : a.length ≤ p := by have := of_decide_eq_false hc; omega
    have hq := hp.2
    rw [List.take_of_length_le hle] at hq
    exact hq.symm
set_option maxRecDepth 100000 in
theorem among_holds : cAmong.Holds Tryz.prog := by
  refine holdsF (cons := [cFind]) Tryz.func16 (by kernel_rfl) (by kernel_rfl) mixed (by kernel_rfl) (fun c h => by obtain rfl := List.mem_singleton.1 h; exact find_holds) (fun p => anAmong p.1 p.2) fun p hp => ?_
  obtain ⟨a, b⟩ := p
  refine cast ?_ (among_vc a b hp)
  kernel_rfl
end Go.Proofs.YtldnfdghkdibmaaGreatDoor

/-
  Layer 11: goes: contract, loop.
-/
set_option linter.unusedVariables false
namespace Go.Proofs.YtldnfdghkdibmaaGreatDoor
open Go.RowKit
open R
def goesF (L : List (List UInt8)) (x : Rul.Rule) (word : List Int) : Int × Bool :=
  if decide ((Al.readL L x.1).1.length ≤ word.length) && (Al.readL L x.1).1 == word.take (Al.readL L x.1).1.length then
    if x.2.2.2 || x.2.2.1 == [] then (((Al.readL L x.1).1.length : Int), !x.2.2.2 || (Al.readL L x.1).1.length == word.length)
    else if decide ((Al.readL L x.1).1.length < word.length) && (Al.readL L x.2.2.1).1.contains (word.getD (Al.readL L x.1).1.length 0) then (((Al.readL L x.1).1.length : Int), true) else (0, false)
  else (0, false)
def okGo (p : Rul.Rule × AlP × List Int) : Prop := FewP p.2.1 ∧ p.1.1.length ≤ 1000000 ∧ p.1.2.2.1.length ≤ 1000000 ∧ p.2.2.length ≤ 1000000 ∧ Al.validB (alOf p.2.1) = true ∧ (Al.readL p.2.1.2.1 p.1.1).2.1 = 0 ∧ (p.1.2.2.1 = [] ∨ (Al.readL p.2.1.2.1 p.1.2.2.1).2.1 = 0)
def cGoes : Con := .of 20 [ckRule, ckAl, ckInts] [ckInt, .one .bool] okGo (fun p => goesF p.2.1.2.1 p.1 p.2.2)
def anGoes (L : List (List UInt8)) (x : Rul.Rule) (word : List Int) : List (Nat × Ann) :=
  [(0, { ι := Nat, at_ := fun st k => { st.head [2, 8, 11, 12] [(14, R.int .i64 k)] [] with boxes := [] }, inv := fun _ k => k ≤ (Al.readL L x.2.2.1).1.length ∧ ((Al.readL L x.1).1.length < word.length → ((Al.readL L x.2.2.1).1.take k).contains (word.getD (Al.readL L x.1).1.length 0) = false), mu := fun _ k => (Al.readL L x.2.2.1).1.length - k })]
theorem goes_stands {L : List (List UInt8)} {x : Rul.Rule} {word : List Int} (h1 : x.1 ≠ []) (he : x.2.2.2 = true → x.2.2.1 = []) (hn : x.2.2.1 ≠ [] → (Al.readL L x.2.2.1).2.1 = 0) :
    (goesF L x word).2 = Rul.standsB (Rul.openR L x) word ∧ ((goesF L x word).2 = true → (goesF L x word).1 = ((Rul.openR L x).2.1.length : Int)) := by
  have ho : (Rul.openR L x).2.1 = (Al.readL L x.1).1 := by unfold Rul.openR Rul.readO; rw [if_neg h1]
  have hx : (Rul.openR L x).1 = x := rfl
  have hs : Rul.standsB (Rul.openR L x) word = (decide ((Al.readL L x.1).1.length ≤ word.length) && ((Al.readL L x.1).1 == word.take (Al.readL L x.1).1.length &&
    (if x.2.2.2 then (Al.readL L x.1).1.length == word.length else if (Rul.openR L x).2.2 = [] then true else decide ((Al.readL L x.1).1.length < word.length) && (Rul.openR L x).2.2.contains (word.getD (Al.readL L x.1).1.length 0)))) := by
    unfold Rul.standsB; rw [ho, hx]
  rw [hs, ho]
  unfold goesF
  cases hc : (decide ((Al.readL L x.1).1.length ≤ word.length) && (Al.readL L x.1).1 == word.take (Al.readL L x.1).1.length)
  · rw [if_neg Bool.noConfusion, ← Bool.and_assoc, hc]
    exact ⟨rfl, fun h => by cases h⟩
  · rw [if_pos rfl, ← Bool.and_assoc, hc, Bool.true_and]
    cases hE : x.2.2.2
    · rw [Bool.false_or]
      cases hN : (x.2.2.1 == [])
      · have hne : x.2.2.1 ≠ [] := beq_eq_false_iff_ne.1 hN
        have hnx : (Rul.openR L x).2.2 = (Al.readL L x.2.2.1).1 := by unfold Rul.openR Rul.readO; dsimp only; rw [if_neg hne]
        have hlen := Al.readL_least (hn hne)
        have hl0 : ¬ (Al.readL L x.2.2.1).1 = [] := fun e => by rw [e] at hlen; simp at hlen
        simp only [Bool.false_eq_true, if_false]
        rw [hnx, if_neg hl0]
        by_cases hd : (decide ((Al.readL L x.1).1.length < word.length) && (Al.readL L x.2.2.1).1.contains (word.getD (Al.readL L x.1).1.length 0)) = true
        · rw [if_pos hd, hd]; exact ⟨rfl, fun _ => rfl⟩
        · rw [if_neg hd, (Bool.not_eq_true _).mp hd]; exact ⟨rfl, fun h => by cases h⟩
      · have hnx : (Rul.openR L x).2.2 = [] := by unfold Rul.openR Rul.readO; dsimp only; rw [if_pos (beq_iff_eq.1 hN)]
        simp only [Bool.false_eq_true, if_false, if_true]
        rw [if_pos hnx]
        exact ⟨rfl, fun _ => by first | trivial | rfl⟩
    · rw [Bool.true_or, if_pos rfl, if_pos rfl]
      exact ⟨rfl, fun _ => rfl⟩
end Go.Proofs.YtldnfdghkdibmaaGreatDoor

/-
  Layer 11: goes.
-/
set_option linter.unusedVariables false
namespace Go.Proofs.YtldnfdghkdibmaaGreatDoor
open Go.RowKit
open R
set_option maxRecDepth 100000 in
theorem goes_vc (x : Rul.Rule) (f : AlP) (w : List Int) (h : okGo (x, f, w)) :
    /-VC fun (x : Rul.Rule) (f : AlP) (w : List Int) => vcOf Tryz.prog [cPRead, cIntsR] (anGoes f.2.1 x w) cGoes Tryz.f20 (x, f, w) -/
    (FewP (f.fst, f.snd.fst, f.snd.snd) ∧ x.fst.length ≤ (1000000 : Nat)) ∧ bif (Al.readB (alOf (f.fst, f.snd.fst, f.snd.snd)) x.fst).snd.fst != (0 : Int) then ((0 : Int), false) = goesF
    f.snd.fst x w else bif decide ((↑w.length : Int) < (↑(Al.readB (alOf (f.fst, f.snd.fst, f.snd.snd)) x.fst).fst.length : Int)) then ((0 : Int), false) = goesF f.snd.fst x w else ((0 : Int) ≤
    (0 : Int) ∧ (0 : Int) ≤ (↑(Al.readB (alOf (f.fst, f.snd.fst, f.snd.snd)) x.fst).fst.length : Int) ∧ (↑(Al.readB (alOf (f.fst, f.snd.fst, f.snd.snd)) x.fst).fst.length : Int) ≤ (↑w.length :
    Int)) ∧ ((Al.readB (alOf (f.fst, f.snd.fst, f.snd.snd)) x.fst).fst.length ≤ (1000000000000000 : Nat) ∧ (List.drop (Int.toNat (0 : Int)) (List.take (↑(Al.readB (alOf (f.fst, f.snd.fst,
    f.snd.snd)) x.fst).fst.length : Int).toNat w)).length ≤ (1000000000000000 : Nat)) ∧ bif !(Al.readB (alOf (f.fst, f.snd.fst, f.snd.snd)) x.fst).fst == List.drop (Int.toNat (0 : Int))
    (List.take (↑(Al.readB (alOf (f.fst, f.snd.fst, f.snd.snd)) x.fst).fst.length : Int).toNat w) then ((0 : Int), false) = goesF f.snd.fst x w else bif x.snd.snd.snd then bif !x.snd.snd.snd
    then ((↑(Al.readB (alOf (f.fst, f.snd.fst, f.snd.snd)) x.fst).fst.length : Int), true) = goesF f.snd.fst x w else ((↑(Al.readB (alOf (f.fst, f.snd.fst, f.snd.snd)) x.fst).fst.length : Int),
    (↑(Al.readB (alOf (f.fst, f.snd.fst, f.snd.snd)) x.fst).fst.length : Int) == (↑w.length : Int)) = goesF f.snd.fst x w else bif x.snd.snd.fst == [] then bif !x.snd.snd.snd then ((↑(Al.readB
    (alOf (f.fst, f.snd.fst, f.snd.snd)) x.fst).fst.length : Int), true) = goesF f.snd.fst x w else ((↑(Al.readB (alOf (f.fst, f.snd.fst, f.snd.snd)) x.fst).fst.length : Int), (↑(Al.readB (alOf
    (f.fst, f.snd.fst, f.snd.snd)) x.fst).fst.length : Int) == (↑w.length : Int)) = goesF f.snd.fst x w else (FewP (f.fst, f.snd.fst, f.snd.snd) ∧ x.snd.snd.fst.length ≤ (1000000 : Nat)) ∧ (∃
    (p' : Nat), (p' ≤ (Al.readL f.snd.fst x.snd.snd.fst).fst.length ∧ ((Al.readL f.snd.fst x.fst).fst.length < w.length → (List.take p' (Al.readL f.snd.fst x.snd.snd.fst).fst).contains (w.getD
    (Al.readL f.snd.fst x.fst).fst.length (0 : Int)) = false)) ∧ ((0 : Int) = (↑p' : Int) ∧ w = w ∧ (Al.readB (alOf (f.fst, f.snd.fst, f.snd.snd)) x.fst).fst = (Al.readB (alOf (f.fst, f.snd.fst,
    f.snd.snd)) x.fst).fst ∧ (Al.readB (alOf (f.fst, f.snd.fst, f.snd.snd)) x.snd.snd.fst).fst = (Al.readB (alOf (f.fst, f.snd.fst, f.snd.snd)) x.snd.snd.fst).fst ∧ (Al.readB (alOf (f.fst,
    f.snd.fst, f.snd.snd)) x.snd.snd.fst).snd.fst = (Al.readB (alOf (f.fst, f.snd.fst, f.snd.snd)) x.snd.snd.fst).snd.fst ∧ True) ∧ True ∧ True ∧ True ∧ True ∧ True ∧ True ∧ True) ∧ ∀ (p : Nat),
    p ≤ (Al.readL f.snd.fst x.snd.snd.fst).fst.length ∧ ((Al.readL f.snd.fst x.fst).fst.length < w.length → (List.take p (Al.readL f.snd.fst x.snd.snd.fst).fst).contains (w.getD (Al.readL
    f.snd.fst x.fst).fst.length (0 : Int)) = false) → bif decide ((↑p : Int) < (↑(Al.readB (alOf (f.fst, f.snd.fst, f.snd.snd)) x.snd.snd.fst).fst.length : Int)) then bif (Al.readB (alOf (f.fst,
    f.snd.fst, f.snd.snd)) x.snd.snd.fst).snd.fst == (0 : Int) then bif decide ((↑(Al.readB (alOf (f.fst, f.snd.fst, f.snd.snd)) x.fst).fst.length : Int) < (↑w.length : Int)) then ((0 : Int) ≤
    (↑p : Int) ∧ (↑p : Int) < (↑(Al.readB (alOf (f.fst, f.snd.fst, f.snd.snd)) x.snd.snd.fst).fst.length : Int)) ∧ ((0 : Int) ≤ (↑(Al.readB (alOf (f.fst, f.snd.fst, f.snd.snd)) x.fst).fst.length
    : Int) ∧ (↑(Al.readB (alOf (f.fst, f.snd.fst, f.snd.snd)) x.fst).fst.length : Int) < (↑w.length : Int)) ∧ bif (Al.readB (alOf (f.fst, f.snd.fst, f.snd.snd)) x.snd.snd.fst).fst.getD (↑p :
    Int).toNat (0 : Int) == w.getD (↑(Al.readB (alOf (f.fst, f.snd.fst, f.snd.snd)) x.fst).fst.length : Int).toNat (0 : Int) then ((↑(Al.readB (alOf (f.fst, f.snd.fst, f.snd.snd))
    x.fst).fst.length : Int), true) = goesF f.snd.fst x w else ((-9223372036854775808 : Int) ≤ (↑p : Int) + (1 : Int) ∧ (↑p : Int) + (1 : Int) ≤ (9223372036854775807 : Int)) ∧ ∃ (p' : Nat), (p'
    ≤ (Al.readL f.snd.fst x.snd.snd.fst).fst.length ∧ ((Al.readL f.snd.fst x.fst).fst.length < w.length → (List.take p' (Al.readL f.snd.fst x.snd.snd.fst).fst).contains (w.getD (Al.readL
    f.snd.fst x.fst).fst.length (0 : Int)) = false)) ∧ (Al.readL f.snd.fst x.snd.snd.fst).fst.length - p' < (Al.readL f.snd.fst x.snd.snd.fst).fst.length - p ∧ ((↑p : Int) + (1 : Int) = (↑p' :
    Int) ∧ w = w ∧ (Al.readB (alOf (f.fst, f.snd.fst, f.snd.snd)) x.fst).fst = (Al.readB (alOf (f.fst, f.snd.fst, f.snd.snd)) x.fst).fst ∧ (Al.readB (alOf (f.fst, f.snd.fst, f.snd.snd))
    x.snd.snd.fst).fst = (Al.readB (alOf (f.fst, f.snd.fst, f.snd.snd)) x.snd.snd.fst).fst ∧ (Al.readB (alOf (f.fst, f.snd.fst, f.snd.snd)) x.snd.snd.fst).snd.fst = (Al.readB (alOf (f.fst,
    f.snd.fst, f.snd.snd)) x.snd.snd.fst).snd.fst ∧ True) ∧ True ∧ True ∧ True ∧ True ∧ True ∧ True ∧ True else ((0 : Int), false) = goesF f.snd.fst x w else ((0 : Int), false) = goesF f.snd.fst
    x w else ((0 : Int), false) = goesF f.snd.fst x w
    /-CV-/ := by
  simp only [true_and, and_true]
  obtain ⟨hF, h1, h2, h3, hva, e1, e2⟩ := h
  have h1 : x.1.length ≤ 1000000 := h1
  have h2 : x.2.2.1.length ≤ 1000000 := h2
  have h3 : w.length ≤ 1000000 := h3
  have hre : ∀ y, Al.readB (alOf (f.1, f.2.1, f.2.2)) y = Al.readL f.2.1 y := fun y => by
    have hva : Al.validB (alOf (f.1, f.2.1, f.2.2)) = true := hva
    unfold Al.readB; rw [if_pos hva]; rfl
  have e1 : (Al.readL f.2.1 x.1).2.1 = 0 := e1
  have hm1 := Al.readL_most f.2.1 x.1
  have hm2 := Al.readL_most f.2.1 x.2.2.1
  have e2 : x.2.2.1 = [] ∨ (Al.readL f.2.1 x.2.2.1).2.1 = 0 := e2
  have hv : goesF f.2.1 x w = if decide ((Al.readL f.2.1 x.1).1.length ≤ w.length) && (Al.readL f.2.1 x.1).1 == w.take (Al.readL f.2.1 x.1).1.length then
      (if x.2.2.2 || x.2.2.1 == [] then (((Al.readL f.2.1 x.1).1.length : Int), !x.2.2.2 || (Al.readL f.2.1 x.1).1.length == w.length)
      else if decide ((Al.readL f.2.1 x.1).1.length < w.length) && (Al.readL f.2.1 x.2.2.1).1.contains (w.getD (Al.readL f.2.1 x.1).1.length 0) then (((Al.readL f.2.1 x.1).1.length : Int), true) else (0, false))
    else (0, false) := rfl
  rw [hre, hre, e1]
  generalize goesF f.2.1 x w = G at *
  have q0 : ∀ n : Nat, ((n : Int)).toNat = n := fun n => rfl
  have qz : Int.toNat 0 = 0 := rfl
  simp only [q0, qz, List.drop_zero]
  have e2' : x.2.2.1 ≠ [] → (Al.readL f.2.1 x.2.2.1).2.1 = 0 := fun h => e2.resolve_left h
  clear e2
  generalize (Al.readL f.2.1 x.1).1 = A at *
  generalize hR2 : Al.readL f.2.1 x.2.2.1 = R2 at *
  obtain ⟨B, eb, ob⟩ := R2
  dsimp only at *
  refine ⟨⟨hF, h1⟩, ?_⟩
  show bif ((0 : Int) != 0) then _ else _
  refine bifP (fun h => by cases h) fun _ => bifP (fun c1 => ?_) fun c1 => ⟨⟨by omega, by omega, by have := of_decide_eq_false c1; omega⟩, ⟨by omega, by rw [List.length_take]; omega⟩, bifP (fun c2 => ?_) fun c2 => ?_⟩
  · rw [hv, decide_eq_false (p := A.length ≤ w.length) (by have := of_decide_eq_true c1; omega)]; rfl
  · have c2 : (A == w.take A.length) = false := by
      have c2 : (!(A == w.take A.length)) = true := c2
      simpa using c2
    rw [hv, c2, Bool.and_false]; rfl
  have hle : A.length ≤ w.length := by have := of_decide_eq_false c1; omega
  have c2 : (A == w.take A.length) = true := by
    have c2 : (!(A == w.take A.length)) = false := c2
    simpa using c2
  rw [decide_eq_true hle, c2, Bool.true_and, if_pos rfl] at hv
  have hbeq : ((A.length : Int) == (w.length : Int)) = (A.length == w.length) := by rw [Bool.eq_iff_iff, beq_iff_eq, beq_iff_eq]; omega
  rw [hbeq]
  cases hE : x.2.2.2
  · rw [hE, Bool.false_or] at hv
    show bif x.2.2.1 == [] then _ else _
    refine bifP (fun c3 => ?_) fun c3 => ⟨⟨hF, h2⟩, ⟨0, ⟨Nat.zero_le _, fun _ => rfl⟩, rfl⟩, fun p hp => ?_⟩
    · rw [c3, if_pos rfl] at hv
      rw [hv]; rfl
    · have hne : x.2.2.1 ≠ [] := beq_eq_false_iff_ne.1 c3
      have he0 : eb = 0 := e2' hne
      rw [c3, if_neg Bool.noConfusion] at hv
      have no : (A.length < w.length → B.contains (w.getD A.length 0) = false) → (0, false) = G := fun hh => by
        rw [hv, if_neg]
        rw [Bool.and_eq_true, decide_eq_true_eq]
        rintro ⟨q1, q2⟩
        rw [hh q1] at q2; cases q2
      have all_ : B.length ≤ p → (0, false) = G := fun hq => no fun hlt => by
        have := hp.2 hlt
        rwa [List.take_of_length_le hq] at this
      refine bifP (fun c4 => ?_) fun c4 => ?_
      · have hpb : p < B.length := by have := of_decide_eq_true c4; omega
        rw [he0]
        show bif ((0 : Int) == 0) then _ else _
        refine bifP (fun _ => bifP (fun c5 => ?_) fun c5 => ?_) fun h => by cases h
        · have hlt : A.length < w.length := by have := of_decide_eq_true c5; omega
          have hx := getD_some B 0 p hpb
          refine ⟨⟨by omega, by omega⟩, ⟨by omega, by omega⟩, bifP (fun c6 => ?_) fun c6 => ⟨⟨by omega, by omega⟩, p + 1, ⟨by omega, fun _ => ?_⟩, by omega, by omega⟩⟩
          · rw [hv, if_pos]
            rw [decide_eq_true hlt, Bool.true_and, List.contains_iff_mem]
            rw [← beq_iff_eq.1 c6]
            exact List.mem_of_getElem? hx
          · have hold := hp.2 hlt
            cases hh : (B.take (p + 1)).contains (w.getD A.length 0)
            · rfl
            · rw [List.contains_iff_mem, List.take_add_one, hx] at hh
              rcases List.mem_append.1 hh with hm | hm
              · rw [List.contains_iff_mem.2 hm] at hold; cases hold
              · have hm : w.getD A.length 0 = B.getD p 0 := by simpa using hm
                exact absurd hm.symm (beq_eq_false_iff_ne.1 c6)
        · exact no fun hlt => absurd hlt (by have := of_decide_eq_false c5; omega)
      · exact all_ (by have := of_decide_eq_false c4; omega)
  · rw [hE, Bool.true_or, if_pos rfl] at hv
    rw [hv]; rfl
set_option maxRecDepth 100000 in
theorem goes_holds : cGoes.Holds Tryz.prog := by
  refine holdsF (cons := [cPRead, cIntsR]) Tryz.func20 (by kernel_rfl) (by kernel_rfl) mixed (by kernel_rfl) (fun c h => by
    rcases List.mem_cons.1 h with rfl | h
    · exact pread_holds
    · obtain rfl := List.mem_singleton.1 h; exact intsr_holds) (fun p => anGoes p.2.1.2.1 p.1 p.2.2) fun p hp => ?_
  obtain ⟨x, f, w⟩ := p
  refine cast ?_ (goes_vc x f w hp)
  kernel_rfl
end Go.Proofs.YtldnfdghkdibmaaGreatDoor

/-
  Layer 11: RulesFirst: contract, loops.
-/
set_option linter.unusedVariables false
namespace Go.Proofs.YtldnfdghkdibmaaGreatDoor
open Go.RowKit
open R
/-- the texts in slot 19 -/
def R.restOf (st : St) : List (List UInt8) :=
  match st.get 19 with
  | .c (.one (.own r)) => match st.row r with
    | some ⟨_, .one .str, xs⟩ => xs
    | _ => []
  | .c (.one (.val (.sl (.one .str)) xs)) => xs
  | _ => []
def R.keepRow (st : St) (r : Nat) : List (Nat × Row) :=
  match st.row r with
  | some x => [(r, x)]
  | none => []
def seenB (l : List Bool) : Row := ⟨4, .one .bool, l⟩
def GoodF (L : List (List UInt8)) (rs : List Rul.Opened) (w : List Int) (x : Rul.Rule) (s : List UInt8) : Prop :=
  Rul.standsB (Rul.openR L x) w = true ∧ ∃ s', Rul.Reach rs (w.drop (Rul.openR L x).2.1.length) (w.drop (Rul.openR L x).2.1.length).length s' ∧ s = x.2.1 ++ s'
def ruleAt (l : List Rul.Rule) (i : Nat) : Rul.Rule := l.getD i ([], [], [], false)
def inFirst (L : List (List UInt8)) (rs : List Rul.Opened) (w : List Int) (l : List Rul.Rule) (all : List (List UInt8)) (k : Nat) (seen : List Bool) : Prop :=
  seen.length = all.length ∧ ∀ j, j < all.length → (∃ i, i < k ∧ GoodF L rs w (ruleAt l i) (all.getD j [])) → seen.getD j false = true
def anFirst (L : List (List UInt8)) (rs : List Rul.Opened) (w : List Int) (l : List Rul.Rule) (all : List (List UInt8)) : List (Nat × Ann) :=
  [(0, { ι := Nat × List Bool, at_ := fun st p => { st.head [3, 4, 5, 6, 9, 10, 12, 15] [(16, R.int .i64 p.1)] [(93, seenB p.2)] with boxes := [R.bx st 4, R.bx st 5, R.bx st 6] }, inv := fun _ p => p.1 ≤ l.length ∧ inFirst L rs w l all p.1 p.2, mu := fun _ p => l.length - p.1 }),
   (2, { ι := Nat × List Bool, at_ := fun st p => { st.head [3, 4, 5, 6, 9, 10, 12, 15, 16, 17, 19] [(24, R.int .i64 p.1)] ((93, seenB p.2) :: R.keepRow st 114) with boxes := [R.bx st 4, R.bx st 5, R.bx st 6] }, inv := fun st p => p.1 ≤ (R.restOf st).length ∧ inFirst L rs w l all (st.intOf 16).toNat p.2 ∧ ∀ j, j < all.length → (∃ q, q < p.1 ∧ all.getD j [] = (ruleAt l (st.intOf 16).toNat).2.1 ++ (R.restOf st).getD q []) → p.2.getD j false = true, mu := fun st p => (R.restOf st).length - p.1 }),
   (4, { ι := Nat, at_ := fun st i => { st.head [9, 10, 15] [(26, R.int .i64 i)] (R.keepRow st 93) with boxes := [] }, inv := fun _ i => i ≤ all.length, mu := fun _ i => all.length - i })]
def cFirst : Con := .of 6 [ckRules, ckAl, ckAl, ckStr] [.one .bool] (fun p => BigR p.1 ∧ BigA p.2.1 ∧ BigA p.2.2.1 ∧ CK.Big ckStr p.2.2.2) (fun _ => true)
def consFirst : List Con := [cHead11, cFewA11, cWrit, cPRead, cValidP, cGoes, cPJoin, cFind]
end Go.Proofs.YtldnfdghkdibmaaGreatDoor

/-
  Layer 11: RulesFirst in plain Lean.
-/
set_option linter.unusedVariables false
namespace Go.Proofs.YtldnfdghkdibmaaGreatDoor
open Go.RowKit
open R
theorem valid_rule {r : Rul.Rules} {f t : Al.Alph} (h : Rul.validB r f t = true) {x : Rul.Rule} (hx : x ∈ r.2.2) :
    x.1 ≠ [] ∧ (Al.readL f.letters x.1).2.1 = 0 ∧ (x.2.2.1 = [] ∨ (Al.readL f.letters x.2.2.1).2.1 = 0) ∧ (x.2.2.2 = true → x.2.2.1 = []) := by
  unfold Rul.validB at h
  simp only [Bool.and_eq_true] at h
  obtain ⟨h1, _, _, _, _, h2⟩ := h
  unfold Rul.formedB at h1
  simp only [Bool.and_eq_true] at h1
  obtain ⟨_, _, _, _, h3, _⟩ := h1
  have a := List.all_eq_true.1 h2 x hx
  have b := Rul.okRule_out (List.all_eq_true.1 h3 x hx)
  have hne : x.1 ≠ [] := fun e => by
    have := b.1
    unfold Rul.plainB at this
    rw [e] at this
    simp at this
  unfold Rul.okIn at a
  simp only [Bool.and_eq_true] at a
  refine ⟨hne, ?_, ?_, b.2.2.2⟩
  · have a := a.1
    unfold Rul.readO at a
    rw [if_neg hne] at a
    simp only [Bool.and_eq_true, beq_iff_eq] at a
    exact a.1
  · by_cases e : x.2.2.1 = []
    · exact .inl e
    · have a := a.2.1
      unfold Rul.readO at a
      rw [if_neg e] at a
      simp only [Bool.and_eq_true, beq_iff_eq] at a
      exact .inr a.1
theorem rest_read {a : Al.Alph} {s : List UInt8} (he : (Al.readB a s).2.1 = 0) {n : Nat} (hn : n < (Al.readB a s).1.length) :
    Al.joinB a ((Al.readB a s).1.drop n) = (Al.joinL a.letters ((Al.readB a s).1.drop n), 0) ∧ (Al.joinL a.letters ((Al.readB a s).1.drop n)).length ≤ s.length ∧ Al.readB a (Al.joinL a.letters ((Al.readB a s).1.drop n)) = ((Al.readB a s).1.drop n, 0, 0) := by
  obtain ⟨hv, _, _, hs, hr, hne, h24⟩ := Al.read_ok he
  generalize (Al.readB a s).1 = w at *
  have hr' : Al.inRange a.letters.length (w.drop n) = true := by
    unfold Al.inRange at hr ⊢
    rw [List.all_eq_true] at hr ⊢
    exact fun x hx => hr x (List.mem_of_mem_drop hx)
  have hl : (w.drop n).length = w.length - n := List.length_drop
  refine ⟨?_, ?_, ?_⟩
  · unfold Al.joinB
    rw [if_pos]
    rw [hv, hr']
    simp only [Bool.true_and, Bool.and_true, Bool.and_eq_true, decide_eq_true_eq]
    omega
  · have : s = Al.joinL a.letters (w.take n) ++ Al.joinL a.letters (w.drop n) := by
      rw [hs]
      unfold Al.joinL
      rw [← List.flatMap_append, List.take_append_drop]
    have := congrArg List.length this
    rw [List.length_append] at this
    omega
  · exact Al.read_join hv hr' (fun e => by rw [e] at hl; simp at hl; omega) (by omega)
theorem findI_ok (s : List UInt8) : ∀ (l : List (List UInt8)) (i : Int), s ∈ l → ∃ k : Nat, findI s l i = i + k ∧ l[k]? = some s
  | [], i, h => by cases h
  | x :: r, i, h => by
    unfold findI
    by_cases e : x = s
    · subst e
      rw [if_pos (by simp)]
      exact ⟨0, by simp, rfl⟩
    · rw [if_neg (by rw [beq_iff_eq]; exact e)]
      rcases List.mem_cons.1 h with h | h
      · exact absurd h.symm e
      · obtain ⟨k, h1, h2⟩ := findI_ok s r (i + 1) h
        exact ⟨k + 1, by rw [h1]; omega, h2⟩
theorem write_few {rs : List Rul.Opened} {w : List Int} (h : (Rul.writeL rs w).2 = 0) : (Rul.writeL rs w).1.length ≤ 200 := by
  unfold Rul.writeL at h ⊢
  split
  · exact Nat.zero_le _
  · rename_i hn
    have hn : (List.range (w.length + 1)).any (Rul.tooMany rs w) = false := by simpa using hn
    have := List.any_eq_false.1 hn w.length (List.mem_range.2 (Nat.lt_succ_self _))
    unfold Rul.tooMany at this
    simp only [decide_eq_true_eq] at this
    show (Rul.setOf (Rul.tabs rs w w.length w.length)).length ≤ 200
    omega
theorem first_len {rs : List Rul.Opened} (hp : Rul.Pos rs) (hm : ∀ x ∈ rs, x.1.2.1.length ≤ 9) {w : List Int} (hw : w.length ≤ 24) {s : List UInt8} (h : Rul.Reach rs w w.length s) : s.length ≤ 1000 := by
  have := reach_len hp hm h
  have : 9 * w.length ≤ 9 * 24 := Nat.mul_le_mul_left 9 hw
  omega
section
variable {L : List (List UInt8)} {rs : List Rul.Opened} {w : List Int} {l : List Rul.Rule} {all : List (List UInt8)} {k : Nat} {seen : List Bool}
theorem first_start : inFirst L rs w l all 0 (List.replicate all.length false) := ⟨List.length_replicate, fun j hj h => by obtain ⟨i, h, _⟩ := h; omega⟩
theorem first_skip (h : inFirst L rs w l all k seen) (hs : Rul.standsB (Rul.openR L (ruleAt l k)) w = false) : inFirst L rs w l all (k + 1) seen := by
  refine ⟨h.1, fun j hj ⟨i, hi, hg⟩ => ?_⟩
  rcases Nat.lt_or_eq_of_le (Nat.le_of_lt_succ hi) with hi | rfl
  · exact h.2 j hj ⟨i, hi, hg⟩
  · rw [hg.1] at hs; cases hs
theorem first_more (h : inFirst L rs w l all k seen) {rest : List (List UInt8)} {n : Nat} (hn : n = (Rul.openR L (ruleAt l k)).2.1.length) (hr : ∀ s', Rul.Reach rs (w.drop n) (w.drop n).length s' → s' ∈ rest)
    (hd : ∀ j, j < all.length → (∃ q, q < rest.length ∧ all.getD j [] = (ruleAt l k).2.1 ++ rest.getD q []) → seen.getD j false = true) : inFirst L rs w l all (k + 1) seen := by
  subst hn
  refine ⟨h.1, fun j hj ⟨i, hi, hg⟩ => ?_⟩
  rcases Nat.lt_or_eq_of_le (Nat.le_of_lt_succ hi) with hi | rfl
  · exact h.2 j hj ⟨i, hi, hg⟩
  · obtain ⟨_, s', hs, e⟩ := hg
    obtain ⟨q, hq, e2⟩ := List.mem_iff_getElem.1 (hr s' hs)
    exact hd j hj ⟨q, hq, by rw [e, List.getD_eq_getElem?_getD, List.getElem?_eq_getElem hq]; simp [e2]⟩
theorem set_get (seen : List Bool) {j at_ : Nat} (hj : j < seen.length) (h : j = at_ ∨ seen.getD j false = true) : (seen.set at_ true).getD j false = true := by
  rw [List.getD_eq_getElem?_getD] at h ⊢
  rw [List.getElem?_set]
  split
  · rename_i e; subst e
    rw [if_pos hj]; rfl
  · rename_i e
    rcases h with h | h
    · exact absurd h.symm e
    · exact h
theorem first_set (h : inFirst L rs w l all k seen) (at_ : Nat) : inFirst L rs w l all k (seen.set at_ true) :=
  ⟨by rw [List.length_set]; exact h.1, fun j hj hg => set_get seen (by rw [h.1]; exact hj) (.inr (h.2 j hj hg))⟩
theorem up_inj {all : List (List UInt8)} (hu : Rul.Up all) {i j : Nat} {s : List UInt8} (hi : all[i]? = some s) (hj : all[j]? = some s) : i = j := by
  have key : ∀ {i j : Nat}, all[i]? = some s → all[j]? = some s → ¬ i < j := fun {i j} hi hj hlt => by
    obtain ⟨a1, a2⟩ := List.getElem?_eq_some_iff.1 hi
    obtain ⟨b1, b2⟩ := List.getElem?_eq_some_iff.1 hj
    have := List.pairwise_iff_getElem.1 hu i j a1 b1 hlt
    rw [a2, b2] at this
    exact Rul.below_irrefl s this
  have h1 := key hi hj
  have h2 := key hj hi
  omega
/-- the program's step in the inner loop -/
theorem first_step (hu : Rul.Up all) (h : inFirst L rs w l all k seen) {rest : List (List UInt8)} {q : Nat}
    (hd : ∀ j, j < all.length → (∃ q', q' < q ∧ all.getD j [] = (ruleAt l k).2.1 ++ rest.getD q' []) → seen.getD j false = true) {at_ : Nat} (ha : all[at_]? = some ((ruleAt l k).2.1 ++ rest.getD q [])) :
    ∀ j, j < all.length → (∃ q', q' < q + 1 ∧ all.getD j [] = (ruleAt l k).2.1 ++ rest.getD q' []) → (seen.set at_ true).getD j false = true := by
  rintro j hj ⟨q', hq, e⟩
  refine set_get seen (by rw [h.1]; exact hj) ?_
  rcases Nat.lt_or_eq_of_le (Nat.le_of_lt_succ hq) with hq | rfl
  · exact .inr (hd j hj ⟨q', hq, e⟩)
  · refine .inl (up_inj hu ?_ ha)
    rw [← e, getD_some all [] j hj]
/-- at the end every text is seen -/
theorem first_end (hp : Rul.Pos (l.map (Rul.openR L))) (hw : 0 < w.length) (hm : ∀ s, s ∈ all → Rul.Reach (l.map (Rul.openR L)) w w.length s) (h : inFirst L (l.map (Rul.openR L)) w l all l.length seen) {j : Nat} (hj : j < all.length) : seen.getD j false = true := by
  refine h.2 j hj ?_
  have hg := getD_some all [] j hj
  obtain ⟨y, hy, hs, s', hr, e⟩ := (Rul.full_iff hp hw).1 (hm _ (List.mem_of_getElem? hg))
  obtain ⟨x, hx, rfl⟩ := List.mem_map.1 hy
  obtain ⟨i, hi, e2⟩ := List.mem_iff_getElem.1 hx
  have hxi : ruleAt l i = x := by unfold ruleAt; rw [List.getD_eq_getElem?_getD, List.getElem?_eq_getElem hi]; exact e2
  refine ⟨i, hi, ?_⟩
  rw [hxi]
  exact ⟨hs, s', hr, e⟩
/-- what the first rule leads to is there -/
theorem first_mem (hp : Rul.Pos rs) (hw : 0 < w.length) {x : Rul.Rule} (hx : Rul.openR L x ∈ rs) (hs : Rul.standsB (Rul.openR L x) w = true) {s' : List UInt8} (hr : Rul.Reach rs (w.drop (Rul.openR L x).2.1.length) (w.drop (Rul.openR L x).2.1.length).length s') : Rul.Reach rs w w.length (x.2.1 ++ s') :=
  (Rul.full_iff hp hw).2 ⟨_, hx, hs, s', hr, rfl⟩
theorem up_less (hu : Rul.Up all) {i : Nat} (h0 : 0 < i) (h : i < all.length) : Op.bytesLess (all.getD (i - 1) []) (all.getD i []) = true := by
  have := List.pairwise_iff_getElem.1 hu (i - 1) i (by omega) h (by omega)
  rw [List.getD_eq_getElem?_getD, List.getD_eq_getElem?_getD, List.getElem?_eq_getElem h, List.getElem?_eq_getElem (show i - 1 < all.length by omega)]
  exact this
end
end Go.Proofs.YtldnfdghkdibmaaGreatDoor

/-
  Layer 11: RulesMore in plain Lean: the rules in the opposite order; a further rule at the end.
-/
set_option linter.unusedVariables false
namespace Go.Proofs.YtldnfdghkdibmaaGreatDoor
open Go.RowKit
open R
theorem once_nodup : ∀ l : List Rul.Rule, Rul.once l = true ↔ l.Nodup
  | [] => by simp [Rul.once]
  | x :: r => by
    unfold Rul.once
    rw [List.nodup_cons, Bool.and_eq_true, once_nodup r, Bool.not_eq_true', List.any_eq_false]
    constructor
    · rintro ⟨h1, h2⟩
      exact ⟨fun hx => h1 x hx (by simp), h2⟩
    · rintro ⟨h1, h2⟩
      exact ⟨fun y hy e => h1 (by have : x = y := by simpa using e
                                  subst this; exact hy), h2⟩
theorem once_rev (l : List Rul.Rule) : Rul.once l.reverse = Rul.once l := by
  rw [Bool.eq_iff_iff, once_nodup, once_nodup]
  unfold List.Nodup
  rw [List.pairwise_reverse]
  exact ⟨fun h => h.imp Ne.symm, fun h => h.imp Ne.symm⟩
theorem valid_rev (r1 r2 : List UInt8) (l : List Rul.Rule) (f t : Al.Alph) : Rul.validB (r1, r2, l.reverse) f t = Rul.validB (r1, r2, l) f t := by
  unfold Rul.validB Rul.formedB
  dsimp only
  rw [once_rev, List.length_reverse, List.all_reverse, List.all_reverse]
theorem writ_rev (r1 r2 : List UInt8) (l : List Rul.Rule) (f t : Al.Alph) (s : List UInt8) : Rul.writingsB (r1, r2, l.reverse) f t s = Rul.writingsB (r1, r2, l) f t s := by
  unfold Rul.writingsB
  rw [valid_rev]
  cases hv : Rul.validB (r1, r2, l) f t
  · rfl
  · rw [Bool.true_and]
    split
    · have hp := (Rul.pos_of hv).1
      have hp' := (Rul.pos_of (r := (r1, r2, l.reverse)) (by rw [valid_rev]; exact hv)).1
      refine Rul.write_same hp' hp fun k s => ⟨fun h => Rul.reach_sub (fun x hx => ?_) h, fun h => Rul.reach_sub (fun x hx => ?_) h⟩
      · obtain ⟨y, hy, rfl⟩ := List.mem_map.1 hx
        exact List.mem_map_of_mem (List.mem_reverse.1 hy)
      · obtain ⟨y, hy, rfl⟩ := List.mem_map.1 hx
        exact List.mem_map_of_mem (List.mem_reverse.2 hy)
    · rfl
theorem writ_most (r : Rul.Rules) (f t : Al.Alph) (s : List UInt8) : (Rul.writingsB r f t s).1.length ≤ 200 := by
  unfold Rul.writingsB
  split
  · rcases Rul.write_err (r.2.2.map (Rul.openR f.letters)) (Al.readL f.letters s).1 with h | h
    · exact write_few h
    · rw [h]; exact Nat.zero_le _
  · exact Nat.zero_le _
/-- with a further rule no result is lost -/
theorem writ_more {r1 r2 : List UInt8} {l l' : List Rul.Rule} {f t : Al.Alph} {s : List UInt8} (hsub : ∀ x ∈ l, x ∈ l') (he : (Rul.writingsB (r1, r2, l) f t s).2 = 0) (hv : Rul.validB (r1, r2, l') f t = true) :
    (Rul.writingsB (r1, r2, l') f t s).2 = 2 ∨ ((Rul.writingsB (r1, r2, l') f t s).2 = 0 ∧ amongB (Rul.writingsB (r1, r2, l) f t s).1 (Rul.writingsB (r1, r2, l') f t s).1 = true) := by
  unfold Rul.writingsB at he ⊢
  cases hc : (Rul.validB (r1, r2, l) f t && (Al.readL f.letters s).2.1 == 0)
  · rw [hc] at he; cases he
  · rw [hc, if_pos rfl] at he
    rw [Bool.and_eq_true] at hc
    rw [hv, Bool.true_and, hc.2, if_pos rfl, if_pos rfl]
    have hp := (Rul.pos_of hc.1).1
    have hp' := (Rul.pos_of hv).1
    rcases Rul.write_err (l'.map (Rul.openR f.letters)) (Al.readL f.letters s).1 with h | h
    · refine .inr ⟨h, List.all_eq_true.2 fun y hy => ?_⟩
      rw [List.contains_iff_mem]
      refine (Rul.write_mem hp' h).2 (Rul.reach_sub (fun x hx => ?_) ((Rul.write_mem hp he).1 hy))
      obtain ⟨z, hz, rfl⟩ := List.mem_map.1 hx
      exact List.mem_map_of_mem (hsub z hz)
    · exact .inl (by show (Rul.writeL (l'.map (Rul.openR f.letters)) _).2 = 2; rw [h])
end Go.Proofs.YtldnfdghkdibmaaGreatDoor

/-
  Layer 11: RulesContexts: contract, loop.
-/
set_option linter.unusedVariables false
namespace Go.Proofs.YtldnfdghkdibmaaGreatDoor
open Go.RowKit
open R
def eachRow (L : List (List UInt8)) (l : List Rul.Rule) (k : Nat) (next : List Int) (p : Nat) : List Rul.Rule :=
  l.take k ++ l.drop (k + 1) ++ (next.take p).map fun c => ((ruleAt l k).1, (ruleAt l k).2.1, Al.letterAt L c, false)
def anCtx (L : List (List UInt8)) (l : List Rul.Rule) (k : Nat) (next : List Int) : List (Nat × Ann) :=
  [cutAt 14 Unit (fun st _ => { st.head [3, 5, 6, 7, 11, 12, 13] [] [] with boxes := [R.bx st 5, R.bx st 6, R.bx st 7] }) (fun _ _ => True), joinAt 8 [3, 5, 6, 7, 11, 12, 13, 15], joinAt 16 [3, 5, 6, 7, 11, 12, 13, 18], (0, { ι := Nat, at_ := fun st p => { st.head [3, 5, 6, 7, 10, 11, 12, 13, 18, 19, 20] [(22, R.int .i64 p)] [(127, ruleRow (eachRow L l k next p))] with boxes := [R.bxOwn st 18 127, R.bx st 5, R.bx st 6, R.bx st 7] }, inv := fun _ p => p ≤ next.length, mu := fun _ p => next.length - p })]
def cCtx : Con := .of 7 [ckRules, ckAl, ckAl, ckStr, .one (.int .u8)] [.one .bool] (fun p => BigR p.1 ∧ BigA p.2.1 ∧ BigA p.2.2.1 ∧ CK.Big ckStr p.2.2.2.1 ∧ CK.Big (.one (.int .u8)) p.2.2.2.2) (fun _ => true)
def consCtx : List Con := [cHead11, cFewA11, cWrit, cTexts, cValidP, cAmong, cPRead, cPJoin]
end Go.Proofs.YtldnfdghkdibmaaGreatDoor

/-
  Layer 11: RulesContexts in plain Lean: a rule without its context, a rule for each letter of its Next.
-/
set_option linter.unusedVariables false
namespace Go.Proofs.YtldnfdghkdibmaaGreatDoor
open Go.RowKit
open R
/-- where one rule stands, another one does, as long and with the same To -/
def Covers (L : List (List UInt8)) (l l' : List Rul.Rule) : Prop :=
  ∀ x ∈ l, ∀ w, Rul.standsB (Rul.openR L x) w = true → ∃ y ∈ l', Rul.standsB (Rul.openR L y) w = true ∧ (Rul.openR L y).2.1.length = (Rul.openR L x).2.1.length ∧ (Rul.openR L y).1.2.1 = (Rul.openR L x).1.2.1
theorem covers_reach {L : List (List UInt8)} {l l' : List Rul.Rule} (h : Covers L l l') {w : List Int} {k : Nat} {s : List UInt8} (hr : Rul.Reach (l.map (Rul.openR L)) w k s) : Rul.Reach (l'.map (Rul.openR L)) w k s := by
  refine Rul.reach_mono (fun x hx k hk hs => ?_) hr
  obtain ⟨z, hz, rfl⟩ := List.mem_map.1 hx
  obtain ⟨y, hy, h1, h2, h3⟩ := h z hz _ hs
  exact ⟨_, List.mem_map_of_mem hy, h1, h2, h3⟩
theorem writ_covers {r1 r2 : List UInt8} {l l' : List Rul.Rule} {f t : Al.Alph} {s : List UInt8} (hc : Covers f.letters l l') (he : (Rul.writingsB (r1, r2, l) f t s).2 = 0) (hv : Rul.validB (r1, r2, l') f t = true) :
    (Rul.writingsB (r1, r2, l') f t s).2 = 2 ∨ ((Rul.writingsB (r1, r2, l') f t s).2 = 0 ∧ amongB (Rul.writingsB (r1, r2, l) f t s).1 (Rul.writingsB (r1, r2, l') f t s).1 = true) := by
  unfold Rul.writingsB at he ⊢
  cases hcc : (Rul.validB (r1, r2, l) f t && (Al.readL f.letters s).2.1 == 0)
  · rw [hcc] at he; cases he
  · rw [hcc, if_pos rfl] at he
    rw [Bool.and_eq_true] at hcc
    rw [hv, Bool.true_and, hcc.2, if_pos rfl, if_pos rfl]
    have hp := (Rul.pos_of hcc.1).1
    have hp' := (Rul.pos_of hv).1
    rcases Rul.write_err (l'.map (Rul.openR f.letters)) (Al.readL f.letters s).1 with h | h
    · refine .inr ⟨h, List.all_eq_true.2 fun y hy => ?_⟩
      rw [List.contains_iff_mem]
      exact (Rul.write_mem hp' h).2 (covers_reach hc ((Rul.write_mem hp he).1 hy))
    · exact .inl (by show (Rul.writeL (l'.map (Rul.openR f.letters)) _).2 = 2; rw [h])
theorem writ_same {r1 r2 : List UInt8} {l l' : List Rul.Rule} {f t : Al.Alph} {s : List UInt8} (hc : Covers f.letters l l') (hc' : Covers f.letters l' l) (hv : Rul.validB (r1, r2, l) f t = true) (hv' : Rul.validB (r1, r2, l') f t = true) :
    Rul.writingsB (r1, r2, l') f t s = Rul.writingsB (r1, r2, l) f t s := by
  unfold Rul.writingsB
  rw [hv, hv']
  split
  · exact Rul.write_same (Rul.pos_of hv').1 (Rul.pos_of hv).1 fun k s => ⟨covers_reach hc', covers_reach hc⟩
  · rfl
theorem ruleAt_mem {l : List Rul.Rule} {k : Nat} (hk : k < l.length) : ruleAt l k ∈ l := by
  unfold ruleAt
  rw [List.getD_eq_getElem?_getD, List.getElem?_eq_getElem hk]
  exact List.getElem_mem hk
/-- without Next and End -/
theorem covers_bare (L : List (List UInt8)) {l : List Rul.Rule} {k : Nat} (hk : k < l.length) : Covers L l (l.set k ((ruleAt l k).1, (ruleAt l k).2.1, [], false)) := by
  intro x hx w hs
  obtain ⟨i, hi, rfl⟩ := List.getElem_of_mem hx
  by_cases e : i = k
  · subst e
    have hr : ruleAt l i = l[i] := by unfold ruleAt; rw [List.getD_eq_getElem?_getD, List.getElem?_eq_getElem hi]; rfl
    refine ⟨_, List.mem_set hi _, ?_, ?_, ?_⟩
    · rw [hr]
      unfold Rul.standsB at hs ⊢
      rw [Bool.and_eq_true, Bool.and_eq_true] at hs
      rw [Bool.and_eq_true, Bool.and_eq_true]
      exact ⟨hs.1, hs.2.1, rfl⟩
    · rw [hr]; rfl
    · rw [hr]; rfl
  · refine ⟨l[i], ?_, hs, rfl, rfl⟩
    rw [List.mem_iff_getElem]
    exact ⟨i, by rw [List.length_set]; exact hi, by rw [List.getElem_set_ne (Ne.symm e)]⟩
theorem eachRow_all (L : List (List UInt8)) (l : List Rul.Rule) (k : Nat) (next : List Int) {y : Rul.Rule} :
    y ∈ eachRow L l k next next.length ↔ (∃ i, i ≠ k ∧ l[i]? = some y) ∨ ∃ c ∈ next, y = ((ruleAt l k).1, (ruleAt l k).2.1, Al.letterAt L c, false) := by
  unfold eachRow
  rw [List.mem_append, List.mem_append, List.take_length, List.mem_map]
  constructor
  · rintro ((h | h) | ⟨c, hc, rfl⟩)
    · obtain ⟨i, hi, rfl⟩ := List.getElem_of_mem h
      rw [List.length_take] at hi
      refine .inl ⟨i, by omega, ?_⟩
      rw [List.getElem_take, List.getElem?_eq_getElem]
    · obtain ⟨i, hi, rfl⟩ := List.getElem_of_mem h
      rw [List.length_drop] at hi
      refine .inl ⟨k + 1 + i, by omega, ?_⟩
      rw [List.getElem_drop, List.getElem?_eq_getElem]
    · exact .inr ⟨c, hc, rfl⟩
  · rintro (⟨i, hi, h⟩ | ⟨c, hc, rfl⟩)
    · obtain ⟨hl, rfl⟩ := List.getElem?_eq_some_iff.1 h
      rcases Nat.lt_or_gt_of_ne hi with h | h
      · refine .inl (.inl (List.mem_iff_getElem.2 ⟨i, by rw [List.length_take]; omega, by rw [List.getElem_take]⟩))
      · refine .inl (.inr (List.mem_iff_getElem.2 ⟨i - (k + 1), by rw [List.length_drop]; omega, ?_⟩))
        rw [List.getElem_drop]
        congr 1; omega
    · exact .inr ⟨c, hc, rfl⟩
/-- the letters of a rule's Next, of a single letter -/
theorem next_of {a : Al.Alph} {x : Rul.Rule} (h : x.2.2.1 ≠ []) (hv : Al.validB a = true) : (Rul.openR a.letters x).2.2 = (Al.readB a x.2.2.1).1 := by
  show (Rul.readO a.letters x.2.2.1 10).1 = _
  unfold Rul.readO Al.readB
  rw [if_neg h, if_pos hv]
theorem next_one {a : Al.Alph} (hv : Al.validB a = true) {c : Int} (h0 : 0 ≤ c) (h1 : c < (a.letters.length : Int)) (f t : List UInt8) : (Rul.openR a.letters (f, t, Al.letterAt a.letters c, false)).2.2 = [c] ∧ Al.letterAt a.letters c ≠ [] := by
  have hr : Al.inRange a.letters.length [c] = true := by
    unfold Al.inRange
    simp [h0, h1]
  have hj : Al.joinL a.letters [c] = Al.letterAt a.letters c := by
    unfold Al.joinL; simp
  have h := Al.read_join hv hr (by simp) (by simp)
  have hne := Al.joinL_ne (Al.valid_formed hv) hr (by simp)
  rw [hj] at h hne
  exact ⟨by rw [next_of hne hv, h], hne⟩
section
variable {a : Al.Alph} {l : List Rul.Rule} {k : Nat} {next : List Int}
theorem stands_one (hv : Al.validB a = true) (hn : next = (Al.readB a (ruleAt l k).2.2.1).1) (hne : (ruleAt l k).2.2.1 ≠ []) (hend : (ruleAt l k).2.2.2 = false) (hpos : next ≠ []) (hin : ∀ c ∈ next, 0 ≤ c ∧ c < (a.letters.length : Int)) (w : List Int) :
    Rul.standsB (Rul.openR a.letters (ruleAt l k)) w = true ↔ ∃ c ∈ next, Rul.standsB (Rul.openR a.letters ((ruleAt l k).1, (ruleAt l k).2.1, Al.letterAt a.letters c, false)) w = true := by
  have hx := next_of hne hv
  rw [← hn] at hx
  have hlen : ∀ c, (Rul.openR a.letters ((ruleAt l k).1, (ruleAt l k).2.1, Al.letterAt a.letters c, false)).2.1 = (Rul.openR a.letters (ruleAt l k)).2.1 := fun c => rfl
  unfold Rul.standsB
  rw [hx, show (Rul.openR a.letters (ruleAt l k)).1.2.2.2 = false from hend, if_neg (by simp), if_neg hpos]
  constructor
  · intro h
    simp only [Bool.and_eq_true, decide_eq_true_eq] at h
    obtain ⟨h1, h2, h3, h4⟩ := h
    rw [List.contains_iff_mem] at h4
    refine ⟨_, h4, ?_⟩
    obtain ⟨h5, h6⟩ := next_one hv (hin _ h4).1 (hin _ h4).2 (ruleAt l k).1 (ruleAt l k).2.1
    rw [h5, hlen]
    rw [show ∀ c, (Rul.openR a.letters ((ruleAt l k).1, (ruleAt l k).2.1, Al.letterAt a.letters c, false)).1.2.2.2 = false from fun c => rfl, if_neg (by simp), if_neg (by simp)]
    simp only [Bool.and_eq_true, decide_eq_true_eq]
    exact ⟨h1, h2, h3, by simp⟩
  · rintro ⟨c, hc, h⟩
    obtain ⟨h5, h6⟩ := next_one hv (hin _ hc).1 (hin _ hc).2 (ruleAt l k).1 (ruleAt l k).2.1
    rw [h5, hlen, show (Rul.openR a.letters ((ruleAt l k).1, (ruleAt l k).2.1, Al.letterAt a.letters c, false)).1.2.2.2 = false from rfl, if_neg (by simp), if_neg (by simp)] at h
    simp only [Bool.and_eq_true, decide_eq_true_eq] at h ⊢
    obtain ⟨h1, h2, h3, h4⟩ := h
    refine ⟨h1, h2, h3, ?_⟩
    rw [List.contains_iff_mem] at h4 ⊢
    rw [List.mem_singleton.1 h4]; exact hc
theorem covers_each (hk : k < l.length) (hv : Al.validB a = true) (hn : next = (Al.readB a (ruleAt l k).2.2.1).1) (hne : (ruleAt l k).2.2.1 ≠ []) (hend : (ruleAt l k).2.2.2 = false) (hpos : next ≠ []) (hin : ∀ c ∈ next, 0 ≤ c ∧ c < (a.letters.length : Int)) :
    Covers a.letters l (eachRow a.letters l k next next.length) ∧ Covers a.letters (eachRow a.letters l k next next.length) l := by
  have hs := stands_one hv hn hne hend hpos hin
  constructor
  · intro x hx w h
    obtain ⟨i, hi, rfl⟩ := List.getElem_of_mem hx
    by_cases e : i = k
    · subst e
      have hr : l[i] = ruleAt l i := by unfold ruleAt; rw [List.getD_eq_getElem?_getD, List.getElem?_eq_getElem hi]; rfl
      rw [hr] at h ⊢
      obtain ⟨c, hc, h⟩ := (hs w).1 h
      exact ⟨_, (eachRow_all ..).2 (.inr ⟨c, hc, rfl⟩), h, rfl, rfl⟩
    · exact ⟨_, (eachRow_all ..).2 (.inl ⟨i, e, List.getElem?_eq_getElem hi⟩), h, rfl, rfl⟩
  · intro y hy w h
    rcases (eachRow_all ..).1 hy with ⟨i, _, hi⟩ | ⟨c, hc, rfl⟩
    · exact ⟨y, List.mem_of_getElem? hi, h, rfl, rfl⟩
    · exact ⟨_, ruleAt_mem hk, (hs w).2 ⟨c, hc, h⟩, rfl, rfl⟩
end
theorem wrap_byte11 (k : Int) (h0 : 0 ≤ k) (h1 : k ≤ 255) : IntKind.i64.wrap k = k := by
  unfold IntKind.wrap
  have e : k % (2 ^ IntKind.i64.bits : Int) = k := Int.emod_eq_of_lt h0 (by show k < (2 : Int) ^ 64; omega)
  rw [e]
  have h2 : ¬ k ≥ (2 ^ (IntKind.i64.bits - 1) : Int) := by
    show ¬ k ≥ (2 : Int) ^ 63
    omega
  simp only [decide_eq_false h2, Bool.and_false]
  rfl
theorem index_byte {raw : Int} (h0 : 0 ≤ raw) (h1 : raw ≤ 255) {n : Nat} (hn : n ≠ 0) : (IntKind.i64.wrap raw).tmod (n : Int) = ((raw % (n : Int)).toNat : Int) ∧ (raw % (n : Int)).toNat < n := by
  rw [wrap_byte11 raw h0 h1, Int.tmod_eq_emod_of_nonneg h0]
  have h2 := Int.emod_nonneg raw (show (n : Int) ≠ 0 by omega)
  have h3 := Int.emod_lt_of_pos raw (show (0 : Int) < n by omega)
  exact ⟨by omega, by omega⟩
theorem eachRow_len (L : List (List UInt8)) {l : List Rul.Rule} {k : Nat} (hk : k < l.length) (next : List Int) (p : Nat) (hp : p ≤ next.length) : (eachRow L l k next p).length = l.length - 1 + p := by
  unfold eachRow
  rw [List.length_append, List.length_append, List.length_take, List.length_drop, List.length_map, List.length_take]
  omega
theorem eachRow_succ (L : List (List UInt8)) (l : List Rul.Rule) (k : Nat) (next : List Int) (p : Nat) (hp : p < next.length) : eachRow L l k next (p + 1) = eachRow L l k next p ++ [((ruleAt l k).1, (ruleAt l k).2.1, Al.letterAt L next[p], false)] := by
  unfold eachRow
  rw [List.take_add_one, List.getElem?_eq_getElem hp, List.map_append, ← List.append_assoc]
  rfl
end Go.Proofs.YtldnfdghkdibmaaGreatDoor

/-
  Layer 11: RulesContexts.
-/
set_option linter.unusedVariables false
namespace Go.Proofs.YtldnfdghkdibmaaGreatDoor
open Go.RowKit
open R
/-SUB ([].length ==> (([] : List Rul.Rule).length -/
set_option maxRecDepth 100000 in
theorem ctx_vc (r1 r2 : List UInt8) (l : List Rul.Rule) (f1 : List UInt8) (f2 : List (List UInt8)) (f3 : List Int) (t : AlP) (s : List UInt8) (raw : Int) (h : cCtx.pre ((r1, r2, l), (f1, f2, f3), t, s, raw)) :
    /-VC fun (r1 r2 : List UInt8) (l : List Rul.Rule) (f1 : List UInt8) (f2 : List (List UInt8)) (f3 : List Int) (t : AlP) (s : List UInt8) (raw : Int) => vcOf Tryz.prog consCtx (anCtx f2 l (raw % (l.length : Int)).toNat (Al.readB (alOf (f1, f2, f3)) (ruleAt l (raw % (l.length : Int)).toNat).2.2.1).1) cCtx Tryz.f7 ((r1, r2, l), (f1, f2, f3), t, s, raw) -/
    True ∧ (BigR (r1, r2, l) ∧ BigA (f1, f2, f3) ∧ BigA (t.fst, t.snd.fst, t.snd.snd)) ∧ bif !(fewRB (r1, r2, l) && (fewAB (f1, f2, f3) && (fewAB (t.fst, t.snd.fst, t.snd.snd) && decide
    (s.length ≤ (100 : Nat))))) then true = true else (FewR (r1, r2, l) ∧ FewP (f1, f2, f3) ∧ FewP (t.fst, t.snd.fst, t.snd.snd)) ∧ bif !Rul.validB (r1, r2, l) (alOf (f1, f2, f3)) (alOf (t.fst,
    t.snd.fst, t.snd.snd)) then true = true else bif (↑l.length : Int) == (0 : Int) then true = true else (↑l.length : Int) ≠ (0 : Int) ∧ (FewR (r1, r2, l) ∧ FewP (f1, f2, f3) ∧ FewP (t.fst,
    t.snd.fst, t.snd.snd) ∧ s.length ≤ (1000000 : Nat)) ∧ bif (Rul.writingsB (r1, r2, l) (alOf (f1, f2, f3)) (alOf (t.fst, t.snd.fst, t.snd.snd)) s).snd != (0 : Int) then true = true else
    ((((([] : List Rul.Rule).length + l.length) * (56 : Nat) ≤ (140737488355328 : Nat) ∧ (s = s ∧ True ∧ True ∧ True ∧ true = true ∧ (IntKind.i64.wrap raw).tmod (↑l.length : Int) = (IntKind.i64.wrap raw).tmod
    (↑l.length : Int) ∧ (Rul.writingsB (r1, r2, l) (alOf (f1, f2, f3)) (alOf (t.fst, t.snd.fst, t.snd.snd)) s).fst = (Rul.writingsB (r1, r2, l) (alOf (f1, f2, f3)) (alOf (t.fst, t.snd.fst,
    t.snd.snd)) s).fst ∧ True ∧ True) ∧ ((r1 = r1 ∧ r2 = r2 ∧ True ∧ True) ∧ (t.fst = t.fst ∧ t.snd.fst = t.snd.fst ∧ t.snd.snd = t.snd.snd ∧ True) ∧ (f1 = f1 ∧ f2 = f2 ∧ f3 = f3 ∧ True) ∧ (r1 =
    r1 ∧ r2 = r2 ∧ l = l ∧ True) ∧ True) ∧ ([] ++ l = [] ++ l ∧ True) ∧ True ∧ True ∧ True ∧ True ∧ True) ∧ (([] : List Rul.Rule).length + l.length) * (56 : Nat) ≤ (140737488355328 : Nat) ∧ (s = s ∧ True ∧ True ∧
    True ∧ true = true ∧ (IntKind.i64.wrap raw).tmod (↑l.length : Int) = (IntKind.i64.wrap raw).tmod (↑l.length : Int) ∧ (Rul.writingsB (r1, r2, l) (alOf (f1, f2, f3)) (alOf (t.fst, t.snd.fst,
    t.snd.snd)) s).fst = (Rul.writingsB (r1, r2, l) (alOf (f1, f2, f3)) (alOf (t.fst, t.snd.fst, t.snd.snd)) s).fst ∧ True ∧ True) ∧ ((r1 = r1 ∧ r2 = r2 ∧ True ∧ True) ∧ (t.fst = t.fst ∧
    t.snd.fst = t.snd.fst ∧ t.snd.snd = t.snd.snd ∧ True) ∧ (f1 = f1 ∧ f2 = f2 ∧ f3 = f3 ∧ True) ∧ (r1 = r1 ∧ r2 = r2 ∧ l = l ∧ True) ∧ True) ∧ ([] ++ l = [] ++ l ∧ True) ∧ True ∧ True ∧ True ∧
    True ∧ True) ∧ (([] : List Rul.Rule).length + l.length) * (56 : Nat) ≤ (140737488355328 : Nat) ∧ (s = s ∧ True ∧ True ∧ True ∧ true = true ∧ (IntKind.i64.wrap raw).tmod (↑l.length : Int) = (IntKind.i64.wrap
    raw).tmod (↑l.length : Int) ∧ (Rul.writingsB (r1, r2, l) (alOf (f1, f2, f3)) (alOf (t.fst, t.snd.fst, t.snd.snd)) s).fst = (Rul.writingsB (r1, r2, l) (alOf (f1, f2, f3)) (alOf (t.fst,
    t.snd.fst, t.snd.snd)) s).fst ∧ True ∧ True) ∧ ((r1 = r1 ∧ r2 = r2 ∧ True ∧ True) ∧ (t.fst = t.fst ∧ t.snd.fst = t.snd.fst ∧ t.snd.snd = t.snd.snd ∧ True) ∧ (f1 = f1 ∧ f2 = f2 ∧ f3 = f3 ∧
    True) ∧ (r1 = r1 ∧ r2 = r2 ∧ l = l ∧ True) ∧ True) ∧ ([] ++ l = [] ++ l ∧ True) ∧ True ∧ True ∧ True ∧ True ∧ True) ∧ ((0 : Int) ≤ (IntKind.i64.wrap raw).tmod (↑l.length : Int) ∧
    (IntKind.i64.wrap raw).tmod (↑l.length : Int) < (↑l.length : Int)) ∧ ((0 : Int) ≤ (IntKind.i64.wrap raw).tmod (↑l.length : Int) ∧ (IntKind.i64.wrap raw).tmod (↑l.length : Int) < (↑l.length :
    Int)) ∧ ((0 : Int) ≤ (IntKind.i64.wrap raw).tmod (↑l.length : Int) ∧ (IntKind.i64.wrap raw).tmod (↑l.length : Int) < (↑([] ++ l).length : Int)) ∧ bif ((0 : Nat) + (69 : Nat)).beq ((0 : Nat)
    + (69 : Nat)) && ((1 : Nat) + (1 : Nat) + (1 : Nat) + (1 : Nat)).beq ((1 : Nat) + (1 : Nat) + (1 : Nat) + (1 : Nat)) && ((IntKind.i64.wrap raw).tmod (↑l.length : Int)).toNat.beq
    ((IntKind.i64.wrap raw).tmod (↑l.length : Int)).toNat && Nat.beq (0 : Nat) (0 : Nat) then ((FewR (r1, r2, ([] ++ l).set ((IntKind.i64.wrap raw).tmod (↑l.length : Int)).toNat ((l.getD
    ((IntKind.i64.wrap raw).tmod (↑l.length : Int)).toNat ([], [], [], false)).fst, (l.getD ((IntKind.i64.wrap raw).tmod (↑l.length : Int)).toNat ([], [], [], false)).snd.fst, [], false)) ∧ FewP
    (f1, f2, f3) ∧ FewP (t.fst, t.snd.fst, t.snd.snd)) ∧ bif Rul.validB (r1, r2, ([] ++ l).set ((IntKind.i64.wrap raw).tmod (↑l.length : Int)).toNat ((l.getD ((IntKind.i64.wrap raw).tmod
    (↑l.length : Int)).toNat ([], [], [], false)).fst, (l.getD ((IntKind.i64.wrap raw).tmod (↑l.length : Int)).toNat ([], [], [], false)).snd.fst, [], false)) (alOf (f1, f2, f3)) (alOf (t.fst,
    t.snd.fst, t.snd.snd)) then (FewR (r1, r2, ([] ++ l).set ((IntKind.i64.wrap raw).tmod (↑l.length : Int)).toNat ((l.getD ((IntKind.i64.wrap raw).tmod (↑l.length : Int)).toNat ([], [], [],
    false)).fst, (l.getD ((IntKind.i64.wrap raw).tmod (↑l.length : Int)).toNat ([], [], [], false)).snd.fst, [], false)) ∧ FewP (f1, f2, f3) ∧ FewP (t.fst, t.snd.fst, t.snd.snd) ∧ s.length ≤
    (1000000 : Nat)) ∧ bif (Rul.writingsB (r1, r2, ([] ++ l).set ((IntKind.i64.wrap raw).tmod (↑l.length : Int)).toNat ((l.getD ((IntKind.i64.wrap raw).tmod (↑l.length : Int)).toNat ([], [], [],
    false)).fst, (l.getD ((IntKind.i64.wrap raw).tmod (↑l.length : Int)).toNat ([], [], [], false)).snd.fst, [], false)) (alOf (f1, f2, f3)) (alOf (t.fst, t.snd.fst, t.snd.snd)) s).snd != (2 :
    Int) then bif (Rul.writingsB (r1, r2, ([] ++ l).set ((IntKind.i64.wrap raw).tmod (↑l.length : Int)).toNat ((l.getD ((IntKind.i64.wrap raw).tmod (↑l.length : Int)).toNat ([], [], [],
    false)).fst, (l.getD ((IntKind.i64.wrap raw).tmod (↑l.length : Int)).toNat ([], [], [], false)).snd.fst, [], false)) (alOf (f1, f2, f3)) (alOf (t.fst, t.snd.fst, t.snd.snd)) s).snd != (0 :
    Int) then false = true else ((Rul.writingsB (r1, r2, l) (alOf (f1, f2, f3)) (alOf (t.fst, t.snd.fst, t.snd.snd)) s).fst.length ≤ (1000000000 : Nat) ∧ (Rul.writingsB (r1, r2, ([] ++ l).set
    ((IntKind.i64.wrap raw).tmod (↑l.length : Int)).toNat ((l.getD ((IntKind.i64.wrap raw).tmod (↑l.length : Int)).toNat ([], [], [], false)).fst, (l.getD ((IntKind.i64.wrap raw).tmod (↑l.length
    : Int)).toNat ([], [], [], false)).snd.fst, [], false)) (alOf (f1, f2, f3)) (alOf (t.fst, t.snd.fst, t.snd.snd)) s).fst.length ≤ (1000000000 : Nat)) ∧ bif !amongB (Rul.writingsB (r1, r2, l)
    (alOf (f1, f2, f3)) (alOf (t.fst, t.snd.fst, t.snd.snd)) s).fst (Rul.writingsB (r1, r2, ([] ++ l).set ((IntKind.i64.wrap raw).tmod (↑l.length : Int)).toNat ((l.getD ((IntKind.i64.wrap
    raw).tmod (↑l.length : Int)).toNat ([], [], [], false)).fst, (l.getD ((IntKind.i64.wrap raw).tmod (↑l.length : Int)).toNat ([], [], [], false)).snd.fst, [], false)) (alOf (f1, f2, f3)) (alOf
    (t.fst, t.snd.fst, t.snd.snd)) s).fst then false = true else ∃ (p' : Unit), True ∧ (s = s ∧ True ∧ True ∧ True ∧ true = true ∧ (IntKind.i64.wrap raw).tmod (↑l.length : Int) =
    (IntKind.i64.wrap raw).tmod (↑l.length : Int) ∧ (Rul.writingsB (r1, r2, l) (alOf (f1, f2, f3)) (alOf (t.fst, t.snd.fst, t.snd.snd)) s).fst = (Rul.writingsB (r1, r2, l) (alOf (f1, f2, f3))
    (alOf (t.fst, t.snd.fst, t.snd.snd)) s).fst ∧ True) ∧ ((r1 = r1 ∧ r2 = r2 ∧ l = l ∧ True) ∧ (f1 = f1 ∧ f2 = f2 ∧ f3 = f3 ∧ True) ∧ (t.fst = t.fst ∧ t.snd.fst = t.snd.fst ∧ t.snd.snd =
    t.snd.snd ∧ True) ∧ True) ∧ True ∧ True ∧ True ∧ True ∧ True ∧ True else ∃ (p' : Unit), True ∧ (s = s ∧ True ∧ True ∧ True ∧ true = true ∧ (IntKind.i64.wrap raw).tmod (↑l.length : Int) =
    (IntKind.i64.wrap raw).tmod (↑l.length : Int) ∧ (Rul.writingsB (r1, r2, l) (alOf (f1, f2, f3)) (alOf (t.fst, t.snd.fst, t.snd.snd)) s).fst = (Rul.writingsB (r1, r2, l) (alOf (f1, f2, f3))
    (alOf (t.fst, t.snd.fst, t.snd.snd)) s).fst ∧ True) ∧ ((r1 = r1 ∧ r2 = r2 ∧ l = l ∧ True) ∧ (f1 = f1 ∧ f2 = f2 ∧ f3 = f3 ∧ True) ∧ (t.fst = t.fst ∧ t.snd.fst = t.snd.fst ∧ t.snd.snd =
    t.snd.snd ∧ True) ∧ True) ∧ True ∧ True ∧ True ∧ True ∧ True ∧ True else ∃ (p' : Unit), True ∧ (s = s ∧ True ∧ True ∧ True ∧ true = true ∧ (IntKind.i64.wrap raw).tmod (↑l.length : Int) =
    (IntKind.i64.wrap raw).tmod (↑l.length : Int) ∧ (Rul.writingsB (r1, r2, l) (alOf (f1, f2, f3)) (alOf (t.fst, t.snd.fst, t.snd.snd)) s).fst = (Rul.writingsB (r1, r2, l) (alOf (f1, f2, f3))
    (alOf (t.fst, t.snd.fst, t.snd.snd)) s).fst ∧ True) ∧ ((r1 = r1 ∧ r2 = r2 ∧ l = l ∧ True) ∧ (f1 = f1 ∧ f2 = f2 ∧ f3 = f3 ∧ True) ∧ (t.fst = t.fst ∧ t.snd.fst = t.snd.fst ∧ t.snd.snd =
    t.snd.snd ∧ True) ∧ True) ∧ True ∧ True ∧ True ∧ True ∧ True ∧ True) ∧ ∀ (p : Unit), True → ((0 : Int) ≤ (IntKind.i64.wrap raw).tmod (↑l.length : Int) ∧ (IntKind.i64.wrap raw).tmod
    (↑l.length : Int) < (↑l.length : Int)) ∧ bif (l.getD ((IntKind.i64.wrap raw).tmod (↑l.length : Int)).toNat ([], [], [], false)).snd.snd.fst == [] then true = true else (((0 : Int) ≤ (0 :
    Int) ∧ (0 : Int) ≤ (IntKind.i64.wrap raw).tmod (↑l.length : Int) ∧ (IntKind.i64.wrap raw).tmod (↑l.length : Int) ≤ (↑l.length : Int)) ∧ ((-9223372036854775808 : Int) ≤ (IntKind.i64.wrap
    raw).tmod (↑l.length : Int) + (1 : Int) ∧ (IntKind.i64.wrap raw).tmod (↑l.length : Int) + (1 : Int) ≤ (9223372036854775807 : Int)) ∧ ((0 : Int) ≤ (IntKind.i64.wrap raw).tmod (↑l.length :
    Int) + (1 : Int) ∧ (IntKind.i64.wrap raw).tmod (↑l.length : Int) + (1 : Int) ≤ (↑l.length : Int) ∧ (↑l.length : Int) ≤ (↑l.length : Int)) ∧ (((([] : List Rul.Rule).length + (List.drop (Int.toNat (0 : Int))
    (List.take ((IntKind.i64.wrap raw).tmod (↑l.length : Int)).toNat l)).length) * (56 : Nat) ≤ (140737488355328 : Nat) ∧ ((([] ++ List.drop (Int.toNat (0 : Int)) (List.take ((IntKind.i64.wrap
    raw).tmod (↑l.length : Int)).toNat l)).length + (List.drop ((IntKind.i64.wrap raw).tmod (↑l.length : Int) + (1 : Int)).toNat (List.take (↑l.length : Int).toNat l)).length) * (56 : Nat) ≤
    (140737488355328 : Nat) ∧ (s = s ∧ True ∧ True ∧ True ∧ true = true ∧ (IntKind.i64.wrap raw).tmod (↑l.length : Int) = (IntKind.i64.wrap raw).tmod (↑l.length : Int) ∧ (Rul.writingsB (r1, r2,
    l) (alOf (f1, f2, f3)) (alOf (t.fst, t.snd.fst, t.snd.snd)) s).fst = (Rul.writingsB (r1, r2, l) (alOf (f1, f2, f3)) (alOf (t.fst, t.snd.fst, t.snd.snd)) s).fst ∧ True ∧ True) ∧ ((r1 = r1 ∧
    r2 = r2 ∧ True ∧ True) ∧ (r1 = r1 ∧ r2 = r2 ∧ l = l ∧ True) ∧ (f1 = f1 ∧ f2 = f2 ∧ f3 = f3 ∧ True) ∧ (t.fst = t.fst ∧ t.snd.fst = t.snd.fst ∧ t.snd.snd = t.snd.snd ∧ True) ∧ True) ∧ ([] ++
    List.drop (Int.toNat (0 : Int)) (List.take ((IntKind.i64.wrap raw).tmod (↑l.length : Int)).toNat l) ++ List.drop ((IntKind.i64.wrap raw).tmod (↑l.length : Int) + (1 : Int)).toNat (List.take
    (↑l.length : Int).toNat l) = [] ++ List.drop (Int.toNat (0 : Int)) (List.take ((IntKind.i64.wrap raw).tmod (↑l.length : Int)).toNat l) ++ List.drop ((IntKind.i64.wrap raw).tmod (↑l.length :
    Int) + (1 : Int)).toNat (List.take (↑l.length : Int).toNat l) ∧ True) ∧ True ∧ True ∧ True ∧ True ∧ True) ∧ (([] ++ List.drop (Int.toNat (0 : Int)) (List.take ((IntKind.i64.wrap raw).tmod
    (↑l.length : Int)).toNat l)).length + (List.drop ((IntKind.i64.wrap raw).tmod (↑l.length : Int) + (1 : Int)).toNat (List.take (↑l.length : Int).toNat l)).length) * (56 : Nat) ≤
    (140737488355328 : Nat) ∧ (s = s ∧ True ∧ True ∧ True ∧ true = true ∧ (IntKind.i64.wrap raw).tmod (↑l.length : Int) = (IntKind.i64.wrap raw).tmod (↑l.length : Int) ∧ (Rul.writingsB (r1, r2,
    l) (alOf (f1, f2, f3)) (alOf (t.fst, t.snd.fst, t.snd.snd)) s).fst = (Rul.writingsB (r1, r2, l) (alOf (f1, f2, f3)) (alOf (t.fst, t.snd.fst, t.snd.snd)) s).fst ∧ True ∧ True) ∧ ((r1 = r1 ∧
    r2 = r2 ∧ True ∧ True) ∧ (r1 = r1 ∧ r2 = r2 ∧ l = l ∧ True) ∧ (f1 = f1 ∧ f2 = f2 ∧ f3 = f3 ∧ True) ∧ (t.fst = t.fst ∧ t.snd.fst = t.snd.fst ∧ t.snd.snd = t.snd.snd ∧ True) ∧ True) ∧ ([] ++
    List.drop (Int.toNat (0 : Int)) (List.take ((IntKind.i64.wrap raw).tmod (↑l.length : Int)).toNat l) ++ List.drop ((IntKind.i64.wrap raw).tmod (↑l.length : Int) + (1 : Int)).toNat (List.take
    (↑l.length : Int).toNat l) = [] ++ List.drop (Int.toNat (0 : Int)) (List.take ((IntKind.i64.wrap raw).tmod (↑l.length : Int)).toNat l) ++ List.drop ((IntKind.i64.wrap raw).tmod (↑l.length :
    Int) + (1 : Int)).toNat (List.take (↑l.length : Int).toNat l) ∧ True) ∧ True ∧ True ∧ True ∧ True ∧ True) ∧ (([] : List Rul.Rule).length + (List.drop (Int.toNat (0 : Int)) (List.take ((IntKind.i64.wrap
    raw).tmod (↑l.length : Int)).toNat l)).length) * (56 : Nat) ≤ (140737488355328 : Nat) ∧ (([] ++ List.drop (Int.toNat (0 : Int)) (List.take ((IntKind.i64.wrap raw).tmod (↑l.length :
    Int)).toNat l)).length + (List.drop ((IntKind.i64.wrap raw).tmod (↑l.length : Int) + (1 : Int)).toNat (List.take (↑l.length : Int).toNat l)).length) * (56 : Nat) ≤ (140737488355328 : Nat) ∧
    (s = s ∧ True ∧ True ∧ True ∧ true = true ∧ (IntKind.i64.wrap raw).tmod (↑l.length : Int) = (IntKind.i64.wrap raw).tmod (↑l.length : Int) ∧ (Rul.writingsB (r1, r2, l) (alOf (f1, f2, f3))
    (alOf (t.fst, t.snd.fst, t.snd.snd)) s).fst = (Rul.writingsB (r1, r2, l) (alOf (f1, f2, f3)) (alOf (t.fst, t.snd.fst, t.snd.snd)) s).fst ∧ True ∧ True) ∧ ((r1 = r1 ∧ r2 = r2 ∧ True ∧ True) ∧
    (r1 = r1 ∧ r2 = r2 ∧ l = l ∧ True) ∧ (f1 = f1 ∧ f2 = f2 ∧ f3 = f3 ∧ True) ∧ (t.fst = t.fst ∧ t.snd.fst = t.snd.fst ∧ t.snd.snd = t.snd.snd ∧ True) ∧ True) ∧ ([] ++ List.drop (Int.toNat (0 :
    Int)) (List.take ((IntKind.i64.wrap raw).tmod (↑l.length : Int)).toNat l) ++ List.drop ((IntKind.i64.wrap raw).tmod (↑l.length : Int) + (1 : Int)).toNat (List.take (↑l.length : Int).toNat l)
    = [] ++ List.drop (Int.toNat (0 : Int)) (List.take ((IntKind.i64.wrap raw).tmod (↑l.length : Int)).toNat l) ++ List.drop ((IntKind.i64.wrap raw).tmod (↑l.length : Int) + (1 : Int)).toNat
    (List.take (↑l.length : Int).toNat l) ∧ True) ∧ True ∧ True ∧ True ∧ True ∧ True) ∧ (([] : List Rul.Rule).length + (List.drop (Int.toNat (0 : Int)) (List.take ((IntKind.i64.wrap raw).tmod (↑l.length :
    Int)).toNat l)).length) * (56 : Nat) ≤ (140737488355328 : Nat) ∧ (([] ++ List.drop (Int.toNat (0 : Int)) (List.take ((IntKind.i64.wrap raw).tmod (↑l.length : Int)).toNat l)).length +
    (List.drop ((IntKind.i64.wrap raw).tmod (↑l.length : Int) + (1 : Int)).toNat (List.take (↑l.length : Int).toNat l)).length) * (56 : Nat) ≤ (140737488355328 : Nat) ∧ (s = s ∧ True ∧ True ∧
    True ∧ true = true ∧ (IntKind.i64.wrap raw).tmod (↑l.length : Int) = (IntKind.i64.wrap raw).tmod (↑l.length : Int) ∧ (Rul.writingsB (r1, r2, l) (alOf (f1, f2, f3)) (alOf (t.fst, t.snd.fst,
    t.snd.snd)) s).fst = (Rul.writingsB (r1, r2, l) (alOf (f1, f2, f3)) (alOf (t.fst, t.snd.fst, t.snd.snd)) s).fst ∧ True ∧ True) ∧ ((r1 = r1 ∧ r2 = r2 ∧ True ∧ True) ∧ (r1 = r1 ∧ r2 = r2 ∧ l =
    l ∧ True) ∧ (f1 = f1 ∧ f2 = f2 ∧ f3 = f3 ∧ True) ∧ (t.fst = t.fst ∧ t.snd.fst = t.snd.fst ∧ t.snd.snd = t.snd.snd ∧ True) ∧ True) ∧ ([] ++ List.drop (Int.toNat (0 : Int)) (List.take
    ((IntKind.i64.wrap raw).tmod (↑l.length : Int)).toNat l) ++ List.drop ((IntKind.i64.wrap raw).tmod (↑l.length : Int) + (1 : Int)).toNat (List.take (↑l.length : Int).toNat l) = [] ++
    List.drop (Int.toNat (0 : Int)) (List.take ((IntKind.i64.wrap raw).tmod (↑l.length : Int)).toNat l) ++ List.drop ((IntKind.i64.wrap raw).tmod (↑l.length : Int) + (1 : Int)).toNat (List.take
    (↑l.length : Int).toNat l) ∧ True) ∧ True ∧ True ∧ True ∧ True ∧ True) ∧ ((0 : Int) ≤ (IntKind.i64.wrap raw).tmod (↑l.length : Int) ∧ (IntKind.i64.wrap raw).tmod (↑l.length : Int) <
    (↑l.length : Int)) ∧ (FewP (f1, f2, f3) ∧ (l.getD ((IntKind.i64.wrap raw).tmod (↑l.length : Int)).toNat ([], [], [], false)).snd.snd.fst.length ≤ (1000000 : Nat)) ∧ (∃ (p' : Nat), p' ≤
    (Al.readB (alOf (f1, f2, f3)) (ruleAt l (raw % (↑l.length : Int)).toNat).snd.snd.fst).fst.length ∧ ((0 : Int) = (↑p' : Int) ∧ s = s ∧ True ∧ True ∧ True ∧ True ∧ true = true ∧
    (IntKind.i64.wrap raw).tmod (↑l.length : Int) = (IntKind.i64.wrap raw).tmod (↑l.length : Int) ∧ (Rul.writingsB (r1, r2, l) (alOf (f1, f2, f3)) (alOf (t.fst, t.snd.fst, t.snd.snd)) s).fst =
    (Rul.writingsB (r1, r2, l) (alOf (f1, f2, f3)) (alOf (t.fst, t.snd.fst, t.snd.snd)) s).fst ∧ True ∧ (Al.readB (alOf (f1, f2, f3)) (l.getD ((IntKind.i64.wrap raw).tmod (↑l.length :
    Int)).toNat ([], [], [], false)).snd.snd.fst).fst = (Al.readB (alOf (f1, f2, f3)) (l.getD ((IntKind.i64.wrap raw).tmod (↑l.length : Int)).toNat ([], [], [], false)).snd.snd.fst).fst ∧
    (Al.readB (alOf (f1, f2, f3)) (l.getD ((IntKind.i64.wrap raw).tmod (↑l.length : Int)).toNat ([], [], [], false)).snd.snd.fst).snd.fst = (Al.readB (alOf (f1, f2, f3)) (l.getD
    ((IntKind.i64.wrap raw).tmod (↑l.length : Int)).toNat ([], [], [], false)).snd.snd.fst).snd.fst ∧ True) ∧ ((r1 = r1 ∧ r2 = r2 ∧ True ∧ True) ∧ (r1 = r1 ∧ r2 = r2 ∧ l = l ∧ True) ∧ (f1 = f1 ∧
    f2 = f2 ∧ f3 = f3 ∧ True) ∧ (t.fst = t.fst ∧ t.snd.fst = t.snd.fst ∧ t.snd.snd = t.snd.snd ∧ True) ∧ True) ∧ ([] ++ List.drop (Int.toNat (0 : Int)) (List.take ((IntKind.i64.wrap raw).tmod
    (↑l.length : Int)).toNat l) ++ List.drop ((IntKind.i64.wrap raw).tmod (↑l.length : Int) + (1 : Int)).toNat (List.take (↑l.length : Int).toNat l) = eachRow f2 l (raw % (↑l.length :
    Int)).toNat (Al.readB (alOf (f1, f2, f3)) (ruleAt l (raw % (↑l.length : Int)).toNat).snd.snd.fst).fst p' ∧ True) ∧ True ∧ True ∧ True ∧ True ∧ True) ∧ ∀ (p : Nat), p ≤ (Al.readB (alOf (f1,
    f2, f3)) (ruleAt l (raw % (↑l.length : Int)).toNat).snd.snd.fst).fst.length → bif decide ((↑p : Int) < (↑(Al.readB (alOf (f1, f2, f3)) (l.getD ((IntKind.i64.wrap raw).tmod (↑l.length :
    Int)).toNat ([], [], [], false)).snd.snd.fst).fst.length : Int)) then ((-9223372036854775808 : Int) ≤ (↑p : Int) + (1 : Int) ∧ (↑p : Int) + (1 : Int) ≤ (9223372036854775807 : Int)) ∧ ((0 :
    Int) ≤ (↑p : Int) ∧ (↑p : Int) ≤ (↑p : Int) + (1 : Int) ∧ (↑p : Int) + (1 : Int) ≤ (↑(Al.readB (alOf (f1, f2, f3)) (l.getD ((IntKind.i64.wrap raw).tmod (↑l.length : Int)).toNat ([], [], [],
    false)).snd.snd.fst).fst.length : Int)) ∧ (FewP (f1, f2, f3) ∧ (List.drop (↑p : Int).toNat (List.take ((↑p : Int) + (1 : Int)).toNat (Al.readB (alOf (f1, f2, f3)) (l.getD ((IntKind.i64.wrap
    raw).tmod (↑l.length : Int)).toNat ([], [], [], false)).snd.snd.fst).fst)).length ≤ (1000000 : Nat)) ∧ bif (Al.joinB (alOf (f1, f2, f3)) (List.drop (↑p : Int).toNat (List.take ((↑p : Int) +
    (1 : Int)).toNat (Al.readB (alOf (f1, f2, f3)) (l.getD ((IntKind.i64.wrap raw).tmod (↑l.length : Int)).toNat ([], [], [], false)).snd.snd.fst).fst))).snd != (0 : Int) then false = true else
    ((0 : Int) ≤ (IntKind.i64.wrap raw).tmod (↑l.length : Int) ∧ (IntKind.i64.wrap raw).tmod (↑l.length : Int) < (↑l.length : Int)) ∧ ((0 : Int) ≤ (IntKind.i64.wrap raw).tmod (↑l.length : Int) ∧
    (IntKind.i64.wrap raw).tmod (↑l.length : Int) < (↑l.length : Int)) ∧ ((eachRow f2 l (raw % (↑l.length : Int)).toNat (Al.readB (alOf (f1, f2, f3)) (ruleAt l (raw % (↑l.length :
    Int)).toNat).snd.snd.fst).fst p).length + [((l.getD ((IntKind.i64.wrap raw).tmod (↑l.length : Int)).toNat ([], [], [], false)).fst, (l.getD ((IntKind.i64.wrap raw).tmod (↑l.length :
    Int)).toNat ([], [], [], false)).snd.fst, (Al.joinB (alOf (f1, f2, f3)) (List.drop (↑p : Int).toNat (List.take ((↑p : Int) + (1 : Int)).toNat (Al.readB (alOf (f1, f2, f3)) (l.getD
    ((IntKind.i64.wrap raw).tmod (↑l.length : Int)).toNat ([], [], [], false)).snd.snd.fst).fst))).fst, false)].length) * (56 : Nat) ≤ (140737488355328 : Nat) ∧ ((-9223372036854775808 : Int) ≤
    (↑p : Int) + (1 : Int) ∧ (↑p : Int) + (1 : Int) ≤ (9223372036854775807 : Int)) ∧ ∃ (p' : Nat), p' ≤ (Al.readB (alOf (f1, f2, f3)) (ruleAt l (raw % (↑l.length :
    Int)).toNat).snd.snd.fst).fst.length ∧ (Al.readB (alOf (f1, f2, f3)) (ruleAt l (raw % (↑l.length : Int)).toNat).snd.snd.fst).fst.length - p' < (Al.readB (alOf (f1, f2, f3)) (ruleAt l (raw %
    (↑l.length : Int)).toNat).snd.snd.fst).fst.length - p ∧ ((↑p : Int) + (1 : Int) = (↑p' : Int) ∧ s = s ∧ True ∧ True ∧ True ∧ True ∧ true = true ∧ (IntKind.i64.wrap raw).tmod (↑l.length :
    Int) = (IntKind.i64.wrap raw).tmod (↑l.length : Int) ∧ (Rul.writingsB (r1, r2, l) (alOf (f1, f2, f3)) (alOf (t.fst, t.snd.fst, t.snd.snd)) s).fst = (Rul.writingsB (r1, r2, l) (alOf (f1, f2,
    f3)) (alOf (t.fst, t.snd.fst, t.snd.snd)) s).fst ∧ True ∧ (Al.readB (alOf (f1, f2, f3)) (l.getD ((IntKind.i64.wrap raw).tmod (↑l.length : Int)).toNat ([], [], [], false)).snd.snd.fst).fst =
    (Al.readB (alOf (f1, f2, f3)) (l.getD ((IntKind.i64.wrap raw).tmod (↑l.length : Int)).toNat ([], [], [], false)).snd.snd.fst).fst ∧ (Al.readB (alOf (f1, f2, f3)) (l.getD ((IntKind.i64.wrap
    raw).tmod (↑l.length : Int)).toNat ([], [], [], false)).snd.snd.fst).snd.fst = (Al.readB (alOf (f1, f2, f3)) (l.getD ((IntKind.i64.wrap raw).tmod (↑l.length : Int)).toNat ([], [], [],
    false)).snd.snd.fst).snd.fst ∧ True) ∧ ((r1 = r1 ∧ r2 = r2 ∧ True ∧ True) ∧ (r1 = r1 ∧ r2 = r2 ∧ l = l ∧ True) ∧ (f1 = f1 ∧ f2 = f2 ∧ f3 = f3 ∧ True) ∧ (t.fst = t.fst ∧ t.snd.fst = t.snd.fst
    ∧ t.snd.snd = t.snd.snd ∧ True) ∧ True) ∧ (eachRow f2 l (raw % (↑l.length : Int)).toNat (Al.readB (alOf (f1, f2, f3)) (ruleAt l (raw % (↑l.length : Int)).toNat).snd.snd.fst).fst p ++
    [((l.getD ((IntKind.i64.wrap raw).tmod (↑l.length : Int)).toNat ([], [], [], false)).fst, (l.getD ((IntKind.i64.wrap raw).tmod (↑l.length : Int)).toNat ([], [], [], false)).snd.fst,
    (Al.joinB (alOf (f1, f2, f3)) (List.drop (↑p : Int).toNat (List.take ((↑p : Int) + (1 : Int)).toNat (Al.readB (alOf (f1, f2, f3)) (l.getD ((IntKind.i64.wrap raw).tmod (↑l.length :
    Int)).toNat ([], [], [], false)).snd.snd.fst).fst))).fst, false)] = eachRow f2 l (raw % (↑l.length : Int)).toNat (Al.readB (alOf (f1, f2, f3)) (ruleAt l (raw % (↑l.length :
    Int)).toNat).snd.snd.fst).fst p' ∧ True) ∧ True ∧ True ∧ True ∧ True ∧ True else bif (Al.readB (alOf (f1, f2, f3)) (l.getD ((IntKind.i64.wrap raw).tmod (↑l.length : Int)).toNat ([], [], [],
    false)).snd.snd.fst).snd.fst != (0 : Int) then ((Al.readB (alOf (f1, f2, f3)) (l.getD ((IntKind.i64.wrap raw).tmod (↑l.length : Int)).toNat ([], [], [], false)).snd.snd.fst).snd.fst == (0 :
    Int)) = true else (FewR (r1, r2, eachRow f2 l (raw % (↑l.length : Int)).toNat (Al.readB (alOf (f1, f2, f3)) (ruleAt l (raw % (↑l.length : Int)).toNat).snd.snd.fst).fst p) ∧ FewP (f1, f2, f3)
    ∧ FewP (t.fst, t.snd.fst, t.snd.snd)) ∧ bif !Rul.validB (r1, r2, eachRow f2 l (raw % (↑l.length : Int)).toNat (Al.readB (alOf (f1, f2, f3)) (ruleAt l (raw % (↑l.length :
    Int)).toNat).snd.snd.fst).fst p) (alOf (f1, f2, f3)) (alOf (t.fst, t.snd.fst, t.snd.snd)) then ((Al.readB (alOf (f1, f2, f3)) (l.getD ((IntKind.i64.wrap raw).tmod (↑l.length : Int)).toNat
    ([], [], [], false)).snd.snd.fst).snd.fst == (0 : Int)) = true else (FewR (r1, r2, eachRow f2 l (raw % (↑l.length : Int)).toNat (Al.readB (alOf (f1, f2, f3)) (ruleAt l (raw % (↑l.length :
    Int)).toNat).snd.snd.fst).fst p) ∧ FewP (f1, f2, f3) ∧ FewP (t.fst, t.snd.fst, t.snd.snd) ∧ s.length ≤ (1000000 : Nat)) ∧ bif (Rul.writingsB (r1, r2, eachRow f2 l (raw % (↑l.length :
    Int)).toNat (Al.readB (alOf (f1, f2, f3)) (ruleAt l (raw % (↑l.length : Int)).toNat).snd.snd.fst).fst p) (alOf (f1, f2, f3)) (alOf (t.fst, t.snd.fst, t.snd.snd)) s).snd == (0 : Int) then
    ((Rul.writingsB (r1, r2, l) (alOf (f1, f2, f3)) (alOf (t.fst, t.snd.fst, t.snd.snd)) s).fst.length ≤ (1000000000 : Nat) ∧ (Rul.writingsB (r1, r2, eachRow f2 l (raw % (↑l.length : Int)).toNat
    (Al.readB (alOf (f1, f2, f3)) (ruleAt l (raw % (↑l.length : Int)).toNat).snd.snd.fst).fst p) (alOf (f1, f2, f3)) (alOf (t.fst, t.snd.fst, t.snd.snd)) s).fst.length ≤ (1000000000 : Nat)) ∧
    ((Rul.writingsB (r1, r2, l) (alOf (f1, f2, f3)) (alOf (t.fst, t.snd.fst, t.snd.snd)) s).fst == (Rul.writingsB (r1, r2, eachRow f2 l (raw % (↑l.length : Int)).toNat (Al.readB (alOf (f1, f2,
    f3)) (ruleAt l (raw % (↑l.length : Int)).toNat).snd.snd.fst).fst p) (alOf (f1, f2, f3)) (alOf (t.fst, t.snd.fst, t.snd.snd)) s).fst) = true else false = true else False
    /-CV-/ := by
  obtain ⟨t1, t2, t3⟩ := t
  obtain ⟨g1, g2, g3, g4, g5⟩ := h
  obtain ⟨hk0, hk1⟩ := bounds_u8 (show (Lit.int .u8 raw).wf = true from g5)
  simp only [true_and, and_true, eq_self, and_self, List.nil_append, List.length_nil, Nat.zero_add, Nat.add_zero, exists_const, forall_const, true_implies]
  refine ⟨⟨g1, g2, g3⟩, bifP (fun _ => trivial) fun h1 => ?_⟩
  have h1 : (fewRB (r1, r2, l) && (fewAB (f1, f2, f3) && (fewAB (t1, t2, t3) && decide (s.length ≤ 100)))) = true := by
    have h1 : (!(fewRB (r1, r2, l) && (fewAB (f1, f2, f3) && (fewAB (t1, t2, t3) && decide (s.length ≤ 100))))) = false := h1
    simpa using h1
  simp only [Bool.and_eq_true, decide_eq_true_eq] at h1
  obtain ⟨k1, k2, k3, k4⟩ := h1
  have fr := few_of_fewRB k1
  have ff := few_of_fewAB k2
  have ft := few_of_fewAB k3
  have hl90 : l.length ≤ 90 := by
    unfold fewRB at k1
    simp only [Bool.and_eq_true, decide_eq_true_eq] at k1
    exact k1.1
  refine ⟨⟨fr, ff, ft⟩, bifP (fun _ => trivial) fun hv => bifP (fun _ => trivial) fun hl => ?_⟩
  have hv : Rul.validB (r1, r2, l) (alOf (f1, f2, f3)) (alOf (t1, t2, t3)) = true := by
    have hv : (!Rul.validB (r1, r2, l) (alOf (f1, f2, f3)) (alOf (t1, t2, t3))) = false := hv
    simpa using hv
  have hl0 : l.length ≠ 0 := fun e => by rw [e] at hl; simp at hl
  obtain ⟨hm, hkl⟩ := index_byte hk0 hk1 hl0
  generalize (raw % (l.length : Int)).toNat = k at hm hkl ⊢
  have hra : ∀ i, l.getD i ([], [], [], false) = ruleAt l i := fun _ => rfl
  simp only [hm, Int.toNat_natCast, hra]
  have hx : ruleAt l k ∈ l := ruleAt_mem hkl
  have hxf : FewT (ruleAt l k) := fr.2.2.2 _ hx
  have hw1 := writ_most (r1, r2, l) (alOf (f1, f2, f3)) (alOf (t1, t2, t3)) s
  have hlc : (l.length : Int) ≠ 0 := by omega
  have hkk : (0 : Int) ≤ (k : Int) ∧ (k : Int) < (l.length : Int) := ⟨by omega, by omega⟩
  refine ⟨hlc, ⟨fr, ff, ft, by omega⟩, bifP (fun _ => trivial) fun he => ?_⟩
  have he : (Rul.writingsB (r1, r2, l) (alOf (f1, f2, f3)) (alOf (t1, t2, t3)) s).2 = 0 := bne_eq_false_iff_eq.1 he
  refine ⟨by omega, hkk, hkk, hkk, bifP (fun _ => ?_) fun e => absurd e (by simp [Nat.beq_refl])⟩
  have frb : FewR (r1, r2, l.set k ((ruleAt l k).1, (ruleAt l k).2.1, [], false)) := ⟨fr.1, fr.2.1, by show (l.set k _).length ≤ 1000; rw [List.length_set]; omega, fun x hx' => by
    rcases List.mem_or_eq_of_mem_set hx' with h | rfl
    · exact fr.2.2.2 x h
    · exact ⟨hxf.1, hxf.2.1, Nat.zero_le _⟩⟩
  have hw2 := writ_most (r1, r2, l.set k ((ruleAt l k).1, (ruleAt l k).2.1, [], false)) (alOf (f1, f2, f3)) (alOf (t1, t2, t3)) s
  refine ⟨⟨⟨frb, ff, ft⟩, bifP (fun hvb => ⟨⟨frb, ff, ft, by omega⟩, ?_⟩) fun _ => trivial⟩, hkk, bifP (fun _ => trivial) fun hne => ?_⟩
  · rcases writ_covers (covers_bare f2 hkl) he hvb with h | ⟨h, h'⟩
    · rw [h]; exact trivial
    · rw [h, h']; exact ⟨⟨Nat.le_trans hw1 (by decide), Nat.le_trans hw2 (by decide)⟩, trivial⟩
  have hne : (ruleAt l k).2.2.1 ≠ [] := fun e => by rw [e] at hne; simp at hne
  obtain ⟨_, _, hn3, hn4⟩ := valid_rule hv hx
  have hend : (ruleAt l k).2.2.2 = false := by
    cases h : (ruleAt l k).2.2.2
    · rfl
    · exact absurd (hn4 h) hne
  have hav : Al.validB (alOf (f1, f2, f3)) = true := by
    have hv := hv
    unfold Rul.validB at hv
    simp only [Bool.and_eq_true] at hv
    exact hv.2.1
  have hr0 : (Al.readB (alOf (f1, f2, f3)) (ruleAt l k).2.2.1).2.1 = 0 := by
    unfold Al.readB
    rw [if_pos hav]
    exact hn3.resolve_left hne
  obtain ⟨_, _, hr1, _, hr3, hr4, hr5⟩ := Al.read_ok hr0
  generalize hnx : (Al.readB (alOf (f1, f2, f3)) (ruleAt l k).2.2.1).1 = next at hr1 hr3 hr4 hr5 ⊢
  have hin : ∀ c ∈ next, 0 ≤ c ∧ c < (f2.length : Int) := Al.inRange_mem hr3
  have hcov := covers_each (a := alOf (f1, f2, f3)) hkl hav hnx.symm hne hend hr4 hin
  have ht1 : (List.drop (Int.toNat 0) (List.take k l)) = l.take k := rfl
  have ht2 : (List.drop ((k : Int) + 1).toNat (List.take l.length l)) = l.drop (k + 1) := by
    rw [List.take_length, show ((k : Int) + 1).toNat = k + 1 by omega]
  have hl1 : (l.take k).length = k := by rw [List.length_take]; omega
  have hl2 : (l.drop (k + 1)).length = l.length - (k + 1) := List.length_drop ..
  rw [ht1, ht2, hl1, hl2]
  refine ⟨⟨⟨by omega, by omega, by omega⟩, ⟨by omega, by omega⟩, ⟨by omega, by omega, by omega⟩, by omega, by omega⟩, hkk, ⟨ff, Nat.le_trans hxf.2.2 (by decide)⟩, ⟨0, Nat.zero_le _, rfl, ?_⟩, fun p hp => bifP (fun hb => ?_) fun hb => ?_⟩
  · unfold eachRow
    rw [List.take_zero, List.map_nil, List.append_nil]
  · have hlt : p < next.length := by have := of_decide_eq_true hb; omega
    have hdt : List.drop p (List.take ((p : Int) + 1).toNat next) = [next[p]] := by
      rw [show ((p : Int) + 1).toNat = p + 1 by omega, List.take_add_one, List.getElem?_eq_getElem hlt, List.drop_append_of_le_length (by rw [List.length_take]; omega), List.drop_eq_nil_of_le (by rw [List.length_take]; omega)]
      rfl
    have hc := hin _ (List.getElem_mem hlt)
    have hjn : Al.joinB (alOf (f1, f2, f3)) [next[p]] = (Al.letterAt f2 next[p], 0) := by
      unfold Al.joinB
      rw [hav, show Al.inRange (alOf (f1, f2, f3)).letters.length [next[p]] = true by
        unfold Al.inRange
        simp [alOf, hc.1, hc.2]]
      rw [if_pos (by simp)]
      unfold Al.joinL
      simp [alOf]
    rw [hdt, hjn]
    refine ⟨⟨by omega, by omega⟩, ⟨by omega, by omega, by omega⟩, ⟨ff, by simp⟩, bifP (fun e => by simp at e) fun _ => ⟨hkk, hkk, ?_, ⟨by omega, by omega⟩, p + 1, by omega, by omega, by omega, ?_⟩⟩
    · rw [eachRow_len f2 hkl next p hp]
      simp only [List.length_singleton]
      omega
    · rw [eachRow_succ f2 l k next p hlt]
  · have hpl : p = next.length := by have := of_decide_eq_false hb; omega
    subst hpl
    rw [hr1]
    have fre : FewR (r1, r2, eachRow f2 l k next next.length) := ⟨fr.1, fr.2.1, by show (eachRow f2 l k next next.length).length ≤ 1000; rw [eachRow_len f2 hkl next _ (Nat.le_refl _)]; omega, fun x hx' => by
      rcases (eachRow_all ..).1 hx' with ⟨i, _, hi⟩ | ⟨c, hc, rfl⟩
      · exact fr.2.2.2 x (List.mem_of_getElem? hi)
      · refine ⟨hxf.1, hxf.2.1, ?_⟩
        have := ff.2.1 _ (Al.letterAt_mem (a := alOf (f1, f2, f3)) (hin c hc).1 (hin c hc).2)
        show (Al.letterAt f2 c).length ≤ 1000
        exact Nat.le_trans this (by decide)⟩
    refine bifP (fun e => by simp at e) fun _ => ⟨⟨fre, ff, ft⟩, bifP (fun _ => by simp) fun hve => ⟨⟨fre, ff, ft, by omega⟩, ?_⟩⟩
    have hve : Rul.validB (r1, r2, eachRow f2 l k next next.length) (alOf (f1, f2, f3)) (alOf (t1, t2, t3)) = true := by
      have hve : (!Rul.validB (r1, r2, eachRow f2 l k next next.length) (alOf (f1, f2, f3)) (alOf (t1, t2, t3))) = false := hve
      simpa using hve
    have hsame : Rul.writingsB (r1, r2, eachRow f2 l k next next.length) (alOf (f1, f2, f3)) (alOf (t1, t2, t3)) s = Rul.writingsB (r1, r2, l) (alOf (f1, f2, f3)) (alOf (t1, t2, t3)) s := writ_same hcov.1 hcov.2 hv hve
    rw [hsame, he]
    exact ⟨⟨Nat.le_trans hw1 (by decide), Nat.le_trans hw1 (by decide)⟩, by simp⟩
set_option maxRecDepth 100000 in
theorem ctx_holds : cCtx.Holds Tryz.prog := by
  refine holdsF (cons := consCtx) Tryz.func7 (by kernel_rfl) (by kernel_rfl) mixed (by kernel_rfl) (fun c h => by
    rcases List.mem_cons.1 h with rfl | h
    · exact head11_holds
    rcases List.mem_cons.1 h with rfl | h
    · exact fewa11_holds
    rcases List.mem_cons.1 h with rfl | h
    · exact writ_holds
    rcases List.mem_cons.1 h with rfl | h
    · exact texts_holds
    rcases List.mem_cons.1 h with rfl | h
    · exact validr_holds
    rcases List.mem_cons.1 h with rfl | h
    · exact among_holds
    rcases List.mem_cons.1 h with rfl | h
    · exact pread_holds
    · obtain rfl := List.mem_singleton.1 h; exact pjoin_holds) (fun p => anCtx p.2.1.2.1 p.1.2.2 (p.2.2.2.2 % (p.1.2.2.length : Int)).toNat (Al.readB (alOf p.2.1) (ruleAt p.1.2.2 (p.2.2.2.2 % (p.1.2.2.length : Int)).toNat).2.2.1).1) fun p hp => ?_
  obtain ⟨⟨r1, r2, l⟩, ⟨f1, f2, f3⟩, t, s, raw⟩ := p
  refine cast ?_ (ctx_vc r1 r2 l f1 f2 f3 t s raw hp)
  kernel_rfl
end Go.Proofs.YtldnfdghkdibmaaGreatDoor

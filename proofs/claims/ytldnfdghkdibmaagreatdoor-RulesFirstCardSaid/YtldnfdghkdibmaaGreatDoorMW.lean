/-
  Several texts in one: RuZE, RuZF, RuZK, RuZL, RuZM, RuZP, RuZN.
-/
import Derived.Test.YtldnfdghkdibmaaGreatDoorRuZC
import Derived.Test.YtldnfdghkdibmaaGreatDoorPAlJoin
import Derived.Test.YtldnfdghkdibmaaGreatDoorMP
import Derived.Test.YtldnfdghkdibmaaGreatDoorRuF
/-
  Layer 11: find, among, RulesMore: contracts, loops.
-/
set_option linter.unusedVariables false
namespace Go.Proofs.YtldnfdghkdibmaaGreatDoor
open Go.RowKit
open R
def R.bx (st : St) (i : Nat) : Nat × List Cell := (i, match st.box i with
  | some l => l
  | none => [])
def R.bxOwn (st : St) (i r : Nat) : Nat × List Cell := (i, match st.box i with
  | some (a :: b :: _) => [a, b, .own r]
  | _ => [])
def findI (s : List UInt8) : List (List UInt8) → Int → Int
  | [], _ => -1
  | x :: r, i => if x == s then i else findI s r (i + 1)
def cFind : Con := .of 22 [ckStrs, ckStr] [ckInt] (fun p => List.length p.1 ≤ 1000000000) (fun p => findI p.2 p.1 0)
def anFind (l : List (List UInt8)) (s : List UInt8) : List (Nat × Ann) := [ann 0 Nat [0, 1] (fun k => [(5, R.int .i64 k)]) (fun k => k ≤ l.length ∧ (l.take k).contains s = false) (fun k => l.length - k)]
def amongB (a b : List (List UInt8)) : Bool := a.all fun x => b.contains x
def cAmong : Con := .of 16 [ckStrs, ckStrs] [.one .bool] (fun p => List.length p.1 ≤ 1000000000 ∧ List.length p.2 ≤ 1000000000) (fun p => amongB p.1 p.2)
def anAmong (a b : List (List UInt8)) : List (Nat × Ann) := [ann 0 Nat [0, 1] (fun k => [(5, R.int .i64 k)]) (fun k => k ≤ a.length ∧ amongB (a.take k) b = true) (fun k => a.length - k)]
def cMore : Con := .of 4 [ckRules, ckAl, ckAl, ckStr, ckRule] [.one .bool] (fun p => BigR p.1 ∧ BigA p.2.1 ∧ BigA p.2.2.1 ∧ CK.Big ckStr p.2.2.2.1 ∧ CK.Big ckRule p.2.2.2.2) (fun _ => true)
def anMore (l : List Rul.Rule) : List (Nat × Ann) :=
  [(0, { ι := Nat, at_ := fun st p => { st.head [3, 5, 6, 7, 9, 11, 12, 13, 14] [(15, R.int .i64 ((l.length : Int) - 1 - p))] [(76, ruleRow (l.reverse.take p))] with boxes := [R.bxOwn st 14 76, R.bx st 5, R.bx st 6, R.bx st 7, R.bx st 9] }, inv := fun _ p => p ≤ l.length, mu := fun _ p => l.length - p })]
def consMore : List Con := [cHead11, cFewA11, cWrit, cTexts, cValidP, cAmong]
theorem findI_mem (s : List UInt8) : ∀ (l : List (List UInt8)) (i : Int), 0 ≤ i → (findI s l i < 0 ↔ l.contains s = false)
  | [], i, h => by simp [findI]
  | x :: r, i, h => by
    unfold findI
    rw [List.contains_cons]
    by_cases e : x = s
    · subst e
      rw [if_pos (by simp)]
      simp; omega
    · rw [if_neg (by rw [beq_iff_eq]; exact e), findI_mem s r (i + 1) (by omega), show (s == x) = false from beq_eq_false_iff_ne.2 (Ne.symm e), Bool.false_or]
theorem findI_at (s : List UInt8) : ∀ (l : List (List UInt8)) (i : Int) (k : Nat) (x : List UInt8), l[k]? = some x → x = s → (l.take k).contains s = false → findI s l i = i + k
  | [], i, k, x, h, _, _ => by cases h
  | y :: r, i, 0, x, h, hx, _ => by
    injection h with h; subst h; subst hx
    unfold findI; rw [if_pos (by simp)]; simp
  | y :: r, i, k + 1, x, h, hx, hc => by
    rw [List.take_succ_cons, List.contains_cons, Bool.or_eq_false_iff] at hc
    have hne : (y == s) = false := by rw [beq_eq_false_iff_ne]; exact fun e => (beq_eq_false_iff_ne.1 hc.1) e.symm
    unfold findI
    rw [hne, if_neg Bool.noConfusion, findI_at s r (i + 1) k x h hx hc.2]
    omega
theorem findI_none (s : List UInt8) (l : List (List UInt8)) (h : l.contains s = false) : findI s l 0 = -1 := by
  have : ∀ (l : List (List UInt8)) (i : Int), l.contains s = false → findI s l i = -1 := by
    intro l
    induction l with
    | nil => intro i _; rfl
    | cons y r ih =>
      intro i h
      rw [List.contains_cons, Bool.or_eq_false_iff] at h
      have hne : (y == s) = false := by rw [beq_eq_false_iff_ne]; exact fun e => (beq_eq_false_iff_ne.1 h.1) e.symm
      unfold findI
      rw [hne, if_neg Bool.noConfusion]
      exact ih _ h.2
  exact this l 0 h
theorem contains_more {l : List (List UInt8)} {k : Nat} {x s : List UInt8} (hx : l[k]? = some x) (h : (l.take k).contains s = false) (hne : (x == s) = false) : (l.take (k + 1)).contains s = false := by
  rw [List.take_add_one, hx]
  have : (s == x) = false := by rw [beq_eq_false_iff_ne]; exact fun e => (beq_eq_false_iff_ne.1 hne) e.symm
  cases hh : (List.take k l ++ (some x).toList).contains s
  · rfl
  · rw [List.contains_iff_mem] at hh
    rcases List.mem_append.1 hh with hm | hm
    · rw [List.contains_iff_mem.2 hm] at h; cases h
    · have hm : s = x := by simpa using hm
      exact absurd hm (beq_eq_false_iff_ne.1 this)
end Go.Proofs.YtldnfdghkdibmaaGreatDoor

/-
  Layer 11: find, among; RulesMore.
-/
set_option linter.unusedVariables false
namespace Go.Proofs.YtldnfdghkdibmaaGreatDoor
open Go.RowKit
open R
set_option maxRecDepth 100000 in
theorem find_vc (l : List (List UInt8)) (s : List UInt8) (h : cFind.pre (l, s)) :
    /-VC fun (l : List (List UInt8)) (s : List UInt8) => vcOf Tryz.prog [] (anFind l s) cFind Tryz.f22 (l, s) -/
    (∃ (p' : Nat), (p' ≤ l.length ∧ (List.take p' l).contains s = false) ∧ ((0 : Int) = (↑p' : Int) ∧ l = l ∧ s = s ∧ True) ∧ True ∧ True ∧ True ∧ True ∧ True ∧ True ∧ True) ∧ ∀ (p : Nat), p ≤
    l.length ∧ (List.take p l).contains s = false → bif decide ((↑p : Int) < (↑l.length : Int)) then ((0 : Int) ≤ (↑p : Int) ∧ (↑p : Int) < (↑l.length : Int)) ∧ bif l.getD (↑p : Int).toNat [] ==
    s then (↑p : Int) = findI s l (0 : Int) else ((-9223372036854775808 : Int) ≤ (↑p : Int) + (1 : Int) ∧ (↑p : Int) + (1 : Int) ≤ (9223372036854775807 : Int)) ∧ ∃ (p' : Nat), (p' ≤ l.length ∧
    (List.take p' l).contains s = false) ∧ l.length - p' < l.length - p ∧ ((↑p : Int) + (1 : Int) = (↑p' : Int) ∧ l = l ∧ s = s ∧ True) ∧ True ∧ True ∧ True ∧ True ∧ True ∧ True ∧ True else (-1
    : Int) = findI s l (0 : Int)
    /-CV-/ := by
  simp only [true_and, and_true]
  have hl : l.length ≤ 1000000000 := h
  refine ⟨⟨0, ⟨Nat.zero_le _, rfl⟩, rfl⟩, fun p hp => bifP (fun hb => ?_) fun hb => ?_⟩
  · have hlt : p < l.length := by have := of_decide_eq_true hb; omega
    have hx := getD_some l [] p hlt
    have q : ((p : Int)).toNat = p := rfl
    rw [q]
    refine ⟨⟨by omega, by omega⟩, bifP (fun he => ?_) fun he => ⟨⟨by omega, by omega⟩, p + 1, ⟨by omega, contains_more hx hp.2 he⟩, by omega, by omega⟩⟩
    have := findI_at s l 0 p _ hx (beq_iff_eq.1 he) hp.2
    show (p : Int) = findI s l 0
    omega
  · have hle : l.length ≤ p := by have := of_decide_eq_false hb; omega
    have hc := hp.2
    rw [List.take_of_length_le hle] at hc
    exact (findI_none s l hc).symm
set_option maxRecDepth 100000 in
theorem find_holds : cFind.Holds Tryz.prog := by
  refine holdsF (cons := []) Tryz.func22 (by kernel_rfl) (by kernel_rfl) mixed (by kernel_rfl) (fun c h => by cases h) (fun p => anFind p.1 p.2) fun p hp => ?_
  obtain ⟨l, s⟩ := p
  refine cast ?_ (find_vc l s hp)
  kernel_rfl
set_option maxRecDepth 100000 in
theorem among_vc (a b : List (List UInt8)) (h : cAmong.pre (a, b)) :
    /-VC fun (a b : List (List UInt8)) => vcOf Tryz.prog [cFind] (anAmong a b) cAmong Tryz.f16 (a, b) -/
    (∃ (p' : Nat), (p' ≤ a.length ∧ amongB (List.take p' a) b = true) ∧ ((0 : Int) = (↑p' : Int) ∧ a = a ∧ b = b ∧ True) ∧ True ∧ True ∧ True ∧ True ∧ True ∧ True ∧ True) ∧ ∀ (p : Nat), p ≤
    a.length ∧ amongB (List.take p a) b = true → bif decide ((↑p : Int) < (↑a.length : Int)) then ((0 : Int) ≤ (↑p : Int) ∧ (↑p : Int) < (↑a.length : Int)) ∧ b.length ≤ (1000000000 : Nat) ∧ bif
    decide (findI (a.getD (↑p : Int).toNat []) b (0 : Int) < (0 : Int)) then false = amongB a b else ((-9223372036854775808 : Int) ≤ (↑p : Int) + (1 : Int) ∧ (↑p : Int) + (1 : Int) ≤
    (9223372036854775807 : Int)) ∧ ∃ (p' : Nat), (p' ≤ a.length ∧ amongB (List.take p' a) b = true) ∧ a.length - p' < a.length - p ∧ ((↑p : Int) + (1 : Int) = (↑p' : Int) ∧ a = a ∧ b = b ∧ True)
    ∧ True ∧ True ∧ True ∧ True ∧ True ∧ True ∧ True else true = amongB a b
    /-CV-/ := by
  simp only [true_and, and_true]
  obtain ⟨ha, hb⟩ := h
  have ha : a.length ≤ 1000000000 := ha
  have hb : b.length ≤ 1000000000 := hb
  refine ⟨⟨0, ⟨Nat.zero_le _, rfl⟩, rfl⟩, fun p hp => bifP (fun hc => ?_) fun hc => ?_⟩
  · have hlt : p < a.length := by have := of_decide_eq_true hc; omega
    have hx := getD_some a [] p hlt
    have q : ((p : Int)).toNat = p := rfl
    rw [q]
    have hm := List.mem_of_getElem? hx
    generalize a.getD p [] = x at *
    refine ⟨⟨by omega, by omega⟩, hb, bifP (fun he => ?_) fun he => ⟨⟨by omega, by omega⟩, p + 1, ⟨by omega, all_more hx hp.2 ?_⟩, by omega, by omega⟩⟩
    · exact (all_no hm ((findI_mem x b 0 (by omega)).1 (of_decide_eq_true he))).symm
    · cases hh : b.contains x
      · exact absurd ((findI_mem x b 0 (by omega)).2 hh) (of_decide_eq_false he)
      · rfl
  · have hle : a.length ≤ p := by have := of_decide_eq_false hc; omega
    have hq := hp.2
    rw [List.take_of_length_le hle] at hq
    exact hq.symm
set_option maxRecDepth 100000 in
theorem among_holds : cAmong.Holds Tryz.prog := by
  refine holdsF (cons := [cFind]) Tryz.func16 (by kernel_rfl) (by kernel_rfl) mixed (by kernel_rfl) (fun c h => by obtain rfl := List.mem_singleton.1 h; exact find_holds) (fun p => anAmong p.1 p.2) fun p hp => ?_
  obtain ⟨a, b⟩ := p
  refine cast ?_ (among_vc a b hp)
  kernel_rfl
end Go.Proofs.YtldnfdghkdibmaaGreatDoor

/-
  Layer 11: goes: contract, loop.
-/
set_option linter.unusedVariables false
namespace Go.Proofs.YtldnfdghkdibmaaGreatDoor
open Go.RowKit
open R
def goesF (L : List (List UInt8)) (x : Rul.Rule) (word : List Int) : Int × Bool :=
  if decide ((Al.readL L x.1).1.length ≤ word.length) && (Al.readL L x.1).1 == word.take (Al.readL L x.1).1.length then
    if x.2.2.2 || x.2.2.1 == [] then (((Al.readL L x.1).1.length : Int), !x.2.2.2 || (Al.readL L x.1).1.length == word.length)
    else if decide ((Al.readL L x.1).1.length < word.length) && (Al.readL L x.2.2.1).1.contains (word.getD (Al.readL L x.1).1.length 0) then (((Al.readL L x.1).1.length : Int), true) else (0, false)
  else (0, false)
def okGo (p : Rul.Rule × AlP × List Int) : Prop := FewP p.2.1 ∧ p.1.1.length ≤ 1000000 ∧ p.1.2.2.1.length ≤ 1000000 ∧ p.2.2.length ≤ 1000000 ∧ Al.validB (alOf p.2.1) = true ∧ (Al.readL p.2.1.2.1 p.1.1).2.1 = 0 ∧ (p.1.2.2.1 = [] ∨ (Al.readL p.2.1.2.1 p.1.2.2.1).2.1 = 0)
def cGoes : Con := .of 20 [ckRule, ckAl, ckInts] [ckInt, .one .bool] okGo (fun p => goesF p.2.1.2.1 p.1 p.2.2)
def anGoes (L : List (List UInt8)) (x : Rul.Rule) (word : List Int) : List (Nat × Ann) :=
  [(0, { ι := Nat, at_ := fun st k => { st.head [2, 8, 11, 12] [(14, R.int .i64 k)] [] with boxes := [] }, inv := fun _ k => k ≤ (Al.readL L x.2.2.1).1.length ∧ ((Al.readL L x.1).1.length < word.length → ((Al.readL L x.2.2.1).1.take k).contains (word.getD (Al.readL L x.1).1.length 0) = false), mu := fun _ k => (Al.readL L x.2.2.1).1.length - k })]
theorem goes_stands {L : List (List UInt8)} {x : Rul.Rule} {word : List Int} (h1 : x.1 ≠ []) (he : x.2.2.2 = true → x.2.2.1 = []) (hn : x.2.2.1 ≠ [] → (Al.readL L x.2.2.1).2.1 = 0) :
    (goesF L x word).2 = Rul.standsB (Rul.openR L x) word ∧ ((goesF L x word).2 = true → (goesF L x word).1 = ((Rul.openR L x).2.1.length : Int)) := by
  have ho : (Rul.openR L x).2.1 = (Al.readL L x.1).1 := by unfold Rul.openR Rul.readO; rw [if_neg h1]
  have hx : (Rul.openR L x).1 = x := rfl
  have hs : Rul.standsB (Rul.openR L x) word = (decide ((Al.readL L x.1).1.length ≤ word.length) && ((Al.readL L x.1).1 == word.take (Al.readL L x.1).1.length &&
    (if x.2.2.2 then (Al.readL L x.1).1.length == word.length else if (Rul.openR L x).2.2 = [] then true else decide ((Al.readL L x.1).1.length < word.length) && (Rul.openR L x).2.2.contains (word.getD (Al.readL L x.1).1.length 0)))) := by
    unfold Rul.standsB; rw [ho, hx]
  rw [hs, ho]
  unfold goesF
  cases hc : (decide ((Al.readL L x.1).1.length ≤ word.length) && (Al.readL L x.1).1 == word.take (Al.readL L x.1).1.length)
  · rw [if_neg Bool.noConfusion, ← Bool.and_assoc, hc]
    exact ⟨rfl, fun h => by cases h⟩
  · rw [if_pos rfl, ← Bool.and_assoc, hc, Bool.true_and]
    cases hE : x.2.2.2
    · rw [Bool.false_or]
      cases hN : (x.2.2.1 == [])
      · have hne : x.2.2.1 ≠ [] := beq_eq_false_iff_ne.1 hN
        have hnx : (Rul.openR L x).2.2 = (Al.readL L x.2.2.1).1 := by unfold Rul.openR Rul.readO; dsimp only; rw [if_neg hne]
        have hlen := Al.readL_least (hn hne)
        have hl0 : ¬ (Al.readL L x.2.2.1).1 = [] := fun e => by rw [e] at hlen; simp at hlen
        simp only [Bool.false_eq_true, if_false]
        rw [hnx, if_neg hl0]
        by_cases hd : (decide ((Al.readL L x.1).1.length < word.length) && (Al.readL L x.2.2.1).1.contains (word.getD (Al.readL L x.1).1.length 0)) = true
        · rw [if_pos hd, hd]; exact ⟨rfl, fun _ => rfl⟩
        · rw [if_neg hd, (Bool.not_eq_true _).mp hd]; exact ⟨rfl, fun h => by cases h⟩
      · have hnx : (Rul.openR L x).2.2 = [] := by unfold Rul.openR Rul.readO; dsimp only; rw [if_pos (beq_iff_eq.1 hN)]
        simp only [Bool.false_eq_true, if_false, if_true]
        rw [if_pos hnx]
        exact ⟨rfl, fun _ => by first | trivial | rfl⟩
    · rw [Bool.true_or, if_pos rfl, if_pos rfl]
      exact ⟨rfl, fun _ => rfl⟩
end Go.Proofs.YtldnfdghkdibmaaGreatDoor

/-
  Layer 11: goes.
-/
set_option linter.unusedVariables false
namespace Go.Proofs.YtldnfdghkdibmaaGreatDoor
open Go.RowKit
open R
set_option maxRecDepth 100000 in
theorem goes_vc (x : Rul.Rule) (f : AlP) (w : List Int) (h : okGo (x, f, w)) :
    /-VC fun (x : Rul.Rule) (f : AlP) (w : List Int) => vcOf Tryz.prog [cPRead, cIntsR] (anGoes f.2.1 x w) cGoes Tryz.f20 (x, f, w) -/
    (FewP (f.fst, f.snd.fst, f.snd.snd) ∧ x.fst.length ≤ (1000000 : Nat)) ∧ bif (Al.readB (alOf (f.fst, f.snd.fst, f.snd.snd)) x.fst).snd.fst != (0 : Int) then ((0 : Int), false) = goesF
    f.snd.fst x w else bif decide ((↑w.length : Int) < (↑(Al.readB (alOf (f.fst, f.snd.fst, f.snd.snd)) x.fst).fst.length : Int)) then ((0 : Int), false) = goesF f.snd.fst x w else ((0 : Int) ≤
    (0 : Int) ∧ (0 : Int) ≤ (↑(Al.readB (alOf (f.fst, f.snd.fst, f.snd.snd)) x.fst).fst.length : Int) ∧ (↑(Al.readB (alOf (f.fst, f.snd.fst, f.snd.snd)) x.fst).fst.length : Int) ≤ (↑w.length :
    Int)) ∧ ((Al.readB (alOf (f.fst, f.snd.fst, f.snd.snd)) x.fst).fst.length ≤ (1000000000000000 : Nat) ∧ (List.drop (Int.toNat (0 : Int)) (List.take (↑(Al.readB (alOf (f.fst, f.snd.fst,
    f.snd.snd)) x.fst).fst.length : Int).toNat w)).length ≤ (1000000000000000 : Nat)) ∧ bif !(Al.readB (alOf (f.fst, f.snd.fst, f.snd.snd)) x.fst).fst == List.drop (Int.toNat (0 : Int))
    (List.take (↑(Al.readB (alOf (f.fst, f.snd.fst, f.snd.snd)) x.fst).fst.length : Int).toNat w) then ((0 : Int), false) = goesF f.snd.fst x w else bif x.snd.snd.snd then bif !x.snd.snd.snd
    then ((↑(Al.readB (alOf (f.fst, f.snd.fst, f.snd.snd)) x.fst).fst.length : Int), true) = goesF f.snd.fst x w else ((↑(Al.readB (alOf (f.fst, f.snd.fst, f.snd.snd)) x.fst).fst.length : Int),
    (↑(Al.readB (alOf (f.fst, f.snd.fst, f.snd.snd)) x.fst).fst.length : Int) == (↑w.length : Int)) = goesF f.snd.fst x w else bif x.snd.snd.fst == [] then bif !x.snd.snd.snd then ((↑(Al.readB
    (alOf (f.fst, f.snd.fst, f.snd.snd)) x.fst).fst.length : Int), true) = goesF f.snd.fst x w else ((↑(Al.readB (alOf (f.fst, f.snd.fst, f.snd.snd)) x.fst).fst.length : Int), (↑(Al.readB (alOf
    (f.fst, f.snd.fst, f.snd.snd)) x.fst).fst.length : Int) == (↑w.length : Int)) = goesF f.snd.fst x w else (FewP (f.fst, f.snd.fst, f.snd.snd) ∧ x.snd.snd.fst.length ≤ (1000000 : Nat)) ∧ (∃
    (p' : Nat), (p' ≤ (Al.readL f.snd.fst x.snd.snd.fst).fst.length ∧ ((Al.readL f.snd.fst x.fst).fst.length < w.length → (List.take p' (Al.readL f.snd.fst x.snd.snd.fst).fst).contains (w.getD
    (Al.readL f.snd.fst x.fst).fst.length (0 : Int)) = false)) ∧ ((0 : Int) = (↑p' : Int) ∧ w = w ∧ (Al.readB (alOf (f.fst, f.snd.fst, f.snd.snd)) x.fst).fst = (Al.readB (alOf (f.fst, f.snd.fst,
    f.snd.snd)) x.fst).fst ∧ (Al.readB (alOf (f.fst, f.snd.fst, f.snd.snd)) x.snd.snd.fst).fst = (Al.readB (alOf (f.fst, f.snd.fst, f.snd.snd)) x.snd.snd.fst).fst ∧ (Al.readB (alOf (f.fst,
    f.snd.fst, f.snd.snd)) x.snd.snd.fst).snd.fst = (Al.readB (alOf (f.fst, f.snd.fst, f.snd.snd)) x.snd.snd.fst).snd.fst ∧ True) ∧ True ∧ True ∧ True ∧ True ∧ True ∧ True ∧ True) ∧ ∀ (p : Nat),
    p ≤ (Al.readL f.snd.fst x.snd.snd.fst).fst.length ∧ ((Al.readL f.snd.fst x.fst).fst.length < w.length → (List.take p (Al.readL f.snd.fst x.snd.snd.fst).fst).contains (w.getD (Al.readL
    f.snd.fst x.fst).fst.length (0 : Int)) = false) → bif decide ((↑p : Int) < (↑(Al.readB (alOf (f.fst, f.snd.fst, f.snd.snd)) x.snd.snd.fst).fst.length : Int)) then bif (Al.readB (alOf (f.fst,
    f.snd.fst, f.snd.snd)) x.snd.snd.fst).snd.fst == (0 : Int) then bif decide ((↑(Al.readB (alOf (f.fst, f.snd.fst, f.snd.snd)) x.fst).fst.length : Int) < (↑w.length : Int)) then ((0 : Int) ≤
    (↑p : Int) ∧ (↑p : Int) < (↑(Al.readB (alOf (f.fst, f.snd.fst, f.snd.snd)) x.snd.snd.fst).fst.length : Int)) ∧ ((0 : Int) ≤ (↑(Al.readB (alOf (f.fst, f.snd.fst, f.snd.snd)) x.fst).fst.length
    : Int) ∧ (↑(Al.readB (alOf (f.fst, f.snd.fst, f.snd.snd)) x.fst).fst.length : Int) < (↑w.length : Int)) ∧ bif (Al.readB (alOf (f.fst, f.snd.fst, f.snd.snd)) x.snd.snd.fst).fst.getD (↑p :
    Int).toNat (0 : Int) == w.getD (↑(Al.readB (alOf (f.fst, f.snd.fst, f.snd.snd)) x.fst).fst.length : Int).toNat (0 : Int) then ((↑(Al.readB (alOf (f.fst, f.snd.fst, f.snd.snd))
    x.fst).fst.length : Int), true) = goesF f.snd.fst x w else ((-9223372036854775808 : Int) ≤ (↑p : Int) + (1 : Int) ∧ (↑p : Int) + (1 : Int) ≤ (9223372036854775807 : Int)) ∧ ∃ (p' : Nat), (p'
    ≤ (Al.readL f.snd.fst x.snd.snd.fst).fst.length ∧ ((Al.readL f.snd.fst x.fst).fst.length < w.length → (List.take p' (Al.readL f.snd.fst x.snd.snd.fst).fst).contains (w.getD (Al.readL
    f.snd.fst x.fst).fst.length (0 : Int)) = false)) ∧ (Al.readL f.snd.fst x.snd.snd.fst).fst.length - p' < (Al.readL f.snd.fst x.snd.snd.fst).fst.length - p ∧ ((↑p : Int) + (1 : Int) = (↑p' :
    Int) ∧ w = w ∧ (Al.readB (alOf (f.fst, f.snd.fst, f.snd.snd)) x.fst).fst = (Al.readB (alOf (f.fst, f.snd.fst, f.snd.snd)) x.fst).fst ∧ (Al.readB (alOf (f.fst, f.snd.fst, f.snd.snd))
    x.snd.snd.fst).fst = (Al.readB (alOf (f.fst, f.snd.fst, f.snd.snd)) x.snd.snd.fst).fst ∧ (Al.readB (alOf (f.fst, f.snd.fst, f.snd.snd)) x.snd.snd.fst).snd.fst = (Al.readB (alOf (f.fst,
    f.snd.fst, f.snd.snd)) x.snd.snd.fst).snd.fst ∧ True) ∧ True ∧ True ∧ True ∧ True ∧ True ∧ True ∧ True else ((0 : Int), false) = goesF f.snd.fst x w else ((0 : Int), false) = goesF f.snd.fst
    x w else ((0 : Int), false) = goesF f.snd.fst x w
    /-CV-/ := by
  simp only [true_and, and_true]
  obtain ⟨hF, h1, h2, h3, hva, e1, e2⟩ := h
  have h1 : x.1.length ≤ 1000000 := h1
  have h2 : x.2.2.1.length ≤ 1000000 := h2
  have h3 : w.length ≤ 1000000 := h3
  have hre : ∀ y, Al.readB (alOf (f.1, f.2.1, f.2.2)) y = Al.readL f.2.1 y := fun y => by
    have hva : Al.validB (alOf (f.1, f.2.1, f.2.2)) = true := hva
    unfold Al.readB; rw [if_pos hva]; rfl
  have e1 : (Al.readL f.2.1 x.1).2.1 = 0 := e1
  have hm1 := Al.readL_most f.2.1 x.1
  have hm2 := Al.readL_most f.2.1 x.2.2.1
  have e2 : x.2.2.1 = [] ∨ (Al.readL f.2.1 x.2.2.1).2.1 = 0 := e2
  have hv : goesF f.2.1 x w = if decide ((Al.readL f.2.1 x.1).1.length ≤ w.length) && (Al.readL f.2.1 x.1).1 == w.take (Al.readL f.2.1 x.1).1.length then
      (if x.2.2.2 || x.2.2.1 == [] then (((Al.readL f.2.1 x.1).1.length : Int), !x.2.2.2 || (Al.readL f.2.1 x.1).1.length == w.length)
      else if decide ((Al.readL f.2.1 x.1).1.length < w.length) && (Al.readL f.2.1 x.2.2.1).1.contains (w.getD (Al.readL f.2.1 x.1).1.length 0) then (((Al.readL f.2.1 x.1).1.length : Int), true) else (0, false))
    else (0, false) := rfl
  rw [hre, hre, e1]
  generalize goesF f.2.1 x w = G at *
  have q0 : ∀ n : Nat, ((n : Int)).toNat = n := fun n => rfl
  have qz : Int.toNat 0 = 0 := rfl
  simp only [q0, qz, List.drop_zero]
  have e2' : x.2.2.1 ≠ [] → (Al.readL f.2.1 x.2.2.1).2.1 = 0 := fun h => e2.resolve_left h
  clear e2
  generalize (Al.readL f.2.1 x.1).1 = A at *
  generalize hR2 : Al.readL f.2.1 x.2.2.1 = R2 at *
  obtain ⟨B, eb, ob⟩ := R2
  dsimp only at *
  refine ⟨⟨hF, h1⟩, ?_⟩
  show bif ((0 : Int) != 0) then _ else _
  refine bifP (fun h => by cases h) fun _ => bifP (fun c1 => ?_) fun c1 => ⟨⟨by omega, by omega, by have := of_decide_eq_false c1; omega⟩, ⟨by omega, by rw [List.length_take]; omega⟩, bifP (fun c2 => ?_) fun c2 => ?_⟩
  · rw [hv, decide_eq_false (p := A.length ≤ w.length) (by have := of_decide_eq_true c1; omega)]; rfl
  · have c2 : (A == w.take A.length) = false := by
      have c2 : (!(A == w.take A.length)) = true := c2
      simpa using c2
    rw [hv, c2, Bool.and_false]; rfl
  have hle : A.length ≤ w.length := by have := of_decide_eq_false c1; omega
  have c2 : (A == w.take A.length) = true := by
    have c2 : (!(A == w.take A.length)) = false := c2
    simpa using c2
  rw [decide_eq_true hle, c2, Bool.true_and, if_pos rfl] at hv
  have hbeq : ((A.length : Int) == (w.length : Int)) = (A.length == w.length) := by rw [Bool.eq_iff_iff, beq_iff_eq, beq_iff_eq]; omega
  rw [hbeq]
  cases hE : x.2.2.2
  · rw [hE, Bool.false_or] at hv
    show bif x.2.2.1 == [] then _ else _
    refine bifP (fun c3 => ?_) fun c3 => ⟨⟨hF, h2⟩, ⟨0, ⟨Nat.zero_le _, fun _ => rfl⟩, rfl⟩, fun p hp => ?_⟩
    · rw [c3, if_pos rfl] at hv
      rw [hv]; rfl
    · have hne : x.2.2.1 ≠ [] := beq_eq_false_iff_ne.1 c3
      have he0 : eb = 0 := e2' hne
      rw [c3, if_neg Bool.noConfusion] at hv
      have no : (A.length < w.length → B.contains (w.getD A.length 0) = false) → (0, false) = G := fun hh => by
        rw [hv, if_neg]
        rw [Bool.and_eq_true, decide_eq_true_eq]
        rintro ⟨q1, q2⟩
        rw [hh q1] at q2; cases q2
      have all_ : B.length ≤ p → (0, false) = G := fun hq => no fun hlt => by
        have := hp.2 hlt
        rwa [List.take_of_length_le hq] at this
      refine bifP (fun c4 => ?_) fun c4 => ?_
      · have hpb : p < B.length := by have := of_decide_eq_true c4; omega
        rw [he0]
        show bif ((0 : Int) == 0) then _ else _
        refine bifP (fun _ => bifP (fun c5 => ?_) fun c5 => ?_) fun h => by cases h
        · have hlt : A.length < w.length := by have := of_decide_eq_true c5; omega
          have hx := getD_some B 0 p hpb
          refine ⟨⟨by omega, by omega⟩, ⟨by omega, by omega⟩, bifP (fun c6 => ?_) fun c6 => ⟨⟨by omega, by omega⟩, p + 1, ⟨by omega, fun _ => ?_⟩, by omega, by omega⟩⟩
          · rw [hv, if_pos]
            rw [decide_eq_true hlt, Bool.true_and, List.contains_iff_mem]
            rw [← beq_iff_eq.1 c6]
            exact List.mem_of_getElem? hx
          · have hold := hp.2 hlt
            cases hh : (B.take (p + 1)).contains (w.getD A.length 0)
            · rfl
            · rw [List.contains_iff_mem, List.take_add_one, hx] at hh
              rcases List.mem_append.1 hh with hm | hm
              · rw [List.contains_iff_mem.2 hm] at hold; cases hold
              · have hm : w.getD A.length 0 = B.getD p 0 := by simpa using hm
                exact absurd hm.symm (beq_eq_false_iff_ne.1 c6)
        · exact no fun hlt => absurd hlt (by have := of_decide_eq_false c5; omega)
      · exact all_ (by have := of_decide_eq_false c4; omega)
  · rw [hE, Bool.true_or, if_pos rfl] at hv
    rw [hv]; rfl
set_option maxRecDepth 100000 in
theorem goes_holds : cGoes.Holds Tryz.prog := by
  refine holdsF (cons := [cPRead, cIntsR]) Tryz.func20 (by kernel_rfl) (by kernel_rfl) mixed (by kernel_rfl) (fun c h => by
    rcases List.mem_cons.1 h with rfl | h
    · exact pread_holds
    · obtain rfl := List.mem_singleton.1 h; exact intsr_holds) (fun p => anGoes p.2.1.2.1 p.1 p.2.2) fun p hp => ?_
  obtain ⟨x, f, w⟩ := p
  refine cast ?_ (goes_vc x f w hp)
  kernel_rfl
end Go.Proofs.YtldnfdghkdibmaaGreatDoor

/-
  Layer 11: RulesFirst: contract, loops.
-/
set_option linter.unusedVariables false
namespace Go.Proofs.YtldnfdghkdibmaaGreatDoor
open Go.RowKit
open R
/-- the texts in slot 19 -/
def R.restOf (st : St) : List (List UInt8) :=
  match st.get 19 with
  | .c (.one (.own r)) => match st.row r with
    | some ⟨_, .one .str, xs⟩ => xs
    | _ => []
  | .c (.one (.val (.sl (.one .str)) xs)) => xs
  | _ => []
def R.keepRow (st : St) (r : Nat) : List (Nat × Row) :=
  match st.row r with
  | some x => [(r, x)]
  | none => []
def seenB (l : List Bool) : Row := ⟨4, .one .bool, l⟩
def GoodF (L : List (List UInt8)) (rs : List Rul.Opened) (w : List Int) (x : Rul.Rule) (s : List UInt8) : Prop :=
  Rul.standsB (Rul.openR L x) w = true ∧ ∃ s', Rul.Reach rs (w.drop (Rul.openR L x).2.1.length) (w.drop (Rul.openR L x).2.1.length).length s' ∧ s = x.2.1 ++ s'
def ruleAt (l : List Rul.Rule) (i : Nat) : Rul.Rule := l.getD i ([], [], [], false)
def inFirst (L : List (List UInt8)) (rs : List Rul.Opened) (w : List Int) (l : List Rul.Rule) (all : List (List UInt8)) (k : Nat) (seen : List Bool) : Prop :=
  seen.length = all.length ∧ ∀ j, j < all.length → (∃ i, i < k ∧ GoodF L rs w (ruleAt l i) (all.getD j [])) → seen.getD j false = true
def anFirst (L : List (List UInt8)) (rs : List Rul.Opened) (w : List Int) (l : List Rul.Rule) (all : List (List UInt8)) : List (Nat × Ann) :=
  [(0, { ι := Nat × List Bool, at_ := fun st p => { st.head [3, 4, 5, 6, 9, 10, 12, 15] [(16, R.int .i64 p.1)] [(93, seenB p.2)] with boxes := [R.bx st 4, R.bx st 5, R.bx st 6] }, inv := fun _ p => p.1 ≤ l.length ∧ inFirst L rs w l all p.1 p.2, mu := fun _ p => l.length - p.1 }),
   (2, { ι := Nat × List Bool, at_ := fun st p => { st.head [3, 4, 5, 6, 9, 10, 12, 15, 16, 17, 19] [(24, R.int .i64 p.1)] ((93, seenB p.2) :: R.keepRow st 114) with boxes := [R.bx st 4, R.bx st 5, R.bx st 6] }, inv := fun st p => p.1 ≤ (R.restOf st).length ∧ inFirst L rs w l all (st.intOf 16).toNat p.2 ∧ ∀ j, j < all.length → (∃ q, q < p.1 ∧ all.getD j [] = (ruleAt l (st.intOf 16).toNat).2.1 ++ (R.restOf st).getD q []) → p.2.getD j false = true, mu := fun st p => (R.restOf st).length - p.1 }),
   (4, { ι := Nat, at_ := fun st i => { st.head [9, 10, 15] [(26, R.int .i64 i)] (R.keepRow st 93) with boxes := [] }, inv := fun _ i => i ≤ all.length, mu := fun _ i => all.length - i })]
def cFirst : Con := .of 6 [ckRules, ckAl, ckAl, ckStr] [.one .bool] (fun p => BigR p.1 ∧ BigA p.2.1 ∧ BigA p.2.2.1 ∧ CK.Big ckStr p.2.2.2) (fun _ => true)
def consFirst : List Con := [cHead11, cFewA11, cWrit, cPRead, cValidP, cGoes, cPJoin, cFind]
end Go.Proofs.YtldnfdghkdibmaaGreatDoor

/-
  Layer 11: RulesFirst in plain Lean.
-/
set_option linter.unusedVariables false
namespace Go.Proofs.YtldnfdghkdibmaaGreatDoor
open Go.RowKit
open R
theorem valid_rule {r : Rul.Rules} {f t : Al.Alph} (h : Rul.validB r f t = true) {x : Rul.Rule} (hx : x ∈ r.2.2) :
    x.1 ≠ [] ∧ (Al.readL f.letters x.1).2.1 = 0 ∧ (x.2.2.1 = [] ∨ (Al.readL f.letters x.2.2.1).2.1 = 0) ∧ (x.2.2.2 = true → x.2.2.1 = []) := by
  unfold Rul.validB at h
  simp only [Bool.and_eq_true] at h
  obtain ⟨h1, _, _, _, _, h2⟩ := h
  unfold Rul.formedB at h1
  simp only [Bool.and_eq_true] at h1
  obtain ⟨_, _, _, _, h3, _⟩ := h1
  have a := List.all_eq_true.1 h2 x hx
  have b := Rul.okRule_out (List.all_eq_true.1 h3 x hx)
  have hne : x.1 ≠ [] := fun e => by
    have := b.1
    unfold Rul.plainB at this
    rw [e] at this
    simp at this
  unfold Rul.okIn at a
  simp only [Bool.and_eq_true] at a
  refine ⟨hne, ?_, ?_, b.2.2.2⟩
  · have a := a.1
    unfold Rul.readO at a
    rw [if_neg hne] at a
    simp only [Bool.and_eq_true, beq_iff_eq] at a
    exact a.1
  · by_cases e : x.2.2.1 = []
    · exact .inl e
    · have a := a.2.1
      unfold Rul.readO at a
      rw [if_neg e] at a
      simp only [Bool.and_eq_true, beq_iff_eq] at a
      exact .inr a.1
theorem rest_read {a : Al.Alph} {s : List UInt8} (he : (Al.readB a s).2.1 = 0) {n : Nat} (hn : n < (Al.readB a s).1.length) :
    Al.joinB a ((Al.readB a s).1.drop n) = (Al.joinL a.letters ((Al.readB a s).1.drop n), 0) ∧ (Al.joinL a.letters ((Al.readB a s).1.drop n)).length ≤ s.length ∧ Al.readB a (Al.joinL a.letters ((Al.readB a s).1.drop n)) = ((Al.readB a s).1.drop n, 0, 0) := by
  obtain ⟨hv, _, _, hs, hr, hne, h24⟩ := Al.read_ok he
  generalize (Al.readB a s).1 = w at *
  have hr' : Al.inRange a.letters.length (w.drop n) = true := by
    unfold Al.inRange at hr ⊢
    rw [List.all_eq_true] at hr ⊢
    exact fun x hx => hr x (List.mem_of_mem_drop hx)
  have hl : (w.drop n).length = w.length - n := List.length_drop
  refine ⟨?_, ?_, ?_⟩
  · unfold Al.joinB
    rw [if_pos]
    rw [hv, hr']
    simp only [Bool.true_and, Bool.and_true, Bool.and_eq_true, decide_eq_true_eq]
    omega
  · have : s = Al.joinL a.letters (w.take n) ++ Al.joinL a.letters (w.drop n) := by
      rw [hs]
      unfold Al.joinL
      rw [← List.flatMap_append, List.take_append_drop]
    have := congrArg List.length this
    rw [List.length_append] at this
    omega
  · exact Al.read_join hv hr' (fun e => by rw [e] at hl; simp at hl; omega) (by omega)
theorem findI_ok (s : List UInt8) : ∀ (l : List (List UInt8)) (i : Int), s ∈ l → ∃ k : Nat, findI s l i = i + k ∧ l[k]? = some s
  | [], i, h => by cases h
  | x :: r, i, h => by
    unfold findI
    by_cases e : x = s
    · subst e
      rw [if_pos (by simp)]
      exact ⟨0, by simp, rfl⟩
    · rw [if_neg (by rw [beq_iff_eq]; exact e)]
      rcases List.mem_cons.1 h with h | h
      · exact absurd h.symm e
      · obtain ⟨k, h1, h2⟩ := findI_ok s r (i + 1) h
        exact ⟨k + 1, by rw [h1]; omega, h2⟩
theorem write_few {rs : List Rul.Opened} {w : List Int} (h : (Rul.writeL rs w).2 = 0) : (Rul.writeL rs w).1.length ≤ 200 := by
  unfold Rul.writeL at h ⊢
  split
  · exact Nat.zero_le _
  · rename_i hn
    have hn : (List.range (w.length + 1)).any (Rul.tooMany rs w) = false := by simpa using hn
    have := List.any_eq_false.1 hn w.length (List.mem_range.2 (Nat.lt_succ_self _))
    unfold Rul.tooMany at this
    simp only [decide_eq_true_eq] at this
    show (Rul.setOf (Rul.tabs rs w w.length w.length)).length ≤ 200
    omega
theorem first_len {rs : List Rul.Opened} (hp : Rul.Pos rs) (hm : ∀ x ∈ rs, x.1.2.1.length ≤ 9) {w : List Int} (hw : w.length ≤ 24) {s : List UInt8} (h : Rul.Reach rs w w.length s) : s.length ≤ 1000 := by
  have := reach_len hp hm h
  have : 9 * w.length ≤ 9 * 24 := Nat.mul_le_mul_left 9 hw
  omega
section
variable {L : List (List UInt8)} {rs : List Rul.Opened} {w : List Int} {l : List Rul.Rule} {all : List (List UInt8)} {k : Nat} {seen : List Bool}
theorem first_start : inFirst L rs w l all 0 (List.replicate all.length false) := ⟨List.length_replicate, fun j hj h => by obtain ⟨i, h, _⟩ := h; omega⟩
theorem first_skip (h : inFirst L rs w l all k seen) (hs : Rul.standsB (Rul.openR L (ruleAt l k)) w = false) : inFirst L rs w l all (k + 1) seen := by
  refine ⟨h.1, fun j hj ⟨i, hi, hg⟩ => ?_⟩
  rcases Nat.lt_or_eq_of_le (Nat.le_of_lt_succ hi) with hi | rfl
  · exact h.2 j hj ⟨i, hi, hg⟩
  · rw [hg.1] at hs; cases hs
theorem first_more (h : inFirst L rs w l all k seen) {rest : List (List UInt8)} {n : Nat} (hn : n = (Rul.openR L (ruleAt l k)).2.1.length) (hr : ∀ s', Rul.Reach rs (w.drop n) (w.drop n).length s' → s' ∈ rest)
    (hd : ∀ j, j < all.length → (∃ q, q < rest.length ∧ all.getD j [] = (ruleAt l k).2.1 ++ rest.getD q []) → seen.getD j false = true) : inFirst L rs w l all (k + 1) seen := by
  subst hn
  refine ⟨h.1, fun j hj ⟨i, hi, hg⟩ => ?_⟩
  rcases Nat.lt_or_eq_of_le (Nat.le_of_lt_succ hi) with hi | rfl
  · exact h.2 j hj ⟨i, hi, hg⟩
  · obtain ⟨_, s', hs, e⟩ := hg
    obtain ⟨q, hq, e2⟩ := List.mem_iff_getElem.1 (hr s' hs)
    exact hd j hj ⟨q, hq, by rw [e, List.getD_eq_getElem?_getD, List.getElem?_eq_getElem hq]; simp [e2]⟩
theorem set_get (seen : List Bool) {j at_ : Nat} (hj : j < seen.length) (h : j = at_ ∨ seen.getD j false = true) : (seen.set at_ true).getD j false = true := by
  rw [List.getD_eq_getElem?_getD] at h ⊢
  rw [List.getElem?_set]
  split
  · rename_i e; subst e
    rw [if_pos hj]; rfl
  · rename_i e
    rcases h with h | h
    · exact absurd h.symm e
    · exact h
theorem first_set (h : inFirst L rs w l all k seen) (at_ : Nat) : inFirst L rs w l all k (seen.set at_ true) :=
  ⟨by rw [List.length_set]; exact h.1, fun j hj hg => set_get seen (by rw [h.1]; exact hj) (.inr (h.2 j hj hg))⟩
theorem up_inj {all : List (List UInt8)} (hu : Rul.Up all) {i j : Nat} {s : List UInt8} (hi : all[i]? = some s) (hj : all[j]? = some s) : i = j := by
  have key : ∀ {i j : Nat}, all[i]? = some s → all[j]? = some s → ¬ i < j := fun {i j} hi hj hlt => by
    obtain ⟨a1, a2⟩ := List.getElem?_eq_some_iff.1 hi
    obtain ⟨b1, b2⟩ := List.getElem?_eq_some_iff.1 hj
    have := List.pairwise_iff_getElem.1 hu i j a1 b1 hlt
    rw [a2, b2] at this
    exact Rul.below_irrefl s this
  have h1 := key hi hj
  have h2 := key hj hi
  omega
/-- the program's step in the inner loop -/
theorem first_step (hu : Rul.Up all) (h : inFirst L rs w l all k seen) {rest : List (List UInt8)} {q : Nat}
    (hd : ∀ j, j < all.length → (∃ q', q' < q ∧ all.getD j [] = (ruleAt l k).2.1 ++ rest.getD q' []) → seen.getD j false = true) {at_ : Nat} (ha : all[at_]? = some ((ruleAt l k).2.1 ++ rest.getD q [])) :
    ∀ j, j < all.length → (∃ q', q' < q + 1 ∧ all.getD j [] = (ruleAt l k).2.1 ++ rest.getD q' []) → (seen.set at_ true).getD j false = true := by
  rintro j hj ⟨q', hq, e⟩
  refine set_get seen (by rw [h.1]; exact hj) ?_
  rcases Nat.lt_or_eq_of_le (Nat.le_of_lt_succ hq) with hq | rfl
  · exact .inr (hd j hj ⟨q', hq, e⟩)
  · refine .inl (up_inj hu ?_ ha)
    rw [← e, getD_some all [] j hj]
/-- at the end every text is seen -/
theorem first_end (hp : Rul.Pos (l.map (Rul.openR L))) (hw : 0 < w.length) (hm : ∀ s, s ∈ all → Rul.Reach (l.map (Rul.openR L)) w w.length s) (h : inFirst L (l.map (Rul.openR L)) w l all l.length seen) {j : Nat} (hj : j < all.length) : seen.getD j false = true := by
  refine h.2 j hj ?_
  have hg := getD_some all [] j hj
  obtain ⟨y, hy, hs, s', hr, e⟩ := (Rul.full_iff hp hw).1 (hm _ (List.mem_of_getElem? hg))
  obtain ⟨x, hx, rfl⟩ := List.mem_map.1 hy
  obtain ⟨i, hi, e2⟩ := List.mem_iff_getElem.1 hx
  have hxi : ruleAt l i = x := by unfold ruleAt; rw [List.getD_eq_getElem?_getD, List.getElem?_eq_getElem hi]; exact e2
  refine ⟨i, hi, ?_⟩
  rw [hxi]
  exact ⟨hs, s', hr, e⟩
/-- what the first rule leads to is there -/
theorem first_mem (hp : Rul.Pos rs) (hw : 0 < w.length) {x : Rul.Rule} (hx : Rul.openR L x ∈ rs) (hs : Rul.standsB (Rul.openR L x) w = true) {s' : List UInt8} (hr : Rul.Reach rs (w.drop (Rul.openR L x).2.1.length) (w.drop (Rul.openR L x).2.1.length).length s') : Rul.Reach rs w w.length (x.2.1 ++ s') :=
  (Rul.full_iff hp hw).2 ⟨_, hx, hs, s', hr, rfl⟩
theorem up_less (hu : Rul.Up all) {i : Nat} (h0 : 0 < i) (h : i < all.length) : Op.bytesLess (all.getD (i - 1) []) (all.getD i []) = true := by
  have := List.pairwise_iff_getElem.1 hu (i - 1) i (by omega) h (by omega)
  rw [List.getD_eq_getElem?_getD, List.getD_eq_getElem?_getD, List.getElem?_eq_getElem h, List.getElem?_eq_getElem (show i - 1 < all.length by omega)]
  exact this
end
end Go.Proofs.YtldnfdghkdibmaaGreatDoor

/-
  Layer 11: RulesFirst.
-/
set_option linter.unusedVariables false
namespace Go.Proofs.YtldnfdghkdibmaaGreatDoor
/-SUB [[]] ==> ([[]] : List (List UInt8)) -/
open Go.RowKit
open R
set_option maxRecDepth 100000 in
theorem firstl_vc (r1 r2 : List UInt8) (l : List Rul.Rule) (f1 : List UInt8) (f2 : List (List UInt8)) (f3 : List Int) (t : AlP) (s : List UInt8) (h : cFirst.pre ((r1, r2, l), (f1, f2, f3), t, s)) :
    /-VC fun (r1 r2 : List UInt8) (l : List Rul.Rule) (f1 : List UInt8) (f2 : List (List UInt8)) (f3 : List Int) (t : AlP) (s : List UInt8) => vcOf Tryz.prog consFirst (anFirst f2 (rsOf (r1, r2, l) (f1, f2, f3)) (wOf (f1, f2, f3) s) l (Rul.writingsB (r1, r2, l) (alOf (f1, f2, f3)) (alOf t) s).1) cFirst Tryz.f6 ((r1, r2, l), (f1, f2, f3), t, s) -/
    True ∧ (BigR (r1, r2, l) ∧ BigA (f1, f2, f3) ∧ BigA (t.fst, t.snd.fst, t.snd.snd)) ∧ bif !(fewRB (r1, r2, l) && (fewAB (f1, f2, f3) && (fewAB (t.fst, t.snd.fst, t.snd.snd) && decide
    (s.length ≤ (100 : Nat))))) then true = true else (FewR (r1, r2, l) ∧ FewP (f1, f2, f3) ∧ FewP (t.fst, t.snd.fst, t.snd.snd) ∧ s.length ≤ (1000000 : Nat)) ∧ (FewP (f1, f2, f3) ∧ s.length ≤
    (1000000 : Nat)) ∧ bif (Rul.writingsB (r1, r2, l) (alOf (f1, f2, f3)) (alOf (t.fst, t.snd.fst, t.snd.snd)) s).snd != (0 : Int) then bif (↑(Rul.writingsB (r1, r2, l) (alOf (f1, f2, f3)) (alOf
    (t.fst, t.snd.fst, t.snd.snd)) s).fst.length : Int) == (0 : Int) then bif (Rul.writingsB (r1, r2, l) (alOf (f1, f2, f3)) (alOf (t.fst, t.snd.fst, t.snd.snd)) s).snd == (2 : Int) then true =
    true else bif (Rul.writingsB (r1, r2, l) (alOf (f1, f2, f3)) (alOf (t.fst, t.snd.fst, t.snd.snd)) s).snd == (1 : Int) then bif (Al.readB (alOf (f1, f2, f3)) s).snd.fst != (0 : Int) then true
    = true else (FewR (r1, r2, l) ∧ FewP (f1, f2, f3) ∧ FewP (t.fst, t.snd.fst, t.snd.snd)) ∧ (!Rul.validB (r1, r2, l) (alOf (f1, f2, f3)) (alOf (t.fst, t.snd.fst, t.snd.snd))) = true else false
    = true else false = true else bif (Al.readB (alOf (f1, f2, f3)) s).snd.fst != (0 : Int) then false = true else (FewR (r1, r2, l) ∧ FewP (f1, f2, f3) ∧ FewP (t.fst, t.snd.fst, t.snd.snd)) ∧
    bif !Rul.validB (r1, r2, l) (alOf (f1, f2, f3)) (alOf (t.fst, t.snd.fst, t.snd.snd)) then false = true else bif decide ((200 : Int) < (↑(Rul.writingsB (r1, r2, l) (alOf (f1, f2, f3)) (alOf
    (t.fst, t.snd.fst, t.snd.snd)) s).fst.length : Int)) then false = true else ((0 : Int) ≤ (↑(Rul.writingsB (r1, r2, l) (alOf (f1, f2, f3)) (alOf (t.fst, t.snd.fst, t.snd.snd)) s).fst.length :
    Int) ∧ (↑(Rul.writingsB (r1, r2, l) (alOf (f1, f2, f3)) (alOf (t.fst, t.snd.fst, t.snd.snd)) s).fst.length : Int) = (↑(Rul.writingsB (r1, r2, l) (alOf (f1, f2, f3)) (alOf (t.fst, t.snd.fst,
    t.snd.snd)) s).fst.length : Int) ∧ (↑(Rul.writingsB (r1, r2, l) (alOf (f1, f2, f3)) (alOf (t.fst, t.snd.fst, t.snd.snd)) s).fst.length : Int) * (↑(1 : Nat) : Int) ≤ (140737488355328 : Int))
    ∧ (∃ (p' : Nat × List Bool), (p'.fst ≤ l.length ∧ inFirst f2 (rsOf (r1, r2, l) (f1, f2, f3)) (wOf (f1, f2, f3) s) l (Rul.writingsB (r1, r2, l) (alOf (f1, f2, f3)) (alOf t) s).fst p'.fst
    p'.snd) ∧ ((0 : Int) = (↑p'.fst : Int) ∧ s = s ∧ True ∧ True ∧ True ∧ true = true ∧ (Rul.writingsB (r1, r2, l) (alOf (f1, f2, f3)) (alOf (t.fst, t.snd.fst, t.snd.snd)) s).fst =
    (Rul.writingsB (r1, r2, l) (alOf (f1, f2, f3)) (alOf (t.fst, t.snd.fst, t.snd.snd)) s).fst ∧ (Al.readB (alOf (f1, f2, f3)) s).fst = (Al.readB (alOf (f1, f2, f3)) s).fst ∧ True ∧ True) ∧ ((r1
    = r1 ∧ r2 = r2 ∧ l = l ∧ True) ∧ (f1 = f1 ∧ f2 = f2 ∧ f3 = f3 ∧ True) ∧ (t.fst = t.fst ∧ t.snd.fst = t.snd.fst ∧ t.snd.snd = t.snd.snd ∧ True) ∧ True) ∧ (List.replicate (↑(Rul.writingsB (r1,
    r2, l) (alOf (f1, f2, f3)) (alOf (t.fst, t.snd.fst, t.snd.snd)) s).fst.length : Int).toNat false = p'.snd ∧ True) ∧ True ∧ True ∧ True ∧ True ∧ True) ∧ ∀ (p : Nat × List Bool), p.fst ≤
    l.length ∧ inFirst f2 (rsOf (r1, r2, l) (f1, f2, f3)) (wOf (f1, f2, f3) s) l (Rul.writingsB (r1, r2, l) (alOf (f1, f2, f3)) (alOf t) s).fst p.fst p.snd → bif decide ((↑p.fst : Int) <
    (↑l.length : Int)) then ((0 : Int) ≤ (↑p.fst : Int) ∧ (↑p.fst : Int) < (↑l.length : Int)) ∧ okGo (((l.getD (↑p.fst : Int).toNat ([], [], [], false)).fst, (l.getD (↑p.fst : Int).toNat ([],
    [], [], false)).snd.fst, (l.getD (↑p.fst : Int).toNat ([], [], [], false)).snd.snd.fst, (l.getD (↑p.fst : Int).toNat ([], [], [], false)).snd.snd.snd), (f1, f2, f3), (Al.readB (alOf (f1, f2,
    f3)) s).fst) ∧ bif !(goesF f2 ((l.getD (↑p.fst : Int).toNat ([], [], [], false)).fst, (l.getD (↑p.fst : Int).toNat ([], [], [], false)).snd.fst, (l.getD (↑p.fst : Int).toNat ([], [], [],
    false)).snd.snd.fst, (l.getD (↑p.fst : Int).toNat ([], [], [], false)).snd.snd.snd) (Al.readB (alOf (f1, f2, f3)) s).fst).snd then ((-9223372036854775808 : Int) ≤ (↑p.fst : Int) + (1 : Int)
    ∧ (↑p.fst : Int) + (1 : Int) ≤ (9223372036854775807 : Int)) ∧ ∃ (p' : Nat × List Bool), (p'.fst ≤ l.length ∧ inFirst f2 (rsOf (r1, r2, l) (f1, f2, f3)) (wOf (f1, f2, f3) s) l (Rul.writingsB
    (r1, r2, l) (alOf (f1, f2, f3)) (alOf t) s).fst p'.fst p'.snd) ∧ l.length - p'.fst < l.length - p.fst ∧ ((↑p.fst : Int) + (1 : Int) = (↑p'.fst : Int) ∧ s = s ∧ True ∧ True ∧ True ∧ true =
    true ∧ (Rul.writingsB (r1, r2, l) (alOf (f1, f2, f3)) (alOf (t.fst, t.snd.fst, t.snd.snd)) s).fst = (Rul.writingsB (r1, r2, l) (alOf (f1, f2, f3)) (alOf (t.fst, t.snd.fst, t.snd.snd)) s).fst
    ∧ (Al.readB (alOf (f1, f2, f3)) s).fst = (Al.readB (alOf (f1, f2, f3)) s).fst ∧ True ∧ True) ∧ ((r1 = r1 ∧ r2 = r2 ∧ l = l ∧ True) ∧ (f1 = f1 ∧ f2 = f2 ∧ f3 = f3 ∧ True) ∧ (t.fst = t.fst ∧
    t.snd.fst = t.snd.fst ∧ t.snd.snd = t.snd.snd ∧ True) ∧ True) ∧ (p.snd = p'.snd ∧ True) ∧ True ∧ True ∧ True ∧ True ∧ True else bif decide ((goesF f2 ((l.getD (↑p.fst : Int).toNat ([], [],
    [], false)).fst, (l.getD (↑p.fst : Int).toNat ([], [], [], false)).snd.fst, (l.getD (↑p.fst : Int).toNat ([], [], [], false)).snd.snd.fst, (l.getD (↑p.fst : Int).toNat ([], [], [],
    false)).snd.snd.snd) (Al.readB (alOf (f1, f2, f3)) s).fst).fst < (↑(Al.readB (alOf (f1, f2, f3)) s).fst.length : Int)) then ((0 : Int) ≤ (goesF f2 ((l.getD (↑p.fst : Int).toNat ([], [], [],
    false)).fst, (l.getD (↑p.fst : Int).toNat ([], [], [], false)).snd.fst, (l.getD (↑p.fst : Int).toNat ([], [], [], false)).snd.snd.fst, (l.getD (↑p.fst : Int).toNat ([], [], [],
    false)).snd.snd.snd) (Al.readB (alOf (f1, f2, f3)) s).fst).fst ∧ (goesF f2 ((l.getD (↑p.fst : Int).toNat ([], [], [], false)).fst, (l.getD (↑p.fst : Int).toNat ([], [], [], false)).snd.fst,
    (l.getD (↑p.fst : Int).toNat ([], [], [], false)).snd.snd.fst, (l.getD (↑p.fst : Int).toNat ([], [], [], false)).snd.snd.snd) (Al.readB (alOf (f1, f2, f3)) s).fst).fst ≤ (↑(Al.readB (alOf
    (f1, f2, f3)) s).fst.length : Int) ∧ (↑(Al.readB (alOf (f1, f2, f3)) s).fst.length : Int) ≤ (↑(Al.readB (alOf (f1, f2, f3)) s).fst.length : Int)) ∧ (FewP (f1, f2, f3) ∧ (List.drop (goesF f2
    ((l.getD (↑p.fst : Int).toNat ([], [], [], false)).fst, (l.getD (↑p.fst : Int).toNat ([], [], [], false)).snd.fst, (l.getD (↑p.fst : Int).toNat ([], [], [], false)).snd.snd.fst, (l.getD
    (↑p.fst : Int).toNat ([], [], [], false)).snd.snd.snd) (Al.readB (alOf (f1, f2, f3)) s).fst).fst.toNat (List.take (↑(Al.readB (alOf (f1, f2, f3)) s).fst.length : Int).toNat (Al.readB (alOf
    (f1, f2, f3)) s).fst)).length ≤ (1000000 : Nat)) ∧ (FewR (r1, r2, l) ∧ FewP (f1, f2, f3) ∧ FewP (t.fst, t.snd.fst, t.snd.snd) ∧ (Al.joinB (alOf (f1, f2, f3)) (List.drop (goesF f2 ((l.getD
    (↑p.fst : Int).toNat ([], [], [], false)).fst, (l.getD (↑p.fst : Int).toNat ([], [], [], false)).snd.fst, (l.getD (↑p.fst : Int).toNat ([], [], [], false)).snd.snd.fst, (l.getD (↑p.fst :
    Int).toNat ([], [], [], false)).snd.snd.snd) (Al.readB (alOf (f1, f2, f3)) s).fst).fst.toNat (List.take (↑(Al.readB (alOf (f1, f2, f3)) s).fst.length : Int).toNat (Al.readB (alOf (f1, f2,
    f3)) s).fst))).fst.length ≤ (1000000 : Nat)) ∧ bif (Al.joinB (alOf (f1, f2, f3)) (List.drop (goesF f2 ((l.getD (↑p.fst : Int).toNat ([], [], [], false)).fst, (l.getD (↑p.fst : Int).toNat
    ([], [], [], false)).snd.fst, (l.getD (↑p.fst : Int).toNat ([], [], [], false)).snd.snd.fst, (l.getD (↑p.fst : Int).toNat ([], [], [], false)).snd.snd.snd) (Al.readB (alOf (f1, f2, f3))
    s).fst).fst.toNat (List.take (↑(Al.readB (alOf (f1, f2, f3)) s).fst.length : Int).toNat (Al.readB (alOf (f1, f2, f3)) s).fst))).snd != (0 : Int) then false = true else bif (Rul.writingsB
    (r1, r2, l) (alOf (f1, f2, f3)) (alOf (t.fst, t.snd.fst, t.snd.snd)) (Al.joinB (alOf (f1, f2, f3)) (List.drop (goesF f2 ((l.getD (↑p.fst : Int).toNat ([], [], [], false)).fst, (l.getD
    (↑p.fst : Int).toNat ([], [], [], false)).snd.fst, (l.getD (↑p.fst : Int).toNat ([], [], [], false)).snd.snd.fst, (l.getD (↑p.fst : Int).toNat ([], [], [], false)).snd.snd.snd) (Al.readB
    (alOf (f1, f2, f3)) s).fst).fst.toNat (List.take (↑(Al.readB (alOf (f1, f2, f3)) s).fst.length : Int).toNat (Al.readB (alOf (f1, f2, f3)) s).fst))).fst).snd != (0 : Int) then bif
    (Rul.writingsB (r1, r2, l) (alOf (f1, f2, f3)) (alOf (t.fst, t.snd.fst, t.snd.snd)) (Al.joinB (alOf (f1, f2, f3)) (List.drop (goesF f2 ((l.getD (↑p.fst : Int).toNat ([], [], [], false)).fst,
    (l.getD (↑p.fst : Int).toNat ([], [], [], false)).snd.fst, (l.getD (↑p.fst : Int).toNat ([], [], [], false)).snd.snd.fst, (l.getD (↑p.fst : Int).toNat ([], [], [], false)).snd.snd.snd)
    (Al.readB (alOf (f1, f2, f3)) s).fst).fst.toNat (List.take (↑(Al.readB (alOf (f1, f2, f3)) s).fst.length : Int).toNat (Al.readB (alOf (f1, f2, f3)) s).fst))).fst).snd != (2 : Int) then false
    = true else bif (Rul.writingsB (r1, r2, l) (alOf (f1, f2, f3)) (alOf (t.fst, t.snd.fst, t.snd.snd)) (Al.joinB (alOf (f1, f2, f3)) (List.drop (goesF f2 ((l.getD (↑p.fst : Int).toNat ([], [],
    [], false)).fst, (l.getD (↑p.fst : Int).toNat ([], [], [], false)).snd.fst, (l.getD (↑p.fst : Int).toNat ([], [], [], false)).snd.snd.fst, (l.getD (↑p.fst : Int).toNat ([], [], [],
    false)).snd.snd.snd) (Al.readB (alOf (f1, f2, f3)) s).fst).fst.toNat (List.take (↑(Al.readB (alOf (f1, f2, f3)) s).fst.length : Int).toNat (Al.readB (alOf (f1, f2, f3)) s).fst))).fst).snd ==
    (2 : Int) then true = true else (∃ (p' : Nat × List Bool), (p'.fst ≤ (Rul.writingsB (r1, r2, l) (alOf (f1, f2, f3)) (alOf (t.fst, t.snd.fst, t.snd.snd)) (Al.joinB (alOf (f1, f2, f3))
    (List.drop (goesF f2 ((l.getD (↑p.fst : Int).toNat ([], [], [], false)).fst, (l.getD (↑p.fst : Int).toNat ([], [], [], false)).snd.fst, (l.getD (↑p.fst : Int).toNat ([], [], [],
    false)).snd.snd.fst, (l.getD (↑p.fst : Int).toNat ([], [], [], false)).snd.snd.snd) (Al.readB (alOf (f1, f2, f3)) s).fst).fst.toNat (List.take (↑(Al.readB (alOf (f1, f2, f3)) s).fst.length :
    Int).toNat (Al.readB (alOf (f1, f2, f3)) s).fst))).fst).fst.length ∧ inFirst f2 (rsOf (r1, r2, l) (f1, f2, f3)) (wOf (f1, f2, f3) s) l (Rul.writingsB (r1, r2, l) (alOf (f1, f2, f3)) (alOf t)
    s).fst (↑p.fst : Int).toNat p'.snd ∧ ∀ (j : Nat), j < (Rul.writingsB (r1, r2, l) (alOf (f1, f2, f3)) (alOf t) s).fst.length → (∃ (p'_1 : Nat), p'_1 < p'.fst ∧ (Rul.writingsB (r1, r2, l)
    (alOf (f1, f2, f3)) (alOf t) s).fst.getD j [] = (ruleAt l (↑p.fst : Int).toNat).snd.fst ++ (Rul.writingsB (r1, r2, l) (alOf (f1, f2, f3)) (alOf (t.fst, t.snd.fst, t.snd.snd)) (Al.joinB (alOf
    (f1, f2, f3)) (List.drop (goesF f2 ((l.getD (↑p.fst : Int).toNat ([], [], [], false)).fst, (l.getD (↑p.fst : Int).toNat ([], [], [], false)).snd.fst, (l.getD (↑p.fst : Int).toNat ([], [],
    [], false)).snd.snd.fst, (l.getD (↑p.fst : Int).toNat ([], [], [], false)).snd.snd.snd) (Al.readB (alOf (f1, f2, f3)) s).fst).fst.toNat (List.take (↑(Al.readB (alOf (f1, f2, f3))
    s).fst.length : Int).toNat (Al.readB (alOf (f1, f2, f3)) s).fst))).fst).fst.getD p'_1 []) → p'.snd.getD j false = true) ∧ ((0 : Int) = (↑p'.fst : Int) ∧ s = s ∧ True ∧ True ∧ True ∧ true =
    true ∧ (Rul.writingsB (r1, r2, l) (alOf (f1, f2, f3)) (alOf (t.fst, t.snd.fst, t.snd.snd)) s).fst = (Rul.writingsB (r1, r2, l) (alOf (f1, f2, f3)) (alOf (t.fst, t.snd.fst, t.snd.snd)) s).fst
    ∧ (Al.readB (alOf (f1, f2, f3)) s).fst = (Al.readB (alOf (f1, f2, f3)) s).fst ∧ True ∧ (↑p.fst : Int) = (↑p.fst : Int) ∧ (goesF f2 ((l.getD (↑p.fst : Int).toNat ([], [], [], false)).fst,
    (l.getD (↑p.fst : Int).toNat ([], [], [], false)).snd.fst, (l.getD (↑p.fst : Int).toNat ([], [], [], false)).snd.snd.fst, (l.getD (↑p.fst : Int).toNat ([], [], [], false)).snd.snd.snd)
    (Al.readB (alOf (f1, f2, f3)) s).fst).fst = (goesF f2 ((l.getD (↑p.fst : Int).toNat ([], [], [], false)).fst, (l.getD (↑p.fst : Int).toNat ([], [], [], false)).snd.fst, (l.getD (↑p.fst :
    Int).toNat ([], [], [], false)).snd.snd.fst, (l.getD (↑p.fst : Int).toNat ([], [], [], false)).snd.snd.snd) (Al.readB (alOf (f1, f2, f3)) s).fst).fst ∧ (Rul.writingsB (r1, r2, l) (alOf (f1,
    f2, f3)) (alOf (t.fst, t.snd.fst, t.snd.snd)) (Al.joinB (alOf (f1, f2, f3)) (List.drop (goesF f2 ((l.getD (↑p.fst : Int).toNat ([], [], [], false)).fst, (l.getD (↑p.fst : Int).toNat ([], [],
    [], false)).snd.fst, (l.getD (↑p.fst : Int).toNat ([], [], [], false)).snd.snd.fst, (l.getD (↑p.fst : Int).toNat ([], [], [], false)).snd.snd.snd) (Al.readB (alOf (f1, f2, f3))
    s).fst).fst.toNat (List.take (↑(Al.readB (alOf (f1, f2, f3)) s).fst.length : Int).toNat (Al.readB (alOf (f1, f2, f3)) s).fst))).fst).fst = (Rul.writingsB (r1, r2, l) (alOf (f1, f2, f3))
    (alOf (t.fst, t.snd.fst, t.snd.snd)) (Al.joinB (alOf (f1, f2, f3)) (List.drop (goesF f2 ((l.getD (↑p.fst : Int).toNat ([], [], [], false)).fst, (l.getD (↑p.fst : Int).toNat ([], [], [],
    false)).snd.fst, (l.getD (↑p.fst : Int).toNat ([], [], [], false)).snd.snd.fst, (l.getD (↑p.fst : Int).toNat ([], [], [], false)).snd.snd.snd) (Al.readB (alOf (f1, f2, f3)) s).fst).fst.toNat
    (List.take (↑(Al.readB (alOf (f1, f2, f3)) s).fst.length : Int).toNat (Al.readB (alOf (f1, f2, f3)) s).fst))).fst).fst ∧ True) ∧ ((r1 = r1 ∧ r2 = r2 ∧ l = l ∧ True) ∧ (f1 = f1 ∧ f2 = f2 ∧ f3
    = f3 ∧ True) ∧ (t.fst = t.fst ∧ t.snd.fst = t.snd.fst ∧ t.snd.snd = t.snd.snd ∧ True) ∧ True) ∧ (p.snd = p'.snd ∧ ([[]] : List (List UInt8)) = ([[]] : List (List UInt8)) ∧ True) ∧ True ∧ True ∧ True ∧ True ∧ True) ∧ ∀ (p_1 : Nat ×
    List Bool), (p_1.fst ≤ (Rul.writingsB (r1, r2, l) (alOf (f1, f2, f3)) (alOf (t.fst, t.snd.fst, t.snd.snd)) (Al.joinB (alOf (f1, f2, f3)) (List.drop (goesF f2 ((l.getD (↑p.fst : Int).toNat
    ([], [], [], false)).fst, (l.getD (↑p.fst : Int).toNat ([], [], [], false)).snd.fst, (l.getD (↑p.fst : Int).toNat ([], [], [], false)).snd.snd.fst, (l.getD (↑p.fst : Int).toNat ([], [], [],
    false)).snd.snd.snd) (Al.readB (alOf (f1, f2, f3)) s).fst).fst.toNat (List.take (↑(Al.readB (alOf (f1, f2, f3)) s).fst.length : Int).toNat (Al.readB (alOf (f1, f2, f3))
    s).fst))).fst).fst.length ∧ inFirst f2 (rsOf (r1, r2, l) (f1, f2, f3)) (wOf (f1, f2, f3) s) l (Rul.writingsB (r1, r2, l) (alOf (f1, f2, f3)) (alOf t) s).fst (↑p.fst : Int).toNat p_1.snd ∧ ∀
    (j : Nat), j < (Rul.writingsB (r1, r2, l) (alOf (f1, f2, f3)) (alOf t) s).fst.length → (∃ (p' : Nat), p' < p_1.fst ∧ (Rul.writingsB (r1, r2, l) (alOf (f1, f2, f3)) (alOf t) s).fst.getD j []
    = (ruleAt l (↑p.fst : Int).toNat).snd.fst ++ (Rul.writingsB (r1, r2, l) (alOf (f1, f2, f3)) (alOf (t.fst, t.snd.fst, t.snd.snd)) (Al.joinB (alOf (f1, f2, f3)) (List.drop (goesF f2 ((l.getD
    (↑p.fst : Int).toNat ([], [], [], false)).fst, (l.getD (↑p.fst : Int).toNat ([], [], [], false)).snd.fst, (l.getD (↑p.fst : Int).toNat ([], [], [], false)).snd.snd.fst, (l.getD (↑p.fst :
    Int).toNat ([], [], [], false)).snd.snd.snd) (Al.readB (alOf (f1, f2, f3)) s).fst).fst.toNat (List.take (↑(Al.readB (alOf (f1, f2, f3)) s).fst.length : Int).toNat (Al.readB (alOf (f1, f2,
    f3)) s).fst))).fst).fst.getD p' []) → p_1.snd.getD j false = true) → bif decide ((↑p_1.fst : Int) < (↑(Rul.writingsB (r1, r2, l) (alOf (f1, f2, f3)) (alOf (t.fst, t.snd.fst, t.snd.snd))
    (Al.joinB (alOf (f1, f2, f3)) (List.drop (goesF f2 ((l.getD (↑p.fst : Int).toNat ([], [], [], false)).fst, (l.getD (↑p.fst : Int).toNat ([], [], [], false)).snd.fst, (l.getD (↑p.fst :
    Int).toNat ([], [], [], false)).snd.snd.fst, (l.getD (↑p.fst : Int).toNat ([], [], [], false)).snd.snd.snd) (Al.readB (alOf (f1, f2, f3)) s).fst).fst.toNat (List.take (↑(Al.readB (alOf (f1,
    f2, f3)) s).fst.length : Int).toNat (Al.readB (alOf (f1, f2, f3)) s).fst))).fst).fst.length : Int)) then ((0 : Int) ≤ (↑p.fst : Int) ∧ (↑p.fst : Int) < (↑l.length : Int)) ∧ ((0 : Int) ≤
    (↑p_1.fst : Int) ∧ (↑p_1.fst : Int) < (↑(Rul.writingsB (r1, r2, l) (alOf (f1, f2, f3)) (alOf (t.fst, t.snd.fst, t.snd.snd)) (Al.joinB (alOf (f1, f2, f3)) (List.drop (goesF f2 ((l.getD
    (↑p.fst : Int).toNat ([], [], [], false)).fst, (l.getD (↑p.fst : Int).toNat ([], [], [], false)).snd.fst, (l.getD (↑p.fst : Int).toNat ([], [], [], false)).snd.snd.fst, (l.getD (↑p.fst :
    Int).toNat ([], [], [], false)).snd.snd.snd) (Al.readB (alOf (f1, f2, f3)) s).fst).fst.toNat (List.take (↑(Al.readB (alOf (f1, f2, f3)) s).fst.length : Int).toNat (Al.readB (alOf (f1, f2,
    f3)) s).fst))).fst).fst.length : Int)) ∧ (l.getD (↑p.fst : Int).toNat ([], [], [], false)).snd.fst.length + ((Rul.writingsB (r1, r2, l) (alOf (f1, f2, f3)) (alOf (t.fst, t.snd.fst,
    t.snd.snd)) (Al.joinB (alOf (f1, f2, f3)) (List.drop (goesF f2 ((l.getD (↑p.fst : Int).toNat ([], [], [], false)).fst, (l.getD (↑p.fst : Int).toNat ([], [], [], false)).snd.fst, (l.getD
    (↑p.fst : Int).toNat ([], [], [], false)).snd.snd.fst, (l.getD (↑p.fst : Int).toNat ([], [], [], false)).snd.snd.snd) (Al.readB (alOf (f1, f2, f3)) s).fst).fst.toNat (List.take (↑(Al.readB
    (alOf (f1, f2, f3)) s).fst.length : Int).toNat (Al.readB (alOf (f1, f2, f3)) s).fst))).fst).fst.getD (↑p_1.fst : Int).toNat []).length ≤ (9223372036854775807 : Nat) ∧ (Rul.writingsB (r1, r2,
    l) (alOf (f1, f2, f3)) (alOf (t.fst, t.snd.fst, t.snd.snd)) s).fst.length ≤ (1000000000 : Nat) ∧ bif decide (findI ((l.getD (↑p.fst : Int).toNat ([], [], [], false)).snd.fst ++
    (Rul.writingsB (r1, r2, l) (alOf (f1, f2, f3)) (alOf (t.fst, t.snd.fst, t.snd.snd)) (Al.joinB (alOf (f1, f2, f3)) (List.drop (goesF f2 ((l.getD (↑p.fst : Int).toNat ([], [], [], false)).fst,
    (l.getD (↑p.fst : Int).toNat ([], [], [], false)).snd.fst, (l.getD (↑p.fst : Int).toNat ([], [], [], false)).snd.snd.fst, (l.getD (↑p.fst : Int).toNat ([], [], [], false)).snd.snd.snd)
    (Al.readB (alOf (f1, f2, f3)) s).fst).fst.toNat (List.take (↑(Al.readB (alOf (f1, f2, f3)) s).fst.length : Int).toNat (Al.readB (alOf (f1, f2, f3)) s).fst))).fst).fst.getD (↑p_1.fst :
    Int).toNat []) (Rul.writingsB (r1, r2, l) (alOf (f1, f2, f3)) (alOf (t.fst, t.snd.fst, t.snd.snd)) s).fst (0 : Int) < (0 : Int)) then false = true else ((0 : Int) ≤ findI ((l.getD (↑p.fst :
    Int).toNat ([], [], [], false)).snd.fst ++ (Rul.writingsB (r1, r2, l) (alOf (f1, f2, f3)) (alOf (t.fst, t.snd.fst, t.snd.snd)) (Al.joinB (alOf (f1, f2, f3)) (List.drop (goesF f2 ((l.getD
    (↑p.fst : Int).toNat ([], [], [], false)).fst, (l.getD (↑p.fst : Int).toNat ([], [], [], false)).snd.fst, (l.getD (↑p.fst : Int).toNat ([], [], [], false)).snd.snd.fst, (l.getD (↑p.fst :
    Int).toNat ([], [], [], false)).snd.snd.snd) (Al.readB (alOf (f1, f2, f3)) s).fst).fst.toNat (List.take (↑(Al.readB (alOf (f1, f2, f3)) s).fst.length : Int).toNat (Al.readB (alOf (f1, f2,
    f3)) s).fst))).fst).fst.getD (↑p_1.fst : Int).toNat []) (Rul.writingsB (r1, r2, l) (alOf (f1, f2, f3)) (alOf (t.fst, t.snd.fst, t.snd.snd)) s).fst (0 : Int) ∧ findI ((l.getD (↑p.fst :
    Int).toNat ([], [], [], false)).snd.fst ++ (Rul.writingsB (r1, r2, l) (alOf (f1, f2, f3)) (alOf (t.fst, t.snd.fst, t.snd.snd)) (Al.joinB (alOf (f1, f2, f3)) (List.drop (goesF f2 ((l.getD
    (↑p.fst : Int).toNat ([], [], [], false)).fst, (l.getD (↑p.fst : Int).toNat ([], [], [], false)).snd.fst, (l.getD (↑p.fst : Int).toNat ([], [], [], false)).snd.snd.fst, (l.getD (↑p.fst :
    Int).toNat ([], [], [], false)).snd.snd.snd) (Al.readB (alOf (f1, f2, f3)) s).fst).fst.toNat (List.take (↑(Al.readB (alOf (f1, f2, f3)) s).fst.length : Int).toNat (Al.readB (alOf (f1, f2,
    f3)) s).fst))).fst).fst.getD (↑p_1.fst : Int).toNat []) (Rul.writingsB (r1, r2, l) (alOf (f1, f2, f3)) (alOf (t.fst, t.snd.fst, t.snd.snd)) s).fst (0 : Int) < (↑p_1.snd.length : Int)) ∧ bif
    ((0 : Nat) + (93 : Nat)).beq ((0 : Nat) + (93 : Nat)) && Nat.beq (1 : Nat) (1 : Nat) && (findI ((l.getD (↑p.fst : Int).toNat ([], [], [], false)).snd.fst ++ (Rul.writingsB (r1, r2, l) (alOf
    (f1, f2, f3)) (alOf (t.fst, t.snd.fst, t.snd.snd)) (Al.joinB (alOf (f1, f2, f3)) (List.drop (goesF f2 ((l.getD (↑p.fst : Int).toNat ([], [], [], false)).fst, (l.getD (↑p.fst : Int).toNat
    ([], [], [], false)).snd.fst, (l.getD (↑p.fst : Int).toNat ([], [], [], false)).snd.snd.fst, (l.getD (↑p.fst : Int).toNat ([], [], [], false)).snd.snd.snd) (Al.readB (alOf (f1, f2, f3))
    s).fst).fst.toNat (List.take (↑(Al.readB (alOf (f1, f2, f3)) s).fst.length : Int).toNat (Al.readB (alOf (f1, f2, f3)) s).fst))).fst).fst.getD (↑p_1.fst : Int).toNat []) (Rul.writingsB (r1,
    r2, l) (alOf (f1, f2, f3)) (alOf (t.fst, t.snd.fst, t.snd.snd)) s).fst (0 : Int)).toNat.beq (findI ((l.getD (↑p.fst : Int).toNat ([], [], [], false)).snd.fst ++ (Rul.writingsB (r1, r2, l)
    (alOf (f1, f2, f3)) (alOf (t.fst, t.snd.fst, t.snd.snd)) (Al.joinB (alOf (f1, f2, f3)) (List.drop (goesF f2 ((l.getD (↑p.fst : Int).toNat ([], [], [], false)).fst, (l.getD (↑p.fst :
    Int).toNat ([], [], [], false)).snd.fst, (l.getD (↑p.fst : Int).toNat ([], [], [], false)).snd.snd.fst, (l.getD (↑p.fst : Int).toNat ([], [], [], false)).snd.snd.snd) (Al.readB (alOf (f1,
    f2, f3)) s).fst).fst.toNat (List.take (↑(Al.readB (alOf (f1, f2, f3)) s).fst.length : Int).toNat (Al.readB (alOf (f1, f2, f3)) s).fst))).fst).fst.getD (↑p_1.fst : Int).toNat [])
    (Rul.writingsB (r1, r2, l) (alOf (f1, f2, f3)) (alOf (t.fst, t.snd.fst, t.snd.snd)) s).fst (0 : Int)).toNat && Nat.beq (0 : Nat) (0 : Nat) then ((-9223372036854775808 : Int) ≤ (↑p_1.fst :
    Int) + (1 : Int) ∧ (↑p_1.fst : Int) + (1 : Int) ≤ (9223372036854775807 : Int)) ∧ ∃ (p' : Nat × List Bool), (p'.fst ≤ (Rul.writingsB (r1, r2, l) (alOf (f1, f2, f3)) (alOf (t.fst, t.snd.fst,
    t.snd.snd)) (Al.joinB (alOf (f1, f2, f3)) (List.drop (goesF f2 ((l.getD (↑p.fst : Int).toNat ([], [], [], false)).fst, (l.getD (↑p.fst : Int).toNat ([], [], [], false)).snd.fst, (l.getD
    (↑p.fst : Int).toNat ([], [], [], false)).snd.snd.fst, (l.getD (↑p.fst : Int).toNat ([], [], [], false)).snd.snd.snd) (Al.readB (alOf (f1, f2, f3)) s).fst).fst.toNat (List.take (↑(Al.readB
    (alOf (f1, f2, f3)) s).fst.length : Int).toNat (Al.readB (alOf (f1, f2, f3)) s).fst))).fst).fst.length ∧ inFirst f2 (rsOf (r1, r2, l) (f1, f2, f3)) (wOf (f1, f2, f3) s) l (Rul.writingsB (r1,
    r2, l) (alOf (f1, f2, f3)) (alOf t) s).fst (↑p.fst : Int).toNat p'.snd ∧ ∀ (j : Nat), j < (Rul.writingsB (r1, r2, l) (alOf (f1, f2, f3)) (alOf t) s).fst.length → (∃ (p'_1 : Nat), p'_1 <
    p'.fst ∧ (Rul.writingsB (r1, r2, l) (alOf (f1, f2, f3)) (alOf t) s).fst.getD j [] = (ruleAt l (↑p.fst : Int).toNat).snd.fst ++ (Rul.writingsB (r1, r2, l) (alOf (f1, f2, f3)) (alOf (t.fst,
    t.snd.fst, t.snd.snd)) (Al.joinB (alOf (f1, f2, f3)) (List.drop (goesF f2 ((l.getD (↑p.fst : Int).toNat ([], [], [], false)).fst, (l.getD (↑p.fst : Int).toNat ([], [], [], false)).snd.fst,
    (l.getD (↑p.fst : Int).toNat ([], [], [], false)).snd.snd.fst, (l.getD (↑p.fst : Int).toNat ([], [], [], false)).snd.snd.snd) (Al.readB (alOf (f1, f2, f3)) s).fst).fst.toNat (List.take
    (↑(Al.readB (alOf (f1, f2, f3)) s).fst.length : Int).toNat (Al.readB (alOf (f1, f2, f3)) s).fst))).fst).fst.getD p'_1 []) → p'.snd.getD j false = true) ∧ (Rul.writingsB (r1, r2, l) (alOf
    (f1, f2, f3)) (alOf (t.fst, t.snd.fst, t.snd.snd)) (Al.joinB (alOf (f1, f2, f3)) (List.drop (goesF f2 ((l.getD (↑p.fst : Int).toNat ([], [], [], false)).fst, (l.getD (↑p.fst : Int).toNat
    ([], [], [], false)).snd.fst, (l.getD (↑p.fst : Int).toNat ([], [], [], false)).snd.snd.fst, (l.getD (↑p.fst : Int).toNat ([], [], [], false)).snd.snd.snd) (Al.readB (alOf (f1, f2, f3))
    s).fst).fst.toNat (List.take (↑(Al.readB (alOf (f1, f2, f3)) s).fst.length : Int).toNat (Al.readB (alOf (f1, f2, f3)) s).fst))).fst).fst.length - p'.fst < (Rul.writingsB (r1, r2, l) (alOf
    (f1, f2, f3)) (alOf (t.fst, t.snd.fst, t.snd.snd)) (Al.joinB (alOf (f1, f2, f3)) (List.drop (goesF f2 ((l.getD (↑p.fst : Int).toNat ([], [], [], false)).fst, (l.getD (↑p.fst : Int).toNat
    ([], [], [], false)).snd.fst, (l.getD (↑p.fst : Int).toNat ([], [], [], false)).snd.snd.fst, (l.getD (↑p.fst : Int).toNat ([], [], [], false)).snd.snd.snd) (Al.readB (alOf (f1, f2, f3))
    s).fst).fst.toNat (List.take (↑(Al.readB (alOf (f1, f2, f3)) s).fst.length : Int).toNat (Al.readB (alOf (f1, f2, f3)) s).fst))).fst).fst.length - p_1.fst ∧ ((↑p_1.fst : Int) + (1 : Int) =
    (↑p'.fst : Int) ∧ s = s ∧ True ∧ True ∧ True ∧ true = true ∧ (Rul.writingsB (r1, r2, l) (alOf (f1, f2, f3)) (alOf (t.fst, t.snd.fst, t.snd.snd)) s).fst = (Rul.writingsB (r1, r2, l) (alOf
    (f1, f2, f3)) (alOf (t.fst, t.snd.fst, t.snd.snd)) s).fst ∧ (Al.readB (alOf (f1, f2, f3)) s).fst = (Al.readB (alOf (f1, f2, f3)) s).fst ∧ True ∧ (↑p.fst : Int) = (↑p.fst : Int) ∧ (goesF f2
    ((l.getD (↑p.fst : Int).toNat ([], [], [], false)).fst, (l.getD (↑p.fst : Int).toNat ([], [], [], false)).snd.fst, (l.getD (↑p.fst : Int).toNat ([], [], [], false)).snd.snd.fst, (l.getD
    (↑p.fst : Int).toNat ([], [], [], false)).snd.snd.snd) (Al.readB (alOf (f1, f2, f3)) s).fst).fst = (goesF f2 ((l.getD (↑p.fst : Int).toNat ([], [], [], false)).fst, (l.getD (↑p.fst :
    Int).toNat ([], [], [], false)).snd.fst, (l.getD (↑p.fst : Int).toNat ([], [], [], false)).snd.snd.fst, (l.getD (↑p.fst : Int).toNat ([], [], [], false)).snd.snd.snd) (Al.readB (alOf (f1,
    f2, f3)) s).fst).fst ∧ (Rul.writingsB (r1, r2, l) (alOf (f1, f2, f3)) (alOf (t.fst, t.snd.fst, t.snd.snd)) (Al.joinB (alOf (f1, f2, f3)) (List.drop (goesF f2 ((l.getD (↑p.fst : Int).toNat
    ([], [], [], false)).fst, (l.getD (↑p.fst : Int).toNat ([], [], [], false)).snd.fst, (l.getD (↑p.fst : Int).toNat ([], [], [], false)).snd.snd.fst, (l.getD (↑p.fst : Int).toNat ([], [], [],
    false)).snd.snd.snd) (Al.readB (alOf (f1, f2, f3)) s).fst).fst.toNat (List.take (↑(Al.readB (alOf (f1, f2, f3)) s).fst.length : Int).toNat (Al.readB (alOf (f1, f2, f3)) s).fst))).fst).fst =
    (Rul.writingsB (r1, r2, l) (alOf (f1, f2, f3)) (alOf (t.fst, t.snd.fst, t.snd.snd)) (Al.joinB (alOf (f1, f2, f3)) (List.drop (goesF f2 ((l.getD (↑p.fst : Int).toNat ([], [], [], false)).fst,
    (l.getD (↑p.fst : Int).toNat ([], [], [], false)).snd.fst, (l.getD (↑p.fst : Int).toNat ([], [], [], false)).snd.snd.fst, (l.getD (↑p.fst : Int).toNat ([], [], [], false)).snd.snd.snd)
    (Al.readB (alOf (f1, f2, f3)) s).fst).fst.toNat (List.take (↑(Al.readB (alOf (f1, f2, f3)) s).fst.length : Int).toNat (Al.readB (alOf (f1, f2, f3)) s).fst))).fst).fst ∧ True) ∧ ((r1 = r1 ∧
    r2 = r2 ∧ l = l ∧ True) ∧ (f1 = f1 ∧ f2 = f2 ∧ f3 = f3 ∧ True) ∧ (t.fst = t.fst ∧ t.snd.fst = t.snd.fst ∧ t.snd.snd = t.snd.snd ∧ True) ∧ True) ∧ (p_1.snd.set (findI ((l.getD (↑p.fst :
    Int).toNat ([], [], [], false)).snd.fst ++ (Rul.writingsB (r1, r2, l) (alOf (f1, f2, f3)) (alOf (t.fst, t.snd.fst, t.snd.snd)) (Al.joinB (alOf (f1, f2, f3)) (List.drop (goesF f2 ((l.getD
    (↑p.fst : Int).toNat ([], [], [], false)).fst, (l.getD (↑p.fst : Int).toNat ([], [], [], false)).snd.fst, (l.getD (↑p.fst : Int).toNat ([], [], [], false)).snd.snd.fst, (l.getD (↑p.fst :
    Int).toNat ([], [], [], false)).snd.snd.snd) (Al.readB (alOf (f1, f2, f3)) s).fst).fst.toNat (List.take (↑(Al.readB (alOf (f1, f2, f3)) s).fst.length : Int).toNat (Al.readB (alOf (f1, f2,
    f3)) s).fst))).fst).fst.getD (↑p_1.fst : Int).toNat []) (Rul.writingsB (r1, r2, l) (alOf (f1, f2, f3)) (alOf (t.fst, t.snd.fst, t.snd.snd)) s).fst (0 : Int)).toNat true = p'.snd ∧ ([[]] : List (List UInt8)) =
    ([[]] : List (List UInt8)) ∧ True) ∧ True ∧ True ∧ True ∧ True ∧ True else False else ((-9223372036854775808 : Int) ≤ (↑p.fst : Int) + (1 : Int) ∧ (↑p.fst : Int) + (1 : Int) ≤ (9223372036854775807 : Int)) ∧ ∃ (p'
    : Nat × List Bool), (p'.fst ≤ l.length ∧ inFirst f2 (rsOf (r1, r2, l) (f1, f2, f3)) (wOf (f1, f2, f3) s) l (Rul.writingsB (r1, r2, l) (alOf (f1, f2, f3)) (alOf t) s).fst p'.fst p'.snd) ∧
    l.length - p'.fst < l.length - p.fst ∧ ((↑p.fst : Int) + (1 : Int) = (↑p'.fst : Int) ∧ s = s ∧ True ∧ True ∧ True ∧ true = true ∧ (Rul.writingsB (r1, r2, l) (alOf (f1, f2, f3)) (alOf (t.fst,
    t.snd.fst, t.snd.snd)) s).fst = (Rul.writingsB (r1, r2, l) (alOf (f1, f2, f3)) (alOf (t.fst, t.snd.fst, t.snd.snd)) s).fst ∧ (Al.readB (alOf (f1, f2, f3)) s).fst = (Al.readB (alOf (f1, f2,
    f3)) s).fst ∧ True ∧ True) ∧ ((r1 = r1 ∧ r2 = r2 ∧ l = l ∧ True) ∧ (f1 = f1 ∧ f2 = f2 ∧ f3 = f3 ∧ True) ∧ (t.fst = t.fst ∧ t.snd.fst = t.snd.fst ∧ t.snd.snd = t.snd.snd ∧ True) ∧ True) ∧
    (p_1.snd = p'.snd ∧ True) ∧ True ∧ True ∧ True ∧ True ∧ True else bif (Rul.writingsB (r1, r2, l) (alOf (f1, f2, f3)) (alOf (t.fst, t.snd.fst, t.snd.snd)) (Al.joinB (alOf (f1, f2, f3))
    (List.drop (goesF f2 ((l.getD (↑p.fst : Int).toNat ([], [], [], false)).fst, (l.getD (↑p.fst : Int).toNat ([], [], [], false)).snd.fst, (l.getD (↑p.fst : Int).toNat ([], [], [],
    false)).snd.snd.fst, (l.getD (↑p.fst : Int).toNat ([], [], [], false)).snd.snd.snd) (Al.readB (alOf (f1, f2, f3)) s).fst).fst.toNat (List.take (↑(Al.readB (alOf (f1, f2, f3)) s).fst.length :
    Int).toNat (Al.readB (alOf (f1, f2, f3)) s).fst))).fst).snd == (2 : Int) then true = true else (∃ (p' : Nat × List Bool), (p'.fst ≤ (Rul.writingsB (r1, r2, l) (alOf (f1, f2, f3)) (alOf
    (t.fst, t.snd.fst, t.snd.snd)) (Al.joinB (alOf (f1, f2, f3)) (List.drop (goesF f2 ((l.getD (↑p.fst : Int).toNat ([], [], [], false)).fst, (l.getD (↑p.fst : Int).toNat ([], [], [],
    false)).snd.fst, (l.getD (↑p.fst : Int).toNat ([], [], [], false)).snd.snd.fst, (l.getD (↑p.fst : Int).toNat ([], [], [], false)).snd.snd.snd) (Al.readB (alOf (f1, f2, f3)) s).fst).fst.toNat
    (List.take (↑(Al.readB (alOf (f1, f2, f3)) s).fst.length : Int).toNat (Al.readB (alOf (f1, f2, f3)) s).fst))).fst).fst.length ∧ inFirst f2 (rsOf (r1, r2, l) (f1, f2, f3)) (wOf (f1, f2, f3)
    s) l (Rul.writingsB (r1, r2, l) (alOf (f1, f2, f3)) (alOf t) s).fst (↑p.fst : Int).toNat p'.snd ∧ ∀ (j : Nat), j < (Rul.writingsB (r1, r2, l) (alOf (f1, f2, f3)) (alOf t) s).fst.length → (∃
    (p'_1 : Nat), p'_1 < p'.fst ∧ (Rul.writingsB (r1, r2, l) (alOf (f1, f2, f3)) (alOf t) s).fst.getD j [] = (ruleAt l (↑p.fst : Int).toNat).snd.fst ++ (Rul.writingsB (r1, r2, l) (alOf (f1, f2,
    f3)) (alOf (t.fst, t.snd.fst, t.snd.snd)) (Al.joinB (alOf (f1, f2, f3)) (List.drop (goesF f2 ((l.getD (↑p.fst : Int).toNat ([], [], [], false)).fst, (l.getD (↑p.fst : Int).toNat ([], [], [],
    false)).snd.fst, (l.getD (↑p.fst : Int).toNat ([], [], [], false)).snd.snd.fst, (l.getD (↑p.fst : Int).toNat ([], [], [], false)).snd.snd.snd) (Al.readB (alOf (f1, f2, f3)) s).fst).fst.toNat
    (List.take (↑(Al.readB (alOf (f1, f2, f3)) s).fst.length : Int).toNat (Al.readB (alOf (f1, f2, f3)) s).fst))).fst).fst.getD p'_1 []) → p'.snd.getD j false = true) ∧ ((0 : Int) = (↑p'.fst :
    Int) ∧ s = s ∧ True ∧ True ∧ True ∧ true = true ∧ (Rul.writingsB (r1, r2, l) (alOf (f1, f2, f3)) (alOf (t.fst, t.snd.fst, t.snd.snd)) s).fst = (Rul.writingsB (r1, r2, l) (alOf (f1, f2, f3))
    (alOf (t.fst, t.snd.fst, t.snd.snd)) s).fst ∧ (Al.readB (alOf (f1, f2, f3)) s).fst = (Al.readB (alOf (f1, f2, f3)) s).fst ∧ True ∧ (↑p.fst : Int) = (↑p.fst : Int) ∧ (goesF f2 ((l.getD
    (↑p.fst : Int).toNat ([], [], [], false)).fst, (l.getD (↑p.fst : Int).toNat ([], [], [], false)).snd.fst, (l.getD (↑p.fst : Int).toNat ([], [], [], false)).snd.snd.fst, (l.getD (↑p.fst :
    Int).toNat ([], [], [], false)).snd.snd.snd) (Al.readB (alOf (f1, f2, f3)) s).fst).fst = (goesF f2 ((l.getD (↑p.fst : Int).toNat ([], [], [], false)).fst, (l.getD (↑p.fst : Int).toNat ([],
    [], [], false)).snd.fst, (l.getD (↑p.fst : Int).toNat ([], [], [], false)).snd.snd.fst, (l.getD (↑p.fst : Int).toNat ([], [], [], false)).snd.snd.snd) (Al.readB (alOf (f1, f2, f3))
    s).fst).fst ∧ (Rul.writingsB (r1, r2, l) (alOf (f1, f2, f3)) (alOf (t.fst, t.snd.fst, t.snd.snd)) (Al.joinB (alOf (f1, f2, f3)) (List.drop (goesF f2 ((l.getD (↑p.fst : Int).toNat ([], [],
    [], false)).fst, (l.getD (↑p.fst : Int).toNat ([], [], [], false)).snd.fst, (l.getD (↑p.fst : Int).toNat ([], [], [], false)).snd.snd.fst, (l.getD (↑p.fst : Int).toNat ([], [], [],
    false)).snd.snd.snd) (Al.readB (alOf (f1, f2, f3)) s).fst).fst.toNat (List.take (↑(Al.readB (alOf (f1, f2, f3)) s).fst.length : Int).toNat (Al.readB (alOf (f1, f2, f3)) s).fst))).fst).fst =
    (Rul.writingsB (r1, r2, l) (alOf (f1, f2, f3)) (alOf (t.fst, t.snd.fst, t.snd.snd)) (Al.joinB (alOf (f1, f2, f3)) (List.drop (goesF f2 ((l.getD (↑p.fst : Int).toNat ([], [], [], false)).fst,
    (l.getD (↑p.fst : Int).toNat ([], [], [], false)).snd.fst, (l.getD (↑p.fst : Int).toNat ([], [], [], false)).snd.snd.fst, (l.getD (↑p.fst : Int).toNat ([], [], [], false)).snd.snd.snd)
    (Al.readB (alOf (f1, f2, f3)) s).fst).fst.toNat (List.take (↑(Al.readB (alOf (f1, f2, f3)) s).fst.length : Int).toNat (Al.readB (alOf (f1, f2, f3)) s).fst))).fst).fst ∧ True) ∧ ((r1 = r1 ∧
    r2 = r2 ∧ l = l ∧ True) ∧ (f1 = f1 ∧ f2 = f2 ∧ f3 = f3 ∧ True) ∧ (t.fst = t.fst ∧ t.snd.fst = t.snd.fst ∧ t.snd.snd = t.snd.snd ∧ True) ∧ True) ∧ (p.snd = p'.snd ∧ ([[]] : List (List UInt8)) = ([[]] : List (List UInt8)) ∧ True) ∧ True
    ∧ True ∧ True ∧ True ∧ True) ∧ ∀ (p_1 : Nat × List Bool), (p_1.fst ≤ (Rul.writingsB (r1, r2, l) (alOf (f1, f2, f3)) (alOf (t.fst, t.snd.fst, t.snd.snd)) (Al.joinB (alOf (f1, f2, f3))
    (List.drop (goesF f2 ((l.getD (↑p.fst : Int).toNat ([], [], [], false)).fst, (l.getD (↑p.fst : Int).toNat ([], [], [], false)).snd.fst, (l.getD (↑p.fst : Int).toNat ([], [], [],
    false)).snd.snd.fst, (l.getD (↑p.fst : Int).toNat ([], [], [], false)).snd.snd.snd) (Al.readB (alOf (f1, f2, f3)) s).fst).fst.toNat (List.take (↑(Al.readB (alOf (f1, f2, f3)) s).fst.length :
    Int).toNat (Al.readB (alOf (f1, f2, f3)) s).fst))).fst).fst.length ∧ inFirst f2 (rsOf (r1, r2, l) (f1, f2, f3)) (wOf (f1, f2, f3) s) l (Rul.writingsB (r1, r2, l) (alOf (f1, f2, f3)) (alOf t)
    s).fst (↑p.fst : Int).toNat p_1.snd ∧ ∀ (j : Nat), j < (Rul.writingsB (r1, r2, l) (alOf (f1, f2, f3)) (alOf t) s).fst.length → (∃ (p' : Nat), p' < p_1.fst ∧ (Rul.writingsB (r1, r2, l) (alOf
    (f1, f2, f3)) (alOf t) s).fst.getD j [] = (ruleAt l (↑p.fst : Int).toNat).snd.fst ++ (Rul.writingsB (r1, r2, l) (alOf (f1, f2, f3)) (alOf (t.fst, t.snd.fst, t.snd.snd)) (Al.joinB (alOf (f1,
    f2, f3)) (List.drop (goesF f2 ((l.getD (↑p.fst : Int).toNat ([], [], [], false)).fst, (l.getD (↑p.fst : Int).toNat ([], [], [], false)).snd.fst, (l.getD (↑p.fst : Int).toNat ([], [], [],
    false)).snd.snd.fst, (l.getD (↑p.fst : Int).toNat ([], [], [], false)).snd.snd.snd) (Al.readB (alOf (f1, f2, f3)) s).fst).fst.toNat (List.take (↑(Al.readB (alOf (f1, f2, f3)) s).fst.length :
    Int).toNat (Al.readB (alOf (f1, f2, f3)) s).fst))).fst).fst.getD p' []) → p_1.snd.getD j false = true) → bif decide ((↑p_1.fst : Int) < (↑(Rul.writingsB (r1, r2, l) (alOf (f1, f2, f3)) (alOf
    (t.fst, t.snd.fst, t.snd.snd)) (Al.joinB (alOf (f1, f2, f3)) (List.drop (goesF f2 ((l.getD (↑p.fst : Int).toNat ([], [], [], false)).fst, (l.getD (↑p.fst : Int).toNat ([], [], [],
    false)).snd.fst, (l.getD (↑p.fst : Int).toNat ([], [], [], false)).snd.snd.fst, (l.getD (↑p.fst : Int).toNat ([], [], [], false)).snd.snd.snd) (Al.readB (alOf (f1, f2, f3)) s).fst).fst.toNat
    (List.take (↑(Al.readB (alOf (f1, f2, f3)) s).fst.length : Int).toNat (Al.readB (alOf (f1, f2, f3)) s).fst))).fst).fst.length : Int)) then ((0 : Int) ≤ (↑p.fst : Int) ∧ (↑p.fst : Int) <
    (↑l.length : Int)) ∧ ((0 : Int) ≤ (↑p_1.fst : Int) ∧ (↑p_1.fst : Int) < (↑(Rul.writingsB (r1, r2, l) (alOf (f1, f2, f3)) (alOf (t.fst, t.snd.fst, t.snd.snd)) (Al.joinB (alOf (f1, f2, f3))
    (List.drop (goesF f2 ((l.getD (↑p.fst : Int).toNat ([], [], [], false)).fst, (l.getD (↑p.fst : Int).toNat ([], [], [], false)).snd.fst, (l.getD (↑p.fst : Int).toNat ([], [], [],
    false)).snd.snd.fst, (l.getD (↑p.fst : Int).toNat ([], [], [], false)).snd.snd.snd) (Al.readB (alOf (f1, f2, f3)) s).fst).fst.toNat (List.take (↑(Al.readB (alOf (f1, f2, f3)) s).fst.length :
    Int).toNat (Al.readB (alOf (f1, f2, f3)) s).fst))).fst).fst.length : Int)) ∧ (l.getD (↑p.fst : Int).toNat ([], [], [], false)).snd.fst.length + ((Rul.writingsB (r1, r2, l) (alOf (f1, f2,
    f3)) (alOf (t.fst, t.snd.fst, t.snd.snd)) (Al.joinB (alOf (f1, f2, f3)) (List.drop (goesF f2 ((l.getD (↑p.fst : Int).toNat ([], [], [], false)).fst, (l.getD (↑p.fst : Int).toNat ([], [], [],
    false)).snd.fst, (l.getD (↑p.fst : Int).toNat ([], [], [], false)).snd.snd.fst, (l.getD (↑p.fst : Int).toNat ([], [], [], false)).snd.snd.snd) (Al.readB (alOf (f1, f2, f3)) s).fst).fst.toNat
    (List.take (↑(Al.readB (alOf (f1, f2, f3)) s).fst.length : Int).toNat (Al.readB (alOf (f1, f2, f3)) s).fst))).fst).fst.getD (↑p_1.fst : Int).toNat []).length ≤ (9223372036854775807 : Nat) ∧
    (Rul.writingsB (r1, r2, l) (alOf (f1, f2, f3)) (alOf (t.fst, t.snd.fst, t.snd.snd)) s).fst.length ≤ (1000000000 : Nat) ∧ bif decide (findI ((l.getD (↑p.fst : Int).toNat ([], [], [],
    false)).snd.fst ++ (Rul.writingsB (r1, r2, l) (alOf (f1, f2, f3)) (alOf (t.fst, t.snd.fst, t.snd.snd)) (Al.joinB (alOf (f1, f2, f3)) (List.drop (goesF f2 ((l.getD (↑p.fst : Int).toNat ([],
    [], [], false)).fst, (l.getD (↑p.fst : Int).toNat ([], [], [], false)).snd.fst, (l.getD (↑p.fst : Int).toNat ([], [], [], false)).snd.snd.fst, (l.getD (↑p.fst : Int).toNat ([], [], [],
    false)).snd.snd.snd) (Al.readB (alOf (f1, f2, f3)) s).fst).fst.toNat (List.take (↑(Al.readB (alOf (f1, f2, f3)) s).fst.length : Int).toNat (Al.readB (alOf (f1, f2, f3))
    s).fst))).fst).fst.getD (↑p_1.fst : Int).toNat []) (Rul.writingsB (r1, r2, l) (alOf (f1, f2, f3)) (alOf (t.fst, t.snd.fst, t.snd.snd)) s).fst (0 : Int) < (0 : Int)) then false = true else
    ((0 : Int) ≤ findI ((l.getD (↑p.fst : Int).toNat ([], [], [], false)).snd.fst ++ (Rul.writingsB (r1, r2, l) (alOf (f1, f2, f3)) (alOf (t.fst, t.snd.fst, t.snd.snd)) (Al.joinB (alOf (f1, f2,
    f3)) (List.drop (goesF f2 ((l.getD (↑p.fst : Int).toNat ([], [], [], false)).fst, (l.getD (↑p.fst : Int).toNat ([], [], [], false)).snd.fst, (l.getD (↑p.fst : Int).toNat ([], [], [],
    false)).snd.snd.fst, (l.getD (↑p.fst : Int).toNat ([], [], [], false)).snd.snd.snd) (Al.readB (alOf (f1, f2, f3)) s).fst).fst.toNat (List.take (↑(Al.readB (alOf (f1, f2, f3)) s).fst.length :
    Int).toNat (Al.readB (alOf (f1, f2, f3)) s).fst))).fst).fst.getD (↑p_1.fst : Int).toNat []) (Rul.writingsB (r1, r2, l) (alOf (f1, f2, f3)) (alOf (t.fst, t.snd.fst, t.snd.snd)) s).fst (0 :
    Int) ∧ findI ((l.getD (↑p.fst : Int).toNat ([], [], [], false)).snd.fst ++ (Rul.writingsB (r1, r2, l) (alOf (f1, f2, f3)) (alOf (t.fst, t.snd.fst, t.snd.snd)) (Al.joinB (alOf (f1, f2, f3))
    (List.drop (goesF f2 ((l.getD (↑p.fst : Int).toNat ([], [], [], false)).fst, (l.getD (↑p.fst : Int).toNat ([], [], [], false)).snd.fst, (l.getD (↑p.fst : Int).toNat ([], [], [],
    false)).snd.snd.fst, (l.getD (↑p.fst : Int).toNat ([], [], [], false)).snd.snd.snd) (Al.readB (alOf (f1, f2, f3)) s).fst).fst.toNat (List.take (↑(Al.readB (alOf (f1, f2, f3)) s).fst.length :
    Int).toNat (Al.readB (alOf (f1, f2, f3)) s).fst))).fst).fst.getD (↑p_1.fst : Int).toNat []) (Rul.writingsB (r1, r2, l) (alOf (f1, f2, f3)) (alOf (t.fst, t.snd.fst, t.snd.snd)) s).fst (0 :
    Int) < (↑p_1.snd.length : Int)) ∧ bif ((0 : Nat) + (93 : Nat)).beq ((0 : Nat) + (93 : Nat)) && Nat.beq (1 : Nat) (1 : Nat) && (findI ((l.getD (↑p.fst : Int).toNat ([], [], [],
    false)).snd.fst ++ (Rul.writingsB (r1, r2, l) (alOf (f1, f2, f3)) (alOf (t.fst, t.snd.fst, t.snd.snd)) (Al.joinB (alOf (f1, f2, f3)) (List.drop (goesF f2 ((l.getD (↑p.fst : Int).toNat ([],
    [], [], false)).fst, (l.getD (↑p.fst : Int).toNat ([], [], [], false)).snd.fst, (l.getD (↑p.fst : Int).toNat ([], [], [], false)).snd.snd.fst, (l.getD (↑p.fst : Int).toNat ([], [], [],
    false)).snd.snd.snd) (Al.readB (alOf (f1, f2, f3)) s).fst).fst.toNat (List.take (↑(Al.readB (alOf (f1, f2, f3)) s).fst.length : Int).toNat (Al.readB (alOf (f1, f2, f3))
    s).fst))).fst).fst.getD (↑p_1.fst : Int).toNat []) (Rul.writingsB (r1, r2, l) (alOf (f1, f2, f3)) (alOf (t.fst, t.snd.fst, t.snd.snd)) s).fst (0 : Int)).toNat.beq (findI ((l.getD (↑p.fst :
    Int).toNat ([], [], [], false)).snd.fst ++ (Rul.writingsB (r1, r2, l) (alOf (f1, f2, f3)) (alOf (t.fst, t.snd.fst, t.snd.snd)) (Al.joinB (alOf (f1, f2, f3)) (List.drop (goesF f2 ((l.getD
    (↑p.fst : Int).toNat ([], [], [], false)).fst, (l.getD (↑p.fst : Int).toNat ([], [], [], false)).snd.fst, (l.getD (↑p.fst : Int).toNat ([], [], [], false)).snd.snd.fst, (l.getD (↑p.fst :
    Int).toNat ([], [], [], false)).snd.snd.snd) (Al.readB (alOf (f1, f2, f3)) s).fst).fst.toNat (List.take (↑(Al.readB (alOf (f1, f2, f3)) s).fst.length : Int).toNat (Al.readB (alOf (f1, f2,
    f3)) s).fst))).fst).fst.getD (↑p_1.fst : Int).toNat []) (Rul.writingsB (r1, r2, l) (alOf (f1, f2, f3)) (alOf (t.fst, t.snd.fst, t.snd.snd)) s).fst (0 : Int)).toNat && Nat.beq (0 : Nat) (0 :
    Nat) then ((-9223372036854775808 : Int) ≤ (↑p_1.fst : Int) + (1 : Int) ∧ (↑p_1.fst : Int) + (1 : Int) ≤ (9223372036854775807 : Int)) ∧ ∃ (p' : Nat × List Bool), (p'.fst ≤ (Rul.writingsB (r1,
    r2, l) (alOf (f1, f2, f3)) (alOf (t.fst, t.snd.fst, t.snd.snd)) (Al.joinB (alOf (f1, f2, f3)) (List.drop (goesF f2 ((l.getD (↑p.fst : Int).toNat ([], [], [], false)).fst, (l.getD (↑p.fst :
    Int).toNat ([], [], [], false)).snd.fst, (l.getD (↑p.fst : Int).toNat ([], [], [], false)).snd.snd.fst, (l.getD (↑p.fst : Int).toNat ([], [], [], false)).snd.snd.snd) (Al.readB (alOf (f1,
    f2, f3)) s).fst).fst.toNat (List.take (↑(Al.readB (alOf (f1, f2, f3)) s).fst.length : Int).toNat (Al.readB (alOf (f1, f2, f3)) s).fst))).fst).fst.length ∧ inFirst f2 (rsOf (r1, r2, l) (f1,
    f2, f3)) (wOf (f1, f2, f3) s) l (Rul.writingsB (r1, r2, l) (alOf (f1, f2, f3)) (alOf t) s).fst (↑p.fst : Int).toNat p'.snd ∧ ∀ (j : Nat), j < (Rul.writingsB (r1, r2, l) (alOf (f1, f2, f3))
    (alOf t) s).fst.length → (∃ (p'_1 : Nat), p'_1 < p'.fst ∧ (Rul.writingsB (r1, r2, l) (alOf (f1, f2, f3)) (alOf t) s).fst.getD j [] = (ruleAt l (↑p.fst : Int).toNat).snd.fst ++ (Rul.writingsB
    (r1, r2, l) (alOf (f1, f2, f3)) (alOf (t.fst, t.snd.fst, t.snd.snd)) (Al.joinB (alOf (f1, f2, f3)) (List.drop (goesF f2 ((l.getD (↑p.fst : Int).toNat ([], [], [], false)).fst, (l.getD
    (↑p.fst : Int).toNat ([], [], [], false)).snd.fst, (l.getD (↑p.fst : Int).toNat ([], [], [], false)).snd.snd.fst, (l.getD (↑p.fst : Int).toNat ([], [], [], false)).snd.snd.snd) (Al.readB
    (alOf (f1, f2, f3)) s).fst).fst.toNat (List.take (↑(Al.readB (alOf (f1, f2, f3)) s).fst.length : Int).toNat (Al.readB (alOf (f1, f2, f3)) s).fst))).fst).fst.getD p'_1 []) → p'.snd.getD j
    false = true) ∧ (Rul.writingsB (r1, r2, l) (alOf (f1, f2, f3)) (alOf (t.fst, t.snd.fst, t.snd.snd)) (Al.joinB (alOf (f1, f2, f3)) (List.drop (goesF f2 ((l.getD (↑p.fst : Int).toNat ([], [],
    [], false)).fst, (l.getD (↑p.fst : Int).toNat ([], [], [], false)).snd.fst, (l.getD (↑p.fst : Int).toNat ([], [], [], false)).snd.snd.fst, (l.getD (↑p.fst : Int).toNat ([], [], [],
    false)).snd.snd.snd) (Al.readB (alOf (f1, f2, f3)) s).fst).fst.toNat (List.take (↑(Al.readB (alOf (f1, f2, f3)) s).fst.length : Int).toNat (Al.readB (alOf (f1, f2, f3))
    s).fst))).fst).fst.length - p'.fst < (Rul.writingsB (r1, r2, l) (alOf (f1, f2, f3)) (alOf (t.fst, t.snd.fst, t.snd.snd)) (Al.joinB (alOf (f1, f2, f3)) (List.drop (goesF f2 ((l.getD (↑p.fst :
    Int).toNat ([], [], [], false)).fst, (l.getD (↑p.fst : Int).toNat ([], [], [], false)).snd.fst, (l.getD (↑p.fst : Int).toNat ([], [], [], false)).snd.snd.fst, (l.getD (↑p.fst : Int).toNat
    ([], [], [], false)).snd.snd.snd) (Al.readB (alOf (f1, f2, f3)) s).fst).fst.toNat (List.take (↑(Al.readB (alOf (f1, f2, f3)) s).fst.length : Int).toNat (Al.readB (alOf (f1, f2, f3))
    s).fst))).fst).fst.length - p_1.fst ∧ ((↑p_1.fst : Int) + (1 : Int) = (↑p'.fst : Int) ∧ s = s ∧ True ∧ True ∧ True ∧ true = true ∧ (Rul.writingsB (r1, r2, l) (alOf (f1, f2, f3)) (alOf
    (t.fst, t.snd.fst, t.snd.snd)) s).fst = (Rul.writingsB (r1, r2, l) (alOf (f1, f2, f3)) (alOf (t.fst, t.snd.fst, t.snd.snd)) s).fst ∧ (Al.readB (alOf (f1, f2, f3)) s).fst = (Al.readB (alOf
    (f1, f2, f3)) s).fst ∧ True ∧ (↑p.fst : Int) = (↑p.fst : Int) ∧ (goesF f2 ((l.getD (↑p.fst : Int).toNat ([], [], [], false)).fst, (l.getD (↑p.fst : Int).toNat ([], [], [], false)).snd.fst,
    (l.getD (↑p.fst : Int).toNat ([], [], [], false)).snd.snd.fst, (l.getD (↑p.fst : Int).toNat ([], [], [], false)).snd.snd.snd) (Al.readB (alOf (f1, f2, f3)) s).fst).fst = (goesF f2 ((l.getD
    (↑p.fst : Int).toNat ([], [], [], false)).fst, (l.getD (↑p.fst : Int).toNat ([], [], [], false)).snd.fst, (l.getD (↑p.fst : Int).toNat ([], [], [], false)).snd.snd.fst, (l.getD (↑p.fst :
    Int).toNat ([], [], [], false)).snd.snd.snd) (Al.readB (alOf (f1, f2, f3)) s).fst).fst ∧ (Rul.writingsB (r1, r2, l) (alOf (f1, f2, f3)) (alOf (t.fst, t.snd.fst, t.snd.snd)) (Al.joinB (alOf
    (f1, f2, f3)) (List.drop (goesF f2 ((l.getD (↑p.fst : Int).toNat ([], [], [], false)).fst, (l.getD (↑p.fst : Int).toNat ([], [], [], false)).snd.fst, (l.getD (↑p.fst : Int).toNat ([], [],
    [], false)).snd.snd.fst, (l.getD (↑p.fst : Int).toNat ([], [], [], false)).snd.snd.snd) (Al.readB (alOf (f1, f2, f3)) s).fst).fst.toNat (List.take (↑(Al.readB (alOf (f1, f2, f3))
    s).fst.length : Int).toNat (Al.readB (alOf (f1, f2, f3)) s).fst))).fst).fst = (Rul.writingsB (r1, r2, l) (alOf (f1, f2, f3)) (alOf (t.fst, t.snd.fst, t.snd.snd)) (Al.joinB (alOf (f1, f2,
    f3)) (List.drop (goesF f2 ((l.getD (↑p.fst : Int).toNat ([], [], [], false)).fst, (l.getD (↑p.fst : Int).toNat ([], [], [], false)).snd.fst, (l.getD (↑p.fst : Int).toNat ([], [], [],
    false)).snd.snd.fst, (l.getD (↑p.fst : Int).toNat ([], [], [], false)).snd.snd.snd) (Al.readB (alOf (f1, f2, f3)) s).fst).fst.toNat (List.take (↑(Al.readB (alOf (f1, f2, f3)) s).fst.length :
    Int).toNat (Al.readB (alOf (f1, f2, f3)) s).fst))).fst).fst ∧ True) ∧ ((r1 = r1 ∧ r2 = r2 ∧ l = l ∧ True) ∧ (f1 = f1 ∧ f2 = f2 ∧ f3 = f3 ∧ True) ∧ (t.fst = t.fst ∧ t.snd.fst = t.snd.fst ∧
    t.snd.snd = t.snd.snd ∧ True) ∧ True) ∧ (p_1.snd.set (findI ((l.getD (↑p.fst : Int).toNat ([], [], [], false)).snd.fst ++ (Rul.writingsB (r1, r2, l) (alOf (f1, f2, f3)) (alOf (t.fst,
    t.snd.fst, t.snd.snd)) (Al.joinB (alOf (f1, f2, f3)) (List.drop (goesF f2 ((l.getD (↑p.fst : Int).toNat ([], [], [], false)).fst, (l.getD (↑p.fst : Int).toNat ([], [], [], false)).snd.fst,
    (l.getD (↑p.fst : Int).toNat ([], [], [], false)).snd.snd.fst, (l.getD (↑p.fst : Int).toNat ([], [], [], false)).snd.snd.snd) (Al.readB (alOf (f1, f2, f3)) s).fst).fst.toNat (List.take
    (↑(Al.readB (alOf (f1, f2, f3)) s).fst.length : Int).toNat (Al.readB (alOf (f1, f2, f3)) s).fst))).fst).fst.getD (↑p_1.fst : Int).toNat []) (Rul.writingsB (r1, r2, l) (alOf (f1, f2, f3))
    (alOf (t.fst, t.snd.fst, t.snd.snd)) s).fst (0 : Int)).toNat true = p'.snd ∧ ([[]] : List (List UInt8)) = ([[]] : List (List UInt8)) ∧ True) ∧ True ∧ True ∧ True ∧ True ∧ True else False else ((-9223372036854775808 : Int) ≤ (↑p.fst :
    Int) + (1 : Int) ∧ (↑p.fst : Int) + (1 : Int) ≤ (9223372036854775807 : Int)) ∧ ∃ (p' : Nat × List Bool), (p'.fst ≤ l.length ∧ inFirst f2 (rsOf (r1, r2, l) (f1, f2, f3)) (wOf (f1, f2, f3) s)
    l (Rul.writingsB (r1, r2, l) (alOf (f1, f2, f3)) (alOf t) s).fst p'.fst p'.snd) ∧ l.length - p'.fst < l.length - p.fst ∧ ((↑p.fst : Int) + (1 : Int) = (↑p'.fst : Int) ∧ s = s ∧ True ∧ True ∧
    True ∧ true = true ∧ (Rul.writingsB (r1, r2, l) (alOf (f1, f2, f3)) (alOf (t.fst, t.snd.fst, t.snd.snd)) s).fst = (Rul.writingsB (r1, r2, l) (alOf (f1, f2, f3)) (alOf (t.fst, t.snd.fst,
    t.snd.snd)) s).fst ∧ (Al.readB (alOf (f1, f2, f3)) s).fst = (Al.readB (alOf (f1, f2, f3)) s).fst ∧ True ∧ True) ∧ ((r1 = r1 ∧ r2 = r2 ∧ l = l ∧ True) ∧ (f1 = f1 ∧ f2 = f2 ∧ f3 = f3 ∧ True) ∧
    (t.fst = t.fst ∧ t.snd.fst = t.snd.fst ∧ t.snd.snd = t.snd.snd ∧ True) ∧ True) ∧ (p_1.snd = p'.snd ∧ True) ∧ True ∧ True ∧ True ∧ True ∧ True else (∃ (p' : Nat × List Bool), (p'.fst ≤
    ([[]] : List (List UInt8)).length ∧ inFirst f2 (rsOf (r1, r2, l) (f1, f2, f3)) (wOf (f1, f2, f3) s) l (Rul.writingsB (r1, r2, l) (alOf (f1, f2, f3)) (alOf t) s).fst (↑p.fst : Int).toNat p'.snd ∧ ∀ (j : Nat), j <
    (Rul.writingsB (r1, r2, l) (alOf (f1, f2, f3)) (alOf t) s).fst.length → (∃ (p'_1 : Nat), p'_1 < p'.fst ∧ (Rul.writingsB (r1, r2, l) (alOf (f1, f2, f3)) (alOf t) s).fst.getD j [] = (ruleAt l
    (↑p.fst : Int).toNat).snd.fst ++ ([[]] : List (List UInt8)).getD p'_1 []) → p'.snd.getD j false = true) ∧ ((0 : Int) = (↑p'.fst : Int) ∧ s = s ∧ True ∧ True ∧ True ∧ true = true ∧ (Rul.writingsB (r1, r2, l) (alOf
    (f1, f2, f3)) (alOf (t.fst, t.snd.fst, t.snd.snd)) s).fst = (Rul.writingsB (r1, r2, l) (alOf (f1, f2, f3)) (alOf (t.fst, t.snd.fst, t.snd.snd)) s).fst ∧ (Al.readB (alOf (f1, f2, f3)) s).fst
    = (Al.readB (alOf (f1, f2, f3)) s).fst ∧ True ∧ (↑p.fst : Int) = (↑p.fst : Int) ∧ (goesF f2 ((l.getD (↑p.fst : Int).toNat ([], [], [], false)).fst, (l.getD (↑p.fst : Int).toNat ([], [], [],
    false)).snd.fst, (l.getD (↑p.fst : Int).toNat ([], [], [], false)).snd.snd.fst, (l.getD (↑p.fst : Int).toNat ([], [], [], false)).snd.snd.snd) (Al.readB (alOf (f1, f2, f3)) s).fst).fst =
    (goesF f2 ((l.getD (↑p.fst : Int).toNat ([], [], [], false)).fst, (l.getD (↑p.fst : Int).toNat ([], [], [], false)).snd.fst, (l.getD (↑p.fst : Int).toNat ([], [], [], false)).snd.snd.fst,
    (l.getD (↑p.fst : Int).toNat ([], [], [], false)).snd.snd.snd) (Al.readB (alOf (f1, f2, f3)) s).fst).fst ∧ True ∧ True) ∧ ((r1 = r1 ∧ r2 = r2 ∧ l = l ∧ True) ∧ (f1 = f1 ∧ f2 = f2 ∧ f3 = f3 ∧
    True) ∧ (t.fst = t.fst ∧ t.snd.fst = t.snd.fst ∧ t.snd.snd = t.snd.snd ∧ True) ∧ True) ∧ (p.snd = p'.snd ∧ ([[]] : List (List UInt8)) = ([[]] : List (List UInt8)) ∧ True) ∧ True ∧ True ∧ True ∧ True ∧ True) ∧ ∀ (p_1 : Nat × List
    Bool), (p_1.fst ≤ ([[]] : List (List UInt8)).length ∧ inFirst f2 (rsOf (r1, r2, l) (f1, f2, f3)) (wOf (f1, f2, f3) s) l (Rul.writingsB (r1, r2, l) (alOf (f1, f2, f3)) (alOf t) s).fst (↑p.fst : Int).toNat p_1.snd
    ∧ ∀ (j : Nat), j < (Rul.writingsB (r1, r2, l) (alOf (f1, f2, f3)) (alOf t) s).fst.length → (∃ (p' : Nat), p' < p_1.fst ∧ (Rul.writingsB (r1, r2, l) (alOf (f1, f2, f3)) (alOf t) s).fst.getD j
    [] = (ruleAt l (↑p.fst : Int).toNat).snd.fst ++ ([[]] : List (List UInt8)).getD p' []) → p_1.snd.getD j false = true) → bif decide ((↑p_1.fst : Int) < (↑([[]] : List (List UInt8)).length : Int)) then ((0 : Int) ≤ (↑p.fst : Int) ∧
    (↑p.fst : Int) < (↑l.length : Int)) ∧ ((0 : Int) ≤ (↑p_1.fst : Int) ∧ (↑p_1.fst : Int) < (↑([[]] : List (List UInt8)).length : Int)) ∧ (l.getD (↑p.fst : Int).toNat ([], [], [], false)).snd.fst.length + (([[]] : List (List UInt8)).getD
    (↑p_1.fst : Int).toNat []).length ≤ (9223372036854775807 : Nat) ∧ (Rul.writingsB (r1, r2, l) (alOf (f1, f2, f3)) (alOf (t.fst, t.snd.fst, t.snd.snd)) s).fst.length ≤ (1000000000 : Nat) ∧ bif
    decide (findI ((l.getD (↑p.fst : Int).toNat ([], [], [], false)).snd.fst ++ ([[]] : List (List UInt8)).getD (↑p_1.fst : Int).toNat []) (Rul.writingsB (r1, r2, l) (alOf (f1, f2, f3)) (alOf (t.fst, t.snd.fst,
    t.snd.snd)) s).fst (0 : Int) < (0 : Int)) then false = true else ((0 : Int) ≤ findI ((l.getD (↑p.fst : Int).toNat ([], [], [], false)).snd.fst ++ ([[]] : List (List UInt8)).getD (↑p_1.fst : Int).toNat [])
    (Rul.writingsB (r1, r2, l) (alOf (f1, f2, f3)) (alOf (t.fst, t.snd.fst, t.snd.snd)) s).fst (0 : Int) ∧ findI ((l.getD (↑p.fst : Int).toNat ([], [], [], false)).snd.fst ++ ([[]] : List (List UInt8)).getD (↑p_1.fst
    : Int).toNat []) (Rul.writingsB (r1, r2, l) (alOf (f1, f2, f3)) (alOf (t.fst, t.snd.fst, t.snd.snd)) s).fst (0 : Int) < (↑p_1.snd.length : Int)) ∧ bif ((0 : Nat) + (93 : Nat)).beq ((0 : Nat)
    + (93 : Nat)) && Nat.beq (1 : Nat) (1 : Nat) && (findI ((l.getD (↑p.fst : Int).toNat ([], [], [], false)).snd.fst ++ ([[]] : List (List UInt8)).getD (↑p_1.fst : Int).toNat []) (Rul.writingsB (r1, r2, l) (alOf
    (f1, f2, f3)) (alOf (t.fst, t.snd.fst, t.snd.snd)) s).fst (0 : Int)).toNat.beq (findI ((l.getD (↑p.fst : Int).toNat ([], [], [], false)).snd.fst ++ ([[]] : List (List UInt8)).getD (↑p_1.fst : Int).toNat [])
    (Rul.writingsB (r1, r2, l) (alOf (f1, f2, f3)) (alOf (t.fst, t.snd.fst, t.snd.snd)) s).fst (0 : Int)).toNat && Nat.beq (0 : Nat) (0 : Nat) then ((-9223372036854775808 : Int) ≤ (↑p_1.fst :
    Int) + (1 : Int) ∧ (↑p_1.fst : Int) + (1 : Int) ≤ (9223372036854775807 : Int)) ∧ ∃ (p' : Nat × List Bool), (p'.fst ≤ ([[]] : List (List UInt8)).length ∧ inFirst f2 (rsOf (r1, r2, l) (f1, f2, f3)) (wOf (f1, f2,
    f3) s) l (Rul.writingsB (r1, r2, l) (alOf (f1, f2, f3)) (alOf t) s).fst (↑p.fst : Int).toNat p'.snd ∧ ∀ (j : Nat), j < (Rul.writingsB (r1, r2, l) (alOf (f1, f2, f3)) (alOf t) s).fst.length →
    (∃ (p'_1 : Nat), p'_1 < p'.fst ∧ (Rul.writingsB (r1, r2, l) (alOf (f1, f2, f3)) (alOf t) s).fst.getD j [] = (ruleAt l (↑p.fst : Int).toNat).snd.fst ++ ([[]] : List (List UInt8)).getD p'_1 []) → p'.snd.getD j
    false = true) ∧ ([[]] : List (List UInt8)).length - p'.fst < ([[]] : List (List UInt8)).length - p_1.fst ∧ ((↑p_1.fst : Int) + (1 : Int) = (↑p'.fst : Int) ∧ s = s ∧ True ∧ True ∧ True ∧ true = true ∧ (Rul.writingsB (r1, r2, l) (alOf
    (f1, f2, f3)) (alOf (t.fst, t.snd.fst, t.snd.snd)) s).fst = (Rul.writingsB (r1, r2, l) (alOf (f1, f2, f3)) (alOf (t.fst, t.snd.fst, t.snd.snd)) s).fst ∧ (Al.readB (alOf (f1, f2, f3)) s).fst
    = (Al.readB (alOf (f1, f2, f3)) s).fst ∧ True ∧ (↑p.fst : Int) = (↑p.fst : Int) ∧ (goesF f2 ((l.getD (↑p.fst : Int).toNat ([], [], [], false)).fst, (l.getD (↑p.fst : Int).toNat ([], [], [],
    false)).snd.fst, (l.getD (↑p.fst : Int).toNat ([], [], [], false)).snd.snd.fst, (l.getD (↑p.fst : Int).toNat ([], [], [], false)).snd.snd.snd) (Al.readB (alOf (f1, f2, f3)) s).fst).fst =
    (goesF f2 ((l.getD (↑p.fst : Int).toNat ([], [], [], false)).fst, (l.getD (↑p.fst : Int).toNat ([], [], [], false)).snd.fst, (l.getD (↑p.fst : Int).toNat ([], [], [], false)).snd.snd.fst,
    (l.getD (↑p.fst : Int).toNat ([], [], [], false)).snd.snd.snd) (Al.readB (alOf (f1, f2, f3)) s).fst).fst ∧ True ∧ True) ∧ ((r1 = r1 ∧ r2 = r2 ∧ l = l ∧ True) ∧ (f1 = f1 ∧ f2 = f2 ∧ f3 = f3 ∧
    True) ∧ (t.fst = t.fst ∧ t.snd.fst = t.snd.fst ∧ t.snd.snd = t.snd.snd ∧ True) ∧ True) ∧ (p_1.snd.set (findI ((l.getD (↑p.fst : Int).toNat ([], [], [], false)).snd.fst ++ ([[]] : List (List UInt8)).getD (↑p_1.fst
    : Int).toNat []) (Rul.writingsB (r1, r2, l) (alOf (f1, f2, f3)) (alOf (t.fst, t.snd.fst, t.snd.snd)) s).fst (0 : Int)).toNat true = p'.snd ∧ ([[]] : List (List UInt8)) = ([[]] : List (List UInt8)) ∧ True) ∧ True ∧ True ∧ True ∧ True ∧
    True else False else ((-9223372036854775808 : Int) ≤ (↑p.fst : Int) + (1 : Int) ∧ (↑p.fst : Int) + (1 : Int) ≤ (9223372036854775807 : Int)) ∧ ∃ (p' : Nat × List Bool), (p'.fst ≤ l.length ∧
    inFirst f2 (rsOf (r1, r2, l) (f1, f2, f3)) (wOf (f1, f2, f3) s) l (Rul.writingsB (r1, r2, l) (alOf (f1, f2, f3)) (alOf t) s).fst p'.fst p'.snd) ∧ l.length - p'.fst < l.length - p.fst ∧
    ((↑p.fst : Int) + (1 : Int) = (↑p'.fst : Int) ∧ s = s ∧ True ∧ True ∧ True ∧ true = true ∧ (Rul.writingsB (r1, r2, l) (alOf (f1, f2, f3)) (alOf (t.fst, t.snd.fst, t.snd.snd)) s).fst =
    (Rul.writingsB (r1, r2, l) (alOf (f1, f2, f3)) (alOf (t.fst, t.snd.fst, t.snd.snd)) s).fst ∧ (Al.readB (alOf (f1, f2, f3)) s).fst = (Al.readB (alOf (f1, f2, f3)) s).fst ∧ True ∧ True) ∧ ((r1
    = r1 ∧ r2 = r2 ∧ l = l ∧ True) ∧ (f1 = f1 ∧ f2 = f2 ∧ f3 = f3 ∧ True) ∧ (t.fst = t.fst ∧ t.snd.fst = t.snd.fst ∧ t.snd.snd = t.snd.snd ∧ True) ∧ True) ∧ (p_1.snd = p'.snd ∧ True) ∧ True ∧
    True ∧ True ∧ True ∧ True else (∃ (p' : Nat), p' ≤ (Rul.writingsB (r1, r2, l) (alOf (f1, f2, f3)) (alOf t) s).fst.length ∧ ((0 : Int) = (↑p' : Int) ∧ true = true ∧ (Rul.writingsB (r1, r2, l)
    (alOf (f1, f2, f3)) (alOf (t.fst, t.snd.fst, t.snd.snd)) s).fst = (Rul.writingsB (r1, r2, l) (alOf (f1, f2, f3)) (alOf (t.fst, t.snd.fst, t.snd.snd)) s).fst ∧ True ∧ True) ∧ True ∧ (p.snd =
    p.snd ∧ True) ∧ True ∧ True ∧ True ∧ True ∧ True) ∧ ∀ (p_1 : Nat), p_1 ≤ (Rul.writingsB (r1, r2, l) (alOf (f1, f2, f3)) (alOf t) s).fst.length → bif decide ((↑p_1 : Int) < (↑p.snd.length :
    Int)) then ((0 : Int) ≤ (↑p_1 : Int) ∧ (↑p_1 : Int) < (↑p.snd.length : Int)) ∧ bif !p.snd.getD (↑p_1 : Int).toNat false then false = true else bif decide ((0 : Int) < (↑p_1 : Int)) then
    ((-9223372036854775808 : Int) ≤ (↑p_1 : Int) - (1 : Int) ∧ (↑p_1 : Int) - (1 : Int) ≤ (9223372036854775807 : Int)) ∧ ((0 : Int) ≤ (↑p_1 : Int) - (1 : Int) ∧ (↑p_1 : Int) - (1 : Int) <
    (↑(Rul.writingsB (r1, r2, l) (alOf (f1, f2, f3)) (alOf (t.fst, t.snd.fst, t.snd.snd)) s).fst.length : Int)) ∧ ((0 : Int) ≤ (↑p_1 : Int) ∧ (↑p_1 : Int) < (↑(Rul.writingsB (r1, r2, l) (alOf
    (f1, f2, f3)) (alOf (t.fst, t.snd.fst, t.snd.snd)) s).fst.length : Int)) ∧ bif !Op.bytesLess ((Rul.writingsB (r1, r2, l) (alOf (f1, f2, f3)) (alOf (t.fst, t.snd.fst, t.snd.snd)) s).fst.getD
    ((↑p_1 : Int) - (1 : Int)).toNat []) ((Rul.writingsB (r1, r2, l) (alOf (f1, f2, f3)) (alOf (t.fst, t.snd.fst, t.snd.snd)) s).fst.getD (↑p_1 : Int).toNat []) then false = true else
    ((-9223372036854775808 : Int) ≤ (↑p_1 : Int) + (1 : Int) ∧ (↑p_1 : Int) + (1 : Int) ≤ (9223372036854775807 : Int)) ∧ ∃ (p' : Nat), p' ≤ (Rul.writingsB (r1, r2, l) (alOf (f1, f2, f3)) (alOf
    t) s).fst.length ∧ (Rul.writingsB (r1, r2, l) (alOf (f1, f2, f3)) (alOf t) s).fst.length - p' < (Rul.writingsB (r1, r2, l) (alOf (f1, f2, f3)) (alOf t) s).fst.length - p_1 ∧ ((↑p_1 : Int) +
    (1 : Int) = (↑p' : Int) ∧ true = true ∧ (Rul.writingsB (r1, r2, l) (alOf (f1, f2, f3)) (alOf (t.fst, t.snd.fst, t.snd.snd)) s).fst = (Rul.writingsB (r1, r2, l) (alOf (f1, f2, f3)) (alOf
    (t.fst, t.snd.fst, t.snd.snd)) s).fst ∧ True ∧ True) ∧ True ∧ (p.snd = p.snd ∧ True) ∧ True ∧ True ∧ True ∧ True ∧ True else ((-9223372036854775808 : Int) ≤ (↑p_1 : Int) + (1 : Int) ∧ (↑p_1
    : Int) + (1 : Int) ≤ (9223372036854775807 : Int)) ∧ ∃ (p' : Nat), p' ≤ (Rul.writingsB (r1, r2, l) (alOf (f1, f2, f3)) (alOf t) s).fst.length ∧ (Rul.writingsB (r1, r2, l) (alOf (f1, f2, f3))
    (alOf t) s).fst.length - p' < (Rul.writingsB (r1, r2, l) (alOf (f1, f2, f3)) (alOf t) s).fst.length - p_1 ∧ ((↑p_1 : Int) + (1 : Int) = (↑p' : Int) ∧ true = true ∧ (Rul.writingsB (r1, r2, l)
    (alOf (f1, f2, f3)) (alOf (t.fst, t.snd.fst, t.snd.snd)) s).fst = (Rul.writingsB (r1, r2, l) (alOf (f1, f2, f3)) (alOf (t.fst, t.snd.fst, t.snd.snd)) s).fst ∧ True ∧ True) ∧ True ∧ (p.snd =
    p.snd ∧ True) ∧ True ∧ True ∧ True ∧ True ∧ True else true = true
    /-CV-/ := by
  simp only [true_and, and_true, eq_self]
  obtain ⟨t1, t2, t3⟩ := t
  obtain ⟨g1, g2, g3, g4⟩ := h
  refine ⟨⟨g1, g2, g3⟩, bifP (fun _ => trivial) fun h1 => ?_⟩
  have h1 : (fewRB (r1, r2, l) && (fewAB (f1, f2, f3) && (fewAB (t1, t2, t3) && decide (s.length ≤ 100)))) = true := by
    have h1 : (!(fewRB (r1, r2, l) && (fewAB (f1, f2, f3) && (fewAB (t1, t2, t3) && decide (s.length ≤ 100))))) = false := h1
    simpa using h1
  simp only [Bool.and_eq_true, decide_eq_true_eq] at h1
  obtain ⟨k1, k2, k3, k4⟩ := h1
  have fr := few_of_fewRB k1
  have ff := few_of_fewAB k2
  have ft := few_of_fewAB k3
  have hm60 : ∀ x ∈ l, x.1.length ≤ 60 ∧ x.2.1.length ≤ 60 ∧ x.2.2.1.length ≤ 60 := fun x hx => by
    unfold fewRB at k1
    simp only [Bool.and_eq_true, List.all_eq_true] at k1
    have := k1.2.1 x hx
    unfold small60 at this
    simp only [Bool.and_eq_true, decide_eq_true_eq] at this
    exact this
  have hl90 : l.length ≤ 90 := by
    unfold fewRB at k1
    simp only [Bool.and_eq_true, decide_eq_true_eq] at k1
    exact k1.1
  refine ⟨⟨fr, ff, ft, by omega⟩, ⟨ff, by omega⟩, ?_⟩
  by_cases hv : Rul.validB (r1, r2, l) (alOf (f1, f2, f3)) (alOf (t1, t2, t3)) = true
  case neg =>
    have hv : Rul.validB (r1, r2, l) (alOf (f1, f2, f3)) (alOf (t1, t2, t3)) = false := by simpa using hv
    have hw : Rul.writingsB (r1, r2, l) (alOf (f1, f2, f3)) (alOf (t1, t2, t3)) s = ([], 1) := by
      unfold Rul.writingsB
      rw [hv]; rfl
    rw [hw, hv]
    refine bifP (fun _ => bifP (fun _ => bifP (fun _ => trivial) fun _ => bifP (fun _ => bifP (fun _ => trivial) fun _ => ⟨⟨fr, ff, ft⟩, rfl⟩) fun e => by cases e) fun e => by cases e) fun e => by cases e
  have hva : Al.validB (alOf (f1, f2, f3)) = true := by
    unfold Rul.validB at hv
    simp only [Bool.and_eq_true] at hv
    exact hv.2.1
  have hre : ∀ x, Al.readB (alOf (f1, f2, f3)) x = Al.readL f2 x := fun x => by unfold Al.readB; rw [if_pos hva]; rfl
  obtain ⟨hpos, hm9⟩ := Rul.pos_of hv
  have hpos : Rul.Pos (l.map (Rul.openR f2)) := hpos
  have hm9 : ∀ x ∈ l.map (Rul.openR f2), x.1.2.1.length ≤ 9 := hm9
  have hw0 : ∀ s, Rul.writingsB (r1, r2, l) (alOf (f1, f2, f3)) (alOf (t1, t2, t3)) s = if (Al.readL f2 s).2.1 == 0 then Rul.writeL (l.map (Rul.openR f2)) (Al.readL f2 s).1 else ([], 1) := fun s => by
    unfold Rul.writingsB
    rw [hv, Bool.true_and]; rfl
  by_cases hf : (Al.readL f2 s).2.1 = 0
  case neg =>
    have hw : Rul.writingsB (r1, r2, l) (alOf (f1, f2, f3)) (alOf (t1, t2, t3)) s = ([], 1) := by
      rw [hw0, if_neg (by rw [beq_iff_eq]; exact hf)]
    rw [hw, hre, bne_iff_ne.2 hf]
    refine bifP (fun _ => bifP (fun _ => bifP (fun _ => trivial) fun _ => bifP (fun _ => trivial) fun e => by cases e) fun e => by cases e) fun e => by cases e
  have hw1 : Rul.writingsB (r1, r2, l) (alOf (f1, f2, f3)) (alOf (t1, t2, t3)) s = Rul.writeL (l.map (Rul.openR f2)) (Al.readL f2 s).1 := by
    rw [hw0, if_pos (by rw [beq_iff_eq]; exact hf)]
  have hrr := fun {n} hn => rest_read (a := alOf (f1, f2, f3)) (s := s) (by rw [hre]; exact hf) (n := n) hn
  have hro := Al.read_ok (a := alOf (f1, f2, f3)) (s := s) (by rw [hre]; exact hf)
  have hws : wOf (f1, f2, f3) s = (Al.readL f2 s).1 := by unfold wOf; rw [hre]
  have hrs : rsOf (r1, r2, l) (f1, f2, f3) = l.map (Rul.openR f2) := rfl
  rw [hre] at hro
  simp only [hre] at hrr
  rw [hw1, hws, hrs, hre, hf]
  have hw24 := hro.2.2.2.2.2.2
  have hwne := hro.2.2.2.2.2.1
  clear hro
  generalize (Al.readL f2 s).1 = w at *
  have hw0' : 0 < w.length := List.length_pos_iff.2 hwne
  rcases Rul.write_err (l.map (Rul.openR f2)) w with he | he
  case inr => rw [he]; exact bifP (fun _ => bifP (fun _ => bifP (fun _ => trivial) fun e => by cases e) fun e => by cases e) fun e => by cases e
  have h200 := write_few he
  have hup := Rul.write_up (rs := l.map (Rul.openR f2)) (w := w)
  have hmem : ∀ s, s ∈ (Rul.writeL (l.map (Rul.openR f2)) w).1 ↔ Rul.Reach (l.map (Rul.openR f2)) w w.length s := fun s => Rul.write_mem hpos he
  generalize hWW : Rul.writeL (l.map (Rul.openR f2)) w = WW at *
  obtain ⟨all, e⟩ := WW
  obtain rfl : e = 0 := he
  have h200 : all.length ≤ 200 := h200
  have hup : Rul.Up all := hup
  have hmem : ∀ s, s ∈ all ↔ Rul.Reach (l.map (Rul.openR f2)) w w.length s := hmem
  refine bifP (fun e => by cases e) fun _ => bifP (fun e => by cases e) fun _ => ⟨⟨fr, ff, ft⟩, bifP (fun e => by rw [hv] at e; cases e) fun _ => bifP (fun e => by have := of_decide_eq_true e; have h200 : all.length ≤ 200 := h200; omega) fun _ => ?_⟩
  have hcast : ∀ n : Nat, ((n : Int)).toNat = n := fun n => rfl
  simp only [hcast, List.take_length, Nat.beq_refl, Bool.and_self, cond_true]
  refine ⟨⟨by omega, by omega⟩, ⟨(0, List.replicate all.length false), ⟨Nat.zero_le _, first_start⟩, rfl, rfl⟩, fun p hp => ?_⟩
  obtain ⟨i, seen⟩ := p
  obtain ⟨hi, hin⟩ := hp
  have hi : i ≤ l.length := hi
  have hin : inFirst f2 (l.map (Rul.openR f2)) w l all i seen := hin
  refine bifP (fun hb => ?_) fun hb => ?_
  · have hlt : i < l.length := by have := of_decide_eq_true hb; have this : (i : Int) < (l.length : Int) := this; omega
    have hx := getD_some l ([], [], [], false) i hlt
    have hxa : ruleAt l i = l.getD i ([], [], [], false) := rfl
    have hmemx := List.mem_of_getElem? hx
    have h60 := hm60 _ hmemx
    obtain ⟨x1, x2, x3, x4⟩ := valid_rule hv hmemx
    have gs := goes_stands (L := f2) (word := w) x1 x4 (fun e => x3.resolve_left e)
    have hxo : Rul.openR f2 (l.getD i ([], [], [], false)) ∈ l.map (Rul.openR f2) := List.mem_map_of_mem hmemx
    have inner : ∀ rest : List (List UInt8), rest.length ≤ 200 → (∀ y ∈ rest, (l.getD i ([], [], [], false)).2.1 ++ y ∈ all ∧ y.length ≤ 1000) → (∀ s', Rul.Reach (l.map (Rul.openR f2)) (w.drop (Rul.openR f2 (l.getD i ([], [], [], false))).2.1.length) (w.drop (Rul.openR f2 (l.getD i ([], [], [], false))).2.1.length).length s' → s' ∈ rest) →
        (∃ p' : Nat × List Bool, (p'.1 ≤ rest.length ∧ inFirst f2 (l.map (Rul.openR f2)) w l all i p'.2 ∧ ∀ j, j < all.length → (∃ q, q < p'.1 ∧ all.getD j [] = (ruleAt l i).2.1 ++ rest.getD q []) → p'.2.getD j false = true) ∧ (0 : Int) = (p'.1 : Int) ∧ seen = p'.2) ∧
        ∀ p_1 : Nat × List Bool, (p_1.1 ≤ rest.length ∧ inFirst f2 (l.map (Rul.openR f2)) w l all i p_1.2 ∧ ∀ j, j < all.length → (∃ q, q < p_1.1 ∧ all.getD j [] = (ruleAt l i).2.1 ++ rest.getD q []) → p_1.2.getD j false = true) →
          bif decide ((p_1.1 : Int) < (rest.length : Int)) then ((0 : Int) ≤ (i : Int) ∧ (i : Int) < (l.length : Int)) ∧ ((0 : Int) ≤ (p_1.1 : Int) ∧ (p_1.1 : Int) < (rest.length : Int)) ∧ (l.getD i ([], [], [], false)).2.1.length + (rest.getD p_1.1 []).length ≤ 9223372036854775807 ∧ all.length ≤ 1000000000 ∧
            bif decide (findI ((l.getD i ([], [], [], false)).2.1 ++ rest.getD p_1.1 []) all (0 : Int) < (0 : Int)) then false = true else
              ((0 : Int) ≤ findI ((l.getD i ([], [], [], false)).2.1 ++ rest.getD p_1.1 []) all (0 : Int) ∧ findI ((l.getD i ([], [], [], false)).2.1 ++ rest.getD p_1.1 []) all (0 : Int) < (p_1.2.length : Int)) ∧
              ((-9223372036854775808 : Int) ≤ (p_1.1 : Int) + 1 ∧ (p_1.1 : Int) + 1 ≤ (9223372036854775807 : Int)) ∧
              ∃ p' : Nat × List Bool, (p'.1 ≤ rest.length ∧ inFirst f2 (l.map (Rul.openR f2)) w l all i p'.2 ∧ ∀ j, j < all.length → (∃ q, q < p'.1 ∧ all.getD j [] = (ruleAt l i).2.1 ++ rest.getD q []) → p'.2.getD j false = true) ∧ rest.length - p'.1 < rest.length - p_1.1 ∧ (p_1.1 : Int) + 1 = (p'.1 : Int) ∧
                p_1.2.set (findI ((l.getD i ([], [], [], false)).2.1 ++ rest.getD p_1.1 []) all (0 : Int)).toNat true = p'.2
          else ((-9223372036854775808 : Int) ≤ (i : Int) + 1 ∧ (i : Int) + 1 ≤ (9223372036854775807 : Int)) ∧ ∃ p' : Nat × List Bool, (p'.1 ≤ l.length ∧ inFirst f2 (l.map (Rul.openR f2)) w l all p'.1 p'.2) ∧ l.length - p'.1 < l.length - i ∧ (i : Int) + 1 = (p'.1 : Int) ∧ p_1.2 = p'.2 := by
      intro rest h200r hrest hall
      rw [hxa]
      refine ⟨⟨(0, seen), ⟨Nat.zero_le _, hin, fun j hj ⟨q, hq, _⟩ => absurd hq (Nat.not_lt_zero _)⟩, rfl, rfl⟩, fun p_1 h1 => ?_⟩
      obtain ⟨q, sn⟩ := p_1
      obtain ⟨a1, a2, a3⟩ := h1
      have a1 : q ≤ rest.length := a1
      have a2 : inFirst f2 (l.map (Rul.openR f2)) w l all i sn := a2
      refine bifP (fun hc => ?_) fun hc => ?_
      · have hq : q < rest.length := by have := of_decide_eq_true hc; have this : (q : Int) < (rest.length : Int) := this; omega
        have hy := getD_some rest [] q hq
        obtain ⟨b1, b2⟩ := hrest _ (List.mem_of_getElem? hy)
        obtain ⟨k, c1, c2⟩ := findI_ok _ all 0 b1
        have hk : k < all.length := (List.getElem?_eq_some_iff.1 c2).1
        have hsl := a2.1
        refine ⟨⟨by omega, by omega⟩, ⟨by show (0 : Int) ≤ (q : Int); omega, by show (q : Int) < _; omega⟩, ?_, by omega, ?_⟩
        · show (l.getD i ([], [], [], false)).2.1.length + (rest.getD q []).length ≤ _
          omega
        · have c1 : findI ((l.getD i ([], [], [], false)).2.1 ++ rest.getD (q, sn).1 []) all 0 = 0 + (k : Int) := c1
          rw [c1]
          refine bifP (fun e => by have := of_decide_eq_true e; omega) fun _ => ⟨⟨by omega, by show _ < (sn.length : Int); omega⟩, ⟨by show _ ≤ (q : Int) + 1; omega, by show (q : Int) + 1 ≤ _; have := hrest; omega⟩, (q + 1, sn.set k true), ⟨hq, first_set a2 k, ?_⟩, by show rest.length - (q + 1) < rest.length - q; omega, by show (q : Int) + 1 = ((q + 1 : Nat) : Int); omega, ?_⟩
          · have := first_step hup a2 (rest := rest) (q := q) (by rw [hxa]; exact a3) (at_ := k) (by rw [hxa]; exact c2)
            rw [hxa] at this
            exact this
          · show sn.set (0 + (k : Int)).toNat true = sn.set k true
            rw [show (0 + (k : Int)).toNat = k by omega]
      · have hq : q = rest.length := by have := of_decide_eq_false hc; have this : ¬ (q : Int) < (rest.length : Int) := this; omega
        subst hq
        exact ⟨⟨by omega, by omega⟩, (i + 1, sn), ⟨by omega, first_more a2 (n := (Rul.openR f2 (l.getD i ([], [], [], false))).2.1.length) (by rw [hxa]) hall (by rw [hxa]; exact a3)⟩, by show l.length - (i + 1) < l.length - i; omega, by show (i : Int) + 1 = ((i + 1 : Nat) : Int); omega, rfl⟩
    rw [hxa] at inner
    have n1 : (Rul.openR f2 (l.getD i ([], [], [], false))).2.1 = (Al.readL f2 (l.getD i ([], [], [], false)).1).1 := by unfold Rul.openR Rul.readO; rw [if_neg x1]
    refine ⟨⟨by show (0 : Int) ≤ (i : Int); omega, by show (i : Int) < _; omega⟩, ⟨ff, by show (l.getD i ([], [], [], false)).1.length ≤ _; omega, by show (l.getD i ([], [], [], false)).2.2.1.length ≤ _; omega, by show w.length ≤ _; omega, hva, x2, x3⟩, bifP (fun hg => ?_) fun hg => ?_⟩
    · have hg : (goesF f2 (l.getD i ([], [], [], false)) w).2 = false := by
        have hg : (!(goesF f2 (l.getD i ([], [], [], false)) w).2) = true := hg
        simpa using hg
      rw [gs.1] at hg
      exact ⟨⟨by show _ ≤ (i : Int) + 1; omega, by show (i : Int) + 1 ≤ _; omega⟩, (i + 1, seen), ⟨hlt, first_skip hin (by rw [hxa]; exact hg)⟩, by show l.length - (i + 1) < l.length - i; omega, by show (i : Int) + 1 = ((i + 1 : Nat) : Int); omega, rfl⟩
    · have hg : (goesF f2 (l.getD i ([], [], [], false)) w).2 = true := by
        have hg : (!(goesF f2 (l.getD i ([], [], [], false)) w).2) = false := hg
        simpa using hg
      have hst := hg
      rw [gs.1] at hst
      have hgn : (goesF f2 ((l.getD i ([], [], [], false)).fst, (l.getD i ([], [], [], false)).snd.fst, (l.getD i ([], [], [], false)).snd.snd.fst, (l.getD i ([], [], [], false)).snd.snd.snd) w).1 = ((Rul.openR f2 (l.getD i ([], [], [], false))).2.1.length : Int) := gs.2 hg
      have hnl := (Rul.stands_len hst).1
      show bif decide ((goesF f2 ((l.getD i ([], [], [], false)).fst, (l.getD i ([], [], [], false)).snd.fst, (l.getD i ([], [], [], false)).snd.snd.fst, (l.getD i ([], [], [], false)).snd.snd.snd) w).1 < _) then _ else _
      rw [hgn]
      have hfm : ∀ s', Rul.Reach (l.map (Rul.openR f2)) (w.drop (Rul.openR f2 (l.getD i ([], [], [], false))).2.1.length) (w.drop (Rul.openR f2 (l.getD i ([], [], [], false))).2.1.length).length s' → (l.getD i ([], [], [], false)).2.1 ++ s' ∈ all := fun s' hs' => (hmem _).2 (first_mem hpos hw0' hxo hst hs')
      rw [hcast]
      generalize (Rul.openR f2 (l.getD i ([], [], [], false))).2.1.length = n at *
      refine bifP (fun hn => ?_) fun hn => ?_
      · have hn : n < w.length := by have := of_decide_eq_true hn; omega
        obtain ⟨j1, j2, j3⟩ := hrr hn
        rw [j1]
        have hwr : Rul.writingsB (r1, r2, l) (alOf (f1, f2, f3)) (alOf (t1, t2, t3)) (Al.joinL (alOf (f1, f2, f3)).letters (w.drop n)) = Rul.writeL (l.map (Rul.openR f2)) (w.drop n) := by
          rw [hw0, j3]; rfl
        have hdl : (w.drop n).length = w.length - n := List.length_drop
        refine ⟨⟨by omega, by omega⟩, ⟨ff, by omega⟩, ⟨fr, ff, ft, by show (Al.joinL (alOf (f1, f2, f3)).letters (w.drop n)).length ≤ _; omega⟩, bifP (fun e => by cases e) fun _ => ?_⟩
        rw [hwr]
        rcases Rul.write_err (l.map (Rul.openR f2)) (w.drop n) with he | he
        · have hr200 := write_few he
          have hrm : ∀ s', s' ∈ (Rul.writeL (l.map (Rul.openR f2)) (w.drop n)).1 ↔ Rul.Reach (l.map (Rul.openR f2)) (w.drop n) (w.drop n).length s' := fun s' => Rul.write_mem hpos he
          rw [he]
          refine bifP (fun e => by cases e) fun _ => bifP (fun e => by cases e) fun _ => ?_
          exact inner _ hr200 (fun y hy => ⟨hfm y ((hrm y).1 hy), first_len hpos hm9 (by omega) ((hrm y).1 hy)⟩) fun s' hs' => (hrm s').2 hs'
        · rw [he]
          exact bifP (fun _ => bifP (fun e => by cases e) fun _ => bifP (fun _ => trivial) fun e => by cases e) fun e => by cases e
      · have hn : n = w.length := by have := of_decide_eq_false hn; omega
        have hdr : w.drop n = [] := by rw [hn, List.drop_length]
        rw [hdr] at inner hfm
        refine inner [[]] (by decide) (fun y hy => ?_) fun s' hs' => ?_
        · obtain rfl := List.mem_singleton.1 hy
          exact ⟨hfm [] .zero, by decide⟩
        · rw [(Rul.full_nil hpos).1 hs']; exact List.mem_singleton.2 rfl
  · have hil : i = l.length := by have := of_decide_eq_false hb; have this : ¬ (i : Int) < (l.length : Int) := this; omega
    subst hil
    have hsl : seen.length = all.length := hin.1
    refine ⟨⟨0, Nat.zero_le _, by omega⟩, fun j hj => bifP (fun hc => ?_) fun _ => trivial⟩
    have hjl : j < all.length := by have := of_decide_eq_true hc; have this : (j : Int) < (seen.length : Int) := this; omega
    have hsj : seen.getD j false = true := first_end hpos hw0' (fun s h => (hmem s).1 h) hin hjl
    refine ⟨⟨by omega, by show (j : Int) < (seen.length : Int); omega⟩, bifP (fun e => ?_) fun _ => bifP (fun e => ?_) fun _ => ?_⟩
    · have e : (!seen.getD j false) = true := e
      rw [hsj] at e; cases e
    · have h0 : 0 < j := by have := of_decide_eq_true e; omega
      have hul := up_less hup h0 hjl
      refine ⟨⟨by omega, by omega⟩, ⟨by omega, by omega⟩, ⟨by omega, by omega⟩, bifP (fun e => ?_) fun _ => ?_⟩
      · rw [show ((j : Int) - 1).toNat = j - 1 by omega, hul] at e; cases e
      · exact ⟨⟨by omega, by omega⟩, j + 1, by omega, by omega, by omega⟩
    · exact ⟨⟨by omega, by omega⟩, j + 1, by omega, by omega, by omega⟩
set_option maxRecDepth 100000 in
theorem firstl_holds : cFirst.Holds Tryz.prog := by
  refine holdsF (cons := consFirst) Tryz.func6 (by kernel_rfl) (by kernel_rfl) mixed (by kernel_rfl) (fun c h => by
    rcases List.mem_cons.1 h with rfl | h
    · exact head11_holds
    rcases List.mem_cons.1 h with rfl | h
    · exact fewa11_holds
    rcases List.mem_cons.1 h with rfl | h
    · exact writ_holds
    rcases List.mem_cons.1 h with rfl | h
    · exact pread_holds
    rcases List.mem_cons.1 h with rfl | h
    · exact validr_holds
    rcases List.mem_cons.1 h with rfl | h
    · exact goes_holds
    rcases List.mem_cons.1 h with rfl | h
    · exact pjoin_holds
    · obtain rfl := List.mem_singleton.1 h; exact find_holds) (fun p => anFirst p.2.1.2.1 (rsOf p.1 p.2.1) (wOf p.2.1 p.2.2.2) p.1.2.2 (Rul.writingsB p.1 (alOf p.2.1) (alOf p.2.2.1) p.2.2.2).1) fun p hp => ?_
  obtain ⟨⟨r1, r2, l⟩, ⟨f1, f2, f3⟩, t, s⟩ := p
  refine cast ?_ (firstl_vc r1 r2 l f1 f2 f3 t s hp)
  kernel_rfl
end Go.Proofs.YtldnfdghkdibmaaGreatDoor

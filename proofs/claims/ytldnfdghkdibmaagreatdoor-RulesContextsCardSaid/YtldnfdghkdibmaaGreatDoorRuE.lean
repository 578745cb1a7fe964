/-
  Layer 11: Writings: what it returns.
-/
import Derived.Test.YtldnfdghkdibmaaGreatDoorRuD
import Derived.Test.YtldnfdghkdibmaaGreatDoorRuF
set_option linter.unusedVariables false
namespace Go.Proofs.YtldnfdghkdibmaaGreatDoor
open Go.RowKit
open R
theorem getD_op (rs : List Rul.Opened) (i : Nat) : (rs.map opOf).getD i ([], [], [], false, [], []) = opOf (rAt rs i) := by
  unfold rAt
  rw [List.getD_eq_getElem?_getD, List.getD_eq_getElem?_getD, List.getElem?_map]
  cases rs[i]? <;> rfl
/-SUB (0 : Int) []).isSome ==> (0 : Int) ([] : NX)).isSome -/
set_option maxRecDepth 100000 in
theorem writ_vc (r : Rul.Rules) (f t : AlP) (s : List UInt8) (h : cWrit.pre (r, f, t, s)) :
    /-VC fun (r : Rul.Rules) (f t : AlP) (s : List UInt8) => vcOfH Tryz.prog [cOpen, cPRead, cStands] (kInl fKeys fSorted fKeyIt) (anWrit (rsOf r f) (wOf f s)) cWrit Tryz.f14 (r, f, t, s) -/
    (FewR (r.fst, r.snd.fst, r.snd.snd) ∧ FewP (f.fst, f.snd.fst, f.snd.snd) ∧ FewP (t.fst, t.snd.fst, t.snd.snd)) ∧ bif !(openB ((r.fst, r.snd.fst, r.snd.snd), (f.fst, f.snd.fst, f.snd.snd),
    t.fst, t.snd.fst, t.snd.snd)).snd then ([], (1 : Int)) = Rul.writingsB r (alOf f) (alOf t) s else (FewP (f.fst, f.snd.fst, f.snd.snd) ∧ s.length ≤ (1000000 : Nat)) ∧ bif (Al.readB (alOf
    (f.fst, f.snd.fst, f.snd.snd)) s).snd.fst != (0 : Int) then ([], (1 : Int)) = Rul.writingsB r (alOf f) (alOf t) s else (Mp.get (fun (x x_1 : Int) => x == x_1) (0 : Int) ([] : NX)).isSome =
    false ∧ (∃ (p' : Nat × NX), inOut (rsOf r f) (wOf f s) p'.fst p'.snd ∧ ((0 : Int) = (↑p'.fst : Int) ∧ (openB ((r.fst, r.snd.fst, r.snd.snd), (f.fst, f.snd.fst, f.snd.snd), t.fst, t.snd.fst,
    t.snd.snd)).fst = (openB ((r.fst, r.snd.fst, r.snd.snd), (f.fst, f.snd.fst, f.snd.snd), t.fst, t.snd.fst, t.snd.snd)).fst ∧ (Al.readB (alOf (f.fst, f.snd.fst, f.snd.snd)) s).fst = (Al.readB
    (alOf (f.fst, f.snd.fst, f.snd.snd)) s).fst ∧ True ∧ (↑(Al.readB (alOf (f.fst, f.snd.fst, f.snd.snd)) s).fst.length : Int) = (↑(Al.readB (alOf (f.fst, f.snd.fst, f.snd.snd)) s).fst.length :
    Int) ∧ True) ∧ True ∧ True ∧ True ∧ True ∧ True ∧ [] ++ [((0 : Int), Mp.put (fun (x x_1 : List UInt8) => x == x_1) [] true [])] = p'.snd ∧ True) ∧ ∀ (p : Nat × NX), inOut (rsOf r f) (wOf f
    s) p.fst p.snd → bif decide ((↑p.fst : Int) < (↑(Al.readB (alOf (f.fst, f.snd.fst, f.snd.snd)) s).fst.length : Int)) then bif decide ((200 : Int) < (↑((Mp.get (fun (x x_1 : Int) => x == x_1)
    (↑p.fst : Int) p.snd).getD []).length : Int)) then ([], (2 : Int)) = Rul.writingsB r (alOf f) (alOf t) s else (∃ (p' : Nat × NX), inMid (rsOf r f) (wOf f s) (↑p.fst : Int).toNat p'.fst
    p'.snd ∧ ((0 : Int) = (↑p'.fst : Int) ∧ (openB ((r.fst, r.snd.fst, r.snd.snd), (f.fst, f.snd.fst, f.snd.snd), t.fst, t.snd.fst, t.snd.snd)).fst = (openB ((r.fst, r.snd.fst, r.snd.snd),
    (f.fst, f.snd.fst, f.snd.snd), t.fst, t.snd.fst, t.snd.snd)).fst ∧ (Al.readB (alOf (f.fst, f.snd.fst, f.snd.snd)) s).fst = (Al.readB (alOf (f.fst, f.snd.fst, f.snd.snd)) s).fst ∧ True ∧
    (↑p.fst : Int) = (↑p.fst : Int) ∧ (↑(Al.readB (alOf (f.fst, f.snd.fst, f.snd.snd)) s).fst.length : Int) = (↑(Al.readB (alOf (f.fst, f.snd.fst, f.snd.snd)) s).fst.length : Int) ∧ (↑p.fst :
    Int) = (↑p.fst : Int) ∧ (openB ((r.fst, r.snd.fst, r.snd.snd), (f.fst, f.snd.fst, f.snd.snd), t.fst, t.snd.fst, t.snd.snd)).fst = (openB ((r.fst, r.snd.fst, r.snd.snd), (f.fst, f.snd.fst,
    f.snd.snd), t.fst, t.snd.fst, t.snd.snd)).fst ∧ (↑(openB ((r.fst, r.snd.fst, r.snd.snd), (f.fst, f.snd.fst, f.snd.snd), t.fst, t.snd.fst, t.snd.snd)).fst.length : Int) = (↑(openB ((r.fst,
    r.snd.fst, r.snd.snd), (f.fst, f.snd.fst, f.snd.snd), t.fst, t.snd.fst, t.snd.snd)).fst.length : Int) ∧ True) ∧ True ∧ True ∧ True ∧ True ∧ True ∧ p.snd = p'.snd ∧ True) ∧ ∀ (p_1 : Nat ×
    NX), inMid (rsOf r f) (wOf f s) (↑p.fst : Int).toNat p_1.fst p_1.snd → bif decide ((↑p_1.fst : Int) < (↑(openB ((r.fst, r.snd.fst, r.snd.snd), (f.fst, f.snd.fst, f.snd.snd), t.fst,
    t.snd.fst, t.snd.snd)).fst.length : Int)) then ((0 : Int) ≤ (↑p_1.fst : Int) ∧ (↑p_1.fst : Int) < (↑(openB ((r.fst, r.snd.fst, r.snd.snd), (f.fst, f.snd.fst, f.snd.snd), t.fst, t.snd.fst,
    t.snd.snd)).fst.length : Int)) ∧ ((0 : Int) ≤ (↑p.fst : Int) ∧ (↑p.fst : Int) ≤ (↑(Al.readB (alOf (f.fst, f.snd.fst, f.snd.snd)) s).fst.length : Int) ∧ (↑(Al.readB (alOf (f.fst, f.snd.fst,
    f.snd.snd)) s).fst.length : Int) ≤ (↑(Al.readB (alOf (f.fst, f.snd.fst, f.snd.snd)) s).fst.length : Int)) ∧ (((openB ((r.fst, r.snd.fst, r.snd.snd), (f.fst, f.snd.fst, f.snd.snd), t.fst,
    t.snd.fst, t.snd.snd)).fst.getD (↑p_1.fst : Int).toNat ([], [], [], false, [], [])).snd.snd.snd.snd.fst.length ≤ (1000000 : Nat) ∧ ((openB ((r.fst, r.snd.fst, r.snd.snd), (f.fst, f.snd.fst,
    f.snd.snd), t.fst, t.snd.fst, t.snd.snd)).fst.getD (↑p_1.fst : Int).toNat ([], [], [], false, [], [])).snd.snd.snd.snd.snd.length ≤ (1000000 : Nat) ∧ (List.drop (↑p.fst : Int).toNat
    (List.take (↑(Al.readB (alOf (f.fst, f.snd.fst, f.snd.snd)) s).fst.length : Int).toNat (Al.readB (alOf (f.fst, f.snd.fst, f.snd.snd)) s).fst)).length ≤ (1000000 : Nat)) ∧ bif !Rul.standsB
    (toOp (((openB ((r.fst, r.snd.fst, r.snd.snd), (f.fst, f.snd.fst, f.snd.snd), t.fst, t.snd.fst, t.snd.snd)).fst.getD (↑p_1.fst : Int).toNat ([], [], [], false, [], [])).fst, ((openB ((r.fst,
    r.snd.fst, r.snd.snd), (f.fst, f.snd.fst, f.snd.snd), t.fst, t.snd.fst, t.snd.snd)).fst.getD (↑p_1.fst : Int).toNat ([], [], [], false, [], [])).snd.fst, ((openB ((r.fst, r.snd.fst,
    r.snd.snd), (f.fst, f.snd.fst, f.snd.snd), t.fst, t.snd.fst, t.snd.snd)).fst.getD (↑p_1.fst : Int).toNat ([], [], [], false, [], [])).snd.snd.fst, ((openB ((r.fst, r.snd.fst, r.snd.snd),
    (f.fst, f.snd.fst, f.snd.snd), t.fst, t.snd.fst, t.snd.snd)).fst.getD (↑p_1.fst : Int).toNat ([], [], [], false, [], [])).snd.snd.snd.fst, ((openB ((r.fst, r.snd.fst, r.snd.snd), (f.fst,
    f.snd.fst, f.snd.snd), t.fst, t.snd.fst, t.snd.snd)).fst.getD (↑p_1.fst : Int).toNat ([], [], [], false, [], [])).snd.snd.snd.snd.fst, ((openB ((r.fst, r.snd.fst, r.snd.snd), (f.fst,
    f.snd.fst, f.snd.snd), t.fst, t.snd.fst, t.snd.snd)).fst.getD (↑p_1.fst : Int).toNat ([], [], [], false, [], [])).snd.snd.snd.snd.snd)) (List.drop (↑p.fst : Int).toNat (List.take (↑(Al.readB
    (alOf (f.fst, f.snd.fst, f.snd.snd)) s).fst.length : Int).toNat (Al.readB (alOf (f.fst, f.snd.fst, f.snd.snd)) s).fst)) then ((-9223372036854775808 : Int) ≤ (↑p_1.fst : Int) + (1 : Int) ∧
    (↑p_1.fst : Int) + (1 : Int) ≤ (9223372036854775807 : Int)) ∧ ∃ (p' : Nat × NX), inMid (rsOf r f) (wOf f s) (↑p.fst : Int).toNat p'.fst p'.snd ∧ (rsOf r f).length - p'.fst < (rsOf r
    f).length - p_1.fst ∧ ((↑p_1.fst : Int) + (1 : Int) = (↑p'.fst : Int) ∧ (openB ((r.fst, r.snd.fst, r.snd.snd), (f.fst, f.snd.fst, f.snd.snd), t.fst, t.snd.fst, t.snd.snd)).fst = (openB
    ((r.fst, r.snd.fst, r.snd.snd), (f.fst, f.snd.fst, f.snd.snd), t.fst, t.snd.fst, t.snd.snd)).fst ∧ (Al.readB (alOf (f.fst, f.snd.fst, f.snd.snd)) s).fst = (Al.readB (alOf (f.fst, f.snd.fst,
    f.snd.snd)) s).fst ∧ True ∧ (↑p.fst : Int) = (↑p.fst : Int) ∧ (↑(Al.readB (alOf (f.fst, f.snd.fst, f.snd.snd)) s).fst.length : Int) = (↑(Al.readB (alOf (f.fst, f.snd.fst, f.snd.snd))
    s).fst.length : Int) ∧ (↑p.fst : Int) = (↑p.fst : Int) ∧ (openB ((r.fst, r.snd.fst, r.snd.snd), (f.fst, f.snd.fst, f.snd.snd), t.fst, t.snd.fst, t.snd.snd)).fst = (openB ((r.fst, r.snd.fst,
    r.snd.snd), (f.fst, f.snd.fst, f.snd.snd), t.fst, t.snd.fst, t.snd.snd)).fst ∧ (↑(openB ((r.fst, r.snd.fst, r.snd.snd), (f.fst, f.snd.fst, f.snd.snd), t.fst, t.snd.fst,
    t.snd.snd)).fst.length : Int) = (↑(openB ((r.fst, r.snd.fst, r.snd.snd), (f.fst, f.snd.fst, f.snd.snd), t.fst, t.snd.fst, t.snd.snd)).fst.length : Int) ∧ True) ∧ True ∧ True ∧ True ∧ True ∧
    True ∧ p_1.snd = p'.snd ∧ True else ((-9223372036854775808 : Int) ≤ (↑p.fst : Int) + (↑((openB ((r.fst, r.snd.fst, r.snd.snd), (f.fst, f.snd.fst, f.snd.snd), t.fst, t.snd.fst,
    t.snd.snd)).fst.getD (↑p_1.fst : Int).toNat ([], [], [], false, [], [])).snd.snd.snd.snd.fst.length : Int) ∧ (↑p.fst : Int) + (↑((openB ((r.fst, r.snd.fst, r.snd.snd), (f.fst, f.snd.fst,
    f.snd.snd), t.fst, t.snd.fst, t.snd.snd)).fst.getD (↑p_1.fst : Int).toNat ([], [], [], false, [], [])).snd.snd.snd.snd.fst.length : Int) ≤ (9223372036854775807 : Int)) ∧ bif !(Mp.get (fun (x
    x_1 : Int) => x == x_1) ((↑p.fst : Int) + (↑((openB ((r.fst, r.snd.fst, r.snd.snd), (f.fst, f.snd.fst, f.snd.snd), t.fst, t.snd.fst, t.snd.snd)).fst.getD (↑p_1.fst : Int).toNat ([], [], [],
    false, [], [])).snd.snd.snd.snd.fst.length : Int)) p_1.snd).isSome then (Mp.get (fun (x x_1 : Int) => x == x_1) ((↑p.fst : Int) + (↑((openB ((r.fst, r.snd.fst, r.snd.snd), (f.fst, f.snd.fst,
    f.snd.snd), t.fst, t.snd.fst, t.snd.snd)).fst.getD (↑p_1.fst : Int).toNat ([], [], [], false, [], [])).snd.snd.snd.snd.fst.length : Int)) p_1.snd).isSome = false ∧ (∃ (p' : NX × List (List
    UInt8 × Bool)), inIn (rsOf r f) (wOf f s) (↑p.fst : Int).toNat (↑p_1.fst : Int).toNat (p_1.snd ++ [((↑p.fst : Int) + (↑((openB ((r.fst, r.snd.fst, r.snd.snd), (f.fst, f.snd.fst, f.snd.snd),
    t.fst, t.snd.fst, t.snd.snd)).fst.getD (↑p_1.fst : Int).toNat ([], [], [], false, [], [])).snd.snd.snd.snd.fst.length : Int), [])]) p'.fst p'.snd ∧ ((openB ((r.fst, r.snd.fst, r.snd.snd),
    (f.fst, f.snd.fst, f.snd.snd), t.fst, t.snd.fst, t.snd.snd)).fst = (openB ((r.fst, r.snd.fst, r.snd.snd), (f.fst, f.snd.fst, f.snd.snd), t.fst, t.snd.fst, t.snd.snd)).fst ∧ (Al.readB (alOf
    (f.fst, f.snd.fst, f.snd.snd)) s).fst = (Al.readB (alOf (f.fst, f.snd.fst, f.snd.snd)) s).fst ∧ True ∧ (↑p.fst : Int) = (↑p.fst : Int) ∧ True ∧ (↑p.fst : Int) + (↑((openB ((r.fst, r.snd.fst,
    r.snd.snd), (f.fst, f.snd.fst, f.snd.snd), t.fst, t.snd.fst, t.snd.snd)).fst.getD (↑p_1.fst : Int).toNat ([], [], [], false, [], [])).snd.snd.snd.snd.fst.length : Int) = (↑p.fst : Int) +
    (↑((openB ((r.fst, r.snd.fst, r.snd.snd), (f.fst, f.snd.fst, f.snd.snd), t.fst, t.snd.fst, t.snd.snd)).fst.getD (↑p_1.fst : Int).toNat ([], [], [], false, [], [])).snd.snd.snd.snd.fst.length
    : Int) ∧ (↑(Al.readB (alOf (f.fst, f.snd.fst, f.snd.snd)) s).fst.length : Int) = (↑(Al.readB (alOf (f.fst, f.snd.fst, f.snd.snd)) s).fst.length : Int) ∧ (↑p.fst : Int) = (↑p.fst : Int) ∧
    (openB ((r.fst, r.snd.fst, r.snd.snd), (f.fst, f.snd.fst, f.snd.snd), t.fst, t.snd.fst, t.snd.snd)).fst = (openB ((r.fst, r.snd.fst, r.snd.snd), (f.fst, f.snd.fst, f.snd.snd), t.fst,
    t.snd.fst, t.snd.snd)).fst ∧ (↑(openB ((r.fst, r.snd.fst, r.snd.snd), (f.fst, f.snd.fst, f.snd.snd), t.fst, t.snd.fst, t.snd.snd)).fst.length : Int) = (↑(openB ((r.fst, r.snd.fst,
    r.snd.snd), (f.fst, f.snd.fst, f.snd.snd), t.fst, t.snd.fst, t.snd.snd)).fst.length : Int) ∧ (↑p_1.fst : Int) = (↑p_1.fst : Int) ∧ True ∧ True) ∧ ((((openB ((r.fst, r.snd.fst, r.snd.snd),
    (f.fst, f.snd.fst, f.snd.snd), t.fst, t.snd.fst, t.snd.snd)).fst.getD (↑p_1.fst : Int).toNat ([], [], [], false, [], [])).fst = ((openB ((r.fst, r.snd.fst, r.snd.snd), (f.fst, f.snd.fst,
    f.snd.snd), t.fst, t.snd.fst, t.snd.snd)).fst.getD (↑p_1.fst : Int).toNat ([], [], [], false, [], [])).fst ∧ ((openB ((r.fst, r.snd.fst, r.snd.snd), (f.fst, f.snd.fst, f.snd.snd), t.fst,
    t.snd.fst, t.snd.snd)).fst.getD (↑p_1.fst : Int).toNat ([], [], [], false, [], [])).snd.fst = ((openB ((r.fst, r.snd.fst, r.snd.snd), (f.fst, f.snd.fst, f.snd.snd), t.fst, t.snd.fst,
    t.snd.snd)).fst.getD (↑p_1.fst : Int).toNat ([], [], [], false, [], [])).snd.fst ∧ ((openB ((r.fst, r.snd.fst, r.snd.snd), (f.fst, f.snd.fst, f.snd.snd), t.fst, t.snd.fst,
    t.snd.snd)).fst.getD (↑p_1.fst : Int).toNat ([], [], [], false, [], [])).snd.snd.fst = ((openB ((r.fst, r.snd.fst, r.snd.snd), (f.fst, f.snd.fst, f.snd.snd), t.fst, t.snd.fst,
    t.snd.snd)).fst.getD (↑p_1.fst : Int).toNat ([], [], [], false, [], [])).snd.snd.fst ∧ ((openB ((r.fst, r.snd.fst, r.snd.snd), (f.fst, f.snd.fst, f.snd.snd), t.fst, t.snd.fst,
    t.snd.snd)).fst.getD (↑p_1.fst : Int).toNat ([], [], [], false, [], [])).snd.snd.snd.fst = ((openB ((r.fst, r.snd.fst, r.snd.snd), (f.fst, f.snd.fst, f.snd.snd), t.fst, t.snd.fst,
    t.snd.snd)).fst.getD (↑p_1.fst : Int).toNat ([], [], [], false, [], [])).snd.snd.snd.fst ∧ ((openB ((r.fst, r.snd.fst, r.snd.snd), (f.fst, f.snd.fst, f.snd.snd), t.fst, t.snd.fst,
    t.snd.snd)).fst.getD (↑p_1.fst : Int).toNat ([], [], [], false, [], [])).snd.snd.snd.snd.fst = ((openB ((r.fst, r.snd.fst, r.snd.snd), (f.fst, f.snd.fst, f.snd.snd), t.fst, t.snd.fst,
    t.snd.snd)).fst.getD (↑p_1.fst : Int).toNat ([], [], [], false, [], [])).snd.snd.snd.snd.fst ∧ ((openB ((r.fst, r.snd.fst, r.snd.snd), (f.fst, f.snd.fst, f.snd.snd), t.fst, t.snd.fst,
    t.snd.snd)).fst.getD (↑p_1.fst : Int).toNat ([], [], [], false, [], [])).snd.snd.snd.snd.snd = ((openB ((r.fst, r.snd.fst, r.snd.snd), (f.fst, f.snd.fst, f.snd.snd), t.fst, t.snd.fst,
    t.snd.snd)).fst.getD (↑p_1.fst : Int).toNat ([], [], [], false, [], [])).snd.snd.snd.snd.snd ∧ True) ∧ True) ∧ True ∧ True ∧ True ∧ True ∧ p_1.snd ++ [((↑p.fst : Int) + (↑((openB ((r.fst,
    r.snd.fst, r.snd.snd), (f.fst, f.snd.fst, f.snd.snd), t.fst, t.snd.fst, t.snd.snd)).fst.getD (↑p_1.fst : Int).toNat ([], [], [], false, [], [])).snd.snd.snd.snd.fst.length : Int), [])] =
    p'.fst ∧ ((↑p.fst : Int) = (↑p.fst : Int) ∧ (Mp.get (fun (x x_1 : Int) => x == x_1) (↑p.fst : Int) (p_1.snd ++ [((↑p.fst : Int) + (↑((openB ((r.fst, r.snd.fst, r.snd.snd), (f.fst, f.snd.fst,
    f.snd.snd), t.fst, t.snd.fst, t.snd.snd)).fst.getD (↑p_1.fst : Int).toNat ([], [], [], false, [], [])).snd.snd.snd.snd.fst.length : Int), [])])).getD [] = p'.snd ∧ True) ∧ True) ∧ ∀ (p_2 :
    NX × List (List UInt8 × Bool)), inIn (rsOf r f) (wOf f s) (↑p.fst : Int).toNat (↑p_1.fst : Int).toNat (p_1.snd ++ [((↑p.fst : Int) + (↑((openB ((r.fst, r.snd.fst, r.snd.snd), (f.fst,
    f.snd.fst, f.snd.snd), t.fst, t.snd.fst, t.snd.snd)).fst.getD (↑p_1.fst : Int).toNat ([], [], [], false, [], [])).snd.snd.snd.snd.fst.length : Int), [])]) p_2.fst p_2.snd → (p_2.snd = [] →
    ((-9223372036854775808 : Int) ≤ (↑p_1.fst : Int) + (1 : Int) ∧ (↑p_1.fst : Int) + (1 : Int) ≤ (9223372036854775807 : Int)) ∧ ∃ (p' : Nat × NX), inMid (rsOf r f) (wOf f s) (↑p.fst :
    Int).toNat p'.fst p'.snd ∧ (rsOf r f).length - p'.fst < (rsOf r f).length - p_1.fst ∧ ((↑p_1.fst : Int) + (1 : Int) = (↑p'.fst : Int) ∧ (openB ((r.fst, r.snd.fst, r.snd.snd), (f.fst,
    f.snd.fst, f.snd.snd), t.fst, t.snd.fst, t.snd.snd)).fst = (openB ((r.fst, r.snd.fst, r.snd.snd), (f.fst, f.snd.fst, f.snd.snd), t.fst, t.snd.fst, t.snd.snd)).fst ∧ (Al.readB (alOf (f.fst,
    f.snd.fst, f.snd.snd)) s).fst = (Al.readB (alOf (f.fst, f.snd.fst, f.snd.snd)) s).fst ∧ True ∧ (↑p.fst : Int) = (↑p.fst : Int) ∧ (↑(Al.readB (alOf (f.fst, f.snd.fst, f.snd.snd))
    s).fst.length : Int) = (↑(Al.readB (alOf (f.fst, f.snd.fst, f.snd.snd)) s).fst.length : Int) ∧ (↑p.fst : Int) = (↑p.fst : Int) ∧ (openB ((r.fst, r.snd.fst, r.snd.snd), (f.fst, f.snd.fst,
    f.snd.snd), t.fst, t.snd.fst, t.snd.snd)).fst = (openB ((r.fst, r.snd.fst, r.snd.snd), (f.fst, f.snd.fst, f.snd.snd), t.fst, t.snd.fst, t.snd.snd)).fst ∧ (↑(openB ((r.fst, r.snd.fst,
    r.snd.snd), (f.fst, f.snd.fst, f.snd.snd), t.fst, t.snd.fst, t.snd.snd)).fst.length : Int) = (↑(openB ((r.fst, r.snd.fst, r.snd.snd), (f.fst, f.snd.fst, f.snd.snd), t.fst, t.snd.fst,
    t.snd.snd)).fst.length : Int) ∧ True) ∧ True ∧ True ∧ True ∧ True ∧ True ∧ p_2.fst = p'.snd ∧ True) ∧ ∀ (j : Nat) (e : List UInt8 × Bool), p_2.snd[j]? = some e → e.fst.length + ((openB
    ((r.fst, r.snd.fst, r.snd.snd), (f.fst, f.snd.fst, f.snd.snd), t.fst, t.snd.fst, t.snd.snd)).fst.getD (↑p_1.fst : Int).toNat ([], [], [], false, [], [])).snd.fst.length ≤
    (9223372036854775807 : Nat) ∧ ((Mp.get (fun (x x_1 : Int) => x == x_1) ((↑p.fst : Int) + (↑((openB ((r.fst, r.snd.fst, r.snd.snd), (f.fst, f.snd.fst, f.snd.snd), t.fst, t.snd.fst,
    t.snd.snd)).fst.getD (↑p_1.fst : Int).toNat ([], [], [], false, [], [])).snd.snd.snd.snd.fst.length : Int)) p_2.fst).isSome = true ∧ ((↑p.fst : Int) = (↑p.fst : Int) + (↑((openB ((r.fst,
    r.snd.fst, r.snd.snd), (f.fst, f.snd.fst, f.snd.snd), t.fst, t.snd.fst, t.snd.snd)).fst.getD (↑p_1.fst : Int).toNat ([], [], [], false, [], [])).snd.snd.snd.snd.fst.length : Int) → False) ∧
    True) ∧ ∃ (p' : NX × List (List UInt8 × Bool)), inIn (rsOf r f) (wOf f s) (↑p.fst : Int).toNat (↑p_1.fst : Int).toNat (p_1.snd ++ [((↑p.fst : Int) + (↑((openB ((r.fst, r.snd.fst, r.snd.snd),
    (f.fst, f.snd.fst, f.snd.snd), t.fst, t.snd.fst, t.snd.snd)).fst.getD (↑p_1.fst : Int).toNat ([], [], [], false, [], [])).snd.snd.snd.snd.fst.length : Int), [])]) p'.fst p'.snd ∧
    p'.snd.length < p_2.snd.length ∧ ((openB ((r.fst, r.snd.fst, r.snd.snd), (f.fst, f.snd.fst, f.snd.snd), t.fst, t.snd.fst, t.snd.snd)).fst = (openB ((r.fst, r.snd.fst, r.snd.snd), (f.fst,
    f.snd.fst, f.snd.snd), t.fst, t.snd.fst, t.snd.snd)).fst ∧ (Al.readB (alOf (f.fst, f.snd.fst, f.snd.snd)) s).fst = (Al.readB (alOf (f.fst, f.snd.fst, f.snd.snd)) s).fst ∧ True ∧ (↑p.fst :
    Int) = (↑p.fst : Int) ∧ True ∧ (↑p.fst : Int) + (↑((openB ((r.fst, r.snd.fst, r.snd.snd), (f.fst, f.snd.fst, f.snd.snd), t.fst, t.snd.fst, t.snd.snd)).fst.getD (↑p_1.fst : Int).toNat ([],
    [], [], false, [], [])).snd.snd.snd.snd.fst.length : Int) = (↑p.fst : Int) + (↑((openB ((r.fst, r.snd.fst, r.snd.snd), (f.fst, f.snd.fst, f.snd.snd), t.fst, t.snd.fst, t.snd.snd)).fst.getD
    (↑p_1.fst : Int).toNat ([], [], [], false, [], [])).snd.snd.snd.snd.fst.length : Int) ∧ (↑(Al.readB (alOf (f.fst, f.snd.fst, f.snd.snd)) s).fst.length : Int) = (↑(Al.readB (alOf (f.fst,
    f.snd.fst, f.snd.snd)) s).fst.length : Int) ∧ (↑p.fst : Int) = (↑p.fst : Int) ∧ (openB ((r.fst, r.snd.fst, r.snd.snd), (f.fst, f.snd.fst, f.snd.snd), t.fst, t.snd.fst, t.snd.snd)).fst =
    (openB ((r.fst, r.snd.fst, r.snd.snd), (f.fst, f.snd.fst, f.snd.snd), t.fst, t.snd.fst, t.snd.snd)).fst ∧ (↑(openB ((r.fst, r.snd.fst, r.snd.snd), (f.fst, f.snd.fst, f.snd.snd), t.fst,
    t.snd.fst, t.snd.snd)).fst.length : Int) = (↑(openB ((r.fst, r.snd.fst, r.snd.snd), (f.fst, f.snd.fst, f.snd.snd), t.fst, t.snd.fst, t.snd.snd)).fst.length : Int) ∧ (↑p_1.fst : Int) =
    (↑p_1.fst : Int) ∧ True ∧ True) ∧ ((((openB ((r.fst, r.snd.fst, r.snd.snd), (f.fst, f.snd.fst, f.snd.snd), t.fst, t.snd.fst, t.snd.snd)).fst.getD (↑p_1.fst : Int).toNat ([], [], [], false,
    [], [])).fst = ((openB ((r.fst, r.snd.fst, r.snd.snd), (f.fst, f.snd.fst, f.snd.snd), t.fst, t.snd.fst, t.snd.snd)).fst.getD (↑p_1.fst : Int).toNat ([], [], [], false, [], [])).fst ∧ ((openB
    ((r.fst, r.snd.fst, r.snd.snd), (f.fst, f.snd.fst, f.snd.snd), t.fst, t.snd.fst, t.snd.snd)).fst.getD (↑p_1.fst : Int).toNat ([], [], [], false, [], [])).snd.fst = ((openB ((r.fst,
    r.snd.fst, r.snd.snd), (f.fst, f.snd.fst, f.snd.snd), t.fst, t.snd.fst, t.snd.snd)).fst.getD (↑p_1.fst : Int).toNat ([], [], [], false, [], [])).snd.fst ∧ ((openB ((r.fst, r.snd.fst,
    r.snd.snd), (f.fst, f.snd.fst, f.snd.snd), t.fst, t.snd.fst, t.snd.snd)).fst.getD (↑p_1.fst : Int).toNat ([], [], [], false, [], [])).snd.snd.fst = ((openB ((r.fst, r.snd.fst, r.snd.snd),
    (f.fst, f.snd.fst, f.snd.snd), t.fst, t.snd.fst, t.snd.snd)).fst.getD (↑p_1.fst : Int).toNat ([], [], [], false, [], [])).snd.snd.fst ∧ ((openB ((r.fst, r.snd.fst, r.snd.snd), (f.fst,
    f.snd.fst, f.snd.snd), t.fst, t.snd.fst, t.snd.snd)).fst.getD (↑p_1.fst : Int).toNat ([], [], [], false, [], [])).snd.snd.snd.fst = ((openB ((r.fst, r.snd.fst, r.snd.snd), (f.fst, f.snd.fst,
    f.snd.snd), t.fst, t.snd.fst, t.snd.snd)).fst.getD (↑p_1.fst : Int).toNat ([], [], [], false, [], [])).snd.snd.snd.fst ∧ ((openB ((r.fst, r.snd.fst, r.snd.snd), (f.fst, f.snd.fst,
    f.snd.snd), t.fst, t.snd.fst, t.snd.snd)).fst.getD (↑p_1.fst : Int).toNat ([], [], [], false, [], [])).snd.snd.snd.snd.fst = ((openB ((r.fst, r.snd.fst, r.snd.snd), (f.fst, f.snd.fst,
    f.snd.snd), t.fst, t.snd.fst, t.snd.snd)).fst.getD (↑p_1.fst : Int).toNat ([], [], [], false, [], [])).snd.snd.snd.snd.fst ∧ ((openB ((r.fst, r.snd.fst, r.snd.snd), (f.fst, f.snd.fst,
    f.snd.snd), t.fst, t.snd.fst, t.snd.snd)).fst.getD (↑p_1.fst : Int).toNat ([], [], [], false, [], [])).snd.snd.snd.snd.snd = ((openB ((r.fst, r.snd.fst, r.snd.snd), (f.fst, f.snd.fst,
    f.snd.snd), t.fst, t.snd.fst, t.snd.snd)).fst.getD (↑p_1.fst : Int).toNat ([], [], [], false, [], [])).snd.snd.snd.snd.snd ∧ True) ∧ True) ∧ True ∧ True ∧ True ∧ True ∧ Mp.put (fun (x x_1 :
    Int) => x == x_1) ((↑p.fst : Int) + (↑((openB ((r.fst, r.snd.fst, r.snd.snd), (f.fst, f.snd.fst, f.snd.snd), t.fst, t.snd.fst, t.snd.snd)).fst.getD (↑p_1.fst : Int).toNat ([], [], [], false,
    [], [])).snd.snd.snd.snd.fst.length : Int)) (Mp.put (fun (x x_1 : List UInt8) => x == x_1) (e.fst ++ ((openB ((r.fst, r.snd.fst, r.snd.snd), (f.fst, f.snd.fst, f.snd.snd), t.fst, t.snd.fst,
    t.snd.snd)).fst.getD (↑p_1.fst : Int).toNat ([], [], [], false, [], [])).snd.fst) true ((Mp.get (fun (x x_1 : Int) => x == x_1) ((↑p.fst : Int) + (↑((openB ((r.fst, r.snd.fst, r.snd.snd),
    (f.fst, f.snd.fst, f.snd.snd), t.fst, t.snd.fst, t.snd.snd)).fst.getD (↑p_1.fst : Int).toNat ([], [], [], false, [], [])).snd.snd.snd.snd.fst.length : Int)) p_2.fst).getD [])) p_2.fst =
    p'.fst ∧ ((↑p.fst : Int) = (↑p.fst : Int) ∧ p_2.snd.eraseIdx j = p'.snd ∧ True) ∧ True else (∃ (p' : NX × List (List UInt8 × Bool)), inIn (rsOf r f) (wOf f s) (↑p.fst : Int).toNat (↑p_1.fst
    : Int).toNat p_1.snd p'.fst p'.snd ∧ ((openB ((r.fst, r.snd.fst, r.snd.snd), (f.fst, f.snd.fst, f.snd.snd), t.fst, t.snd.fst, t.snd.snd)).fst = (openB ((r.fst, r.snd.fst, r.snd.snd), (f.fst,
    f.snd.fst, f.snd.snd), t.fst, t.snd.fst, t.snd.snd)).fst ∧ (Al.readB (alOf (f.fst, f.snd.fst, f.snd.snd)) s).fst = (Al.readB (alOf (f.fst, f.snd.fst, f.snd.snd)) s).fst ∧ True ∧ (↑p.fst :
    Int) = (↑p.fst : Int) ∧ True ∧ (↑p.fst : Int) + (↑((openB ((r.fst, r.snd.fst, r.snd.snd), (f.fst, f.snd.fst, f.snd.snd), t.fst, t.snd.fst, t.snd.snd)).fst.getD (↑p_1.fst : Int).toNat ([],
    [], [], false, [], [])).snd.snd.snd.snd.fst.length : Int) = (↑p.fst : Int) + (↑((openB ((r.fst, r.snd.fst, r.snd.snd), (f.fst, f.snd.fst, f.snd.snd), t.fst, t.snd.fst, t.snd.snd)).fst.getD
    (↑p_1.fst : Int).toNat ([], [], [], false, [], [])).snd.snd.snd.snd.fst.length : Int) ∧ (↑(Al.readB (alOf (f.fst, f.snd.fst, f.snd.snd)) s).fst.length : Int) = (↑(Al.readB (alOf (f.fst,
    f.snd.fst, f.snd.snd)) s).fst.length : Int) ∧ (↑p.fst : Int) = (↑p.fst : Int) ∧ (openB ((r.fst, r.snd.fst, r.snd.snd), (f.fst, f.snd.fst, f.snd.snd), t.fst, t.snd.fst, t.snd.snd)).fst =
    (openB ((r.fst, r.snd.fst, r.snd.snd), (f.fst, f.snd.fst, f.snd.snd), t.fst, t.snd.fst, t.snd.snd)).fst ∧ (↑(openB ((r.fst, r.snd.fst, r.snd.snd), (f.fst, f.snd.fst, f.snd.snd), t.fst,
    t.snd.fst, t.snd.snd)).fst.length : Int) = (↑(openB ((r.fst, r.snd.fst, r.snd.snd), (f.fst, f.snd.fst, f.snd.snd), t.fst, t.snd.fst, t.snd.snd)).fst.length : Int) ∧ (↑p_1.fst : Int) =
    (↑p_1.fst : Int) ∧ True ∧ True) ∧ ((((openB ((r.fst, r.snd.fst, r.snd.snd), (f.fst, f.snd.fst, f.snd.snd), t.fst, t.snd.fst, t.snd.snd)).fst.getD (↑p_1.fst : Int).toNat ([], [], [], false,
    [], [])).fst = ((openB ((r.fst, r.snd.fst, r.snd.snd), (f.fst, f.snd.fst, f.snd.snd), t.fst, t.snd.fst, t.snd.snd)).fst.getD (↑p_1.fst : Int).toNat ([], [], [], false, [], [])).fst ∧ ((openB
    ((r.fst, r.snd.fst, r.snd.snd), (f.fst, f.snd.fst, f.snd.snd), t.fst, t.snd.fst, t.snd.snd)).fst.getD (↑p_1.fst : Int).toNat ([], [], [], false, [], [])).snd.fst = ((openB ((r.fst,
    r.snd.fst, r.snd.snd), (f.fst, f.snd.fst, f.snd.snd), t.fst, t.snd.fst, t.snd.snd)).fst.getD (↑p_1.fst : Int).toNat ([], [], [], false, [], [])).snd.fst ∧ ((openB ((r.fst, r.snd.fst,
    r.snd.snd), (f.fst, f.snd.fst, f.snd.snd), t.fst, t.snd.fst, t.snd.snd)).fst.getD (↑p_1.fst : Int).toNat ([], [], [], false, [], [])).snd.snd.fst = ((openB ((r.fst, r.snd.fst, r.snd.snd),
    (f.fst, f.snd.fst, f.snd.snd), t.fst, t.snd.fst, t.snd.snd)).fst.getD (↑p_1.fst : Int).toNat ([], [], [], false, [], [])).snd.snd.fst ∧ ((openB ((r.fst, r.snd.fst, r.snd.snd), (f.fst,
    f.snd.fst, f.snd.snd), t.fst, t.snd.fst, t.snd.snd)).fst.getD (↑p_1.fst : Int).toNat ([], [], [], false, [], [])).snd.snd.snd.fst = ((openB ((r.fst, r.snd.fst, r.snd.snd), (f.fst, f.snd.fst,
    f.snd.snd), t.fst, t.snd.fst, t.snd.snd)).fst.getD (↑p_1.fst : Int).toNat ([], [], [], false, [], [])).snd.snd.snd.fst ∧ ((openB ((r.fst, r.snd.fst, r.snd.snd), (f.fst, f.snd.fst,
    f.snd.snd), t.fst, t.snd.fst, t.snd.snd)).fst.getD (↑p_1.fst : Int).toNat ([], [], [], false, [], [])).snd.snd.snd.snd.fst = ((openB ((r.fst, r.snd.fst, r.snd.snd), (f.fst, f.snd.fst,
    f.snd.snd), t.fst, t.snd.fst, t.snd.snd)).fst.getD (↑p_1.fst : Int).toNat ([], [], [], false, [], [])).snd.snd.snd.snd.fst ∧ ((openB ((r.fst, r.snd.fst, r.snd.snd), (f.fst, f.snd.fst,
    f.snd.snd), t.fst, t.snd.fst, t.snd.snd)).fst.getD (↑p_1.fst : Int).toNat ([], [], [], false, [], [])).snd.snd.snd.snd.snd = ((openB ((r.fst, r.snd.fst, r.snd.snd), (f.fst, f.snd.fst,
    f.snd.snd), t.fst, t.snd.fst, t.snd.snd)).fst.getD (↑p_1.fst : Int).toNat ([], [], [], false, [], [])).snd.snd.snd.snd.snd ∧ True) ∧ True) ∧ True ∧ True ∧ True ∧ True ∧ p_1.snd = p'.fst ∧
    ((↑p.fst : Int) = (↑p.fst : Int) ∧ (Mp.get (fun (x x_1 : Int) => x == x_1) (↑p.fst : Int) p_1.snd).getD [] = p'.snd ∧ True) ∧ True) ∧ ∀ (p_2 : NX × List (List UInt8 × Bool)), inIn (rsOf r f)
    (wOf f s) (↑p.fst : Int).toNat (↑p_1.fst : Int).toNat p_1.snd p_2.fst p_2.snd → (p_2.snd = [] → ((-9223372036854775808 : Int) ≤ (↑p_1.fst : Int) + (1 : Int) ∧ (↑p_1.fst : Int) + (1 : Int) ≤
    (9223372036854775807 : Int)) ∧ ∃ (p' : Nat × NX), inMid (rsOf r f) (wOf f s) (↑p.fst : Int).toNat p'.fst p'.snd ∧ (rsOf r f).length - p'.fst < (rsOf r f).length - p_1.fst ∧ ((↑p_1.fst : Int)
    + (1 : Int) = (↑p'.fst : Int) ∧ (openB ((r.fst, r.snd.fst, r.snd.snd), (f.fst, f.snd.fst, f.snd.snd), t.fst, t.snd.fst, t.snd.snd)).fst = (openB ((r.fst, r.snd.fst, r.snd.snd), (f.fst,
    f.snd.fst, f.snd.snd), t.fst, t.snd.fst, t.snd.snd)).fst ∧ (Al.readB (alOf (f.fst, f.snd.fst, f.snd.snd)) s).fst = (Al.readB (alOf (f.fst, f.snd.fst, f.snd.snd)) s).fst ∧ True ∧ (↑p.fst :
    Int) = (↑p.fst : Int) ∧ (↑(Al.readB (alOf (f.fst, f.snd.fst, f.snd.snd)) s).fst.length : Int) = (↑(Al.readB (alOf (f.fst, f.snd.fst, f.snd.snd)) s).fst.length : Int) ∧ (↑p.fst : Int) =
    (↑p.fst : Int) ∧ (openB ((r.fst, r.snd.fst, r.snd.snd), (f.fst, f.snd.fst, f.snd.snd), t.fst, t.snd.fst, t.snd.snd)).fst = (openB ((r.fst, r.snd.fst, r.snd.snd), (f.fst, f.snd.fst,
    f.snd.snd), t.fst, t.snd.fst, t.snd.snd)).fst ∧ (↑(openB ((r.fst, r.snd.fst, r.snd.snd), (f.fst, f.snd.fst, f.snd.snd), t.fst, t.snd.fst, t.snd.snd)).fst.length : Int) = (↑(openB ((r.fst,
    r.snd.fst, r.snd.snd), (f.fst, f.snd.fst, f.snd.snd), t.fst, t.snd.fst, t.snd.snd)).fst.length : Int) ∧ True) ∧ True ∧ True ∧ True ∧ True ∧ True ∧ p_2.fst = p'.snd ∧ True) ∧ ∀ (j : Nat) (e :
    List UInt8 × Bool), p_2.snd[j]? = some e → e.fst.length + ((openB ((r.fst, r.snd.fst, r.snd.snd), (f.fst, f.snd.fst, f.snd.snd), t.fst, t.snd.fst, t.snd.snd)).fst.getD (↑p_1.fst : Int).toNat
    ([], [], [], false, [], [])).snd.fst.length ≤ (9223372036854775807 : Nat) ∧ ((Mp.get (fun (x x_1 : Int) => x == x_1) ((↑p.fst : Int) + (↑((openB ((r.fst, r.snd.fst, r.snd.snd), (f.fst,
    f.snd.fst, f.snd.snd), t.fst, t.snd.fst, t.snd.snd)).fst.getD (↑p_1.fst : Int).toNat ([], [], [], false, [], [])).snd.snd.snd.snd.fst.length : Int)) p_2.fst).isSome = true ∧ ((↑p.fst : Int)
    = (↑p.fst : Int) + (↑((openB ((r.fst, r.snd.fst, r.snd.snd), (f.fst, f.snd.fst, f.snd.snd), t.fst, t.snd.fst, t.snd.snd)).fst.getD (↑p_1.fst : Int).toNat ([], [], [], false, [],
    [])).snd.snd.snd.snd.fst.length : Int) → False) ∧ True) ∧ ∃ (p' : NX × List (List UInt8 × Bool)), inIn (rsOf r f) (wOf f s) (↑p.fst : Int).toNat (↑p_1.fst : Int).toNat p_1.snd p'.fst p'.snd
    ∧ p'.snd.length < p_2.snd.length ∧ ((openB ((r.fst, r.snd.fst, r.snd.snd), (f.fst, f.snd.fst, f.snd.snd), t.fst, t.snd.fst, t.snd.snd)).fst = (openB ((r.fst, r.snd.fst, r.snd.snd), (f.fst,
    f.snd.fst, f.snd.snd), t.fst, t.snd.fst, t.snd.snd)).fst ∧ (Al.readB (alOf (f.fst, f.snd.fst, f.snd.snd)) s).fst = (Al.readB (alOf (f.fst, f.snd.fst, f.snd.snd)) s).fst ∧ True ∧ (↑p.fst :
    Int) = (↑p.fst : Int) ∧ True ∧ (↑p.fst : Int) + (↑((openB ((r.fst, r.snd.fst, r.snd.snd), (f.fst, f.snd.fst, f.snd.snd), t.fst, t.snd.fst, t.snd.snd)).fst.getD (↑p_1.fst : Int).toNat ([],
    [], [], false, [], [])).snd.snd.snd.snd.fst.length : Int) = (↑p.fst : Int) + (↑((openB ((r.fst, r.snd.fst, r.snd.snd), (f.fst, f.snd.fst, f.snd.snd), t.fst, t.snd.fst, t.snd.snd)).fst.getD
    (↑p_1.fst : Int).toNat ([], [], [], false, [], [])).snd.snd.snd.snd.fst.length : Int) ∧ (↑(Al.readB (alOf (f.fst, f.snd.fst, f.snd.snd)) s).fst.length : Int) = (↑(Al.readB (alOf (f.fst,
    f.snd.fst, f.snd.snd)) s).fst.length : Int) ∧ (↑p.fst : Int) = (↑p.fst : Int) ∧ (openB ((r.fst, r.snd.fst, r.snd.snd), (f.fst, f.snd.fst, f.snd.snd), t.fst, t.snd.fst, t.snd.snd)).fst =
    (openB ((r.fst, r.snd.fst, r.snd.snd), (f.fst, f.snd.fst, f.snd.snd), t.fst, t.snd.fst, t.snd.snd)).fst ∧ (↑(openB ((r.fst, r.snd.fst, r.snd.snd), (f.fst, f.snd.fst, f.snd.snd), t.fst,
    t.snd.fst, t.snd.snd)).fst.length : Int) = (↑(openB ((r.fst, r.snd.fst, r.snd.snd), (f.fst, f.snd.fst, f.snd.snd), t.fst, t.snd.fst, t.snd.snd)).fst.length : Int) ∧ (↑p_1.fst : Int) =
    (↑p_1.fst : Int) ∧ True ∧ True) ∧ ((((openB ((r.fst, r.snd.fst, r.snd.snd), (f.fst, f.snd.fst, f.snd.snd), t.fst, t.snd.fst, t.snd.snd)).fst.getD (↑p_1.fst : Int).toNat ([], [], [], false,
    [], [])).fst = ((openB ((r.fst, r.snd.fst, r.snd.snd), (f.fst, f.snd.fst, f.snd.snd), t.fst, t.snd.fst, t.snd.snd)).fst.getD (↑p_1.fst : Int).toNat ([], [], [], false, [], [])).fst ∧ ((openB
    ((r.fst, r.snd.fst, r.snd.snd), (f.fst, f.snd.fst, f.snd.snd), t.fst, t.snd.fst, t.snd.snd)).fst.getD (↑p_1.fst : Int).toNat ([], [], [], false, [], [])).snd.fst = ((openB ((r.fst,
    r.snd.fst, r.snd.snd), (f.fst, f.snd.fst, f.snd.snd), t.fst, t.snd.fst, t.snd.snd)).fst.getD (↑p_1.fst : Int).toNat ([], [], [], false, [], [])).snd.fst ∧ ((openB ((r.fst, r.snd.fst,
    r.snd.snd), (f.fst, f.snd.fst, f.snd.snd), t.fst, t.snd.fst, t.snd.snd)).fst.getD (↑p_1.fst : Int).toNat ([], [], [], false, [], [])).snd.snd.fst = ((openB ((r.fst, r.snd.fst, r.snd.snd),
    (f.fst, f.snd.fst, f.snd.snd), t.fst, t.snd.fst, t.snd.snd)).fst.getD (↑p_1.fst : Int).toNat ([], [], [], false, [], [])).snd.snd.fst ∧ ((openB ((r.fst, r.snd.fst, r.snd.snd), (f.fst,
    f.snd.fst, f.snd.snd), t.fst, t.snd.fst, t.snd.snd)).fst.getD (↑p_1.fst : Int).toNat ([], [], [], false, [], [])).snd.snd.snd.fst = ((openB ((r.fst, r.snd.fst, r.snd.snd), (f.fst, f.snd.fst,
    f.snd.snd), t.fst, t.snd.fst, t.snd.snd)).fst.getD (↑p_1.fst : Int).toNat ([], [], [], false, [], [])).snd.snd.snd.fst ∧ ((openB ((r.fst, r.snd.fst, r.snd.snd), (f.fst, f.snd.fst,
    f.snd.snd), t.fst, t.snd.fst, t.snd.snd)).fst.getD (↑p_1.fst : Int).toNat ([], [], [], false, [], [])).snd.snd.snd.snd.fst = ((openB ((r.fst, r.snd.fst, r.snd.snd), (f.fst, f.snd.fst,
    f.snd.snd), t.fst, t.snd.fst, t.snd.snd)).fst.getD (↑p_1.fst : Int).toNat ([], [], [], false, [], [])).snd.snd.snd.snd.fst ∧ ((openB ((r.fst, r.snd.fst, r.snd.snd), (f.fst, f.snd.fst,
    f.snd.snd), t.fst, t.snd.fst, t.snd.snd)).fst.getD (↑p_1.fst : Int).toNat ([], [], [], false, [], [])).snd.snd.snd.snd.snd = ((openB ((r.fst, r.snd.fst, r.snd.snd), (f.fst, f.snd.fst,
    f.snd.snd), t.fst, t.snd.fst, t.snd.snd)).fst.getD (↑p_1.fst : Int).toNat ([], [], [], false, [], [])).snd.snd.snd.snd.snd ∧ True) ∧ True) ∧ True ∧ True ∧ True ∧ True ∧ Mp.put (fun (x x_1 :
    Int) => x == x_1) ((↑p.fst : Int) + (↑((openB ((r.fst, r.snd.fst, r.snd.snd), (f.fst, f.snd.fst, f.snd.snd), t.fst, t.snd.fst, t.snd.snd)).fst.getD (↑p_1.fst : Int).toNat ([], [], [], false,
    [], [])).snd.snd.snd.snd.fst.length : Int)) (Mp.put (fun (x x_1 : List UInt8) => x == x_1) (e.fst ++ ((openB ((r.fst, r.snd.fst, r.snd.snd), (f.fst, f.snd.fst, f.snd.snd), t.fst, t.snd.fst,
    t.snd.snd)).fst.getD (↑p_1.fst : Int).toNat ([], [], [], false, [], [])).snd.fst) true ((Mp.get (fun (x x_1 : Int) => x == x_1) ((↑p.fst : Int) + (↑((openB ((r.fst, r.snd.fst, r.snd.snd),
    (f.fst, f.snd.fst, f.snd.snd), t.fst, t.snd.fst, t.snd.snd)).fst.getD (↑p_1.fst : Int).toNat ([], [], [], false, [], [])).snd.snd.snd.snd.fst.length : Int)) p_2.fst).getD [])) p_2.fst =
    p'.fst ∧ ((↑p.fst : Int) = (↑p.fst : Int) ∧ p_2.snd.eraseIdx j = p'.snd ∧ True) ∧ True else ((-9223372036854775808 : Int) ≤ (↑p.fst : Int) + (1 : Int) ∧ (↑p.fst : Int) + (1 : Int) ≤
    (9223372036854775807 : Int)) ∧ ∃ (p' : Nat × NX), inOut (rsOf r f) (wOf f s) p'.fst p'.snd ∧ (wOf f s).length - p'.fst < (wOf f s).length - p.fst ∧ ((↑p.fst : Int) + (1 : Int) = (↑p'.fst :
    Int) ∧ (openB ((r.fst, r.snd.fst, r.snd.snd), (f.fst, f.snd.fst, f.snd.snd), t.fst, t.snd.fst, t.snd.snd)).fst = (openB ((r.fst, r.snd.fst, r.snd.snd), (f.fst, f.snd.fst, f.snd.snd), t.fst,
    t.snd.fst, t.snd.snd)).fst ∧ (Al.readB (alOf (f.fst, f.snd.fst, f.snd.snd)) s).fst = (Al.readB (alOf (f.fst, f.snd.fst, f.snd.snd)) s).fst ∧ True ∧ (↑(Al.readB (alOf (f.fst, f.snd.fst,
    f.snd.snd)) s).fst.length : Int) = (↑(Al.readB (alOf (f.fst, f.snd.fst, f.snd.snd)) s).fst.length : Int) ∧ True) ∧ True ∧ True ∧ True ∧ True ∧ True ∧ p_1.snd = p'.snd ∧ True else bif decide
    ((200 : Int) < (↑((Mp.get (fun (x x_1 : Int) => x == x_1) (↑(Al.readB (alOf (f.fst, f.snd.fst, f.snd.snd)) s).fst.length : Int) p.snd).getD []).length : Int)) then ([], (2 : Int)) =
    Rul.writingsB r (alOf f) (alOf t) s else ((List.map (fun (x : List UInt8 × Bool) => x.fst) ((Mp.get (fun (x x_1 : Int) => x == x_1) (↑(Al.readB (alOf (f.fst, f.snd.fst, f.snd.snd))
    s).fst.length : Int) p.snd).getD [])).Nodup ∧ (List.map (fun (x : List UInt8 × Bool) => x.fst) ((Mp.get (fun (x x_1 : Int) => x == x_1) (↑(Al.readB (alOf (f.fst, f.snd.fst, f.snd.snd))
    s).fst.length : Int) p.snd).getD [])).length ≤ (1000000000 : Nat) ∧ ∀ (x : List UInt8), x ∈ List.map (fun (x : List UInt8 × Bool) => x.fst) ((Mp.get (fun (x x_1 : Int) => x == x_1)
    (↑(Al.readB (alOf (f.fst, f.snd.fst, f.snd.snd)) s).fst.length : Int) p.snd).getD []) → x.length ≤ (1000000000 : Nat)) ∧ ((List.map (fun (x : List UInt8 × Bool) => x.fst) ((Mp.get (fun (x
    x_1 : Int) => x == x_1) (↑(Al.readB (alOf (f.fst, f.snd.fst, f.snd.snd)) s).fst.length : Int) p.snd).getD [])).mergeSort fun (x y : List UInt8) => decide (x ≤ y), (0 : Int)) = Rul.writingsB
    r (alOf f) (alOf t) s
    /-CV-/ := by
  simp only [true_and, and_true]
  obtain ⟨hFr, hFf, hFt, hs⟩ := h
  obtain ⟨r1, r2, l⟩ := r
  obtain ⟨f1, f2, f3⟩ := f
  obtain ⟨t1, t2, t3⟩ := t
  dsimp only at hFr hFf hFt hs ⊢
  have hw0 : Rul.writingsB (r1, r2, l) (alOf (f1, f2, f3)) (alOf (t1, t2, t3)) s = if Rul.validB (r1, r2, l) (alOf (f1, f2, f3)) (alOf (t1, t2, t3)) && (Al.readL f2 s).2.1 == 0 then Rul.writeL (rsOf (r1, r2, l) (f1, f2, f3)) (Al.readL f2 s).1 else ([], 1) := rfl
  refine ⟨⟨hFr, hFf, hFt⟩, bifP (fun hv => ?_) fun hv => ⟨⟨hFf, hs⟩, bifP (fun he => ?_) fun he => ?_⟩⟩
  · have : Rul.validB (r1, r2, l) (alOf (f1, f2, f3)) (alOf (t1, t2, t3)) = false := by
      cases h : Rul.validB (r1, r2, l) (alOf (f1, f2, f3)) (alOf (t1, t2, t3))
      · rfl
      · unfold openB at hv
        dsimp only at hv
        rw [if_pos h] at hv; cases hv
    rw [hw0, this]; rfl
  · have hval : Rul.validB (r1, r2, l) (alOf (f1, f2, f3)) (alOf (t1, t2, t3)) = true := by
      cases h : Rul.validB (r1, r2, l) (alOf (f1, f2, f3)) (alOf (t1, t2, t3))
      · unfold openB at hv
        dsimp only at hv
        rw [h] at hv; cases hv
      · rfl
    have hva : Al.validB (alOf (f1, f2, f3)) = true := by
      unfold Rul.validB at hval
      simp only [Bool.and_eq_true] at hval
      exact hval.2.1
    have hre : Al.readB (alOf (f1, f2, f3)) s = Al.readL f2 s := by unfold Al.readB; rw [if_pos hva]; rfl
    rw [hre] at he
    rw [hw0, hval, show ((Al.readL f2 s).2.1 == 0) = false by simpa using he]; rfl
  · have hval : Rul.validB (r1, r2, l) (alOf (f1, f2, f3)) (alOf (t1, t2, t3)) = true := by
      cases h : Rul.validB (r1, r2, l) (alOf (f1, f2, f3)) (alOf (t1, t2, t3))
      · unfold openB at hv
        dsimp only at hv
        rw [h] at hv; cases hv
      · rfl
    have hva : Al.validB (alOf (f1, f2, f3)) = true := by
      unfold Rul.validB at hval
      simp only [Bool.and_eq_true] at hval
      exact hval.2.1
    have hre : Al.readB (alOf (f1, f2, f3)) s = Al.readL f2 s := by unfold Al.readB; rw [if_pos hva]; rfl
    have hob : (openB ((r1, r2, l), (f1, f2, f3), t1, t2, t3)).1 = (rsOf (r1, r2, l) (f1, f2, f3)).map opOf := by
      unfold openB; dsimp only; rw [if_pos hval]; rfl
    obtain ⟨hp, hm⟩ := Rul.pos_of hval
    have hp : Rul.Pos (rsOf (r1, r2, l) (f1, f2, f3)) := hp
    have hm : ∀ x ∈ rsOf (r1, r2, l) (f1, f2, f3), x.1.2.1.length ≤ 9 := hm
    have hlen : (rsOf (r1, r2, l) (f1, f2, f3)).length ≤ 1000 := by
      unfold rsOf; rw [List.length_map]; exact hFr.2.2.1
    have hmost := Al.readL_most f2 s
    have hbig : ∀ x ∈ rsOf (r1, r2, l) (f1, f2, f3), x.2.1.length ≤ 24 ∧ x.2.2.length ≤ 24 := fun x hx => by
      obtain ⟨y, _, rfl⟩ := List.mem_map.1 hx
      have hro : ∀ (s : List UInt8) (m : Int), (Rul.readO f2 s m).1.length ≤ 24 := fun s m => by
        unfold Rul.readO
        split
        · exact Nat.zero_le _
        · exact Al.readL_most f2 s
      exact ⟨hro _ _, hro _ _⟩
    have hwo : wOf (f1, f2, f3) s = (Al.readL f2 s).1 := by unfold wOf; rw [hre]
    rw [hre] at he
    have he0 : ((Al.readL f2 s).2.1 == 0) = true := by simpa using he
    rw [hval, he0] at hw0
    rw [hw0, hwo, hre, hob]
    clear hw0 hwo hre hob he he0
    generalize rsOf (r1, r2, l) (f1, f2, f3) = rs at *
    generalize (Al.readL f2 s).1 = w at *
    simp only [List.length_map, getD_op, Int.toNat_natCast, List.take_length]
    rw [show (if (true && true) = true then Rul.writeL rs w else ([], 1)) = Rul.writeL rs w from rfl]
    have len_of : ∀ (k : Nat) (xs : NX), (tabAt xs k).length = ((Mp.get eqI (k : Int) xs).getD []).length := fun k xs => List.length_map _
    have big : ∀ {k i : Nat} {xs : NX} {x : List UInt8}, inMid rs w k i xs → k ≤ w.length → x ∈ tabAt xs k → x.length ≤ 216 := fun {k i xs x} h hk hx => by
      have := reach_len hp hm ((Rul.stage_reach hp (Nat.le_refl k)).1 ((h.2.mem k x).1 hx))
      omega
    have inner : ∀ (k i : Nat) (xs : NX), k < w.length → i < rs.length → Rul.standsB (rAt rs i) (w.drop k) = true → inMid rs w k i xs → (Mp.get eqI ((k + (rAt rs i).2.1.length : Nat) : Int) xs).isSome = true →
        (∃ p' : NX × List (List UInt8 × Bool), inIn rs w k i xs p'.1 p'.2 ∧ xs = p'.1 ∧ (Mp.get eqI (k : Int) xs).getD [] = p'.2) ∧
        ∀ p : NX × List (List UInt8 × Bool), inIn rs w k i xs p.1 p.2 →
          (p.2 = [] → ((-9223372036854775808 : Int) ≤ (i : Int) + 1 ∧ (i : Int) + 1 ≤ 9223372036854775807) ∧ ∃ p' : Nat × NX, inMid rs w k p'.1 p'.2 ∧ rs.length - p'.1 < rs.length - i ∧ (i : Int) + 1 = (p'.1 : Int) ∧ p.1 = p'.2) ∧
          ∀ (j : Nat) (e : List UInt8 × Bool), p.2[j]? = some e → e.1.length + (rAt rs i).1.2.1.length ≤ 9223372036854775807 ∧
            ((Mp.get eqI ((k + (rAt rs i).2.1.length : Nat) : Int) p.1).isSome = true ∧ ((k : Int) = (k : Int) + ((rAt rs i).2.1.length : Int) → False)) ∧
            ∃ p' : NX × List (List UInt8 × Bool), inIn rs w k i xs p'.1 p'.2 ∧ p'.2.length < p.2.length ∧ putS p.1 (k + (rAt rs i).2.1.length) (e.1 ++ (rAt rs i).1.2.1) = p'.1 ∧ p.2.eraseIdx j = p'.2 := fun k i xs hk hi hst hmid hat => by
      have hpos := hp _ (rAt_mem hi)
      have hto := hm _ (rAt_mem hi)
      refine ⟨⟨(xs, _), in_start hmid hat, rfl, rfl⟩, fun q hq => ⟨fun hl => ?_, fun j e he => ?_⟩⟩
      · obtain ⟨xs', left⟩ := q
        dsimp only at hl hq ⊢
        subst hl
        exact ⟨⟨by omega, by omega⟩, (i + 1, xs'), in_end hp hmid hi hk hst hq, by dsimp only; omega, by dsimp only; omega, rfl⟩
      · obtain ⟨xs', left⟩ := q
        dsimp only at hq he ⊢
        have hmem : e.1 ∈ tabAt xs k := by
          obtain ⟨_, done, hpm, _⟩ := hq
          exact hpm.mem_iff.2 (List.mem_append_right _ (List.mem_map.2 ⟨e, List.mem_of_getElem? he, rfl⟩))
        have hel := big hmid (Nat.le_of_lt hk) hmem
        have hj : j < left.length := (List.getElem?_eq_some_iff.1 he).1
        exact ⟨by omega, ⟨hq.1, fun e => by omega⟩, (_, left.eraseIdx j), in_step hq he, by dsimp only; rw [List.length_eraseIdx_of_lt hj]; omega, rfl, rfl⟩
    refine ⟨rfl, ⟨(0, [((0 : Int), [([], true)])]), ⟨Nat.zero_le _, rfl, tab_start⟩, rfl, rfl⟩, fun p hO => ?_⟩
    obtain ⟨k, xs0⟩ := p
    dsimp only at hO ⊢
    refine bifP (fun hb => bifP (fun h2 => ?_) fun h2 => ⟨⟨(0, xs0), ⟨Nat.zero_le _, hO.2.2⟩, rfl, rfl⟩, fun p hI => ?_⟩) fun hb => ?_
    · exact (many_out hp hO (by rw [len_of]; exact Int.ofNat_lt.1 (of_decide_eq_true h2))).symm
    · have hk : k < w.length := by have := of_decide_eq_true hb; omega
      obtain ⟨i, xs⟩ := p
      dsimp only at hI ⊢
      have h2' : (tabAt xs0 k).length ≤ 200 := by
        rw [len_of]
        have := of_decide_eq_false h2
        exact Int.ofNat_le.1 (Int.not_lt.1 this)
      refine bifP (fun hc => ?_) fun hc => ?_
      · have hi : i < rs.length := by have := of_decide_eq_true hc; omega
        have hx := hbig _ (rAt_mem hi)
        refine ⟨⟨by omega, by omega⟩, ⟨by omega, by omega, by omega⟩, ⟨by show (rAt rs i).2.1.length ≤ _; omega, by show (rAt rs i).2.2.length ≤ _; omega, by rw [List.length_drop]; omega⟩, bifP (fun hst => ?_) fun hst => ?_⟩
        · have hst : Rul.standsB (rAt rs i) (w.drop k) = false := by
            have hst : (!Rul.standsB (rAt rs i) (w.drop k)) = true := hst
            simpa using hst
          exact ⟨⟨by omega, by omega⟩, (i + 1, xs), mid_skip hI hi hst, by dsimp only; omega, by dsimp only; omega, rfl⟩
        · have hst : Rul.standsB (rAt rs i) (w.drop k) = true := by
            have hst : (!Rul.standsB (rAt rs i) (w.drop k)) = false := hst
            simpa using hst
          refine ⟨⟨by omega, by show (k : Int) + ((rAt rs i).2.1.length : Int) ≤ _; omega⟩, bifP (fun hn => ?_) fun hn => ?_⟩
          · have hn : (Mp.get eqI ((k + (rAt rs i).2.1.length : Nat) : Int) xs).isSome = false := by
              have hn : (!(Mp.get eqI ((k + (rAt rs i).2.1.length : Nat) : Int) xs).isSome) = true := hn
              simpa using hn
            exact ⟨hn, inner k i _ hk hi hst (mid_new hI hn) has_new⟩
          · have hn : (Mp.get eqI ((k + (rAt rs i).2.1.length : Nat) : Int) xs).isSome = true := by
              have hn : (!(Mp.get eqI ((k + (rAt rs i).2.1.length : Nat) : Int) xs).isSome) = false := hn
              simpa using hn
            exact inner k i _ hk hi hst hI hn
      · have hi : rs.length ≤ i := by have := of_decide_eq_false hc; omega
        exact ⟨⟨by omega, by omega⟩, (k + 1, xs), out_next hp hO hk h2' hI hi, by dsimp only; omega, by dsimp only; omega, rfl⟩
    · obtain rfl : k = w.length := by have := of_decide_eq_false hb; have := hO.1; omega
      refine bifP (fun h2 => ?_) fun h2 => ?_
      · exact (many_out hp hO (by rw [len_of]; exact Int.ofNat_lt.1 (of_decide_eq_true h2))).symm
      · have h2' : (tabAt xs0 w.length).length ≤ 200 := by
          rw [len_of]
          have := of_decide_eq_false h2
          exact Int.ofNat_le.1 (Int.not_lt.1 this)
        refine ⟨⟨hO.2.2.nodup _, ?_, fun x hx => ?_⟩, (write_out hp hO h2').symm⟩
        · rw [len_of] at h2'
          exact Nat.le_trans h2' (show 200 ≤ 1000000000 by omega)
        · have := big (i := 0) ⟨Nat.zero_le _, hO.2.2⟩ (Nat.le_refl _) hx
          omega
set_option maxRecDepth 100000 in
theorem writ_holds : cWrit.Holds Tryz.prog := by
  refine holdsH (cons := [cOpen, cPRead, cStands]) cWrit Tryz.func14 (by kernel_rfl) (by kernel_rfl) mixed (by kernel_rfl) (fun c h => by
    rcases List.mem_cons.1 h with rfl | h
    · exact open_holds
    rcases List.mem_cons.1 h with rfl | h
    · exact pread_holds
    · obtain rfl := List.mem_singleton.1 h; exact stands_holds) kInl_ok (fun p => anWrit (rsOf p.1 p.2.1) (wOf p.2.1 p.2.2.2)) (fun F' hF p r hr => by injection hF with hF; subst hF; exact hr) fun p hp => ?_
  obtain ⟨r, f, t, s⟩ := p
  refine cast ?_ (writ_vc r f t s hp)
  kernel_rfl
end Go.Proofs.YtldnfdghkdibmaaGreatDoor

/-
  Layer 40: SoundLists.
-/
import Derived.Test.YtgjdbnkeamjhhaaDoorSoT
set_option linter.unusedVariables false
namespace Go.Proofs.YtgjdbnkeamjhhaaDoor
open Go.RowKit
open R
theorem rising_pw {ws : List (List UInt8)} (h : Snd.rising ws = true) : ws.Pairwise (fun a b => Op.bytesLess a b = true) := by
  rw [List.pairwise_iff_getElem]
  intro i j hi hj hij
  have := Snd.rising_lt h i j hij hj
  rwa [List.getD_eq_getElem?_getD, List.getD_eq_getElem?_getD, List.getElem?_eq_getElem hi, List.getElem?_eq_getElem hj] at this
theorem pw_rising : ∀ {ws : List (List UInt8)}, ws.Pairwise (fun a b => Op.bytesLess a b = true) → Snd.rising ws = true
  | [], _ => rfl
  | [_], _ => rfl
  | a :: b :: r, h => by
    rw [List.pairwise_cons] at h
    rw [Snd.rising, h.1 b (List.mem_cons_self ..), pw_rising h.2]; rfl
theorem kept_sub (ws : List (List UInt8)) (N : List Int) (k : Int) : ∀ p, p ≤ ws.length → (keptS ws N k p).1.Sublist (ws.take p)
  | 0, _ => List.Sublist.refl _
  | p + 1, h => by
    have ih := kept_sub ws N k p (by omega)
    rw [Snd.take_getD ws [] p (by omega)]
    unfold keptS
    split
    · exact ih.trans (List.sublist_append_left ..)
    · exact ih.append (List.Sublist.refl _)
theorem kept_len (ws : List (List UInt8)) (N : List Int) (k : Int) : ∀ p, (keptS ws N k p).1.length ≤ p ∧ (keptS ws N k p).2.length ≤ p
  | 0 => ⟨Nat.le_refl _, Nat.le_refl _⟩
  | p + 1 => by
    have ih := kept_len ws N k p
    unfold keptS
    split
    · exact ⟨by omega, by omega⟩
    · refine ⟨by simp; omega, ?_⟩
      dsimp only
      split
      · simp; omega
      · omega
theorem nearL_snoc (l : List (List UInt8)) (c : CfP) (x w : List UInt8) : Snd.nearL (l ++ [w]) c x (l ++ [w]).length = Snd.nearL l c x l.length ++ if Snd.soundsB c w x then [(l.length : Int)] else [] := by
  unfold Snd.nearL
  rw [List.length_append, List.length_singleton, List.range_succ, List.filter_append, List.map_append]
  have e1 : (List.range l.length).filter (fun i => Snd.soundsB c ((l ++ [w]).getD i []) x) = (List.range l.length).filter (fun i => Snd.soundsB c (l.getD i []) x) := by
    refine List.filter_congr fun i hi => ?_
    have hi := List.mem_range.1 hi
    rw [List.getD_eq_getElem?_getD, List.getD_eq_getElem?_getD, List.getElem?_append_left hi]
  have e2 : (l ++ [w]).getD l.length [] = w := by
    rw [List.getD_eq_getElem?_getD, List.getElem?_append_right (Nat.le_refl _), Nat.sub_self]; rfl
  rw [e1, List.filter_cons, e2]
  cases Snd.soundsB c w x <;> rfl
theorem kept_near (ws : List (List UInt8)) (c : CfP) (x : List UInt8) (k : Int) : ∀ p, p ≤ ws.length → Snd.nearL (keptS ws (Snd.nearL ws c x ws.length) k p).1 c x (keptS ws (Snd.nearL ws c x ws.length) k p).1.length = (keptS ws (Snd.nearL ws c x ws.length) k p).2
  | 0, _ => rfl
  | p + 1, h => by
    have ih := kept_near ws c x k p (by omega)
    unfold keptS
    split
    · exact ih
    · dsimp only
      rw [nearL_snoc, ih]
      by_cases hs : Snd.soundsB c (ws.getD p []) x = true
      · rw [if_pos hs, if_pos (by rw [List.contains_iff_mem]; exact near_mem.2 ⟨by omega, hs⟩)]
      · rw [if_neg hs, if_neg (by rw [List.contains_iff_mem]; exact fun h => hs (near_mem.1 h).2), List.append_nil]
theorem near_pw (lang : List UInt8) (ws : List (List UInt8)) (c : CfP) (x : List UInt8) : (Snd.nearB lang ws c x).1.Pairwise (· < ·) := by
  unfold Snd.nearB
  split
  · exact Snd.nearL_strict ws c x _
  · exact List.Pairwise.nil
theorem near_le (lang : List UInt8) (ws : List (List UInt8)) (c : CfP) (x : List UInt8) : (Snd.nearB lang ws c x).1.length ≤ ws.length := by
  unfold Snd.nearB
  split
  · show (Snd.nearL ws c x ws.length).length ≤ _
    unfold Snd.nearL
    rw [List.length_map]
    exact Nat.le_trans (List.length_filter_le _ _) (by rw [List.length_range]; exact Nat.le_refl _)
  · exact Nat.zero_le _
set_option maxRecDepth 100000 in
theorem lists_vc (lang : List UInt8) (ws : List (List UInt8)) (c : CfP) (x : List UInt8) (k : Int) (h : cLists.pre ((lang, ws), c, x, k)) :
    /-VC fun (lang : List UInt8) (ws : List (List UInt8)) (c : CfP) (x : List UInt8) (k : Int) => vcOf Tryd.prog consLaw2 (anLists lang ws (Snd.nearB lang ws c x).1 k) cLists Tryd.f9 ((lang, ws), c, x, k) -/
    True ∧ [x].length ≤ (1000000 : Nat) ∧ bif !fewLB (c, [x]) then true = true else True ∧ bif !fewWB (lang, ws) then true = true else (LongW (lang, ws) ∧ LongC c ∧ x.length ≤ (1000000 : Nat)) ∧
    (∃ (p' : Nat), p' ≤ ws.length ∧ (True ∧ (0 : Int) = (↑(cnt (Snd.nearB lang ws c x).fst p') : Int) ∧ (0 : Int) = (↑p' : Int) ∧ c = c ∧ x = x ∧ k = k ∧ True ∧ true = true ∧ (Snd.nearB lang ws
    c x).fst = (Snd.nearB lang ws c x).fst ∧ (Snd.nearB lang ws c x).snd = (Snd.nearB lang ws c x).snd ∧ True ∧ True) ∧ ((lang = lang ∧ True ∧ True) ∧ (lang = lang ∧ ws = ws ∧ True) ∧ True) ∧
    ((keptS ws (Snd.nearB lang ws c x).fst k p').snd = [] ∧ (keptS ws (Snd.nearB lang ws c x).fst k p').fst = [] ∧ True) ∧ True) ∧ ∀ (p : Nat), p ≤ ws.length → bif decide ((↑p : Int) <
    (↑ws.length : Int)) then bif decide ((↑(cnt (Snd.nearB lang ws c x).fst p) : Int) < (↑(Snd.nearB lang ws c x).fst.length : Int)) then ((0 : Int) ≤ (↑(cnt (Snd.nearB lang ws c x).fst p) :
    Int) ∧ (↑(cnt (Snd.nearB lang ws c x).fst p) : Int) < (↑(Snd.nearB lang ws c x).fst.length : Int)) ∧ bif (Snd.nearB lang ws c x).fst.getD (↑(cnt (Snd.nearB lang ws c x).fst p) : Int).toNat
    (0 : Int) == (↑p : Int) then ((-9223372036854775808 : Int) ≤ (↑(cnt (Snd.nearB lang ws c x).fst p) : Int) + (1 : Int) ∧ (↑(cnt (Snd.nearB lang ws c x).fst p) : Int) + (1 : Int) ≤
    (9223372036854775807 : Int)) ∧ (0 : Int) ≤ (↑p : Int) ∧ True ∧ bif IntKind.u64.wrap (↑(BitVec.ofInt IntKind.u64.bits (k.fdiv ((2 : Int) ^ min (↑p : Int).toNat IntKind.u64.bits)) &&&
    BitVec.ofInt IntKind.u64.bits (1 : Int)).toNat : Int) == (0 : Int) then ((-9223372036854775808 : Int) ≤ (↑p : Int) + (1 : Int) ∧ (↑p : Int) + (1 : Int) ≤ (9223372036854775807 : Int)) ∧ ∃ (p'
    : Nat), p' ≤ ws.length ∧ ws.length - p' < ws.length - p ∧ (True ∧ (↑(cnt (Snd.nearB lang ws c x).fst p) : Int) + (1 : Int) = (↑(cnt (Snd.nearB lang ws c x).fst p') : Int) ∧ (↑p : Int) + (1 :
    Int) = (↑p' : Int) ∧ c = c ∧ x = x ∧ k = k ∧ True ∧ true = true ∧ (Snd.nearB lang ws c x).fst = (Snd.nearB lang ws c x).fst ∧ (Snd.nearB lang ws c x).snd = (Snd.nearB lang ws c x).snd ∧ True
    ∧ True) ∧ ((lang = lang ∧ True ∧ True) ∧ (lang = lang ∧ ws = ws ∧ True) ∧ True) ∧ ((keptS ws (Snd.nearB lang ws c x).fst k p).snd = (keptS ws (Snd.nearB lang ws c x).fst k p').snd ∧ (keptS
    ws (Snd.nearB lang ws c x).fst k p).fst = (keptS ws (Snd.nearB lang ws c x).fst k p').fst ∧ True) ∧ True else bif (Snd.nearB lang ws c x).fst.getD (↑(cnt (Snd.nearB lang ws c x).fst p) :
    Int).toNat (0 : Int) == (↑p : Int) then ((keptS ws (Snd.nearB lang ws c x).fst k p).snd.length + [(↑(keptS ws (Snd.nearB lang ws c x).fst k p).fst.length : Int)].length) * (8 : Nat) ≤
    (140737488355328 : Nat) ∧ ((0 : Int) ≤ (↑p : Int) ∧ (↑p : Int) < (↑ws.length : Int)) ∧ ((keptS ws (Snd.nearB lang ws c x).fst k p).fst.length + [ws.getD (↑p : Int).toNat []].length) * (16 :
    Nat) ≤ (140737488355328 : Nat) ∧ ((-9223372036854775808 : Int) ≤ (↑p : Int) + (1 : Int) ∧ (↑p : Int) + (1 : Int) ≤ (9223372036854775807 : Int)) ∧ ∃ (p' : Nat), p' ≤ ws.length ∧ ws.length -
    p' < ws.length - p ∧ (True ∧ (↑(cnt (Snd.nearB lang ws c x).fst p) : Int) + (1 : Int) = (↑(cnt (Snd.nearB lang ws c x).fst p') : Int) ∧ (↑p : Int) + (1 : Int) = (↑p' : Int) ∧ c = c ∧ x = x ∧
    k = k ∧ True ∧ true = true ∧ (Snd.nearB lang ws c x).fst = (Snd.nearB lang ws c x).fst ∧ (Snd.nearB lang ws c x).snd = (Snd.nearB lang ws c x).snd ∧ True ∧ True) ∧ ((lang = lang ∧ True ∧
    True) ∧ (lang = lang ∧ ws = ws ∧ True) ∧ True) ∧ ((keptS ws (Snd.nearB lang ws c x).fst k p).snd ++ [(↑(keptS ws (Snd.nearB lang ws c x).fst k p).fst.length : Int)] = (keptS ws (Snd.nearB
    lang ws c x).fst k p').snd ∧ (keptS ws (Snd.nearB lang ws c x).fst k p).fst ++ [ws.getD (↑p : Int).toNat []] = (keptS ws (Snd.nearB lang ws c x).fst k p').fst ∧ True) ∧ True else ((0 : Int)
    ≤ (↑p : Int) ∧ (↑p : Int) < (↑ws.length : Int)) ∧ ((keptS ws (Snd.nearB lang ws c x).fst k p).fst.length + [ws.getD (↑p : Int).toNat []].length) * (16 : Nat) ≤ (140737488355328 : Nat) ∧
    ((-9223372036854775808 : Int) ≤ (↑p : Int) + (1 : Int) ∧ (↑p : Int) + (1 : Int) ≤ (9223372036854775807 : Int)) ∧ ∃ (p' : Nat), p' ≤ ws.length ∧ ws.length - p' < ws.length - p ∧ (True ∧
    (↑(cnt (Snd.nearB lang ws c x).fst p) : Int) + (1 : Int) = (↑(cnt (Snd.nearB lang ws c x).fst p') : Int) ∧ (↑p : Int) + (1 : Int) = (↑p' : Int) ∧ c = c ∧ x = x ∧ k = k ∧ True ∧ true = true ∧
    (Snd.nearB lang ws c x).fst = (Snd.nearB lang ws c x).fst ∧ (Snd.nearB lang ws c x).snd = (Snd.nearB lang ws c x).snd ∧ True ∧ True) ∧ ((lang = lang ∧ True ∧ True) ∧ (lang = lang ∧ ws = ws ∧
    True) ∧ True) ∧ ((keptS ws (Snd.nearB lang ws c x).fst k p).snd = (keptS ws (Snd.nearB lang ws c x).fst k p').snd ∧ (keptS ws (Snd.nearB lang ws c x).fst k p).fst ++ [ws.getD (↑p :
    Int).toNat []] = (keptS ws (Snd.nearB lang ws c x).fst k p').fst ∧ True) ∧ True else (0 : Int) ≤ (↑p : Int) ∧ True ∧ bif IntKind.u64.wrap (↑(BitVec.ofInt IntKind.u64.bits (k.fdiv ((2 : Int)
    ^ min (↑p : Int).toNat IntKind.u64.bits)) &&& BitVec.ofInt IntKind.u64.bits (1 : Int)).toNat : Int) == (0 : Int) then ((-9223372036854775808 : Int) ≤ (↑p : Int) + (1 : Int) ∧ (↑p : Int) + (1
    : Int) ≤ (9223372036854775807 : Int)) ∧ ∃ (p' : Nat), p' ≤ ws.length ∧ ws.length - p' < ws.length - p ∧ (True ∧ (↑(cnt (Snd.nearB lang ws c x).fst p) : Int) = (↑(cnt (Snd.nearB lang ws c
    x).fst p') : Int) ∧ (↑p : Int) + (1 : Int) = (↑p' : Int) ∧ c = c ∧ x = x ∧ k = k ∧ True ∧ true = true ∧ (Snd.nearB lang ws c x).fst = (Snd.nearB lang ws c x).fst ∧ (Snd.nearB lang ws c
    x).snd = (Snd.nearB lang ws c x).snd ∧ True ∧ True) ∧ ((lang = lang ∧ True ∧ True) ∧ (lang = lang ∧ ws = ws ∧ True) ∧ True) ∧ ((keptS ws (Snd.nearB lang ws c x).fst k p).snd = (keptS ws
    (Snd.nearB lang ws c x).fst k p').snd ∧ (keptS ws (Snd.nearB lang ws c x).fst k p).fst = (keptS ws (Snd.nearB lang ws c x).fst k p').fst ∧ True) ∧ True else bif (Snd.nearB lang ws c
    x).fst.getD (↑(cnt (Snd.nearB lang ws c x).fst p) : Int).toNat (0 : Int) == (↑p : Int) then ((keptS ws (Snd.nearB lang ws c x).fst k p).snd.length + [(↑(keptS ws (Snd.nearB lang ws c x).fst
    k p).fst.length : Int)].length) * (8 : Nat) ≤ (140737488355328 : Nat) ∧ ((0 : Int) ≤ (↑p : Int) ∧ (↑p : Int) < (↑ws.length : Int)) ∧ ((keptS ws (Snd.nearB lang ws c x).fst k p).fst.length +
    [ws.getD (↑p : Int).toNat []].length) * (16 : Nat) ≤ (140737488355328 : Nat) ∧ ((-9223372036854775808 : Int) ≤ (↑p : Int) + (1 : Int) ∧ (↑p : Int) + (1 : Int) ≤ (9223372036854775807 : Int))
    ∧ ∃ (p' : Nat), p' ≤ ws.length ∧ ws.length - p' < ws.length - p ∧ (True ∧ (↑(cnt (Snd.nearB lang ws c x).fst p) : Int) = (↑(cnt (Snd.nearB lang ws c x).fst p') : Int) ∧ (↑p : Int) + (1 :
    Int) = (↑p' : Int) ∧ c = c ∧ x = x ∧ k = k ∧ True ∧ true = true ∧ (Snd.nearB lang ws c x).fst = (Snd.nearB lang ws c x).fst ∧ (Snd.nearB lang ws c x).snd = (Snd.nearB lang ws c x).snd ∧ True
    ∧ True) ∧ ((lang = lang ∧ True ∧ True) ∧ (lang = lang ∧ ws = ws ∧ True) ∧ True) ∧ ((keptS ws (Snd.nearB lang ws c x).fst k p).snd ++ [(↑(keptS ws (Snd.nearB lang ws c x).fst k p).fst.length
    : Int)] = (keptS ws (Snd.nearB lang ws c x).fst k p').snd ∧ (keptS ws (Snd.nearB lang ws c x).fst k p).fst ++ [ws.getD (↑p : Int).toNat []] = (keptS ws (Snd.nearB lang ws c x).fst k p').fst
    ∧ True) ∧ True else ((0 : Int) ≤ (↑p : Int) ∧ (↑p : Int) < (↑ws.length : Int)) ∧ ((keptS ws (Snd.nearB lang ws c x).fst k p).fst.length + [ws.getD (↑p : Int).toNat []].length) * (16 : Nat) ≤
    (140737488355328 : Nat) ∧ ((-9223372036854775808 : Int) ≤ (↑p : Int) + (1 : Int) ∧ (↑p : Int) + (1 : Int) ≤ (9223372036854775807 : Int)) ∧ ∃ (p' : Nat), p' ≤ ws.length ∧ ws.length - p' <
    ws.length - p ∧ (True ∧ (↑(cnt (Snd.nearB lang ws c x).fst p) : Int) = (↑(cnt (Snd.nearB lang ws c x).fst p') : Int) ∧ (↑p : Int) + (1 : Int) = (↑p' : Int) ∧ c = c ∧ x = x ∧ k = k ∧ True ∧
    true = true ∧ (Snd.nearB lang ws c x).fst = (Snd.nearB lang ws c x).fst ∧ (Snd.nearB lang ws c x).snd = (Snd.nearB lang ws c x).snd ∧ True ∧ True) ∧ ((lang = lang ∧ True ∧ True) ∧ (lang =
    lang ∧ ws = ws ∧ True) ∧ True) ∧ ((keptS ws (Snd.nearB lang ws c x).fst k p).snd = (keptS ws (Snd.nearB lang ws c x).fst k p').snd ∧ (keptS ws (Snd.nearB lang ws c x).fst k p).fst ++
    [ws.getD (↑p : Int).toNat []] = (keptS ws (Snd.nearB lang ws c x).fst k p').fst ∧ True) ∧ True else (0 : Int) ≤ (↑p : Int) ∧ True ∧ bif IntKind.u64.wrap (↑(BitVec.ofInt IntKind.u64.bits
    (k.fdiv ((2 : Int) ^ min (↑p : Int).toNat IntKind.u64.bits)) &&& BitVec.ofInt IntKind.u64.bits (1 : Int)).toNat : Int) == (0 : Int) then ((-9223372036854775808 : Int) ≤ (↑p : Int) + (1 :
    Int) ∧ (↑p : Int) + (1 : Int) ≤ (9223372036854775807 : Int)) ∧ ∃ (p' : Nat), p' ≤ ws.length ∧ ws.length - p' < ws.length - p ∧ (True ∧ (↑(cnt (Snd.nearB lang ws c x).fst p) : Int) = (↑(cnt
    (Snd.nearB lang ws c x).fst p') : Int) ∧ (↑p : Int) + (1 : Int) = (↑p' : Int) ∧ c = c ∧ x = x ∧ k = k ∧ True ∧ true = true ∧ (Snd.nearB lang ws c x).fst = (Snd.nearB lang ws c x).fst ∧
    (Snd.nearB lang ws c x).snd = (Snd.nearB lang ws c x).snd ∧ True ∧ True) ∧ ((lang = lang ∧ True ∧ True) ∧ (lang = lang ∧ ws = ws ∧ True) ∧ True) ∧ ((keptS ws (Snd.nearB lang ws c x).fst k
    p).snd = (keptS ws (Snd.nearB lang ws c x).fst k p').snd ∧ (keptS ws (Snd.nearB lang ws c x).fst k p).fst = (keptS ws (Snd.nearB lang ws c x).fst k p').fst ∧ True) ∧ True else ((0 : Int) ≤
    (↑p : Int) ∧ (↑p : Int) < (↑ws.length : Int)) ∧ ((keptS ws (Snd.nearB lang ws c x).fst k p).fst.length + [ws.getD (↑p : Int).toNat []].length) * (16 : Nat) ≤ (140737488355328 : Nat) ∧
    ((-9223372036854775808 : Int) ≤ (↑p : Int) + (1 : Int) ∧ (↑p : Int) + (1 : Int) ≤ (9223372036854775807 : Int)) ∧ ∃ (p' : Nat), p' ≤ ws.length ∧ ws.length - p' < ws.length - p ∧ (True ∧
    (↑(cnt (Snd.nearB lang ws c x).fst p) : Int) = (↑(cnt (Snd.nearB lang ws c x).fst p') : Int) ∧ (↑p : Int) + (1 : Int) = (↑p' : Int) ∧ c = c ∧ x = x ∧ k = k ∧ True ∧ true = true ∧ (Snd.nearB
    lang ws c x).fst = (Snd.nearB lang ws c x).fst ∧ (Snd.nearB lang ws c x).snd = (Snd.nearB lang ws c x).snd ∧ True ∧ True) ∧ ((lang = lang ∧ True ∧ True) ∧ (lang = lang ∧ ws = ws ∧ True) ∧
    True) ∧ ((keptS ws (Snd.nearB lang ws c x).fst k p).snd = (keptS ws (Snd.nearB lang ws c x).fst k p').snd ∧ (keptS ws (Snd.nearB lang ws c x).fst k p).fst ++ [ws.getD (↑p : Int).toNat []] =
    (keptS ws (Snd.nearB lang ws c x).fst k p').fst ∧ True) ∧ True else bif (Snd.nearB lang ws c x).snd != (0 : Int) then true = true else bif (↑(keptS ws (Snd.nearB lang ws c x).fst k
    p).fst.length : Int) == (0 : Int) then true = true else (LongW (lang, (keptS ws (Snd.nearB lang ws c x).fst k p).fst) ∧ LongC c ∧ x.length ≤ (1000000 : Nat)) ∧ LongW (lang, (keptS ws
    (Snd.nearB lang ws c x).fst k p).fst) ∧ bif Snd.validB lang (keptS ws (Snd.nearB lang ws c x).fst k p).fst then bif (Snd.nearB lang (keptS ws (Snd.nearB lang ws c x).fst k p).fst c x).snd ==
    (0 : Int) then (Snd.nearB lang (keptS ws (Snd.nearB lang ws c x).fst k p).fst c x).fst.length ≤ (1000000000000000 : Nat) ∧ ((Snd.nearB lang (keptS ws (Snd.nearB lang ws c x).fst k p).fst c
    x).fst == (keptS ws (Snd.nearB lang ws c x).fst k p).snd) = true else false = true else false = true
    /-CV-/ := by
  have hlen : [x].length ≤ 1000000 := by show 1 ≤ 1000000; omega
  simp only [true_and, and_true]
  refine ⟨hlen, bifP (fun _ => trivial) fun hf => bifP (fun _ => trivial) fun hw => ?_⟩
  have hf : fewLB (c, [x]) = true := by simpa using hf
  have hw : fewWB (lang, ws) = true := by simpa using hw
  obtain ⟨hc, hwx⟩ := few_out hf
  have hx : x.length ≤ 100 := hwx x (by simp)
  have hL := long_of hc
  have hn : ws.length ≤ 40 := (few_w hw).1
  have hlang : lang.length ≤ 100 := (few_w hw).2.1
  have hwl : ∀ s ∈ ws, s.length ≤ 100 := (few_w hw).2.2
  have hW := longW_of (few_w hw)
  have hpw := near_pw lang ws c x
  have hnl := near_le lang ws c x
  refine ⟨⟨hW, hL, by omega⟩, ?_⟩
  have hend : (Snd.nearB lang ws c x).2 = 0 → (Snd.validB lang ws && (Snd.properB c && Snd.heardB x)) = true ∧ (Snd.nearB lang ws c x).1 = Snd.nearL ws c x ws.length := fun h => by
    cases hv : (Snd.validB lang ws && (Snd.properB c && Snd.heardB x))
    · rw [near_bad hv] at h; cases h
    · rw [near_ok hv]; exact ⟨rfl, rfl⟩
  have hc0 : cnt (Snd.nearB lang ws c x).1 0 = 0 := cnt_none fun q hq => by
    unfold Snd.nearB at hq
    split at hq
    · obtain ⟨j, hj, _⟩ := Snd.mem_nearL.1 hq
      omega
    · cases hq
  generalize Snd.nearB lang ws c x = NB at *
  obtain ⟨N, e⟩ := NB
  dsimp only at *
  refine ⟨⟨0, Nat.zero_le _, ⟨?_, rfl⟩, rfl, rfl⟩, ?_⟩
  · rw [hc0]; rfl
  intro p hp
  have hti : ((p : Int).toNat) = p := rfl
  have htc : ((cnt N p : Int).toNat) = cnt N p := rfl
  simp only [hti, htc]
  have hk := kept_len ws N k p
  have hcl := cnt_le N p
  refine bifP (fun hb => ?_) fun hb => ?_
  · have hlt : p < ws.length := by have := of_decide_eq_true hb; omega
    have hmem := at_cnt hpw p
    have hsucc := cnt_succ hpw p
    have hst : keptS ws N k (p + 1) = if bitB k p then keptS ws N k p else ((keptS ws N k p).1 ++ [ws.getD p []], if N.contains (p : Int) then (keptS ws N k p).2 ++ [((keptS ws N k p).1.length : Int)] else (keptS ws N k p).2) := rfl
    have e0 : bitB k p = true → keptS ws N k (p + 1) = keptS ws N k p := fun h => by rw [hst, if_pos h]
    have e1 : bitB k p = false → (p : Int) ∈ N → keptS ws N k (p + 1) = ((keptS ws N k p).1 ++ [ws.getD p []], (keptS ws N k p).2 ++ [((keptS ws N k p).1.length : Int)]) := fun h hm => by
      rw [hst, if_neg (by rw [h]; exact Bool.noConfusion), if_pos (by rw [List.contains_iff_mem]; exact hm)]
    have e2 : bitB k p = false → (p : Int) ∉ N → keptS ws N k (p + 1) = ((keptS ws N k p).1 ++ [ws.getD p []], (keptS ws N k p).2) := fun h hm => by
      rw [hst, if_neg (by rw [h]; exact Bool.noConfusion), if_neg (by rw [List.contains_iff_mem]; exact hm)]
    clear hst
    have hl1 : ∀ w : List UInt8, [w].length = 1 := fun _ => rfl
    have hl2 : ∀ w : Int, [w].length = 1 := fun _ => rfl
    refine bifP (fun h1 => ⟨⟨by omega, by have := of_decide_eq_true h1; omega⟩, bifP (fun h2 => ?_) fun h2 => ?_⟩) fun h1 => ?_
    · have hm : (p : Int) ∈ N := hmem.1 ⟨by have := of_decide_eq_true h1; omega, beq_iff_eq.1 h2⟩
      rw [if_pos hm] at hsucc
      simp only [h2, cond_true, hl1, hl2]
      refine ⟨⟨by omega, by omega⟩, by omega, bifP (fun hE => ⟨⟨by omega, by omega⟩, p + 1, by omega, by omega, ⟨by omega, by omega⟩, ?_, ?_⟩) fun hE => ⟨by omega, ⟨by omega, by omega⟩, by omega, ⟨by omega, by omega⟩, p + 1, by omega, by omega, ⟨by omega, by omega⟩, ?_, ?_⟩⟩
      · rw [e0 hE]
      · rw [e0 hE]
      · rw [e1 hE hm]
      · rw [e1 hE hm]
    · have hm : (p : Int) ∉ N := fun h => (beq_eq_false_iff_ne.1 h2) (hmem.2 h).2
      rw [if_neg hm] at hsucc
      simp only [h2, cond_false, hl1, hl2]
      refine ⟨by omega, bifP (fun hE => ⟨⟨by omega, by omega⟩, p + 1, by omega, by omega, ⟨by omega, by omega⟩, ?_, ?_⟩) fun hE => ⟨⟨by omega, by omega⟩, by omega, ⟨by omega, by omega⟩, p + 1, by omega, by omega, ⟨by omega, by omega⟩, ?_, ?_⟩⟩
      · rw [e0 hE]
      · rw [e0 hE]
      · rw [e2 hE hm]
      · rw [e2 hE hm]
    · have hm : (p : Int) ∉ N := fun h => by have := of_decide_eq_false h1; have := (hmem.2 h).1; omega
      rw [if_neg hm] at hsucc
      simp only [hl1, hl2]
      refine ⟨by omega, bifP (fun hE => ⟨⟨by omega, by omega⟩, p + 1, by omega, by omega, ⟨by omega, by omega⟩, ?_, ?_⟩) fun hE => ⟨⟨by omega, by omega⟩, by omega, ⟨by omega, by omega⟩, p + 1, by omega, by omega, ⟨by omega, by omega⟩, ?_, ?_⟩⟩
      · rw [e0 hE]
      · rw [e0 hE]
      · rw [e2 hE hm]
      · rw [e2 hE hm]
  · have hle : p = ws.length := by have := of_decide_eq_false hb; omega
    subst hle
    refine bifP (fun _ => trivial) fun he => bifP (fun _ => trivial) fun h0 => ?_
    have he : e = 0 := bne_eq_false_iff_eq.1 he
    have h0 : 1 ≤ (keptS ws N k ws.length).1.length := by have := beq_eq_false_iff_ne.1 h0; omega
    obtain ⟨hv, rfl⟩ := hend he
    have hsub : (keptS ws (Snd.nearL ws c x ws.length) k ws.length).1.Sublist ws := by
      have := kept_sub ws (Snd.nearL ws c x ws.length) k ws.length (Nat.le_refl _)
      rwa [List.take_length] at this
    have hkn := kept_near ws c x k ws.length (Nat.le_refl _)
    generalize keptS ws (Snd.nearL ws c x ws.length) k ws.length = S at *
    have hWS : LongW (lang, S.1) := ⟨by show lang.length ≤ 1000; omega, by show S.1.length ≤ _; omega, fun s hs => by have := hwl s (hsub.subset hs); omega⟩
    simp only [Bool.and_eq_true] at hv
    obtain ⟨hv, hp, hh⟩ := hv
    have hvS : Snd.validB lang S.1 = true := by
      unfold Snd.validB at hv ⊢
      simp only [Bool.and_eq_true, decide_eq_true_eq, List.all_eq_true] at hv ⊢
      exact ⟨hv.1, h0, by omega, fun s hs => hv.2.2.2.1 s (hsub.subset hs), pw_rising ((rising_pw hv.2.2.2.2).sublist hsub)⟩
    rw [near_ok (ws := S.1) (lang := lang) (c := c) (x := x) (by rw [hvS, hp, hh]; rfl), hvS, hkn]
    refine ⟨⟨hWS, hL, by omega⟩, hWS, ?_⟩
    simp only [cond_true, beq_self_eq_true]
    exact ⟨by omega, trivial⟩
set_option maxRecDepth 100000 in
theorem lists_holds : cLists.Holds Tryd.prog := by
  refine holdsF (cons := consLaw2) Tryd.func9 (by kernel_rfl) (by kernel_rfl) mixed (by kernel_rfl) consLaw2_hold (fun p => anLists p.1.1 p.1.2 (Snd.nearB p.1.1 p.1.2 p.2.1 p.2.2.1).1 p.2.2.2) fun p hp => ?_
  obtain ⟨⟨lang, ws⟩, c, x, k⟩ := p
  refine cast ?_ (lists_vc lang ws c x k hp)
  kernel_rfl
end Go.Proofs.YtgjdbnkeamjhhaaDoor

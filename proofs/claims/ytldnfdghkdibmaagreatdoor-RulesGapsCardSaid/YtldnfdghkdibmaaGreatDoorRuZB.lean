/-
  Layer 11: RulesGaps.
-/
import Derived.Test.YtldnfdghkdibmaaGreatDoorRuZA
set_option linter.unusedVariables false
namespace Go.Proofs.YtldnfdghkdibmaaGreatDoor
open Go.RowKit
open R
set_option maxRecDepth 100000 in
theorem gapsl_vc (s : List UInt8) (h : s.length ≤ 9223372036854775807) :
    /-VC fun (s : List UInt8) => vcOf Tryz.prog [cHead11, cLex, cParse, cSame] (anGaps (Lx.lex s).1) cGaps Tryz.f5 s -/
    True ∧ bif decide ((2000 : Int) < (↑s.length : Int)) then true = true else s.length ≤ (1000000 : Nat) ∧ bif (Lx.lex s).snd.fst != (0 : Int) then true = true else (∃ (p' : Nat), p' ≤ (Lx.lex
    s).fst.length ∧ ([] = Lx.nlText (List.take p' (Lx.lex s).fst) ∧ (0 : Int) = (↑p' : Int) ∧ s = s ∧ true = true ∧ List.map tokP (Lx.lex s).fst = List.map tokP (Lx.lex s).fst ∧ True) ∧ True ∧
    True ∧ True ∧ True ∧ True ∧ True ∧ True) ∧ ∀ (p : Nat), p ≤ (Lx.lex s).fst.length → bif decide ((↑p : Int) < (↑(List.map tokP (Lx.lex s).fst).length : Int)) then ((0 : Int) ≤ (↑p : Int) ∧
    (↑p : Int) < (↑(List.map tokP (Lx.lex s).fst).length : Int)) ∧ bif ((List.map tokP (Lx.lex s).fst).getD (↑p : Int).toNat ((0 : Int), (0 : Int), (0 : Int), [])).fst == (3 : Int) then
    (Lx.nlText (List.take p (Lx.lex s).fst)).length + [(34 : UInt8)].length ≤ (9223372036854775807 : Nat) ∧ ((0 : Int) ≤ (↑p : Int) ∧ (↑p : Int) < (↑(List.map tokP (Lx.lex s).fst).length : Int))
    ∧ (Lx.nlText (List.take p (Lx.lex s).fst) ++ [(34 : UInt8)]).length + ((List.map tokP (Lx.lex s).fst).getD (↑p : Int).toNat ((0 : Int), (0 : Int), (0 : Int), [])).snd.snd.snd.length ≤
    (9223372036854775807 : Nat) ∧ (Lx.nlText (List.take p (Lx.lex s).fst) ++ [(34 : UInt8)] ++ ((List.map tokP (Lx.lex s).fst).getD (↑p : Int).toNat ((0 : Int), (0 : Int), (0 : Int),
    [])).snd.snd.snd).length + [(34 : UInt8), (10 : UInt8)].length ≤ (9223372036854775807 : Nat) ∧ ((-9223372036854775808 : Int) ≤ (↑p : Int) + (1 : Int) ∧ (↑p : Int) + (1 : Int) ≤
    (9223372036854775807 : Int)) ∧ ∃ (p' : Nat), p' ≤ (Lx.lex s).fst.length ∧ (Lx.lex s).fst.length - p' < (Lx.lex s).fst.length - p ∧ (Lx.nlText (List.take p (Lx.lex s).fst) ++ [(34 : UInt8)]
    ++ ((List.map tokP (Lx.lex s).fst).getD (↑p : Int).toNat ((0 : Int), (0 : Int), (0 : Int), [])).snd.snd.snd ++ [(34 : UInt8), (10 : UInt8)] = Lx.nlText (List.take p' (Lx.lex s).fst) ∧ (↑p :
    Int) + (1 : Int) = (↑p' : Int) ∧ s = s ∧ true = true ∧ List.map tokP (Lx.lex s).fst = List.map tokP (Lx.lex s).fst ∧ True) ∧ True ∧ True ∧ True ∧ True ∧ True ∧ True ∧ True else ((0 : Int) ≤
    (↑p : Int) ∧ (↑p : Int) < (↑(List.map tokP (Lx.lex s).fst).length : Int)) ∧ (Lx.nlText (List.take p (Lx.lex s).fst)).length + ((List.map tokP (Lx.lex s).fst).getD (↑p : Int).toNat ((0 :
    Int), (0 : Int), (0 : Int), [])).snd.snd.snd.length ≤ (9223372036854775807 : Nat) ∧ (Lx.nlText (List.take p (Lx.lex s).fst) ++ ((List.map tokP (Lx.lex s).fst).getD (↑p : Int).toNat ((0 :
    Int), (0 : Int), (0 : Int), [])).snd.snd.snd).length + [(10 : UInt8)].length ≤ (9223372036854775807 : Nat) ∧ ((-9223372036854775808 : Int) ≤ (↑p : Int) + (1 : Int) ∧ (↑p : Int) + (1 : Int) ≤
    (9223372036854775807 : Int)) ∧ ∃ (p' : Nat), p' ≤ (Lx.lex s).fst.length ∧ (Lx.lex s).fst.length - p' < (Lx.lex s).fst.length - p ∧ (Lx.nlText (List.take p (Lx.lex s).fst) ++ ((List.map tokP
    (Lx.lex s).fst).getD (↑p : Int).toNat ((0 : Int), (0 : Int), (0 : Int), [])).snd.snd.snd ++ [(10 : UInt8)] = Lx.nlText (List.take p' (Lx.lex s).fst) ∧ (↑p : Int) + (1 : Int) = (↑p' : Int) ∧
    s = s ∧ true = true ∧ List.map tokP (Lx.lex s).fst = List.map tokP (Lx.lex s).fst ∧ True) ∧ True ∧ True ∧ True ∧ True ∧ True ∧ True ∧ True else s.length ≤ (1000000 : Nat) ∧ (Lx.nlText
    (List.take p (Lx.lex s).fst)).length ≤ (1000000 : Nat) ∧ bif (Rul.parseB s).snd.fst == (Rul.parseB (Lx.nlText (List.take p (Lx.lex s).fst))).snd.fst then ((Rul.parseB s).fst.snd.snd.length ≤
    (1000000000 : Nat) ∧ (Rul.parseB (Lx.nlText (List.take p (Lx.lex s).fst))).fst.snd.snd.length ≤ (1000000000 : Nat)) ∧ ((Rul.parseB s).fst.fst == (Rul.parseB (Lx.nlText (List.take p (Lx.lex
    s).fst))).fst.fst && ((Rul.parseB s).fst.snd.fst == (Rul.parseB (Lx.nlText (List.take p (Lx.lex s).fst))).fst.snd.fst && (Rul.parseB s).fst.snd.snd == (Rul.parseB (Lx.nlText (List.take p
    (Lx.lex s).fst))).fst.snd.snd)) = true else false = true
    /-CV-/ := by
  simp only [true_and, and_true]
  refine bifP (fun _ => trivial) fun h1 => ⟨by have := of_decide_eq_false h1; omega, bifP (fun _ => trivial) fun h2 => ?_⟩
  have hs : s.length ≤ 2000 := by have := of_decide_eq_false h1; omega
  have h0 : (Lx.lex s).2.1 = 0 := bne_eq_false_iff_eq.1 h2
  obtain ⟨n1, n2⟩ := Lx.lex_tokens s
  have hg := fun (ts : List Lx.Tok) (a : Int) (e : Lx.lex s = (ts, 0, a)) => Rul.gaps_law hs e
  have hnl : (Lx.nlText (Lx.lex s).1).length ≤ 4000 := by
    rcases Lx.lex_small s (by omega) with ⟨ts', q1, q2⟩ | ⟨e, a', q1, q2⟩
    · rw [q2]
      have := q1.nlText_len
      show (Lx.nlText ts').length ≤ _
      omega
    · rw [q2]; exact Nat.zero_le _
  have hpf := parse_few (s := s) (by omega)
  have hpn := parse_few (s := Lx.nlText (Lx.lex s).1) (by omega)
  obtain ⟨g1, g2⟩ := hg (Lx.lex s).1 (Lx.lex s).2.2 (by rw [← h0])
  clear hg h0 h2 h1 h
  generalize Lx.lex s = L at *
  obtain ⟨ts, er, a⟩ := L
  dsimp only at *
  simp only [List.length_map]
  refine ⟨⟨0, Nat.zero_le _, rfl, rfl⟩, fun p hp => bifP (fun hb => ?_) fun hb => ?_⟩
  · have hlt : p < ts.length := by have := of_decide_eq_true hb; omega
    obtain ⟨t, ht⟩ : ∃ t, ts[p]? = some t := ⟨_, List.getElem?_eq_getElem hlt⟩
    have hx : (List.map tokP ts).getD (p : Int).toNat (0, 0, 0, []) = tokP t := by
      show (List.map tokP ts).getD p (0, 0, 0, []) = _
      rw [List.getD_eq_getElem?_getD, List.getElem?_map, ht]; rfl
    rw [hx]
    have htx := n2 t (List.mem_of_getElem? ht)
    have hnx := nl_next ht
    have hpl := nl_len (N := 20000) (ts.take p) fun x hx => n2 x (List.mem_of_mem_take hx)
    rw [List.length_take, Nat.min_eq_left (by omega)] at hpl
    have hpl : (Lx.nlText (ts.take p)).length ≤ 200000000 := by omega
    generalize Lx.nlText (ts.take p) = S at *
    have q : ((p : Int)).toNat = p := rfl
    refine ⟨⟨by omega, by omega⟩, bifP (fun hk => ?_) fun hk => ?_⟩
    · have hk : t.kind = 3 := beq_iff_eq.1 hk
      have hw : t.written = [34] ++ t.text ++ [34] := by unfold Lx.Tok.written; rw [if_pos hk]; try simp
      refine ⟨by simp; omega, ⟨by omega, by omega⟩, by show (S ++ [34]).length + t.text.length ≤ _; simp; omega, by show (S ++ [34] ++ t.text).length + _ ≤ _; simp; omega, ⟨by omega, by omega⟩, p + 1, by omega, by omega, ?_, by omega⟩
      rw [hnx, hw]
      show S ++ [34] ++ t.text ++ [34, 10] = _
      simp
    · have hk : ¬ t.kind = 3 := beq_eq_false_iff_ne.1 hk
      have hw : t.written = t.text := by unfold Lx.Tok.written; rw [if_neg hk]
      refine ⟨⟨by omega, by omega⟩, by show S.length + t.text.length ≤ _; omega, by show (S ++ t.text).length + _ ≤ _; simp; omega, ⟨by omega, by omega⟩, p + 1, by omega, by omega, ?_, by omega⟩
      rw [hnx, hw]
      show S ++ t.text ++ [10] = _
      simp
  · have hle : ts.length ≤ p := by have := of_decide_eq_false hb; omega
    rw [List.take_of_length_le hle]
    refine ⟨by omega, by omega, ?_⟩
    rw [g1, g2, beq_self_eq_true]
    exact ⟨⟨by omega, by omega⟩, by simp⟩
set_option maxRecDepth 100000 in
theorem gapsl_holds : cGaps.Holds Tryz.prog := by
  refine holdsF (cons := [cHead11, cLex, cParse, cSame]) Tryz.func5 (by kernel_rfl) (by kernel_rfl) mixed (by kernel_rfl) (fun c h => by
    rcases List.mem_cons.1 h with rfl | h
    · exact head11_holds
    rcases List.mem_cons.1 h with rfl | h
    · exact lex_holds
    rcases List.mem_cons.1 h with rfl | h
    · exact parse_holds
    · obtain rfl := List.mem_singleton.1 h; exact same_holds) (fun s => anGaps (Lx.lex s).1) fun s hp => ?_
  refine cast ?_ (gapsl_vc s hp)
  kernel_rfl
end Go.Proofs.YtldnfdghkdibmaaGreatDoor

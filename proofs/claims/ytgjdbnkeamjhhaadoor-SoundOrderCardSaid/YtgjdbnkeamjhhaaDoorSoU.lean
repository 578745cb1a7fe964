/-
  Layer 40: SoundOrder.
-/
import Derived.Test.YtgjdbnkeamjhhaaDoorSoR
set_option linter.unusedVariables false
namespace Go.Proofs.YtgjdbnkeamjhhaaDoor
open Go.RowKit
open R
set_option maxRecDepth 100000 in
theorem order_vc (c : CfP) (t : Int) (x y : List UInt8) (h : cOrder.pre (c, t, x, y)) :
    /-VC fun (c : CfP) (t : Int) (x y : List UInt8) => vcOf Tryd.prog consLaw (anOrder c) cOrder Tryd.f8 (c, t, x, y) -/
    True ∧ [x, y].length ≤ (1000000 : Nat) ∧ bif !fewLB (c, [x, y]) then true = true else ((-9223372036854775808 : Int) ≤ (↑(List.length c) : Int) - (1 : Int) ∧ (↑(List.length c) : Int) - (1 :
    Int) ≤ (9223372036854775807 : Int)) ∧ (∃ (p' : Nat × CfP), (p'.fst ≤ List.length c ∧ Snd.Turned (List.drop p'.fst c).reverse p'.snd) ∧ (True ∧ (↑(List.length c) : Int) - (1 : Int) = (↑p'.fst
    : Int) - (1 : Int) ∧ c = c ∧ t = t ∧ x = x ∧ y = y ∧ true = true ∧ True) ∧ True ∧ (p'.snd = [] ∧ True) ∧ True) ∧ ∀ (p : Nat × CfP), p.fst ≤ List.length c ∧ Snd.Turned (List.drop p.fst
    c).reverse p.snd → bif decide ((0 : Int) ≤ (↑p.fst : Int) - (1 : Int)) then (0 : Int) ≤ (↑p.fst : Int) - (1 : Int) ∧ True ∧ bif IntKind.u32.wrap (↑(BitVec.ofInt IntKind.u32.bits (t.fdiv ((2
    : Int) ^ min ((↑p.fst : Int) - (1 : Int)).toNat IntKind.u32.bits)) &&& BitVec.ofInt IntKind.u32.bits (1 : Int)).toNat : Int) == (1 : Int) then ((0 : Int) ≤ (↑p.fst : Int) - (1 : Int) ∧
    (↑p.fst : Int) - (1 : Int) < (↑(List.length c) : Int)) ∧ ((0 : Int) ≤ (↑p.fst : Int) - (1 : Int) ∧ (↑p.fst : Int) - (1 : Int) < (↑(List.length c) : Int)) ∧ (List.length p.snd + [((List.getD
    c ((↑p.fst : Int) - (1 : Int)).toNat ([], [])).snd, (List.getD c ((↑p.fst : Int) - (1 : Int)).toNat ([], [])).fst)].length) * (32 : Nat) ≤ (140737488355328 : Nat) ∧ ((-9223372036854775808 :
    Int) ≤ (↑p.fst : Int) - (1 : Int) - (1 : Int) ∧ (↑p.fst : Int) - (1 : Int) - (1 : Int) ≤ (9223372036854775807 : Int)) ∧ ∃ (p' : Nat × CfP), (p'.fst ≤ List.length c ∧ Snd.Turned (List.drop
    p'.fst c).reverse p'.snd) ∧ p'.fst < p.fst ∧ (True ∧ (↑p.fst : Int) - (1 : Int) - (1 : Int) = (↑p'.fst : Int) - (1 : Int) ∧ c = c ∧ t = t ∧ x = x ∧ y = y ∧ true = true ∧ True) ∧ True ∧
    (p.snd ++ [((List.getD c ((↑p.fst : Int) - (1 : Int)).toNat ([], [])).snd, (List.getD c ((↑p.fst : Int) - (1 : Int)).toNat ([], [])).fst)] = p'.snd ∧ True) ∧ True else ((0 : Int) ≤ (↑p.fst :
    Int) - (1 : Int) ∧ (↑p.fst : Int) - (1 : Int) < (↑(List.length c) : Int)) ∧ (List.length p.snd + [((List.getD c ((↑p.fst : Int) - (1 : Int)).toNat ([], [])).fst, (List.getD c ((↑p.fst : Int)
    - (1 : Int)).toNat ([], [])).snd)].length) * (32 : Nat) ≤ (140737488355328 : Nat) ∧ ((-9223372036854775808 : Int) ≤ (↑p.fst : Int) - (1 : Int) - (1 : Int) ∧ (↑p.fst : Int) - (1 : Int) - (1 :
    Int) ≤ (9223372036854775807 : Int)) ∧ ∃ (p' : Nat × CfP), (p'.fst ≤ List.length c ∧ Snd.Turned (List.drop p'.fst c).reverse p'.snd) ∧ p'.fst < p.fst ∧ (True ∧ (↑p.fst : Int) - (1 : Int) - (1
    : Int) = (↑p'.fst : Int) - (1 : Int) ∧ c = c ∧ t = t ∧ x = x ∧ y = y ∧ true = true ∧ True) ∧ True ∧ (p.snd ++ [((List.getD c ((↑p.fst : Int) - (1 : Int)).toNat ([], [])).fst, (List.getD c
    ((↑p.fst : Int) - (1 : Int)).toNat ([], [])).snd)] = p'.snd ∧ True) ∧ True else LongC p.snd ∧ LongC c ∧ bif Snd.properB p.snd == Snd.properB c then (LongC p.snd ∧ x.length ≤ (1000000 : Nat)
    ∧ y.length ≤ (1000000 : Nat)) ∧ (LongC c ∧ x.length ≤ (1000000 : Nat) ∧ y.length ≤ (1000000 : Nat)) ∧ (Snd.alikeB p.snd x y == Snd.alikeB c x y) = true else false = true
    /-CV-/ := by
  have hlen : [x, y].length ≤ 1000000 := by show 2 ≤ 1000000; omega
  simp only [true_and, and_true]
  refine ⟨hlen, bifP (fun _ => trivial) fun hf => ?_⟩
  have hf : fewLB (c, [x, y]) = true := by simpa using hf
  obtain ⟨hc, hws⟩ := few_out hf
  have hx : x.length ≤ 100 := hws x (by simp)
  have hy : y.length ≤ 100 := hws y (by simp)
  have hL := long_of hc
  have hcn : c.length ≤ 30 := hc.1
  refine ⟨⟨by omega, by omega⟩, ⟨(c.length, []), ⟨Nat.le_refl _, ?_⟩, rfl, rfl⟩, ?_⟩
  · show Snd.Turned (List.drop (List.length c) c).reverse []
    rw [List.drop_length]; trivial
  rintro ⟨p, m⟩ ⟨hp, ht⟩
  have hp : p ≤ c.length := hp
  have ht : Snd.Turned (c.drop p).reverse m := ht
  have hml : m.length ≤ 30 := by rw [ht.len, List.length_reverse, List.length_drop]; omega
  dsimp only
  refine bifP (fun hb => ?_) fun hb => ?_
  · have hp0 : 1 ≤ p := by have := of_decide_eq_true hb; omega
    have hpm : ((p : Int) - 1).toNat = p - 1 := by omega
    rw [hpm]
    have hd : (c.drop (p - 1)).reverse = (c.drop p).reverse ++ [c.getD (p - 1) ([], [])] := by
      have e : c.drop (p - 1) = c.getD (p - 1) ([], []) :: c.drop p := by
        rw [List.drop_eq_getElem_cons (by omega), List.getD_eq_getElem?_getD, List.getElem?_eq_getElem (by omega), Option.getD_some, show p - 1 + 1 = p by omega]
      rw [e, List.reverse_cons]
    generalize c.getD (p - 1) ([], []) = q at *
    obtain ⟨a, b⟩ := q
    refine ⟨by omega, bifP (fun _ => ⟨⟨by omega, by omega⟩, ⟨by omega, by omega⟩, by rw [List.length_singleton]; omega, ⟨by omega, by omega⟩, (p - 1, m ++ [(b, a)]), ⟨by omega, ?_⟩, by omega, by omega, rfl⟩) fun _ => ⟨⟨by omega, by omega⟩, by rw [List.length_singleton]; omega, ⟨by omega, by omega⟩, (p - 1, m ++ [(a, b)]), ⟨by omega, ?_⟩, by omega, by omega, rfl⟩⟩
    · show Snd.Turned (c.drop (p - 1)).reverse _
      rw [hd]; exact ht.snoc (.inr rfl)
    · show Snd.Turned (c.drop (p - 1)).reverse _
      rw [hd]; exact ht.snoc (.inl rfl)
  · have hp0 : p = 0 := by have := of_decide_eq_false hb; omega
    subst hp0
    rw [List.drop_zero] at ht
    have hLm : LongC m := by
      refine ⟨by omega, ?_⟩
      have key : ∀ {l m : List Snd.Conf}, Snd.Turned l m → (∀ q ∈ l, q.1.length ≤ 1000000 ∧ q.2.length ≤ 1000000) → ∀ q ∈ m, q.1.length ≤ 1000000 ∧ q.2.length ≤ 1000000 := by
        intro l
        induction l with
        | nil => intro m h _ q hq; cases m with
          | nil => cases hq
          | cons d m => exact h.elim
        | cons e l ih => intro m h hl q hq; cases m with
          | nil => exact h.elim
          | cons d m =>
            rcases List.mem_cons.1 hq with rfl | hq
            · have := hl e (List.mem_cons_self ..)
              rcases h.1 with rfl | rfl
              · exact this
              · exact ⟨this.2, this.1⟩
            · exact ih h.2 (fun q hq => hl q (List.mem_cons_of_mem _ hq)) q hq
      exact key ht (fun q hq => hL.2 q (List.mem_reverse.1 hq))
    rw [Snd.proper_turned_reverse ht, Snd.alike_turned_reverse ht, beq_self_eq_true, beq_self_eq_true]
    exact ⟨hLm, hL, ⟨hLm, by omega, by omega⟩, ⟨hL, by omega, by omega⟩, rfl⟩
set_option maxRecDepth 100000 in
theorem order_holds : cOrder.Holds Tryd.prog := by
  refine holdsF (cons := consLaw) Tryd.func8 (by kernel_rfl) (by kernel_rfl) mixed (by kernel_rfl) consLaw_hold (fun p => anOrder p.1) fun p hp => ?_
  obtain ⟨c, t, x, y⟩ := p
  refine cast ?_ (order_vc c t x y hp)
  kernel_rfl
end Go.Proofs.YtgjdbnkeamjhhaaDoor

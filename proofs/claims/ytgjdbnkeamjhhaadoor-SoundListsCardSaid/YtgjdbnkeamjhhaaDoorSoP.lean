/-
  Layer 40: heard, SoundBothWays, SoundMade, SoundMore.
-/
import Derived.Test.YtgjdbnkeamjhhaaDoorSoO
set_option linter.unusedVariables false
namespace Go.Proofs.YtgjdbnkeamjhhaaDoor
open Go.RowKit
open R
theorem wrap_byte (k : Int) (h0 : 0 ≤ k) (h1 : k ≤ 255) : IntKind.i64.wrap k = k := by
  unfold IntKind.wrap
  have e : k % (2 ^ IntKind.i64.bits : Int) = k := Int.emod_eq_of_lt h0 (by show k < (2 : Int) ^ 64; omega)
  rw [e]
  have h2 : ¬ k ≥ (2 ^ (IntKind.i64.bits - 1) : Int) := by
    show ¬ k ≥ (2 : Int) ^ 63
    omega
  simp only [decide_eq_false h2, Bool.and_false]
  rfl
set_option maxRecDepth 100000 in
theorem heard_vc (s : List UInt8) (h : cHeard.pre s) :
    /-VC fun (s : List UInt8) => vcOf Tryd.prog [] (anHeard s) cHeard Tryd.f14 s -/
    (∃ (p' : Nat), (p' ≤ s.length ∧ (List.take p' s).all Snd.letB = true) ∧ ((0 : Int) = (↑p' : Int) ∧ s = s ∧ True) ∧ True ∧ True ∧ True) ∧ ∀ (p : Nat), p ≤ s.length ∧ (List.take p s).all
    Snd.letB = true → bif decide ((↑p : Int) < (↑s.length : Int)) then ((0 : Int) ≤ (↑p : Int) ∧ (↑p : Int) < (↑s.length : Int)) ∧ bif decide ((↑(s.getD (↑p : Int).toNat (0 : UInt8)).toNat :
    Int) < (97 : Int)) then false = Snd.heardB s else ((0 : Int) ≤ (↑p : Int) ∧ (↑p : Int) < (↑s.length : Int)) ∧ bif decide ((122 : Int) < (↑(s.getD (↑p : Int).toNat (0 : UInt8)).toNat : Int))
    then false = Snd.heardB s else ((-9223372036854775808 : Int) ≤ (↑p : Int) + (1 : Int) ∧ (↑p : Int) + (1 : Int) ≤ (9223372036854775807 : Int)) ∧ ∃ (p' : Nat), (p' ≤ s.length ∧ (List.take p'
    s).all Snd.letB = true) ∧ s.length - p' < s.length - p ∧ ((↑p : Int) + (1 : Int) = (↑p' : Int) ∧ s = s ∧ True) ∧ True ∧ True ∧ True else bif decide ((1 : Int) ≤ (↑s.length : Int)) then
    decide ((↑s.length : Int) ≤ (12 : Int)) = Snd.heardB s else false = Snd.heardB s
    /-CV-/ := by
  have h : s.length ≤ 1000000 := h
  simp only [true_and, and_true]
  refine ⟨⟨0, ⟨Nat.zero_le _, rfl⟩, rfl⟩, ?_⟩
  rintro p ⟨hp, ha⟩
  have hti : ((p : Int).toNat) = p := rfl
  simp only [hti]
  have no : p < s.length → Snd.letB (s.getD p 0) = false → false = Snd.heardB s := fun hl hf => by
    unfold Snd.heardB Snd.lettersB
    rw [Snd.all_no s 0 _ p hl hf]; rfl
  refine bifP (fun hb => ?_) fun hb => ?_
  · have hlt : p < s.length := by have := of_decide_eq_true hb; omega
    have hn := Snd.letB_nat (s.getD p 0)
    refine ⟨⟨by omega, by omega⟩, bifP (fun hb => no hlt (by rw [hn, hb]; rfl)) fun h1 => ⟨⟨by omega, by omega⟩, bifP (fun hb => no hlt (by rw [hn, h1, hb]; rfl)) fun h2 => ⟨⟨by omega, by omega⟩, p + 1, ⟨by omega, ?_⟩, by omega, by omega⟩⟩⟩
    rw [Snd.all_step s 0 _ p hlt, ha, hn, h1, h2]; rfl
  · have hle : s.length ≤ p := by have := of_decide_eq_false hb; omega
    rw [Snd.all_end s _ p hle] at ha
    have hv : Snd.heardB s = (decide ((1 : Int) ≤ (s.length : Int)) && decide ((s.length : Int) ≤ 12)) := by
      unfold Snd.heardB Snd.lettersB
      rw [ha, Bool.true_and]
    rw [hv]
    refine bifP (fun hb => ?_) fun hb => ?_
    · rw [hb, Bool.true_and]
    · rw [hb]; rfl
set_option maxRecDepth 100000 in
theorem both_vc (c : CfP) (x y : List UInt8) (h : cBoth.pre (c, x, y)) :
    /-VC fun (c : CfP) (x y : List UInt8) => vcOf Tryd.prog consLaw [] cBoth Tryd.f3 (c, x, y) -/
    True ∧ [x, y].length ≤ (1000000 : Nat) ∧ bif !fewLB (c, [x, y]) then true = true else LongC c ∧ bif !Snd.properB c then true = true else (LongC c ∧ x.length ≤ (1000000 : Nat) ∧ y.length ≤
    (1000000 : Nat)) ∧ (LongC c ∧ x.length ≤ (1000000 : Nat) ∧ x.length ≤ (1000000 : Nat)) ∧ x.length ≤ (1000000 : Nat) ∧ bif !Snd.alikeB c x x == Snd.heardB x then false = true else (LongC c ∧
    y.length ≤ (1000000 : Nat) ∧ x.length ≤ (1000000 : Nat)) ∧ bif !Snd.alikeB c y x == Snd.alikeB c x y then false = true else bif !Snd.alikeB c x y then true = true else x.length ≤ (1000000 :
    Nat) ∧ bif Snd.heardB x then y.length ≤ (1000000 : Nat) ∧ bif Snd.heardB y then ((-9223372036854775808 : Int) ≤ (↑x.length : Int) - (↑y.length : Int) ∧ (↑x.length : Int) - (↑y.length : Int)
    ≤ (9223372036854775807 : Int)) ∧ bif decide ((↑x.length : Int) - (↑y.length : Int) ≤ (2 : Int)) then ((-9223372036854775808 : Int) ≤ (↑y.length : Int) - (↑x.length : Int) ∧ (↑y.length : Int)
    - (↑x.length : Int) ≤ (9223372036854775807 : Int)) ∧ decide ((↑y.length : Int) - (↑x.length : Int) ≤ (2 : Int)) = true else false = true else false = true else false = true
    /-CV-/ := by
  have hlen : [x, y].length ≤ 1000000 := by show 2 ≤ 1000000; omega
  simp only [true_and, and_true]
  refine ⟨hlen, bifP (fun _ => trivial) fun hf => ?_⟩
  have hf : fewLB (c, [x, y]) = true := by simpa using hf
  obtain ⟨hc, hxy⟩ := few_out hf
  have hx : x.length ≤ 100 := hxy x (by simp)
  have hy : y.length ≤ 100 := hxy y (by simp)
  have hL := long_of hc
  refine ⟨hL, bifP (fun _ => trivial) fun hp => ?_⟩
  have hp : Snd.properB c = true := by simpa using hp
  refine ⟨⟨hL, by omega, by omega⟩, ⟨hL, by omega, by omega⟩, by omega, bifP (fun hb => ?_) fun _ => ⟨⟨hL, by omega, by omega⟩, bifP (fun hb => ?_) fun _ => bifP (fun _ => trivial) fun ha => ?_⟩⟩
  · rw [Snd.alike_self c hp x] at hb; simp at hb
  · rw [Snd.alike_symm c y x] at hb; simp at hb
  · have ha : Snd.alikeB c x y = true := by simpa using ha
    obtain ⟨h1, h2, h3, h4⟩ := Snd.alike_near ha
    simp only [h1, h2, cond_true]
    refine ⟨by omega, by omega, ⟨by omega, by omega⟩, ?_⟩
    rw [decide_eq_true (show (x.length : Int) - (y.length : Int) ≤ 2 by omega)]
    exact ⟨⟨by omega, by omega⟩, decide_eq_true (by omega)⟩
set_option maxRecDepth 100000 in
theorem made_vc (c : CfP) (x y : List UInt8) (k : Int) (h : cMade.pre (c, x, y, k)) :
    /-VC fun (c : CfP) (x y : List UInt8) (k : Int) => vcOf Tryd.prog consLaw [] cMade Tryd.f4 (c, x, y, k) -/
    True ∧ [x, y].length ≤ (1000000 : Nat) ∧ bif !fewLB (c, [x, y]) then true = true else bif (↑(List.length c) : Int) == (0 : Int) then true = true else LongC c ∧ bif !Snd.properB c then true =
    true else (↑(List.length c) : Int) ≠ (0 : Int) ∧ ((0 : Int) ≤ (IntKind.i64.wrap k).tmod (↑(List.length c) : Int) ∧ (IntKind.i64.wrap k).tmod (↑(List.length c) : Int) < (↑(List.length c) :
    Int)) ∧ x.length + (List.getD c ((IntKind.i64.wrap k).tmod (↑(List.length c) : Int)).toNat ([], [])).fst.length ≤ (9223372036854775807 : Nat) ∧ (x ++ (List.getD c ((IntKind.i64.wrap k).tmod
    (↑(List.length c) : Int)).toNat ([], [])).fst).length + y.length ≤ (9223372036854775807 : Nat) ∧ ((0 : Int) ≤ (IntKind.i64.wrap k).tmod (↑(List.length c) : Int) ∧ (IntKind.i64.wrap k).tmod
    (↑(List.length c) : Int) < (↑(List.length c) : Int)) ∧ x.length + (List.getD c ((IntKind.i64.wrap k).tmod (↑(List.length c) : Int)).toNat ([], [])).snd.length ≤ (9223372036854775807 : Nat) ∧
    (x ++ (List.getD c ((IntKind.i64.wrap k).tmod (↑(List.length c) : Int)).toNat ([], [])).snd).length + y.length ≤ (9223372036854775807 : Nat) ∧ (LongC c ∧ (x ++ (List.getD c
    ((IntKind.i64.wrap k).tmod (↑(List.length c) : Int)).toNat ([], [])).fst ++ y).length ≤ (1000000 : Nat) ∧ (x ++ (List.getD c ((IntKind.i64.wrap k).tmod (↑(List.length c) : Int)).toNat ([],
    [])).snd ++ y).length ≤ (1000000 : Nat)) ∧ (x ++ (List.getD c ((IntKind.i64.wrap k).tmod (↑(List.length c) : Int)).toNat ([], [])).fst ++ y).length ≤ (1000000 : Nat) ∧ bif Snd.heardB (x ++
    (List.getD c ((IntKind.i64.wrap k).tmod (↑(List.length c) : Int)).toNat ([], [])).fst ++ y) then (x ++ (List.getD c ((IntKind.i64.wrap k).tmod (↑(List.length c) : Int)).toNat ([], [])).snd
    ++ y).length ≤ (1000000 : Nat) ∧ (Snd.alikeB c (x ++ (List.getD c ((IntKind.i64.wrap k).tmod (↑(List.length c) : Int)).toNat ([], [])).fst ++ y) (x ++ (List.getD c ((IntKind.i64.wrap k).tmod
    (↑(List.length c) : Int)).toNat ([], [])).snd ++ y) == Snd.heardB (x ++ (List.getD c ((IntKind.i64.wrap k).tmod (↑(List.length c) : Int)).toNat ([], [])).snd ++ y)) = true else (Snd.alikeB c
    (x ++ (List.getD c ((IntKind.i64.wrap k).tmod (↑(List.length c) : Int)).toNat ([], [])).fst ++ y) (x ++ (List.getD c ((IntKind.i64.wrap k).tmod (↑(List.length c) : Int)).toNat ([], [])).snd
    ++ y) == false) = true
    /-CV-/ := by
  obtain ⟨_, _, _, hk⟩ := h
  obtain ⟨hk0, hk1⟩ := bounds_u8 (show (Lit.int .u8 k).wf = true from hk)
  have hwk : IntKind.i64.wrap k = k := wrap_byte k hk0 hk1
  have hlen : [x, y].length ≤ 1000000 := by show 2 ≤ 1000000; omega
  simp only [true_and, and_true]
  refine ⟨hlen, bifP (fun _ => trivial) fun hf => ?_⟩
  have hf : fewLB (c, [x, y]) = true := by simpa using hf
  obtain ⟨hc, hxy⟩ := few_out hf
  have hx : x.length ≤ 100 := hxy x (by simp)
  have hy : y.length ≤ 100 := hxy y (by simp)
  have hL := long_of hc
  refine bifP (fun _ => trivial) fun hn0 => ⟨hL, bifP (fun _ => trivial) fun hp => ?_⟩
  have hp : Snd.properB c = true := by simpa using hp
  have hn0 : (c.length : Int) ≠ 0 := beq_eq_false_iff_ne.1 hn0
  have hK0 : 0 ≤ k.tmod (c.length : Int) := Int.tmod_nonneg _ hk0
  have hK1 : k.tmod (c.length : Int) < (c.length : Int) := Int.tmod_lt_of_pos _ (by omega)
  rw [hwk]
  generalize k.tmod (c.length : Int) = K at *
  obtain ⟨j, rfl⟩ : ∃ j : Nat, K = j := ⟨K.toNat, by omega⟩
  have hti : ((j : Int).toNat) = j := rfl
  simp only [hti]
  have hjl : j < c.length := by omega
  have hmem := Snd.mem_getD c ([], []) j hjl
  obtain ⟨ha, hb⟩ := hc.2 _ hmem
  have hmade := Snd.alike_made hp hmem x y
  generalize c.getD j ([], []) = p at *
  obtain ⟨a, b⟩ := p
  have ha : a.length ≤ 100 := ha
  have hb : b.length ≤ 100 := hb
  have hmade : Snd.alikeB c (x ++ a ++ y) (x ++ b ++ y) = (Snd.heardB (x ++ a ++ y) && Snd.heardB (x ++ b ++ y)) := hmade
  have l1 : (x ++ a ++ y).length ≤ 1000000 := by simp only [List.length_append]; omega
  have l2 : (x ++ b ++ y).length ≤ 1000000 := by simp only [List.length_append]; omega
  refine ⟨hn0, ⟨by omega, by omega⟩, by show x.length + a.length ≤ _; omega, by show (x ++ a).length + _ ≤ _; simp only [List.length_append]; omega, ⟨by omega, by omega⟩, by show x.length + b.length ≤ _; omega, by show (x ++ b).length + _ ≤ _; simp only [List.length_append]; omega, ⟨hL, l1, l2⟩, l1, bifP (fun h1 => ⟨l2, ?_⟩) fun h1 => ?_⟩
  · have h1 : Snd.heardB (x ++ a ++ y) = true := h1
    show (Snd.alikeB c (x ++ a ++ y) (x ++ b ++ y) == Snd.heardB (x ++ b ++ y)) = true
    rw [hmade, h1, Bool.true_and, beq_self_eq_true]
  · have h1 : Snd.heardB (x ++ a ++ y) = false := h1
    show (Snd.alikeB c (x ++ a ++ y) (x ++ b ++ y) == false) = true
    rw [hmade, h1, Bool.false_and]; rfl
set_option maxRecDepth 100000 in
theorem more_vc (c : CfP) (k : Int) (x y : List UInt8) (h : cMore.pre (c, k, x, y)) :
    /-VC fun (c : CfP) (k : Int) (x y : List UInt8) => vcOf Tryd.prog consLaw [] cMore Tryd.f6 (c, k, x, y) -/
    True ∧ [x, y].length ≤ (1000000 : Nat) ∧ bif !fewLB (c, [x, y]) then true = true else LongC c ∧ bif !Snd.properB c then true = true else ((-9223372036854775808 : Int) ≤ (↑(List.length c) :
    Int) + (1 : Int) ∧ (↑(List.length c) : Int) + (1 : Int) ≤ (9223372036854775807 : Int)) ∧ (↑(List.length c) : Int) + (1 : Int) ≠ (0 : Int) ∧ ((0 : Int) ≤ (0 : Int) ∧ (0 : Int) ≤
    (IntKind.i64.wrap k).tmod ((↑(List.length c) : Int) + (1 : Int)) ∧ (IntKind.i64.wrap k).tmod ((↑(List.length c) : Int) + (1 : Int)) ≤ (↑(List.length c) : Int)) ∧ LongC (List.drop (Int.toNat
    (0 : Int)) (List.take ((IntKind.i64.wrap k).tmod ((↑(List.length c) : Int) + (1 : Int))).toNat c)) ∧ bif Snd.properB (List.drop (Int.toNat (0 : Int)) (List.take ((IntKind.i64.wrap k).tmod
    ((↑(List.length c) : Int) + (1 : Int))).toNat c)) then ((0 : Int) ≤ (0 : Int) ∧ (0 : Int) ≤ (IntKind.i64.wrap k).tmod ((↑(List.length c) : Int) + (1 : Int)) ∧ (IntKind.i64.wrap k).tmod
    ((↑(List.length c) : Int) + (1 : Int)) ≤ (↑(List.length c) : Int)) ∧ (LongC (List.drop (Int.toNat (0 : Int)) (List.take ((IntKind.i64.wrap k).tmod ((↑(List.length c) : Int) + (1 :
    Int))).toNat c)) ∧ x.length ≤ (1000000 : Nat) ∧ y.length ≤ (1000000 : Nat)) ∧ bif !Snd.alikeB (List.drop (Int.toNat (0 : Int)) (List.take ((IntKind.i64.wrap k).tmod ((↑(List.length c) : Int)
    + (1 : Int))).toNat c)) x y then (LongC [] ∧ x.length ≤ (1000000 : Nat) ∧ y.length ≤ (1000000 : Nat)) ∧ bif x == y then x.length ≤ (1000000 : Nat) ∧ (Snd.alikeB [] x y == Snd.heardB x) =
    true else (Snd.alikeB [] x y == false) = true else (LongC c ∧ x.length ≤ (1000000 : Nat) ∧ y.length ≤ (1000000 : Nat)) ∧ bif Snd.alikeB c x y then (LongC [] ∧ x.length ≤ (1000000 : Nat) ∧
    y.length ≤ (1000000 : Nat)) ∧ bif x == y then x.length ≤ (1000000 : Nat) ∧ (Snd.alikeB [] x y == Snd.heardB x) = true else (Snd.alikeB [] x y == false) = true else false = true else false =
    true
    /-CV-/ := by
  obtain ⟨_, hk, _, _⟩ := h
  obtain ⟨hk0, hk1⟩ := bounds_u8 (show (Lit.int .u8 k).wf = true from hk)
  have hwk : IntKind.i64.wrap k = k := wrap_byte k hk0 hk1
  have hlen : [x, y].length ≤ 1000000 := by show 2 ≤ 1000000; omega
  simp only [true_and, and_true]
  refine ⟨hlen, bifP (fun _ => trivial) fun hf => ?_⟩
  have hf : fewLB (c, [x, y]) = true := by simpa using hf
  obtain ⟨hc, hxy⟩ := few_out hf
  have hx : x.length ≤ 100 := hxy x (by simp)
  have hy : y.length ≤ 100 := hxy y (by simp)
  have hL := long_of hc
  refine ⟨hL, bifP (fun _ => trivial) fun hp => ?_⟩
  have hp : Snd.properB c = true := by simpa using hp
  have hK0 : 0 ≤ k.tmod ((c.length : Int) + 1) := Int.tmod_nonneg _ hk0
  have hK1 : k.tmod ((c.length : Int) + 1) < (c.length : Int) + 1 := Int.tmod_lt_of_pos _ (by omega)
  rw [hwk]
  generalize k.tmod ((c.length : Int) + 1) = K at *
  obtain ⟨j, rfl⟩ : ∃ j : Nat, K = j := ⟨K.toNat, by omega⟩
  have hti : ((j : Int).toNat) = j := rfl
  have ht0 : (Int.toNat 0) = 0 := rfl
  have hcl : c.length ≤ 30 := hc.1
  simp only [hti, ht0, List.drop_zero]
  have hT : LongC (c.take j) := ⟨by rw [List.length_take]; omega, fun z hz => hL.2 z (List.mem_of_mem_take hz)⟩
  have hpt := Snd.proper_take c hp j
  have hN : LongC [] := ⟨Nat.zero_le _, fun z hz => by cases hz⟩
  have hnil : (LongC [] ∧ x.length ≤ 1000000 ∧ y.length ≤ 1000000) ∧ bif x == y then x.length ≤ 1000000 ∧ (Snd.alikeB [] x y == Snd.heardB x) = true else (Snd.alikeB [] x y == false) = true := by
    refine ⟨⟨hN, by omega, by omega⟩, bifP (fun hb => ⟨by omega, ?_⟩) fun hb => ?_⟩
    · rw [Snd.alike_nil, hb, Bool.true_and, beq_self_eq_true]
    · rw [Snd.alike_nil, hb, Bool.false_and]; rfl
  rw [hpt]
  refine ⟨⟨by omega, by omega⟩, by omega, ⟨by omega, by omega, by omega⟩, hT, ⟨by omega, by omega, by omega⟩, ⟨hT, by omega, by omega⟩, bifP (fun _ => hnil) fun hb => ⟨⟨hL, by omega, by omega⟩, bifP (fun _ => hnil) fun hb2 => ?_⟩⟩
  have hb : Snd.alikeB (c.take j) x y = true := by simpa using hb
  obtain ⟨_, h1, h2, h3⟩ := Snd.alike_out hb
  have := Snd.sounds_mono (fun z hz => List.mem_of_mem_take hz) h3
  unfold Snd.alikeB at hb2
  rw [hp, h1, h2, this] at hb2
  cases hb2
set_option maxRecDepth 100000 in
theorem heard_holds : cHeard.Holds Tryd.prog := by
  refine holdsF (cons := []) Tryd.func14 (by kernel_rfl) (by kernel_rfl) mixed (by kernel_rfl) (fun c h => by cases h) anHeard fun p hp => ?_
  refine cast ?_ (heard_vc p hp)
  kernel_rfl
theorem consLaw_hold : ∀ c ∈ consLaw, c.Holds Tryd.prog := fun c h => by
    unfold consLaw at h
    rcases List.mem_cons.1 h with rfl | h
    · exact head_holds
    rcases List.mem_cons.1 h with rfl | h
    · exact fewL_holds
    rcases List.mem_cons.1 h with rfl | h
    · exact proper_holds
    rcases List.mem_cons.1 h with rfl | h
    · exact alike_holds
    · obtain rfl := List.mem_singleton.1 h; exact heard_holds
set_option maxRecDepth 100000 in
theorem both_holds : cBoth.Holds Tryd.prog := by
  refine holdsF (cons := consLaw) Tryd.func3 (by kernel_rfl) (by kernel_rfl) mixed (by kernel_rfl) consLaw_hold (fun _ => []) fun p hp => ?_
  obtain ⟨c, x, y⟩ := p
  refine cast ?_ (both_vc c x y hp)
  kernel_rfl
set_option maxRecDepth 100000 in
theorem made_holds : cMade.Holds Tryd.prog := by
  refine holdsF (cons := consLaw) Tryd.func4 (by kernel_rfl) (by kernel_rfl) mixed (by kernel_rfl) consLaw_hold (fun _ => []) fun p hp => ?_
  obtain ⟨c, x, y, k⟩ := p
  refine cast ?_ (made_vc c x y k hp)
  kernel_rfl
set_option maxRecDepth 100000 in
theorem more_holds : cMore.Holds Tryd.prog := by
  refine holdsF (cons := consLaw) Tryd.func6 (by kernel_rfl) (by kernel_rfl) mixed (by kernel_rfl) consLaw_hold (fun _ => []) fun p hp => ?_
  obtain ⟨c, k, x, y⟩ := p
  refine cast ?_ (more_vc c k x y hp)
  kernel_rfl
end Go.Proofs.YtgjdbnkeamjhhaaDoor

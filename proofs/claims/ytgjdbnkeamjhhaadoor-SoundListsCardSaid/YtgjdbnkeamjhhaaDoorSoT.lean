/-
  Layer 40: SoundNear, SoundLists.
-/
import Derived.Test.YtgjdbnkeamjhhaaDoorSoR
set_option linter.unusedVariables false
namespace Go.Proofs.YtgjdbnkeamjhhaaDoor
open Go.RowKit
open R
/-! a strictly increasing list gone through by counting -/
theorem cnt_cons (a : Int) (r : List Int) (i : Nat) : cnt (a :: r) i = (if a < (i : Int) then 1 else 0) + cnt r i := by
  unfold cnt
  rw [List.filter_cons]
  by_cases h : a < (i : Int)
  · rw [if_pos (decide_eq_true h), if_pos h, List.length_cons]; omega
  · rw [if_neg (by simpa using h), if_neg h]; omega
theorem cnt_none {r : List Int} {i : Nat} (h : ∀ k ∈ r, (i : Int) ≤ k) : cnt r i = 0 := by
  unfold cnt
  rw [List.length_eq_zero_iff, List.filter_eq_nil_iff]
  intro k hk
  have := h k hk
  simp
  omega
theorem at_cnt : ∀ {N : List Int}, N.Pairwise (· < ·) → ∀ i : Nat, (cnt N i < N.length ∧ N.getD (cnt N i) 0 = (i : Int)) ↔ (i : Int) ∈ N
  | [], _, i => by simp [cnt]
  | a :: r, h, i => by
    rw [List.pairwise_cons] at h
    have ih := at_cnt h.2 i
    rw [cnt_cons]
    rcases Int.lt_trichotomy a (i : Int) with h1 | h1 | h1
    · rw [if_pos h1, Nat.add_comm, List.getD_cons_succ, List.length_cons, List.mem_cons]
      constructor
      · rintro ⟨h2, h3⟩; exact .inr (ih.1 ⟨by omega, h3⟩)
      · rintro (h2 | h2)
        · omega
        · have := ih.2 h2; exact ⟨by omega, this.2⟩
    · have h0 : cnt r i = 0 := cnt_none (fun k hk => by have := h.1 k hk; omega)
      rw [if_neg (by omega), h0]
      constructor
      · intro _; rw [h1]; exact List.mem_cons_self ..
      · intro _; exact ⟨by simp, by simpa using h1⟩
    · have h0 : cnt r i = 0 := cnt_none (fun k hk => by have := h.1 k hk; omega)
      rw [if_neg (by omega), h0]
      constructor
      · rintro ⟨_, h3⟩
        rw [List.getD_cons_zero] at h3; omega
      · intro h3
        rcases List.mem_cons.1 h3 with h3 | h3
        · omega
        · have := h.1 _ h3; omega
theorem cnt_succ : ∀ {N : List Int}, N.Pairwise (· < ·) → ∀ i : Nat, cnt N (i + 1) = cnt N i + if (i : Int) ∈ N then 1 else 0
  | [], _, i => by simp [cnt]
  | a :: r, h, i => by
    rw [List.pairwise_cons] at h
    have ih := cnt_succ h.2 i
    rw [cnt_cons, cnt_cons, ih]
    rcases Int.lt_trichotomy a (i : Int) with h1 | h1 | h1
    · rw [if_pos (show a < ((i + 1 : Nat) : Int) by omega), if_pos h1]
      by_cases h2 : (i : Int) ∈ r
      · rw [if_pos h2, if_pos (List.mem_cons_of_mem _ h2)]; omega
      · rw [if_neg h2, if_neg (fun h3 => by rcases List.mem_cons.1 h3 with h3 | h3; omega; exact h2 h3)]; omega
    · have h2 : (i : Int) ∉ r := fun h3 => by have := h.1 _ h3; omega
      rw [if_pos (show a < ((i + 1 : Nat) : Int) by omega), if_neg (show ¬ a < (i : Int) by omega), if_neg h2, if_pos (by rw [h1]; exact List.mem_cons_self ..)]; omega
    · have h2 : (i : Int) ∉ r := fun h3 => by have := h.1 _ h3; omega
      rw [if_neg (show ¬ a < ((i + 1 : Nat) : Int) by omega), if_neg (show ¬ a < (i : Int) by omega), if_neg h2, if_neg (fun h3 => by rcases List.mem_cons.1 h3 with h3 | h3; omega; exact h2 h3)]; omega
theorem cnt_all {N : List Int} {n : Nat} (h : ∀ k ∈ N, k < (n : Int)) : cnt N n = N.length := by
  unfold cnt
  rw [List.filter_eq_self.2 (fun k hk => decide_eq_true (h k hk))]
theorem cnt_le (N : List Int) (n : Nat) : cnt N n ≤ N.length := List.length_filter_le _ _
theorem few_w {p : WlP} (h : fewWB p = true) : p.2.length ≤ 40 ∧ p.1.length ≤ 100 ∧ ∀ s ∈ p.2, s.length ≤ 100 := by
  unfold fewWB at h
  simp only [Bool.and_eq_true, List.all_eq_true, decide_eq_true_eq] at h
  exact ⟨h.1, h.2.1, h.2.2⟩
theorem longW_of {p : WlP} (h : p.2.length ≤ 40 ∧ p.1.length ≤ 100 ∧ ∀ s ∈ p.2, s.length ≤ 100) : LongW p := ⟨by omega, by omega, fun s hs => by have := h.2.2 s hs; omega⟩
theorem near_ok {lang : List UInt8} {ws : List (List UInt8)} {c : CfP} {x : List UInt8} (h : (Snd.validB lang ws && (Snd.properB c && Snd.heardB x)) = true) : Snd.nearB lang ws c x = (Snd.nearL ws c x ws.length, 0) := by unfold Snd.nearB; rw [if_pos h]
theorem near_bad {lang : List UInt8} {ws : List (List UInt8)} {c : CfP} {x : List UInt8} (h : (Snd.validB lang ws && (Snd.properB c && Snd.heardB x)) = false) : Snd.nearB lang ws c x = ([], 1) := by unfold Snd.nearB; rw [if_neg (by rw [h]; exact Bool.noConfusion)]
theorem near_mem {ws : List (List UInt8)} {c : CfP} {x : List UInt8} {i : Nat} : (i : Int) ∈ Snd.nearL ws c x ws.length ↔ i < ws.length ∧ Snd.soundsB c (ws.getD i []) x = true := by
  rw [Snd.mem_nearL]
  constructor
  · rintro ⟨j, hj, h1, h2⟩
    have : i = j := by omega
    subst this
    exact ⟨h1, h2⟩
  · rintro ⟨h1, h2⟩; exact ⟨i, rfl, h1, h2⟩
theorem valid_word {lang : List UInt8} {ws : List (List UInt8)} (h : Snd.validB lang ws = true) {s : List UInt8} (hs : s ∈ ws) : Snd.heardB s = true := by
  unfold Snd.validB at h
  simp only [Bool.and_eq_true, List.all_eq_true] at h
  have := h.2.2.2.1 s hs
  unfold Snd.heardB Snd.lettersB at *
  simp only [Bool.and_eq_true, decide_eq_true_eq] at *
  exact ⟨this.1, by omega, by omega⟩
theorem near_alike {lang : List UInt8} {ws : List (List UInt8)} {c : CfP} {x : List UInt8} (hv : Snd.validB lang ws = true) (hp : Snd.properB c = true) (hx : Snd.heardB x = true) (i : Nat) (hi : i < ws.length) :
    Snd.alikeB c x (ws.getD i []) = decide ((i : Int) ∈ Snd.nearL ws c x ws.length) := by
  unfold Snd.alikeB
  rw [hp, hx, valid_word hv (Snd.mem_getD ws [] i hi), Snd.sounds_symm, Bool.true_and, Bool.true_and, Bool.true_and]
  by_cases h : Snd.soundsB c (ws.getD i []) x = true
  · rw [h, decide_eq_true (near_mem.2 ⟨hi, h⟩)]
  · rw [decide_eq_false (fun h' => h (near_mem.1 h').2)]
    simpa using h
set_option maxRecDepth 100000 in
theorem snear_vc (lang : List UInt8) (ws : List (List UInt8)) (c : CfP) (x : List UInt8) (h : cSNear.pre ((lang, ws), c, x)) :
    /-VC fun (lang : List UInt8) (ws : List (List UInt8)) (c : CfP) (x : List UInt8) => vcOf Tryd.prog consLaw2 (anSNear ws (Snd.nearB lang ws c x).1) cSNear Tryd.f7 ((lang, ws), c, x) -/
    True ∧ [x].length ≤ (1000000 : Nat) ∧ bif !fewLB (c, [x]) then true = true else True ∧ bif !fewWB (lang, ws) then true = true else (LongW (lang, ws) ∧ LongC c ∧ x.length ≤ (1000000 : Nat)) ∧
    bif (Snd.nearB lang ws c x).snd != (0 : Int) then bif (Snd.nearB lang ws c x).snd == (1 : Int) then bif (↑(Snd.nearB lang ws c x).fst.length : Int) == (0 : Int) then LongW (lang, ws) ∧ bif
    !Snd.validB lang ws then true = true else LongC c ∧ bif !Snd.properB c then true = true else x.length ≤ (1000000 : Nat) ∧ (!Snd.heardB x) = true else false = true else false = true else (∃
    (p' : Nat), p' ≤ ws.length ∧ ((0 : Int) = (↑(cnt (Snd.nearB lang ws c x).fst p') : Int) ∧ (0 : Int) = (↑p' : Int) ∧ c = c ∧ x = x ∧ True ∧ true = true ∧ (Snd.nearB lang ws c x).fst =
    (Snd.nearB lang ws c x).fst ∧ True) ∧ ((lang = lang ∧ ws = ws ∧ True) ∧ True) ∧ True ∧ True) ∧ ∀ (p : Nat), p ≤ ws.length → bif decide ((↑p : Int) < (↑ws.length : Int)) then bif decide
    ((↑(cnt (Snd.nearB lang ws c x).fst p) : Int) < (↑(Snd.nearB lang ws c x).fst.length : Int)) then ((0 : Int) ≤ (↑(cnt (Snd.nearB lang ws c x).fst p) : Int) ∧ (↑(cnt (Snd.nearB lang ws c
    x).fst p) : Int) < (↑(Snd.nearB lang ws c x).fst.length : Int)) ∧ bif (Snd.nearB lang ws c x).fst.getD (↑(cnt (Snd.nearB lang ws c x).fst p) : Int).toNat (0 : Int) == (↑p : Int) then
    ((-9223372036854775808 : Int) ≤ (↑(cnt (Snd.nearB lang ws c x).fst p) : Int) + (1 : Int) ∧ (↑(cnt (Snd.nearB lang ws c x).fst p) : Int) + (1 : Int) ≤ (9223372036854775807 : Int)) ∧ ((0 :
    Int) ≤ (↑p : Int) ∧ (↑p : Int) < (↑ws.length : Int)) ∧ (LongC c ∧ x.length ≤ (1000000 : Nat) ∧ (ws.getD (↑p : Int).toNat []).length ≤ (1000000 : Nat)) ∧ bif !((Snd.nearB lang ws c
    x).fst.getD (↑(cnt (Snd.nearB lang ws c x).fst p) : Int).toNat (0 : Int) == (↑p : Int)) == Snd.alikeB c x (ws.getD (↑p : Int).toNat []) then false = true else ((-9223372036854775808 : Int) ≤
    (↑p : Int) + (1 : Int) ∧ (↑p : Int) + (1 : Int) ≤ (9223372036854775807 : Int)) ∧ ∃ (p' : Nat), p' ≤ ws.length ∧ ws.length - p' < ws.length - p ∧ ((↑(cnt (Snd.nearB lang ws c x).fst p) : Int)
    + (1 : Int) = (↑(cnt (Snd.nearB lang ws c x).fst p') : Int) ∧ (↑p : Int) + (1 : Int) = (↑p' : Int) ∧ c = c ∧ x = x ∧ True ∧ true = true ∧ (Snd.nearB lang ws c x).fst = (Snd.nearB lang ws c
    x).fst ∧ True) ∧ ((lang = lang ∧ ws = ws ∧ True) ∧ True) ∧ True ∧ True else ((0 : Int) ≤ (↑p : Int) ∧ (↑p : Int) < (↑ws.length : Int)) ∧ (LongC c ∧ x.length ≤ (1000000 : Nat) ∧ (ws.getD (↑p
    : Int).toNat []).length ≤ (1000000 : Nat)) ∧ bif !((Snd.nearB lang ws c x).fst.getD (↑(cnt (Snd.nearB lang ws c x).fst p) : Int).toNat (0 : Int) == (↑p : Int)) == Snd.alikeB c x (ws.getD (↑p
    : Int).toNat []) then false = true else ((-9223372036854775808 : Int) ≤ (↑p : Int) + (1 : Int) ∧ (↑p : Int) + (1 : Int) ≤ (9223372036854775807 : Int)) ∧ ∃ (p' : Nat), p' ≤ ws.length ∧
    ws.length - p' < ws.length - p ∧ ((↑(cnt (Snd.nearB lang ws c x).fst p) : Int) = (↑(cnt (Snd.nearB lang ws c x).fst p') : Int) ∧ (↑p : Int) + (1 : Int) = (↑p' : Int) ∧ c = c ∧ x = x ∧ True ∧
    true = true ∧ (Snd.nearB lang ws c x).fst = (Snd.nearB lang ws c x).fst ∧ True) ∧ ((lang = lang ∧ ws = ws ∧ True) ∧ True) ∧ True ∧ True else ((0 : Int) ≤ (↑p : Int) ∧ (↑p : Int) <
    (↑ws.length : Int)) ∧ (LongC c ∧ x.length ≤ (1000000 : Nat) ∧ (ws.getD (↑p : Int).toNat []).length ≤ (1000000 : Nat)) ∧ bif !false == Snd.alikeB c x (ws.getD (↑p : Int).toNat []) then false
    = true else ((-9223372036854775808 : Int) ≤ (↑p : Int) + (1 : Int) ∧ (↑p : Int) + (1 : Int) ≤ (9223372036854775807 : Int)) ∧ ∃ (p' : Nat), p' ≤ ws.length ∧ ws.length - p' < ws.length - p ∧
    ((↑(cnt (Snd.nearB lang ws c x).fst p) : Int) = (↑(cnt (Snd.nearB lang ws c x).fst p') : Int) ∧ (↑p : Int) + (1 : Int) = (↑p' : Int) ∧ c = c ∧ x = x ∧ True ∧ true = true ∧ (Snd.nearB lang ws
    c x).fst = (Snd.nearB lang ws c x).fst ∧ True) ∧ ((lang = lang ∧ ws = ws ∧ True) ∧ True) ∧ True ∧ True else bif (↑(cnt (Snd.nearB lang ws c x).fst p) : Int) == (↑(Snd.nearB lang ws c
    x).fst.length : Int) then LongW (lang, ws) ∧ bif Snd.validB lang ws then LongC c ∧ bif Snd.properB c then x.length ≤ (1000000 : Nat) ∧ Snd.heardB x = true else false = true else false = true
    else false = true
    /-CV-/ := by
  have hlen : [x].length ≤ 1000000 := by show 1 ≤ 1000000; omega
  simp only [true_and, and_true]
  refine ⟨hlen, bifP (fun _ => trivial) fun hf => bifP (fun _ => trivial) fun hw => ?_⟩
  have hf : fewLB (c, [x]) = true := by simpa using hf
  have hw : fewWB (lang, ws) = true := by simpa using hw
  obtain ⟨hc, hxy⟩ := few_out hf
  have hx : x.length ≤ 100 := hxy x (by simp)
  have hL := long_of hc
  have hW' := few_w hw
  have hW := longW_of hW'
  have hn : ws.length ≤ 40 := hW'.1
  refine ⟨⟨hW, hL, by omega⟩, ?_⟩
  cases hg : (Snd.validB lang ws && (Snd.properB c && Snd.heardB x))
  · rw [near_bad hg]
    show (bif (1 : Int) != 0 then _ else _)
    refine ⟨hW, bifP (fun _ => trivial) fun hv => ⟨hL, bifP (fun _ => trivial) fun hp => ⟨by omega, ?_⟩⟩⟩
    have hv : Snd.validB lang ws = true := by simpa using hv
    have hp : Snd.properB c = true := by simpa using hp
    rw [hv, hp] at hg
    have hg : Snd.heardB x = false := hg
    rw [hg]; rfl
  · rw [near_ok hg]
    simp only [Bool.and_eq_true] at hg
    obtain ⟨hv, hp, hh⟩ := hg
    have hst := Snd.nearL_strict ws c x ws.length
    have hlt : ∀ k ∈ Snd.nearL ws c x ws.length, 0 ≤ k ∧ k < (ws.length : Int) := fun k hk => by
      obtain ⟨i, rfl, h1, _⟩ := Snd.mem_nearL.1 hk
      omega
    have hal := fun i hi => near_alike (ws := ws) (c := c) (x := x) hv hp hh i hi
    show (bif (0 : Int) != 0 then _ else _)
    generalize Snd.nearL ws c x ws.length = N at *
    dsimp only
    have hNl : N.length ≤ 1000000000 := by
      have h1 : cnt N ws.length = N.length := cnt_all fun k hk => (hlt k hk).2
      have h2 : ∀ n, cnt N n ≤ n := fun n => by
        induction n with
        | zero => rw [cnt_none (fun k hk => by have := hlt k hk; omega)]; exact Nat.le_refl _
        | succ n ih => rw [cnt_succ hst]; split <;> omega
      have := h2 ws.length
      omega
    refine ⟨⟨0, Nat.zero_le _, ?_, rfl⟩, ?_⟩
    · show (0 : Int) = ((cnt N 0 : Nat) : Int)
      rw [cnt_none (fun k hk => by have := hlt k hk; omega)]; rfl
    intro p hp'
    have hcl := cnt_le N p
    have hti : ((p : Int).toNat) = p := rfl
    have htc : (((cnt N p : Nat) : Int).toNat) = cnt N p := rfl
    have hat := at_cnt hst p
    have hsu := cnt_succ hst p
    show (bif decide ((p : Int) < (ws.length : Int)) then (bif decide (((cnt N p : Nat) : Int) < (N.length : Int)) then _ else _) else _)
    refine bifP (fun hb => ?_) fun hb => ?_
    · have hlt2 : p < ws.length := by have := of_decide_eq_true hb; omega
      have hwl : (ws.getD p []).length ≤ 1000000 := hW.2.2 _ (Snd.mem_getD ws [] p hlt2)
      have hal := hal p hlt2
      have fin : ∀ (b : Bool) (m : Nat), b = decide ((p : Int) ∈ N) → (m : Int) = ((cnt N (p + 1) : Nat) : Int) →
          ((0 : Int) ≤ (p : Int) ∧ (p : Int) < (ws.length : Int)) ∧ (LongC c ∧ x.length ≤ 1000000 ∧ (ws.getD (p : Int).toNat []).length ≤ 1000000) ∧
            bif !(b == Snd.alikeB c x (ws.getD (p : Int).toNat [])) then false = true else
              ((-9223372036854775808 : Int) ≤ (p : Int) + 1 ∧ (p : Int) + 1 ≤ 9223372036854775807) ∧ ∃ p' : Nat, p' ≤ ws.length ∧ ws.length - p' < ws.length - p ∧ (m : Int) = ((cnt N p' : Nat) : Int) ∧ (p : Int) + 1 = (p' : Int) := fun b m hb hm => by
        rw [hti, hal, hb, beq_self_eq_true]
        exact ⟨⟨by omega, by omega⟩, ⟨hL, by omega, hwl⟩, ⟨by omega, by omega⟩, p + 1, by omega, by omega, hm, by omega⟩
      refine bifP (fun hb1 => ?_) fun hb1 => ?_
      · have h1 : cnt N p < N.length := by have := of_decide_eq_true hb1; omega
        refine ⟨⟨by omega, by omega⟩, ?_⟩
        show (bif N.getD (((cnt N p : Nat) : Int).toNat) 0 == (p : Int) then _ else _)
        rw [htc]
        refine bifP (fun hb2 => ?_) fun hb2 => ?_
        · have h2 : (p : Int) ∈ N := hat.1 ⟨h1, beq_iff_eq.1 hb2⟩
          have := fin (N.getD (cnt N p) 0 == (p : Int)) (cnt N p + 1) (by rw [hb2, decide_eq_true h2]) (by rw [hsu, if_pos h2])
          exact ⟨⟨by omega, by omega⟩, this⟩
        · have h2 : (p : Int) ∉ N := fun h3 => (beq_eq_false_iff_ne.1 hb2) (hat.2 h3).2
          exact fin (N.getD (cnt N p) 0 == (p : Int)) (cnt N p) (by rw [hb2, decide_eq_false h2]) (by rw [hsu, if_neg h2]; rfl)
      · have h1 : ¬ cnt N p < N.length := by have := of_decide_eq_false hb1; omega
        have h2 : (p : Int) ∉ N := fun h3 => h1 (hat.2 h3).1
        exact fin false (cnt N p) (by rw [decide_eq_false h2]) (by rw [hsu, if_neg h2]; rfl)
    · have hpe : p = ws.length := by have := of_decide_eq_false hb; omega
      subst hpe
      show (bif ((cnt N ws.length : Nat) : Int) == (N.length : Int) then _ else _)
      rw [cnt_all fun k hk => (hlt k hk).2, beq_self_eq_true]
      refine ⟨hW, ?_⟩
      rw [hv]
      refine ⟨hL, ?_⟩
      rw [hp]
      exact ⟨by omega, hh⟩
theorem consLaw2_hold : ∀ c ∈ consLaw2, c.Holds Tryd.prog := fun c h => by
    unfold consLaw2 at h
    rcases List.mem_cons.1 h with rfl | h
    · exact head_holds
    rcases List.mem_cons.1 h with rfl | h
    · exact fewL_holds
    rcases List.mem_cons.1 h with rfl | h
    · exact fewW_holds
    rcases List.mem_cons.1 h with rfl | h
    · exact near_holds
    rcases List.mem_cons.1 h with rfl | h
    · exact proper_holds
    rcases List.mem_cons.1 h with rfl | h
    · exact alike_holds
    rcases List.mem_cons.1 h with rfl | h
    · exact heard_holds
    rcases List.mem_cons.1 h with rfl | h
    · exact valid_holds
    · obtain rfl := List.mem_singleton.1 h; exact ints_holds
set_option maxRecDepth 100000 in
theorem snear_holds : cSNear.Holds Tryd.prog := by
  refine holdsF (cons := consLaw2) Tryd.func7 (by kernel_rfl) (by kernel_rfl) mixed (by kernel_rfl) consLaw2_hold (fun p => anSNear p.1.2 (Snd.nearB p.1.1 p.1.2 p.2.1 p.2.2).1) fun p hp => ?_
  obtain ⟨⟨lang, ws⟩, c, x⟩ := p
  refine cast ?_ (snear_vc lang ws c x hp)
  kernel_rfl
end Go.Proofs.YtgjdbnkeamjhhaaDoor

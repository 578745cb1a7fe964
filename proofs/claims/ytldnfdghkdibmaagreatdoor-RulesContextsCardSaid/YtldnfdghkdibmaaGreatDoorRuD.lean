/-
  Layer 11: formed and open: what they return.
-/
import Derived.Test.YtldnfdghkdibmaaGreatDoorRuC
import Derived.Test.YtldnfdghkdibmaaGreatDoorRuB
import Derived.Test.YtldnfdghkdibmaaGreatDoorMP
set_option linter.unusedVariables false
namespace Go.Proofs.YtldnfdghkdibmaaGreatDoor
open Go.RowKit
open R
set_option maxRecDepth 100000 in
theorem formed_vc (r1 r2 : List UInt8) (l : List Rul.Rule) (h : cFormedP.pre (r1, r2, l)) :
    /-VC fun (r1 r2 : List UInt8) (l : List Rul.Rule) => vcOf Tryz.prog [cPlain, cIsName] (anFormed (r1, r2, l)) cFormedP Tryz.f51 (r1, r2, l) -/
    (∃ (p' : Nat), (p' ≤ l.length ∧ (List.take p' l).all Rul.okRule = true ∧ Rul.once (List.take p' l) = true) ∧ ((0 : Int) = (↑p' : Int) ∧ True ∧ false = false ∧ True ∧ l = l ∧ (↑l.length :
    Int) = (↑l.length : Int) ∧ True) ∧ ((r1 = r1 ∧ r2 = r2 ∧ l = l ∧ True) ∧ True) ∧ True ∧ True ∧ ([] = List.map (fun (x : List UInt8 × List UInt8 × List UInt8 × Bool) => (x, true)) (List.take
    p' l) ∧ True) ∧ True ∧ True ∧ True) ∧ ∀ (p : Nat), p ≤ l.length ∧ (List.take p l).all Rul.okRule = true ∧ Rul.once (List.take p l) = true → bif decide ((↑p : Int) < (↑l.length : Int)) then
    ((0 : Int) ≤ (↑p : Int) ∧ (↑p : Int) < (↑l.length : Int)) ∧ (l.getD (↑p : Int).toNat ([], [], [], false)).fst.length ≤ (1000000000 : Nat) ∧ bif !Rul.plainB (l.getD (↑p : Int).toNat ([], [],
    [], false)).fst (1 : Int) (9 : Int) then false = Rul.formedB (r1, r2, l) else (l.getD (↑p : Int).toNat ([], [], [], false)).snd.fst.length ≤ (1000000000 : Nat) ∧ bif !Rul.plainB (l.getD (↑p
    : Int).toNat ([], [], [], false)).snd.fst (0 : Int) (9 : Int) then false = Rul.formedB (r1, r2, l) else (l.getD (↑p : Int).toNat ([], [], [], false)).snd.snd.fst.length ≤ (1000000000 : Nat)
    ∧ bif !Rul.plainB (l.getD (↑p : Int).toNat ([], [], [], false)).snd.snd.fst (0 : Int) (30 : Int) then false = Rul.formedB (r1, r2, l) else bif (l.getD (↑p : Int).toNat ([], [], [],
    false)).snd.snd.snd then bif !(l.getD (↑p : Int).toNat ([], [], [], false)).snd.snd.fst == [] then false = Rul.formedB (r1, r2, l) else bif (Mp.get (fun (x x_1 : List UInt8 × List UInt8 ×
    List UInt8 × Bool) => x.fst == x_1.fst && (x.snd.fst == x_1.snd.fst && (x.snd.snd.fst == x_1.snd.snd.fst && x.snd.snd.snd == x_1.snd.snd.snd))) ((l.getD (↑p : Int).toNat ([], [], [],
    false)).fst, (l.getD (↑p : Int).toNat ([], [], [], false)).snd.fst, (l.getD (↑p : Int).toNat ([], [], [], false)).snd.snd.fst, (l.getD (↑p : Int).toNat ([], [], [], false)).snd.snd.snd)
    (List.map (fun (x : List UInt8 × List UInt8 × List UInt8 × Bool) => (x, true)) (List.take p l))).getD false then false = Rul.formedB (r1, r2, l) else ((-9223372036854775808 : Int) ≤ (↑p :
    Int) + (1 : Int) ∧ (↑p : Int) + (1 : Int) ≤ (9223372036854775807 : Int)) ∧ ∃ (p' : Nat), (p' ≤ l.length ∧ (List.take p' l).all Rul.okRule = true ∧ Rul.once (List.take p' l) = true) ∧
    l.length - p' < l.length - p ∧ ((↑p : Int) + (1 : Int) = (↑p' : Int) ∧ True ∧ false = false ∧ True ∧ l = l ∧ (↑l.length : Int) = (↑l.length : Int) ∧ True) ∧ ((r1 = r1 ∧ r2 = r2 ∧ l = l ∧
    True) ∧ True) ∧ True ∧ True ∧ (Mp.put (fun (x x_1 : List UInt8 × List UInt8 × List UInt8 × Bool) => x.fst == x_1.fst && (x.snd.fst == x_1.snd.fst && (x.snd.snd.fst == x_1.snd.snd.fst &&
    x.snd.snd.snd == x_1.snd.snd.snd))) ((l.getD (↑p : Int).toNat ([], [], [], false)).fst, (l.getD (↑p : Int).toNat ([], [], [], false)).snd.fst, (l.getD (↑p : Int).toNat ([], [], [],
    false)).snd.snd.fst, (l.getD (↑p : Int).toNat ([], [], [], false)).snd.snd.snd) true (List.map (fun (x : List UInt8 × List UInt8 × List UInt8 × Bool) => (x, true)) (List.take p l)) =
    List.map (fun (x : List UInt8 × List UInt8 × List UInt8 × Bool) => (x, true)) (List.take p' l) ∧ True) ∧ True ∧ True ∧ True else bif (Mp.get (fun (x x_1 : List UInt8 × List UInt8 × List
    UInt8 × Bool) => x.fst == x_1.fst && (x.snd.fst == x_1.snd.fst && (x.snd.snd.fst == x_1.snd.snd.fst && x.snd.snd.snd == x_1.snd.snd.snd))) ((l.getD (↑p : Int).toNat ([], [], [], false)).fst,
    (l.getD (↑p : Int).toNat ([], [], [], false)).snd.fst, (l.getD (↑p : Int).toNat ([], [], [], false)).snd.snd.fst, (l.getD (↑p : Int).toNat ([], [], [], false)).snd.snd.snd) (List.map (fun (x
    : List UInt8 × List UInt8 × List UInt8 × Bool) => (x, true)) (List.take p l))).getD false then false = Rul.formedB (r1, r2, l) else ((-9223372036854775808 : Int) ≤ (↑p : Int) + (1 : Int) ∧
    (↑p : Int) + (1 : Int) ≤ (9223372036854775807 : Int)) ∧ ∃ (p' : Nat), (p' ≤ l.length ∧ (List.take p' l).all Rul.okRule = true ∧ Rul.once (List.take p' l) = true) ∧ l.length - p' < l.length -
    p ∧ ((↑p : Int) + (1 : Int) = (↑p' : Int) ∧ True ∧ false = false ∧ True ∧ l = l ∧ (↑l.length : Int) = (↑l.length : Int) ∧ True) ∧ ((r1 = r1 ∧ r2 = r2 ∧ l = l ∧ True) ∧ True) ∧ True ∧ True ∧
    (Mp.put (fun (x x_1 : List UInt8 × List UInt8 × List UInt8 × Bool) => x.fst == x_1.fst && (x.snd.fst == x_1.snd.fst && (x.snd.snd.fst == x_1.snd.snd.fst && x.snd.snd.snd ==
    x_1.snd.snd.snd))) ((l.getD (↑p : Int).toNat ([], [], [], false)).fst, (l.getD (↑p : Int).toNat ([], [], [], false)).snd.fst, (l.getD (↑p : Int).toNat ([], [], [], false)).snd.snd.fst,
    (l.getD (↑p : Int).toNat ([], [], [], false)).snd.snd.snd) true (List.map (fun (x : List UInt8 × List UInt8 × List UInt8 × Bool) => (x, true)) (List.take p l)) = List.map (fun (x : List
    UInt8 × List UInt8 × List UInt8 × Bool) => (x, true)) (List.take p' l) ∧ True) ∧ True ∧ True ∧ True else r1.length ≤ (1000 : Nat) ∧ bif Lx.nameB r1 then r2.length ≤ (1000 : Nat) ∧ bif
    Lx.nameB r2 then bif decide ((1 : Int) ≤ (↑l.length : Int)) then decide ((↑l.length : Int) ≤ (80 : Int)) = Rul.formedB (r1, r2, l) else false = Rul.formedB (r1, r2, l) else false =
    Rul.formedB (r1, r2, l) else false = Rul.formedB (r1, r2, l)
    /-CV-/ := by
  simp only [true_and, and_true]
  obtain ⟨hr1, hr2, hl, hx⟩ := h
  have hr1 : r1.length ≤ 1000 := hr1
  have hr2 : r2.length ≤ 1000 := hr2
  have hl : l.length ≤ 1000 := hl
  have hx : ∀ x ∈ l, FewT x := hx
  refine ⟨⟨0, ⟨Nat.zero_le _, rfl, rfl⟩, rfl, rfl⟩, fun k ⟨hk, hall, honce⟩ => bifP (fun hb => ?_) fun hb => ?_⟩
  · have hlt : k < l.length := by have := of_decide_eq_true hb; omega
    have hti : ((k : Int)).toNat = k := rfl
    have hxk : l[k]? = some (l.getD k ([], [], [], false)) := by rw [List.getD_eq_getElem?_getD, List.getElem?_eq_getElem hlt]; rfl
    have hmem : l.getD k ([], [], [], false) ∈ l := List.mem_of_getElem? hxk
    have htk : l.take (k + 1) = l.take k ++ [l.getD k ([], [], [], false)] := by rw [List.take_add_one, hxk]; rfl
    have hdr : l = l.take k ++ l.getD k ([], [], [], false) :: l.drop (k + 1) := by
      conv => lhs; rw [← List.take_append_drop (k + 1) l, htk]
      rw [List.append_assoc]; rfl
    have hf := hx _ hmem
    rw [hti]
    generalize l.getD k ([], [], [], false) = x at *
    obtain ⟨x1, x2, x3, x4⟩ := x
    obtain ⟨f1, f2, f3⟩ := hf
    dsimp only at f1 f2 f3 ⊢
    have no : Rul.okRule (x1, x2, x3, x4) = false → false = Rul.formedB (r1, r2, l) := fun h => by
      cases hf : Rul.formedB (r1, r2, l)
      · rfl
      · obtain ⟨_, _, _, _, q, _⟩ := Rul.formed_out hf
        have := List.all_eq_true.1 q _ hmem
        rw [h] at this; cases this
    have ho : Rul.okRule (x1, x2, x3, x4) = (Rul.plainB x1 1 9 && (Rul.plainB x2 0 9 && (Rul.plainB x3 0 30 && !(x4 && !(x3 == []))))) := rfl
    have dup : (l.take k).contains (x1, x2, x3, x4) = true → false = Rul.formedB (r1, r2, l) := fun h => by
      cases hf : Rul.formedB (r1, r2, l)
      · rfl
      · obtain ⟨_, _, _, _, _, q⟩ := Rul.formed_out hf
        have q : Rul.once l = true := q
        rw [hdr] at q
        have := (Rul.once_tail q).1
        rw [h] at this; cases this
    refine ⟨⟨by omega, by omega⟩, by omega, bifP (fun h1 => no (by rw [ho, show Rul.plainB x1 1 9 = false by simpa using h1]; rfl)) fun h1 => ?_⟩
    have h1 : Rul.plainB x1 1 9 = true := by simpa using h1
    refine ⟨by omega, bifP (fun h2 => no (by rw [ho, h1, show Rul.plainB x2 0 9 = false by simpa using h2]; rfl)) fun h2 => ?_⟩
    have h2 : Rul.plainB x2 0 9 = true := by simpa using h2
    refine ⟨by omega, bifP (fun h3 => no (by rw [ho, h1, h2, show Rul.plainB x3 0 30 = false by simpa using h3]; rfl)) fun h3 => ?_⟩
    have h3 : Rul.plainB x3 0 30 = true := by simpa using h3
    have go : (l.take k).contains (x1, x2, x3, x4) = false → Rul.okRule (x1, x2, x3, x4) = true → ((-9223372036854775808 : Int) ≤ (k : Int) + 1 ∧ (k : Int) + 1 ≤ 9223372036854775807) ∧ ∃ p', (p' ≤ l.length ∧ (List.take p' l).all Rul.okRule = true ∧ Rul.once (List.take p' l) = true) ∧ l.length - p' < l.length - k ∧ (k : Int) + 1 = (p' : Int) ∧
        Mp.put eqRule (x1, x2, x3, x4) true (List.map (fun x => (x, true)) (List.take k l)) = List.map (fun x => (x, true)) (List.take p' l) := fun hc hok => by
      refine ⟨⟨by omega, by omega⟩, k + 1, ⟨by omega, ?_, ?_⟩, by omega, by omega, ?_⟩
      · rw [htk, List.all_append, hall]; simpa using hok
      · rw [htk, Rul.once_snoc, honce, hc]; rfl
      · rw [put_seen _ _ hc, htk]
    have fin : x4 = false ∨ (x3 == []) = true → bif (Mp.get eqRule (x1, x2, x3, x4) (List.map (fun x => (x, true)) (List.take k l))).getD false then false = Rul.formedB (r1, r2, l) else ((-9223372036854775808 : Int) ≤ (k : Int) + 1 ∧ (k : Int) + 1 ≤ 9223372036854775807) ∧ ∃ p', (p' ≤ l.length ∧ (List.take p' l).all Rul.okRule = true ∧ Rul.once (List.take p' l) = true) ∧ l.length - p' < l.length - k ∧ (k : Int) + 1 = (p' : Int) ∧
        Mp.put eqRule (x1, x2, x3, x4) true (List.map (fun x => (x, true)) (List.take k l)) = List.map (fun x => (x, true)) (List.take p' l) := fun hx => by
      rw [get_seen]
      refine bifP dup fun hc => go hc ?_
      rw [ho, h1, h2, h3]
      rcases hx with hx | hx <;> rw [hx] <;> simp
    exact bifP (fun h4 => bifP (fun h5 => no (by rw [ho, h1, h2, h3, show x4 = true from h4, show (x3 == []) = false by simpa using h5]; rfl)) fun h5 => fin (.inr (by simpa using h5))) fun h4 => fin (.inl h4)
  · have hge : l.length ≤ k := by have := of_decide_eq_false hb; omega
    rw [List.take_of_length_le hge] at hall honce
    have hv : Rul.formedB (r1, r2, l) = (Lx.nameB r1 && (Lx.nameB r2 && (decide (1 ≤ l.length) && (decide (l.length ≤ 80) && (l.all Rul.okRule && Rul.once l))))) := rfl
    rw [hv, hall, honce]
    refine ⟨hr1, bifP (fun h1 => ⟨hr2, bifP (fun h2 => ?_) fun h2 => ?_⟩) fun h1 => ?_⟩
    · rw [show Lx.nameB r1 = true from h1, show Lx.nameB r2 = true from h2]
      have e1 : decide ((1 : Int) ≤ (l.length : Int)) = decide (1 ≤ l.length) := decide_eq_decide.2 (by omega)
      have e2 : decide ((l.length : Int) ≤ 80) = decide (l.length ≤ 80) := decide_eq_decide.2 (by omega)
      rw [e1, e2]
      cases decide (1 ≤ l.length) <;> cases decide (l.length ≤ 80) <;> rfl
    · rw [show Lx.nameB r1 = true from h1, show Lx.nameB r2 = false from h2]; rfl
    · rw [show Lx.nameB r1 = false from h1]; rfl
set_option maxRecDepth 100000 in
theorem formed_holds : cFormedP.Holds Tryz.prog := by
  refine holdsF (cons := [cPlain, cIsName]) Tryz.func51 (by kernel_rfl) (by kernel_rfl) mixed (by kernel_rfl) (fun c h => by
    rcases List.mem_cons.1 h with rfl | h
    · exact plain_holds
    · obtain rfl := List.mem_singleton.1 h; exact isname_holds) (fun r => anFormed r) fun p hp => ?_
  obtain ⟨r1, r2, l⟩ := p
  refine cast ?_ (formed_vc r1 r2 l hp)
  kernel_rfl
set_option maxRecDepth 100000 in
theorem open_holds : cOpen.Holds Tryz.prog := by
  refine holdsF (cons := [cFormedP, cPValid, cReadR]) Tryz.func32 (by kernel_rfl) (by kernel_rfl) mixed (by kernel_rfl) (fun c h => by
    rcases List.mem_cons.1 h with rfl | h
    · exact formed_holds
    rcases List.mem_cons.1 h with rfl | h
    · exact pvalid_holds
    · obtain rfl := List.mem_singleton.1 h; exact readr_holds) (fun p => anOpen p.1 p.2.1 p.2.2) fun p hp => ?_
  obtain ⟨⟨r1, r2, l⟩, f, t⟩ := p
  refine cast ?_ (open_vc r1 r2 l f t hp)
  kernel_rfl
set_option maxRecDepth 100000 in
theorem validr_holds : cValidP.Holds Tryz.prog := by
  refine holdsF (cons := [cOpen]) Tryz.func12 (by kernel_rfl) (by kernel_rfl) mixed (by kernel_rfl) (fun c h => by obtain rfl := List.mem_singleton.1 h; exact open_holds) (fun _ => []) fun p hp => ?_
  obtain ⟨r, f, t⟩ := p
  refine cast ?_ (validp_vc r f t hp)
  kernel_rfl
end Go.Proofs.YtldnfdghkdibmaaGreatDoor

/-
  Layer 40: the program's functions as contracts.
-/
import Derived.Test.YtgjdbnkeamjhhaaDoorSoK
import Derived.Test.YtgjdbnkeamjhhaaDoorMR
set_option linter.unusedVariables false
namespace Go.Proofs.YtgjdbnkeamjhhaaDoor
open Go.RowKit
open R
theorem ints_row {S : Nat → Prop} {w : World} {v : Value} {base : Nat} {e : TypeId} {ks : List Int} {n : Nat} (hn : n = ks.length) (h : w.ownsRow base e 1 v n (ks.map (Value.int .i64))) (hS : ∀ g, base ≤ g → g < w.heap.size → S g) : Kd.Rep w S (.sl (.one (.int .i64))) ks v := by
  subst hn
  rcases h.2 with ⟨rfl, h0⟩ | ⟨g, cap, cur, rfl, hb, hg, hc, _, hsz, ht⟩
  · refine ⟨none, 0, by rw [h0], by rw [h0]; exact Nat.le_refl _, fun hl => ?_⟩
    have hl : 0 < ks.length := hl
    omega
  · have hlt : g < w.heap.size := by
      rcases Nat.lt_or_ge g w.heap.size with h' | h'
      · exact h'
      · rw [Array.getElem?_eq_none h'] at hg; cases hg
    refine ⟨_, cap, rfl, hc, fun hl => ⟨g, 0, rfl, hlt, hS g hb hlt, fun i x hx => ?_⟩⟩
    refine ⟨.int .i64 x, ?_, rfl⟩
    rw [show (Kds.one (Kd.int .i64)).size = 1 from rfl, Nat.mul_one, Nat.zero_add]
    have hil : i < ks.length := by
      rcases Nat.lt_or_ge i ks.length with h' | h'
      · exact h'
      · have hx : ks[i]? = some x := hx
        rw [List.getElem?_eq_none h'] at hx; cases hx
    have h1 : (cur.toList.take (ks.length * 1))[i]? = some (.int .i64 x) := by
      rw [ht, List.getElem?_map, show ks[i]? = some x from hx]; rfl
    rw [Nat.mul_one, List.getElem?_take, if_pos hil, Array.getElem?_toList] at h1
    unfold World.cell?
    simp [hg, h1]
theorem wl_rep {p : WlP} {κ : Cx} {w : World} {v : Value} (h : (CK.comp ckWl p).Rep κ w v) : ∃ A c, v = wlv p A c ∧ StrAt w A p.2 ∧ p.2.length ≤ c := by
  obtain ⟨vs, rfl, hsz, hc, _⟩ := h
  obtain ⟨u0, e0, r0⟩ := hc 0 _ rfl
  obtain ⟨u1, e1, r1⟩ := hc 1 _ rfl
  obtain rfl : u0 = .string (bs p.1) := r0
  obtain ⟨A, c, rfl, hcap, hi⟩ := r1
  refine ⟨A, c, ?_, fun hl => ?_, hcap⟩
  · obtain ⟨l⟩ := vs
    have hsz : l.length = 2 := hsz
    match l, hsz with
    | [a, b], _ =>
      injection e0 with e0; injection e1 with e1
      have e0 : a = _ := e0
      have e1 : b = _ := e1
      subst e0; subst e1
      rfl
  · obtain ⟨g, off, rfl, hg, _, hi⟩ := hi hl
    refine ⟨g, off, rfl, hg, fun j s hj => ?_⟩
    obtain ⟨u, hu, hr⟩ := hi j s hj
    obtain rfl : u = .string (bs s) := hr
    rwa [show (Kds.one Kd.str).size = 1 from rfl, Nat.mul_one] at hu
theorem proper_holds : cProper.Holds Tryd.prog := by
  refine ⟨⟨⟨_, Tryd.func12, by kernel_rfl, by kernel_rfl⟩, fun F' hF p r hr => by injection hF with hF; subst hF; exact hr⟩, fun p vs w S hS hp hvs => ?_⟩
  obtain ⟨v, rfl, hv⟩ := one_arg hvs
  obtain ⟨A, c, rfl, hA⟩ := cf_rep (l := p) hv
  refine (proper_any p A c w hp hA).mono ?_
  rintro e w' ⟨rfl, hbl⟩
  exact ⟨Snd.properB p, _, rfl, rfl, rfl, hbl⟩
theorem alike_holds : cAlike.Holds Tryd.prog := by
  refine ⟨⟨⟨_, Tryd.func13, by kernel_rfl, by kernel_rfl⟩, fun F' hF p r hr => by injection hF with hF; subst hF; exact hr⟩, fun p vs w S hS hp hvs => ?_⟩
  obtain ⟨p, x, y⟩ := p
  obtain ⟨v, v2, v3, rfl, hv, hv2, hv3⟩ := three_args hvs
  obtain ⟨A, c, rfl, hA⟩ := cf_rep (l := p) hv
  obtain rfl : v2 = .string (bs x) := hv2
  obtain rfl : v3 = .string (bs y) := hv3
  refine (salike_any p A c x y w hp.1 hA hp.2.1 hp.2.2).mono ?_
  rintro e w' ⟨rfl, hbl⟩
  exact ⟨Snd.alikeB p x y, _, rfl, rfl, rfl, hbl⟩
theorem near_holds : cNear.Holds Tryd.prog := by
  refine ⟨⟨⟨_, Tryd.func16, by kernel_rfl, by kernel_rfl⟩, fun F' hF p r hr => by injection hF with hF; subst hF; exact hr⟩, fun p vs w S hS hp hvs => ?_⟩
  obtain ⟨l, c, x⟩ := p
  obtain ⟨v, v2, v3, rfl, hv, hv2, hv3⟩ := three_args hvs
  obtain ⟨A, cap, rfl, hA, hcap⟩ := wl_rep (p := l) hv
  obtain ⟨B, capB, rfl, hB⟩ := cf_rep (l := c) hv2
  obtain rfl : v3 = .string (bs x) := hv3
  refine (snear_any l c x A B cap capB w hp.1 hp.2.1 hA hcap hB hp.2.2).mono ?_
  rintro e w' ⟨v, rfl, hrow, hbl⟩
  refine ⟨Snd.nearB l.1 l.2 c x, _, rfl, rfl, ⟨_, rfl, rfl, ?_⟩, hbl⟩
  have hr := ints_row (S := fun g => S g ∨ (w.heap.size ≤ g ∧ g < w'.heap.size)) rfl hrow (fun g h1 h2 => .inr ⟨h1, h2⟩)
  intro i x hx
  match i, hx with
  | 0, hx => injection hx with hx; subst hx; exact ⟨_, rfl, hr⟩
  | 1, hx => injection hx with hx; subst hx; exact ⟨_, rfl, rfl⟩
def smp : CfP := [([98], [112]), ([97, 110], [101, 110])]
def cSample : Con := .of 19 [] [ckCf] (fun _ => True) (fun _ => smp)
def cHead : Con := .of 10 [] [.one .bool] (fun _ => True) (fun _ => true)
def consHead : List Con := [cSample, cNear, cAlike, cInts, cValid, cProper]
end Go.Proofs.YtgjdbnkeamjhhaaDoor

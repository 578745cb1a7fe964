/-
  The program's functions on alphabets, as contracts.
-/
import Derived.Test.YtafbgfdidmepaaaDoorRI
import Derived.Test.YtafbgfdidmepaaaDoorAlHead
import Derived.Test.YtafbgfdidmepaaaDoorAlBox
set_option linter.unusedVariables false
namespace Go.Proofs.YtafbgfdidmepaaaDoor
open Go.RowKit
open R
section
variable {S : Nat → Prop} {w w' : World} {v : Value}
theorem str_rep {ls : List (List UInt8)} (h : Kd.Rep w S (.sl (.one .str)) ls v) : ∃ A c, v = .slice A ls.length c ∧ StrAt w A ls := by
  obtain ⟨A, c, rfl, hc, h⟩ := h
  refine ⟨A, c, rfl, fun hl => ?_⟩
  obtain ⟨g, off, rfl, hg, _, hi⟩ := h hl
  refine ⟨g, off, rfl, hg, fun j s hj => ?_⟩
  obtain ⟨u, hu, hr⟩ := hi j s hj
  obtain rfl : u = .string (bs s) := hr
  rwa [show (Kds.one Kd.str).size = 1 from rfl, Nat.mul_one] at hu
theorem int_rep {ls : List Int} (h : Kd.Rep w S (.sl (.one (.int .i64))) ls v) : ∃ A c, v = .slice A ls.length c ∧ IntAt w A ls := by
  obtain ⟨A, c, rfl, hc, h⟩ := h
  refine ⟨A, c, rfl, fun hl => ?_⟩
  obtain ⟨g, off, rfl, hg, _, hi⟩ := h hl
  refine ⟨g, off, rfl, hg, fun j s hj => ?_⟩
  obtain ⟨u, hu, hr⟩ := hi j s hj
  obtain rfl : u = .int .i64 s := hr
  rwa [show (Kds.one (Kd.int .i64)).size = 1 from rfl, Nat.mul_one] at hu
theorem alv_rep {p : AlP} {κ : Cx} (h : (CK.comp ckAl p).Rep κ w v) : ∃ A A' c c', v = alv (alOf p) A c A' c' ∧ StrAt w A p.2.1 ∧ IntAt w A' p.2.2 := by
  obtain ⟨vs, rfl, hsz, hc, _⟩ := h
  obtain ⟨u0, e0, r0⟩ := hc 0 _ rfl
  obtain ⟨u1, e1, r1⟩ := hc 1 _ rfl
  obtain ⟨u2, e2, r2⟩ := hc 2 _ rfl
  obtain rfl : u0 = .string (bs p.1) := r0
  obtain ⟨A, c, rfl, hA⟩ := str_rep r1
  obtain ⟨A', c', rfl, hS⟩ := int_rep r2
  refine ⟨A, A', c, c', ?_, hA, hS⟩
  obtain ⟨l⟩ := vs
  have hsz : l.length = 3 := hsz
  match l, hsz with
  | [a, b, d], _ =>
    injection e0 with e0; injection e1 with e1; injection e2 with e2
    have e0 : a = _ := e0
    have e1 : b = _ := e1
    have e2 : d = _ := e2
    subst e0; subst e1; subst e2
    rfl
theorem ints_row {base : Nat} {e : TypeId} {ks : List Int} {n : Nat} (hn : n = ks.length) (h : w.ownsRow base e 1 v n (ks.map (Value.int .i64))) (hS : ∀ g, base ≤ g → g < w.heap.size → S g) : Kd.Rep w S (.sl (.one (.int .i64))) ks v := by
  subst hn
  rcases h.2 with ⟨rfl, h0⟩ | ⟨g, cap, cur, rfl, hb, hg, hc, _, hsz, ht⟩
  · refine ⟨none, 0, by rw [h0], by rw [h0]; exact Nat.le_refl _, fun hl => ?_⟩
    have hl : 0 < ks.length := hl
    omega
  · have hlt : g < w.heap.size := by
      rcases Nat.lt_or_ge g w.heap.size with h' | h'
      · exact h'
      · rw [Array.getElem?_eq_none h'] at hg; cases hg
    refine ⟨_, cap, rfl, hc, fun hl => ⟨g, 0, rfl, hlt, hS g hb hlt, fun i x hx => ?_⟩⟩
    refine ⟨.int .i64 x, ?_, rfl⟩
    rw [show (Kds.one (Kd.int .i64)).size = 1 from rfl, Nat.mul_one, Nat.zero_add]
    have hil : i < ks.length := by
      rcases Nat.lt_or_ge i ks.length with h' | h'
      · exact h'
      · have hx : ks[i]? = some x := hx
        rw [List.getElem?_eq_none h'] at hx; cases hx
    have h1 : (cur.toList.take (ks.length * 1))[i]? = some (.int .i64 x) := by
      rw [ht, List.getElem?_map, show ks[i]? = some x from hx]; rfl
    rw [Nat.mul_one, List.getElem?_take, if_pos hil, Array.getElem?_toList] at h1
    unfold World.cell?
    simp [hg, h1]
end
theorem two_args {κ : Cx} {w : World} {a b : Comp} {vs : List Value} (h : CompsRep κ w [a, b] vs) : ∃ x y, vs = [x, y] ∧ a.Rep κ w x ∧ b.Rep κ w y := by
  match vs, h with
  | [x, y], h =>
    obtain ⟨u, hu, hr⟩ := h.2 0 _ rfl
    obtain ⟨u', hu', hr'⟩ := h.2 1 _ rfl
    injection hu with hu; injection hu' with hu'
    have hu : x = u := hu
    have hu' : y = u' := hu'
    subst hu; subst hu'
    exact ⟨_, _, rfl, hr, hr'⟩
theorem one_arg {κ : Cx} {w : World} {a : Comp} {vs : List Value} (h : CompsRep κ w [a] vs) : ∃ x, vs = [x] ∧ a.Rep κ w x := by
  match vs, h with
  | [x], h =>
    obtain ⟨u, hu, hr⟩ := h.2 0 _ rfl
    injection hu with hu
    have hu : x = u := hu
    subst hu
    exact ⟨_, rfl, hr⟩
theorem few_of {p : AlP} (h : FewP p) : Few (alOf p) := ⟨h.1, h.2.1, h.2.2.1, h.2.2.2⟩
def cPValid : Con := .of 19 [ckAl] [.one .bool] FewP (fun p => Al.validB (alOf p))
theorem pvalid_holds : cPValid.Holds Tryd.prog := by
  refine ⟨⟨⟨_, Tryd.func19, by kernel_rfl, by kernel_rfl⟩, fun F' hF p r hr => by injection hF with hF; subst hF; exact hr⟩, fun p vs w S hS hp hvs => ?_⟩
  obtain ⟨v, rfl, hv⟩ := one_arg hvs
  obtain ⟨A, A', c, c', rfl, hA, hB⟩ := alv_rep (p := p) hv
  refine (valid_any (alOf p) A A' c c' w (few_of hp) hA hB).mono ?_
  rintro e w' ⟨rfl, hbl⟩
  exact ⟨Al.validB (alOf p), _, rfl, rfl, rfl, hbl⟩
def cPRead : Con := .of 13 [ckAl, .one .str] [.one (.sl (.one (.int .i64))), .one (.int .i64), .one (.int .i64)] (fun p => FewP p.1 ∧ List.length p.2 ≤ 1000000) (fun p => Al.readB (alOf p.1) p.2)
theorem pread_holds : cPRead.Holds Tryd.prog := by
  refine ⟨⟨⟨_, Tryd.func13, by kernel_rfl, by kernel_rfl⟩, fun F' hF p r hr => by injection hF with hF; subst hF; exact hr⟩, fun p vs w S hS hp hvs => ?_⟩
  obtain ⟨p, s⟩ := p
  obtain ⟨v, v2, rfl, hv, hv2⟩ := two_args hvs
  obtain ⟨A, A', c, c', rfl, hA, hB⟩ := alv_rep (p := p) hv
  obtain rfl : v2 = .string (bs s) := hv2
  refine (read_any (alOf p) A A' c c' s w (few_of hp.1) hA hB hp.2).mono ?_
  rintro e w' ⟨v, rfl, hrow, hbl⟩
  refine ⟨Al.readB (alOf p) s, _, rfl, rfl, ⟨_, rfl, rfl, ?_⟩, hbl⟩
  have hr := ints_row (S := fun g => S g ∨ (w.heap.size ≤ g ∧ g < w'.heap.size)) rfl hrow (fun g h1 h2 => .inr ⟨h1, h2⟩)
  intro i x hx
  match i, hx with
  | 0, hx => injection hx with hx; subst hx; exact ⟨_, rfl, hr⟩
  | 1, hx => injection hx with hx; subst hx; exact ⟨_, rfl, rfl⟩
  | 2, hx => injection hx with hx; subst hx; exact ⟨_, rfl, rfl⟩
def cPJoin : Con := .of 15 [ckAl, .one (.sl (.one (.int .i64)))] [.one .str, .one (.int .i64)] (fun p => FewP p.1 ∧ List.length p.2 ≤ 1000000) (fun p => Al.joinB (alOf p.1) p.2)
theorem pjoin_holds : cPJoin.Holds Tryd.prog := by
  refine ⟨⟨⟨_, Tryd.func15, by kernel_rfl, by kernel_rfl⟩, fun F' hF p r hr => by injection hF with hF; subst hF; exact hr⟩, fun p vs w S hS hp hvs => ?_⟩
  obtain ⟨p, ks⟩ := p
  obtain ⟨v, v2, rfl, hv, hv2⟩ := two_args hvs
  obtain ⟨A, A', c, c', rfl, hA, hB⟩ := alv_rep (p := p) hv
  obtain ⟨K, ck, rfl, hK⟩ := int_rep (ls := ks) hv2
  refine (join_any (alOf p) A A' K c c' ck ks w (few_of hp.1) hA hB hK hp.2).mono ?_
  rintro e w' ⟨rfl, hbl⟩
  refine ⟨Al.joinB (alOf p) ks, _, rfl, rfl, ⟨_, rfl, rfl, ?_⟩, hbl⟩
  intro i x hx
  match i, hx with
  | 0, hx => injection hx with hx; subst hx; exact ⟨_, rfl, rfl⟩
  | 1, hx => injection hx with hx; subst hx; exact ⟨_, rfl, rfl⟩
def cPFold : Con := .of 17 [ckAl, .one .str] [.one .str, .one (.int .i64)] (fun p => FewP p.1 ∧ List.length p.2 ≤ 1000000) (fun p => Al.foldB (alOf p.1) p.2)
theorem pfold_holds : cPFold.Holds Tryd.prog := by
  refine ⟨⟨⟨_, Tryd.func17, by kernel_rfl, by kernel_rfl⟩, fun F' hF p r hr => by injection hF with hF; subst hF; exact hr⟩, fun p vs w S hS hp hvs => ?_⟩
  obtain ⟨p, s⟩ := p
  obtain ⟨v, v2, rfl, hv, hv2⟩ := two_args hvs
  obtain ⟨A, A', c, c', rfl, hA, hB⟩ := alv_rep (p := p) hv
  obtain rfl : v2 = .string (bs s) := hv2
  refine (fold_any (alOf p) A A' c c' s w (few_of hp.1) hA hB hp.2).mono ?_
  rintro e w' ⟨rfl, hbl⟩
  refine ⟨Al.foldB (alOf p) s, _, rfl, rfl, ⟨_, rfl, rfl, ?_⟩, hbl⟩
  intro i x hx
  match i, hx with
  | 0, hx => injection hx with hx; subst hx; exact ⟨_, rfl, rfl⟩
  | 1, hx => injection hx with hx; subst hx; exact ⟨_, rfl, rfl⟩
def cFewA : Con := .of 12 [ckAl, .one .str] [.one .bool] (fun p => Sized (alOf p.1) ∧ List.length p.2 ≤ 9223372036854775807) (fun p => fewB (alOf p.1) && decide (List.length p.2 ≤ 300))
theorem fewA_holds : cFewA.Holds Tryd.prog := by
  refine ⟨⟨⟨_, Tryd.func12, by kernel_rfl, by kernel_rfl⟩, fun F' hF p r hr => by injection hF with hF; subst hF; exact hr⟩, fun p vs w S hS hp hvs => ?_⟩
  obtain ⟨p, s⟩ := p
  obtain ⟨v, v2, rfl, hv, hv2⟩ := two_args hvs
  obtain ⟨A, A', c, c', rfl, hA, hB⟩ := alv_rep (p := p) hv
  obtain rfl : v2 = .string (bs s) := hv2
  refine (few_any (alOf p) A A' c c' s w hp.1 hA hp.2).mono ?_
  rintro e w' ⟨rfl, hbl⟩
  exact ⟨fewB (alOf p) && decide (s.length ≤ 300), _, rfl, rfl, rfl, hbl⟩
def cIntsA : Con := .of 21 [.one (.sl (.one (.int .i64))), .one (.sl (.one (.int .i64)))] [.one .bool] (fun p => List.length p.1 ≤ 1000000000000000 ∧ List.length p.2 ≤ 1000000000000000) (fun p => p.1 == p.2)
theorem intsA_holds : cIntsA.Holds Tryd.prog := by
  refine ⟨⟨⟨_, Tryd.func21, by kernel_rfl, by kernel_rfl⟩, fun F' hF p r hr => by injection hF with hF; subst hF; exact hr⟩, fun p vs w S hS hp hvs => ?_⟩
  obtain ⟨x, y⟩ := p
  obtain ⟨v, v2, rfl, hv, hv2⟩ := two_args hvs
  obtain ⟨A, c, rfl, hA⟩ := int_rep (ls := x) hv
  obtain ⟨B, d, rfl, hB⟩ := int_rep (ls := y) hv2
  refine (ints_any A B c d x y w hA hB hp.1 hp.2).mono ?_
  rintro e w' ⟨rfl, n, rfl⟩
  exact ⟨x == y, _, rfl, rfl, rfl, bel_drewN (bel_refl w) n⟩
def cHeadA : Con := .of 11 [] [.one .bool] (fun _ => True) (fun _ => true)
theorem headA_holds : cHeadA.Holds Tryd.prog := by
  refine ⟨⟨⟨_, Tryd.func11, by kernel_rfl, by kernel_rfl⟩, fun F' hF p r hr => by injection hF with hF; subst hF; exact hr⟩, fun p vs w S hS hp hvs => ?_⟩
  obtain rfl : vs = [] := List.length_eq_zero_iff.1 hvs.1
  refine (ahead_any w).mono ?_
  rintro e w' ⟨rfl, hbl⟩
  exact ⟨true, _, rfl, rfl, rfl, hbl⟩
def cLawRef : Con := .of 3 [ckAl, .one .str, .one (.sl (.one (.int .i64)))] [.one .bool] (fun p => Sized (alOf p.1) ∧ List.length p.2.1 ≤ 9223372036854775807 ∧ List.length p.2.2 ≤ 9223372036854775807) (fun _ => true)
def consLaw : List Con := [cHeadA, cFewA, cPRead, cRead, cPJoin, cJoin, cPFold, cFold, cPValid, cValid, cIntsA]
end Go.Proofs.YtafbgfdidmepaaaDoor

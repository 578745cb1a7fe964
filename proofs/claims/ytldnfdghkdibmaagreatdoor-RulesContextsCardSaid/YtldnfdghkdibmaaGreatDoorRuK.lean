/-
  slices.Sorted(maps.Keys(m)) at a map of texts that the call owns: what R takes in place of both calls.
-/
import Derived.Test.YtldnfdghkdibmaaGreatDoorMC
import Derived.Test.YtldnfdghkdibmaaGreatDoorPArgs
set_option linter.unusedVariables false
namespace Go.Proofs.YtldnfdghkdibmaaGreatDoor
open Go.RowKit Go.Maps Go.Sort
open Go.WideElems (Fit rg)
namespace R
abbrev ckB : CK := .one .bool
abbrev ckS : CK := .one .str
def sortS (l : List (List UInt8)) : List (List UInt8) := l.mergeSort fun x y => decide (x ≤ y)
/-- the keys of a map of texts -/
def keysS (st : St) : Src → Option (List (List UInt8))
  | .inner kk k => match st.nest with
    | some y => match kk.deq y.kk, y.ik.deq ckS, y.iv.deq ckB with
      | some ⟨h⟩, some ⟨h1⟩, some ⟨h2⟩ => some ((castMap h1 h2 ((y.at_ (h ▸ k)).getD [])).map (·.1))
      | _, _, _ => none
    | none => none
  | .map m => match st.map m with
    | some y => match y.kk.deq ckS, y.vk.deq ckB with
      | some ⟨h1⟩, some ⟨h2⟩ => some ((castMap h1 h2 y.xs).map (·.1))
      | _, _ => none
    | none => none
  | .none => none
def srcOfC : Cell → Option Src
  | .iref kk k => some (.inner kk k)
  | .mref m => some (.map m)
  | _ => none
/-- the two calls -/
def kInl (fk fs it : FuncId) : Inl := fun f xs off st K KP =>
  match xs with
  | [.one c] => bif f.beq fk then match srcOfC c with
      | some s => K [.one (.kseq it s)] st
      | none => False
    else bif f.beq fs then match c with
      | .kseq g s => bif g.beq it then match keysS st s with
          | some l => (l.Nodup ∧ l.length ≤ 1000000000 ∧ ∀ x ∈ l, List.length x ≤ 1000000000) ∧ K [.one (.val (.sl (.one .str)) (sortS l))] st
          | none => False
        else False
      | _ => False
    else False
  | _ => False
section
variable {w0 : Base} {w w' : World} {κ : Cx} {st : St} {a : Act}
theorem map_ent {y : MRow} {es : Array MapEntry} {clock : Nat} (h1 : y.kk = ckS) (h2 : y.vk = ckB) (hE : EntRep κ w y es clock) :
    ∀ l : List (List UInt8), (castMap h1 h2 y.xs).map (·.1) = l → es.size = l.length ∧ ∀ (i : Nat) s, l[i]? = some s → ∃ e b, es[i]? = some e ∧ e.key = .string (bs s) ∧ e.val = .bool b := by
  obtain ⟨t, kk, vk, xs⟩ := y
  dsimp only at h1 h2
  subst h1; subst h2
  rintro l rfl
  have hl : ((castMap rfl rfl xs : List (ckS.Pay × ckB.Pay)).map (·.1)) = xs.map (·.1) := rfl
  refine ⟨by rw [hl, List.length_map]; exact hE.size, fun i s hs => ?_⟩
  rw [hl, List.getElem?_map] at hs
  cases hx : xs[i]? with
  | none => rw [hx] at hs; cases hs
  | some x =>
    rw [hx] at hs
    injection hs with hs
    obtain ⟨e, he, q1, q2⟩ := hE.at_ i x hx
    exact ⟨e, x.2, he, by rw [← hs]; exact q1, q2⟩
/-- the block that a source's keys lie in -/
theorem keysS_spec (hR : Rel w0 κ st a w) {s : Src} {l : List (List UInt8)} (h : keysS st s = some l) :
    (κ.src s = none ∧ l = []) ∨ ∃ b es clock, κ.src s = some b ∧ w.heap[b]? = some (.map es clock) ∧ (∀ e ∈ es.toList, e.born < clock) ∧ (es.toList.map (·.born)).Nodup ∧ es.size = l.length ∧ ∀ (i : Nat) s, l[i]? = some s → ∃ e b, es[i]? = some e ∧ e.key = .string (bs s) ∧ e.val = .bool b := by
  unfold keysS at h
  split at h
  · rename_i kk k
    split at h
    · rename_i y hy
      split at h
      · rename_i e h1 h2 _ _ _
        subst e
        injection h with h
        have hN := hR.ext.nest y hy
        have h : (castMap h1 h2 ((y.at_ k).getD [])).map (·.1) = l := h
        cases hk : y.at_ k with
        | none =>
          left
          refine ⟨hN.miss k hk, ?_⟩
          rw [← h, hk]
          have : ∀ {a b c d : CK} (h : a = c) (h' : b = d), castMap h h' [] = [] := by intro a b c d h h'; subst h; subst h'; rfl
          show (castMap h1 h2 []).map (·.1) = []
          rw [this]; rfl
        | some l0 =>
          right
          obtain ⟨i, x, q1, q2, q3⟩ := get_mem _ _ _ _ hk
          obtain ⟨g, es, clock, p1, p2, p3, _⟩ := hN.inn i x q1
          rw [← ck_eq q2] at p1
          rw [q3] at p3
          rw [hk] at h
          have := map_ent (y := ⟨y.it, y.ik, y.iv, l0⟩) h1 h2 p3 l h
          exact ⟨g, es, clock, p1, p2, p3.born, p3.apart, this.1, this.2⟩
      · cases h
    · cases h
  · rename_i m
    split at h
    · rename_i y hy
      split at h
      · rename_i h1 h2 _ _
        injection h with h
        obtain ⟨es, clock, p1, p2, _⟩ := hR.ext.map m y hy
        have := map_ent h1 h2 p2 l h
        exact .inr ⟨_, es, clock, rfl, p1, p2.born, p2.apart, this.1, this.2⟩
      · cases h
    · cases h
  · cases h
set_option maxRecDepth 100000 in
theorem owns_texts {b : Nat} {es : Array MapEntry} {clock : Nat} {l : List (List UInt8)} (hb : w.heap[b]? = some (.map es clock)) (hborn : ∀ e ∈ es.toList, e.born < clock) (hnd : (es.toList.map (·.born)).Nodup) (hsz : es.size = l.length)
    (hat : ∀ (i : Nat) s, l[i]? = some s → ∃ e b, es[i]? = some e ∧ e.key = .string (bs s) ∧ e.val = .bool b) (hl : l.Nodup) (hlen : l.length ≤ 1000000000) (hbig : ∀ x ∈ l, List.length x ≤ 1000000000) :
    ∃ D0 : DataW Unit, w.ownsMap Tryz.prog 9 (plainElem Tryz.prog 4) b l.length D0 ∧ Maps.size D0 = l.length ∧ (strKeys D0).Perm l := by
  have hm : ∀ e ∈ es.toList, ∃ (i : Nat) (s : List UInt8) (v : Bool), es[i]? = some e ∧ l[i]? = some s ∧ e.key = .string (bs s) ∧ e.val = .bool v := fun e he => by
    obtain ⟨i, hi⟩ := List.getElem?_of_mem he
    rw [Array.getElem?_toList] at hi
    have hlt : i < l.length := by rw [← hsz]; exact (Array.getElem?_eq_some_iff.1 hi).1
    obtain ⟨e', v, h1, h2, h3⟩ := hat i _ (List.getElem?_eq_getElem hlt)
    rw [hi] at h1; injection h1 with h1; subst h1
    exact ⟨i, l[i], v, hi, List.getElem?_eq_getElem hlt, h2, h3⟩
  have hbig' : ∀ (i : Nat) s, l[i]? = some s → (bs s).size ≤ maxLen := fun i s hs => by
    have := hbig s (List.mem_of_getElem? hs)
    rw [bs_size]; show _ ≤ 9223372036854775807; omega
  have hread : ∀ e ∈ es.toList, ∀ (i : Nat) s v, l[i]? = some s → e.key = .string (bs s) → e.val = .bool v → WideElems.rd Tryz.prog 9 (plainElem (H := Unit) Tryz.prog 4) e = some (.string s, .lit (.bool v)) := fun e he i s v hs hk hv => by
    unfold WideElems.rd
    rw [hk, hv, Go.WideMaps.keyOf_string_mk Tryz.underlying9 (hbig' i s hs), plainElem_bool Tryz.underlying4]
    simp [bs]
  have hkeys : es.toList.map (·.key) = l.map (fun s => Value.string (bs s)) := by
    apply List.ext_getElem?
    intro i
    rw [List.getElem?_map, List.getElem?_map]
    cases hs : l[i]? with
    | none =>
      have : es.toList[i]? = none := by
        rw [List.getElem?_eq_none_iff] at hs ⊢
        rw [Array.length_toList, hsz]; exact hs
      rw [this]; rfl
    | some s =>
      obtain ⟨e, v, h1, h2, _⟩ := hat i s hs
      rw [Array.getElem?_toList, h1]
      show some e.key = _
      rw [h2]; rfl
  have hF : Fit Tryz.prog 9 (plainElem (H := Unit) Tryz.prog 4) es clock := {
    size := by rw [hsz]; show _ ≤ 9223372036854775807; omega
    stamped := ⟨hborn, hnd, by
      rw [hkeys]
      refine (List.pairwise_map).2 (hl.imp fun hne e => hne ?_)
      injection e with e
      exact bs_inj.1 e⟩
    reads := fun e he => by
      obtain ⟨i, s, v, _, h2, h3, h4⟩ := hm e he
      exact ⟨_, hread e he i s v h2 h3 h4⟩ }
  refine ⟨_, ⟨es, clock, hb, hF, by omega, rfl⟩, ?_, ?_⟩
  · exact (length_read (k := 9) (P := Tryz.prog) (R0 := plainElem (H := Unit) Tryz.prog 4) es).trans hsz
  · show (List.map _ (List.foldr DataW.insert [] (es.toList.map (rg Tryz.prog 9 (plainElem (H := Unit) Tryz.prog 4))))).Perm l
    refine ((Go.WideShapes.sorted_perm _).map _).trans ?_
    rw [List.map_map]
    have : es.toList.map ((fun p : Lit × DataW Unit => strOf p.1) ∘ rg Tryz.prog 9 (plainElem (H := Unit) Tryz.prog 4)) = l := by
      apply List.ext_getElem?
      intro i
      rw [List.getElem?_map]
      cases hs : l[i]? with
      | none =>
        have : es.toList[i]? = none := by
          rw [List.getElem?_eq_none_iff] at hs ⊢
          rw [Array.length_toList, hsz]; exact hs
        rw [this]; rfl
      | some s =>
        obtain ⟨e, v, h1, h2, h3⟩ := hat i s hs
        have he : es.toList[i]? = some e := by rw [Array.getElem?_toList]; exact h1
        rw [he]
        show some (strOf (rg _ _ _ e).1) = some s
        unfold rg
        rw [hread e (List.mem_of_getElem? he) i s v hs h2 h3]
        simp [strOf]
    rw [this]
theorem texts_row {base n : Nat} {e : TypeId} {v : Value} {S : Nat → Prop} {ss : List (List UInt8)} (hn : n = ss.length) (h : w.ownsRow base e 1 v n (ss.map encStr)) (hS : ∀ g, base ≤ g → g < w.heap.size → S g) : Kd.Rep w S (.sl (.one .str)) ss v := by
  subst hn
  rcases h.2 with ⟨rfl, h0⟩ | ⟨g, cap, cur, rfl, hb, hh, hc, hm, hsz, ht⟩
  · exact ⟨none, 0, by rw [h0], by show ss.length ≤ 0; omega, fun h => by have h : 0 < ss.length := h; omega⟩
  · have hlt : g < w.heap.size := (Array.getElem?_eq_some_iff.1 hh).1
    refine ⟨some ⟨g, 0, none⟩, cap, rfl, hc, fun _ => ⟨g, 0, rfl, hlt, hS g hb hlt, fun i x hx => ?_⟩⟩
    have hx : ss[i]? = some x := hx
    rw [Nat.mul_one] at ht
    have hi : i < ss.length := (List.getElem?_eq_some_iff.1 hx).1
    refine ⟨.string (bs x), ?_, rfl⟩
    show w.cell? ⟨g, 0 + i * 1, none⟩ = _
    rw [Nat.zero_add, Nat.mul_one]
    unfold World.cell?
    rw [hh]
    show cur[i]? = _
    have : (cur.toList.take ss.length)[i]? = some (encStr x) := by rw [ht, List.getElem?_map, hx]; rfl
    rw [List.getElem?_take, if_pos hi] at this
    rw [← Array.getElem?_toList, this]; rfl
end
end R
end Go.Proofs.YtldnfdghkdibmaaGreatDoor

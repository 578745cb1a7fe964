/-
  Several texts in one: R10, R11, R12, R12R, R13, R14, R15, R16.
-/
import Derived.Test.YtldnfdghkdibmaaGreatDoorMB
import Derived.OrdersHeld
import Derived.ProofKit
import Derived.Deep.Slices
/-
  What 'vop' and 'vopQ' ask of an operation is enough.
-/
set_option linter.unusedVariables false
namespace Go.Proofs.YtldnfdghkdibmaaGreatDoor
open Go.RowKit
namespace R
section
variable {w0 : Base} {w w' : World} {κ : Cx} {st : St} {a : Act} {P : Program}

/-- what stands behind an operation -/
def Fits (w0 : Base) (K : St → Prop) (next : Act → World → Prop) : Prop := ∀ (κ : Cx) (st : St) (a : Act) (w : World), K st → Rel w0 κ st a w → next a w

theorem cells_flatA : ∀ (ks : Kds) (p : ks.Pay) (c : Cell), ks.flat = true → c ∈ ks.cells p → ∃ (k : Kd) (q : k.Pay), k.flat = true ∧ c = .val k q
  | .one k, p, c, hf, h => ⟨k, p, hf, List.mem_singleton.1 h⟩
  | .cons k ks, p, c, hf, h => by
    have hf : (k.flat && ks.flat) = true := hf
    rw [Bool.and_eq_true] at hf
    rcases List.mem_cons.1 h with rfl | h
    · exact ⟨k, p.1, hf.1, rfl⟩
    · exact cells_flatA ks p.2 c hf.2 h
theorem kd_flat {k : Kd} (hf : k.flat = true) {p : k.Pay} {κ κ' : Cx} {w w' : World} {v : Value} (h : Cell.Rep κ w (.val k p) v) : Cell.Rep κ' w' (.val k p) v := by
  cases k <;> first | exact h | cases hf
theorem flatA_value {c : CK} (hf : c.flatA = true) {p : c.Pay} {κ κ' : Cx} {w w' : World} {v : Value} (h : (c.comp p).Rep κ w v) : (c.comp p).Rep κ' w' v := by
  cases c with
  | one k => exact kd_flat hf h
  | agg ks =>
    obtain ⟨vs, rfl, h⟩ := h
    exact ⟨vs, rfl, h.1, fun i c hc => by
      obtain ⟨v, hv, hx⟩ := h.2.1 i c hc
      obtain ⟨k, q, hk, rfl⟩ := cells_flatA ks p c hf (List.mem_of_getElem? hc)
      exact ⟨v, hv, kd_flat hk hx⟩, h.2.2⟩
theorem flatA_comps : ∀ (l : List CK) (r : Pays l), l.all CK.flatA = true → ∀ c ∈ compsOf l r, ∃ (x : CK) (q : x.Pay), x.flatA = true ∧ c = x.comp q
  | [], p, hf, c, h => by cases h
  | [x], p, hf, c, h => ⟨x, p, by simpa using hf, List.mem_singleton.1 h⟩
  | x :: y :: r, p, hf, c, h => by
    have hf' : x.flatA = true ∧ (y :: r).all CK.flatA = true := by rw [List.all_cons, Bool.and_eq_true] at hf; exact hf
    rcases List.mem_cons.1 h with rfl | h
    · exact ⟨x, p.1, hf'.1, rfl⟩
    · exact flatA_comps (y :: r) p.2 hf'.2 c h
theorem resAV_flatA {l : List CK} (hf : l.all CK.flatA = true) {r : Pays l} {κ κ' : Cx} {w w' : World} {v : Value} (h : (resAV l r).Rep κ w v) : (resAV l r).Rep κ' w' v := by
  unfold resAV at *
  split at h
  · rename_i x hx
    obtain ⟨y, q, hy, rfl⟩ := flatA_comps l r hf x (by rw [hx]; exact List.mem_singleton.2 rfl)
    exact flatA_value hy h
  · obtain ⟨vs, rfl, h1, h2⟩ := h
    refine ⟨vs, rfl, h1, fun i c hc => ?_⟩
    obtain ⟨u, hu, hr⟩ := h2 i c hc
    obtain ⟨y, q, hy, rfl⟩ := flatA_comps l r hf c (List.mem_of_getElem? hc)
    exact ⟨u, hu, flatA_value hy hr⟩
theorem partOf_free {t : TypeId} {cs : List Cell} {off : Nat} {c : Prop} {v : AV} (h : partOf P t cs off = .ok c v) : c := by
  unfold partOf at h
  split at h <;> (try split at h) <;> first | (injection h with h1 _; rw [← h1]; trivial) | cases h
theorem partOfRow_free {t : TypeId} {fs : Kds} {p : fs.Pay} {off : Nat} {c : Prop} {v : AV} (h : partOfRow P t fs p off = .ok c v) : c := by
  unfold partOfRow at h
  split at h <;> (try split at h) <;> first | (injection h with h1 _; rw [← h1]; trivial) | cases h
theorem binGot_free {b : Bool} {op : BinOp} (ho : (match op with | .eql | .neq | .lss | .leq | .gtr | .geq => true | _ => false) = true) {A B : AV} {c : Prop} {v : AV} (h : binGot b op A B = .ok c v) : c := by
  unfold binGot at h
  split at h
  · rename_i k p k' q
    have hs : isShift op = false := by cases op <;> first | rfl | exact absurd ho (by decide)
    rw [hs] at h
    cases he : IntKind.eqB k k'
    · rw [he] at h; cases h
    · rw [he] at h
      have h : intOp op k p q = .ok c v := h
      cases op <;> first | exact absurd ho (by decide) | (injection h with h1 _; rw [← h1]; trivial)
  · cases op <;> first | exact absurd ho (by decide) | (injection h with h1 _; rw [← h1]; trivial)
  · rename_i p q
    cases b
    · cases h
    · have h : boolOp op p q = .ok c v := h
      cases op <;> first | exact absurd ho (by decide) | (injection h with h1 _; rw [← h1]; trivial) | cases h
  · cases h
theorem aggGot_free {op : BinOp} {t : TypeId} {A B : AV} {c : Prop} {v : AV} (h : aggGot P op t A B = .ok c v) : c := by
  unfold aggGot at h
  cases hg : P.eqGuardType P.depth t
  · rw [hg] at h
    dsimp only [cond_false] at h
    split at h <;> first | (injection h with h1 _; rw [← h1]; trivial) | cases h
  · rw [hg] at h; cases h
theorem lenGot_free {b : Bool} {A : AV} {c : Prop} {v : AV} (h : lenGot st b A = .ok c v) : c := by
  unfold lenGot at h
  split at h <;> (try split at h) <;> cases b <;> first | (injection h with h1 _; rw [← h1]; trivial) | cases h
theorem mapGot_free {y : MRow} {kt et : TypeId} {A : AV} {ok : Bool} {c : Prop} {v : AV} (h : mapGot P y kt et A ok = .ok c v) : c := by
  unfold mapGot at h
  split at h
  · split at h
    · cases hk : keyOk P kt y.kk
      · rw [hk] at h; cases h
      · rw [hk] at h; injection h with h1 _; rw [← h1]; trivial
    · cases h
  · cases h
theorem free_ok {op : Op} {c : Prop} {v : AV} (h : rop P st op = .ok c v) (hf : freeOp op = true) : c := by
  unfold rop at h
  split at h
  · injection h with h1 _; rw [← h1]; trivial
  · injection h with h1 _; rw [← h1]; trivial
  · split at h
    · injection h with h1 _; rw [← h1]; trivial
    · cases h
  · split at h
    · split at h
      · exact partOf_free h
      · cases h
    · exact partOfRow_free h
    · split at h
      · rename_i y _
        rename_i r sz i f _ _ _
        cases hz : sz.beq y.fs.size
        · rw [hz] at h; cases h
        · rw [hz] at h; exact partOfRow_free h
      · cases h
    · cases h
  · split at h <;> first | (injection h with h1 _; rw [← h1]; trivial) | cases h
  · rename_i op t x y ty
    cases hnil : nilGot P t st op (st.ev x) (st.ev y) with
    | some b => rw [hnil] at h; injection h with h1 _; rw [← h1]; trivial
    | none =>
      rw [hnil] at h
      cases hab : areAggs (st.ev x) (st.ev y)
      · rw [hab] at h; exact binGot_free hf h
      · rw [hab] at h; exact aggGot_free h
  · split at h
    · injection h with h1 _; rw [← h1]; trivial
    · cases hf
    · cases h
  · split at h <;> first | (injection h with h1 _; rw [← h1]; trivial) | cases h
  · split at h
    · split at h
      · rename_i fd _
        cases hsz : sizeB P fd.type with
        | none => rw [hsz] at h; cases h
        | some n =>
          rw [hsz] at h
          dsimp only at h
          cases hz : Nat.blt 0 n
          · rw [hz] at h; cases h
          · rw [hz] at h
            dsimp only [cond_true] at h
            split at h <;> first | (injection h with h1 _; rw [← h1]; trivial) | cases h
      · cases h
    · cases h
  · split at h
    · split at h
      · exact partOf_free h
      · cases h
    · cases h
  · cases hf
  · cases hf
  · cases hf
  · split at h
    · split at h <;> first | (injection h with h1 _; rw [← h1]; trivial) | cases h
    · cases h
  · split at h
    · split at h
      · split at h <;> first | (injection h with h1 _; rw [← h1]; trivial) | cases h
      · cases h
    · cases h
  · split at h
    · split at h
      · exact lenGot_free h
      · exact lenGot_free h
      · split at h
        · injection h with h1 _; rw [← h1]; trivial
        · split at h
          · injection h with h1 _; rw [← h1]; trivial
          · cases h
        · split at h
          · injection h with h1 _; rw [← h1]; trivial
          · cases h
        · cases h
      · cases h
    · cases h
  · split at h
    · injection h with h1 _; rw [← h1]; trivial
    · cases h
  · split at h
    · cases h
    · split at h
      · rename_i y _
        cases hb : Nat.beq y.t _
        · rw [hb] at h; cases h
        · rw [hb] at h
          exact mapGot_free h
      · cases h
    · split at h
      · split at h
        · cases hb : (Nat.beq _ _ && (keyOk P _ _ && (mapZero P _ && _)))
          · rw [hb] at h; cases h
          · rw [hb] at h; injection h with h1 _; rw [← h1]; trivial
        · cases h
      · cases h
    · cases h
  · split at h
    · split at h
      · split at h
        · injection h with h1 _; rw [← h1]; trivial
        · cases h
      · cases h
    · cases h
  · split at h
    · split at h
      · injection h with h1 _; rw [← h1]; trivial
      · cases h
    · cases h
  · cases h
theorem asks_out {op : Op} {c k : Prop} {v : AV} (h : rop P st op = .ok c v) (ha : asks op c k) : c ∧ k := by
  unfold asks at ha
  cases hf : freeOp op
  · rw [hf] at ha; exact ha
  · rw [hf] at ha; exact ⟨free_ok h hf, ha⟩
theorem no_grow {b : Bool} {p : Prop} (e : b = false) (h : b = true) : p := by rw [e] at h; cases h
theorem rop_wpG {o : Oper} {c : Prop} {v : AV} {K : St → Prop} {next : Act → World → Prop} {Q : Exit → Act → World → Prop} (hR : Rel w0 κ st a w) (h : rop P st o.op = .ok c v) (hv : (bif putOk st o.dst then asks o.op c (K (st.put o.dst v)) else False)) (hF : Fits w0 K next) : o.wp P a w (fun a' w' => (growOp o.op = true → Below w.heap.size w w') ∧ next a' w') Q := by
  cases hd : putOk st o.dst
  · rw [hd] at hv; exact hv.elim
  · rw [hd] at hv
    obtain ⟨hc, hK⟩ := asks_out h hv
    obtain ⟨u, hu, hw⟩ := rop_sound hR h hc
    unfold Oper.wp
    rw [hw w (bel_refl w)]
    exact ⟨fun _ => bel_refl w, hF κ _ _ _ hK (hR.put hd hu)⟩

/-- as 'vop_sound', with what the operation leaves of the old memory -/
theorem vput_sound {t : TypeId} {m k : Operand} {v : Operand} {d : Option Nat} {K : St → Prop} {next : Act → World → Prop} (hR : Rel w0 κ st a w) (h : vput P st t (st.ev m) (st.ev k) v d K) (hF : Fits w0 K next) :
    ∃ w', (Instr.mapUpdate t (a.eval m) (a.eval k) (a.eval v)).run P w = .ok () w' ∧ next (a.put d Go.undef) w' := by
  unfold vput at h
  obtain ⟨κ1, hR1, hμ⟩ : ∃ κ1, Rel w0 κ1 (st.freezeAll (ownsA [st.ev v])) a w ∧ κ1.μ = κ.μ := Rel.freezeAll_μ (ownsA [st.ev v]) hR
  split at h
  · rename_i kt et i kc vc hu hm hk hv
    split at h
    · rename_i y hy
      split at h
      · rename_i kp vp h1 h2
        cases hb : y.t.beq t && keyOk P kt y.kk && putOk st d
        · rw [hb] at h; exact h.elim
        · rw [hb] at h
          simp only [Bool.and_eq_true] at hb
          obtain ⟨⟨_, hko⟩, hpd⟩ := hb
          have hme := hR.ev m
          rw [hm] at hme
          have hme : a.eval m = .map (some (κ.μ i)) := hme
          have hke := hR.ev k
          rw [hk] at hke
          have hke : a.eval k = y.kk.kv kp := ck_value (keyOk_plain hko) (takeComp_rep h1 hke)
          have hve := hR1.ev v
          rw [hv] at hve
          have hvr := takeComp_rep h2 hve
          obtain ⟨es, clock, hg, hE, _⟩ := hR1.ext.map i y hy
          obtain ⟨es', clock', hrun, hE'⟩ := run_mapUpdate_kv (P := P) hu hko hE hg kp vp hvr
          have hR2 := (hR1.setMap hy hE').put (d := d) (by
            show putOk _ d = true
            unfold putOk at hpd ⊢
            cases d with
            | none => rfl
            | some d =>
              show Nat.blt d (st.freezeAll (ownsA [st.ev v])).n = true
              rw [freezeAll_n]; exact hpd) (v := .c (.one .undef)) (u := Go.undef) rfl
          refine ⟨_, ?_, hF _ _ _ _ h hR2⟩
          rw [hme, hke, ← hμ]
          exact hrun
      · exact h.elim
    · exact h.elim
  · exact h.elim
theorem vputN_sound {t : TypeId} {m k v : Operand} {d : Option Nat} {K : St → Prop} {next : Act → World → Prop} (hR : Rel w0 κ st a w) (hm : st.ev m = .c (.one .nref)) (h : vputN P st t k v d K) (hF : Fits w0 K next) :
    ∃ w', (Instr.mapUpdate t (a.eval m) (a.eval k) (a.eval v)).run P w = .ok () w' ∧ next (a.put d Go.undef) w' := by
  unfold vputN at h
  split at h
  · rename_i kt et y kc j hu hy hk hv
    split at h
    · rename_i kp z h1 hz
      split at h
      · rename_i e1 e2 _ _
        cases hb : y.t.beq t && (z.t.beq y.it && (keyOk P kt y.kk && putOk st d))
        · rw [hb] at h; exact h.elim
        · rw [hb] at h
          simp only [Bool.and_eq_true] at hb
          obtain ⟨_, b2, hko, hpd⟩ := hb
          obtain ⟨hno, hK⟩ := h
          have hp := keyOk_plain hko
          have hme := hR.ev m
          rw [hm] at hme
          have hme : a.eval m = .map (some κ.μ.ν) := hme
          have hke := hR.ev k
          rw [hk] at hke
          have hke : a.eval k = y.kk.kv kp := ck_value hp (takeComp_rep h1 hke)
          have hve := hR.ev v
          rw [hv] at hve
          have hve : a.eval v = .map (some (κ.μ j)) := hve
          obtain ⟨zt, zk, zv, zxs⟩ := z
          dsimp only at e1 e2 b2
          have e1 : zk = y.ik := e1
          have e2 : zv = y.iv := e2
          subst e1; subst e2
          obtain rfl := Nat.eq_of_beq_eq_true b2
          have hnone : y.at_ kp = none := by
            cases hh : y.at_ kp with
            | none => rfl
            | some l => rw [hh] at hno; cases hno
          have hN := nestOf hR hy
          obtain ⟨es, clock, g1, g2, g3, _⟩ := hN.out
          have hkeys : KeysAt y.kk es.toList y.xs := ⟨by rw [Array.length_toList]; exact g2, fun i x hx => by
            obtain ⟨e, he, q1, _⟩ := g3 i x hx
            exact ⟨e, by rw [Array.getElem?_toList]; exact he, ck_value hp q1⟩⟩
          have hf := run_findKey_kv hko kp w es.toList y.xs hkeys
          have hidx : Mp.idx y.kk.eqB kp y.xs 0 = none := by
            cases hi : Mp.idx y.kk.eqB kp y.xs 0 with
            | none => rfl
            | some r =>
              have := Mp.idx_get y.kk.eqB kp y.xs 0
              rw [hi, show Mp.get y.kk.eqB kp y.xs = _ from hnone] at this; cases this
          rw [hidx] at hf
          obtain ⟨κ', hR'⟩ := hR.putNest hz hy hp hnone g1
          have hR2 := hR'.put (d := d) (by unfold putOk at hpd ⊢; exact hpd) (v := .c (.one .undef)) (u := Go.undef) rfl
          refine ⟨_, ?_, hF κ' _ _ _ hK hR2⟩
          rw [hme, hke, hve]
          simp only [Instr.mapUpdate, Sem.run_bind, run_underlying hu, Result.andThen_ok, MapKept.run_getObj_map g1, key_check hko, hf, Option.bind_none, MapKept.run_setObj_map _ g1]
          rfl
      · exact h.elim
    · exact h.elim
  · exact h.elim
theorem vputI_sound {t : TypeId} {kk : CK} {q : kk.Pay} {m k v : Operand} {d : Option Nat} {K : St → Prop} {next : Act → World → Prop} (hR : Rel w0 κ st a w) (hm : st.ev m = .c (.one (.iref kk q))) (h : vputI P st t kk q k v d K) (hF : Fits w0 K next) :
    ∃ w', (Instr.mapUpdate t (a.eval m) (a.eval k) (a.eval v)).run P w = .ok () w' ∧ next (a.put d Go.undef) w' := by
  unfold vputI at h
  split at h
  · rename_i kt et y kc vc hu hy hk hv
    split at h
    · rename_i e1 kp vp _ h1 h2
      cases hb : y.it.beq t && (keyOk P kt y.ik && (y.kk.plain && putOk st d))
      · rw [hb] at h; exact h.elim
      · rw [hb] at h
        simp only [Bool.and_eq_true] at hb
        obtain ⟨_, hko, hp, hpd⟩ := hb
        subst e1
        obtain ⟨⟨hhas, hoff⟩, hK⟩ := h
        have hhas : (y.at_ q).isSome = true := hhas
        have hoff : itersOff y.kk q st.iters := hoff
        have hme := hR.ev m
        rw [hm] at hme
        have hme : a.eval m = .map (κ.μ.inn (y.kk.kv q)) := hme
        have hke := hR.ev k
        rw [hk] at hke
        have hke : a.eval k = y.ik.kv kp := ck_value (keyOk_plain hko) (takeComp_rep h1 hke)
        have hve := hR.ev v
        rw [hv] at hve
        have hvr := takeComp_rep h2 hve
        have hN := nestOf hR hy
        rcases hN.val hp q with ⟨l, g, es, clock, v1, v2, v3, v4, _⟩ | ⟨v1, _⟩
        · obtain ⟨es', clock', hrun, hE'⟩ := run_mapUpdate_kv (P := P) hu hko v4 v3 kp vp hvr
          have hR' := hR.setInner hy hp v1 hoff v2 v3 hE'
          have hR2 := hR'.put (d := d) (by unfold putOk at hpd ⊢; exact hpd) (v := .c (.one .undef)) (u := Go.undef) rfl
          refine ⟨setB w g (.map es' clock'), ?_, hF κ _ _ _ hK ?_⟩
          · rw [hme, hke, v2]
            exact hrun
          · have e : (y.at_ q).getD [] = l := by rw [v1]; rfl
            show Rel w0 κ ((st.setNest ⟨y.t, y.kk, y.it, y.ik, y.iv, Mp.put y.kk.eqB q (Mp.put y.ik.eqB kp vp ((y.at_ q).getD [])) y.xs⟩).put d (.c (.one .undef))) _ _
            rw [e]
            exact hR2
        · rw [v1] at hhas; cases hhas
    · exact h.elim
  · exact h.elim
theorem vputX_sound {t : TypeId} {m k : Operand} {v : Operand} {d : Option Nat} {K : St → Prop} {next : Act → World → Prop} (hR : Rel w0 κ st a w) (h : vputX P st t m k v d K) (hF : Fits w0 K next) :
    ∃ w', (Instr.mapUpdate t (a.eval m) (a.eval k) (a.eval v)).run P w = .ok () w' ∧ next (a.put d Go.undef) w' := by
  unfold vputX at h
  split at h
  · rename_i hm; exact vputN_sound hR hm h hF
  · rename_i kk q hm; exact vputI_sound hR hm h hF
  · exact vput_sound hR h hF
theorem leftRep_of {y : MRow} {es : Array MapEntry} {clock : Nat} (hE : EntRep κ w y es clock) : LeftRep κ w y.kk y.vk y.xs (leftOf es #[]).toList := by
  have e : (leftOf es #[]).toList = es.toList := by
    unfold leftOf
    rw [Array.toList_filter]
    apply List.filter_eq_self.2
    intro x _; simp
  rw [e]
  exact ⟨by rw [Array.length_toList]; exact hE.size, fun i x hx => let ⟨e, he, h1, h2⟩ := hE.at_ i x hx; ⟨e, by rw [Array.getElem?_toList]; exact he, h1, h2⟩⟩
theorem itOf_sound (hR : Rel w0 κ st a w) {t kt et : TypeId} (hu : P.underlying t = some (.map kt et)) {c : Cell} {z : ItP} (hz : itOf st c = some z) {v : Value} (hv : c.Rep κ w v) :
    ∃ o' : Obj, o'.mapLike = true ∧ (Instr.range t v).run P w = .ok (.pointer (some ⟨w.heap.size, 0, none⟩)) (w.alloc o') ∧
      ∀ κ' : Cx, κ'.src z.src = κ.src z.src → κ'.S = κ.S → ItRep w0.n0 κ' (w.alloc o') z w.heap.size := by
  have hbel : ∀ o' : Obj, Below w.heap.size w (w.alloc o') := fun o' => bel_alloc (bel_refl w) _
  have hmk : ∀ (bm : Nat) (es : Array MapEntry) (clock : Nat) (kk vk : CK) (xs : List (kk.Pay × vk.Pay)) (s : Src) (tt : TypeId), κ.src s = some bm → w.heap[bm]? = some (.map es clock) → EntRep κ w ⟨tt, kk, vk, xs⟩ es clock →
      ∀ κ' : Cx, κ'.src s = κ.src s → κ'.S = κ.S → ItRep w0.n0 κ' (w.alloc (.mapIter (some bm) clock #[] clock)) ⟨s, kk, vk, xs, none⟩ w.heap.size := fun bm es clock kk vk xs s tt h1 h2 h3 κ' h4 h5 => by
    have HV : ∀ k p v, Cell.Rep κ w (.val k p) v → Cell.Rep κ' (w.alloc (.mapIter (some bm) clock #[] clock)) (.val k p) v := fun k p v hr => val_keeps h5 (Keeps.below (hbel _) κ.S) hr
    exact ⟨hR.low, .inr ⟨bm, es, clock, #[], clock, h4.trans h1, maps_below (hbel _) _ _ rfl h2, World.alloc_heap_new w _, Nat.le_refl _, h3.born, h3.apart, (leftRep_of h3).mono HV, fun x hx => nomatch hx⟩⟩
  have hnil : ∀ (kk vk : CK) (s : Src) (κ' : Cx), ItRep w0.n0 κ' (w.alloc (.mapIter none 0 #[] 0)) ⟨s, kk, vk, [], none⟩ w.heap.size := fun kk vk s κ' => ⟨hR.low, .inl ⟨0, 0, #[], World.alloc_heap_new w _, rfl, rfl⟩⟩
  unfold itOf at hz
  split at hz
  · rename_i m
    split at hz
    · rename_i y hy
      injection hz with hz; subst hz
      obtain ⟨es, clock, h1, h2, _⟩ := hR.ext.map m y hy
      obtain rfl : v = .map (some (κ.μ m)) := hv
      exact ⟨_, rfl, run_range_map w t kt et _ es clock hu h1, hmk _ es clock _ _ _ _ y.t rfl h1 h2⟩
    · cases hz
  · rename_i kk k
    split at hz
    · rename_i y hy
      split at hz
      · rename_i e _
        subst e
        injection hz with hz; subst hz
        obtain rfl : v = .map (κ.μ.inn (y.kk.kv k)) := hv
        have hN := nestOf hR hy
        cases hk : y.at_ k with
        | none =>
          rw [hN.miss k hk]
          exact ⟨_, rfl, run_range_nilMap w t kt et hu, fun κ' _ _ => hnil _ _ _ κ'⟩
        | some l =>
          obtain ⟨i, x, q1, q2, q3⟩ := get_mem _ _ _ _ hk
          obtain ⟨g, es, clock, p1, p2, p3, _⟩ := hN.inn i x q1
          have hxk := ck_eq q2
          rw [← hxk] at p1
          rw [p1]
          exact ⟨_, rfl, run_range_map w t kt et _ es clock hu p2, hmk g es clock _ _ _ _ y.it p1 p2 (by rw [← q3]; exact p3)⟩
      · cases hz
    · cases hz
  · injection hz with hz; subst hz
    obtain rfl : v = .map none := hv
    exact ⟨_, rfl, run_range_nilMap w t kt et hu, fun κ' _ _ => hnil _ _ _ κ'⟩
  · cases hz
theorem leftOf_push {es : Array MapEntry} {seen : Array Nat} {j : Nat} {e : MapEntry} (hn : (es.toList.map (·.born)).Nodup) (he : (leftOf es seen).toList[j]? = some e) : (leftOf es (seen.push e.born)).toList = (leftOf es seen).toList.eraseIdx j := by
  have key : ∀ (L : List MapEntry) (j : Nat), (L.map (·.born)).Nodup → L[j]? = some e → L.filter (fun x => !(x.born == e.born)) = L.eraseIdx j := by
    intro L
    induction L with
    | nil => intro j _ h; cases h
    | cons x L ih =>
      intro j hn h
      rw [List.map_cons, List.nodup_cons] at hn
      cases j with
      | zero =>
        injection h with h
        subst h
        rw [List.filter_cons, if_neg (by simp), List.eraseIdx_cons_zero]
        apply List.filter_eq_self.2
        intro y hy
        have : y.born ≠ x.born := fun e => hn.1 (by rw [← e]; exact List.mem_map.2 ⟨y, hy, rfl⟩)
        simpa using this
      | succ j =>
        have hm : e ∈ L := List.mem_of_getElem? h
        have : x.born ≠ e.born := fun e' => hn.1 (by rw [e']; exact List.mem_map.2 ⟨e, hm, rfl⟩)
        rw [List.filter_cons, if_pos (by simpa using this), List.eraseIdx_cons_succ, ih j hn.2 h]
  have e1 : (leftOf es (seen.push e.born)).toList = (leftOf es seen).toList.filter (fun x => !(x.born == e.born)) := by
    unfold leftOf
    rw [Array.toList_filter, Array.toList_filter, List.filter_filter]
    apply List.filter_congr
    intro x _
    rw [Array.contains_push]
    cases seen.contains x.born <;> cases (x.born == e.born) <;> rfl
  rw [e1]
  refine key _ j ?_ he
  unfold leftOf
  rw [Array.toList_filter]
  exact List.Nodup.sublist (List.Sublist.map _ List.filter_sublist) hn
theorem leftRep_erase {kk vk : CK} {xs : List (kk.Pay × vk.Pay)} {es : List MapEntry} (h : LeftRep κ w kk vk xs es) (j : Nat) : LeftRep κ w kk vk (xs.eraseIdx j) (es.eraseIdx j) := by
  refine ⟨by rw [List.length_eraseIdx, List.length_eraseIdx, h.1], fun i x hx => ?_⟩
  rw [List.getElem?_eraseIdx] at hx ⊢
  split at hx
  · rename_i hlt; rw [if_pos hlt]; exact h.2 i x hx
  · rename_i hlt; rw [if_neg hlt]; exact h.2 (i + 1) x hx
theorem vnext_sound {x : Operand} {d : Option Nat} {K : St → Prop} {next : Act → World → Prop} {ty : TypeId} (hR : Rel w0 κ st a w) (h : vnext st (st.ev x) d K) (hF : Fits w0 K next) :
    ∃ u w', (Instr.next (a.eval x) false ty).run P w = .ok u w' ∧ next (a.put d u) w' := by
  unfold vnext at h
  have hx := hR.ev x
  split at h
  · rename_i i hi
    rw [hi] at hx
    have hx : a.eval x = .pointer (some ⟨κ.μ.θ i, 0, none⟩) := hx
    split at h
    · rename_i z hz
      cases hd : putOk st d
      · rw [hd] at h; exact h.elim
      · rw [hd] at h
        obtain ⟨hend, hstep⟩ := h
        obtain ⟨hlow, hI⟩ := hR.ext.iter i z hz
        have hover : ∀ u, u = Value.tuple #[.bool false] → z.left = [] → next (a.put d u) w := fun u hu hl => by
          subst hu
          exact hF κ _ _ _ (hend hl) (hR.put hd ⟨_, rfl, rfl, fun j c hc => by
            cases j with
            | zero => injection hc with hc; subst hc; exact ⟨_, rfl, rfl⟩
            | succ j => cases hc⟩)
        rcases hI with ⟨a', b', s', q1, q2, _⟩ | ⟨bm, es, clock, seen, c0, q1, q2, q3, q4, q5, q6, q7, q8⟩
        · refine ⟨.tuple #[.bool false], w, ?_, hover _ rfl q2⟩
          rw [hx]
          simp [Instr.next, getObj, Sem.run_bind, Sem.run, q1]
        · rcases run_next_at (P := P) w ty (κ.μ.θ i) bm clock c0 seen es clock q3 q2 q5 q4 with ⟨n0, hrun⟩ | ⟨e, he, w1, hw1, hrun⟩
          · refine ⟨_, _, by rw [hx]; exact hrun, hover _ rfl ?_⟩
            have := q7.1
            rw [Array.length_toList, n0] at this
            exact List.eq_nil_of_length_eq_zero this.symm
          · obtain ⟨j, hj⟩ := List.getElem?_of_mem he
            have hjl : j < z.left.length := by
              rw [← q7.1]; exact (List.getElem?_eq_some_iff.1 hj).1
            obtain ⟨me, hme, r1, r2⟩ := q7.2 j _ (List.getElem?_eq_getElem hjl)
            rw [hj] at hme
            injection hme with hme
            subst hme
            have hR1 : Rel w0 κ st a w1 := by
              rcases hw1 with rfl | rfl
              · exact hR
              · exact hR.drew
            have hheap : w1.heap = w.heap := by rcases hw1 with rfl | rfl <;> rfl
            have he2 : e ∈ es.toList := by
              unfold leftOf at he
              rw [Array.toList_filter] at he
              exact (List.mem_filter.1 he).1
            have hbg : bm ≠ κ.μ.θ i := fun e' => by rw [e', q3] at q2; cases q2
            have hlt : κ.μ.θ i < w1.heap.size := by rw [hheap]; exact lt_of_some q3
            have hkp : Keeps w1 (setB w1 (κ.μ.θ i) (.mapIter (some bm) clock (seen.push e.born) clock)) κ.S := setB_keeps (o := .mapIter (some bm) clock seen c0) rfl rfl (by rw [hheap]; exact q3) κ.S
            have hk0 : Keeps w w1 κ.S := ⟨Nat.le_of_eq (by rw [hheap]), fun g o _ _ => by unfold World.cell?; rw [hheap]⟩
            have HV : ∀ k p v, Cell.Rep κ w (.val k p) v → Cell.Rep κ (setB w1 (κ.μ.θ i) (.mapIter (some bm) clock (seen.push e.born) clock)) (.val k p) v := fun k p v hr => val_keeps rfl hkp (val_keeps (w' := w1) rfl hk0 hr)
            have hR2 := hR1.stepIter (z' := ⟨z.src, z.kk, z.vk, z.left.eraseIdx j, some z.left[j]⟩) hz (o := .mapIter (some bm) clock (seen.push e.born) clock) rfl ⟨hlow, .inr ⟨bm, es, clock, seen.push e.born, clock, q1, by rw [setB_other hbg, hheap]; exact q2, setB_self hlt, Nat.le_refl _, q5, q6, by
              rw [leftOf_push q6 hj]
              exact (leftRep_erase q7 j).mono HV, fun x hx => by
              injection hx with hx
              subst hx
              exact ⟨e, seen, he2, rfl, rfl, comp_val HV _ _ r1, comp_val HV _ _ r2⟩⟩⟩ (fun es c e => nomatch e)
            refine ⟨_, _, by rw [hx]; exact hrun, hF κ _ _ _ (hstep j _ (List.getElem?_eq_getElem hjl)) (hR2.put (by unfold putOk at hd ⊢; exact hd) ⟨_, rfl, rfl, fun i c hc => ?_⟩)⟩
            rcases i with _ | _ | _ | i
            · injection hc with hc; subst hc; exact ⟨_, rfl, rfl⟩
            · injection hc with hc; subst hc; exact ⟨_, rfl, comp_val HV _ _ r1⟩
            · injection hc with hc; subst hc; exact ⟨_, rfl, comp_val HV _ _ r2⟩
            · cases hc
    · exact h.elim
  · exact h.elim
theorem vop_soundG {cons : List Con} (hcons : ∀ c ∈ cons, c.Holds P) {o : Oper} {K : St → Prop} {next : Act → World → Prop} {Q : Exit → Act → World → Prop} (hR : Rel w0 κ st a w) (h : vop P cons o st K) (hF : Fits w0 K next) : o.wp P a w (fun a' w' => (growOp o.op = true → Below w.heap.size w w') ∧ next a' w') Q := by
  unfold vop at h
  split at h
  · -- alloc
    rename_i e ho
    split at h
    · rename_i d cs hd hz
      cases hb : Nat.blt d st.n
      · rw [hb] at h; exact h.elim
      · rw [hb] at h
        have hlt : d < st.n := by rw [Nat.blt_eq] at hb; exact hb
        obtain ⟨it, z, hit, hzz, hcs⟩ := zeroCells_sound (κ := κ) (w := w) hz
        obtain ⟨κ', hR'⟩ := hR.newBox (i := st.off + d) hlt hcs e
        unfold Oper.wp
        have hrun : (execOp a.eval o).run P w = .ok (.value (.pointer (some ⟨w.heap.size, 0, none⟩))) (w.alloc (.cells z.cells e)) := by
          simp [execOp, ho, Instr.alloc, zeroValue, typeInfo, hit, hzz, newVar, newRow]
        rw [hrun]
        show (_ → _) ∧ next (a.put o.dst _) _
        rw [hd]
        exact ⟨fun _ => bel_alloc (bel_refl w) _, hF κ' _ _ _ h hR'⟩
    · exact h.elim
  · -- box
    rename_i e x ho
    split at h
    · rename_i d cs hd hz
      cases hb : Nat.blt d st.n
      · rw [hb] at h; exact h.elim
      · rw [hb] at h
        have hlt : d < st.n := by rw [Nat.blt_eq] at hb; exact hb
        obtain ⟨κ', hR'⟩ := hR.newBox (i := st.off + d) hlt (compCells_sound hz (hR.ev x)) e
        unfold Oper.wp
        have hrun : (execOp a.eval o).run P w = .ok (.value (.pointer (some ⟨w.heap.size, 0, none⟩))) (w.alloc (.cells (a.eval x).cells e)) := by
          simp [execOp, ho, Instr.box, newVar, newRow]
        rw [hrun]
        show (_ → _) ∧ next (a.put o.dst _) _
        rw [hd]
        exact ⟨fun _ => bel_alloc (bel_refl w) _, hF κ' _ _ _ h hR'⟩
    · exact h.elim
  · -- makeMap
    rename_i t ho
    split at h
    · rename_i kt et d hu hd
      split at h
      · split at h
        · rename_i kk ik iv h0 h1 h2 h3
          cases hb : Nat.blt d st.n
          · rw [hb] at h; exact h.elim
          · rw [hb] at h
            have hlt : d < st.n := by rw [Nat.blt_eq] at hb; exact hb
            obtain ⟨κ', hR', hμ⟩ := hR.newNest t kk et ik iv
            have hR2 := hR'.set (d := d) hlt (v := .c (.one .nref)) (u := .map (some w.heap.size)) (by show Value.map _ = .map (some κ'.μ.ν); rw [hμ])
            unfold Oper.wp
            have hrun : (execOp a.eval o).run P w = .ok (.value (.map (some w.heap.size))) (w.alloc (.map #[] 0)) := by
              simp [execOp, ho, run_makeMap]
            rw [hrun]
            show (_ → _) ∧ next (a.put o.dst _) _
            rw [hd]
            exact ⟨fun _ => bel_alloc (bel_refl w) _, hF κ' _ _ _ h hR2⟩
        · exact h.elim
      split at h
      · rename_i kk vk h1 h2
        cases hb : Nat.blt d st.n
        · rw [hb] at h; exact h.elim
        · rw [hb] at h
          have hlt : d < st.n := by rw [Nat.blt_eq] at hb; exact hb
          obtain ⟨κ', hR', hμ⟩ := hR.newMap (st.off + d) t kk vk
          have hR2 := hR'.set (d := d) hlt (v := .c (.one (.mref (st.off + d)))) (u := .map (some w.heap.size)) (by show Value.map _ = .map (some (κ'.μ _)); rw [hμ])
          unfold Oper.wp
          have hrun : (execOp a.eval o).run P w = .ok (.value (.map (some w.heap.size))) (w.alloc (.map #[] 0)) := by
            simp [execOp, ho, run_makeMap]
          rw [hrun]
          show (_ → _) ∧ next (a.put o.dst _) _
          rw [hd]
          exact ⟨fun _ => bel_alloc (bel_refl w) _, hF κ' _ _ _ h hR2⟩
      · exact h.elim
    · exact h.elim
  · -- mapUpdate
    rename_i t m k v ho
    obtain ⟨w', hrun, hK⟩ := vputX_sound hR h hF
    unfold Oper.wp
    have hrun : (execOp a.eval o).run P w = .ok .skip w' := by
      simp [execOp, ho, hrun]
    rw [hrun]
    exact ⟨fun hg => no_grow (by rw [ho]; rfl) hg, hK⟩
  · -- insert
    rename_i t m k v ho
    obtain ⟨w', hrun, hK⟩ := vputX_sound hR h hF
    unfold Oper.wp
    have hrun : (execOp a.eval o).run P w = .ok .skip w' := by
      simp [execOp, ho, hrun]
    rw [hrun]
    exact ⟨fun hg => no_grow (by rw [ho]; rfl) hg, hK⟩
  · -- range
    rename_i t x ho
    split at h
    · rename_i kt et d c hu hd hx
      have hxe := hR.ev x
      rw [hx] at hxe
      split at h
      · rename_i z hz
        cases hb : Nat.blt d st.n
        · rw [hb] at h; exact h.elim
        · rw [hb] at h
          have hlt : d < st.n := by rw [Nat.blt_eq] at hb; exact hb
          obtain ⟨o', ho', hrun, hit⟩ : ∃ o' : Obj, o'.mapLike = true ∧ (Instr.range t (a.eval x)).run P w = .ok (.pointer (some ⟨w.heap.size, 0, none⟩)) (w.alloc o') ∧
              ∀ κ' : Cx, κ'.src z.src = κ.src z.src → κ'.S = κ.S → ItRep w0.n0 κ' (w.alloc o') z w.heap.size := itOf_sound hR hu hz hxe
          obtain ⟨κ', hR', hθ⟩ := hR.newIter (st.off + d) z ho' (fun κ' h1 h2 _ => hit κ' h1 h2)
          have hR2 := hR'.set (d := d) hlt (v := .c (.one (.iter (st.off + d)))) (u := .pointer (some ⟨w.heap.size, 0, none⟩)) (by show Value.pointer _ = .pointer (some ⟨κ'.μ.θ _, 0, none⟩); rw [hθ])
          unfold Oper.wp
          have hrun' : (execOp a.eval o).run P w = .ok (.value (.pointer (some ⟨w.heap.size, 0, none⟩))) (w.alloc o') := by
            simp [execOp, ho, hrun]
          rw [hrun']
          show (_ → _) ∧ next (a.put o.dst _) _
          rw [hd]
          exact ⟨fun _ => bel_alloc (bel_refl w) _, hF κ' _ _ _ h hR2⟩
      · exact h.elim
    · exact h.elim
  · -- next
    rename_i x ho
    obtain ⟨u, w', hrun, hK⟩ := vnext_sound (P := P) (ty := o.type) hR h hF
    unfold Oper.wp
    have hrun' : (execOp a.eval o).run P w = .ok (.value u) w' := by
      simp [execOp, ho, hrun]
    rw [hrun']
    exact ⟨fun hg => no_grow (by rw [ho]; rfl) hg, hK⟩
  · -- store
    rename_i t x y ho
    split at h
    · rename_i b off cs n hx hy hs
      cases hb : n.beq cs.length && putOk st o.dst
      · rw [hb] at h; exact h.elim
      · rw [hb] at h
        rw [Bool.and_eq_true] at hb
        have hn : n = cs.length := Nat.eq_of_beq_eq_true hb.1
        dsimp only [cond_true] at h
        split at h
        · rename_i bs hbs
          split at h
          · rename_i bs' hset
            have hpx : a.eval x = .pointer (some ⟨κ.β b, off, none⟩) := by have := hR.ev x; rw [hx] at this; exact this
            have hcy := compCells_sound hy (hR.ev y)
            obtain ⟨us, ty, hblk, hr, hge, hS⟩ := hR.box b bs hbs
            have hle : 0 < (a.eval y).cells.toList.length → off + 0 + (a.eval y).cells.toList.length ≤ us.size := fun h0 => by
              have e1 : (a.eval y).cells.toList.length = cs.length := by rw [Array.length_toList]; exact hcy.1
              rw [e1] at h0 ⊢
              rw [hr.1]
              exact setCells_le cs bs bs' off hset h0
            obtain ⟨w', h1, h2, h3⟩ := run_storeCells (P := P) (a.eval y).cells.toList off 0 us w hblk (fun v hv => by
              obtain ⟨i, hi, rfl⟩ := List.getElem_of_mem hv
              exact hcy.2.2 i _ (by rw [← Array.getElem?_toList]; exact List.getElem?_eq_getElem hi)) hle
            have hcs := setCells_spec cs bs off bs' (a.eval y).cells.toList us hset (by simpa using hcy) hr
            have hR' := (hR.store hbs h2 h3 hcs).put (d := o.dst) hb.2 (v := .c (.one .undef)) (u := Go.undef) rfl
            unfold Oper.wp
            have hrun : (execOp a.eval o).run P w = .ok .skip w' := by
              have hsz : (a.eval y).cells.size = n := by rw [hn]; exact hcy.1
              simp [execOp, ho, Instr.storeAt, Instr.sureAddr, hpx, Go.storeVar, sizeB_run hs, hsz, h1]
            rw [hrun]
            exact ⟨fun hg => no_grow (by rw [ho]; rfl) hg, hF κ _ _ _ h hR'⟩
          · exact h.elim
        · exact h.elim
    · rename_i r sz i f c0 n hx hc0 hs
      obtain ⟨κ1, hR1⟩ := Rel.freezeAll (ownsA [st.ev y]) hR
      split at h
      · rename_i cs z hy hz
        cases hb : n.beq cs.length && putOk st o.dst && sz.beq z.fs.size
        · rw [hb] at h; exact h.elim
        · rw [hb] at h
          rw [Bool.and_eq_true, Bool.and_eq_true] at hb
          obtain ⟨⟨hb1, hb2⟩, hb3⟩ := hb
          have hn : n = cs.length := Nat.eq_of_beq_eq_true hb1
          have hsz := Nat.eq_of_beq_eq_true hb3
          dsimp only [cond_true] at h
          split at h
          · rename_i xs' hset
            split at h
            · rename_i r2 sz2 i2 f2 hx2
              cases hb4 : r2.beq r && sz2.beq sz && i2.beq i && f2.beq f
              · rw [hb4] at h; exact h.elim
              · rw [hb4] at h
                simp only [Bool.and_eq_true] at hb4
                obtain ⟨⟨⟨q1, q2⟩, q3⟩, q4⟩ := hb4
                obtain rfl := Nat.eq_of_beq_eq_true q1
                obtain rfl := Nat.eq_of_beq_eq_true q2
                obtain rfl := Nat.eq_of_beq_eq_true q3
                obtain rfl := Nat.eq_of_beq_eq_true q4
                have hpx := hR1.ev x
                rw [hx2] at hpx
                obtain ⟨g, m, cap, hρ, him, hpx⟩ := hpx
                have hcy := compCells_sound hy (hR1.ev y)
                obtain ⟨cells, hown, hcells, hnn⟩ := hR1.row r2 z hz
                obtain ⟨w', h1, h2, h3, h4, hzl⟩ := store_row (P := P) hR1.bound hρ him hown hcells hnn hset hcy hsz
                have hR' := (hR1.storeRow (y := ⟨z.e, z.fs, z.xs.set i2 xs'⟩) hz (by rw [hρ]; rfl) h2 h3 h4).put (d := o.dst) (by
                  show putOk _ o.dst = true
                  unfold putOk at hb2 ⊢
                  show (match o.dst with | some d => Nat.blt d (st.freezeAll _).n | none => true) = true
                  rw [freezeAll_n]; exact hb2) (v := .c (.one .undef)) (u := Go.undef) rfl
                unfold Oper.wp
                have hrun : (execOp a.eval o).run P w = .ok .skip w' := by
                  have hszv : (a.eval y).cells.size = n := by rw [hn]; exact hcy.1
                  simp [execOp, ho, Instr.storeAt, Instr.sureAddr, hpx, Go.storeVar, sizeB_run hs, hszv, h1]
                rw [hrun]
                exact ⟨fun hg => no_grow (by rw [ho]; rfl) hg, hF κ1 _ _ _ h hR'⟩
            · exact h.elim
          · exact h.elim
      · exact h.elim
    · exact h.elim
  · -- call
    rename_i f args ts ho
    split at h
    · rename_i c hc
      obtain ⟨hmem, rfl⟩ := conOf_spec hc
      unfold vcall at h
      obtain ⟨κ1, hR1⟩ := Rel.freezeAll (ownsA (evs st args.toList)) hR
      split at h
      · rename_i p hp
        cases hd : putOk st o.dst
        · rw [hd] at h; exact h.elim
        · rw [hd] at h
          have hd1 : putOk (st.freezeAll (ownsA (evs st args.toList))) o.dst = true := by
            unfold putOk at hd ⊢
            rw [freezeAll_n]; exact hd
          obtain ⟨hpre, hK⟩ := h
          have hH := hcons c hmem
          unfold Oper.wp
          rw [run_call c hH ho w]
          refine (hH.2 p _ w κ1.S hR1.bound hpre (comps_plain (κ := κ1) (κ' := Cx.of κ1.S) c.args p rfl (takeAll_sound hR1 _ _ _ hp))).mono ?_
          rintro e w' ⟨r, v, rfl, hpost, hres, hb⟩
          cases hl : c.lend && c.res.all CK.flatA
          case true =>
            rw [hl] at hK
            have hK : (match c.fn with
              | some F => K (st.put o.dst (resAV c.res (F p)))
              | none => ∀ r, c.post p r → K (st.put o.dst (resAV c.res r))) := hK
            rw [Bool.and_eq_true] at hl
            have hR' := (hR.later hb).put hd (resAV_flatA hl.2 hres)
            have hK' : K (st.put o.dst (resAV c.res r)) := by
              cases hfn : c.fn with
              | none => rw [hfn] at hK; exact hK r hpost
              | some F => rw [hfn] at hK; rw [hH.1.2 F hfn p r hpost]; exact hK
            exact ⟨fun _ => hb, hF _ _ _ _ hK' hR'⟩
          rw [hl] at hK
          have hK : (match c.fn with
            | some F => K ((st.freezeAll (ownsA (evs st args.toList))).put o.dst (resAV c.res (F p)))
            | none => ∀ r, c.post p r → K ((st.freezeAll (ownsA (evs st args.toList))).put o.dst (resAV c.res r))) := hK
          have hR' := (hR1.later hb).put hd1 (resAV_plain (κ := Cx.of fun g => κ1.S g ∨ (w.heap.size ≤ g ∧ g < w'.heap.size)) (κ' := { κ1 with S := fun g => κ1.S g ∨ (w.heap.size ≤ g ∧ g < w'.heap.size) }) c.res r rfl hres)
          have hK' : K ((st.freezeAll (ownsA (evs st args.toList))).put o.dst (resAV c.res r)) := by
            cases hfn : c.fn with
            | none => rw [hfn] at hK; exact hK r hpost
            | some F => rw [hfn] at hK; rw [hH.1.2 F hfn p r hpost]; exact hK
          exact ⟨fun _ => hb, hF _ _ _ _ hK' hR'⟩
      · exact h.elim
    · exact h.elim
  · -- append
    rename_i args ts ho
    split at h
    · rename_i s x t t' d hargs hts hd
      split at h
      · rename_i e z hu hz
        split at h
        · rename_i size bytes hinfo
          obtain ⟨i, zero, hi, hz0, hzs, hsz, hby, rfl, rfl, _⟩ := rowInfo_spec hinfo
          have hsrc := srcOf_cells hR hz (hR.ev x)
          have ha : args = #[s, x] := by cases args; simp_all
          have hT : ts = #[t, t'] := by cases ts; simp_all
          subst ha; subst hT
          split at h
          · -- a row of the call's own
            rename_i r hs
            split at h
            · rename_i y hy
              split at h
              · rename_i hfs _
                cases hb : t'.beq t && y.e.beq e && y.fs.size.beq i.size && Nat.blt d st.n && !isOwn r (st.ev x)
                · rw [hb] at h; exact h.elim
                · rw [hb] at h
                  simp only [Bool.and_eq_true] at hb
                  obtain ⟨⟨⟨⟨b1, b2⟩, b3⟩, b4⟩, b5⟩ := hb
                  obtain rfl := Nat.eq_of_beq_eq_true b1
                  have he := Nat.eq_of_beq_eq_true b2
                  have hss := Nat.eq_of_beq_eq_true b3
                  have hdn : d < st.n := by rw [Nat.blt_eq] at b4; exact b4
                  obtain ⟨hlen, hK⟩ := h
                  have hvs : a.eval s = κ.ρ r := by have := hR.ev s; rw [hs] at this; exact this.1
                  obtain ⟨ye, yfs, yxs⟩ := y
                  obtain ⟨ze, zfs, zxs⟩ := z
                  dsimp only at hfs he hss hlen hK hsrc
                  subst hfs; subst he
                  obtain ⟨cells, hown, hcells, hn⟩ := hR.row r _ hy
                  dsimp only at hown hcells
                  have hmx : yxs.length + zxs.length ≤ maxLen := by
                    have h1 : yxs.length + zxs.length ≤ (yxs.length + zxs.length) * i.bytes := Nat.le_mul_of_pos_right _ hby
                    show _ ≤ 9223372036854775807
                    omega
                  have hrow : ∀ g, (κ.ρ r).ownBlock = some g → (κ.ρ r).ownBlock = some g ∧ (st.row r).isSome = true := fun g hg => ⟨hg, by rw [hy]; rfl⟩
                  have hfin : ∀ v' w', (Builtin.append_ #[t', t'] o.type #[a.eval s, a.eval x]).run P w = .ok v' w' → (execOp a.eval o).run P w = .ok (.value v') w' := fun v' w' hrun => by
                    simp [execOp, ho, resolve, invoke, builtin, hrun]
                  unfold Oper.wp
                  rcases hsrc with ⟨c, hvx, hnil⟩ | ⟨ad, c, news, hvx, hl, hnews, h1, hnc⟩
                  · subst hnil
                    have hrun := run_append_none (P := P) (ty := o.type) hu hi (size := i.size) (by rw [← hss]; exact hown) c
                    rw [hfin _ _ (by rw [hvs, hvx]; exact hrun)]
                    obtain ⟨κ', hR'⟩ := append_done hR (x := ⟨ye, zfs, yxs ++ castRow rfl []⟩) hdn (grownBy_refl w (κ.ρ r).ownBlock) hrow (by
                      show w.ownsRow _ ye zfs.size _ (yxs ++ []).length cells
                      rw [List.append_nil]; exact hown) (by
                      show RowCells κ w zfs (yxs ++ []) cells
                      rw [List.append_nil]; exact hcells) (r := r) (fun g hg => .inl ⟨hg, hg⟩)
                    show (_ → _) ∧ next (a.put o.dst _) _
                    rw [hd]
                    exact ⟨fun hg => no_grow (by rw [ho]; rfl) hg, hF κ' _ _ _ hK hR'⟩
                  · obtain ⟨v', w', row, hrun, ho', hgr, hr1, hr2⟩ := run_append_at (P := P) (ty := o.type) hu hi hz0 hzs hsz (by rw [← hss]; exact hown) (by rw [← hss]; exact hl) hnews h1 hmx hlen hR.low
                    rw [hfin _ _ (by rw [hvs, hvx]; exact hrun)]
                    obtain ⟨κ', hR'⟩ := append_done hR (x := ⟨ye, zfs, yxs ++ castRow rfl zxs⟩) (r := r) hdn hgr (fun g hg => hrow g (hr1 g hg)) (by
                      show w'.ownsRow _ ye zfs.size _ (yxs ++ zxs).length (cells ++ news)
                      rw [List.length_append, hss]; exact ho') (rowCells_append hown.1 hcells hnc) hr2
                    show (_ → _) ∧ next (a.put o.dst _) _
                    rw [hd]
                    exact ⟨fun hg => no_grow (by rw [ho]; rfl) hg, hF κ' _ _ _ hK hR'⟩
              · exact h.elim
            · exact h.elim
          · -- nil
            rename_i hs
            cases hb : t'.beq t && z.fs.size.beq i.size && Nat.blt d st.n
            · rw [hb] at h; exact h.elim
            · rw [hb] at h
              simp only [Bool.and_eq_true] at hb
              obtain ⟨⟨b1, b2⟩, b3⟩ := hb
              obtain rfl := Nat.eq_of_beq_eq_true b1
              have hss := Nat.eq_of_beq_eq_true b2
              have hdn : d < st.n := by rw [Nat.blt_eq] at b3; exact b3
              obtain ⟨hlen, hK⟩ := h
              have hvs : a.eval s = .slice none 0 0 := by have := hR.ev s; rw [hs] at this; exact this
              have hmx : 0 + z.xs.length ≤ maxLen := by
                have h1 : z.xs.length ≤ z.xs.length * i.bytes := Nat.le_mul_of_pos_right _ hby
                show _ ≤ 9223372036854775807
                omega
              have hfin : ∀ v' w', (Builtin.append_ #[t', t'] o.type #[a.eval s, a.eval x]).run P w = .ok v' w' → (execOp a.eval o).run P w = .ok (.value v') w' := fun v' w' hrun => by
                simp [execOp, ho, resolve, invoke, builtin, hrun]
              have hnil := World.ownsRow_nil w w.heap.size e i.size
              unfold Oper.wp
              rcases hsrc with ⟨c, hvx, hnl⟩ | ⟨ad, c, news, hvx, hl, hnews, h1, hnc⟩
              · have hrun := run_append_none (P := P) (ty := o.type) hu hi hnil c
                rw [hfin _ _ (by rw [hvs, hvx]; exact hrun)]
                obtain ⟨κ', hR'⟩ := append_done hR (r := st.off + d) (x := ⟨e, z.fs, z.xs⟩) hdn (grownBy_refl w none) (fun g hg => nomatch hg) (by
                  show w.ownsRow _ e z.fs.size _ z.xs.length []
                  rw [hnl, hss]; exact World.ownsRow_nil _ _ _ _) (fun i x hx => by
                    have hx : z.xs[i]? = some x := hx
                    rw [hnl] at hx; simp at hx) (fun g hg => by cases hg)
                show (_ → _) ∧ next (a.put o.dst _) _
                rw [hd]
                exact ⟨fun hg => no_grow (by rw [ho]; rfl) hg, hF κ' _ _ _ hK hR'⟩
              · obtain ⟨v', w', row, hrun, ho', hgr, hr1, hr2⟩ := run_append_at (P := P) (ty := o.type) hu hi hz0 hzs hsz hnil (by rw [← hss]; exact hl) hnews h1 hmx (by rw [Nat.zero_add]; exact hlen) (Nat.le_refl _)
                rw [hfin _ _ (by rw [hvs, hvx]; exact hrun)]
                have hr1' : row = none := by
                  cases row with
                  | none => rfl
                  | some g => have := hr1 g rfl; cases this
                subst hr1'
                obtain ⟨κ', hR'⟩ := append_done hR (r := st.off + d) (x := ⟨e, z.fs, z.xs⟩) hdn hgr (fun g hg => nomatch hg) (by
                  show w'.ownsRow _ e z.fs.size _ z.xs.length news
                  rw [hss]
                  rw [Nat.zero_add, List.nil_append] at ho'
                  exact owns_mono ho' hR.low) hnc (fun g hg => .inr (owns_block ho' g hg))
                show (_ → _) ∧ next (a.put o.dst _) _
                rw [hd]
                exact ⟨fun hg => no_grow (by rw [ho]; rfl) hg, hF κ' _ _ _ hK hR'⟩
          · exact h.elim
        · exact h.elim
      · exact h.elim
    · exact h.elim
  · -- a literal
    rename_i t len parts ho
    obtain ⟨κ1, hR1⟩ := Rel.freezeAll (ownsA (partsAV st parts.toList)) hR
    split at h
    · rename_i e d hu hd
      split at h
      · rename_i size bytes fs hinfo hfs
        split at h
        · rename_i l hl
          split at h
          · rename_i xs hxs
            cases hb : fs.size.beq size && Nat.blt d (st.freezeAll (ownsA (partsAV st parts.toList))).n && Nat.ble (len * size) 16777216
            · rw [hb] at h; exact h.elim
            · rw [hb] at h
              simp only [Bool.and_eq_true] at hb
              obtain ⟨⟨b1, b2⟩, b3⟩ := hb
              have hss := Nat.eq_of_beq_eq_true b1
              have hdn : d < (st.freezeAll (ownsA (partsAV st parts.toList))).n := by rw [Nat.blt_eq] at b2; exact b2
              obtain ⟨us, hrun, hus⟩ := run_buildSlice hu hinfo hR1 hl (Nat.le_of_ble_eq_true b3)
              obtain ⟨e1, e2, e3⟩ := rowsFrom_sound (fs := fs) len l xs us.toList hxs (by simpa using hus)
              have hlm : len ≤ maxLen := by
                have h1 : 0 < size := by rw [← hss]; exact Kds.size_pos fs
                have h2 : len ≤ len * size := Nat.le_mul_of_pos_right _ h1
                have h3 := Nat.le_of_ble_eq_true b3
                show _ ≤ 9223372036854775807
                omega
              obtain ⟨κ', hR'⟩ := append_done hR1 (r := st.off + d) (x := ⟨e, fs, xs⟩) (w' := w.alloc (.cells us e)) (v' := .slice (some ⟨w.heap.size, 0, none⟩) len len) (cells := us.toList) hdn (World.grownBy_alloc w _ none) (fun g hg => nomatch hg) (by
                show World.ownsRow _ _ e fs.size _ xs.length _
                rw [e1]
                refine ⟨e2, .inr ⟨w.heap.size, len, us, rfl, hR1.low, heap_alloc_new w _, Nat.le_refl _, hlm, by rw [← e2, Array.length_toList], ?_⟩⟩
                rw [List.take_of_length_le (by rw [e2]; exact Nat.le_refl _)]) e3 (fun g hg => .inr (by
                  have : w.heap.size = g := by simpa [Value.ownBlock] using hg
                  omega))
              unfold Oper.wp
              have hrun' : (execOp a.eval o).run P w = .ok (.value (.slice (some ⟨w.heap.size, 0, none⟩) len len)) (w.alloc (.cells us e)) := by
                simp only [execOp, ho]
                rw [Sem.run_bind, hrun]; rfl
              rw [hrun']
              show (_ → _) ∧ next (a.put o.dst _) _
              rw [hd]
              exact ⟨fun _ => bel_alloc (bel_refl w) _, hF κ' _ _ _ h hR'⟩
          · exact h.elim
        · exact h.elim
      · exact h.elim
    · exact h.elim
  · -- a slice made
    rename_i t x y ho
    split at h
    · rename_i e d k n k' m hu hd hx hy
      split at h
      · rename_i size bytes fs zc hinfo hfs hz
        split at h
        · rename_i z hzr
          cases hb : fs.size.beq size && Nat.blt d st.n
          · rw [hb] at h; exact h.elim
          · rw [hb] at h
            simp only [Bool.and_eq_true] at hb
            obtain ⟨b1, b2⟩ := hb
            have hss := Nat.eq_of_beq_eq_true b1
            have hdn : d < st.n := by rw [Nat.blt_eq] at b2; exact b2
            obtain ⟨i, zero, hi, hz0, hzs, hsz, hby, rfl, rfl, hone⟩ := rowInfo_spec hinfo
            have h : (0 ≤ n ∧ n = m ∧ n * (i.bytes : Int) ≤ 140737488355328) ∧ K ((st.setRow (st.off + d) ⟨e, fs, List.replicate n.toNat z⟩).set d (.c (.one (.own (st.off + d))))) := h
            obtain ⟨⟨c1, c2, c3⟩, hK⟩ := h
            subst c2
            have hvx : a.eval x = .int k n := by have := hR.ev x; rw [hx] at this; exact this
            have hvy : a.eval y = .int k' n := by have := hR.ev y; rw [hy] at this; exact this
            have hby' : (i.bytes : Int) * n ≤ 281474976710656 := by rw [Int.mul_comm]; exact Int.le_trans c3 (by omega)
            have hn63 : n ≤ 9223372036854775807 := by
              have h1 : n * 1 ≤ n * (i.bytes : Int) := Int.mul_le_mul_of_nonneg_left (by omega) c1
              rw [Int.mul_one] at h1
              exact Int.le_trans h1 (Int.le_trans c3 (by omega))
            have hrun := run_make (P := P) w t e i zero hu hi hz0 k k' n n c1 (Int.le_refl _) hby' hn63
            obtain ⟨κ', hR'⟩ := append_done hR (r := st.off + d) (x := ⟨e, fs, List.replicate n.toNat z⟩) (w' := w.alloc (.cells (madeCells zero.cells (n.toNat * i.size)) e)) (v' := .slice (some ⟨w.heap.size, 0, none⟩) n.toNat n.toNat) (cells := (madeCells zero.cells (n.toNat * i.size)).toList) hdn (World.grownBy_alloc w _ none) (fun g hg => nomatch hg) (by
              show World.ownsRow _ _ e fs.size _ (List.replicate n.toNat z).length _
              rw [List.length_replicate, hss]
              exact World.ownsRow_lit w _ n.toNat hR.low (Int.toNat_le.2 hn63) (size_madeCells _ _)) (by
              show RowCells κ w fs (List.replicate n.toNat z) _
              rw [← hss]
              exact made_cells (P := P) hz hi hz0 hzr (by rw [hzs, hss])) (fun g hg => .inr (by
                have : w.heap.size = g := by simpa [Value.ownBlock] using hg
                omega))
            unfold Oper.wp
            have hrun' : (execOp a.eval o).run P w = .ok (.value (.slice (some ⟨w.heap.size, 0, none⟩) n.toNat n.toNat)) (w.alloc (.cells (madeCells zero.cells (n.toNat * i.size)) e)) := by
              simp only [execOp, ho]
              rw [Sem.run_bind, hvx, hvy, hrun]; rfl
            rw [hrun']
            show (_ → _) ∧ next (a.put o.dst _) _
            rw [hd]
            exact ⟨fun _ => bel_alloc (bel_refl w) _, hF κ' _ _ _ hK hR'⟩
        · exact h.elim
      · exact h.elim
    · exact h.elim
  · -- the others
    split at h
    · rename_i c v hr
      exact rop_wpG hR hr h hF
    · exact h.elim
/-- a value whose slice lies above B -/
def Fresh (B : Nat) (v : Value) : Prop := ∀ g, v.ownBlock = some g → B ≤ g
/-- what an append leaves, if what it appends to is new -/
def NewOk (o : Oper) (a : Act) (w : World) (a' : Act) (w' : World) : Prop :=
  ∀ B, B ≤ w.heap.size → (∀ t, headTmp o = some t → Fresh B (a.eval (.tmp t))) → Below B w w' ∧ ∀ d, o.dst = some d → Fresh B (a'.eval (.tmp d))
theorem fresh_undef (B : Nat) : Fresh B Go.undef := fun g h => by cases h
theorem fresh_put {B : Nat} {v : Value} (h : Fresh B v) (a : Act) (d : Nat) : Fresh B ((a.put (some d) v).eval (.tmp d)) := by
  by_cases hd : d < a.tmps.size
  · have : (a.put (some d) v).eval (.tmp d) = v := by
      show (a.tmps.setIfInBounds d v).getD d Go.undef = v
      rw [Array.getD_eq_getD_getElem?, Array.getElem?_setIfInBounds_self_of_lt hd]; rfl
    rw [this]; exact h
  · have : (a.put (some d) v).eval (.tmp d) = Go.undef := by
      show (a.tmps.setIfInBounds d v).getD d Go.undef = Go.undef
      rw [Array.getD_eq_getD_getElem?, Array.getElem?_eq_none (by rw [Array.size_setIfInBounds]; omega)]; rfl
    rw [this]; exact fresh_undef B
theorem NewOk.done {o : Oper} {v' : Value} {row : Option Nat} {d : Nat} (hd : o.dst = some d) (hg : w.grownBy w' row) (h1 : ∀ B, B ≤ w.heap.size → (∀ t, headTmp o = some t → Fresh B (a.eval (.tmp t))) → ∀ g, row = some g → B ≤ g)
    (h2 : ∀ g, v'.ownBlock = some g → row = some g ∨ w.heap.size ≤ g) : NewOk o a w (a.put (some d) v') w' := by
  intro B hB hs
  have hr := h1 B hB hs
  refine ⟨⟨hg.os, hg.tape, hg.output, hg.size, fun k hk => hg.block k (by omega) (fun e => ?_)⟩, fun d' hd' => ?_⟩
  · have := hr k (by first | exact e | exact e.symm)
    omega
  · rw [hd] at hd'
    injection hd' with hd'; subst hd'
    refine fresh_put (fun g hgg => ?_) a d
    rcases h2 g hgg with h | h
    · exact hr g h
    · omega
theorem vop_soundN {cons : List Con} (hcons : ∀ c ∈ cons, c.Holds P) {o : Oper} (hk : freshKind o = true) {K : St → Prop} {next : Act → World → Prop} {Q : Exit → Act → World → Prop} (hR : Rel w0 κ st a w) (h : vop P cons o st K) (hF : Fits w0 K next) : o.wp P a w (fun a' w' => ((growOp o.op = true → Below w.heap.size w w') ∧ NewOk o a w a' w') ∧ next a' w') Q := by
  unfold freshKind at hk
  split at hk
  · rename_i t len parts ho
    unfold vop at h
    rw [ho] at h
    dsimp only at h
    obtain ⟨κ1, hR1⟩ := Rel.freezeAll (ownsA (partsAV st parts.toList)) hR
    split at h
    · rename_i e d hu hd
      split at h
      · rename_i size bytes fs hinfo hfs
        split at h
        · rename_i l hl
          split at h
          · rename_i xs hxs
            cases hb : fs.size.beq size && Nat.blt d (st.freezeAll (ownsA (partsAV st parts.toList))).n && Nat.ble (len * size) 16777216
            · rw [hb] at h; exact h.elim
            · rw [hb] at h
              simp only [Bool.and_eq_true] at hb
              obtain ⟨⟨b1, b2⟩, b3⟩ := hb
              have hss := Nat.eq_of_beq_eq_true b1
              have hdn : d < (st.freezeAll (ownsA (partsAV st parts.toList))).n := by rw [Nat.blt_eq] at b2; exact b2
              obtain ⟨us, hrun, hus⟩ := run_buildSlice hu hinfo hR1 hl (Nat.le_of_ble_eq_true b3)
              obtain ⟨e1, e2, e3⟩ := rowsFrom_sound (fs := fs) len l xs us.toList hxs (by simpa using hus)
              have hlm : len ≤ maxLen := by
                have h1 : 0 < size := by rw [← hss]; exact Kds.size_pos fs
                have h2 : len ≤ len * size := Nat.le_mul_of_pos_right _ h1
                have h3 := Nat.le_of_ble_eq_true b3
                show _ ≤ 9223372036854775807
                omega
              obtain ⟨κ', hR'⟩ := append_done hR1 (r := st.off + d) (x := ⟨e, fs, xs⟩) (w' := w.alloc (.cells us e)) (v' := .slice (some ⟨w.heap.size, 0, none⟩) len len) (cells := us.toList) hdn (World.grownBy_alloc w _ none) (fun g hg => nomatch hg) (by
                show World.ownsRow _ _ e fs.size _ xs.length _
                rw [e1]
                refine ⟨e2, .inr ⟨w.heap.size, len, us, rfl, hR1.low, heap_alloc_new w _, Nat.le_refl _, hlm, by rw [← e2, Array.length_toList], ?_⟩⟩
                rw [List.take_of_length_le (by rw [e2]; exact Nat.le_refl _)]) e3 (fun g hg => .inr (by
                  have : w.heap.size = g := by simpa [Value.ownBlock] using hg
                  omega))
              unfold Oper.wp
              have hrun' : (execOp a.eval o).run P w = .ok (.value (.slice (some ⟨w.heap.size, 0, none⟩) len len)) (w.alloc (.cells us e)) := by
                simp only [execOp, ho]
                rw [Sem.run_bind, hrun]; rfl
              rw [hrun']
              show ((_ → _) ∧ NewOk o a w (a.put o.dst _) _) ∧ next (a.put o.dst _) _
              rw [hd]
              exact ⟨⟨fun _ => bel_alloc (bel_refl w) _, NewOk.done hd (World.grownBy_alloc w _ none) (fun _ _ _ g hg => nomatch hg) fun g hg => .inr (Nat.le_of_eq (by simpa [Value.ownBlock] using hg))⟩, hF κ' _ _ _ h hR'⟩
          · exact h.elim
        · exact h.elim
      · exact h.elim
    · exact h.elim
  · rename_i args ts ho
    split at hk
    · rename_i s0 x0 hargs0
      unfold vop at h
      rw [ho] at h
      dsimp only at h
      have hh0 : headTmp o = some s0 := by unfold headTmp; rw [ho]; dsimp only; rw [hargs0]
      split at h
      · rename_i s x t t' d hargs hts hd
        split at h
        · rename_i e z hu hz
          split at h
          · rename_i size bytes hinfo
            obtain ⟨i, zero, hi, hz0, hzs, hsz, hby, rfl, rfl, _⟩ := rowInfo_spec hinfo
            have hsrc := srcOf_cells hR hz (hR.ev x)
            have ha : args = #[s, x] := by cases args; simp_all
            have hT : ts = #[t, t'] := by cases ts; simp_all
            subst ha; subst hT
            have hs0 : s = .tmp s0 := by
              have h0 : [s, x] = [.tmp s0, x0] := hargs0
              injection h0
            have hfr : ∀ r, a.eval s = κ.ρ r → ∀ B, B ≤ w.heap.size → (∀ t, headTmp o = some t → Fresh B (a.eval (.tmp t))) → ∀ g, (κ.ρ r).ownBlock = some g → B ≤ g := fun r hv B _ hs g hg => by
              exact hs s0 hh0 g (by rw [← hs0, hv]; exact hg)
            split at h
            · -- a row of the call's own
              rename_i r hs
              split at h
              · rename_i y hy
                split at h
                · rename_i hfs _
                  cases hb : t'.beq t && y.e.beq e && y.fs.size.beq i.size && Nat.blt d st.n && !isOwn r (st.ev x)
                  · rw [hb] at h; exact h.elim
                  · rw [hb] at h
                    simp only [Bool.and_eq_true] at hb
                    obtain ⟨⟨⟨⟨b1, b2⟩, b3⟩, b4⟩, b5⟩ := hb
                    obtain rfl := Nat.eq_of_beq_eq_true b1
                    have he := Nat.eq_of_beq_eq_true b2
                    have hss := Nat.eq_of_beq_eq_true b3
                    have hdn : d < st.n := by rw [Nat.blt_eq] at b4; exact b4
                    obtain ⟨hlen, hK⟩ := h
                    have hvs : a.eval s = κ.ρ r := by have := hR.ev s; rw [hs] at this; exact this.1
                    obtain ⟨ye, yfs, yxs⟩ := y
                    obtain ⟨ze, zfs, zxs⟩ := z
                    dsimp only at hfs he hss hlen hK hsrc
                    subst hfs; subst he
                    obtain ⟨cells, hown, hcells, hn⟩ := hR.row r _ hy
                    dsimp only at hown hcells
                    have hmx : yxs.length + zxs.length ≤ maxLen := by
                      have h1 : yxs.length + zxs.length ≤ (yxs.length + zxs.length) * i.bytes := Nat.le_mul_of_pos_right _ hby
                      show _ ≤ 9223372036854775807
                      omega
                    have hrow : ∀ g, (κ.ρ r).ownBlock = some g → (κ.ρ r).ownBlock = some g ∧ (st.row r).isSome = true := fun g hg => ⟨hg, by rw [hy]; rfl⟩
                    have hfin : ∀ v' w', (Builtin.append_ #[t', t'] o.type #[a.eval s, a.eval x]).run P w = .ok v' w' → (execOp a.eval o).run P w = .ok (.value v') w' := fun v' w' hrun => by
                      simp [execOp, ho, resolve, invoke, builtin, hrun]
                    unfold Oper.wp
                    rcases hsrc with ⟨c, hvx, hnil⟩ | ⟨ad, c, news, hvx, hl, hnews, h1, hnc⟩
                    · subst hnil
                      have hrun := run_append_none (P := P) (ty := o.type) hu hi (size := i.size) (by rw [← hss]; exact hown) c
                      rw [hfin _ _ (by rw [hvs, hvx]; exact hrun)]
                      obtain ⟨κ', hR'⟩ := append_done hR (x := ⟨ye, zfs, yxs ++ castRow rfl []⟩) hdn (grownBy_refl w (κ.ρ r).ownBlock) hrow (by
                        show w.ownsRow _ ye zfs.size _ (yxs ++ []).length cells
                        rw [List.append_nil]; exact hown) (by
                        show RowCells κ w zfs (yxs ++ []) cells
                        rw [List.append_nil]; exact hcells) (r := r) (fun g hg => .inl ⟨hg, hg⟩)
                      show ((_ → _) ∧ NewOk o a w (a.put o.dst _) _) ∧ next (a.put o.dst _) _
                      rw [hd]
                      exact ⟨⟨fun hg => no_grow (by rw [ho]; rfl) hg, NewOk.done hd (grownBy_refl w (κ.ρ r).ownBlock) (hfr r hvs) fun g hg => .inl hg⟩, hF κ' _ _ _ hK hR'⟩
                    · obtain ⟨v', w', row, hrun, ho', hgr, hr1, hr2⟩ := run_append_at (P := P) (ty := o.type) hu hi hz0 hzs hsz (by rw [← hss]; exact hown) (by rw [← hss]; exact hl) hnews h1 hmx hlen hR.low
                      rw [hfin _ _ (by rw [hvs, hvx]; exact hrun)]
                      obtain ⟨κ', hR'⟩ := append_done hR (x := ⟨ye, zfs, yxs ++ castRow rfl zxs⟩) (r := r) hdn hgr (fun g hg => hrow g (hr1 g hg)) (by
                        show w'.ownsRow _ ye zfs.size _ (yxs ++ zxs).length (cells ++ news)
                        rw [List.length_append, hss]; exact ho') (rowCells_append hown.1 hcells hnc) hr2
                      show ((_ → _) ∧ NewOk o a w (a.put o.dst _) _) ∧ next (a.put o.dst _) _
                      rw [hd]
                      exact ⟨⟨fun hg => no_grow (by rw [ho]; rfl) hg, NewOk.done hd hgr (fun B hB hs g hg => hfr r hvs B hB hs g (hr1 g hg)) fun g hg => (hr2 g hg).imp (fun h => h.1) id⟩, hF κ' _ _ _ hK hR'⟩
                · exact h.elim
              · exact h.elim
            · -- nil
              rename_i hs
              cases hb : t'.beq t && z.fs.size.beq i.size && Nat.blt d st.n
              · rw [hb] at h; exact h.elim
              · rw [hb] at h
                simp only [Bool.and_eq_true] at hb
                obtain ⟨⟨b1, b2⟩, b3⟩ := hb
                obtain rfl := Nat.eq_of_beq_eq_true b1
                have hss := Nat.eq_of_beq_eq_true b2
                have hdn : d < st.n := by rw [Nat.blt_eq] at b3; exact b3
                obtain ⟨hlen, hK⟩ := h
                have hvs : a.eval s = .slice none 0 0 := by have := hR.ev s; rw [hs] at this; exact this
                have hmx : 0 + z.xs.length ≤ maxLen := by
                  have h1 : z.xs.length ≤ z.xs.length * i.bytes := Nat.le_mul_of_pos_right _ hby
                  show _ ≤ 9223372036854775807
                  omega
                have hfin : ∀ v' w', (Builtin.append_ #[t', t'] o.type #[a.eval s, a.eval x]).run P w = .ok v' w' → (execOp a.eval o).run P w = .ok (.value v') w' := fun v' w' hrun => by
                  simp [execOp, ho, resolve, invoke, builtin, hrun]
                have hnil := World.ownsRow_nil w w.heap.size e i.size
                unfold Oper.wp
                rcases hsrc with ⟨c, hvx, hnl⟩ | ⟨ad, c, news, hvx, hl, hnews, h1, hnc⟩
                · have hrun := run_append_none (P := P) (ty := o.type) hu hi hnil c
                  rw [hfin _ _ (by rw [hvs, hvx]; exact hrun)]
                  obtain ⟨κ', hR'⟩ := append_done hR (r := st.off + d) (x := ⟨e, z.fs, z.xs⟩) hdn (grownBy_refl w none) (fun g hg => nomatch hg) (by
                    show w.ownsRow _ e z.fs.size _ z.xs.length []
                    rw [hnl, hss]; exact World.ownsRow_nil _ _ _ _) (fun i x hx => by
                      have hx : z.xs[i]? = some x := hx
                      rw [hnl] at hx; simp at hx) (fun g hg => by cases hg)
                  show ((_ → _) ∧ NewOk o a w (a.put o.dst _) _) ∧ next (a.put o.dst _) _
                  rw [hd]
                  exact ⟨⟨fun hg => no_grow (by rw [ho]; rfl) hg, NewOk.done hd (grownBy_refl w none) (fun _ _ _ g hg => nomatch hg) fun g hg => by cases hg⟩, hF κ' _ _ _ hK hR'⟩
                · obtain ⟨v', w', row, hrun, ho', hgr, hr1, hr2⟩ := run_append_at (P := P) (ty := o.type) hu hi hz0 hzs hsz hnil (by rw [← hss]; exact hl) hnews h1 hmx (by rw [Nat.zero_add]; exact hlen) (Nat.le_refl _)
                  rw [hfin _ _ (by rw [hvs, hvx]; exact hrun)]
                  have hr1' : row = none := by
                    cases row with
                    | none => rfl
                    | some g => have := hr1 g rfl; cases this
                  subst hr1'
                  obtain ⟨κ', hR'⟩ := append_done hR (r := st.off + d) (x := ⟨e, z.fs, z.xs⟩) hdn hgr (fun g hg => nomatch hg) (by
                    show w'.ownsRow _ e z.fs.size _ z.xs.length news
                    rw [hss]
                    rw [Nat.zero_add, List.nil_append] at ho'
                    exact owns_mono ho' hR.low) hnc (fun g hg => .inr (owns_block ho' g hg))
                  show ((_ → _) ∧ NewOk o a w (a.put o.dst _) _) ∧ next (a.put o.dst _) _
                  rw [hd]
                  exact ⟨⟨fun hg => no_grow (by rw [ho]; rfl) hg, NewOk.done hd hgr (fun _ _ _ g hg => nomatch hg) fun g hg => .inr (owns_block ho' g hg)⟩, hF κ' _ _ _ hK hR'⟩
            · exact h.elim
          · exact h.elim
        · exact h.elim
      · exact h.elim
    · cases hk
  · cases hk
theorem vop_sound {cons : List Con} (hcons : ∀ c ∈ cons, c.Holds P) {o : Oper} {K : St → Prop} {next : Act → World → Prop} {Q : Exit → Act → World → Prop} (hR : Rel w0 κ st a w) (h : vop P cons o st K) (hF : Fits w0 K next) : o.wp P a w next Q :=
  Oper.wp_mono (fun _ _ h => h.2) (vop_soundG hcons hR h hF)

/-- an operation that yields one value in every later world -/
def FitsQ (w0 : Base) (w : World) (K : St → Prop) (next : Act → Prop) : Prop := ∀ (κ : Cx) (st : St) (a : Act), K st → Rel w0 κ st a w → next a

theorem flat_value {c : CK} (hf : c.flat = true) {p : c.Pay} {κ κ' : Cx} {w w' : World} {v : Value} (h : (c.comp p).Rep κ w v) : (c.comp p).Rep κ' w' v := by
  cases c with
  | agg ks => cases hf
  | one k => cases k <;> first | exact h | cases hf
theorem flat_same {c : CK} (hf : c.flat = true) {p : c.Pay} {κ κ' : Cx} {w w' : World} {v v' : Value} (h : (c.comp p).Rep κ w v) (h' : (c.comp p).Rep κ' w' v') : v = v' := by
  cases c with
  | agg ks => cases hf
  | one k => cases k <;> first | exact (show v = _ from h).trans (show v' = _ from h').symm | cases hf
theorem flat_comps : ∀ (l : List CK) (r : Pays l), l.all CK.flat = true → ∀ c ∈ compsOf l r, ∃ (x : CK) (q : x.Pay), x.flat = true ∧ c = x.comp q
  | [], p, hf, c, h => by cases h
  | [x], p, hf, c, h => ⟨x, p, by simpa using hf, List.mem_singleton.1 h⟩
  | x :: y :: r, p, hf, c, h => by
    have hf' : x.flat = true ∧ (y :: r).all CK.flat = true := by rw [List.all_cons, Bool.and_eq_true] at hf; exact hf
    rcases List.mem_cons.1 h with rfl | h
    · exact ⟨x, p.1, hf'.1, rfl⟩
    · exact flat_comps (y :: r) p.2 hf'.2 c h
/-- flat results have one value, the same in every world -/
theorem resAV_same {l : List CK} (hf : l.all CK.flat = true) {r : Pays l} {κ κ' : Cx} {w w' : World} {v v' : Value} (h : (resAV l r).Rep κ w v) (h' : (resAV l r).Rep κ' w' v') : v = v' := by
  unfold resAV at *
  split at h
  · rename_i x hx
    rw [hx] at h'
    obtain ⟨y, q, hy, rfl⟩ := flat_comps l r hf x (by rw [hx]; exact List.mem_singleton.2 rfl)
    exact flat_same hy h h'
  · rename_i xs hne
    have h' : AV.Rep κ' w' (.tup (compsOf l r)) v' := by
      split at h'
      · rename_i x hx; exact absurd hx (hne x)
      · exact h'
    obtain ⟨vs, rfl, h1, h2⟩ := h
    obtain ⟨us, rfl, h3, h4⟩ := h'
    have : vs = us := by
      apply Array.ext (by rw [h1, h3])
      intro i hi hi'
      have hl : i < (compsOf l r).length := by rw [← h1]; exact hi
      obtain ⟨u, hu, hr⟩ := h2 i _ (List.getElem?_eq_getElem hl)
      obtain ⟨u', hu', hr'⟩ := h4 i _ (List.getElem?_eq_getElem hl)
      obtain ⟨y, q, hy, e⟩ := flat_comps l r hf _ (List.getElem_mem hl)
      rw [e] at hr hr'
      rw [Array.getElem?_eq_getElem hi] at hu
      rw [Array.getElem?_eq_getElem hi'] at hu'
      injection hu with hu; injection hu' with hu'
      rw [hu, hu']
      exact flat_same hy hr hr'
    rw [this]
theorem resAV_flat {l : List CK} (hf : l.all CK.flat = true) {r : Pays l} {κ κ' : Cx} {w w' : World} {v : Value} (h : (resAV l r).Rep κ w v) : (resAV l r).Rep κ' w' v := by
  unfold resAV at *
  split at h
  · rename_i x hx
    obtain ⟨y, q, hy, rfl⟩ := flat_comps l r hf x (by rw [hx]; exact List.mem_singleton.2 rfl)
    exact flat_value hy h
  · obtain ⟨vs, rfl, h1, h2⟩ := h
    refine ⟨vs, rfl, h1, fun i c hc => ?_⟩
    obtain ⟨u, hu, hr⟩ := h2 i c hc
    obtain ⟨y, q, hy, rfl⟩ := flat_comps l r hf c (List.mem_of_getElem? hc)
    exact ⟨u, hu, flat_value hy hr⟩

theorem vopQ_sound {cons : List Con} (hcons : ∀ c ∈ cons, c.Holds P) {o : Oper} {K : St → Prop} {next : Act → Prop} (hR : Rel w0 κ st a w) (h : vopQ P cons o st K) (hF : FitsQ w0 w K next) :
    o.quiet P a (fun w' => Below w.heap.size w w') next := by
  unfold vopQ at h
  split at h
  · rename_i f args ts ho
    split at h
    · rename_i c hc
      obtain ⟨hmem, rfl⟩ := conOf_spec hc
      obtain ⟨κ1, hR1⟩ := Rel.freezeAll (ownsA (evs st args.toList)) hR
      split at h
      · rename_i p hp
        cases hd : putOk st o.dst && c.res.all CK.flat
        · rw [hd] at h; exact h.elim
        · rw [hd] at h
          rw [Bool.and_eq_true] at hd
          obtain ⟨hpre, hK0⟩ := h
          have hH := hcons c hmem
          have hargs := comps_plain (κ := κ1) (κ' := Cx.of κ1.S) c.args p rfl (takeAll_sound hR1 _ _ _ hp)
          have hd1 : putOk (st.freezeAll (ownsA (evs st args.toList))) o.dst = true := by
            have := hd.1
            unfold putOk at this ⊢
            rw [freezeAll_n]; exact this
          obtain ⟨⟨r0, hr0, huniq⟩, hK⟩ : (∃ r, c.post p r ∧ ∀ r', c.post p r' → r' = r) ∧ ∀ r, c.post p r → K ((st.freezeAll (ownsA (evs st args.toList))).put o.dst (resAV c.res r)) := by
            cases hfn : c.fn with
            | none => rw [hfn] at hK0; exact hK0
            | some F =>
              rw [hfn] at hK0
              have hu := hH.1.2 F hfn p
              obtain ⟨e, w', fr, ⟨r, v, rfl, hpost, hres, hb⟩, _⟩ := hH.2 p _ w κ1.S hR1.bound hpre hargs []
              exact ⟨⟨r, hpost, fun r' h' => (hu r' h').trans (hu r hpost).symm⟩, fun r' h' => by rw [hu r' h']; exact hK0⟩
          -- the value that the call in w itself hands back
          obtain ⟨v0, hv0⟩ : ∃ v0, (resAV c.res r0).Rep (Cx.of κ1.S) w v0 := by
            have := hH.2 p _ w κ1.S hR1.bound hpre hargs
            obtain ⟨e, w', fr, ⟨r, v, rfl, hpost, hres, hb⟩, _⟩ := this []
            obtain rfl := huniq r hpost
            exact ⟨v, resAV_flat hd.2 hres⟩
          refine ⟨v0, fun w' hb => ?_, hF _ _ _ (hK r0 hr0) (hR1.put hd1 (resAV_flat hd.2 hv0))⟩
          unfold Oper.quietAt
          rw [run_call c hH ho w']
          refine ⟨rfl, ?_⟩
          have hR' := hR1.later hb
          have hargs' : CompsRep (Cx.of fun g => κ1.S g ∨ (w.heap.size ≤ g ∧ g < w'.heap.size)) w' (compsOf c.args p) (args.toList.map a.eval) :=
            comps_plain (κ := { κ1 with S := fun g => κ1.S g ∨ (w.heap.size ≤ g ∧ g < w'.heap.size) }) (κ' := Cx.of fun g => κ1.S g ∨ (w.heap.size ≤ g ∧ g < w'.heap.size)) c.args p rfl (takeAll_sound hR' _ _ _ hp)
          refine (hH.2 p _ w' _ hR'.bound hpre hargs').mono ?_
          rintro e w'' ⟨r, v, rfl, hpost, hres, hb'⟩
          obtain rfl := huniq r hpost
          exact ⟨by rw [resAV_same hd.2 hres hv0], bel_trans hb hb'⟩
      · exact h.elim
    · exact h.elim
  · split at h
    · rename_i c v hr
      cases hd : putOk st o.dst
      · rw [hd] at h; exact h.elim
      · rw [hd] at h
        obtain ⟨hc, hK⟩ := asks_out hr h
        obtain ⟨u, hu, hw⟩ := rop_sound hR hr hc
        refine ⟨u, fun w' hb => ?_, hF _ _ _ hK (hR.put hd hu)⟩
        unfold Oper.quietAt
        rw [hw w' hb]
        exact ⟨rfl, rfl⟩
    · exact h.elim
end
end R
end Go.Proofs.YtldnfdghkdibmaaGreatDoor

/-
  Regions, branches, loops: what 'vc' asks is enough.
-/
set_option linter.unusedVariables false
namespace Go.Proofs.YtldnfdghkdibmaaGreatDoor
open Go.RowKit
namespace R
section
variable {w0 : Base} {w w' : World} {κ : Cx} {st : St} {a : Act} {P : Program} {cons : List Con}

theorem wayOf_spec (hR : Rel w0 κ st a w) (ops : List Oper) (o : Oper) : match wayOf ops st o with
    | .run => Region.wanted o (yielded ops.toArray a.tmps) = true
    | .skip => Region.wanted o (yielded ops.toArray a.tmps) = false
    | .part t b want => Region.wanted o (yielded ops.toArray a.tmps) = (b == want) ∧ a.tmps.getD t Go.undef = .bool b
    | .no => True := by
  unfold wayOf
  cases hg : o.guard with
  | none => simp [Region.wanted, hg]
  | some q =>
    obtain ⟨j, want⟩ := q
    dsimp only
    cases ht : (ops[j]?).bind (·.dst) with
    | none => trivial
    | some t =>
      have hy : yielded ops.toArray a.tmps j = match a.tmps[t]? with
          | some (.bool b) => some b
          | _ => none := by
        unfold yielded
        have : ((ops.toArray[j]?).bind (·.dst)) = some t := by simpa using ht
        rw [this]; rfl
      have henv := hR.env t
      dsimp only
      split <;> rename_i heq
      · split at heq <;> first | cases heq | skip
      · -- skip
        split at heq <;> first | cases heq | skip
        rename_i e
        rw [e] at henv
        have henv : a.tmps.getD t Go.undef = Go.undef := henv
        have hn : yielded ops.toArray a.tmps j = none := by
          rw [hy]
          cases hx : a.tmps[t]? with
          | none => rfl
          | some v =>
            rw [Array.getD_eq_getD_getElem?, hx] at henv
            have henv : v = Go.undef := henv
            subst henv; rfl
        simp [Region.wanted, hg, hn]
      · rename_i t' b want'
        split at heq <;> first | cases heq | skip
        rename_i e
        rw [e] at henv
        have henv : a.tmps.getD t Go.undef = .bool b := henv
        have hn : yielded ops.toArray a.tmps j = some b := by
          rw [hy]
          cases hx : a.tmps[t]? with
          | none =>
            rw [Array.getD_eq_getD_getElem?, hx] at henv
            cases henv
          | some v =>
            rw [Array.getD_eq_getD_getElem?, hx] at henv
            have henv : v = .bool b := henv
            subst henv; rfl
        refine ⟨?_, henv⟩
        simp [Region.wanted, hg, hn]
      · trivial

/-- what a panic leaves -/
def FitsP (w0 : Base) (KP : Cell → St → Prop) (Q : Exit → Act → World → Prop) : Prop := ∀ (κ : Cx) (st : St) (a : Act) (w : World) (c : Cell) (v : Value), KP c st → Rel w0 κ st a w → c.Rep κ w v → Q (.panic [{ v := v, recovered := false }]) a w
/-- calls without contracts do what H says -/
def InlOk (P : Program) (H : Inl) : Prop := ∀ (w0 : Base) (f : FuncId) (xs : List Comp) (off : Nat) (st : St) (K : List Comp → St → Prop) (KP : Cell → St → Prop) (κ : Cx) (a : Act) (w : World) (vs : List Value), H f xs off st K KP → Rel w0 κ st a w → CompsRep κ w xs vs →
  (∃ fn, P.funcs[f]? = some fn ∧ (fn.name == "runtime.NumGoroutine") = false ∧ fn.body.isNone = false) ∧
  Calls P f vs.toArray w fun e w' => (∃ (v : Value) (rs : List Comp) (κ' : Cx) (st' : St), e = .returned v ∧ K rs st' ∧ Rel w0 κ' st' a w' ∧ (retAV rs).Rep κ' w' v) ∨
    ∃ (c : Cell) (v : Value) (κ' : Cx) (st' : St), e = .panicked [{ v := v, recovered := false }] ∧ KP c st' ∧ Rel w0 κ' st' a w' ∧ c.Rep κ' w' v
theorem noInl_ok : InlOk P noInl := fun _ _ _ _ _ _ _ _ _ _ _ h => h.elim
theorem compsAV_sound (hR : Rel w0 κ st a w) : ∀ (l : List Operand) (xs : List Comp), compsAV (evs st l) = some xs → CompsRep κ w xs (l.map a.eval)
  | [], xs, h => by
    injection h with h; subst h
    exact ⟨rfl, fun i c h => by cases h⟩
  | x :: r, xs, h => by
    have hx := hR.ev x
    have h : compsAV (st.ev x :: evs st r) = some xs := h
    cases e : st.ev x with
    | tup ys => rw [e] at h; cases h
    | c y =>
      rw [e] at h hx
      have h : (compsAV (evs st r)).map (y :: ·) = some xs := h
      cases hr : compsAV (evs st r) with
      | none => rw [hr] at h; cases h
      | some ys =>
        rw [hr] at h; injection h with h; subst h
        have ih := compsAV_sound hR r ys hr
        refine ⟨by rw [List.map_cons, List.length_cons, List.length_cons, ih.1], fun i c hc => ?_⟩
        cases i with
        | zero => injection hc with hc; subst hc; exact ⟨_, rfl, hx⟩
        | succ i => exact ih.2 i c hc
theorem CompsRep.append {xs ys : List Comp} {us vs : List Value} (h : CompsRep κ w xs us) (h' : CompsRep κ w ys vs) : CompsRep κ w (xs ++ ys) (us ++ vs) := by
  refine ⟨by rw [List.length_append, List.length_append, h.1, h'.1], fun i c hc => ?_⟩
  by_cases hi : i < xs.length
  · rw [List.getElem?_append_left hi] at hc
    rw [List.getElem?_append_left (by rw [h.1]; exact hi)]
    exact h.2 i c hc
  · rw [List.getElem?_append_right (by omega)] at hc
    rw [List.getElem?_append_right (by rw [h.1]; omega), h.1]
    exact h'.2 _ c hc
theorem ptrCs_rep (ps : List (Nat × Nat)) : CompsRep κ w (ptrCs ps) (ps.map κ.ptr) := by
  refine ⟨by rw [List.length_map]; show _ = (ps.map _).length; rw [List.length_map], fun i c hc => ?_⟩
  have hc : (ps.map fun p => Comp.one (.ptr p.1 p.2))[i]? = some c := hc
  rw [List.getElem?_map] at hc
  cases hp : ps[i]? with
  | none => rw [hp] at hc; cases hc
  | some p =>
    rw [hp] at hc; injection hc with hc; subst hc
    exact ⟨κ.ptr p, by rw [List.getElem?_map, hp]; rfl, rfl⟩
theorem vin_sound {H : Inl} (hH : InlOk P H) {KP : Cell → St → Prop} {Q : Exit → Act → World → Prop} (hP : FitsP w0 KP Q) {o : Oper} {f : FuncId} {ah be : List (Nat × Nat)} {x : Operand} {args : Array Operand} {ts : Array TypeId} (ho : o.op = .call { callee := .value x, args, argTypes := ts })
    (hx : a.eval x = .func (.func f) (ah.map κ.ptr).toArray (be.map κ.ptr).toArray) {K : St → Prop} {next : Act → World → Prop} (hR : Rel w0 κ st a w) (h : vin H KP f ah be o st args.toList K) (hF : Fits w0 K next) : o.wp P a w next Q := by
  unfold vin at h
  split at h
  · rename_i xs hxs
    cases hd : putOk st o.dst
    · rw [hd] at h; exact h.elim
    · rw [hd] at h
      have hargs := ((ptrCs_rep (κ := κ) (w := w) ah).append (compsAV_sound hR _ _ hxs)).append (ptrCs_rep be)
      obtain ⟨⟨fn, hf, hn, hb⟩, hcall⟩ := hH w0 f _ _ st _ KP κ a w _ h hR hargs
      have hn' : ¬ fn.name = "runtime.NumGoroutine" := by simpa using hn
      have hb' : ¬ fn.body = none := fun h => by rw [h] at hb; cases hb
      have hrun : (execOp a.eval o).run P w = .ok (.enter f (ah.map κ.ptr ++ args.toList.map a.eval ++ be.map κ.ptr).toArray) w := by
        have e : (args.map a.eval) = (args.toList.map a.eval).toArray := by rw [← Array.toList_map, Array.toArray_toList]
        have e2 : (ah.map κ.ptr).toArray ++ args.map a.eval ++ (be.map κ.ptr).toArray = (ah.map κ.ptr ++ args.toList.map a.eval ++ be.map κ.ptr).toArray := by rw [e]; simp
        rw [← e2]
        simp [execOp, ho, resolve, hx, Deferred.ofValue, invoke, callFunc, hf, hn', hb']
      unfold Oper.wp
      rw [hrun, Oper.upon_enter]
      refine hcall.mono ?_
      rintro e w' (⟨v, rs, κ', st', rfl, hK, hR', hr⟩ | ⟨c, v, κ', st', rfl, hK, hR', hr⟩)
      · have hn : st'.n = st.n := hR'.size.symm.trans hR.size
        exact hF κ' _ _ _ hK (hR'.put (by unfold putOk at hd ⊢; rw [hn]; exact hd) hr)
      · exact hP κ' st' a w' c v hK hR' hr
  · exact h.elim
theorem vopI_sound (hcons : ∀ c ∈ cons, c.Holds P) {H : Inl} (hH : InlOk P H) {KP : Cell → St → Prop} {Q : Exit → Act → World → Prop} (hP : FitsP w0 KP Q) (o : Oper) (κ : Cx) (st : St) (a : Act) (w : World) (K : St → Prop) (next : Act → World → Prop) (h : vopI P cons H KP o st K) (hR : Rel w0 κ st a w) (hF : Fits w0 K next) : o.wp P a w next Q := by
  unfold vopI at h
  split at h
  · rename_i x args ts ho
    have hx := hR.ev x
    split at h
    · rename_i f hf
      rw [hf] at hx
      have hx : a.eval x = .func (.func f) #[] #[] := hx
      split at h
      · exact vop_sound hcons hR h hF
      · exact vin_sound hH hP ho (ah := []) (be := []) hx hR h hF
    · rename_i f k ps hf
      rw [hf] at hx
      exact vin_sound hH hP ho hx hR h hF
    · exact h.elim
  · rename_i x ho
    have hx := hR.ev x
    split at h
    · rename_i t ks p hd
      rw [hd] at hx
      have hx' := hx
      obtain ⟨us, hxe, _⟩ := hx'
      have hrun : (execOp a.eval o).run P w = .halt (.panic (a.eval x)) w := by
        simp [execOp, ho, hxe, Instr.panic, goPanic]
      unfold Oper.wp
      rw [hrun, Oper.upon_panic]
      exact hP κ st a w _ _ h hR hx
    · exact h.elim
  · exact vop_sound hcons hR h hF

theorem vops_list {V : Oper → St → (St → Prop) → Prop} {Q : Exit → Act → World → Prop} (hV : ∀ (o : Oper) (κ : Cx) (st : St) (a : Act) (w : World) (K : St → Prop) (next : Act → World → Prop), V o st K → Rel w0 κ st a w → Fits w0 K next → o.wp P a w next Q)
    (ops : List Oper) {K : St → Prop} (hK : Fits w0 K (Q .normal)) : ∀ (l : List Oper) (κ : Cx) (st : St) (a : Act) (w : World), vops V ops l st K → Rel w0 κ st a w → wpList P ops.toArray Q l a w
  | [], κ, st, a, w, h, hR => hK κ st a w h hR
  | o :: r, κ, st, a, w, h, hR => by
    have ih : Fits w0 (fun st' => vops V ops r st' K) (wpList P ops.toArray Q r) := fun κ st a w h hR => vops_list hV ops hK r κ st a w h hR
    have hw := wayOf_spec hR ops o
    have h : vgo V o st (wayOf ops st o) (fun st' => vops V ops r st' K) := h
    unfold wpList
    cases hway : wayOf ops st o with
    | run =>
      rw [hway] at hw h
      have hw : Region.wanted o (yielded ops.toArray a.tmps) = true := hw
      rw [if_pos hw]
      exact .inl (hV o κ st a w (fun st' => vops V ops r st' K) _ h hR ih)
    | skip =>
      rw [hway] at hw h
      have hw : Region.wanted o (yielded ops.toArray a.tmps) = false := hw
      rw [if_neg (by rw [hw]; decide)]
      have h : (bif putOk st o.dst then vops V ops r (st.put o.dst (.c (.one .undef))) K else False) := h
      cases hd : putOk st o.dst
      · rw [hd] at h; exact h.elim
      · rw [hd] at h
        exact ih κ _ _ _ h (hR.put hd rfl)
    | part t b want =>
      rw [hway] at hw h
      obtain ⟨hw, hb⟩ := hw
      have h : (bif putOk st o.dst then
        bif b then (bif want then V o (st.set t (bool true)) (fun st' => vops V ops r st' K) else vops V ops r ((st.set t (bool true)).put o.dst (.c (.one .undef))) K)
        else (bif want then vops V ops r ((st.set t (bool false)).put o.dst (.c (.one .undef))) K else V o (st.set t (bool false)) (fun st' => vops V ops r st' K))
        else False) := h
      cases hd : putOk st o.dst
      · rw [hd] at h; exact h.elim
      · rw [hd] at h
        have hR' : Rel w0 κ (st.set t (bool b)) a w := hR.know (by rw [hb]; rfl)
        have hd' : putOk (st.set t (bool b)) o.dst = true := hd
        cases b <;> cases want
        · have hw : Region.wanted o (yielded ops.toArray a.tmps) = true := hw
          rw [if_pos hw]; exact .inl (hV o κ _ a w (fun st' => vops V ops r st' K) _ h hR' ih)
        · have hw : Region.wanted o (yielded ops.toArray a.tmps) = false := hw
          rw [if_neg (by rw [hw]; decide)]; exact ih κ _ _ _ h (hR'.put hd' rfl)
        · have hw : Region.wanted o (yielded ops.toArray a.tmps) = false := hw
          rw [if_neg (by rw [hw]; decide)]; exact ih κ _ _ _ h (hR'.put hd' rfl)
        · have hw : Region.wanted o (yielded ops.toArray a.tmps) = true := hw
          rw [if_pos hw]; exact .inl (hV o κ _ a w (fun st' => vops V ops r st' K) _ h hR' ih)
    | no => rw [hway] at h; exact h.elim

theorem vops_quiet (ops : List Oper) {C : World → Prop} {w : World} {V : Oper → St → (St → Prop) → Prop}
    (hV : ∀ (o : Oper) (κ : Cx) (st : St) (a : Act) (K : St → Prop) (next : Act → Prop), V o st K → Rel w0 κ st a w → FitsQ w0 w K next → o.quiet P a C next)
    {K : St → Prop} {N : Act → Prop} (hK : FitsQ w0 w K N) : ∀ (l : List Oper) (κ : Cx) (st : St) (a : Act), vops V ops l st K → Rel w0 κ st a w → wpQuiet P ops.toArray C N l a
  | [], κ, st, a, h, hR => hK κ st a h hR
  | o :: r, κ, st, a, h, hR => by
    have ih : FitsQ w0 w (fun st' => vops V ops r st' K) (wpQuiet P ops.toArray C N r) := fun κ st a h hR => vops_quiet ops hV hK r κ st a h hR
    have hw := wayOf_spec hR ops o
    have h : vgo V o st (wayOf ops st o) (fun st' => vops V ops r st' K) := h
    unfold wpQuiet
    cases hway : wayOf ops st o with
    | run =>
      rw [hway] at hw h
      have hw : Region.wanted o (yielded ops.toArray a.tmps) = true := hw
      rw [if_pos hw]
      exact hV o κ st a (fun st' => vops V ops r st' K) _ h hR ih
    | skip =>
      rw [hway] at hw h
      have hw : Region.wanted o (yielded ops.toArray a.tmps) = false := hw
      rw [if_neg (by rw [hw]; decide)]
      have h : (bif putOk st o.dst then vops V ops r (st.put o.dst (.c (.one .undef))) K else False) := h
      cases hd : putOk st o.dst
      · rw [hd] at h; exact h.elim
      · rw [hd] at h
        exact ih κ _ _ h (hR.put hd rfl)
    | part t b want =>
      rw [hway] at hw h
      obtain ⟨hw, hb⟩ := hw
      have h : (bif putOk st o.dst then
        bif b then (bif want then V o (st.set t (bool true)) (fun st' => vops V ops r st' K) else vops V ops r ((st.set t (bool true)).put o.dst (.c (.one .undef))) K)
        else (bif want then vops V ops r ((st.set t (bool false)).put o.dst (.c (.one .undef))) K else V o (st.set t (bool false)) (fun st' => vops V ops r st' K))
        else False) := h
      cases hd : putOk st o.dst
      · rw [hd] at h; exact h.elim
      · rw [hd] at h
        have hR' : Rel w0 κ (st.set t (bool b)) a w := hR.know (by rw [hb]; rfl)
        have hd' : putOk (st.set t (bool b)) o.dst = true := hd
        cases b <;> cases want
        · have hw : Region.wanted o (yielded ops.toArray a.tmps) = true := hw
          rw [if_pos hw]; exact hV o κ _ a _ _ h hR' ih
        · have hw : Region.wanted o (yielded ops.toArray a.tmps) = false := hw
          rw [if_neg (by rw [hw]; decide)]; exact ih κ _ _ h (hR'.put hd' rfl)
        · have hw : Region.wanted o (yielded ops.toArray a.tmps) = false := hw
          rw [if_neg (by rw [hw]; decide)]; exact ih κ _ _ h (hR'.put hd' rfl)
        · have hw : Region.wanted o (yielded ops.toArray a.tmps) = true := hw
          rw [if_pos hw]; exact hV o κ _ a _ _ h hR' ih
    | no => rw [hway] at h; exact h.elim

theorem vopQ_none {o : Oper} {st : St} {a : Act} {w : World} {κ : Cx} {K : St → Prop} {next : Act → Prop} (h : vopQ P [] o st K) (hR : Rel w0 κ st a w) (hF : FitsQ w0 w K next) : o.quiet P a (fun x => x = w) next := by
  obtain ⟨v, h1, h2⟩ := vopQ_sound (cons := []) (fun c hc => by cases hc) hR h hF
  unfold vopQ at h
  split at h
  · exact h.elim
  · split at h
    · rename_i c v hr
      cases hd : putOk st o.dst
      · rw [hd] at h; exact h.elim
      · rw [hd] at h
        obtain ⟨hc, hK⟩ := asks_out hr h
        obtain ⟨u, hu, hw⟩ := rop_sound hR hr hc
        refine ⟨u, fun w' hb => ?_, hF _ _ _ hK (hR.put hd hu)⟩
        subst hb
        unfold Oper.quietAt
        rw [hw _ (bel_refl _)]
        exact ⟨rfl, rfl⟩
    · exact h.elim

/-! ## regions whose operations are taken in an order of our own -/
/-- what an operation that makes a slice anew leaves -/
def NewAt (ops : Array Oper) (i : Nat) (a : Act) (w : World) (a' : Act) (w' : World) : Prop := ∀ f o, ops[i]? = some o → freshOne ops f i = true → NewOk o a w a' w'
theorem fresh_spec {ops : Array Oper} {f k : Nat} {o : Oper} (h : freshOne ops f k = true) (ho : ops[k]? = some o) : freshKind o = true ∧ otherDst ops k = true ∧ ∀ t, headTmp o = some t → ∃ e ∈ o.after, Region.binds .any e = true ∧ dstAt ops e.on = some t ∧ ∃ f', freshOne ops f' e.on = true := by
  cases f with
  | zero => cases h
  | succ f =>
    unfold freshOne at h
    rw [ho] at h
    simp only [Bool.and_eq_true] at h
    obtain ⟨h1, h2, h3⟩ := h
    refine ⟨h1, h2, fun t ht => ?_⟩
    rw [ht] at h3
    dsimp only at h3
    obtain ⟨n, hn, he⟩ := Array.any_eq_true.1 h3
    simp only [Bool.and_eq_true] at he
    obtain ⟨e1, e2, e3⟩ := he
    refine ⟨_, Array.getElem_mem hn, e1, ?_, f, e3⟩
    cases hd : dstAt ops o.after[n].on with
    | none => rw [hd] at e2; cases e2
    | some d => rw [hd] at e2; exact congrArg some (Nat.eq_of_beq_eq_true e2)
theorem otherDst_ne {ops : Array Oper} {k j d : Nat} {oj : Oper} (h : otherDst ops k = true) (hj : ops[j]? = some oj) (hne : j ≠ k) (hd : dstAt ops k = some d) : oj.dst ≠ some d := fun e => by
  unfold otherDst at h
  have := List.all_eq_true.1 h j (List.mem_range.2 (Array.getElem?_eq_some_iff.1 hj).1)
  have hb : j.beq k = false := by
    cases hb : j.beq k
    · rfl
    · exact absurd (Nat.eq_of_beq_eq_true hb) hne
  have hdj : dstAt ops j = some d := by unfold dstAt; rw [hj]; exact e
  rw [hb, hdj, hd] at this
  simp [sameDst] at this
theorem dstAt_some {ops : Array Oper} {k : Nat} {o : Oper} (h : ops[k]? = some o) : dstAt ops k = o.dst := by unfold dstAt; rw [h]
theorem NewAt.back {ops : Array Oper} {i j : Nat} {oi : Oper} {v : Value} {a a' : Act} {w w' : World} (hi : ops[i]? = some oi) (hji : j ≠ i) (hnf : ∀ f, freshOne ops f i = false) (h : NewAt ops j (a.put oi.dst v) w (a'.put oi.dst v) w') : NewAt ops j a w a' w' := by
  intro f o ho hf B hB hs
  obtain ⟨_, h2, h3⟩ := fresh_spec hf ho
  have h := h f o ho hf B hB (fun t ht => by
    obtain ⟨e, _, _, e2, f', e3⟩ := h3 t ht
    obtain ⟨ok, hok⟩ : ∃ ok, ops[e.on]? = some ok := by
      cases hk : ops[e.on]? with
      | none => unfold dstAt at e2; rw [hk] at e2; cases e2
      | some ok => exact ⟨ok, rfl⟩
    obtain ⟨_, k2, _⟩ := fresh_spec e3 hok
    have hne : i ≠ e.on := fun e' => by rw [← e', hnf] at e3; cases e3
    rw [Act.eval_put (fun d hd hx => by injection hx with hx; subst hx; exact otherDst_ne k2 hi hne e2 hd)]
    exact hs t ht)
  refine ⟨h.1, fun d hd => ?_⟩
  have := h.2 d hd
  rwa [Act.eval_put (fun d' hd' hx => by injection hx with hx; subst hx; exact otherDst_ne h2 hi (Ne.symm hji) (by rw [dstAt_some ho]; exact hd) hd')] at this
theorem oper_keeps {o : Oper} {a : Act} {w : World} {K : Act → World → Prop} {Q : Exit → Act → World → Prop} (hh : o.wp P a w K Q) : o.wp P a w (fun a' w' => (∀ t, o.dst ≠ some t → a'.eval (.tmp t) = a.eval (.tmp t)) ∧ K a' w') Q := by
  have hput : ∀ (b : Act) (v : Value) (t : Nat), o.dst ≠ some t → (b.put o.dst v).eval (.tmp t) = b.eval (.tmp t) := fun b v t ht => Act.eval_put (fun d hd hx => by injection hx with hx; subst hx; exact ht hd)
  unfold Oper.wp at *
  generalize (execOp a.eval o).run P w = r at *
  cases r with
  | ok n w' =>
    cases n <;> simp only [Oper.upon] at hh ⊢ <;>
      first
        | exact ⟨fun t ht => hput _ _ t ht, hh⟩
        | exact Calls.mono hh (fun e w'' he => by cases e <;> first | exact ⟨fun t ht => hput _ _ t ht, he⟩ | exact he)
        | exact Rows.mono hh (fun _ _ he => ⟨fun t ht => hput _ _ t ht, he⟩)
  | halt x w' => cases x <;> simp only [Oper.upon] at hh ⊢ <;> exact hh
theorem wpOp_keeps {ops : Array Oper} {i : Nat} {a : Act} {w : World} {K : Act → World → Prop} {Q : Exit → Act → World → Prop} (hh : wpOp P ops Q i K a w) : wpOp P ops Q i (fun a' w' => (∀ t, dstAt ops i ≠ some t → a'.eval (.tmp t) = a.eval (.tmp t)) ∧ K a' w') a w := by
  unfold wpOp at *
  split
  · rename_i hn
    simp only [hn] at hh
    exact ⟨fun _ _ => rfl, hh⟩
  · rename_i o ho
    simp only [ho] at hh
    rw [dstAt_some ho]
    split
    · rename_i hw; simp only [hw, if_true] at hh; exact hh.imp oper_keeps id
    · rename_i hw
      simp only [hw] at hh
      exact ⟨fun t ht => Act.eval_put (fun d hd hx => by injection hx with hx; subst hx; exact ht hd), hh⟩
def wpAnyG (P : Program) (ops : Array Oper) (Q : Exit → Act → World → Prop) : Nat → Array Bool → Act → World → Prop
  | 0, listed, a, w => Region.ready .any ops listed = [] ∧ Q .normal a w
  | f + 1, listed, a, w => (Region.ready .any ops listed = [] → Q .normal a w) ∧
    ∀ i ∈ Region.ready .any ops listed, wpOp P ops Q i (fun a' w' => ((growAt ops i = true → Below w.heap.size w w') ∧ NewAt ops i a w a' w') ∧ wpAnyG P ops Q f (listed.setIfInBounds i true) a' w') a w
theorem wpAny_of_G {ops : Array Oper} {Q : Exit → Act → World → Prop} : ∀ (f : Nat) (listed : Array Bool) (a : Act) (w : World), wpAnyG P ops Q f listed a w → wpAny P .any ops Q f listed a w
  | 0, _, _, _, h => h
  | f + 1, _, _, _, h => ⟨h.1, fun i hi => wpOp_mono (fun a' w' h' => wpAny_of_G f _ a' w' h'.2) (h.2 i hi)⟩
def Closed (ops : Array Oper) (listed : Array Bool) : Prop := ∀ j oj, ops[j]? = some oj → listed.getD j false = true → ∀ e ∈ oj.after, Region.binds .any e = true → listed.getD e.on false = true
theorem getD_set_true {l : Array Bool} {i k : Nat} (h : l.getD k false = true) : (l.setIfInBounds i true).getD k false = true := by
  by_cases e : i = k
  · subst e
    have hlt : i < l.size := by
      rcases Nat.lt_or_ge i l.size with h' | h'
      · exact h'
      · rw [Array.getD_eq_getD_getElem?, Array.getElem?_eq_none h'] at h; cases h
    rw [Array.getD_eq_getD_getElem?, Array.getElem?_setIfInBounds_self_of_lt hlt]; rfl
  · rw [getD_set_ne false e]; exact h
theorem Closed.set {ops : Array Oper} {listed : Array Bool} {i : Nat} (h : Closed ops listed) (hi : i ∈ Region.ready .any ops listed) : Closed ops (listed.setIfInBounds i true) := by
  intro j oj hoj hl e he hb
  refine getD_set_true ?_
  by_cases hji : i = j
  · subst hji
    obtain ⟨_, oi, hoi, hall⟩ := mem_ready.1 hi
    obtain rfl : oj = oi := Option.some.inj (hoj.symm.trans hoi)
    exact hall e he hb
  · rw [getD_set_ne false hji] at hl
    exact h j oj hoj hl e he hb
theorem waiters_spec {ops : Array Oper} {listed : Array Bool} {i : Nat} (hc : Closed ops listed) : ∀ k ∈ waiters ops i, ∃ ok, ops[k]? = some ok ∧ ((∀ e ∈ ok.after, Region.binds .any e = true → listed.getD e.on false = true) → listed.getD i false = true) := by
  unfold waiters
  have key : ∀ (l : List Nat) (acc : List Nat), (∀ k ∈ acc, ∃ ok, ops[k]? = some ok ∧ ((∀ e ∈ ok.after, Region.binds .any e = true → listed.getD e.on false = true) → listed.getD i false = true)) →
      ∀ k ∈ l.foldl (fun acc j => match ops[j]? with
        | some oj => bif oj.after.any (fun e => Region.binds .any e && (e.on.beq i || acc.contains e.on)) then j :: acc else acc
        | none => acc) acc, ∃ ok, ops[k]? = some ok ∧ ((∀ e ∈ ok.after, Region.binds .any e = true → listed.getD e.on false = true) → listed.getD i false = true) := by
    intro l
    induction l with
    | nil => intro acc h; exact h
    | cons j l ih =>
      intro acc h
      rw [List.foldl_cons]
      refine ih _ ?_
      cases hj : ops[j]? with
      | none => exact h
      | some oj =>
        dsimp only
        cases hb : oj.after.any (fun e => Region.binds .any e && (e.on.beq i || acc.contains e.on))
        · exact h
        · intro k hk
          have hk : k ∈ j :: acc := hk
          rcases List.mem_cons.1 hk with rfl | hk
          · refine ⟨oj, hj, fun hall => ?_⟩
            obtain ⟨n, hn, he⟩ := Array.any_eq_true.1 hb
            rw [Bool.and_eq_true, Bool.or_eq_true] at he
            have hl := hall _ (Array.getElem_mem hn) he.1
            rcases he.2 with h1 | h1
            · rwa [Nat.eq_of_beq_eq_true h1] at hl
            · have hm : oj.after[n].on ∈ acc := by simpa using h1
              obtain ⟨om, hom, hh⟩ := h _ hm
              exact hh (fun e he hb => hc _ om hom hl e he hb)
          · exact h k hk
  exact key _ _ (fun k hk => by cases hk)
theorem wpAnyG_first {ops : Array Oper} {Q : Exit → Act → World → Prop} {i : Nat} {oi : Oper} {v : Value} (hi : ops[i]? = some oi) (hsel : ∀ (j : Nat) (o : Oper) cs b, ops[j]? = some o → o.op ≠ .select cs b)
    (hQ : ∀ c a w, Q (.panic c) (a.put oi.dst v) w → Q (.panic c) a w) (hnf : ∀ f, freshOne ops f i = false) :
    ∀ (f : Nat) (listed : Array Bool) (a : Act) (w : World), Closed ops listed →
      (∀ j oj, ops[j]? = some oj → j ≠ i → listed.getD j true = false → (∀ e ∈ oj.after, Region.binds .any e = true → e.on ≠ i) → oi.apart ops oj = true) →
      (∀ j, j < ops.size → j ≠ i → listed.getD j true = false → growAt ops j = true ∨ j ∈ waiters ops i) →
      i ∈ Region.ready .any ops listed → YieldsIf P ops (fun w' => Below w.heap.size w w') oi v a →
      wpAnyG P ops Q f (listed.setIfInBounds i true) (a.put oi.dst v) w → wpAnyG P ops Q (f + 1) listed a w := by
  intro f
  induction f with
  | zero =>
    intro listed a w _ _ _ hr hy H
    refine ⟨fun h => (by rw [h] at hr; cases hr), fun j hj => ?_⟩
    by_cases hji : j = i
    · subst hji; exact hy.wpOp hi (bel_refl w) ⟨⟨fun _ => bel_refl w, fun f o _ hf => by rw [hnf] at hf; cases hf⟩, H⟩
    · have := ready_mono hj hji
      rw [H.1] at this
      cases this
  | succ f ih =>
    intro listed a w hc hfree hgr hr hy H
    refine ⟨fun h => (by rw [h] at hr; cases hr), fun j hj => ?_⟩
    by_cases hji : j = i
    · subst hji; exact hy.wpOp hi (bel_refl w) ⟨⟨fun _ => bel_refl w, fun f o _ hf => by rw [hnf] at hf; cases hf⟩, H⟩
    · have h1 := H.2 j (ready_mono hj hji)
      obtain ⟨hjun, oj, hoj, hall⟩ := mem_ready.1 hj
      have hiun := (mem_ready.1 hr).1
      have hnot : ∀ e ∈ oj.after, Region.binds .any e = true → e.on ≠ i := fun e he hb heq => by
        have h1 := hall e he hb
        rw [heq, getD_both hiun] at h1
        cases h1
      have hjlt : j < ops.size := (Array.getElem?_eq_some_iff.1 hoj).1
      have hgj : growAt ops j = true := by
        rcases hgr j hjlt hji hjun with h | h
        · exact h
        · obtain ⟨ok, hok, hh⟩ := waiters_spec hc j h
          obtain rfl : ok = oj := Option.some.inj (hok.symm.trans hoj)
          have := hh hall
          rw [getD_both hiun] at this
          cases this
      have h2 := wpOp_putIf hoj (hfree j oj hoj hji hjun hnot) (fun cs b => hsel i oi cs b hi) (fun cs b => hsel j oj cs b hoj) hQ hy h1
      have hun : ∀ k, (listed.setIfInBounds j true).getD k true = false → listed.getD k true = false := fun k h => by
        by_cases hjk : j = k
        · subst hjk; exact hjun
        · rw [getD_set_ne true hjk] at h; exact h
      refine wpOp_mono (fun a' w' h3 => ⟨⟨h3.2.1.1, h3.2.1.2.back hi hji hnf⟩, ih (listed.setIfInBounds j true) a' w' (hc.set hj) (fun k ok hk hki hu hno => hfree k ok hk hki (hun k hu) hno) (fun k hk hki hu => hgr k hk hki (hun k hu)) (ready_mono hr (Ne.symm hji)) ?_ ?_⟩) h2
      · exact h3.1.imp (fun ⟨hw, hv⟩ => ⟨hw, fun w2 hw2 => hv w2 (bel_trans (h3.2.1.1 hgj) hw2)⟩) id
      · rw [Array.setIfInBounds_comm _ _ hji]
        exact h3.2.2
/-- slices made by operations that are listed lie above B -/
def Jn (ops : Array Oper) (listed : Array Bool) (B : Nat) (a : Act) : Prop := ∀ k f, freshOne ops f k = true → listed.getD k false = true → ∀ d, dstAt ops k = some d → Fresh B (a.eval (.tmp d))
theorem wpAnyG_firstN {ops : Array Oper} {Q : Exit → Act → World → Prop} {i : Nat} {oi : Oper} {v : Value} {B : Nat} (hi : ops[i]? = some oi) (hsel : ∀ (j : Nat) (o : Oper) cs b, ops[j]? = some o → o.op ≠ .select cs b)
    (hQ : ∀ c a w, Q (.panic c) (a.put oi.dst v) w → Q (.panic c) a w) (hnf : ∀ f, freshOne ops f i = false) :
    ∀ (f : Nat) (listed : Array Bool) (a : Act) (w : World), Closed ops listed → B ≤ w.heap.size → Jn ops listed B a →
      (∀ j oj, ops[j]? = some oj → j ≠ i → listed.getD j true = false → (∀ e ∈ oj.after, Region.binds .any e = true → e.on ≠ i) → oi.apart ops oj = true) →
      (∀ j, j < ops.size → j ≠ i → listed.getD j true = false → growN ops j = true ∨ j ∈ waiters ops i) →
      i ∈ Region.ready .any ops listed → YieldsIf P ops (fun w' => Below B w w') oi v a →
      wpAnyG P ops Q f (listed.setIfInBounds i true) (a.put oi.dst v) w → wpAnyG P ops Q (f + 1) listed a w := by
  intro f
  induction f with
  | zero =>
    intro listed a w _ _ _ _ _ hr hy H
    refine ⟨fun h => (by rw [h] at hr; cases hr), fun j hj => ?_⟩
    by_cases hji : j = i
    · subst hji; exact hy.wpOp hi (Below.refl B w) ⟨⟨fun _ => bel_refl w, fun f o _ hf => by rw [hnf] at hf; cases hf⟩, H⟩
    · have := ready_mono hj hji
      rw [H.1] at this
      cases this
  | succ f ih =>
    intro listed a w hc hB hJ hfree hgr hr hy H
    refine ⟨fun h => (by rw [h] at hr; cases hr), fun j hj => ?_⟩
    by_cases hji : j = i
    · subst hji; exact hy.wpOp hi (Below.refl B w) ⟨⟨fun _ => bel_refl w, fun f o _ hf => by rw [hnf] at hf; cases hf⟩, H⟩
    · have h1 := wpOp_keeps (H.2 j (ready_mono hj hji))
      obtain ⟨hjun, oj, hoj, hall⟩ := mem_ready.1 hj
      have hiun := (mem_ready.1 hr).1
      have hnot : ∀ e ∈ oj.after, Region.binds .any e = true → e.on ≠ i := fun e he hb heq => by
        have h1 := hall e he hb
        rw [heq, getD_both hiun] at h1
        cases h1
      have hjlt : j < ops.size := (Array.getElem?_eq_some_iff.1 hoj).1
      have hgj : growN ops j = true := by
        rcases hgr j hjlt hji hjun with h | h
        · exact h
        · obtain ⟨ok, hok, hh⟩ := waiters_spec hc j h
          obtain rfl : ok = oj := Option.some.inj (hok.symm.trans hoj)
          have := hh hall
          rw [getD_both hiun] at this
          cases this
      have h2 := wpOp_putIf hoj (hfree j oj hoj hji hjun hnot) (fun cs b => hsel i oi cs b hi) (fun cs b => hsel j oj cs b hoj) hQ hy h1
      have hun : ∀ k, (listed.setIfInBounds j true).getD k true = false → listed.getD k true = false := fun k h => by
        by_cases hjk : j = k
        · subst hjk; exact hjun
        · rw [getD_set_ne true hjk] at h; exact h
      have hhead : ∀ f, freshOne ops f j = true → ∀ t, headTmp oj = some t → Fresh B (a.eval (.tmp t)) := fun f hf t ht => by
        obtain ⟨_, _, h3⟩ := fresh_spec hf hoj
        obtain ⟨e, he, e1, e2, f', e3⟩ := h3 t ht
        exact hJ e.on f' e3 (hall e he e1) t e2
      refine wpOp_mono (fun a' w' h3 => ?_) h2
      obtain ⟨y1, y2, ⟨y3, y4⟩, y5⟩ := h3
      have hnew := y4.back hi hji hnf
      have hbel : Below B w w' := by
        unfold growN at hgj
        rw [Bool.or_eq_true] at hgj
        rcases hgj with h | h
        · exact (y3 h).mono hB
        · exact (hnew _ oj hoj h B hB (hhead _ h)).1
      refine ⟨⟨y3, hnew⟩, ih (listed.setIfInBounds j true) a' w' (hc.set hj) (Nat.le_trans hB hbel.size) (fun k f' hk hl d hd => ?_) (fun k ok hk hki hu hno => hfree k ok hk hki (hun k hu) hno) (fun k hk hki hu => hgr k hk hki (hun k hu)) (ready_mono hr (Ne.symm hji)) ?_ ?_⟩
      · by_cases hkj : j = k
        · subst hkj
          exact (hnew _ oj hoj hk B hB (hhead _ hk)).2 d (by rw [← dstAt_some hoj]; exact hd)
        · rw [getD_set_ne false hkj] at hl
          have h0 := hJ k f' hk hl d hd
          obtain ⟨ok, hok⟩ : ∃ ok, ops[k]? = some ok := by
            cases hk' : ops[k]? with
            | none => unfold dstAt at hd; rw [hk'] at hd; cases hd
            | some ok => exact ⟨ok, rfl⟩
          obtain ⟨_, k2, _⟩ := fresh_spec hk hok
          have hik : i ≠ k := fun e => by rw [← e, hnf] at hk; cases hk
          have e1 := y2 d (by rw [dstAt_some hoj]; exact otherDst_ne k2 hoj hkj hd)
          have hoi : ∀ b : Act, (b.put oi.dst v).eval (.tmp d) = b.eval (.tmp d) := fun b => Act.eval_put (fun d' hd' hx => by injection hx with hx; subst hx; exact otherDst_ne k2 hi hik hd hd')
          rw [hoi, hoi] at e1
          rw [e1]; exact h0
      · exact y1.imp (fun ⟨hw, hv⟩ => ⟨hw, fun w2 hw2 => hv w2 (hbel.trans hw2)⟩) id
      · rw [Array.setIfInBounds_comm _ _ hji]
        exact y5
theorem rop_not_fresh {ops : Array Oper} {i : Nat} {oi : Oper} (hi : ops[i]? = some oi) (h : ropOp oi.op = true) (f : Nat) : freshOne ops f i = false := by
  cases hf : freshOne ops f i
  · rfl
  · have hk := (fresh_spec hf hi).1
    unfold freshKind at hk
    split at hk
    · rename_i ho; rw [ho] at h; cases h
    · rename_i ho; rw [ho] at h; cases h
    · cases hk
theorem vop_rop {o : Oper} {K : St → Prop} (h : ropOp o.op = true) (hv : vop P cons o st K) : ∃ c v, rop P st o.op = .ok c v ∧ (bif putOk st o.dst then asks o.op c (K (st.put o.dst v)) else False) := by
  unfold vop at hv
  split at hv
  · rename_i ho; rw [ho] at h; exact no_grow rfl h
  · rename_i ho; rw [ho] at h; exact no_grow rfl h
  · rename_i ho; rw [ho] at h; exact no_grow rfl h
  · rename_i ho; rw [ho] at h; exact no_grow rfl h
  · rename_i ho; rw [ho] at h; exact no_grow rfl h
  · rename_i ho; rw [ho] at h; exact no_grow rfl h
  · rename_i ho; rw [ho] at h; exact no_grow rfl h
  · rename_i ho; rw [ho] at h; exact no_grow rfl h
  · rename_i ho; rw [ho] at h; exact no_grow rfl h
  · rename_i ho; rw [ho] at h; exact no_grow rfl h
  · rename_i ho; rw [ho] at h; exact no_grow rfl h
  · rename_i ho; rw [ho] at h; exact no_grow rfl h
  · split at hv
    · rename_i c v hr; exact ⟨c, v, hr, hv⟩
    · exact hv.elim
theorem vop_yields {ops : Array Oper} {o : Oper} {K : St → Prop} (h : ropOp o.op = true) (hw : Region.wanted o (yielded ops a.tmps) = true) (hR : Rel w0 κ st a w) (hv : vop P cons o st K) :
    ∃ u st', YieldsIf P ops (fun w' => Below w.heap.size w w') o u a ∧ Rel w0 κ st' (a.put o.dst u) w ∧ K st' := by
  obtain ⟨c, v, hr, hv⟩ := vop_rop h hv
  cases hd : putOk st o.dst
  · rw [hd] at hv; exact hv.elim
  · rw [hd] at hv
    obtain ⟨hc, hK⟩ := asks_out hr hv
    obtain ⟨u, hu, hy⟩ := rop_sound hR hr hc
    exact ⟨u, _, .inl ⟨hw, fun w' hb => hy w' hb⟩, hR.put hd hu, hK⟩
theorem vgo_yields {ops : List Oper} {o : Oper} {K : St → Prop} (h : ropOp o.op = true) (hR : Rel w0 κ st a w) (hv : vgo (vop P cons) o st (wayOf ops st o) K) :
    ∃ u st', YieldsIf P ops.toArray (fun w' => Below w.heap.size w w') o u a ∧ Rel w0 κ st' (a.put o.dst u) w ∧ K st' := by
  have hw := wayOf_spec hR ops o
  cases hway : wayOf ops st o with
  | run => rw [hway] at hw hv; exact vop_yields h hw hR hv
  | skip =>
    rw [hway] at hw hv
    have hv : (bif putOk st o.dst then K (st.put o.dst (.c (.one .undef))) else False) := hv
    cases hd : putOk st o.dst
    · rw [hd] at hv; exact hv.elim
    · rw [hd] at hv
      exact ⟨Go.undef, _, .inr ⟨hw, rfl⟩, hR.put hd (v := .c (.one .undef)) rfl, hv⟩
  | part t b want =>
    rw [hway] at hw hv
    obtain ⟨hw, hb⟩ := hw
    have hv : (bif putOk st o.dst then
      bif b then (bif want then vop P cons o (st.set t (bool true)) K else K ((st.set t (bool true)).put o.dst (.c (.one .undef))))
      else (bif want then K ((st.set t (bool false)).put o.dst (.c (.one .undef))) else vop P cons o (st.set t (bool false)) K)
      else False) := hv
    cases hd : putOk st o.dst
    · rw [hd] at hv; exact hv.elim
    · rw [hd] at hv
      have hR' : Rel w0 κ (st.set t (bool b)) a w := hR.know (by rw [hb]; rfl)
      have hd' : putOk (st.set t (bool b)) o.dst = true := hd
      cases b <;> cases want
      · exact vop_yields h hw hR' hv
      · exact ⟨Go.undef, _, .inr ⟨hw, rfl⟩, hR'.put hd' (v := .c (.one .undef)) rfl, hv⟩
      · exact ⟨Go.undef, _, .inr ⟨hw, rfl⟩, hR'.put hd' (v := .c (.one .undef)) rfl, hv⟩
      · exact vop_yields h hw hR' hv
  | no => rw [hway] at hv; exact hv.elim
theorem vgo_wp (hcons : ∀ c ∈ cons, c.Holds P) {ops : List Oper} {o : Oper} {i : Nat} (hi : ops.toArray[i]? = some o) {K : St → Prop} {next : Act → World → Prop} {Q : Exit → Act → World → Prop} (hR : Rel w0 κ st a w) (hv : vgo (vop P cons) o st (wayOf ops st o) K) (hF : Fits w0 K next) :
    wpOp P ops.toArray Q i (fun a' w' => ((growAt ops.toArray i = true → Below w.heap.size w w') ∧ NewAt ops.toArray i a w a' w') ∧ next a' w') a w := by
  have hg : growAt ops.toArray i = growOp o.op := by unfold growAt; rw [hi]
  rw [hg]
  have hrun : ∀ {st : St}, Rel w0 κ st a w → vop P cons o st K → o.wp P a w (fun a' w' => ((growOp o.op = true → Below w.heap.size w w') ∧ NewAt ops.toArray i a w a' w') ∧ next a' w') Q := fun hR hv => by
    cases hk : freshKind o
    · exact Oper.wp_mono (fun a' w' h => ⟨⟨h.1, fun f o' ho' hf => by
        obtain rfl : o = o' := Option.some.inj (hi.symm.trans ho')
        rw [(fresh_spec hf hi).1] at hk; cases hk⟩, h.2⟩) (vop_soundG hcons hR hv hF)
    · exact Oper.wp_mono (fun a' w' h => ⟨⟨h.1.1, fun f o' ho' hf => by
        obtain rfl : o = o' := Option.some.inj (hi.symm.trans ho')
        exact h.1.2⟩, h.2⟩) (vop_soundN hcons hk hR hv hF)
  have hskip : NewAt ops.toArray i a w (a.put o.dst Go.undef) w := fun f o' ho' hf B hB _ => by
    obtain rfl : o = o' := Option.some.inj (hi.symm.trans ho')
    refine ⟨Below.refl B w, fun d hd => ?_⟩
    rw [hd]
    exact fresh_put (fresh_undef B) a d
  have hw := wayOf_spec hR ops o
  unfold wpOp
  simp only [hi]
  cases hway : wayOf ops st o with
  | run =>
    rw [hway] at hw hv
    have hw : Region.wanted o (yielded ops.toArray a.tmps) = true := hw
    rw [if_pos hw]
    exact .inl (hrun hR hv)
  | skip =>
    rw [hway] at hw hv
    have hw : Region.wanted o (yielded ops.toArray a.tmps) = false := hw
    rw [if_neg (by rw [hw]; decide)]
    have hv : (bif putOk st o.dst then K (st.put o.dst (.c (.one .undef))) else False) := hv
    cases hd : putOk st o.dst
    · rw [hd] at hv; exact hv.elim
    · rw [hd] at hv
      exact ⟨⟨fun _ => bel_refl w, hskip⟩, hF κ _ _ _ hv (hR.put hd rfl)⟩
  | part t b want =>
    rw [hway] at hw hv
    obtain ⟨hw, hb⟩ := hw
    have hv : (bif putOk st o.dst then
      bif b then (bif want then vop P cons o (st.set t (bool true)) K else K ((st.set t (bool true)).put o.dst (.c (.one .undef))))
      else (bif want then K ((st.set t (bool false)).put o.dst (.c (.one .undef))) else vop P cons o (st.set t (bool false)) K)
      else False) := hv
    cases hd : putOk st o.dst
    · rw [hd] at hv; exact hv.elim
    · rw [hd] at hv
      have hR' : Rel w0 κ (st.set t (bool b)) a w := hR.know (by rw [hb]; rfl)
      have hd' : putOk (st.set t (bool b)) o.dst = true := hd
      cases b <;> cases want
      · have hw : Region.wanted o (yielded ops.toArray a.tmps) = true := hw
        rw [if_pos hw]; exact .inl (hrun hR' hv)
      · have hw : Region.wanted o (yielded ops.toArray a.tmps) = false := hw
        rw [if_neg (by rw [hw]; decide)]; exact ⟨⟨fun _ => bel_refl w, hskip⟩, hF κ _ _ _ hv (hR'.put hd' rfl)⟩
      · have hw : Region.wanted o (yielded ops.toArray a.tmps) = false := hw
        rw [if_neg (by rw [hw]; decide)]; exact ⟨⟨fun _ => bel_refl w, hskip⟩, hF κ _ _ _ hv (hR'.put hd' rfl)⟩
      · have hw : Region.wanted o (yielded ops.toArray a.tmps) = true := hw
        rw [if_pos hw]; exact .inl (hrun hR' hv)
  | no => rw [hway] at hv; exact hv.elim
theorem schedStep_spec {ops : Array Oper} {listed : Array Bool} {i : Nat} {b : Bool} (h : schedStep ops listed = some (i, b)) : (i ∈ Region.ready .any ops listed ∧ canTake ops listed i = true) ∨ Region.ready .any ops listed = [i] := by
  unfold schedStep at h
  split at h
  · rename_i k hk
    injection h with h; injection h with h1 _; subst h1
    exact .inl ⟨List.mem_of_find?_eq_some hk, List.find?_some hk⟩
  · split at h
    · rename_i k hk
      injection h with h; injection h with h1 _; subst h1
      exact .inr hk
    · cases h
theorem sched_sound (hcons : ∀ c ∈ cons, c.Holds P) {l : List Oper} (hsel : Region.noSelect l.toArray = true) {K : St → Prop} {Q : Exit → Act → World → Prop} (hQ : ∀ c a w, ¬ Q (.panic c) a w) (hK : Fits w0 K (Q .normal)) :
    ∀ (f : Nat) (listed : Array Bool) (ord : List Nat) (κ : Cx) (st : St) (a : Act) (w : World), Closed l.toArray listed → schedFrom l.toArray f listed = some ord → vops (vop P cons) l (pick l ord) st K → Rel w0 κ st a w → wpAnyG P l.toArray Q f listed a w
  | 0, listed, ord, κ, st, a, w, hc, hs, h, hR => by
    unfold schedFrom at hs
    split at hs
    · rename_i hr
      injection hs with hs; subst hs
      exact ⟨hr, hK κ st a w h hR⟩
    · cases hs
  | f + 1, listed, ord, κ, st, a, w, hc, hs, h, hR => by
    unfold schedFrom at hs
    split at hs
    · rename_i hr
      injection hs with hs; subst hs
      exact ⟨fun _ => hK κ st a w h hR, fun i hi => by rw [hr] at hi; cases hi⟩
    · rename_i hne
      split at hs
      · rename_i i b hst
        split at hs
        · rename_i r hrest
          injection hs with hs; subst hs
          have hir : i ∈ Region.ready .any l.toArray listed := by
            rcases schedStep_spec hst with h | h
            · exact h.1
            · rw [h]; exact List.mem_singleton.2 rfl
          obtain ⟨hiun, oi, hoi, _⟩ := mem_ready.1 hir
          have hoi' : l[i]? = some oi := by simpa using hoi
          have hp : pick l (i :: r) = oi :: pick l r := by rw [pick, hoi']
          rw [hp] at h
          have h : vgo (vop P cons) oi st (wayOf l st oi) (fun st' => vops (vop P cons) l (pick l r) st' K) := h
          have ih : Fits w0 (fun st' => vops (vop P cons) l (pick l r) st' K) (wpAnyG P l.toArray Q f (listed.setIfInBounds i true)) := fun κ st a w h hR =>
            sched_sound hcons hsel hQ hK f _ r κ st a w (hc.set hir) hrest h hR
          rcases schedStep_spec hst with ⟨_, ht⟩ | honly
          · unfold canTake at ht
            rw [hoi] at ht
            simp only [Bool.and_eq_true] at ht
            obtain ⟨h1, h2, h3⟩ := ht
            obtain ⟨u, st', hy, hR', hK'⟩ := vgo_yields h1 hR h
            refine wpAnyG_first hoi (Region.noSelect_spec hsel) (fun c a w hq => absurd hq (hQ c _ w)) (rop_not_fresh hoi h1) f listed a w hc (Region.free_spec hoi h2) (fun j hj hji hun => ?_) hir hy (ih κ st' _ w hK' hR')
            have := List.all_eq_true.1 h3 j (List.mem_range.2 hj)
            rw [hun, Bool.false_or, Bool.or_eq_true, Bool.or_eq_true] at this
            rcases this with h | h | h
            · exact absurd (Nat.eq_of_beq_eq_true h) hji
            · exact .inl h
            · exact .inr (by simpa using h)
          · refine ⟨fun h0 => (by rw [honly] at h0; cases h0), fun j hj => ?_⟩
            rw [honly] at hj
            obtain rfl := List.mem_singleton.1 hj
            exact vgo_wp hcons hoi hR h ih
        · cases hs
      · cases hs

theorem allP_spec {p : Nat → Prop} : ∀ {l : List Nat}, allP l p → ∀ i ∈ l, p i
  | [], _, i, hi => by cases hi
  | [k], h, i, hi => by obtain rfl := List.mem_singleton.1 hi; exact h
  | k :: u :: r, h, i, hi => by
    obtain ⟨h1, h2⟩ : p k ∧ allP (u :: r) p := h
    rcases List.mem_cons.1 hi with rfl | hi
    · exact h1
    · exact allP_spec h2 i hi
theorem vany_sound (hcons : ∀ c ∈ cons, c.Holds P) {l : List Oper} (hsel : Region.noSelect l.toArray = true) {K : St → Prop} {Q : Exit → Act → World → Prop} (hQ : ∀ c a w, ¬ Q (.panic c) a w) (hK : Fits w0 K (Q .normal)) :
    ∀ (f : Nat) (listed : Array Bool) (κ : Cx) (st : St) (a : Act) (w : World), Closed l.toArray listed → vany (vop P cons) l f listed st K → Rel w0 κ st a w → wpAnyG P l.toArray Q f listed a w
  | 0, listed, κ, st, a, w, hc, h, hR => by
    unfold vany at h
    split at h
    · rename_i hr
      exact ⟨hr, hK κ st a w h hR⟩
    · exact h.elim
  | f + 1, listed, κ, st, a, w, hc, h, hR => by
    unfold vany at h
    split at h
    · rename_i hr
      exact ⟨fun _ => hK κ st a w h hR, fun i hi => by rw [hr] at hi; cases hi⟩
    · rename_i hne
      have ih : ∀ i, i ∈ Region.ready .any l.toArray listed → Fits w0 (fun st' => vany (vop P cons) l f (listed.setIfInBounds i true) st' K) (wpAnyG P l.toArray Q f (listed.setIfInBounds i true)) := fun i hir κ st a w h hR =>
        vany_sound hcons hsel hQ hK f _ κ st a w (hc.set hir) h hR
      split at h
      · rename_i i hst
        have hir := List.mem_of_find?_eq_some hst
        have ht := List.find?_some hst
        split at h
        · rename_i oi hoi
          unfold canTake at ht
          rw [hoi] at ht
          simp only [Bool.and_eq_true] at ht
          obtain ⟨h1, h2, h3⟩ := ht
          obtain ⟨hiun, _, _, _⟩ := mem_ready.1 hir
          obtain ⟨u, st', hy, hR', hK'⟩ := vgo_yields h1 hR h
          refine wpAnyG_first hoi (Region.noSelect_spec hsel) (fun c a w hq => absurd hq (hQ c _ w)) (rop_not_fresh hoi h1) f listed a w hc (Region.free_spec hoi h2) (fun j hj hji hun => ?_) hir hy (ih i hir κ st' _ w hK' hR')
          have := List.all_eq_true.1 h3 j (List.mem_range.2 hj)
          rw [hun, Bool.false_or, Bool.or_eq_true, Bool.or_eq_true] at this
          rcases this with h | h | h
          · exact absurd (Nat.eq_of_beq_eq_true h) hji
          · exact .inl h
          · exact .inr (by simpa using h)
        · exact h.elim
      · refine ⟨fun h0 => absurd h0 (by first | exact hne | exact fun e => hne e), fun i hi => ?_⟩
        have hv := allP_spec h i hi
        split at hv
        · rename_i oi hoi
          exact vgo_wp hcons hoi hR hv (ih i hi)
        · exact hv.elim
theorem vanyN_sound (hcons : ∀ c ∈ cons, c.Holds P) {l : List Oper} (hsel : Region.noSelect l.toArray = true) {K : St → Prop} {Q : Exit → Act → World → Prop} (hQ : ∀ c a w, ¬ Q (.panic c) a w) (hK : Fits w0 K (Q .normal)) :
    ∀ (f : Nat) (listed : Array Bool) (κ : Cx) (st : St) (a : Act) (w : World), Closed l.toArray listed → (∀ k f', freshOne l.toArray f' k = true → listed.getD k false = false) → vanyN (vop P cons) l f listed st K → Rel w0 κ st a w → wpAnyG P l.toArray Q f listed a w
  | 0, listed, κ, st, a, w, hc, hL, h, hR => vany_sound hcons hsel hQ hK 0 listed κ st a w hc h hR
  | f + 1, listed, κ, st, a, w, hc, hL, h, hR => by
    unfold vanyN at h
    split at h
    · rename_i i hst
      have hir := List.mem_of_find?_eq_some hst
      have ht := List.find?_some hst
      split at h
      · rename_i oi hoi
        unfold canTakeN at ht
        rw [hoi] at ht
        simp only [Bool.and_eq_true] at ht
        obtain ⟨h1, h2, h3⟩ := ht
        have hnf := rop_not_fresh hoi h1
        obtain ⟨u, st', hy, hR', hK'⟩ := vgo_yields h1 hR h
        refine wpAnyG_firstN (B := w.heap.size) hoi (Region.noSelect_spec hsel) (fun c a w hq => absurd hq (hQ c _ w)) hnf f listed a w hc (Nat.le_refl _) (fun k f' hk hl => by rw [hL k f' hk] at hl; cases hl) (Region.free_spec hoi h2) (fun j hj hji hun => ?_) hir hy (vanyN_sound hcons hsel hQ hK f _ κ st' _ w (hc.set hir) (fun k f' hk => ?_) hK' hR')
        · have := List.all_eq_true.1 h3 j (List.mem_range.2 hj)
          rw [hun, Bool.false_or, Bool.or_eq_true, Bool.or_eq_true] at this
          rcases this with h | h | h
          · exact absurd (Nat.eq_of_beq_eq_true h) hji
          · exact .inl h
          · exact .inr (by simpa using h)
        · have hik : i ≠ k := fun e => by rw [← e, hnf] at hk; cases hk
          rw [getD_set_ne false hik]
          exact hL k f' hk
      · exact h.elim
    · exact vany_sound hcons hsel hQ hK (f + 1) listed κ st a w hc h hR

theorem vregion_sound (hm : P.follows .mixedOrders = true) (hcons : ∀ c ∈ cons, c.Holds P) {H : Inl} (hH : InlOk P H) {KP : Cell → St → Prop} {id : Nat} {l : List Oper} {draw : Bool} {K : St → Prop} {Q : Exit → Act → World → Prop} (hP : FitsP w0 KP Q) (h : vregion P cons H KP l draw st K) (hR : Rel w0 κ st a w) (hK : Fits w0 K (Q .normal)) :
    (Code.region id l.toArray draw).wp P Q a w := by
  unfold vregion at h
  have hQ : ∀ (o : Oper) (κ : Cx) (st : St) (a : Act) (K : St → Prop) (next : Act → Prop), vopQ P cons o st K → Rel w0 κ st a w → FitsQ w0 w K next → o.quiet P a (fun w' => Below w.heap.size w w') next :=
    fun o κ st a K next h hR hF => vopQ_sound hcons hR h hF
  have hlater : ∀ {K : St → Prop} {N : Act → World → Prop}, Fits w0 K N → FitsQ w0 w K (fun a' => ∀ w', Below w.heap.size w w' → N a' w') := fun hF κ st a h hR w' hb => hF _ _ _ _ h (hR.later hb)
  cases draw
  · exact wp_region_lit (vops_list (vopI_sound hcons hH hP) l hK l κ st a w h hR)
  · dsimp only [cond_true] at h
    have hC : Below w.heap.size w { w with drawn := w.drawn + 1 } := bel_drew (bel_refl w)
    cases hB : Region.lexB .any l.toArray && (firstLoud cons l).beq l.length
    · rw [hB] at h
      cases hB2 : Region.lexTailB .any l.toArray (firstLoud cons l)
      · rw [hB2] at h
        cases hB3 : lexMidB .any l.toArray (firstLoud cons l)
        · rw [hB3] at h
          dsimp only [cond_false] at h
          split at h
          · rename_i ord hord
            unfold sched at hord
            cases hsel : Region.noSelect l.toArray
            · rw [hsel] at hord; cases hord
            · rw [hsel] at hord
              have hord : schedFrom l.toArray l.toArray.size (Array.replicate l.toArray.size false) = some ord := hord
              refine Code.wp_mono (Q := fun e a w => match e with | .normal => Q .normal a w | _ => False) (fun e a w h => by cases e <;> first | exact h | exact h.elim) (wp_region_any hm (wpAny_of_G _ _ _ _ ?_))
              exact sched_sound hcons (Q := fun e a w => match e with | .normal => Q .normal a w | _ => False) hsel (fun c a w h => h) hK _ _ ord κ st a _ (fun j oj _ hl => by rw [getD_replicate_false] at hl; cases hl) hord h hR.drew
          · cases hsel : Region.noSelect l.toArray && Nat.ble l.length 30
            · rw [hsel] at h; exact h.elim
            · rw [hsel] at h
              rw [Bool.and_eq_true] at hsel
              have h : vanyN (vop P cons) l l.length (Array.replicate l.length false) st K := h
              refine Code.wp_mono (Q := fun e a w => match e with | .normal => Q .normal a w | _ => False) (fun e a w h => by cases e <;> first | exact h | exact h.elim) (wp_region_any hm (wpAny_of_G _ _ _ _ ?_))
              exact vanyN_sound hcons (Q := fun e a w => match e with | .normal => Q .normal a w | _ => False) hsel.1 (fun c a w h => h) hK _ _ κ st a _ (fun j oj _ hl => by rw [getD_replicate_false] at hl; cases hl) (fun k f' _ => getD_replicate_false _ _) h hR.drew
        · rw [hB3] at h
          refine wp_region_quiet_mid (C := fun w' => Below w.heap.size w w') (firstLoud cons l) hm hB3 hC ?_
          refine vops_quiet l hQ (hlater (N := fun a' w' => wpList P l.toArray (Exit.then (fun a2 w2 => wpQuiet P l.toArray (fun x => x = w2) (fun a3 => Q .normal a3 w2) (l.drop (firstLoud cons l + 1)) a2) Q) ((l.drop (firstLoud cons l)).take 1) a' w') ?_) _ κ st a h hR
          intro κ1 st1 a1 w1 h1 hR1
          refine vops_list (fun o κ st a w K next h hR hF => vop_sound hcons hR h hF) l (Q := Exit.then _ Q) ?_ _ κ1 st1 a1 w1 h1 hR1
          intro κ2 st2 a2 w2 h2 hR2
          exact vops_quiet l (C := fun x => x = w2) (fun o κ st a K next h hR hF => vopQ_none h hR hF) (fun κ st a h hR => hK _ _ _ _ h hR) _ κ2 st2 a2 h2 hR2
      · rw [hB2] at h
        refine wp_region_quiet_tail (C := fun w' => Below w.heap.size w w') (firstLoud cons l) hm hB2 hC ?_
        refine vops_quiet l hQ (hlater (N := fun a' w' => wpList P l.toArray Q (l.drop (firstLoud cons l)) a' w') ?_) _ κ st a h hR
        intro κ1 st1 a1 w1 h1 hR1
        exact vops_list (fun o κ st a w K next h hR hF => vop_sound hcons hR h hF) l hK _ κ1 st1 a1 w1 h1 hR1
    · rw [hB] at h
      rw [Bool.and_eq_true] at hB
      refine wp_region_quiet (C := fun w' => Below w.heap.size w w') hm hB.1 hC ?_
      simpa using vops_quiet l hQ (hlater hK) _ κ st a h hR
end
end R
end Go.Proofs.YtldnfdghkdibmaaGreatDoor

/-
  Branches, blocks, loops, whole functions: what 'vc' asks is enough.
-/
set_option linter.unusedVariables false
namespace Go.Proofs.YtldnfdghkdibmaaGreatDoor
open Go.RowKit
namespace R
section
variable {w0 : Base} {w w' : World} {κ : Cx} {st : St} {a : Act} {P : Program} {cons : List Con} {anns : List (Nat × Ann)}

theorem deq_cast {k k' : Kd} {h : k = k'} {p : k.Pay} {q : k'.Pay} (e : h ▸ p = q) {v : Value} {S : Nat → Prop} (hr : k.Rep w S p v) : k'.Rep w S q v := by
  subst h; subst e; exact hr
/-- the rows that are not there are nil -/
def Cx.nils (κ : Cx) (st : St) : Cx := { κ with ρ := fun r => match st.row r with | some _ => κ.ρ r | none => .slice none 0 0 }
theorem samePs_spec : ∀ {ps qs : List (Nat × Nat)}, samePs ps qs = true → ps = qs
  | [], [], _ => rfl
  | [], _ :: _, h => by cases h
  | _ :: _, [], h => by cases h
  | p :: r, q :: l, h => by
    have h : (p.1.beq q.1 && (p.2.beq q.2 && samePs r l)) = true := h
    simp only [Bool.and_eq_true] at h
    rw [samePs_spec h.2.2, Prod.ext (Nat.eq_of_beq_eq_true h.1) (Nat.eq_of_beq_eq_true h.2.1)]
theorem leCell_sound {c c' : Cell} (h : leCell st c c') {v : Value} (hv : c.Rep κ w v) : c'.Rep (κ.nils st) w v := by
  unfold leCell at h
  split at h
  · trivial
  · exact hv
  · exact hv
  · rename_i fs xs
    obtain rfl : v = .slice none 0 0 := hv
    subst h
    exact ⟨none, 0, rfl, Nat.le_refl _, fun h => absurd h (Nat.lt_irrefl _)⟩
  · rename_i r
    obtain rfl : v = .slice none 0 0 := hv
    split at h
    · rename_i hr
      refine ⟨?_, rfl⟩
      show _ = match st.row r with | some _ => κ.ρ r | none => .slice none 0 0
      rw [hr]
    · exact h.elim
  · rename_i r r'
    cases hb : r.beq r'
    · rw [hb] at h; exact h.elim
    · rw [hb] at h
      obtain rfl := Nat.eq_of_beq_eq_true hb
      obtain ⟨h1, h2⟩ := hv
      refine ⟨?_, h2⟩
      show _ = match st.row r with | some _ => κ.ρ r | none => .slice none 0 0
      cases hr : st.row r with
      | none => rw [hr] at h; exact h.elim
      | some x => exact h1
  · rename_i k p k' p'
    split at h
    · rename_i e _
      exact deq_cast h hv
    · exact h.elim
  · rename_i b o b' o'
    cases hb : b.beq b' && o.beq o'
    · rw [hb] at h; exact h.elim
    · rw [Bool.and_eq_true] at hb
      rw [← Nat.eq_of_beq_eq_true hb.1, ← Nat.eq_of_beq_eq_true hb.2]
      exact hv
  · rename_i f f'
    cases hb : f.beq f'
    · rw [hb] at h; exact h.elim
    · rw [← Nat.eq_of_beq_eq_true hb]; exact hv
  · exact hv
  · rename_i m m'
    cases hb : m.beq m'
    · rw [hb] at h; exact h.elim
    · rw [← Nat.eq_of_beq_eq_true hb]; exact hv
  · exact hv
  · rename_i kk k kk' k'
    split at h
    · rename_i e _
      subst e
      have h : k = k' := h
      subst h
      exact hv
    · exact h.elim
  · rename_i i i'
    cases hb : i.beq i'
    · rw [hb] at h; exact h.elim
    · rw [← Nat.eq_of_beq_eq_true hb]; exact hv
  · rename_i f k ps f' k' ps'
    cases hb : f.beq f' && (k.beq k' && samePs ps ps')
    · rw [hb] at h; exact h.elim
    · simp only [Bool.and_eq_true] at hb
      rw [← Nat.eq_of_beq_eq_true hb.1, ← Nat.eq_of_beq_eq_true hb.2.1, ← samePs_spec hb.2.2]
      exact hv
  · exact h.elim
theorem leCells_sound : ∀ {cs cs' : List Cell}, leCells st cs cs' → ∀ {vs : List Value}, CellsRep κ w cs vs.toArray → CellsRep (κ.nils st) w cs' vs.toArray
  | [], [], h, vs, hv => by
    refine ⟨hv.1, fun i c hc => ?_, hv.2.2⟩
    cases hc
  | [], _ :: _, h, vs, hv => h.elim
  | _ :: _, [], h, vs, hv => h.elim
  | c :: r, c' :: r', h, vs, hv => by
    obtain ⟨h1, h2⟩ : leCell st c c' ∧ leCells st r r' := h
    cases vs with
    | nil => have := hv.1; simp at this
    | cons v vs =>
      have hv' : CellsRep κ w r vs.toArray := ⟨by have := hv.1; simpa using this, fun i c hc => by
        obtain ⟨y, hy, hr⟩ := hv.2.1 (i + 1) c hc
        exact ⟨y, by simpa using hy, hr⟩, fun i y hy => hv.2.2 (i + 1) y (by simpa using hy)⟩
      have ih := leCells_sound h2 hv'
      refine ⟨?_, fun i x hc => ?_, hv.2.2⟩
      · have := ih.1
        show (v :: vs).toArray.size = r'.length + 1
        rw [← this]; simp
      · cases i with
        | zero =>
          injection hc with hc; subst hc
          obtain ⟨u, hu, hr⟩ := hv.2.1 0 _ rfl
          exact ⟨u, hu, leCell_sound h1 hr⟩
        | succ i =>
          obtain ⟨y, hy, hr⟩ := ih.2.1 i x hc
          exact ⟨y, by simpa using hy, hr⟩
theorem leAV_sound {x y : AV} (h : leAV st x y) {v : Value} (hv : x.Rep κ w v) : y.Rep (κ.nils st) w v := by
  unfold leAV at h
  split at h
  · exact leCell_sound h hv
  · obtain ⟨vs, rfl, hv⟩ := hv
    exact ⟨vs, rfl, by simpa using leCells_sound h (vs := vs.toList) (by simpa using hv)⟩
  · trivial
  · exact h.elim
theorem leEnv_sound (hR : Rel w0 κ st a w) : ∀ (env : List (Nat × AV)), leEnv st env → ∀ t, (look (.c (.one .any)) t env).Rep (κ.nils st) w (a.tmps.getD t Go.undef)
  | [], h, t => trivial
  | (u, v) :: r, h, t => by
    obtain ⟨h1, h2⟩ : leAV st (st.get u) v ∧ leEnv st r := h
    rw [look_cons]
    split
    · rename_i e; subst e; exact leAV_sound h1 (hR.env u)
    · exact leEnv_sound hR r h2 t
theorem leBoxes_spec : ∀ (boxes : List (Nat × List Cell)), leBoxes st boxes → ∀ b cs, look? b boxes = some cs → ∃ bs, st.box b = some bs ∧ leCells st bs cs
  | [], h, b, cs, hb => by cases hb
  | (u, us) :: r, h, b, cs, hb => by
    obtain ⟨h1, h2⟩ : (match st.box u with | some bs => leCells st bs us | none => False) ∧ leBoxes st r := h
    rw [look?_cons] at hb
    split at hb
    · rename_i e; subst e
      injection hb with hb; subst hb
      split at h1
      · rename_i bs hbs; exact ⟨bs, hbs, h1⟩
      · exact h1.elim
    · exact leBoxes_spec r h2 b cs hb
theorem leRows_spec : ∀ (rows : List (Nat × Row)), leRows st rows → ∀ r y, look? r rows = some y → leRow st r y
  | [], h, b, cs, hb => by cases hb
  | (u, z) :: l, h, r, y, hb => by
    obtain ⟨h1, h2⟩ : leRow st u z ∧ leRows st l := h
    rw [look?_cons] at hb
    split at hb
    · rename_i e; subst e
      injection hb with hb; subst hb
      exact h1
    · exact leRows_spec l h2 r y hb
theorem leMaps_spec : ∀ (maps : List (Nat × MRow)), leMaps st maps → ∀ m y, look? m maps = some y → leMap st m y
  | [], h, b, cs, hb => by cases hb
  | (u, z) :: l, h, r, y, hb => by
    obtain ⟨h1, h2⟩ : leMap st u z ∧ leMaps st l := h
    rw [look?_cons] at hb
    split at hb
    · rename_i e; subst e
      injection hb with hb; subst hb
      exact h1
    · exact leMaps_spec l h2 r y hb
theorem leSav_sound (hE : Ext w0 κ st w) : ∀ (sav : List (Nat × AV)), leSav st sav → ∀ t, (look (.c (.one .any)) t sav).Rep (κ.nils st) w (w0.sv t)
  | [], h, t => trivial
  | (u, v) :: r, h, t => by
    obtain ⟨h1, h2⟩ : leAV st (look (.c (.one .any)) u st.sav) v ∧ leSav st r := h
    rw [look_cons]
    split
    · rename_i e; subst e; exact leAV_sound h1 (hE.sav u)
    · exact leSav_sound hE r h2 t
theorem leMap_spec {m : Nat} {y : MRow} (h : leMap st m y) : ∃ x, st.map m = some x ∧ x.t = y.t ∧ ∃ (h1 : x.kk = y.kk) (h2 : x.vk = y.vk), castMap h1 h2 x.xs = y.xs := by
  unfold leMap at h
  split at h
  · rename_i x hx
    split at h
    · rename_i h1 h2 _ _
      cases e : x.t.beq y.t
      · rw [e] at h; exact h.elim
      · rw [e] at h; exact ⟨x, hx, Nat.eq_of_beq_eq_true e, h1, h2, h⟩
    · exact h.elim
  · exact h.elim
theorem leNest_spec {o : Option NRow} (h : leNest st o) : ∀ y, o = some y → st.nest = some y := fun y hy => by
  subst hy
  have h : (match st.nest with
    | some x => match x.kk.deq y.kk, x.ik.deq y.ik, x.iv.deq y.iv with
      | some ⟨h⟩, some ⟨h'⟩, some ⟨h''⟩ => bif x.t.beq y.t && x.it.beq y.it then castNest h h' h'' x.xs = y.xs else False
      | _, _, _ => False
    | none => False) := h
  split at h
  · rename_i x hx
    split at h
    · rename_i h1 h2 h3 _ _ _
      cases e : x.t.beq y.t && x.it.beq y.it
      · rw [e] at h; exact h.elim
      · rw [e] at h
        rw [Bool.and_eq_true] at e
        obtain ⟨xt, xk, xi, xik, xiv, xx⟩ := x
        obtain ⟨yt, yk, yi, yik, yiv, yx⟩ := y
        dsimp only at h1 h2 h3 e
        subst h1; subst h2; subst h3
        obtain rfl := Nat.eq_of_beq_eq_true e.1
        obtain rfl := Nat.eq_of_beq_eq_true e.2
        have h : xx = yx := h
        rw [hx, h]
    · exact h.elim
  · exact h.elim
theorem leSrc_spec {x y : Src} (h : leSrc x y) : x = y := by
  unfold leSrc at h
  split at h
  · rename_i m m'
    cases e : m.beq m'
    · rw [e] at h; exact h.elim
    · rw [Nat.eq_of_beq_eq_true e]
  · split at h
    · rename_i e _
      subst e
      have h := h
      exact congrArg _ h
    · exact h.elim
  · rfl
  · exact h.elim
theorem leIters_spec : ∀ (l : List (Nat × ItP)), leIters st l → ∀ i y, look? i l = some y → ∃ x, st.iter i = some x ∧ (y = x ∨ y = ⟨x.src, x.kk, x.vk, x.left, none⟩)
  | [], h, i, y, hy => by cases hy
  | (j, z) :: l, h, i, y, hy => by
    obtain ⟨h1, h2⟩ : leIter st j z ∧ leIters st l := h
    rw [look?_cons] at hy
    split at hy
    · rename_i e; subst e
      injection hy with hy; subst hy
      unfold leIter at h1
      split at h1
      · rename_i x hx
        refine ⟨x, hx, ?_⟩
        split at h1
        · rename_i e1 e2 _ _
          obtain ⟨p1, p2, p3⟩ := h1
          obtain ⟨xs, xk, xv, xl, xc⟩ := x
          obtain ⟨zs, zk, zv, zl, zc⟩ := z
          dsimp only at e1 e2 p1
          subst e1; subst e2
          obtain rfl := leSrc_spec p1
          have p2 : xl = zl := p2
          subst p2
          cases zc with
          | none => exact .inr rfl
          | some e' =>
            cases xc with
            | none => exact p3.elim
            | some e =>
              have p3 : [e] = [e'] := p3
              injection p3 with p3 _
              subst p3
              exact .inl rfl
        · exact h1.elim
      · exact h1.elim
    · exact leIters_spec l h2 i y hy
theorem Rel.le {st' : St} (hR : Rel w0 κ st a w) (h : st.le st') : Rel w0 (κ.nils st) st' a w := by
  obtain ⟨he, hb, hr, hn, hm, hs, hne, hit⟩ := h
  have hmap : ∀ m y, st'.map m = some y → ∃ x, st.map m = some x ∧ x = y := fun m y hy => by
    obtain ⟨x, hx, h0, h1, h2, h3⟩ := leMap_spec (leMaps_spec st'.maps hm m y hy)
    obtain ⟨xt, xk, xv, xx⟩ := x
    obtain ⟨yt, yk, yv, yx⟩ := y
    dsimp only at h0 h1 h2
    subst h0; subst h1; subst h2
    have h3 : xx = yx := h3
    exact ⟨_, hx, by rw [h3]⟩
  have hn : st.n = st'.n := by
    cases e : st.n.beq st'.n
    · rw [e] at hn; exact hn.elim
    · exact Nat.eq_of_beq_eq_true e
  have hrow : ∀ r y, st'.row r = some y → (∃ x, st.row r = some x ∧ x.e = y.e ∧ ∃ hfs : x.fs = y.fs, castRow hfs x.xs = y.xs) ∨ (st.row r = none ∧ y.xs = []) := fun r y hy => by
    have h := leRows_spec st'.rows hr r y hy
    unfold leRow at h
    split at h
    · rename_i x hx
      split at h
      · rename_i hfs _
        cases e : x.e.beq y.e
        · rw [e] at h; exact h.elim
        · rw [e] at h; exact .inl ⟨x, hx, Nat.eq_of_beq_eq_true e, hfs, h⟩
      · exact h.elim
    · rename_i hx; exact .inr ⟨hx, h⟩
  have hρ : ∀ r x, st.row r = some x → (κ.nils st).ρ r = κ.ρ r := fun r x hx => by
    show (match st.row r with | some _ => κ.ρ r | none => .slice none 0 0) = _
    rw [hx]
  have hρn : ∀ r, st.row r = none → (κ.nils st).ρ r = .slice none 0 0 := fun r hx => by
    show (match st.row r with | some _ => κ.ρ r | none => .slice none 0 0) = _
    rw [hx]
  exact {
    defers := hR.defers
    size := by rw [← hn]; exact hR.size
    env := leEnv_sound hR st'.env he
    box := fun b cs hb' => by
      obtain ⟨bs, hbs, hle⟩ := leBoxes_spec st'.boxes hb b cs hb'
      obtain ⟨vs, ty, hblk, hr, h1, h2⟩ := hR.box b bs hbs
      exact ⟨vs, ty, hblk, by simpa using leCells_sound hle (vs := vs.toList) (by simpa using hr), h1, h2⟩
    apart := fun b b' cs cs' hb1 hb2 e => by
      obtain ⟨bs, hbs, _⟩ := leBoxes_spec st'.boxes hb b cs hb1
      obtain ⟨bs', hbs', _⟩ := leBoxes_spec st'.boxes hb b' cs' hb2
      exact hR.apart b b' bs bs' hbs hbs' e
    row := fun r y hy => by
      rcases hrow r y hy with ⟨x, hx, h1, h2, h3⟩ | ⟨hx, h1⟩
      · obtain ⟨cells, ho, hc, hn'⟩ := hR.row r x hx
        obtain ⟨xe, xfs, xxs⟩ := x
        obtain ⟨ye, yfs, yxs⟩ := y
        dsimp only at h1 h2 h3
        subst h1; subst h2
        have h3 : xxs = yxs := h3
        subst h3
        rw [hρ r _ hx]
        refine ⟨cells, ho, hc, fun g hg => ⟨(hn' g hg).1, fun b cs hb' e => ?_⟩⟩
        obtain ⟨bs, hbs, _⟩ := leBoxes_spec st'.boxes hb b cs hb'
        exact (hn' g hg).2 b bs hbs e
      · rw [hρn r hx]
        refine ⟨[], ?_, fun i x hi => ?_, fun g hg => ?_⟩
        · rw [h1]; exact World.ownsRow_nil _ _ _ _
        · rw [h1] at hi; simp at hi
        · cases hg
    rows := fun r r' y y' hy hy' g hg hg' => by
      rcases hrow r y hy with ⟨x, hx, _⟩ | ⟨hx, _⟩
      · rcases hrow r' y' hy' with ⟨x', hx', _⟩ | ⟨hx', _⟩
        · rw [hρ r x hx] at hg
          rw [hρ r' x' hx'] at hg'
          exact hR.rows r r' x x' hx hx' g hg hg'
        · rw [hρn r' hx'] at hg'; cases hg'
      · rw [hρn r hx] at hg; cases hg
    bound := hR.bound
    below := hR.below
    old := hR.old
    ext := {
      sav := leSav_sound hR.ext st'.sav hs
      map := fun m y hy => by
        obtain ⟨x, hx, rfl⟩ := hmap m y hy
        obtain ⟨es, clock, h1, h2, h3⟩ := hR.ext.map m x hx
        exact ⟨es, clock, h1, h2.mono (fun k p v h => h), h3⟩
      maps := fun m m' y y' hy hy' e => by
        obtain ⟨x, hx, rfl⟩ := hmap m y hy
        obtain ⟨x', hx', rfl⟩ := hmap m' y' hy'
        exact hR.ext.maps m m' x x' hx hx' e
      nest := fun y hy => by
        have hN := hR.ext.nest y (leNest_spec hne y hy)
        have hN' : NestRep w0.n0 (κ.nils st) st.maps w y := hN.move (κ' := κ.nils st) rfl (fun k p v h => h) (fun g o _ h => h)
        exact {
          out := hN'.out
          inn := fun i x hx => by
            obtain ⟨g, es, clock, h1, h2, h3, h4, h5, h6⟩ := hN'.inn i x hx
            exact ⟨g, es, clock, h1, h2, h3, h4, h5, fun m z hz => by obtain ⟨x0, hx0, rfl⟩ := hmap m z hz; exact h6 m x0 hx0⟩
          miss := hN'.miss
          inj := hN'.inj
          low := hN'.low
          apart := fun m z hz => by obtain ⟨x0, hx0, rfl⟩ := hmap m z hz; exact hN'.apart m x0 hx0 }
      iter := fun i z hz => by
        obtain ⟨x, hx, hc⟩ := leIters_spec st'.iters hit i z hz
        have hI := (hR.ext.iter i x hx).move (κ' := κ.nils st) (w' := w) (src_eq rfl _) (fun k p v h => h) (fun o _ h => h) (fun bm es c _ h => h)
        rcases hc with rfl | rfl
        · exact hI
        · obtain ⟨h0, hI⟩ := hI
          refine ⟨h0, ?_⟩
          rcases hI with ⟨a', b', s', q1, q2, _⟩ | ⟨bm, es, clock, seen, c0, q1, q2, q3, q4, q5, q6, q7, q8⟩
          · exact .inl ⟨a', b', s', q1, q2, rfl⟩
          · exact .inr ⟨bm, es, clock, seen, c0, q1, q2, q3, q4, q5, q6, q7, fun x hx => nomatch hx⟩
      iters := fun i j z z' hz hz' e => by
        obtain ⟨x, hx, _⟩ := leIters_spec st'.iters hit i z hz
        obtain ⟨x', hx', _⟩ := leIters_spec st'.iters hit j z' hz'
        exact hR.ext.iters i j x x' hx hx' e } }

/-- what stands behind a piece of code -/
structure PostFits (w0 : Base) (Q : Post) (QX : Exit → Act → World → Prop) : Prop where
  normal : Fits w0 Q.normal (QX .normal)
  exit : ∀ id, Fits w0 (Q.exit id) (QX (.exit id))
  ret : Fits w0 Q.ret (QX .ret)
  panic : FitsP w0 Q.panic QX

theorem Rel.knowOp (hR : Rel w0 κ st a w) {c : Operand} {b : Bool} (h : a.eval c = .bool b) : Rel w0 κ (R.know st c b) a w := by
  cases c with
  | tmp t => exact hR.know (v := bool b) (by rw [show a.tmps.getD t Go.undef = _ from h]; rfl)
  | const v => exact hR
  | global g => exact hR
  | func f => exact hR

theorem vc_sound (hm : P.follows .mixedOrders = true) (hcons : ∀ c ∈ cons, c.Holds P) {H : Inl} (hH : InlOk P H) : ∀ (c : Code) (l : Nat) (st : St) (Q : Post) (QX : Exit → Act → World → Prop) (κ : Cx) (a : Act) (w : World),
    vc P cons anns H c l st Q → Rel w0 κ st a w → PostFits w0 Q QX → c.wp P QX a w := by
  intro c
  induction c with
  | skip => exact fun l st Q QX κ a w h hR hF => wp_skip (hF.normal κ st a w h hR)
  | region id ops draw =>
    intro l st Q QX κ a w h hR hF
    have h : (match annOf (1000000 + id) anns with
      | none => vregion P cons H Q.panic ops.toList draw st Q.normal
      | some A => match simAny P cons ops.toList ops.size (Array.replicate ops.size false) st with
        | some st1 => vregion P cons H Q.panic ops.toList draw st (fun st2 => st2.le (st1.keepJ A.live)) ∧ Q.normal (st1.keepJ A.live)
        | none => False) := h
    split at h
    · have := vregion_sound (id := id) hm hcons hH (l := ops.toList) (draw := draw) hF.panic h hR hF.normal
      rwa [Array.toArray_toList] at this
    · rename_i A _
      split at h
      · rename_i st1 _
        have := vregion_sound (id := id) (Q := QX) hm hcons hH (l := ops.toList) (draw := draw) hF.panic h.1 hR (fun κ' st' a' w' h' hR' => hF.normal _ (st1.keepJ A.live) a' w' h.2 (hR'.le h'))
        rwa [Array.toArray_toList] at this
      · exact h.elim
  | seq x y ihx ihy =>
    intro l st Q QX κ a w h hR hF
    have h : (match cutOf anns y with
      | none => vc P cons anns H x l st (Q.then fun st' => vc P cons anns H y l st' Q)
      | some A => vc P cons anns H x l st (Q.then fun st' => ∃ p, A.inv st p ∧ st'.le (A.at_ st p)) ∧ ∀ p, A.inv st p → vc P cons anns H y l (A.at_ st p) Q) := h
    split at h
    · exact wp_seq (ihx l st _ _ κ a w h hR ⟨fun κ' st' a' w' h' hR' => ihy l st' Q QX κ' a' w' h' hR' hF, fun id => hF.exit id, hF.ret, hF.panic⟩)
    · refine wp_seq (ihx l st _ _ κ a w h.1 hR ⟨fun κ' st' a' w' h' hR' => ?_, fun id => hF.exit id, hF.ret, hF.panic⟩)
      obtain ⟨p, hp, hle⟩ := h'
      exact ihy l _ Q QX _ a' w' (h.2 p hp) (hR'.le hle) hF
  | cond c x y ihx ihy =>
    intro l st Q QX κ a w h hR hF
    have h : (match st.ev c with
      | .c (.one (.val .bool b)) => bif b then vc P cons anns H x l (know st c true) Q else vc P cons anns H y l (know st c false) Q
      | _ => False) := h
    split at h
    · rename_i b hb
      have hc := hR.ev c
      rw [hb] at hc
      have hc : a.eval c = .bool b := hc
      refine wp_cond hc ?_
      cases b
      · exact ihy l _ Q QX κ a w h (hR.knowOp hc) hF
      · exact ihx l _ Q QX κ a w h (hR.knowOp hc) hF
    · exact h.elim
  | block id c ih =>
    intro l st Q QX κ a w h hR hF
    refine wp_block (ih id st (Q.block id) _ κ a w h hR ⟨hF.normal, fun i κ' st' a' w' h' hR' => ?_, hF.ret, hF.panic⟩)
    have h' : bif i.beq id then Q.normal st' else Q.exit i st' := h'
    show if i = id then _ else _
    cases e : i.beq id
    · rw [e] at h'
      have : i ≠ id := fun e2 => by rw [e2, Nat.beq_refl] at e; cases e
      rw [if_neg this]
      exact hF.exit i κ' st' a' w' h' hR'
    · rw [e] at h'
      rw [if_pos (Nat.eq_of_beq_eq_true e)]
      exact hF.normal κ' st' a' w' h' hR'
  | loop c ih =>
    intro l st Q QX κ a w h hR hF
    have h : (match annOf l anns with
      | some A => (∃ p, A.inv st p ∧ st.le (A.at_ st p)) ∧
        ∀ p, A.inv st p → vc P cons anns H c l (A.at_ st p) (Q.then fun st' => ∃ p', A.inv st p' ∧ A.mu st p' < A.mu st p ∧ st'.le (A.at_ st p'))
      | none => False) := h
    split at h
    · rename_i A hA
      obtain ⟨⟨p0, hp0, hle0⟩, hround⟩ := h
      refine wp_loop_ghost (fun n a w => ∃ κ p, A.mu st p = n ∧ A.inv st p ∧ Rel w0 κ (A.at_ st p) a w) (A.mu st p0) ⟨_, p0, rfl, hp0, hR.le hle0⟩ ?_
      rintro n a w ⟨κ, p, rfl, hp, hR⟩
      refine ih l (A.at_ st p) _ _ κ a w (hround p hp) hR ⟨fun κ' st' a' w' h' hR' => ?_, fun id => hF.exit id, hF.ret, hF.panic⟩
      obtain ⟨p', hp', hmu, hle⟩ := h'
      exact ⟨A.mu st p', hmu, _, p', rfl, hp', hR'.le hle⟩
    · exact h.elim
  | exit id => exact fun l st Q QX κ a w h hR hF => wp_exit (hF.exit id κ st a w h hR)
  | ret => exact fun l st Q QX κ a w h hR hF => wp_ret (hF.ret κ st a w h hR)
  | rangeFunc f ps as_ b ih1 ih2 => intro l st Q QX κ a w h; exact h.elim
  | scope c ih => intro l st Q QX κ a w h; exact h.elim
  | label l => intro l st Q QX κ a w h; exact h.elim
  | goto l => intro l st Q QX κ a w h; exact h.elim
  | refuse why => intro l st Q QX κ a w h; exact h.elim

/-- what a function hands back, out of its slots -/
def resOne (P : Program) (st : St) : ResultVar → Option Comp
  | .tmp t => match st.get t with
    | .c x => some x
    | .tup _ => none
  | .cell b ty => match st.get b with
    | .c (.one (.ptr b' off)) => match st.box b' with
      | some cs => match partOf P ty cs off with
        | .ok _ (.c x) => some x
        | _ => none
      | none => none
    | _ => none
def resAll (P : Program) (st : St) : List ResultVar → Option (List AV)
  | [] => some []
  | x :: r => match resOne P st x, resAll P st r with
    | some y, some ys => some (.c y :: ys)
    | _, _ => none
/-- at the function's end: the results are of their kinds, and as the contract says -/
def retPost (P : Program) (fn : Func) (c : Con) (p : Pays c.args) (st : St) : Prop :=
  match resAll P (st.freezeAll (keysOf st.rows)) fn.results.toList with
  | some xs => match takeAll c.res xs with
    | some r => c.post p r
    | none => False
  | none => False
def envOf : Nat → List Comp → List (Nat × AV)
  | _, [] => []
  | n, x :: r => (n, .c x) :: envOf (n + 1) r
def startOf (fn : Func) (xs : List Comp) : St := { n := fn.ntmps, env := envOf 0 xs, boxes := [], rows := [] }

theorem resOne_run {st : St} {a : Act} {w : World} {κ : Cx} (hR : Rel w0 κ st a w) {x : ResultVar} {y : Comp} (h : resOne P st x = some y) :
    ∃ u, y.Rep κ w u ∧ (match x with
      | .tmp t => (pure (a.tmps.getD t Go.undef) : Sem Value)
      | .cell b t => do loadVar t (← asAddr (a.tmps.getD b Go.undef))).run P w = .ok u w := by
  cases x with
  | tmp t =>
    have h : (match st.get t with
      | .c x => some x
      | .tup _ => none) = some y := h
    have ht := hR.env t
    split at h
    · rename_i x hx
      injection h with h; subst h
      rw [hx] at ht
      exact ⟨_, ht, rfl⟩
    · cases h
  | cell b ty =>
    have h : (match st.get b with
      | .c (.one (.ptr b' off)) => match st.box b' with
        | some cs => match partOf P ty cs off with
          | .ok _ (.c x) => some x
          | _ => none
        | none => none
      | _ => none) = some y := h
    have hb := hR.env b
    split at h
    · rename_i b' off hx
      rw [hx] at hb
      have hb : a.tmps.getD b Go.undef = .pointer (some ⟨κ.β b', off, none⟩) := hb
      split at h
      · rename_i cs hcs
        split at h
        · rename_i c0 x0 hp
          injection h with h; subst h
          obtain ⟨vs, t0, hblk, hv, _, _⟩ := hR.box b' cs hcs
          obtain ⟨u, hu, hw⟩ := loadVar_box hp hblk hv
          refine ⟨u, hu, ?_⟩
          dsimp only
          rw [Sem.run_bind, hb]
          exact hw w (bel_refl w)
        · cases h
      · cases h
    · cases h
theorem resAll_run {st : St} {a : Act} {w : World} {κ : Cx} (hR : Rel w0 κ st a w) : ∀ (l : List ResultVar) (xs : List AV), resAll P st l = some xs →
    ∃ us : List Value, us.length = xs.length ∧ (∀ (i : Nat) x, xs[i]? = some x → ∃ u, us[i]? = some u ∧ x.Rep κ w u) ∧
      (l.mapM (m := Sem) fun x => match x with
        | .tmp t => (pure (a.tmps.getD t Go.undef) : Sem Value)
        | .cell b t => do loadVar t (← asAddr (a.tmps.getD b Go.undef))).run P w = .ok us w
  | [], xs, h => by
    injection h with h; subst h
    refine ⟨[], rfl, fun i x h => ?_, rfl⟩
    cases h
  | y :: r, xs, h => by
    have h : (match resOne P st y, resAll P st r with
      | some y, some ys => some (.c y :: ys)
      | _, _ => none) = some xs := h
    split at h
    · rename_i y' ys h1 h2
      injection h with h; subst h
      obtain ⟨u, hu, hrun⟩ := resOne_run (P := P) hR h1
      obtain ⟨us, h3, h4, h5⟩ := resAll_run hR r ys h2
      refine ⟨u :: us, by simp [h3], fun i x hx => ?_, ?_⟩
      · cases i with
        | zero => injection hx with hx; subst hx; exact ⟨u, rfl, hu⟩
        | succ i => exact h4 i x hx
      · rw [List.mapM_cons, Sem.run_bind, hrun, Result.andThen_ok, Sem.run_bind, h5]
        rfl
    · cases h

theorem takeAll_av : ∀ (l : List CK) (xs : List AV) (p : Pays l), takeAll l xs = some p → ∀ us : List Value, us.length = xs.length → (∀ (i : Nat) x, xs[i]? = some x → ∃ u, us[i]? = some u ∧ x.Rep κ w u) → CompsRep κ w (compsOf l p) us
  | [], [], p, h, us, hl, hr => ⟨by rw [hl]; rfl, fun i c hc => by cases hc⟩
  | [], x :: xs, p, h, us, hl, hr => by simp [takeAll] at h
  | [x], [], p, h, us, hl, hr => by simp [takeAll] at h
  | [x], y :: z :: r, p, h, us, hl, hr => by simp [takeAll] at h
  | x :: y :: r, [], p, h, us, hl, hr => by simp [takeAll] at h
  | [x], [y], p, h, us, hl, hr => by
    cases y with
    | tup vs => simp [takeAll] at h
    | c z =>
      have h : takeComp x z = some p := h
      refine ⟨hl, fun i c hc => ?_⟩
      cases i with
      | zero =>
        injection hc with hc; subst hc
        obtain ⟨u, hu, hx⟩ := hr 0 _ rfl
        exact ⟨u, hu, takeComp_sound h hx⟩
      | succ i => cases hc
  | x :: y :: r, z :: zs, p, h, us, hl, hr => by
    cases z with
    | tup vs => simp [takeAll] at h
    | c c0 =>
      have h : (match takeComp x c0, takeAll (y :: r) zs with
        | some p, some q => some (p, q)
        | _, _ => none) = some p := h
      split at h
      · rename_i p1 p2 h1 h2
        injection h with h; subst h
        cases us with
        | nil => simp at hl
        | cons u us =>
          have ih := takeAll_av (y :: r) zs p2 h2 us (by simpa using hl) (fun i x hx => hr (i + 1) x hx)
          refine ⟨?_, fun i c hc => ?_⟩
          · have := ih.1
            show us.length + 1 = (compsOf (y :: r) p2).length + 1
            rw [this]
          · cases i with
            | zero =>
              injection hc with hc; subst hc
              obtain ⟨u', hu, hx⟩ := hr 0 _ rfl
              exact ⟨u', hu, takeComp_sound h1 hx⟩
            | succ i => exact ih.2 i c hc
      · cases h
theorem ret_sound {fn : Func} {c : Con} {p : Pays c.args} {st : St} {a : Act} {w : World} (hR : Rel w0 κ st a w) (h : retPost P fn c p st) :
    ∃ κ' st' r v, Rel w0 κ' st' a w ∧ (results fn a.tmps).run P w = .ok v w ∧ c.post p r ∧ (resAV c.res r).Rep κ' w v := by
  unfold retPost at h
  obtain ⟨κ1, hR⟩ := Rel.freezeAll (keysOf st.rows) hR
  split at h
  · rename_i xs hxs
    split at h
    · rename_i r hr
      obtain ⟨us, h1, h2, h3⟩ := resAll_run hR fn.results.toList xs hxs
      have hrep := takeAll_av (κ := κ1) (w := w) c.res xs r hr us h1 h2
      have hrun : (results fn a.tmps).run P w = .ok (if h : us.toArray.size = 1 then us.toArray[0] else .tuple us.toArray) w := by
        unfold results
        rw [Sem.run_bind, Array.mapM_eq_mapM_toList, Sem.run_map]
        erw [h3]
        rfl
      refine ⟨κ1, _, r, _, hR, hrun, h, ?_⟩
      unfold resAV
      split
      · rename_i x hx
        rw [hx] at hrep
        have hl : us.length = 1 := hrep.1
        obtain ⟨u, rfl⟩ := List.length_eq_one_iff.1 hl
        obtain ⟨u', hu, hxr⟩ := hrep.2 0 x rfl
        injection hu with hu; subst hu
        exact hxr
      · rename_i ys hne
        have hl : us.length = (compsOf c.res r).length := hrep.1
        have hn : us.toArray.size ≠ 1 := fun e => by
          have e : us.length = 1 := by simpa using e
          rw [hl] at e
          obtain ⟨y, hy⟩ := List.length_eq_one_iff.1 e
          exact hne y hy
        rw [dif_neg hn]
        exact ⟨us.toArray, rfl, by simpa using hl, fun i x hx => by
          obtain ⟨u, hu, hxr⟩ := hrep.2 i x hx
          exact ⟨u, by simpa using hu, hxr⟩⟩
    · exact h.elim
  · exact h.elim

theorem compsAV_rep : ∀ (ys : List AV) (rs : List Comp) (us : List Value), compsAV ys = some rs → us.length = ys.length → (∀ (i : Nat) x, ys[i]? = some x → ∃ u, us[i]? = some u ∧ x.Rep κ w u) → CompsRep κ w rs us
  | [], rs, us, h, hl, hr => by
    injection h with h; subst h
    exact ⟨hl, fun i c h => by cases h⟩
  | .c y :: r, rs, us, h, hl, hr => by
    have h : (compsAV r).map (y :: ·) = some rs := h
    cases hq : compsAV r with
    | none => rw [hq] at h; cases h
    | some qs =>
      rw [hq] at h; injection h with h; subst h
      cases us with
      | nil => cases hl
      | cons u us =>
        have ih := compsAV_rep r qs us hq (by simpa using hl) (fun i x hx => hr (i + 1) x hx)
        refine ⟨by rw [List.length_cons, List.length_cons, ih.1], fun i c hc => ?_⟩
        cases i with
        | zero =>
          injection hc with hc; subst hc
          obtain ⟨u', hu, hx⟩ := hr 0 _ rfl
          exact ⟨u', hu, hx⟩
        | succ i => exact ih.2 i c hc
  | .tup _ :: _, rs, us, h, hl, hr => by cases h
theorem envOf_look (xs : List Comp) : ∀ (n t : Nat), look (.c (.one .any)) t (envOf n xs) = if n ≤ t ∧ t < n + xs.length then (match xs[t - n]? with | some x => .c x | none => .c (.one .any)) else .c (.one .any) := by
  induction xs with
  | nil => intro n t; show AV.c (.one .any) = _; rw [if_neg (by simp only [List.length_nil]; omega)]
  | cons x r ih =>
    intro n t
    show look _ t ((n, .c x) :: envOf (n + 1) r) = _
    rw [look_cons, ih]
    by_cases e : n = t
    · subst e
      rw [if_pos rfl, if_pos ⟨Nat.le_refl _, by simp⟩, Nat.sub_self]
      rfl
    · rw [if_neg e]
      by_cases e2 : n ≤ t ∧ t < n + (x :: r).length
      · rw [List.length_cons] at e2
        rw [if_pos (by omega), if_pos (by rw [List.length_cons]; omega), show t - n = (t - (n + 1)) + 1 by omega]
        rfl
      · rw [List.length_cons] at e2
        rw [if_neg (by omega), if_neg (by rw [List.length_cons]; omega)]

noncomputable def codeOf (fn : Func) : Code := fn.body.getD .skip
theorem start_env {xs : List Comp} {vs : List Value} (hvs : CompsRep κ w xs vs) (m t : Nat) : (look (.c (.one .any)) t (envOf 0 xs)).Rep κ w ((vs.toArray ++ Array.replicate m Go.undef).getD t Go.undef) := by
  rw [envOf_look]
  split
  · rename_i e
    rw [Nat.sub_zero]
    split
    · rename_i x hx
      obtain ⟨u, hu, hr⟩ := hvs.2 t x hx
      have : (vs.toArray ++ Array.replicate m Go.undef).getD t Go.undef = u := by
        have hlt : t < vs.length := (List.getElem?_eq_some_iff.1 hu).1
        rw [Array.getD_eq_getD_getElem?, Array.getElem?_append_left (by simpa using hlt)]
        simp [hu]
      rw [this]
      exact hr
    · trivial
  · trivial

/-! ## calls whose callee's code is taken itself -/
def filtLt (n : Nat) : List (Nat × AV) → List (Nat × AV)
  | [] => []
  | (t, v) :: r => bif Nat.blt t n then (t, v) :: filtLt n r else filtLt n r
def shiftUp (n : Nat) : List (Nat × AV) → List (Nat × AV)
  | [] => []
  | (t, v) :: r => (t + n, v) :: shiftUp n r
def shiftDn (n : Nat) : List (Nat × AV) → List (Nat × AV)
  | [] => []
  | (t, v) :: r => bif Nat.blt t n then shiftDn n r else (t - n, v) :: shiftDn n r
theorem not_blt {u n : Nat} (hb : Nat.blt u n = false) : ¬ u < n := fun h => by
  have : Nat.blt u n = true := by rw [Nat.blt_eq]; exact h
  rw [this] at hb; cases hb
theorem look_filtLt (n t : Nat) : ∀ l : List (Nat × AV), look (.c (.one .any)) t (filtLt n l) = if t < n then look (.c (.one .any)) t l else .c (.one .any)
  | [] => by show AV.c (.one .any) = _; split <;> rfl
  | (u, v) :: r => by
    have ih := look_filtLt n t r
    show look _ t (bif Nat.blt u n then (u, v) :: filtLt n r else filtLt n r) = _
    cases hb : Nat.blt u n
    · have hb : ¬ u < n := not_blt hb
      show look _ t (filtLt n r) = _
      rw [ih, look_cons]
      split
      · rw [if_neg (by omega)]
      · rfl
    · have hb : u < n := by rw [Nat.blt_eq] at hb; exact hb
      show look _ t ((u, v) :: filtLt n r) = _
      rw [look_cons, look_cons, ih]
      by_cases e : u = t
      · rw [if_pos e, if_pos e, if_pos (by omega)]
      · rw [if_neg e, if_neg e]
theorem look_shiftUp (n t : Nat) : ∀ l : List (Nat × AV), look (.c (.one .any)) t (shiftUp n l) = if n ≤ t then look (.c (.one .any)) (t - n) l else .c (.one .any)
  | [] => by show AV.c (.one .any) = _; split <;> rfl
  | (u, v) :: r => by
    have ih := look_shiftUp n t r
    show look _ t ((u + n, v) :: shiftUp n r) = _
    rw [look_cons, look_cons, ih]
    by_cases e : u + n = t
    · rw [if_pos e, if_pos (by omega), if_pos (by omega)]
    · rw [if_neg e]
      split
      · rw [if_neg (by omega)]
      · rfl
theorem look_shiftDn (n t : Nat) : ∀ l : List (Nat × AV), look (.c (.one .any)) t (shiftDn n l) = look (.c (.one .any)) (t + n) l
  | [] => rfl
  | (u, v) :: r => by
    have ih := look_shiftDn n t r
    show look _ t (bif Nat.blt u n then shiftDn n r else (u - n, v) :: shiftDn n r) = _
    cases hb : Nat.blt u n
    · have hb : ¬ u < n := not_blt hb
      show look _ t ((u - n, v) :: shiftDn n r) = _
      rw [look_cons, look_cons, ih]
      by_cases e : u = t + n
      · rw [if_pos e, if_pos (by omega)]
      · rw [if_neg e, if_neg (by omega)]
    · have hb : u < n := by rw [Nat.blt_eq] at hb; exact hb
      show look _ t (shiftDn n r) = _
      rw [look_cons, ih, if_neg (by omega)]
theorem look_push (n t : Nat) (sav : List (Nat × AV)) : ∀ env : List (Nat × AV), look (.c (.one .any)) t (filtLt n env ++ shiftUp n sav) = if t < n then look (.c (.one .any)) t env else look (.c (.one .any)) (t - n) sav
  | [] => by
    show look _ t (shiftUp n sav) = _
    rw [look_shiftUp]
    by_cases e : t < n
    · rw [if_neg (by omega), if_pos e]; rfl
    · rw [if_pos (by omega), if_neg e]
  | (u, v) :: r => by
    have ih := look_push n t sav r
    show look _ t ((bif Nat.blt u n then (u, v) :: filtLt n r else filtLt n r) ++ shiftUp n sav) = _
    cases hb : Nat.blt u n
    · have hb : ¬ u < n := not_blt hb
      show look _ t (filtLt n r ++ shiftUp n sav) = _
      rw [ih, look_cons]
      split
      · rw [if_neg (by omega)]
      · rfl
    · have hb : u < n := by rw [Nat.blt_eq] at hb; exact hb
      show look _ t ((u, v) :: (filtLt n r ++ shiftUp n sav)) = _
      rw [look_cons, look_cons, ih]
      by_cases e : u = t
      · rw [if_pos e, if_pos e, if_pos (by omega)]
      · rw [if_neg e, if_neg e]
def enterSt (fn : Func) (xs : List Comp) (off : Nat) (st : St) : St := { n := fn.ntmps, env := envOf 0 xs, boxes := st.boxes, rows := st.rows, sav := filtLt st.n st.env ++ shiftUp st.n st.sav, maps := st.maps, off := off, nest := st.nest, iters := st.iters }
def leaveSt (n off : Nat) (st : St) : St := { n := n, env := filtLt n st.sav, boxes := st.boxes, rows := st.rows, sav := shiftDn n st.sav, maps := st.maps, off := off, nest := st.nest, iters := st.iters }
/-- at the end of a call -/
def inlRet (P : Program) (fn : Func) (n off : Nat) (K : List Comp → St → Prop) (st : St) : Prop :=
  match resAll P st fn.results.toList with
  | some ys => match compsAV ys with
    | some rs => K rs (leaveSt n off st)
    | none => False
  | none => False
/-- calls of these functions, their code taken itself: k deep -/
noncomputable def inlOf (P : Program) (cons : List Con) (B : Inl) (inls : List (Nat × Func)) (anns : Nat → List (Nat × Ann)) : Nat → Inl
  | 0 => B
  | k + 1 => fun f xs off st K KP => match look? f inls with
    | some fn => bif Nat.ble xs.length fn.ntmps then
        vc P cons (anns f) (inlOf P cons B inls anns k) (codeOf fn) 0 (enterSt fn xs off st)
          { normal := inlRet P fn st.n st.off K, exit := fun _ _ => False, ret := inlRet P fn st.n st.off K, panic := fun c st' => KP c (leaveSt st.n st.off st') }
      else False
    | none => B f xs off st K KP
/-- the functions of the list are the program's -/
def InlFacts (P : Program) (inls : List (Nat × Func)) : Prop := ∀ f fn, look? f inls = some fn → P.funcs[f]? = some fn ∧ (fn.name == "runtime.NumGoroutine") = false ∧ fn.body.isSome = true
theorem InlFacts.nil : InlFacts P [] := fun _ _ h => by cases h
theorem InlFacts.more {f : Nat} {fn : Func} {l : List (Nat × Func)} (h : P.funcs[f]? = some fn) (hn : (fn.name == "runtime.NumGoroutine") = false) (hb : fn.body.isSome = true) (hl : InlFacts P l) : InlFacts P ((f, fn) :: l) := fun g gn hg => by
  rw [look?_cons] at hg
  split at hg
  · rename_i e; subst e
    injection hg with hg; subst hg
    exact ⟨h, hn, hb⟩
  · exact hl g gn hg
/-- the caller's state again -/
theorem Rel.leave {n : Nat} {sv' : Nat → Value} {st' : St} {a' : Act} {off : Nat} (h : Rel { w0 with sv := sv' } κ st' a' w) (hd : a.defers = []) (hs : a.tmps.size = n) (hsv : ∀ t, sv' t = if t < n then a.tmps.getD t Go.undef else w0.sv (t - n)) : Rel w0 κ (leaveSt n off st') a w where
  defers := hd
  size := hs
  env := fun t => by
    show AV.Rep _ _ (look _ t (filtLt n st'.sav)) _
    rw [look_filtLt]
    split
    · rename_i e
      have := h.ext.sav t
      have this : AV.Rep κ w (look (.c (.one .any)) t st'.sav) (sv' t) := this
      rw [hsv t, if_pos e] at this
      exact this
    · trivial
  box := h.box
  apart := h.apart
  row := h.row
  rows := h.rows
  bound := h.bound
  below := h.below
  old := h.old
  ext := {
    sav := fun t => by
      show AV.Rep _ _ (look _ t (shiftDn n st'.sav)) _
      rw [look_shiftDn]
      have := h.ext.sav (t + n)
      have this : AV.Rep κ w (look (.c (.one .any)) (t + n) st'.sav) (sv' (t + n)) := this
      rw [hsv (t + n), if_neg (by omega), Nat.add_sub_cancel] at this
      exact this
    map := h.ext.map
    maps := h.ext.maps
    nest := h.ext.nest
    iter := h.ext.iter
    iters := h.ext.iters }
theorem inlOf_ok (hm : P.follows .mixedOrders = true) (hcons : ∀ c ∈ cons, c.Holds P) {B : Inl} (hB : InlOk P B) {inls : List (Nat × Func)} (hin : InlFacts P inls) (anns : Nat → List (Nat × Ann)) : ∀ k, InlOk P (inlOf P cons B inls anns k)
  | 0 => hB
  | k + 1 => by
    intro w0 f xs off st K KP κ a w vs h hR hvs
    have h : (match look? f inls with
      | some fn => bif Nat.ble xs.length fn.ntmps then
          vc P cons (anns f) (inlOf P cons B inls anns k) (codeOf fn) 0 (enterSt fn xs off st)
            { normal := inlRet P fn st.n st.off K, exit := fun _ _ => False, ret := inlRet P fn st.n st.off K, panic := fun c st' => KP c (leaveSt st.n st.off st') }
        else False
      | none => B f xs off st K KP) := h
    split at h
    · rename_i fn hfn
      obtain ⟨hf, hn, hb⟩ := hin f fn hfn
      cases hle : Nat.ble xs.length fn.ntmps
      · rw [hle] at h; exact h.elim
      rw [hle] at h
      have hle := Nat.le_of_ble_eq_true hle
      refine ⟨⟨fn, hf, hn, by cases hx : fn.body with | none => rw [hx] at hb; cases hb | some _ => rfl⟩, ?_⟩
      obtain ⟨code, hcode⟩ := Option.isSome_iff_exists.1 hb
      have hco : codeOf fn = code := by unfold codeOf; rw [hcode]; rfl
      refine calls_of_wp hf hcode ?_
      rw [← hco]
      let sv' : Nat → Value := fun t => if t < st.n then a.tmps.getD t Go.undef else w0.sv (t - st.n)
      have hR' : Rel { w0 with sv := sv' } κ (enterSt fn xs off st) { tmps := vs.toArray ++ Array.replicate (fn.ntmps - vs.toArray.size) Go.undef, defers := [] } w := {
        defers := rfl
        size := by
          show (vs.toArray ++ Array.replicate (fn.ntmps - vs.toArray.size) Go.undef).size = fn.ntmps
          have := hvs.1
          rw [Array.size_append, Array.size_replicate]
          simp; omega
        env := fun t => start_env hvs _ t
        box := hR.box
        apart := hR.apart
        row := hR.row
        rows := hR.rows
        bound := hR.bound
        below := hR.below
        old := hR.old
        ext := {
          sav := fun t => by
            show AV.Rep _ _ (look _ t (filtLt st.n st.env ++ shiftUp st.n st.sav)) (if t < st.n then a.tmps.getD t Go.undef else w0.sv (t - st.n))
            rw [look_push]
            split
            · exact hR.env t
            · exact hR.ext.sav _
          map := hR.ext.map
          maps := hR.ext.maps
          nest := hR.ext.nest
          iter := hR.ext.iter
          iters := hR.ext.iters } }
      have hfin : ∀ (κ' : Cx) (st' : St) (a' : Act) (w' : World), inlRet P fn st.n st.off K st' → Rel { w0 with sv := sv' } κ' st' a' w' → a'.defers = [] ∧ ∃ v, (results fn a'.tmps).run P w' = .ok v w' ∧
          ((∃ (u : Value) (rs : List Comp) (κ'' : Cx) (st'' : St), Ending.returned v = .returned u ∧ K rs st'' ∧ Rel w0 κ'' st'' a w' ∧ (retAV rs).Rep κ'' w' u) ∨
          ∃ (c : Cell) (u : Value) (κ'' : Cx) (st'' : St), Ending.returned v = .panicked [{ v := u, recovered := false }] ∧ KP c st'' ∧ Rel w0 κ'' st'' a w' ∧ c.Rep κ'' w' u) := fun κ' st' a' w' hr hR2 => by
        unfold inlRet at hr
        split at hr
        · rename_i ys hys
          split at hr
          · rename_i rs hrs
            obtain ⟨us, h1, h2, h3⟩ := resAll_run hR2 fn.results.toList ys hys
            have hrun : (results fn a'.tmps).run P w' = .ok (if h : us.toArray.size = 1 then us.toArray[0] else .tuple us.toArray) w' := by
              unfold results
              rw [Sem.run_bind, Array.mapM_eq_mapM_toList, Sem.run_map]
              erw [h3]
              rfl
            have hrep := compsAV_rep ys rs us hrs h1 h2
            refine ⟨hR2.defers, _, hrun, .inl ⟨_, rs, κ', _, rfl, hr, hR2.leave hR.defers hR.size (fun t => rfl), ?_⟩⟩
            unfold retAV
            split
            · rename_i x
              have hl : us.length = 1 := hrep.1
              obtain ⟨u, rfl⟩ := List.length_eq_one_iff.1 hl
              obtain ⟨u', hu, hxr⟩ := hrep.2 0 x rfl
              injection hu with hu; subst hu
              exact hxr
            · rename_i hne
              have hl : us.length = rs.length := hrep.1
              have hn : us.toArray.size ≠ 1 := fun e => by
                have e : us.length = 1 := by simpa using e
                rw [hl] at e
                obtain ⟨y, hy⟩ := List.length_eq_one_iff.1 e
                exact hne y hy
              rw [dif_neg hn]
              exact ⟨us.toArray, rfl, by simpa using hl, fun i x hx => by
                obtain ⟨u, hu, hxr⟩ := hrep.2 i x hx
                exact ⟨u, by simpa using hu, hxr⟩⟩
          · exact hr.elim
        · exact hr.elim
      refine vc_sound (anns := anns f) hm hcons (inlOf_ok hm hcons hB hin anns k) (codeOf fn) 0 (enterSt fn xs off st) _ _ κ _ w h hR' ⟨fun κ' st' a' w' h' hR2 => hfin κ' st' a' w' h' hR2, fun id κ' st' a' w' h' hR2 => h'.elim, fun κ' st' a' w' h' hR2 => hfin κ' st' a' w' h' hR2,
        fun κ' st' a' w' c v h' hR2 hc => ⟨hR2.defers, .inr ⟨c, v, κ', _, rfl, h', hR2.leave hR.defers hR.size (fun t => rfl), hc⟩⟩⟩
    · exact hB w0 f xs off st K KP κ a w vs h hR hvs

/-- a function's contract, out of what is to be shown of its code -/
theorem holds_of_vc (c : Con) {fn : Func} {code : Code} (hf : P.funcs[c.f]? = some fn) (hb : fn.body = some code) (hname : (fn.name == "runtime.NumGoroutine") = false) (hm : P.follows .mixedOrders = true)
    (hargs : Nat.ble c.args.length fn.ntmps = true) (hcons : ∀ c ∈ cons, c.Holds P) {H : Inl} (hH : InlOk P H) (anns : Pays c.args → List (Nat × Ann)) (hfn : ∀ F, c.fn = some F → ∀ p r, c.post p r → r = F p)
    (HH : ∀ p, c.pre p → vc P cons (anns p) H code 0 (startOf fn (compsOf c.args p)) { normal := retPost P fn c p, exit := fun _ _ => False, ret := retPost P fn c p }) : c.Holds P := by
  refine ⟨⟨⟨fn, hf, hname, by rw [hb]; rfl⟩, hfn⟩, fun p vs w S hS hpre hvs => ?_⟩
  refine calls_of_wp hf hb ?_
  have hlen : ∀ (l : List CK) (p : Pays l), (compsOf l p).length = l.length := by
    intro l
    induction l with
    | nil => intro p; rfl
    | cons x l ih =>
      cases l with
      | nil => intro p; rfl
      | cons y r => intro p; show (compsOf (y :: r) p.2).length + 1 = _; rw [ih p.2]; rfl
  have hle : vs.length ≤ fn.ntmps := by
    rw [hvs.1, hlen]
    exact Nat.le_of_ble_eq_true hargs
  have hR : Rel { toWorld := w, S0 := S, sv := fun _ => Go.undef, n0 := w.heap.size, low := Nat.le_refl _, X := fun _ => False } (Cx.of S) (startOf fn (compsOf c.args p)) { tmps := vs.toArray ++ Array.replicate (fn.ntmps - vs.toArray.size) Go.undef, defers := [] } w := {
    defers := rfl
    size := by
      show (vs.toArray ++ Array.replicate (fn.ntmps - vs.toArray.size) Go.undef).size = fn.ntmps
      rw [Array.size_append, Array.size_replicate]
      simp; omega
    env := fun t => start_env hvs _ t
    box := fun b cs h => by cases h
    apart := fun b b' cs cs' h => by cases h
    row := fun r x h => by cases h
    rows := fun r r' x x' h => by cases h
    bound := hS
    below := .of_below (bel_refl w)
    old := fun g hg => .inl hg
    ext := ⟨fun t => trivial, (fun m y h => by cases h), (fun m m' y y' h => by cases h), (fun y h => by cases h), (fun i z h => by cases h), (fun i j z z' h => by cases h)⟩ }
  have hfin : ∀ (κ : Cx) (st : St) (a : Act) (w' : World), retPost P fn c p st → Rel { toWorld := w, S0 := S, sv := fun _ => Go.undef, n0 := w.heap.size, low := Nat.le_refl _, X := fun _ => False } κ st a w' → a.defers = [] ∧ ∃ v, (results fn a.tmps).run P w' = .ok v w' ∧
      ∃ (r : Pays c.res) (v' : Value), Ending.returned v = .returned v' ∧ c.post p r ∧ (resAV c.res r).Rep (Cx.of fun g => S g ∨ (w.heap.size ≤ g ∧ g < w'.heap.size)) w' v' ∧ Below w.heap.size w w' := fun κ st a w' h hR => by
    obtain ⟨κ, st, r, v, hR, hrun, hpost, hrep⟩ := ret_sound hR h
    refine ⟨hR.defers, v, hrun, r, v, rfl, hpost, ?_, hR.below.below (fun _ h => h)⟩
    have h1 : (resAV c.res r).Rep (Cx.of κ.S) w' v := resAV_plain (κ := κ) (κ' := Cx.of κ.S) c.res r rfl hrep
    exact AV.Rep.keeps (κ := Cx.of κ.S) (κ' := Cx.of fun g => S g ∨ (w.heap.size ≤ g ∧ g < w'.heap.size)) rfl rfl rfl (Keeps.refl w' κ.S) (fun g hg hlt => (hR.old g hg).imp id (fun h => ⟨h, hlt⟩)) h1
  refine vc_sound (anns := anns p) hm hcons hH code 0 _ _ _ (Cx.of S) _ w (HH p hpre) hR ⟨?_, ?_, ?_, ?_⟩
  · exact fun κ st a w' h hR => hfin κ st a w' h hR
  · exact fun id κ st a w' h hR => h.elim
  · exact fun κ st a w' h hR => hfin κ st a w' h hR
  · exact fun κ st a w' c v h hR hc => h.elim
end
end R
end Go.Proofs.YtldnfdghkdibmaaGreatDoor

/-
  Contracts of functions that write one variable through a pointer, and may panic.
-/
set_option linter.unusedVariables false
namespace Go.Proofs.YtldnfdghkdibmaaGreatDoor
open Go.RowKit
namespace R
/-- what a function makes of the variable that its first argument points to, and of its other arguments -/
structure RCon where
  f : FuncId
  ks : Kds
  args : List CK
  res : List CK
  pre : ks.Pay → Pays args → Prop
  F : ks.Pay → Pays args → Pays res × ks.Pay
  panics : Bool := false
  pt : TypeId := 0
  pks : Kds := .one .bool
  pan : ks.Pay → Pays args → Option pks.Pay := fun _ _ => none
def rcOf (f : FuncId) : List RCon → Option RCon
  | [] => none
  | c :: r => bif c.f.beq f then some c else rcOf f r
def St.dropB (st : St) (b : Nat) : St := { st with boxes := dropKey b st.boxes }
def asAVs : List Comp → List AV
  | [] => []
  | x :: r => .c x :: asAVs r
def refInl (rcs : List RCon) : Inl := fun f xs off st K KP =>
  match rcOf f rcs with
  | none => False
  | some c => match xs with
    | .one (.ptr b 0) :: rest => match st.box b with
      | some cs => match takeCells c.ks cs, takeAll c.args (asAVs rest) with
        | some x, some p => c.pre x p ∧ bif c.panics then (∀ y, c.pan x p = some y → KP (.dyn c.pt c.pks y) (st.dropB b)) ∧ (c.pan x p = none → ∀ (r : Pays c.res) (y : c.ks.Pay), c.F x p = (r, y) → K (compsOf c.res r) (st.setBox b (c.ks.cells y)))
          else ∀ (r : Pays c.res) (y : c.ks.Pay), c.F x p = (r, y) → K (compsOf c.res r) (st.setBox b (c.ks.cells y))
        | _, _ => False
      | none => False
    | _ => False
section
variable {w0 : Base} {w w' : World} {κ : Cx} {st : St} {a : Act} {P : Program} {cons : List Con}
def RCon.Holds (P : Program) (c : RCon) : Prop :=
  (∃ fn, P.funcs[c.f]? = some fn ∧ (fn.name == "runtime.NumGoroutine") = false ∧ fn.body.isNone = false) ∧
  ∀ (x : c.ks.Pay) (p : Pays c.args) (g : Nat) (ty : TypeId) (us : Array Value) (vs : List Value) (w : World) (S : Nat → Prop), (∀ g, S g → g < w.heap.size) → ¬ S g → Blk w g ty us → CellsRep (Cx.of S) w (c.ks.cells x) us → c.pre x p → CompsRep (Cx.of S) w (compsOf c.args p) vs →
    Calls P c.f (.pointer (some ⟨g, 0, none⟩) :: vs).toArray w fun e w' => w.grownBy w' (some g) ∧
      (((c.panics = true → c.pan x p = none) ∧ ∃ v ty' us', e = .returned v ∧ (resAV c.res (c.F x p).1).Rep (Cx.of fun g => S g ∨ (w.heap.size ≤ g ∧ g < w'.heap.size)) w' v ∧ Blk w' g ty' us' ∧ CellsRep (Cx.of fun g => S g ∨ (w.heap.size ≤ g ∧ g < w'.heap.size)) w' (c.ks.cells (c.F x p).2) us') ∨
      (c.panics = true ∧ ∃ y v, c.pan x p = some y ∧ e = .panicked [{ v := v, recovered := false }] ∧ Cell.Rep (Cx.of fun g => S g ∨ (w.heap.size ≤ g ∧ g < w'.heap.size)) w' (.dyn c.pt c.pks y) v))

/-- the callee wrote variable b, and made memory -/
theorem Rel.refDrop (h : Rel w0 κ st a w) {b : Nat} {cs : List Cell} (hb : st.box b = some cs) (hg : w.grownBy w' (some (κ.β b))) :
    Rel w0 { κ with S := fun g => κ.S g ∨ (w.heap.size ≤ g ∧ g < w'.heap.size) } (st.dropB b) a w' := by
  obtain ⟨us0, ty0, hblk0, hr0, hge, hS⟩ := h.box b cs hb
  have hsize : w.heap.size ≤ w'.heap.size := hg.size
  have hkeep : Keeps w w' κ.S := ⟨hsize, fun g o hs hlt => World.cell?_of_block (hg.block g hlt (fun e => by injection e with e; exact hS (e ▸ hs)))⟩
  have H : ∀ (c : Cell) v, c.Rep κ w v → c.Rep { κ with S := fun g => κ.S g ∨ (w.heap.size ≤ g ∧ g < w'.heap.size) } w' v := fun c v hr =>
    Cell.Rep.keeps (κ := κ) (κ' := { κ with S := fun g => κ.S g ∨ (w.heap.size ≤ g ∧ g < w'.heap.size) }) rfl rfl rfl hkeep (fun g hg _ => .inl hg) hr
  have hbox : ∀ b' bs, (st.dropB b).box b' = some bs → b' ≠ b ∧ st.box b' = some bs := fun b' bs hx => by
    have hx : look? b' (dropKey b st.boxes) = some bs := hx
    rw [look?_dropKey] at hx
    by_cases e : b' = b
    · rw [if_pos e] at hx; cases hx
    · rw [if_neg e] at hx; exact ⟨e, hx⟩
  exact {
    defers := h.defers
    size := h.size
    env := fun t => AV.Rep.mono H (h.env t)
    box := fun b' bs hx => by
      obtain ⟨hne, hx⟩ := hbox b' bs hx
      obtain ⟨us, ty, hblk, hr, h1, h2⟩ := h.box b' bs hx
      have hne' : κ.β b' ≠ κ.β b := fun e => hne (h.apart b' b bs cs hx hb e)
      refine ⟨us, ty, (hg.block _ hblk.lt (fun e => by injection e with e; exact hne' e)).trans hblk, hr.mono H, h1, fun hh => ?_⟩
      have hlt := hblk.lt
      rcases hh with hh | ⟨hh, _⟩
      · exact h2 hh
      · exact absurd hlt (Nat.not_lt.2 hh)
    apart := fun b1 b2 c1 c2 h1 h2 e => h.apart b1 b2 c1 c2 (hbox b1 c1 h1).2 (hbox b2 c2 h2).2 e
    row := fun r x hx => by
      obtain ⟨cells, ho, hc, hn⟩ := h.row r x hx
      refine ⟨cells, ho.kept hg ?_, RowCells.keeps (κ := κ) (κ' := { κ with S := fun g => κ.S g ∨ (w.heap.size ≤ g ∧ g < w'.heap.size) }) hkeep (fun g hg _ => .inl hg) hc, fun g hg' => ⟨fun hh => ?_, fun b' bs hx' => (hn g hg').2 b' bs (hbox b' bs hx').2⟩⟩
      · cases hb' : (κ.ρ r).ownBlock with
        | none => exact .inl rfl
        | some g =>
          refine .inr fun e => ?_
          injection e with e
          exact (hn g hb').2 b cs hb e.symm
      · have hlt := owns_lt ho g hg'
        rcases hh with hh | ⟨hh, _⟩
        · exact (hn g hg').1 hh
        · exact absurd hlt (Nat.not_lt.2 hh)
    rows := h.rows
    bound := fun g hg => by
      rcases hg with hg | ⟨_, hg⟩
      · exact Nat.lt_of_lt_of_le (h.bound g hg) hsize
      · exact hg
    below := ⟨hg.os.trans h.below.os, hg.tape.trans h.below.tape, hg.output.trans h.below.output, Nat.le_trans h.below.size hsize, fun k hk hx =>
      (hg.block k (Nat.lt_of_lt_of_le hk h.low) (fun e => by
        injection e with e
        rcases hge with hge | hge
        · omega
        · exact hx (e ▸ hge))).trans (h.below.block k hk hx)⟩
    old := fun g hg => by
      rcases hg with hg | ⟨hg, _⟩
      · exact h.old g hg
      · exact .inr (Nat.le_trans h.low hg)
    ext := h.ext.move (g := id) (fun c v hr => AV.Rep.mono H hr) (fun t => rfl) ⟨rfl, rfl, rfl⟩ rfl (fun k p v hr => H (.val k p) v hr) (fun g1 o ho hh => (hg.block g1 (Array.getElem?_eq_some_iff.1 hh).1 (fun e => by
      injection e with e
      rw [e, show w.heap[κ.β b]? = _ from hblk0] at hh; injection hh with hh; rw [← hh] at ho; cases ho)).trans hh) }
theorem Rel.refBack {b : Nat} (h : Rel w0 κ (st.dropB b) a w) {cs : List Cell} {us : Array Value} {ty : TypeId} (hblk : Blk w (κ.β b) ty us) (hv : CellsRep κ w cs us) (hge : w0.n0 ≤ κ.β b ∨ w0.X (κ.β b)) (hS : ¬ κ.S (κ.β b))
    (hap : ∀ b' bs, b' ≠ b → st.box b' = some bs → κ.β b' ≠ κ.β b) (hrow : ∀ r x, st.row r = some x → ∀ g, (κ.ρ r).ownBlock = some g → κ.β b ≠ g) : Rel w0 κ (st.setBox b cs) a w := by
  have hbox : ∀ b' bs', (st.setBox b cs).box b' = some bs' → (b' = b ∧ bs' = cs) ∨ (b' ≠ b ∧ st.box b' = some bs' ∧ (st.dropB b).box b' = some bs') := fun b' bs' hx => by
    have hx : look? b' ((b, cs) :: st.boxes) = some bs' := hx
    rw [look?_cons] at hx
    by_cases e : b = b'
    · rw [if_pos e] at hx; injection hx with hx; exact .inl ⟨e.symm, hx.symm⟩
    · rw [if_neg e] at hx
      refine .inr ⟨fun h => e h.symm, hx, ?_⟩
      show look? b' (dropKey b st.boxes) = _
      rw [look?_dropKey, if_neg (fun h => e h.symm)]; exact hx
  exact {
    defers := h.defers
    size := h.size
    env := h.env
    box := fun b' bs' hx => by
      rcases hbox b' bs' hx with ⟨rfl, rfl⟩ | ⟨_, _, hx⟩
      · exact ⟨us, ty, hblk, hv, hge, hS⟩
      · exact h.box b' bs' hx
    apart := fun b1 b2 c1 c2 h1 h2 e => by
      rcases hbox b1 c1 h1 with ⟨rfl, _⟩ | ⟨n1, x1, y1⟩ <;> rcases hbox b2 c2 h2 with ⟨rfl, _⟩ | ⟨n2, x2, y2⟩
      · rfl
      · exact absurd e.symm (hap b2 c2 n2 x2)
      · exact absurd e (hap b1 c1 n1 x1)
      · exact h.apart b1 b2 c1 c2 y1 y2 e
    row := fun r x hx => by
      obtain ⟨cells, ho, hc, hn⟩ := h.row r x hx
      refine ⟨cells, ho, hc, fun g hg => ⟨(hn g hg).1, fun b' bs' hb' e => ?_⟩⟩
      rcases hbox b' bs' hb' with ⟨rfl, _⟩ | ⟨_, _, y⟩
      · exact hrow r x hx g hg e
      · exact (hn g hg).2 b' bs' y e
    rows := h.rows
    bound := h.bound
    below := h.below
    old := h.old
    ext := ⟨h.ext.sav, h.ext.map, h.ext.maps, h.ext.nest, h.ext.iter, h.ext.iters⟩ }
theorem rcOf_spec {f : FuncId} {c : RCon} : ∀ {rcs : List RCon}, rcOf f rcs = some c → c ∈ rcs ∧ c.f = f
  | [], h => by cases h
  | x :: r, h => by
    have h : (bif x.f.beq f then some x else rcOf f r) = some c := h
    cases e : x.f.beq f
    · rw [e] at h
      obtain ⟨h1, h2⟩ := rcOf_spec (rcs := r) h
      exact ⟨List.mem_cons_of_mem _ h1, h2⟩
    · rw [e] at h
      injection h with h; subst h
      exact ⟨List.mem_cons_self, Nat.eq_of_beq_eq_true e⟩
theorem asAVs_spec : ∀ (l : List Comp) (us : List Value), CompsRep κ w l us → us.length = (asAVs l).length ∧ ∀ (i : Nat) x, (asAVs l)[i]? = some x → ∃ u, us[i]? = some u ∧ x.Rep κ w u
  | [], us, h => ⟨h.1, fun i x hx => by cases hx⟩
  | y :: r, us, h => by
    cases us with
    | nil => have := h.1; cases this
    | cons u us =>
      have h' : CompsRep κ w r us := ⟨by have := h.1; simpa using this, fun i c hc => h.2 (i + 1) c hc⟩
      have ih := asAVs_spec r us h'
      refine ⟨by show us.length + 1 = (asAVs r).length + 1; rw [ih.1], fun i x hx => ?_⟩
      cases i with
      | zero =>
        injection hx with hx; subst hx
        obtain ⟨u', hu, hr⟩ := h.2 0 _ rfl
        exact ⟨u', hu, hr⟩
      | succ i => exact ih.2 i x hx
theorem cellsRep_of {κ' : Cx} (ks : Kds) (p : ks.Pay) (hS : κ'.S = κ.S) {vs : Array Value} (h : CellsRep κ w (ks.cells p) vs) : CellsRep κ' w (ks.cells p) vs := h.plain (cells_plain ks p) hS
theorem refInl_ok {rcs : List RCon} (hrcs : ∀ c ∈ rcs, c.Holds P) : InlOk P (refInl rcs) := by
  intro w0 f xs off st K KP κ a w vs h hR hvs
  unfold refInl at h
  split at h
  · exact h.elim
  · rename_i c hc
    obtain ⟨hmem, rfl⟩ := rcOf_spec hc
    split at h
    · rename_i b rest
      split at h
      · rename_i cs hcs
        split at h
        · rename_i x p hx hp
          obtain ⟨hpre, hk⟩ := h
          obtain ⟨us, ty, hblk, hr, hge, hS⟩ := hR.box b cs hcs
          cases vs with
          | nil => have := hvs.1; cases this
          | cons v vs =>
            obtain ⟨v', hv', hv⟩ := hvs.2 0 _ rfl
            injection hv' with hv'; subst hv'
            have hv : v = .pointer (some ⟨κ.β b, 0, none⟩) := hv
            subst hv
            have hrest : CompsRep κ w rest vs := ⟨by have := hvs.1; simpa using this, fun i c hc => hvs.2 (i + 1) c hc⟩
            obtain ⟨e1, e2⟩ := asAVs_spec rest vs hrest
            have hargs := takeAll_av (κ := κ) (w := w) c.args _ p hp vs e1 e2
            have hus := takeCells_sound c.ks cs x us.toList hx (by simpa using hr)
            have hus : CellsRep κ w (c.ks.cells x) us := by simpa using hus
            obtain ⟨hfn, hcall⟩ := hrcs c hmem
            refine ⟨hfn, ?_⟩
            refine (hcall x p (κ.β b) ty us vs w κ.S hR.bound hS hblk (cellsRep_of (κ := κ) (κ' := Cx.of κ.S) _ _ rfl hus) hpre (comps_plain c.args p (κ := κ) (κ' := Cx.of κ.S) rfl hargs)).mono ?_
            rintro e w' ⟨hg, hcase⟩
            have hd := hR.refDrop hcs hg
            rcases hcase with ⟨hnp, v, ty', us', rfl, hv, hb', hc'⟩ | ⟨hp1, y, v, hy, rfl, hv⟩
            · left
              have hK : K (compsOf c.res (c.F x p).1) (st.setBox b (c.ks.cells (c.F x p).2)) := by
                cases hpp : c.panics
                · rw [hpp] at hk; exact hk _ _ rfl
                · rw [hpp] at hk; exact hk.2 (hnp hpp) _ _ rfl
              refine ⟨v, _, { κ with S := fun g => κ.S g ∨ (w.heap.size ≤ g ∧ g < w'.heap.size) }, _, rfl, hK, ?_, ?_⟩
              · refine hd.refBack hb' (cellsRep_of (κ := Cx.of fun g => κ.S g ∨ (w.heap.size ≤ g ∧ g < w'.heap.size)) (κ' := { κ with S := fun g => κ.S g ∨ (w.heap.size ≤ g ∧ g < w'.heap.size) }) _ _ rfl hc') hge (fun hh => ?_) (fun b' bs hne hb e => hne (hR.apart b' b bs cs hb hcs e)) (fun r z hz g hg' => ?_)
                · have hlt := hblk.lt
                  rcases hh with hh | ⟨hh, _⟩
                  · exact hS hh
                  · exact absurd hlt (Nat.not_lt.2 hh)
                · obtain ⟨_, _, _, hn⟩ := hR.row r z hz
                  exact (hn g hg').2 b cs hcs
              · exact resAV_plain (κ := Cx.of fun g => κ.S g ∨ (w.heap.size ≤ g ∧ g < w'.heap.size)) (κ' := { κ with S := fun g => κ.S g ∨ (w.heap.size ≤ g ∧ g < w'.heap.size) }) c.res _ rfl hv
            · right
              rw [hp1] at hk
              refine ⟨_, v, _, _, rfl, hk.1 y hy, hd, ?_⟩
              obtain ⟨vs', rfl, h1, h2⟩ := hv
              exact ⟨vs', rfl, h1, h2⟩
        · exact h.elim
      · exact h.elim
    · exact h.elim

def refStart (fn : Func) (c : RCon) (x : c.ks.Pay) (p : Pays c.args) : St := { n := fn.ntmps, env := envOf 0 (.one (.ptr 0 0) :: compsOf c.args p), boxes := [(0, c.ks.cells x)], rows := [], sav := [(0, .c (.one (.ptr 0 0)))] }
def refPost (P : Program) (fn : Func) (c : RCon) (x : c.ks.Pay) (p : Pays c.args) (st : St) : Prop :=
  match look (.c (.one .any)) 0 (st.freezeAll (keysOf st.rows)).sav, (st.freezeAll (keysOf st.rows)).box 0, resAll P (st.freezeAll (keysOf st.rows)) fn.results.toList with
  | .c (.one (.ptr 0 0)), some cs, some xs => match takeCells c.ks cs, takeAll c.res xs with
    | some y, some r => (bif c.panics then c.pan x p = none else True) ∧ r = (c.F x p).1 ∧ y = (c.F x p).2
    | _, _ => False
  | _, _, _ => False
def refPanic (c : RCon) (x : c.ks.Pay) (p : Pays c.args) (d : Cell) (st : St) : Prop :=
  match d with
  | .dyn t ks y => bif c.panics && t.beq c.pt then (match ks.deq c.pks with | some ⟨h⟩ => c.pan x p = some (h ▸ y) | none => False) else False
  | _ => False
theorem ref_of_vc (c : RCon) {fn : Func} (hf : P.funcs[c.f]? = some fn) (hb : fn.body.isSome = true) (hname : (fn.name == "runtime.NumGoroutine") = false) (hm : P.follows .mixedOrders = true)
    (hargs : Nat.ble (c.args.length + 1) fn.ntmps = true) (hcons : ∀ c ∈ cons, c.Holds P) {H : Inl} (hH : InlOk P H) (anns : c.ks.Pay → Pays c.args → List (Nat × Ann))
    (HH : ∀ x p, c.pre x p → vc P cons (anns x p) H (codeOf fn) 0 (refStart fn c x p) { normal := refPost P fn c x p, exit := fun _ _ => False, ret := refPost P fn c x p, panic := refPanic c x p }) : c.Holds P := by
  obtain ⟨code, hcode⟩ := Option.isSome_iff_exists.1 hb
  have hco : codeOf fn = code := by unfold codeOf; rw [hcode]; rfl
  refine ⟨⟨fn, hf, hname, by rw [hcode]; rfl⟩, fun x p g ty us vs w S hS hnS hblk hus hpre hvs => ?_⟩
  refine calls_of_wp hf hcode ?_
  rw [← hco]
  have hlen : ∀ (l : List CK) (p : Pays l), (compsOf l p).length = l.length := by
    intro l
    induction l with
    | nil => intro p; rfl
    | cons x l ih =>
      cases l with
      | nil => intro p; rfl
      | cons y r => intro p; show (compsOf (y :: r) p.2).length + 1 = _; rw [ih p.2]; rfl
  have hle : vs.length + 1 ≤ fn.ntmps := by
    rw [hvs.1, hlen]
    exact Nat.le_of_ble_eq_true hargs
  let w0 : Base := { toWorld := w, S0 := S, sv := fun _ => .pointer (some ⟨g, 0, none⟩), n0 := w.heap.size, low := Nat.le_refl _, X := fun k => k = g }
  let κ : Cx := { β := fun _ => g, ρ := fun _ => Go.undef, S := S }
  have hvs' : CompsRep κ w (.one (.ptr 0 0) :: compsOf c.args p) (.pointer (some ⟨g, 0, none⟩) :: vs) := by
    have h2 : CompsRep κ w (compsOf c.args p) vs := comps_plain c.args p (κ := Cx.of S) (κ' := κ) rfl hvs
    refine ⟨by rw [List.length_cons, List.length_cons, h2.1], fun i c hc => ?_⟩
    cases i with
    | zero => injection hc with hc; subst hc; exact ⟨_, rfl, rfl⟩
    | succ i => exact h2.2 i c hc
  have hR : Rel w0 κ (refStart fn c x p) { tmps := (.pointer (some ⟨g, 0, none⟩) :: vs).toArray ++ Array.replicate (fn.ntmps - (.pointer (some ⟨g, 0, none⟩) :: vs).toArray.size) Go.undef, defers := [] } w := {
    defers := rfl
    size := by
      show ((.pointer (some ⟨g, 0, none⟩) :: vs).toArray ++ Array.replicate (fn.ntmps - (.pointer (some ⟨g, 0, none⟩) :: vs).toArray.size) Go.undef).size = fn.ntmps
      rw [Array.size_append, Array.size_replicate]
      simp; omega
    env := fun t => start_env hvs' _ t
    box := fun b cs h => by
      have h : look? b [(0, c.ks.cells x)] = some cs := h
      rw [look?_cons] at h
      split at h
      · injection h with h; subst h
        exact ⟨us, ty, hblk, cellsRep_of (κ := Cx.of S) (κ' := κ) _ _ rfl hus, .inr rfl, hnS⟩
      · cases h
    apart := fun b b' cs cs' h h' _ => by
      have h : look? b [(0, c.ks.cells x)] = some cs := h
      have h' : look? b' [(0, c.ks.cells x)] = some cs' := h'
      rw [look?_cons] at h h'
      split at h
      · split at h'
        · omega
        · cases h'
      · cases h
    row := fun r x h => by cases h
    rows := fun r r' x x' h => by cases h
    bound := hS
    below := .of_below (bel_refl w)
    old := fun g hg => .inl hg
    ext := ⟨fun t => by
      show AV.Rep _ _ (look _ t [(0, .c (.one (.ptr 0 0)))]) _
      rw [look_cons]
      split
      · rfl
      · trivial, (fun m y h => by cases h), (fun m m' y y' h => by cases h), (fun y h => by cases h), (fun i z h => by cases h), (fun i j z z' h => by cases h)⟩ }
  have hgrow : ∀ {κ : Cx} {st : St} {a : Act} {w' : World}, Rel w0 κ st a w' → w.grownBy w' (some g) := fun hR => ⟨hR.below.os, hR.below.tape, hR.below.output, hR.below.size, fun k hk hne => hR.below.block k hk (fun e => hne (by rw [show k = g from e]))⟩
  have hfin : ∀ (κ : Cx) (st : St) (a : Act) (w' : World), refPost P fn c x p st → Rel w0 κ st a w' → a.defers = [] ∧ ∃ v, (results fn a.tmps).run P w' = .ok v w' ∧ w.grownBy w' (some g) ∧
      (((c.panics = true → c.pan x p = none) ∧ ∃ v' ty' us', Ending.returned v = .returned v' ∧ (resAV c.res (c.F x p).1).Rep (Cx.of fun g => S g ∨ (w.heap.size ≤ g ∧ g < w'.heap.size)) w' v' ∧ Blk w' g ty' us' ∧ CellsRep (Cx.of fun g => S g ∨ (w.heap.size ≤ g ∧ g < w'.heap.size)) w' (c.ks.cells (c.F x p).2) us') ∨
      (c.panics = true ∧ ∃ y v', c.pan x p = some y ∧ Ending.returned v = .panicked [{ v := v', recovered := false }] ∧ Cell.Rep (Cx.of fun g => S g ∨ (w.heap.size ≤ g ∧ g < w'.heap.size)) w' (.dyn c.pt c.pks y) v')) := fun κ st a w' h hR => by
    unfold refPost at h
    obtain ⟨κ1, hR⟩ := Rel.freezeAll (keysOf st.rows) hR
    split at h
    · rename_i cs xs hsav hbox hres
      split at h
      · rename_i y r hy hr
        obtain ⟨hp, hr1, hy1⟩ := h
        obtain ⟨us1, h1, h2, h3⟩ := resAll_run hR fn.results.toList xs hres
        have hrep := takeAll_av (κ := κ1) (w := w') c.res xs r hr us1 h1 h2
        have hrun : (results fn a.tmps).run P w' = .ok (if h : us1.toArray.size = 1 then us1.toArray[0] else .tuple us1.toArray) w' := by
          unfold results
          rw [Sem.run_bind, Array.mapM_eq_mapM_toList, Sem.run_map]
          erw [h3]
          rfl
        have hβ : κ1.β 0 = g := by
          have := hR.ext.sav 0
          rw [hsav] at this
          have this : Value.pointer (some ⟨g, 0, none⟩) = .pointer (some ⟨κ1.β 0, 0, none⟩) := this
          injection this with this; injection this with this; injection this with this
          exact this.symm
        obtain ⟨us2, ty2, hblk2, hr2, _, _⟩ := hR.box 0 cs hbox
        rw [hβ] at hblk2
        have hcs := takeCells_sound c.ks cs y us2.toList hy (by simpa using hr2)
        have hcs : CellsRep κ1 w' (c.ks.cells y) us2 := by simpa using hcs
        have hmono : ∀ (c : Cell) v, c.Rep (Cx.of κ1.S) w' v → c.Rep (Cx.of fun g => S g ∨ (w.heap.size ≤ g ∧ g < w'.heap.size)) w' v := fun c v hc =>
          Cell.Rep.keeps (κ := Cx.of κ1.S) (κ' := Cx.of fun g => S g ∨ (w.heap.size ≤ g ∧ g < w'.heap.size)) rfl rfl rfl (Keeps.refl w' _) (fun k hk hlt => (hR.old k hk).imp id (fun h => ⟨h, hlt⟩)) hc
        refine ⟨hR.defers, _, hrun, hgrow hR, .inl ⟨fun hpp => ?_, _, ty2, us2, rfl, ?_, hblk2, ?_⟩⟩
        · rw [hpp] at hp; exact hp
        · rw [← hr1]
          have : (resAV c.res r).Rep κ1 w' (if h : us1.toArray.size = 1 then us1.toArray[0] else .tuple us1.toArray) := by
            unfold resAV
            split
            · rename_i z hz
              rw [hz] at hrep
              have hl : us1.length = 1 := hrep.1
              obtain ⟨u, rfl⟩ := List.length_eq_one_iff.1 hl
              obtain ⟨u', hu, hxr⟩ := hrep.2 0 z rfl
              injection hu with hu; subst hu
              exact hxr
            · rename_i ys hne
              have hl : us1.length = (compsOf c.res r).length := hrep.1
              have hn : us1.toArray.size ≠ 1 := fun e => by
                have e : us1.length = 1 := by simpa using e
                rw [hl] at e
                obtain ⟨y, hy⟩ := List.length_eq_one_iff.1 e
                exact hne y hy
              rw [dif_neg hn]
              exact ⟨us1.toArray, rfl, by simpa using hl, fun i x hx => by
                obtain ⟨u, hu, hxr⟩ := hrep.2 i x hx
                exact ⟨u, by simpa using hu, hxr⟩⟩
          exact AV.Rep.mono hmono (resAV_plain (κ := κ1) (κ' := Cx.of κ1.S) c.res r rfl this)
        · rw [← hy1]
          exact CellsRep.mono hmono (cellsRep_of (κ := κ1) (κ' := Cx.of κ1.S) _ _ rfl hcs)
      · exact h.elim
    · exact h.elim
  refine vc_sound (anns := anns x p) hm hcons hH (codeOf fn) 0 _ _ _ κ _ w (HH x p hpre) hR ⟨fun κ st a w' h hR => hfin κ st a w' h hR, fun id κ st a w' h hR => h.elim, fun κ st a w' h hR => hfin κ st a w' h hR, ?_⟩
  intro κ1 st a w' d v h hR hd
  refine ⟨hR.defers, hgrow hR, .inr ?_⟩
  have h : refPanic c x p d st := h
  unfold refPanic at h
  cases d with
  | dyn t ks y =>
    dsimp only at h
    cases hb : c.panics && t.beq c.pt
    · rw [hb] at h; exact h.elim
    · rw [hb] at h
      rw [Bool.and_eq_true] at hb
      have h : (match ks.deq c.pks with | some ⟨h⟩ => c.pan x p = some (h ▸ y) | none => False) := h
      split at h
      · rename_i e _
        refine ⟨hb.1, _, v, h, rfl, ?_⟩
        have ht := Nat.eq_of_beq_eq_true hb.2
        obtain ⟨vs', hv, h1, h2⟩ := hd
        rw [← ht]
        have key : ∀ (ks' : Kds) (e : ks = ks'), Cell.Rep (Cx.of fun g => S g ∨ (w.heap.size ≤ g ∧ g < w'.heap.size)) w' (.dyn t ks' (e ▸ y)) v := by
          intro ks' e
          subst e
          refine ⟨vs', hv, h1, fun f z hz => ?_⟩
          obtain ⟨u, hu, hr⟩ := h2 f z hz
          exact ⟨u, hu, Kd.Rep.keeps (S := κ1.S) (Keeps.refl w' _) (fun k hk hlt => (hR.old k hk).imp id (fun h => ⟨h, hlt⟩)) _ _ _ hr⟩
        exact key _ e
      · exact h.elim
  | _ => exact h.elim
end
end R
end Go.Proofs.YtldnfdghkdibmaaGreatDoor

/-
  The way from a contract to what is to be shown of the code.
-/
set_option linter.unusedVariables false
namespace Go.Proofs.YtldnfdghkdibmaaGreatDoor
open Go.RowKit
namespace R
/-- what is to be shown of a function's code, where calls without contracts are as H says -/
def vcOfH (P : Program) (cons : List Con) (H : Inl) (anns : List (Nat × Ann)) (c : Con) (fn : Func) (p : Pays c.args) : Prop :=
  vc P cons anns H (codeOf fn) 0 (startOf fn (compsOf c.args p)) { normal := retPost P fn c p, exit := fun _ _ => False, ret := retPost P fn c p }
/-- the same, with contracts over a variable -/
noncomputable def vcOfR (P : Program) (cons : List Con) (rcs : List RCon) (inls : List (Nat × Func)) (annsI : Nat → List (Nat × Ann)) (anns : List (Nat × Ann)) (c : Con) (fn : Func) (p : Pays c.args) : Prop := vcOfH P cons (inlOf P cons (refInl rcs) inls annsI 8) anns c fn p
/-- what is to be shown of a function's code -/
def vcOf (P : Program) (cons : List Con) (anns : List (Nat × Ann)) (c : Con) (fn : Func) (p : Pays c.args) : Prop := vcOfH P cons noInl anns c fn p
/-- the same, with the code of these functions taken itself, 8 deep -/
noncomputable def vcOfI (P : Program) (cons : List Con) (inls : List (Nat × Func)) (annsI : Nat → List (Nat × Ann)) (anns : List (Nat × Ann)) (c : Con) (fn : Func) (p : Pays c.args) : Prop := vcOfH P cons (inlOf P cons noInl inls annsI 8) anns c fn p
theorem holdsH {P : Program} {cons : List Con} (c : Con) {fn : Func} (hf : P.funcs[c.f]? = some fn) (hb : fn.body.isSome = true) (hname : (fn.name == "runtime.NumGoroutine") = false) (hm : P.follows .mixedOrders = true)
    (hargs : Nat.ble c.args.length fn.ntmps = true) (hcons : ∀ c ∈ cons, c.Holds P) {H : Inl} (hH : InlOk P H) (anns : Pays c.args → List (Nat × Ann)) (hfn : ∀ F, c.fn = some F → ∀ p r, c.post p r → r = F p) (HH : ∀ p, c.pre p → vcOfH P cons H (anns p) c fn p) : c.Holds P := by
  obtain ⟨code, hcode⟩ := Option.isSome_iff_exists.1 hb
  refine holds_of_vc (code := code) c hf hcode hname hm hargs hcons hH anns hfn fun p hp => ?_
  have := HH p hp
  unfold vcOfH codeOf at this
  rw [hcode] at this
  exact this
theorem holds {P : Program} {cons : List Con} (c : Con) {fn : Func} (hf : P.funcs[c.f]? = some fn) (hb : fn.body.isSome = true) (hname : (fn.name == "runtime.NumGoroutine") = false) (hm : P.follows .mixedOrders = true)
    (hargs : Nat.ble c.args.length fn.ntmps = true) (hcons : ∀ c ∈ cons, c.Holds P) (anns : Pays c.args → List (Nat × Ann)) (hfn : ∀ F, c.fn = some F → ∀ p r, c.post p r → r = F p) (H : ∀ p, c.pre p → vcOf P cons (anns p) c fn p) : c.Holds P :=
  holdsH c hf hb hname hm hargs hcons noInl_ok anns hfn H
/-- the same for a contract that reckons its results -/
theorem holdsF {P : Program} {cons : List Con} {f : FuncId} {args res : List CK} {pre : Pays args → Prop} {F : Pays args → Pays res} {fn : Func} (hf : P.funcs[f]? = some fn) (hb : fn.body.isSome = true) (hname : (fn.name == "runtime.NumGoroutine") = false) (hm : P.follows .mixedOrders = true)
    (hargs : Nat.ble args.length fn.ntmps = true) (hcons : ∀ c ∈ cons, c.Holds P) (anns : Pays args → List (Nat × Ann)) (H : ∀ p, pre p → vcOf P cons (anns p) (Con.of f args res pre F) fn p) : (Con.of f args res pre F).Holds P :=
  holds (Con.of f args res pre F) hf hb hname hm hargs hcons anns (fun F' h p r hr => by injection h with h; subst h; exact hr) H
/-- the same, with the code of some functions taken itself -/
theorem holdsI {P : Program} {cons : List Con} {inls : List (Nat × Func)} {annsI : Nat → List (Nat × Ann)} {f : FuncId} {args res : List CK} {pre : Pays args → Prop} {F : Pays args → Pays res} {fn : Func} (hf : P.funcs[f]? = some fn) (hb : fn.body.isSome = true) (hname : (fn.name == "runtime.NumGoroutine") = false) (hm : P.follows .mixedOrders = true)
    (hargs : Nat.ble args.length fn.ntmps = true) (hcons : ∀ c ∈ cons, c.Holds P) (hin : InlFacts P inls) (anns : Pays args → List (Nat × Ann)) (H : ∀ p, pre p → vcOfI P cons inls annsI (anns p) (Con.of f args res pre F) fn p) : (Con.of f args res pre F).Holds P :=
  holdsH (Con.of f args res pre F) hf hb hname hm hargs hcons (inlOf_ok hm hcons noInl_ok hin annsI 8) anns (fun F' h p r hr => by injection h with h; subst h; exact hr) H
theorem holdsFR {P : Program} {cons : List Con} {rcs : List RCon} {inls : List (Nat × Func)} {annsI : Nat → List (Nat × Ann)} {f : FuncId} {args res : List CK} {pre : Pays args → Prop} {F : Pays args → Pays res} {fn : Func} (hf : P.funcs[f]? = some fn) (hb : fn.body.isSome = true) (hname : (fn.name == "runtime.NumGoroutine") = false) (hm : P.follows .mixedOrders = true)
    (hargs : Nat.ble args.length fn.ntmps = true) (hcons : ∀ c ∈ cons, c.Holds P) (hrcs : ∀ c ∈ rcs, c.Holds P) (hin : InlFacts P inls) (anns : Pays args → List (Nat × Ann)) (H : ∀ p, pre p → vcOfR P cons rcs inls annsI (anns p) (Con.of f args res pre F) fn p) : (Con.of f args res pre F).Holds P :=
  holdsH (Con.of f args res pre F) hf hb hname hm hargs hcons (inlOf_ok hm hcons (refInl_ok hrcs) hin annsI 8) anns (fun F' h p r hr => by injection h with h; subst h; exact hr) H
/-- what is to be shown of a function that writes a variable through a pointer -/
noncomputable def vcRef (P : Program) (cons : List Con) (rcs : List RCon) (inls : List (Nat × Func)) (annsI : Nat → List (Nat × Ann)) (anns : List (Nat × Ann)) (c : RCon) (fn : Func) (b : c.ks.Pay) (p : Pays c.args) : Prop :=
  vc P cons anns (inlOf P cons (refInl rcs) inls annsI 8) (codeOf fn) 0 (refStart fn c b p) { normal := refPost P fn c b p, exit := fun _ _ => False, ret := refPost P fn c b p, panic := refPanic c b p }
theorem holdsRef {P : Program} {cons : List Con} {rcs : List RCon} {inls : List (Nat × Func)} {annsI : Nat → List (Nat × Ann)} (c : RCon) {fn : Func} (hf : P.funcs[c.f]? = some fn) (hb : fn.body.isSome = true) (hname : (fn.name == "runtime.NumGoroutine") = false) (hm : P.follows .mixedOrders = true)
    (hargs : Nat.ble (c.args.length + 1) fn.ntmps = true) (hcons : ∀ c ∈ cons, c.Holds P) (hrcs : ∀ c ∈ rcs, c.Holds P) (hin : InlFacts P inls) (anns : c.ks.Pay → Pays c.args → List (Nat × Ann)) (H : ∀ b p, c.pre b p → vcRef P cons rcs inls annsI (anns b p) c fn b p) : c.Holds P :=
  ref_of_vc c hf hb hname hm hargs hcons (inlOf_ok hm hcons (refInl_ok hrcs) hin annsI 8) anns H
end R
end Go.Proofs.YtldnfdghkdibmaaGreatDoor

/-
  Annotations that look at the loop's entry; contracts out of walks.
-/
set_option linter.unusedVariables false
namespace Go.Proofs.YtldnfdghkdibmaaGreatDoor
open Go.RowKit
namespace R
def St.strOf (st : St) (t : Nat) : List UInt8 :=
  match st.get t with
  | .c (.one (.val .str s)) => s
  | _ => []
def St.intOf (st : St) (t : Nat) : Int :=
  match st.get t with
  | .c (.one (.val (.int _) n)) => n
  | _ => 0
def annS (l : Nat) (ι : Type) (live : List Nat) (over : ι → List (Nat × AV)) (rows : ι → List (Nat × Row)) (inv : St → ι → Prop) (mu : St → ι → Nat) : Nat × Ann := (l, { ι := ι, at_ := fun st p => st.head live (over p) (rows p), inv := inv, mu := mu })

theorem bifP {b : Bool} {A B : Prop} (ht : b = true → A) (hf : b = false → B) : bif b then A else B := by
  cases b
  · exact hf rfl
  · exact ht rfl
theorem comp_one {κ : Cx} {w : World} {k : Kd} {p : k.Pay} {vs : List Value} (h : CompsRep κ w [.one (.val k p)] vs) : ∃ v, vs = [v] ∧ k.Rep w κ.S p v := by
  obtain ⟨v, rfl⟩ := List.length_eq_one_iff.1 h.1
  obtain ⟨u, hu, hr⟩ := h.2 0 _ rfl
  injection hu with hu; subst hu
  exact ⟨v, rfl, hr⟩
/-- a walk of a function from a string to a bool that leaves the world as it is -/
theorem holds_str_bool {P : Program} {f : FuncId} {fn : Func} {pre : List UInt8 → Prop} {F : List UInt8 → Bool} (hf : P.funcs[f]? = some fn) (hb : fn.body.isNone = false) (hname : (fn.name == "runtime.NumGoroutine") = false)
    (h : ∀ (s : List UInt8) (w : World), pre s → Calls P f #[.string (bs s)] w fun e w' => e = .returned (.bool (F s)) ∧ Below w.heap.size w w') : (Con.of f [.one .str] [.one .bool] pre F).Holds P := by
  refine ⟨⟨⟨fn, hf, hname, hb⟩, fun F' hF p r hr => by injection hF with hF; subst hF; exact hr⟩, fun p vs w S hS hp hvs => ?_⟩
  obtain ⟨v, rfl, hv⟩ := comp_one hvs
  obtain rfl : v = .string (bs p) := hv
  refine (h p w hp).mono ?_
  rintro e w' ⟨rfl, hbl⟩
  exact ⟨F p, _, rfl, rfl, rfl, hbl⟩
end R
end Go.Proofs.YtldnfdghkdibmaaGreatDoor

/-
  Arguments of whatever kind, opened: what they read as, and that each is within a Go value's bounds.
-/
set_option linter.unusedVariables false
namespace Go.Proofs.YtldnfdghkdibmaaGreatDoor
open Go.RowKit Go.ChangeShapes Go.WideShapes
namespace R
mutual
/-- a type whose values are of this kind -/
def KdT (P : Program) : Kd → TypeId → Prop
  | .int k, t => P.underlying t = some (.int k)
  | .bool, t => P.underlying t = some .bool
  | .str, t => P.underlying t = some .string
  | .sl fs, t => ∃ e, P.underlying t = some (.slice e) ∧ P.cellsOf e = fs.size ∧ KdsT P fs e
/-- a type whose values take a row of cells of these kinds -/
def KdsT (P : Program) : Kds → TypeId → Prop
  | .one k, e => KdT P k e ∨ ∃ (F : Array Field) (f : Field), P.underlying e = some (.struct F) ∧ F.toList = [f] ∧ f.offset = 0 ∧ P.cellsOf f.type = 1 ∧ KdT P k f.type
  | .cons k ks, e => ∃ (F : Array Field) (f : Field) (r : List Field), P.underlying e = some (.struct F) ∧ F.toList = f :: r ∧ f.offset = 0 ∧ P.cellsOf f.type = 1 ∧ KdT P k f.type ∧ FldsT P ks r 1
/-- fields from cell number o on -/
def FldsT (P : Program) : Kds → List Field → Nat → Prop
  | .one k, l, o => ∃ f, l = [f] ∧ f.offset = o ∧ P.cellsOf f.type = 1 ∧ KdT P k f.type
  | .cons k ks, l, o => ∃ f r, l = f :: r ∧ f.offset = o ∧ P.cellsOf f.type = 1 ∧ KdT P k f.type ∧ FldsT P ks r (o + 1)
end
mutual
/-- what each Go value of a kind keeps within -/
def Kd.Big : (k : Kd) → k.Pay → Prop
  | .int k, n => (Lit.int k n).wf = true
  | .bool, _ => True
  | .str, s => List.length (α := UInt8) s ≤ 9223372036854775807
  | .sl fs, xs => (xs : List fs.Pay).length ≤ 9223372036854775807 ∧ ∀ x ∈ (xs : List fs.Pay), fs.Big x
def Kds.Big : (fs : Kds) → fs.Pay → Prop
  | .one k, p => k.Big p
  | .cons k ks, p => k.Big p.1 ∧ ks.Big p.2
end
theorem add_pl' (g off j : Nat) : (⟨g, off, none⟩ : Addr).add j = ⟨g, off + j, none⟩ := by unfold Addr.add; split <;> simp_all
theorem cell_plain' {w : World} {a : Addr} {v : Value} (h : w.cell? (a.add 0) = some v) : ∃ g o, a = ⟨g, o, none⟩ ∧ g < w.heap.size := by
  obtain ⟨g, o, sp⟩ := a
  unfold World.cell? Addr.add at h
  simp only [if_true] at h
  split at h
  · rename_i hg
    cases sp with
    | none => exact ⟨g, o, rfl, (Array.getElem?_eq_some_iff.1 hg).1⟩
    | some x => simp at h
  · cases h
section
variable {H : Type} {enc : TypeId × Value → H} {P : Program} {w : World} {base : Nat} {spare : Nat → Bool} {held : Bool}
/-- the blocks of the memory at hand -/
abbrev Here (w : World) (g : Nat) : Prop := g < w.heap.size
/-- what a row of cells reads as, cell by cell -/
def CellsAs (w : World) : (fs : Kds) → fs.Pay → List Value → Prop
  | .one k, p, cs => ∃ v, cs = [v] ∧ k.Rep w (Here w) p v
  | .cons k ks, p, cs => ∃ v r, cs = v :: r ∧ k.Rep w (Here w) p.1 v ∧ CellsAs w ks p.2 r
theorem CellsAs.row : ∀ (fs : Kds) (p : fs.Pay) (cs : List Value) (g o : Nat), CellsAs w fs p cs → (∀ i, i < cs.length → w.cell? ⟨g, o + i, none⟩ = cs[i]?) → fs.Rep w (Here w) p g o
  | .one k, p, cs, g, o, h, hc => by
    obtain ⟨v, rfl, hv⟩ := h
    exact ⟨v, hc 0 (by simp), hv⟩
  | .cons k ks, p, cs, g, o, h, hc => by
    obtain ⟨v, r, rfl, hv, hr⟩ := h
    refine ⟨⟨v, hc 0 (by simp), hv⟩, CellsAs.row ks p.2 r g (o + 1) hr fun i hi => ?_⟩
    have := hc (i + 1) (by simp; omega)
    rw [show o + 1 + i = o + (i + 1) by omega]
    exact this
theorem CellsAs.len : ∀ (fs : Kds) (p : fs.Pay) (cs : List Value), CellsAs w fs p cs → cs.length = fs.size
  | .one k, p, cs, h => by obtain ⟨v, rfl, _⟩ := h; rfl
  | .cons k ks, p, cs, h => by
    obtain ⟨v, r, rfl, _, hr⟩ := h
    have := CellsAs.len ks p.2 r hr
    show r.length + 1 = ks.size + 1
    omega
mutual
theorem open_kd : ∀ (k : Kd) (t : TypeId), KdT P k t → ∀ (fuel : Nat) (cs : List Value) (x : DataW H × List MemPlace), DataW.trod enc P w base spare held fuel t cs = some x → ∃ v p, cs = [v] ∧ k.Rep w (Here w) p v ∧ k.Big p
  | .int k, t, ht, fuel, cs, x, h => by
    obtain ⟨n, h1, h2, h3⟩ := DataW.trod_int ht h
    exact ⟨_, n, h1, rfl, by first | exact h3 | exact h3.1 | exact h3.2⟩
  | .bool, t, ht, fuel, cs, x, h => by
    obtain ⟨b, h1, _⟩ := DataW.trod_bool ht h
    exact ⟨_, b, h1, rfl, trivial⟩
  | .str, t, ht, fuel, cs, x, h => by
    obtain ⟨s, h1, _, h3⟩ := DataW.trod_string ht h
    exact ⟨_, s.data.toList, h1, rfl, h3⟩
  | .sl fs, t, ht, fuel, cs, x, h => by
    obtain ⟨e, hu, hce, he⟩ := ht
    rcases Go.Deep.open_slice hu h with ⟨rfl, _⟩ | ⟨a, len, cap, m, n, D, Pl, rfl, hb, hlc, hm, hmm, _, hx⟩
    · exact ⟨_, ([] : List fs.Pay), rfl, ⟨none, 0, rfl, Nat.le_refl _, fun h => absurd h (Nat.lt_irrefl _)⟩, Nat.zero_le _, fun x h => by cases h⟩
    · have hlm : len ≤ m := by rw [hmm]; split <;> omega
      have each : ∀ i, i < len → ∃ p : fs.Pay, ∀ g o, a = ⟨g, o, none⟩ → fs.Rep w (Here w) p g (o + i * fs.size) ∧ fs.Big p := fun i hi => by
        obtain ⟨cs', h1, h2⟩ := hx i (by omega)
        obtain ⟨p, hp, hbig⟩ := open_kds fs e he n cs' _ hce h2
        refine ⟨p, fun g o ha => ⟨CellsAs.row fs p cs' g _ hp fun j hj => ?_, hbig⟩⟩
        subst ha
        obtain ⟨_, hl, hc⟩ := World.cells?_some h1
        have := hc j (by omega)
        rw [add_pl', add_pl', hce] at this
        exact this
      obtain ⟨f, hf⟩ : ∃ f : Nat → fs.Pay, ∀ i, i < len → ∀ g o, a = ⟨g, o, none⟩ → fs.Rep w (Here w) (f i) g (o + i * fs.size) ∧ fs.Big (f i) := by
        haveI : Inhabited fs.Pay := ⟨fs.dflt⟩
        exact Go.Deep.choose_lt each
      have hlen : ((List.range len).map f).length = len := by simp
      have hpl : 0 < len → ∃ g o, a = ⟨g, o, none⟩ ∧ g < w.heap.size := fun hpos => by
        obtain ⟨cs', h1, _⟩ := hx 0 (by omega)
        obtain ⟨_, hl, hc⟩ := World.cells?_some h1
        have := hc 0 (by rw [hce]; exact fs.size_pos)
        rw [Nat.zero_mul] at this
        have hlt : 0 < cs'.length := by rw [hl, hce]; exact fs.size_pos
        rw [List.getElem?_eq_getElem hlt] at this
        have ha : a.add 0 = a := by unfold Addr.add; simp
        rw [ha] at this
        exact cell_plain' this
      refine ⟨_, ((List.range len).map f : List fs.Pay), rfl, ⟨some a, cap, by rw [hlen], by rw [hlen]; exact hlc, fun hpos => ?_⟩, ?_, ?_⟩
      · rw [hlen] at hpos
        obtain ⟨g, o, rfl, hg⟩ := hpl hpos
        refine ⟨g, o, rfl, hg, hg, fun i x hi => ?_⟩
        have hil : i < len := by
          rcases Nat.lt_or_ge i len with h' | h'
          · exact h'
          · rw [List.getElem?_eq_none (by rw [hlen]; exact h')] at hi; cases hi
        rw [List.getElem?_map, List.getElem?_range hil] at hi
        injection hi with hi
        subst hi
        exact (hf i hil g o rfl).1
      · rw [hlen]; unfold maxLen at hm; omega
      · intro x hx'
        obtain ⟨i, hi, rfl⟩ := List.mem_map.1 hx'
        have hi := List.mem_range.1 hi
        obtain ⟨g, o, ha, hg⟩ := hpl (by omega)
        exact (hf i hi g o ha).2
theorem open_kds : ∀ (fs : Kds) (e : TypeId), KdsT P fs e → ∀ (fuel : Nat) (cs : List Value) (x : DataW H × List MemPlace), P.cellsOf e = fs.size → DataW.trod enc P w base spare held fuel e cs = some x → ∃ p, CellsAs w fs p cs ∧ fs.Big p
  | .one k, e, he, fuel, cs, x, hce, h => by
    rcases he with he | ⟨F, f, hu, hF, ho, hc, hk⟩
    · obtain ⟨v, p, rfl, hv, hb⟩ := open_kd k e he fuel cs x h
      exact ⟨p, ⟨v, rfl, hv⟩, hb⟩
    · obtain ⟨xs, n, rfl, _, hl, hxl, hx⟩ := DataW.trod_struct hu h
      have hl1 : cs.length = 1 := hl.trans hce
      have hf0 : F[0]? = some f := by rw [← Array.getElem?_toList, hF]; rfl
      have h0 := hx 0 f hf0
      have hF1 : F.size = 1 := by rw [← Array.length_toList, hF]; rfl
      rw [List.getElem?_eq_getElem (by omega)] at h0
      obtain ⟨v, p, h1, hv, hb⟩ := open_kd k f.type hk n _ _ h0
      rw [ho, hc, List.drop_zero, List.take_of_length_le (by omega)] at h1
      exact ⟨p, ⟨v, h1, hv⟩, hb⟩
  | .cons k ks, e, he, fuel, cs, x, hce, h => by
    obtain ⟨F, f, r, hu, hF, ho, hc, hk, hr⟩ := he
    obtain ⟨xs, n, rfl, _, hl, hxl, hx⟩ := DataW.trod_struct hu h
    have hcl : cs.length = ks.size + 1 := hl.trans hce
    have hFs : F.size = (f :: r).length := by rw [← Array.length_toList, hF]
    have each : ∀ (i : Nat) (f' : Field), (f :: r)[i]? = some f' → ∃ y, DataW.trod enc P w base spare held n f'.type ((cs.drop f'.offset).take (P.cellsOf f'.type)) = some y := fun i f' hi => by
      have h1 : F[i]? = some f' := by rw [← Array.getElem?_toList, hF]; exact hi
      have h2 := hx i f' h1
      have hil : i < xs.length := by
        rw [hxl]
        exact (Array.getElem?_eq_some_iff.1 h1).1
      rw [List.getElem?_eq_getElem hil] at h2
      exact ⟨_, h2⟩
    obtain ⟨y, hy⟩ := each 0 f rfl
    obtain ⟨v, p, h1, hv, hb⟩ := open_kd k f.type hk n _ _ hy
    obtain ⟨q, hq, hbq⟩ := open_flds ks r 1 hr n cs (by omega) fun i f' hi => each (i + 1) f' hi
    rw [ho, hc, List.drop_zero] at h1
    cases cs with
    | nil => simp at h1
    | cons u cs =>
      simp only [List.take_succ_cons, List.take_zero] at h1
      injection h1 with h1
      subst h1
      exact ⟨(p, q), ⟨u, cs, rfl, hv, hq⟩, hb, hbq⟩
theorem open_flds : ∀ (fs : Kds) (l : List Field) (o : Nat), FldsT P fs l o → ∀ (n : Nat) (cs : List Value), cs.length = o + fs.size → (∀ (i : Nat) (f : Field), l[i]? = some f → ∃ y, DataW.trod enc P w base spare held n f.type ((cs.drop f.offset).take (P.cellsOf f.type)) = some y) → ∃ p, CellsAs w fs p (cs.drop o) ∧ fs.Big p
  | .one k, l, o, hl, n, cs, hcs, hx => by
    obtain ⟨f, rfl, ho, hc, hk⟩ := hl
    obtain ⟨y, hy⟩ := hx 0 f rfl
    obtain ⟨v, p, h1, hv, hb⟩ := open_kd k f.type hk n _ _ hy
    have hcs : cs.length = o + 1 := hcs
    rw [ho, hc, List.take_of_length_le (by rw [List.length_drop]; omega)] at h1
    exact ⟨p, ⟨v, h1, hv⟩, hb⟩
  | .cons k ks, l, o, hl, n, cs, hcs, hx => by
    obtain ⟨f, r, rfl, ho, hc, hk, hr⟩ := hl
    have hcs : cs.length = o + (ks.size + 1) := hcs
    obtain ⟨y, hy⟩ := hx 0 f rfl
    obtain ⟨v, p, h1, hv, hb⟩ := open_kd k f.type hk n _ _ hy
    obtain ⟨q, hq, hbq⟩ := open_flds ks r (o + 1) hr n cs (by omega) fun i f' hi => hx (i + 1) f' hi
    rw [ho, hc] at h1
    have hlt : o < cs.length := by omega
    rw [List.drop_eq_getElem_cons hlt] at h1 ⊢
    simp only [List.take_succ_cons, List.take_zero] at h1
    injection h1 with h1
    subst h1
    exact ⟨(p, q), ⟨_, _, rfl, hv, hq⟩, hb, hbq⟩
end
/-- a type whose values are of an argument's kind -/
def CKT (P : Program) : CK → TypeId → Prop
  | .one k, t => KdT P k t
  | .agg ks, t => (∃ F, P.underlying t = some (.struct F)) ∧ P.cellsOf t = ks.size ∧ KdsT P ks t
def CK.Big : (x : CK) → x.Pay → Prop
  | .one k, p => k.Big p
  | .agg ks, p => ks.Big p
theorem Kd.Rep.oneCell {S : Nat → Prop} : ∀ (k : Kd) (p : k.Pay) (v : Value), k.Rep w S p v → v.oneCell' = true
  | .int k, p, v, h => by cases h; rfl
  | .bool, p, v, h => by cases h; rfl
  | .str, p, v, h => by cases h; rfl
  | .sl fs, p, v, h => by obtain ⟨A, c, rfl, _⟩ := h; rfl
theorem CellsAs.reps : ∀ (fs : Kds) (p : fs.Pay) (cs : List Value), CellsAs w fs p cs →
    (∀ (i : Nat) c, (fs.cells p)[i]? = some c → ∃ v, cs[i]? = some v ∧ c.Rep (Cx.of (Here w)) w v) ∧ (∀ (i : Nat) v, cs[i]? = some v → v.oneCell' = true) ∧ cs.length = (fs.cells p).length
  | .one k, p, cs, h => by
    obtain ⟨v, rfl, hv⟩ := h
    refine ⟨fun i c hi => ?_, fun i u hi => ?_, rfl⟩
    · cases i with
      | zero => injection hi with hi; subst hi; exact ⟨v, rfl, hv⟩
      | succ i => cases hi
    · cases i with
      | zero => injection hi with hi; subst hi; exact Kd.Rep.oneCell k p v hv
      | succ i => cases hi
  | .cons k ks, p, cs, h => by
    obtain ⟨v, r, rfl, hv, hr⟩ := h
    obtain ⟨h1, h2, h3⟩ := CellsAs.reps ks p.2 r hr
    refine ⟨fun i c hi => ?_, fun i u hi => ?_, by rw [List.length_cons, h3]; rfl⟩
    · cases i with
      | zero => injection hi with hi; subst hi; exact ⟨v, rfl, hv⟩
      | succ i => exact h1 i c hi
    · cases i with
      | zero => injection hi with hi; subst hi; exact Kd.Rep.oneCell k p.1 v hv
      | succ i => exact h2 i u hi
theorem open_ck {r : Reach} {b0 : Nat} (x : CK) (t : TypeId) (ht : CKT P x t) {v : Value} {d : DataW H} {ps : List MemPlace} (hv : Value.okWide P w r b0 t v) (h : DataW.Trod enc P w base spare held t v d ps) :
    ∃ p : x.Pay, (x.comp p).Rep (Cx.of (Here w)) w v ∧ x.Big p := by
  obtain ⟨fuel, hf⟩ := h
  cases x with
  | one k =>
    have hone : v.cells.toList = [v] := by
      cases k with
      | int k => obtain ⟨n, rfl⟩ := okWide_int ht hv; rfl
      | bool => obtain ⟨n, rfl⟩ := okWide_bool ht hv; rfl
      | str => obtain ⟨n, rfl⟩ := okWide_string ht hv; rfl
      | sl fs => obtain ⟨e, hu, _⟩ := ht; obtain ⟨a, n, c, rfl⟩ := okWide_slice hu hv; rfl
    obtain ⟨v', p, h1, h2, h3⟩ := open_kd k t ht fuel _ _ hf
    rw [hone] at h1
    injection h1 with h1
    subst h1
    exact ⟨p, h2, h3⟩
  | agg ks =>
    obtain ⟨⟨F, hu⟩, hc, hk⟩ := ht
    obtain ⟨cs, rfl, hsz⟩ := okWide_struct hu hv
    obtain ⟨p, hp, hb⟩ := open_kds ks t hk fuel _ _ hc hf
    obtain ⟨h1, h2, h3⟩ := CellsAs.reps ks p _ hp
    refine ⟨p, ⟨cs, rfl, ?_, fun i c hi => ?_, fun i u hi => ?_⟩, hb⟩
    · rw [← h3]; simp [Value.cells]
    · obtain ⟨u, hu, hr⟩ := h1 i c hi
      exact ⟨u, by simpa [Value.cells] using hu, hr⟩
    · exact h2 i u (by simpa [Value.cells] using hi)
end
end R
end Go.Proofs.YtldnfdghkdibmaaGreatDoor

/-
  A law's contract as a card asks for it.
-/
set_option linter.unusedVariables false
namespace Go.Proofs.YtldnfdghkdibmaaGreatDoor
open Go.RowKit
namespace R
theorem compsRep_nil {κ : Cx} {w : World} : CompsRep κ w [] [] := ⟨rfl, fun i c h => by cases h⟩
theorem compsRep_cons {κ : Cx} {w : World} {a : Comp} {v : Value} {xs : List Comp} {vs : List Value} (h : a.Rep κ w v) (hs : CompsRep κ w xs vs) : CompsRep κ w (a :: xs) (v :: vs) := by
  refine ⟨by rw [List.length_cons, List.length_cons, hs.1], fun i c hc => ?_⟩
  cases i with
  | zero => injection hc with hc; subst hc; exact ⟨v, rfl, h⟩
  | succ i => exact hs.2 i c hc
theorem law_any {P : Program} {f : FuncId} {args : List CK} {pre : Pays args → Prop} (h : (Con.of f args [.one .bool] pre (fun _ => true)).Holds P) (p : Pays args) (vs : List Value) (w : World) (hp : pre p) (hr : CompsRep (Cx.of (Here w)) w (compsOf args p) vs) :
    Calls P f vs.toArray w fun e w' => e = .returned (.bool true) ∧ Below w.heap.size w w' := by
  have h := h.2 p vs w (Here w) (fun _ h => h) hp hr
  refine Calls.mono h ?_
  rintro e w' ⟨r, v, rfl, hr, hv, hbl⟩
  have hr : r = true := hr
  subst hr
  have hv : v = .bool true := hv
  exact ⟨by rw [hv], hbl⟩
end R
end Go.Proofs.YtldnfdghkdibmaaGreatDoor

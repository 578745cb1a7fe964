/-
  The set of confusions seen: its keys, and how it reads.
-/
import Derived.Test.YtgjdbnkeamjhhaaDoorSoD
import Derived.Maps.OwnSet
import Derived.DeepKeys4
set_option linter.unusedVariables false
namespace Go.Proofs.YtgjdbnkeamjhhaaDoor
open Go.RowKit Go.Maps
namespace Snd
/-- a confusion with the lesser text first -/
def norm (c : Conf) : Conf := if Op.bytesLess c.1 c.2 || c.1 == c.2 then c else flip c
theorem less_asymm {a b : Str} (h : Op.bytesLess a b = true) : Op.bytesLess b a = false := by
  cases h' : Op.bytesLess b a
  · rfl
  · have := less_trans h h'
    rw [less_irrefl] at this; cases this
theorem norm_cases (c : Conf) : norm c = c ∨ norm c = flip c := by
  unfold norm
  split
  · exact .inl rfl
  · exact .inr rfl
theorem norm_flip (c : Conf) : norm (flip c) = norm c := by
  unfold norm flip
  simp only []
  cases h1 : Op.bytesLess c.1 c.2
  · cases h2 : Op.bytesLess c.2 c.1
    · have := less_total h1 h2
      rw [this, beq_self_eq_true]
      simp
      exact Prod.ext this.symm rfl
    · by_cases h3 : c.1 = c.2
      · rw [h3, less_irrefl] at h2; cases h2
      · rw [beq_eq_false_iff_ne.2 h3]
        simp
  · rw [less_asymm h1]
    by_cases h3 : c.1 = c.2
    · rw [h3, less_irrefl] at h1; cases h1
    · rw [beq_eq_false_iff_ne.2 (Ne.symm h3)]
      simp
theorem same_norm (c d : Conf) : same c d = (norm c == norm d) := by
  rw [Bool.eq_iff_iff, same_iff, beq_iff_eq]
  constructor
  · rintro (rfl | rfl)
    · rfl
    · exact norm_flip d
  · intro h
    rcases norm_cases c with h1 | h1 <;> rcases norm_cases d with h2 | h2 <;> rw [h1, h2] at h
    · exact .inl h
    · exact .inr h
    · right; rw [← h, flip_flip]
    · exact .inl (flip_inj h)
theorem okC_norm (c : Conf) : okC (norm c) = okC c := by
  rcases norm_cases c with h | h
  · rw [h]
  · rw [h, okC_flip]
end Snd
theorem cf_row : 29 < Tryd.prog.types.size := of_decide_eq_true (by kernel_rfl)
theorem cf_laid : laidOutB Tryd.prog = true := by kernel_rfl
theorem cf_law : Keyed Tryd.prog 29 := Keyed.of_law (deep_law_laid cf_laid (m := 2) (by omega) cf_row (by kernel_rfl) (by kernel_rfl))
theorem cf_cells : Tryd.prog.cellsOf 29 = 2 := by kernel_rfl
theorem cf_one : Tryd.prog.cellsOf 9 = 1 := by kernel_rfl
theorem cf_type : Tryd.prog.keyType 29 = true := by kernel_rfl
theorem cf_size : Tryd.prog.types.size + 1 = Tryd.prog.types.size - 1 + 2 := by
  have := cf_row
  omega
theorem keyLits_two {P : Program} {T : TypeId} {f0 f1 : Field} (hu : P.underlying T = some (.struct #[f0, f1])) (hc : P.cellsOf T = 2) (hn : (#[f0, f1] : Array Field).all (fun f => f.name != "_") = true) (o0 : f0.offset = 0) (o1 : f1.offset = 1)
    (u0 : P.underlying f0.type = some .string) (u1 : P.underlying f1.type = some .string) (c0 : P.cellsOf f0.type = 1) (c1 : P.cellsOf f1.type = 1) (m : Nat) (a b : ByteArray) (ha : a.size ≤ maxLen) (hb : b.size ≤ maxLen) :
    P.keyLits (m + 2) T [.string a, .string b] = some [.string a.data.toList, .string b.data.toList] := by
  have hl : ([.string a, .string b] : List Value).length = P.cellsOf T := by rw [hc]; rfl
  unfold Program.keyLits
  rw [hu]
  simp only []
  rw [if_pos ⟨hl, hn⟩]
  simp only [List.mapM_cons, List.mapM_nil, o0, o1, c0, c1, List.drop_zero, List.drop_succ_cons, List.take_succ_cons, List.take_zero]
  unfold Program.keyLits
  rw [u0, u1]
  simp only []
  rw [if_pos ha, if_pos hb]
  rfl
def cfv (p : Snd.Conf) : Value := .agg #[.string (bs p.1), .string (bs p.2)]
def cfl (p : Snd.Conf) : Lit := .string (keyBytes [.string p.1, .string p.2])
set_option maxRecDepth 100000 in
theorem key_cf (p : Snd.Conf) (h1 : p.1.length ≤ maxLen) (h2 : p.2.length ≤ maxLen) : keyOf Tryd.prog 29 (cfv p) = some (cfl p) := by
  unfold keyOf cfv cfl
  rw [Tryd.underlying29]
  simp only []
  have hf : (Value.agg #[.string (bs p.1), .string (bs p.2)]).formed Tryd.prog 29 = true := by
    simp [Value.formed, Tryd.underlying29, cf_cells]
  have hk := keyLits_two (P := Tryd.prog) Tryd.underlying29 cf_cells (by kernel_rfl) rfl rfl Tryd.underlying9 Tryd.underlying9 cf_one cf_one (Tryd.prog.types.size - 1) (bs p.1) (bs p.2) h1 h2
  rw [hf, cf_type, cf_size]
  show ((Tryd.prog.keyLits (Tryd.prog.types.size - 1 + 2) 29 [.string (bs p.1), .string (bs p.2)]).map fun ls => Lit.string (keyBytes ls)) = _
  rw [hk]
  rfl
set_option maxRecDepth 100000 in
theorem cfl_inj {p q : Snd.Conf} (h1 : p.1.length ≤ maxLen) (h2 : p.2.length ≤ maxLen) (h3 : q.1.length ≤ maxLen) (h4 : q.2.length ≤ maxLen) (h : cfl p = cfl q) : p = q := by
  have k1 := key_cf p h1 h2
  have k2 := key_cf q h3 h4
  rw [h] at k1
  have := cf_law.inj k1 k2
  unfold cfv at this
  injection this with this
  have a1 := congrArg (fun a : Array Value => a[0]?) this
  have a2 := congrArg (fun a : Array Value => a[1]?) this
  have a1 : some (Value.string (bs p.1)) = some (Value.string (bs q.1)) := a1
  have a2 : some (Value.string (bs p.2)) = some (Value.string (bs q.2)) := a2
  injection a1 with a1; injection a1 with a1
  injection a2 with a2; injection a2 with a2
  exact Prod.ext (bs_inj.1 a1) (bs_inj.1 a2)
/-- the first n confusions, each with the lesser text first -/
def seenD (c : CfP) : Nat → DataW Unit
  | 0 => .map []
  | n + 1 => (seenD c n).put (cfl (Snd.norm (c.getD n ([], [])))) (.lit (.bool true))
theorem seenD_map (c : CfP) : ∀ n, IsMap (seenD c n)
  | 0 => isMap_empty
  | n + 1 => (seenD_map c n).put _ _
theorem norm_len {c : CfP} (h : LongC c) : ∀ k, k < c.length → (Snd.norm (c.getD k ([], []))).1.length ≤ 1000000 ∧ (Snd.norm (c.getD k ([], []))).2.length ≤ 1000000 := fun k hk => by
  have := h.2 _ (Snd.mem_getD c ([], []) k hk)
  rcases Snd.norm_cases (c.getD k ([], [])) with e | e <;> rw [e]
  · exact this
  · exact ⟨this.2, this.1⟩
theorem at_seen {c : CfP} (h : LongC c) (p : Snd.Conf) (h1 : p.1.length ≤ 1000000) (h2 : p.2.length ≤ 1000000) (hp : Snd.norm p = p) : ∀ n, n ≤ c.length → (seenD c n).atKey (cfl p) (.lit (.bool false)) = .lit (.bool ((c.take n).any (Snd.same p))) := by
  intro n
  induction n with
  | zero => intro _; rfl
  | succ n ih =>
    intro hn
    obtain ⟨l1, l2⟩ := norm_len h n (by omega)
    rw [Snd.any_step c ([], []) _ n (by omega), seenD, Snd.same_norm, hp]
    by_cases e : p = Snd.norm (c.getD n ([], []))
    · rw [← e, atKey_put_same (seenD_map c n) (show WideAt.IsKeyLit (cfl p) from trivial), beq_self_eq_true, Bool.or_true]
    · rw [atKey_put_other (fun he => e (cfl_inj (by unfold maxLen; omega) (by unfold maxLen; omega) (by unfold maxLen; omega) (by unfold maxLen; omega) he)), ih (by omega), beq_eq_false_iff_ne.2 e, Bool.or_false]
theorem norm_norm (c : Snd.Conf) : Snd.norm (Snd.norm c) = Snd.norm c := by
  rcases Snd.norm_cases c with e | e
  · rw [e, e]
  · rw [e, Snd.norm_flip, e]
end Go.Proofs.YtgjdbnkeamjhhaaDoor

/-
  Layer 11: contracts of the statements.
-/
import Derived.Test.YtldnfdghkdibmaaGreatDoorRuY
set_option linter.unusedVariables false
namespace Go.Proofs.YtldnfdghkdibmaaGreatDoor
open Go.RowKit
open R
def anGaps (ts : List Lx.Tok) : List (Nat × Ann) := [ann 0 Nat [0, 3, 4] (fun k => [(7, R.str (Lx.nlText (ts.take k))), (8, R.int .i64 k)]) (fun k => k ≤ ts.length) (fun k => ts.length - k)]
def cGaps : Con := .of 5 [ckStr] [.one .bool] (fun s => CK.Big ckStr s) (fun _ => true)
theorem nl_len {N : Nat} : ∀ l : List Lx.Tok, (∀ t ∈ l, t.text.length ≤ N) → (Lx.nlText l).length ≤ (N + 3) * l.length
  | [], _ => Nat.zero_le _
  | t :: l, h => by
    have ih := nl_len l fun x hx => h x (List.mem_cons_of_mem _ hx)
    have h1 := h t List.mem_cons_self
    have h2 := Lx.written_length t
    have e : Lx.nlText (t :: l) = t.written ++ [10] ++ Lx.nlText l := by simp [Lx.nlText]
    rw [e, List.length_append, List.length_append, List.length_singleton, List.length_cons, Nat.mul_add]
    split at h2 <;> omega
theorem nl_next {l : List Lx.Tok} {k : Nat} {t : Lx.Tok} (h : l[k]? = some t) : Lx.nlText (l.take (k + 1)) = Lx.nlText (l.take k) ++ (t.written ++ [10]) := by
  unfold Lx.nlText
  rw [List.take_add_one, h, List.flatMap_append]
  simp
theorem parse_few {s : List UInt8} (hs : s.length ≤ 5000) : (Rul.parseB s).1.2.2.length ≤ 80 := by
  rcases Rul.parse_out hs with ⟨_, _, h⟩ | ⟨_, h, _⟩
  · exact (Rul.formed_out h).2.2.2.1
  · rw [h]; exact Nat.zero_le _
theorem eq_true_of {a b : List UInt8} {c d : List UInt8} {e f : List Rul.Rule} (h : ((a, c, e) : Rul.Rules) = (b, d, f)) : (a == b && (c == d && e == f)) = true := by
  injection h with h1 h; injection h with h2 h3
  rw [h1, h2, h3]; simp
end Go.Proofs.YtldnfdghkdibmaaGreatDoor

/-
  Width and written: what they return, at every token.
-/
import Derived.Test.YtpnenbodmonkiaaDoorLexTok
import Derived.Test.YtpnenbodmonkiaaDoorLater
import Derived.Test.YtpnenbodmonkiaaDoorLexLaw2
namespace Go.Proofs.YtpnenbodmonkiaaDoor
open Go.RowKit
attribute [local go_sem] alloc_drewN setCell_drewN setRow_drewN


theorem width_any (k p n : Int) (s : ByteArray) (w : World) (hs : s.size ≤ 4611686018427387904) :
    Calls Tryd.prog 15 #[.agg #[.int .i64 k, .int .i64 p, .int .i64 n, .string s]] w fun e w' =>
      e = .returned (.int .i64 ((Lx.Tok.written ⟨k, p, n, s.data.toList⟩).length : Nat)) ∧ Below w.heap.size w w' := by
  rw [Lx.written_length]
  simp only []
  by_cases hk : k = 3
  · have hk' : (k == 3) = true := by rw [beq_iff_eq]; exact hk
    rw [if_pos hk, ← size_list]
    clear hk
    go_enter Tryd.func15, Tryd.ntmps15
    go_wp2
    go_ret
    exact ⟨rfl, bel_alloc (bel_refl w) _⟩
  · have hk' : (k == 3) = false := by rw [beq_eq_false_iff_ne]; exact hk
    rw [if_neg hk, ← size_list]
    clear hk
    go_enter Tryd.func15, Tryd.ntmps15
    go_wp2
    go_ret
    exact ⟨rfl, bel_alloc (bel_refl w) _⟩

theorem written_any (k p n : Int) (s : ByteArray) (w : World) (hs : s.size ≤ 4611686018427387904) :
    Calls Tryd.prog 16 #[.agg #[.int .i64 k, .int .i64 p, .int .i64 n, .string s]] w fun e w' =>
      e = .returned (.string (bs (Lx.Tok.written ⟨k, p, n, s.data.toList⟩))) ∧ Below w.heap.size w w' := by
  by_cases hk : k = 3
  · have hk' : (k == 3) = true := by rw [beq_iff_eq]; exact hk
    have H : Lx.Tok.written ⟨k, p, n, s.data.toList⟩ = 34 :: (s.data.toList ++ [34]) := by unfold Lx.Tok.written; rw [if_pos hk]
    have HH := Lib.hid H
    clear H hk
    go_enter Tryd.func16, Tryd.ntmps16
    go_wp2
    go_ret
    refine ⟨?_, bel_alloc (bel_refl w) _⟩
    rw [HH.out]
    show Ending.returned (.string ({ data := #[34] } ++ s ++ { data := #[34] })) = _
    rw [app_bs, app_bs, bs_list]
    rfl
  · have hk' : (k == 3) = false := by rw [beq_eq_false_iff_ne]; exact hk
    have H : Lx.Tok.written ⟨k, p, n, s.data.toList⟩ = s.data.toList := by unfold Lx.Tok.written; rw [if_neg hk]
    have HH := Lib.hid H
    clear H hk
    go_enter Tryd.func16, Tryd.ntmps16
    go_wp2
    go_ret
    refine ⟨?_, bel_alloc (bel_refl w) _⟩
    rw [HH.out]
    rfl

theorem width_w (k p n : Int) (l : List UInt8) (W : List UInt8) (hW : Lx.Tok.written ⟨k, p, n, l⟩ = W) (w : World) (hs : l.length ≤ 4611686018427387904) :
    Calls Tryd.prog 15 #[.agg #[.int .i64 k, .int .i64 p, .int .i64 n, .string (bs l)]] w fun e w' => e = .returned (.int .i64 (W.length : Nat)) ∧ Below w.heap.size w w' := by
  subst hW
  exact width_any k p n (bs l) w hs
theorem written_w (k p n : Int) (l : List UInt8) (W : List UInt8) (hW : Lx.Tok.written ⟨k, p, n, l⟩ = W) (w : World) (hs : l.length ≤ 4611686018427387904) :
    Calls Tryd.prog 16 #[.agg #[.int .i64 k, .int .i64 p, .int .i64 n, .string (bs l)]] w fun e w' => e = .returned (.string (bs W)) ∧ Below w.heap.size w w' := by
  subst hW
  exact written_any k p n (bs l) w hs

namespace Lx
/-- where a token stands, and how long it is -/
theorem LexOk.place {o : Nat} {l : List UInt8} {ts : List Tok} (h : LexOk o l ts) (j : Nat) (t : Tok) (ht : ts[j]? = some t) : ∃ p : Nat, t.pos = p ∧ o ≤ p ∧ p + t.written.length ≤ o + l.length := by
  induction h generalizing j with
  | done => simp at ht
  | tok o l ts h he hr ih =>
    have hw := width_le he
    rw [List.length_drop] at hw
    have hw1 := width_pos he
    cases j with
    | zero =>
      have e1 : (scan (l.drop (gap l))).tok (o + gap l) = t := by simpa using ht
      subst e1
      refine ⟨o + gap l, rfl, by omega, ?_⟩
      rw [written_scan_length _ _ he]
      omega
    | succ j =>
      obtain ⟨p, h1, h2, h3⟩ := ih j (by simpa using ht)
      rw [List.length_drop] at h3
      exact ⟨p, h1, by omega, by omega⟩
theorem LexOk.length_le {o : Nat} {l : List UInt8} {ts : List Tok} (h : LexOk o l ts) : ts.length ≤ l.length := by
  induction h with
  | done => simp
  | tok o l ts h he hr ih =>
    have hw := width_le he
    have hw1 := width_pos he
    rw [List.length_drop] at hw ih
    rw [List.length_cons]
    omega
theorem text_le (t : Tok) : t.text.length ≤ t.written.length := by
  rw [written_length]
  split <;> omega
end Lx
end Go.Proofs.YtpnenbodmonkiaaDoor

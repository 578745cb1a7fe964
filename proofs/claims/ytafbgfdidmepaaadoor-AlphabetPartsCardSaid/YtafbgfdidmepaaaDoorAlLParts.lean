/-
  AlphabetParts: it returns true.
-/
import Derived.Test.YtafbgfdidmepaaaDoorAlBox
import Derived.Test.YtafbgfdidmepaaaDoorAlLaw2
set_option linter.unusedVariables false
namespace Go.Proofs.YtafbgfdidmepaaaDoor
open Go.RowKit Go.Maps
attribute [local go_sem] alloc_drewN setCell_drewN setRow_drewN Later.cell Later.frozen wrap64_nat wrap64_add wrap64_succ

theorem append_own_g {P : Program} {ops : Array Oper} {rest : List Oper} {o : Oper} {a : Act} {w : World} {Q : Exit → Act → World → Prop} (hgd : Region.wanted o (yielded ops a.tmps) = true) (s x : Operand) (t : TypeId)
    (ho : o.op = .call { callee := .builtin .append, args := #[s, x], argTypes := #[t, t] })
    (base : Nat) (e : TypeId) (i : TypeInfo) (z : Value) (size bytes : Nat) (ht : P.underlying t = some (.slice e)) (hi : P.info? e = some i) (hz : i.zero = some z)
    (hsize : i.size = size) (hby : i.bytes = bytes) (hzs : z.cells.size = size) (hsz : 0 < size)
    (v : Value) (n : Nat) (xs : List Value) (hs : a.eval s = v) (hown : w.ownsRow base e size v n xs)
    (ad : Addr) (m c : Nat) (news : List Value) (hx : a.eval x = .slice (some ad) m c) (hl : news.length = m * size) (hnews : ∀ j u, news[j]? = some u → w.cell? (ad.add j) = some u) (h1 : ∀ u ∈ news, u.oneCell' = true)
    (h63 : n + m ≤ maxLen) (hbytes : (n + m) * bytes ≤ 140737488355328) (hbase : base ≤ w.heap.size)
    (h : ∀ v' w', w'.ownsRow base e size v' (n + m) (xs ++ news) → w.grownBy w' v.ownBlock → (v' = .slice none 0 0 ↔ v = .slice none 0 0 ∧ m = 0) → wpList P ops Q rest (a.put o.dst v') w') : wpList P ops Q (o :: rest) a w := by
  unfold wpList
  rw [if_pos hgd]
  exact .inl (wp_append_own w s x t ho base e i z size bytes ht hi hz hsize hby hzs hsz v n xs hs hown ad m c news hx hl hnews h1 h63 hbytes hbase fun v' w' h2 h3 h4 => h v' w' h2 h3 h4)
theorem ints_n (A B : Option Addr) (c d : Nat) (x y : List Int) (n m : Nat) (hn : x.length = n) (hm : y.length = m) (w : World) (hA : IntAt w A x) (hB : IntAt w B y) (hx : x.length ≤ 1000000000000000) (hy : y.length ≤ 1000000000000000) :
    Calls Tryd.prog 21 #[.slice A n c, .slice B m d] w fun e w' => e = .returned (.bool (x == y)) ∧ ∃ n, w' = w.drewN n := by
  subst hn
  subst hm
  exact ints_any A B c d x y w hA hB hx hy

set_option maxRecDepth 100000 in
set_option maxHeartbeats 2000000 in
theorem lparts_any (a : Al.Alph) (A A' : Option Addr) (c c' : Nat) (x y : List UInt8) (w : World) (hz : Sized a) (hA : StrAt w A a.letters) (hS : IntAt w A' a.small) (hx : x.length ≤ 9223372036854775807) (hy : y.length ≤ 9223372036854775807) :
    Calls Tryd.prog 8 #[alv a A c A' c', .string (bs x), .string (bs y)] w fun e w' => e = .returned (.bool true) ∧ Below w.heap.size w w' := by
  go_enter Tryd.func8, Tryd.ntmps8
  go_wp2_with fail
  have S0 := Lib.hid (Box.new c c' hA hS)
  clear hA hS
  refine (ahead_any _).mono ?_
  rintro e w1 ⟨rfl, b1⟩
  have S1 := Lib.hid (S0.out.next b1)
  have k0 := S1.out.c0
  have k1 := S1.out.c1
  have k2 := S1.out.c2
  clear b1
  have hsz1 := S1.out.lt
  cases hfw : (fewB a && decide (x.length ≤ 300))
  · have HFW := Lib.hid hfw
    clear hfw
    go_wp2_with fail
    refine (few_at HFW.out A A' c c' _ hz S1.out.hA hx).mono ?_
    rintro e w2 ⟨rfl, b2⟩
    have S2 := Lib.hid (S1.out.next b2)
    clear k0 k1 k2 b2
    have k0 := S2.out.c0
    have k1 := S2.out.c1
    have k2 := S2.out.c2
    go_wp2
    go_ret
    exact ⟨rfl, by first | exact S2.out.bel | (have := S2.out.bel; rwa [World.drewN_drewN] at this)⟩
  · obtain ⟨hF, h300⟩ := few_out hfw
    have HFW := Lib.hid hfw
    have HF := Lib.hid hF
    clear hfw hF
    by_cases hy3 : y.length ≤ 300
    · have hy3' : decide ((y.length : Int) > 300) = false := by rw [decide_eq_false_iff_not]; omega
      obtain ⟨lx, ex, ox, hrx⟩ : ∃ ks er o, Al.readB a x = (ks, er, o) := ⟨_, _, _, rfl⟩
      obtain ⟨ly, ey, oy, hry⟩ : ∃ ks er o, Al.readB a y = (ks, er, o) := ⟨_, _, _, rfl⟩
      obtain ⟨lz, ez, oz, hrz⟩ : ∃ ks er o, Al.readB a (x ++ y) = (ks, er, o) := ⟨_, _, _, rfl⟩
      have hp := @Al.parts_law a x y
      have hox := @Al.read_ok a x
      have hoy := @Al.read_ok a y
      rw [hrx, hry, hrz] at hp
      rw [hrx] at hox
      rw [hry] at hoy
      dsimp only at hp hox hoy
      have HRX := Lib.hid hrx
      have HRY := Lib.hid hry
      have HRZ := Lib.hid hrz
      have HP := Lib.hid hp
      have HOX := Lib.hid hox
      have HOY := Lib.hid hoy
      clear hrx hry hrz hp hox hoy
      by_cases h1 : ex = 0
      · by_cases h2 : ey = 0
        · obtain ⟨z1, z2, z3, z4, z5, nx, x24⟩ := HOX.out h1
          clear z1 z2 z3 z4 z5
          obtain ⟨z1, z2, z3, z4, z5, ny, y24⟩ := HOY.out h2
          clear z1 z2 z3 z4 z5
          obtain ⟨p1, p2⟩ := HP.out h1 h2
          have hnx : 0 < lx.length := List.length_pos_iff.2 nx
          have hny : 0 < ly.length := List.length_pos_iff.2 ny
          subst h1
          subst h2
          have P1 := Lib.hid p1
          have P2 := Lib.hid p2
          clear nx ny p1 p2 HOX HOY HP
          by_cases h24 : lx.length + ly.length ≤ 24
          · have q := P2.out h24
            injection q with q1 q
            injection q with q2 q3
            subst q1
            subst q2
            subst q3
            clear P1 P2
            obtain ⟨j0, hj0, hy0, hy1, hy2⟩ := info_parts info_int
            have h24' : decide ((lx.length : Int) + (ly.length : Int) > 24) = false := by rw [decide_eq_false_iff_not]; omega
            go_wp2_with fail
            refine (few_at HFW.out A A' c c' _ hz S1.out.hA hx).mono ?_
            rintro e w2 ⟨rfl, b2⟩
            have S2 := Lib.hid (S1.out.next b2)
            clear k0 k1 k2 b2
            have k0 := S2.out.c0
            have k1 := S2.out.c1
            have k2 := S2.out.c2
            go_wp2_with fail
            refine (read_at HRX.out A A' c c' _ HF.out S2.out.hA S2.out.hS (by omega)).mono ?_
            rintro e w3 ⟨R1, c1, rfl, iI1, b3⟩
            have S3 := Lib.hid (S2.out.next b3)
            have I1 := Lib.hid iI1
            clear iI1
            clear k0 k1 k2 b3
            have k0 := S3.out.c0
            have k1 := S3.out.c1
            have k2 := S3.out.c2
            go_wp2_with fail
            refine (read_at HRY.out A A' c c' _ HF.out S3.out.hA S3.out.hS (by omega)).mono ?_
            rintro e w4 ⟨R2, c2, rfl, iI2, b4⟩
            have S4 := Lib.hid (S3.out.next b4)
            have I1 := Lib.hid (I1.out.bel b4)
            have I2 := Lib.hid iI2
            clear iI2
            clear k0 k1 k2 b4
            have k0 := S4.out.c0
            have k1 := S4.out.c1
            have k2 := S4.out.c2
            have hap : bs x ++ bs y = bs (x ++ y) := by rw [app_bs, bs_list, bs_list]
            go_wp2_with fail
            refine (read_at HRZ.out A A' c c' _ HF.out S4.out.hA S4.out.hS (by rw [List.length_append]; omega)).mono ?_
            rintro e w5 ⟨R3, c3, rfl, iI3, b5⟩
            have S5 := Lib.hid (S4.out.next b5)
            have I1 := Lib.hid (I1.out.bel b5)
            have I2 := Lib.hid (I2.out.bel b5)
            have I3 := Lib.hid iI3
            clear iI3
            clear k0 k1 k2 b5
            have k0 := S5.out.c0
            have k1 := S5.out.c1
            have k2 := S5.out.c2
            obtain ⟨g1, o1, rfl, hg1, hc1⟩ := I1.out hnx
            obtain ⟨g2, o2, rfl, hg2, hc2⟩ := I2.out hny
            have G1 := Lib.hid (And.intro hg1 hc1)
            have G2 := Lib.hid (And.intro hg2 hc2)
            clear hg1 hc1 hg2 hc2
            go_wp2_with (first | (at_builtin; refine append_own_g (by rfl) _ _ 23 rfl w5.heap.size 3 j0 (.int .i64 0) 1 8 Tryd.underlying23 hj0 hy0 hy1 hy2 rfl (by decide) _ _ _ rfl (empty_row w5 3 _ _ rfl (Nat.le_refl _)) ⟨g1, o1, none⟩ lx.length c1 (lx.map (Value.int .i64)) rfl (by simp) (int_news (fun j s h => ((bel_alloc (bel_refl w5) (.cells #[] 3)).cell (p := ⟨g1, o1 + j, none⟩) G1.out.1).trans (G1.out.2 j s h))) (by simp [Value.oneCell']) (by unfold maxLen; omega) (by omega) (by simp) ?_; intro v1 u1 o1 g1 _; rw [Nat.zero_add, List.nil_append] at o1; obtain ⟨R7, d7, rfl⟩ := slice_of_row o1; have L1 := Lib.hid ((bel_alloc (bel_refl w5) (.cells #[] 3)).grown g1 (by simp) (fun q hq => by cases hq; exact Nat.le_refl _)); have O1 := Lib.hid o1; clear o1 g1) | (at_builtin; refine append_own_g (by rfl) _ _ 23 rfl w5.heap.size 3 j0 (.int .i64 0) 1 8 Tryd.underlying23 hj0 hy0 hy1 hy2 rfl (by decide) _ _ _ rfl O1.out ⟨g2, o2, none⟩ ly.length c2 (ly.map (Value.int .i64)) rfl (by simp) (int_news (fun j s h => (L1.out.cell (p := ⟨g2, o2 + j, none⟩) G2.out.1).trans (G2.out.2 j s h))) (by simp [Value.oneCell']) (by unfold maxLen; omega) (by omega) L1.out.size ?_; intro v2 u2 o2 g2 _; obtain ⟨R8, d8, rfl⟩ := slice_of_row o2; have L2 := Lib.hid (L1.out.grown g2 L1.out.size (fun q hq => owns_block O1.out q hq)); have O2 := Lib.hid o2; clear o2 g2))
            have hrow : u2.ownsRow w5.heap.size 3 1 (.slice R8 (lx ++ ly).length d8) (lx ++ ly).length ((lx ++ ly).map (Value.int .i64)) := by
              have := O2.out
              rw [List.length_append, List.map_append]
              exact this
            refine (ints_n R3 R8 c3 d8 (lx ++ ly) (lx ++ ly) (lx.length + ly.length) (lx.length + ly.length) (by simp) (by simp) _ (I3.out.bel L2.out) (IntAt.of_row hrow) (by rw [List.length_append]; omega) (by rw [List.length_append]; omega)).mono ?_
            rintro e w9 ⟨rfl, n9, rfl⟩
            have hxx : ((lx ++ ly) == (lx ++ ly)) = true := beq_self_eq_true _
            go_wp2
            go_ret
            exact ⟨rfl, bel_drewN (bel_trans S5.out.bel L2.out) n9⟩
          · have h24' : decide ((lx.length : Int) + (ly.length : Int) > 24) = true := by rw [decide_eq_true_eq]; omega
            have q := P1.out (by omega)
            subst q
            clear P1 P2
            go_wp2_with fail
            refine (few_at HFW.out A A' c c' _ hz S1.out.hA hx).mono ?_
            rintro e w2 ⟨rfl, b2⟩
            have S2 := Lib.hid (S1.out.next b2)
            clear k0 k1 k2 b2
            have k0 := S2.out.c0
            have k1 := S2.out.c1
            have k2 := S2.out.c2
            go_wp2_with fail
            refine (read_at HRX.out A A' c c' _ HF.out S2.out.hA S2.out.hS (by omega)).mono ?_
            rintro e w3 ⟨R1, c1, rfl, iI1, b3⟩
            have S3 := Lib.hid (S2.out.next b3)
            have I1 := Lib.hid iI1
            clear iI1
            clear k0 k1 k2 b3
            have k0 := S3.out.c0
            have k1 := S3.out.c1
            have k2 := S3.out.c2
            go_wp2_with fail
            refine (read_at HRY.out A A' c c' _ HF.out S3.out.hA S3.out.hS (by omega)).mono ?_
            rintro e w4 ⟨R2, c2, rfl, iI2, b4⟩
            have S4 := Lib.hid (S3.out.next b4)
            have I1 := Lib.hid (I1.out.bel b4)
            have I2 := Lib.hid iI2
            clear iI2
            clear k0 k1 k2 b4
            have k0 := S4.out.c0
            have k1 := S4.out.c1
            have k2 := S4.out.c2
            have hap : bs x ++ bs y = bs (x ++ y) := by rw [app_bs, bs_list, bs_list]
            go_wp2_with fail
            refine (read_at HRZ.out A A' c c' _ HF.out S4.out.hA S4.out.hS (by rw [List.length_append]; omega)).mono ?_
            rintro e w5 ⟨R3, c3, rfl, iI3, b5⟩
            have S5 := Lib.hid (S4.out.next b5)
            have I1 := Lib.hid (I1.out.bel b5)
            have I2 := Lib.hid (I2.out.bel b5)
            have I3 := Lib.hid iI3
            clear iI3
            clear k0 k1 k2 b5
            have k0 := S5.out.c0
            have k1 := S5.out.c1
            have k2 := S5.out.c2
            go_wp2
            go_ret
            exact ⟨rfl, by first | exact S5.out.bel | (have := S5.out.bel; rwa [World.drewN_drewN] at this)⟩
        · have h2' : (ey != 0) = true := by rw [bne_iff_ne]; exact h2
          subst h1
          clear HOX HOY HP
          go_wp2_with fail
          refine (few_at HFW.out A A' c c' _ hz S1.out.hA hx).mono ?_
          rintro e w2 ⟨rfl, b2⟩
          have S2 := Lib.hid (S1.out.next b2)
          clear k0 k1 k2 b2
          have k0 := S2.out.c0
          have k1 := S2.out.c1
          have k2 := S2.out.c2
          go_wp2_with fail
          refine (read_at HRX.out A A' c c' _ HF.out S2.out.hA S2.out.hS (by omega)).mono ?_
          rintro e w3 ⟨R1, c1, rfl, iI1, b3⟩
          have S3 := Lib.hid (S2.out.next b3)
          have I1 := Lib.hid iI1
          clear iI1
          clear k0 k1 k2 b3
          have k0 := S3.out.c0
          have k1 := S3.out.c1
          have k2 := S3.out.c2
          go_wp2_with fail
          refine (read_at HRY.out A A' c c' _ HF.out S3.out.hA S3.out.hS (by omega)).mono ?_
          rintro e w4 ⟨R2, c2, rfl, iI2, b4⟩
          have S4 := Lib.hid (S3.out.next b4)
          have I1 := Lib.hid (I1.out.bel b4)
          have I2 := Lib.hid iI2
          clear iI2
          clear k0 k1 k2 b4
          have k0 := S4.out.c0
          have k1 := S4.out.c1
          have k2 := S4.out.c2
          go_wp2
          go_ret
          exact ⟨rfl, by first | exact S4.out.bel | (have := S4.out.bel; rwa [World.drewN_drewN] at this)⟩
      · have h1' : (ex != 0) = true := by rw [bne_iff_ne]; exact h1
        clear HOX HOY HP
        go_wp2_with fail
        refine (few_at HFW.out A A' c c' _ hz S1.out.hA hx).mono ?_
        rintro e w2 ⟨rfl, b2⟩
        have S2 := Lib.hid (S1.out.next b2)
        clear k0 k1 k2 b2
        have k0 := S2.out.c0
        have k1 := S2.out.c1
        have k2 := S2.out.c2
        go_wp2_with fail
        refine (read_at HRX.out A A' c c' _ HF.out S2.out.hA S2.out.hS (by omega)).mono ?_
        rintro e w3 ⟨R1, c1, rfl, iI1, b3⟩
        have S3 := Lib.hid (S2.out.next b3)
        have I1 := Lib.hid iI1
        clear iI1
        clear k0 k1 k2 b3
        have k0 := S3.out.c0
        have k1 := S3.out.c1
        have k2 := S3.out.c2
        go_wp2_with fail
        refine (read_at HRY.out A A' c c' _ HF.out S3.out.hA S3.out.hS (by omega)).mono ?_
        rintro e w4 ⟨R2, c2, rfl, iI2, b4⟩
        have S4 := Lib.hid (S3.out.next b4)
        have I1 := Lib.hid (I1.out.bel b4)
        have I2 := Lib.hid iI2
        clear iI2
        clear k0 k1 k2 b4
        have k0 := S4.out.c0
        have k1 := S4.out.c1
        have k2 := S4.out.c2
        go_wp2
        go_ret
        exact ⟨rfl, by first | exact S4.out.bel | (have := S4.out.bel; rwa [World.drewN_drewN] at this)⟩
    · have hy3' : decide ((y.length : Int) > 300) = true := by rw [decide_eq_true_eq]; omega
      go_wp2_with fail
      refine (few_at HFW.out A A' c c' _ hz S1.out.hA hx).mono ?_
      rintro e w2 ⟨rfl, b2⟩
      have S2 := Lib.hid (S1.out.next b2)
      clear k0 k1 k2 b2
      have k0 := S2.out.c0
      have k1 := S2.out.c1
      have k2 := S2.out.c2
      go_wp2
      go_ret
      exact ⟨rfl, by first | exact S2.out.bel | (have := S2.out.bel; rwa [World.drewN_drewN] at this)⟩
end Go.Proofs.YtafbgfdidmepaaaDoor

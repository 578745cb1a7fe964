/-
  Several texts in one: CoTL, CoW, CoX, CoZA, CoY, CoZB, CoT, CoZ, CoZC, CoZD, CoZE, CoV, CoHd, CoJ, HeR, HfA, HfB, HfC, HfL, HfD, HfF, HfG, HfH, RefBytes, RefName, SzAR, HfI, SzBR, SzCR, HfJ, HfE, HeS, HeT, HgA, HgC, HgE.
-/
import Derived.Test.YtfecgebhoondjaaGreatDoorPR
import Derived.Test.YtfecgebhoondjaaGreatDoorPB
import Derived.Deep.LoopGhost
import Derived.Lib.OwnBridge
import Derived.Shelf.SlSortCmp.NoneTotal
import Derived.Deep.QuietTactic
import Derived.Test.YtfecgebhoondjaaGreatDoorPP
import Derived.Test.YtfecgebhoondjaaGreatDoorPA
import Derived.Test.YtfecgebhoondjaaGreatDoorPQ
import Derived.Test.YtfecgebhoondjaaGreatDoorPM
import Derived.Test.YtfecgebhoondjaaGreatDoorPC
import Derived.Test.YtfecgebhoondjaaGreatDoorPK
import Derived.Test.YtfecgebhoondjaaGreatDoorPL
set_option linter.unusedVariables false
namespace Go.Proofs.YtfecgebhoondjaaGreatDoor
open Go.RowKit R
theorem le_trans3 {a b c:List Int} (h1:Cod.cmpL a b≤0) (h2:Cod.cmpL b c≤0):Cod.cmpL a c≤0:=by
 rcases Cod.qa9 a b with h | h | h
 ·rcases Cod.qa9 b c with h' | h' | h'
  ·have:=Cod.q3n (a:=a) (b:=b) (c:=c) (by omega) (by omega)
   omega
  ·rw [← Cod.cmp_eq h'];exact h1
  ·omega
 ·rw [Cod.cmp_eq h];exact h2
 ·omega
theorem ord_mem {l:List (List Int)} {x:List Int}:x∈ordL l↔x∈l:=by
 unfold ordL;exact List.mem_mergeSort
theorem ord_len (l:List (List Int)):(ordL l).length=l.length:=by
 unfold ordL;exact List.length_mergeSort l
theorem ord_up (l:List (List Int)):(ordL l).Pairwise λa b=>Cod.cmpL a b≤0:=by
 unfold ordL;have:=List.pairwise_mergeSort (le:=λa b=>decide (Cod.cmpL a b≤0)) (λa b c h1 h2=>decide_eq_true (le_trans3 (of_decide_eq_true h1) (of_decide_eq_true h2))) (λa b=>by
  have:=Cod.q5j a b
  rw [Bool.or_eq_true,decide_eq_true_eq,decide_eq_true_eq];omega) l
 exact this.imp λh=>of_decide_eq_true h
theorem qer {x:List Int}:∀ {l:List (List Int)},x∈q0t l↔x∈l
 | []=>Iff.rfl
 | [y]=>Iff.rfl
 | y::z::r=>by
  rw [q0t];split
  ·rename_i h
   have h:=beq_iff_eq.1 h;rw [qer,h];simp
  ·have ih:=qer (x:=x) (l:=z::r)
   rw [List.mem_cons,ih];exact List.mem_cons.symm
theorem thin_up:∀ {l:List (List Int)},l.Pairwise (λa b=>Cod.cmpL a b≤0)→(q0t l).Pairwise λa b=>Cod.cmpL a b<0
 | [],_=>List.Pairwise.nil
 | [y],_=>List.pairwise_singleton _ _
 | y::z::r,h=>by
  rw [List.pairwise_cons] at h;rw [q0t];split
  ·exact thin_up h.2
  ·rename_i hne
   rw [List.pairwise_cons];refine ⟨λx hx=>?_,thin_up h.2⟩
   have hx:=qer.1 hx;have h1:=h.1 x hx;rcases Cod.qa9 y x with h2 | h2 | h2
   ·omega
   ·have e:=Cod.cmp_eq h2
    subst e;have hz:=h.1 z (List.mem_cons_self ..);have hz2:Cod.cmpL z y≤0:=by
     rcases List.mem_cons.1 hx with e | hx
     ·rw [e,Cod.qe2];omega
     ·exact (List.pairwise_cons.1 h.2).1 y hx
    have ha:=Cod.q5j y z;have:Cod.cmpL y z=0:=by omega
    rw [Cod.cmp_eq this,beq_self_eq_true] at hne;exact absurd rfl hne
   ·omega
theorem thin_ord (l:List (List Int)):q0t (ordL l)=Cod.q8e l :=
 Cod.lists_ext (thin_up (ord_up l)) (Cod.sortU_up l) λx=>by rw [qer,ord_mem,Cod.qgf]
theorem part_len (e:Cod.Ear) (code:List Int) (i k:Nat) (hw:e.ws.length≤1000000):(q1q e code i k).length≤1000000:=by
 unfold q1q;rw [List.length_map];have h1:=List.length_filter_le (λx=>!(x==code.getD i 0)) ((e.near (code.getD i 0)).take k)
 have h2:=qf1 e (code.getD i 0);rw [List.length_take] at h1;omega
theorem qen (e:Cod.Ear) (code:List Int) (i:Nat) (hw:e.ws.length≤1000000):(e.q48 code i).length≤1000002:=by
 rw [qch (Nat.le_refl _),List.length_append,List.length_cons];have:=part_len e code i (e.near (code.getD i 0)).length hw;split
 ·rw [List.length_nil];omega
 ·rw [List.length_singleton];omega
theorem qg4 (e:Cod.Ear) (code:List Int) (hw:e.ws.length≤1000000):∀ k,(e.q0k code k 0).length≤k*1000002
 | 0=>by rw [Cod.Ear.q0k];simp
 | k+1=>by
  rw [q5t,List.length_append];have:=qg4 e code hw k;have:=qen e code k hw;omega
open Go.Lib
theorem cmp_at {xs ys:List Int} {k:Nat} (hx:k<xs.length) (hy:k<ys.length) (h:∀ j,j<k→xs.getD j 0=ys.getD j 0):Cod.cmpL xs ys=if xs.getD k 0<ys.getD k 0 then -1 else if ys.getD k 0<xs.getD k 0 then 1 else Cod.cmpL (xs.drop (k+1)) (ys.drop (k+1)):=by
 have ht:xs.take k=ys.take k:=by
  apply List.ext_getElem?
  intro i;by_cases hi:i<k
  ·rw [List.getElem?_take_of_lt hi,List.getElem?_take_of_lt hi]
   have:=h i hi
   rw [List.getD_eq_getElem?_getD,List.getD_eq_getElem?_getD,List.getElem?_eq_getElem (by omega),List.getElem?_eq_getElem (by omega)] at this
   rw [List.getElem?_eq_getElem (by omega),List.getElem?_eq_getElem (by omega)]
   exact congrArg some this
  ·rw [List.getElem?_eq_none (by rw [List.length_take];omega),List.getElem?_eq_none (by rw [List.length_take];omega)]
 rw [cmp_take ht,qcl xs hx,qcl ys hy,Cod.cmpL]
theorem qhg {xs ys:List Int} {k:Nat} (h:∀ j,j<k→xs.getD j 0=ys.getD j 0) (hx:k≤xs.length) (hy:k≤ys.length) (he:k=xs.length∨k=ys.length):Cod.cmpL xs ys=if xs.length<ys.length then -1 else if ys.length<xs.length then 1 else 0:=by
 have ht:xs.take k=ys.take k:=by
  apply List.ext_getElem?
  intro i;by_cases hi:i<k
  ·rw [List.getElem?_take_of_lt hi,List.getElem?_take_of_lt hi]
   have:=h i hi
   rw [List.getD_eq_getElem?_getD,List.getD_eq_getElem?_getD,List.getElem?_eq_getElem (by omega),List.getElem?_eq_getElem (by omega)] at this
   rw [List.getElem?_eq_getElem (by omega),List.getElem?_eq_getElem (by omega)]
   exact congrArg some this
  ·rw [List.getElem?_eq_none (by rw [List.length_take];omega),List.getElem?_eq_none (by rw [List.length_take];omega)]
 rw [cmp_take ht];by_cases h1:k<xs.length
 ·have e2:ys.drop k=[]:=List.drop_eq_nil_of_le (by omega)
  rw [qcl xs h1,e2,Cod.cmpL,if_neg (by omega),if_pos (by omega)]
 ·have e1:xs.drop k=[]:=List.drop_eq_nil_of_le (by omega)
  rw [e1];by_cases h2:k<ys.length
  ·rw [qcl ys h2,Cod.cmpL,if_pos (by omega)]
  ·have e2:ys.drop k=[]:=List.drop_eq_nil_of_le (by omega)
   rw [e2,Cod.cmpL,if_neg (by omega),if_neg (by omega)]
set_option maxHeartbeats 2000000 in
set_option maxRecDepth 100000 in
theorem compare_both (b1 o1 n c b2 o2 m d:Nat) (xs ys:List Int) (w:World) (hx1:n≤xs.length) (hx2:xs.length≤n) (hy1:m≤ys.length) (hy2:ys.length≤m) (hbig:n≤9223372036854775807) (hbig2:m≤9223372036854775807) (hc1:∀ j,j<xs.length→w.cell? ⟨b1,o1+j,none⟩=some (.int .i64 (xs.getD j 0))) (hc2:∀ j,j<ys.length→w.cell? ⟨b2,o2+j,none⟩=some (.int .i64 (ys.getD j 0))) :
  Calls Tryz.prog 67 #[.slice (some ⟨b1,o1,none⟩) n c,.slice (some ⟨b2,o2,none⟩) m d] w λe w'=>e=.returned (.int .i64 (Cod.cmpL xs ys))∧w'=w:=by
 go_enter Tryz.func67,Tryz.ntmps67
 go_wp2
 go_loopg [11] n (λg s11 wr=>∃ k:Nat,k≤n∧k≤m∧n-k≤g∧s11=.int .i64 k∧wr=w∧∀ j,j<k→xs.getD j 0=ys.getD j 0)
 case atStart=>exact ⟨0,Nat.zero_le _,Nat.zero_le _,by omega,rfl,rfl,λj hj=>absurd hj (Nat.not_lt_zero _)⟩
 case round =>
  obtain ⟨k,hk,hkm,hg,rfl,hw,heq⟩:=hrel;have hw:=hw.symm;subst hw;by_cases hlt:k<n
  ·by_cases hlm:k<m
   ·have g1:w.cell? ⟨b1,o1+k,none⟩=some (.int .i64 (xs.getD k 0)):=hc1 k (by omega)
    have g2:w.cell? ⟨b2,o2+k,none⟩=some (.int .i64 (ys.getD k 0)):=hc2 k (by omega)
    have hcm:=cmp_at (k:=k) (by omega) (by omega) heq
    have A:Aside (∀ j,j<k→xs.getD j 0=ys.getD j 0):=heq;clear heq hc1 hc2;generalize hxk:xs.getD k 0=x at g1 hcm;generalize hyk:ys.getD k 0=y at g2 hcm;have B:Aside (xs.getD k 0=x∧ys.getD k 0=y):=⟨hxk,hyk⟩;have C:Aside (Cod.cmpL xs ys=if x<y then -1 else if y<x then 1 else Cod.cmpL (xs.drop (k+1)) (ys.drop (k+1))):=hcm
    clear hxk hyk hcm;have call:=Tryz.cmp_Compare_int x y w;rcases Int.lt_trichotomy x y with hxy | hxy | hxy
    ·rw [show Lib.compareInt x y=-1 by unfold Lib.compareInt;rw [if_pos hxy]] at call
     go_wp2_with fail
     refine call.mono ?_;rintro e w' ⟨rfl,rfl⟩
     go_wp2
     go_ret
     rw [C.out,if_pos hxy];exact ⟨rfl,rfl⟩
    ·subst hxy
     rw [show Lib.compareInt x x=0 by unfold Lib.compareInt;rw [if_neg (by omega),if_neg (by omega)]] at call
     go_wp2_with fail
     refine call.mono ?_;rintro e w' ⟨rfl,rfl⟩
     go_wp2
     go_roundg (n-(k+1))
     case measure=>omega
     case rel =>
      refine ⟨k+1,by omega,by omega,by omega,by go_num,rfl,λj hj=>?_⟩
      by_cases e:j=k
      ·subst e
       rw [B.out.1,B.out.2]
      ·exact A.out j (by omega)
    ·rw [show Lib.compareInt x y=1 by unfold Lib.compareInt;rw [if_neg (by omega),if_pos hxy]] at call
     go_wp2_with fail
     refine call.mono ?_;rintro e w' ⟨rfl,rfl⟩
     go_wp2
     go_ret
     rw [C.out,if_neg (by omega),if_pos hxy]
     exact ⟨rfl,rfl⟩
   ·have hcm:=qhg heq (by omega) (by omega) (.inr (by omega))
    rw [if_neg (by omega),if_pos (by omega)] at hcm
    have g1:w.cell? ⟨b1,o1+k,none⟩=some (.int .i64 (xs.getD k 0)):=hc1 k (by omega)
    have C:Aside (Cod.cmpL xs ys=1):=hcm;clear heq hc1 hc2 hcm;generalize xs.getD k 0=x at g1
    go_wp2
    go_ret
    rw [C.out];exact ⟨rfl,rfl⟩
  ·have hcm:=qhg heq (by omega) (by omega) (.inl (by omega))
   have C:Aside (Cod.cmpL xs ys=if xs.length<ys.length then -1 else if ys.length<xs.length then 1 else 0):=hcm
   clear heq hc1 hc2 hcm;by_cases hnm:n<m
   ·go_wp2
    go_ret
    rw [C.out,if_pos (by omega)]
    exact ⟨rfl,rfl⟩
   ·go_wp2
    go_ret
    rw [C.out,if_neg (by omega),if_neg (by omega)]
    exact ⟨rfl,rfl⟩
set_option maxHeartbeats 2000000 in
set_option maxRecDepth 100000 in
theorem compare_none (A B:Option Addr) (c m d:Nat) (ys:List Int) (w:World) (hy1:m≤ys.length) (hy2:ys.length≤m) (hbig2:m≤9223372036854775807) :
  Calls Tryz.prog 67 #[.slice A 0 c,.slice B m d] w λe w'=>e=.returned (.int .i64 (Cod.cmpL [] ys))∧w'=w:=by
 have hcm:=qhg (xs:=[]) (ys:=ys) (k:=0) (λj hj=>absurd hj (Nat.not_lt_zero _)) (Nat.zero_le _) (Nat.zero_le _) (.inl rfl)
 have C:Aside (Cod.cmpL [] ys=if 0<ys.length then -1 else if ys.length<0 then 1 else 0):=hcm
 clear hcm
 go_enter Tryz.func67,Tryz.ntmps67
 go_wp2
 go_loopg [11] 0 (λg s11 wr=>s11=.int .i64 0∧wr=w)
 case atStart=>exact ⟨rfl,rfl⟩
 case round =>
  obtain ⟨rfl,hw⟩:=hrel;have hw:=hw.symm;subst hw;by_cases hnm:0<m
  ·go_wp2
   go_ret
   rw [C.out,if_pos (by omega)]
   exact ⟨rfl,rfl⟩
  ·go_wp2
   go_ret
   rw [C.out,if_neg (by omega),if_neg (by omega)]
   exact ⟨rfl,rfl⟩
set_option maxHeartbeats 2000000 in
set_option maxRecDepth 100000 in
theorem compare_some (b1 o1 n c:Nat) (B:Option Addr) (d:Nat) (xs:List Int) (w:World) (hx1:n≤xs.length) (hx2:xs.length≤n) (hn:0<n) (hbig:n≤9223372036854775807) (x:Int) (hc1:w.cell? ⟨b1,o1,none⟩=some (.int .i64 x)) :
  Calls Tryz.prog 67 #[.slice (some ⟨b1,o1,none⟩) n c,.slice B 0 d] w λe w'=>e=.returned (.int .i64 (Cod.cmpL xs []))∧w'=w:=by
 have hcm:=qhg (xs:=xs) (ys:=[]) (k:=0) (λj hj=>absurd hj (Nat.not_lt_zero _)) (Nat.zero_le _) (Nat.zero_le _) (.inr rfl)
 rw [List.length_nil,if_neg (Nat.not_lt_zero _),if_pos (by omega)] at hcm
 have C:Aside (Cod.cmpL xs []=1):=hcm;clear hcm
 go_enter Tryz.func67,Tryz.ntmps67
 go_wp2
 go_loopg [11] 0 (λg s11 wr=>s11=.int .i64 0∧wr=w)
 case atStart=>exact ⟨rfl,rfl⟩
 case round =>
  obtain ⟨rfl,hw⟩:=hrel;have hw:=hw.symm;subst hw
  go_wp2
  go_ret
  rw [C.out];exact ⟨rfl,rfl⟩
def IntsIn (w:World) (ok:Nat→Prop) (A:Option Addr) (n:Nat) (xs:List Int):Prop :=
 n=xs.length∧(0<n→∃ g off,A=some ⟨g,off,none⟩∧g<w.heap.size∧ok g∧∀ j,j<xs.length→w.cell? ⟨g,off+j,none⟩=some (.int .i64 (xs.getD j 0)))
theorem compare_any {ok:Nat→Prop} {A B:Option Addr} {n c m d:Nat} {xs ys:List Int} {w:World} (hn:n≤9223372036854775807) (hm:m≤9223372036854775807) (hx:IntsIn w ok A n xs) (hy:IntsIn w ok B m ys) :
  Calls Tryz.prog 67 #[.slice A n c,.slice B m d] w λe w'=>e=.returned (.int .i64 (Cod.cmpL xs ys))∧w'=w:=by
 obtain ⟨hx1,hx2⟩:=hx;obtain ⟨hy1,hy2⟩:=hy;by_cases h0:n=0
 ·subst h0
  obtain rfl:=List.eq_nil_of_length_eq_zero hx1.symm;exact compare_none A B c m d ys w (Nat.le_of_eq hy1) (Nat.le_of_eq hy1.symm) hm
 ·obtain ⟨g,off,rfl,_,_,hc⟩:=hx2 (Nat.pos_of_ne_zero h0)
  by_cases h1:m=0
  ·subst h1
   obtain rfl:=List.eq_nil_of_length_eq_zero hy1.symm;exact compare_some g off n c B d xs w (Nat.le_of_eq hx1) (Nat.le_of_eq hx1.symm) (Nat.pos_of_ne_zero h0) hn _ (hc 0 (hx1▸Nat.pos_of_ne_zero h0))
  ·obtain ⟨g2,off2,rfl,_,_,hc2⟩:=hy2 (Nat.pos_of_ne_zero h1)
   exact compare_both g off n c g2 off2 m d xs ys w (Nat.le_of_eq hx1) (Nat.le_of_eq hx1.symm) (Nat.le_of_eq hy1) (Nat.le_of_eq hy1.symm) hn hm hc hc2
open Go.Sort
structure SV (w:World) (S:Nat→Prop) where
 A:Option Addr
 c:Nat
 l:List Int
 small:l.length≤9223372036854775807
 cap:l.length≤c
 ok:IntsIn w S A l.length l
instance (w:World) (S:Nat→Prop):Inhabited (SV w S):=⟨⟨none,0,[],Nat.zero_le _,Nat.le_refl _,rfl,λh=>absurd h (Nat.lt_irrefl _)⟩⟩
def SV.enc {w:World} {S:Nat→Prop} (x:SV w S):Value:=.slice x.A x.l.length x.c
def SV.cf {w:World} {S:Nat→Prop} (x y:SV w S):Int:=Cod.cmpL x.l y.l
theorem heap_sorted {α:Type} [Inhabited α] (enc:α→Value) (w:World) (blk off m:Nat) (dk:Array α) (os:Array Obj) {g:Nat} (hg:g<w.heap.size) (hne:g≠blk):(sortWorld enc w blk off m dk os).heap[g]? = w.heap[g]? := by
 have:blk≠g:=λe=>hne e.symm
 simp [sortWorld,grow,putRow,mapBlock,Sort.ahead,Array.getElem?_append,Array.getElem?_modify,Array.getElem_modify,hg,this]
theorem qib {α:Type} [Inhabited α] (enc:α→Value) (w:World) (blk off m:Nat) (dk:Array α) (os:Array Obj) {g o:Nat} (hg:g<w.heap.size) (hne:g≠blk):(sortWorld enc w blk off m dk os).cell? ⟨g,o,none⟩=w.cell? ⟨g,o,none⟩:=by
 unfold World.cell?;rw [heap_sorted enc w blk off m dk os hg hne]
theorem qa3 {α:Type} [Inhabited α] (enc:α→Value) (w:World) (blk off m:Nat) (dk:Array α) (os:Array Obj):w.heap.size≤(sortWorld enc w blk off m dk os).heap.size:=by
 simp [sortWorld,grow,putRow,mapBlock,Sort.ahead]
theorem sv_lays (w:World) (S:Nat→Prop) (blk size:Nat) (hS:¬ S blk):CmpLays1 Tryz.prog 67 #[] (SV.enc (w:=w) (S:=S)) SV.cf blk 0 size w:=by
 intro m os dk hs x y;have kept:∀ q:SV w S,IntsIn (sortWorld SV.enc w blk 0 m dk os) (λ_=>True) q.A q.l.length q.l:=λq=>by
  refine ⟨rfl,λh=>?_⟩
  obtain ⟨g,off,e,hg,hs,hc⟩:=q.ok.2 h;have hne:g≠blk:=λe2=>hS (e2▸hs)
  exact ⟨g,off,e,Nat.lt_of_lt_of_le hg (qa3 ..),trivial,λj hj=>by rw [qib _ _ _ _ _ _ _ hg hne];exact hc j hj⟩
 refine (compare_any x.small y.small (kept x) (kept y)).mono ?_;rintro e w' ⟨rfl,rfl⟩;exact ⟨rfl,0,#[],by rw [grow_empty];rfl⟩
theorem sv_swo (w:World) (S:Nat→Prop):SWO (ltOf (SV.cf (w:=w) (S:=S))) where
 irrefl x:=by
  show decide (Cod.cmpL x.l x.l<0)=false;rw [Cod.qe2];rfl
 trans x y z h1 h2:=by
  have h1:Cod.cmpL x.l y.l<0:=of_decide_eq_true h1;have h2:Cod.cmpL y.l z.l<0:=of_decide_eq_true h2;exact decide_eq_true (Cod.q3n h1 h2)
 ntrans x y z h1 h2:=by
  have h1:¬ Cod.cmpL x.l y.l<0:=of_decide_eq_false h1;have h2:¬ Cod.cmpL y.l z.l<0:=of_decide_eq_false h2;have a1:=Cod.q5j x.l y.l;have a2:=Cod.q5j y.l z.l;have a3:=Cod.q5j x.l z.l;have:=le_trans3 (a:=z.l) (b:=y.l) (c:=x.l) (by omega) (by omega)
  show decide (Cod.cmpL x.l z.l<0)=false;exact decide_eq_false (by omega)
theorem qkh:∀ {l m:List (List Int)},l.Perm m→l.Pairwise (λa b=>Cod.cmpL a b≤0)→m.Pairwise (λa b=>Cod.cmpL a b≤0)→l=m
 | [],m,h,_,_=>(List.Perm.nil_eq h)
 | a::l,[],h,_,_=>absurd h.symm.nil_eq (by simp)
 | a::l,b::m,h,h1,h2=>by
  rw [List.pairwise_cons] at h1 h2;have hab:a=b:=by
   rcases List.mem_cons.1 (h.mem_iff.1 (List.mem_cons_self ..)) with e | ha
   ·exact e
   ·rcases List.mem_cons.1 (h.mem_iff.2 (List.mem_cons_self ..)) with e | hb
    ·exact e.symm
    ·have u1:=h1.1 b hb
     have u2:=h2.1 a ha;have:=Cod.q5j a b;exact Cod.cmp_eq (by omega)
  subst hab;rw [qkh ((List.perm_cons a).1 h) h1.2 h2.2]
theorem svs_of {w:World} {S:Nat→Prop}:∀ {xs:List (List Int)} {cells:List Value},cells.length=xs.length→(∀ (i:Nat) (x:List Int),xs[i]? = some x→∃ u,cells[i]? = some u∧∃ q:SV w S,q.enc=u∧q.l=x)→∃ ds:List (SV w S),ds.map SV.enc=cells∧ds.map SV.l=xs
 | [],cells,hl,_=>⟨[],(List.eq_nil_of_length_eq_zero hl).symm,rfl⟩
 | x::xs,[],hl,_=>by cases hl
 | x::xs,u::cells,hl,h=>by
  obtain ⟨ds,h1,h2⟩:=svs_of (xs:=xs) (cells:=cells) (by injection hl) (λi x hx=>h (i+1) x hx)
  obtain ⟨u',hu,q,hq1,hq2⟩:=h 0 x rfl;injection hu with hu;exact ⟨q::ds,by rw [List.map_cons,h1,hq1,hu],by rw [List.map_cons,h2,hq2]⟩
theorem sv_of {w:World} {S:Nat→Prop} {x:List Int} {u:Value} (h:(Kd.sl (.one (.int .i64))).Rep w S x u) (hx:x.length≤9223372036854775807):∃ q:SV w S,q.enc=u∧q.l=x:=by
 obtain ⟨A,c,rfl,hc,hrow⟩:=h;refine ⟨⟨A,c,x,hx,hc,rfl,λhp=>?_⟩,rfl,rfl⟩
 obtain ⟨g,off,e,hg,hs,hcells⟩:=hrow hp;refine ⟨g,off,e,hg,hs,λj hj=>?_⟩
 obtain ⟨v,hv,hr⟩:=hcells j _ (List.getElem?_eq_getElem hj);have hr:v=.int .i64 x[j]:=hr;have e3:off+j*(Kds.one (Kd.int .i64)).size=off+j:=by show off+j*1=_;omega
 rw [e3] at hv;rw [hv,hr,List.getD_eq_getElem?_getD,List.getElem?_eq_getElem hj];rfl
theorem sv_rep {w:World} {S:Nat→Prop} (q:SV w S):(Kd.sl (.one (.int .i64))).Rep w S q.l q.enc:=by
 refine ⟨q.A,q.c,rfl,q.cap,λhp=>?_⟩
 obtain ⟨g,off,e,hg,hs,hc⟩:=q.ok.2 hp;refine ⟨g,off,e,hg,hs,λi x hx=>?_⟩
 have hi:i<q.l.length:=by
  rcases Nat.lt_or_ge i q.l.length with h | h
  ·exact h
  ·rw [List.getElem?_eq_none h] at hx;cases hx
 refine ⟨.int .i64 x,?_,rfl⟩;have e3:off+i*(Kds.one (Kd.int .i64)).size=off+i:=by show off+i*1=_;omega
 rw [e3,hc i hi,List.getD_eq_getElem?_getD,hx];rfl
theorem sv_row {w:World} {S:Nat→Prop} (ds:List (SV w S)):q0c (Cx.of S) w kIs (ds.map SV.l) (ds.map SV.enc):=λi x hx f z hz=>by
 rw [List.getElem?_map] at hx;cases hd:ds[i]? with
 | none=>rw [hd] at hx;cases hx
 | some q =>
  rw [hd] at hx;injection hx with hx;cases f with
  | succ f=>cases hz
  | zero =>
   injection hz with hz;subst hz;refine ⟨q.enc,?_,hx▸sv_rep q⟩;have e:i*kIs.size+0=i:=by show i*1+0=i;omega
   rw [e,List.getElem?_map,hd];rfl
theorem equal_any {ok:Nat→Prop} {A B:Option Addr} {n c m d:Nat} {xs ys:List Int} {w:World} (hn:n≤9223372036854775807) (hm:m≤9223372036854775807) (hx:IntsIn w ok A n xs) (hy:IntsIn w ok B m ys) :
  Calls Tryz.prog 69 #[.slice A n c,.slice B m d] w λe w'=>e=.returned (.bool (xs==ys))∧∃ q,w'=w.drewN q:=by
 obtain ⟨hx1,hx2⟩:=hx;obtain ⟨hy1,hy2⟩:=hy;by_cases hnm:n=m
 ·subst hnm
  by_cases h0:n=0
  ·subst h0
   obtain rfl:=List.eq_nil_of_length_eq_zero hx1.symm;obtain rfl:=List.eq_nil_of_length_eq_zero hy1.symm;refine (Tryz.slices_Equal_int_empty A B c 0 d w hm).mono ?_;rintro e w' ⟨rfl,rfl⟩;exact ⟨rfl,0,rfl⟩
  ·obtain ⟨g,off,rfl,_,_,hc⟩:=hx2 (Nat.pos_of_ne_zero h0)
   obtain ⟨g2,off2,rfl,_,_,hc2⟩:=hy2 (Nat.pos_of_ne_zero h0);refine (Tryz.slices_Equal_int g off n c g2 off2 n d xs ys w (Nat.le_of_eq hx1) (Nat.le_of_eq hy1) hn hm hc hc2).mono ?_;rintro e w' ⟨rfl,q,rfl⟩;rw [List.take_of_length_le (Nat.le_of_eq hx1.symm),List.take_of_length_le (Nat.le_of_eq hy1.symm)];exact ⟨rfl,q,rfl⟩
 ·refine (Tryz.slices_Equal_int_lens A B n c m d w hnm).mono ?_
  rintro e w' ⟨rfl,rfl⟩;refine ⟨?_,0,rfl⟩;have hne:(xs==ys)=false:=beq_eq_false_iff_ne.2 λe=>hnm (by rw [hx1,hy1,e])
  rw [hne]
theorem thin_snoc (b:List Int):∀ (p:List (List Int)) (a:List Int),q0t (p++[a,b])=if a==b then q0t (p++[a]) else q0t (p++[a])++[b]
 | [],a=>by
  show q0t [a,b]=_;rw [q0t];by_cases h:a=b
  ·rw [if_pos (beq_iff_eq.2 h),if_pos (beq_iff_eq.2 h),h];rfl
  ·rw [if_neg (λe=>h (beq_iff_eq.1 e)),if_neg (λe=>h (beq_iff_eq.1 e))];rfl
 | [x],a=>by
  show q0t [x,a,b]=if (a==b)=true then q0t [x,a] else q0t [x,a]++[b]
  by_cases hx:(x==a)=true <;> by_cases ha:(a==b)=true <;> simp only [q0t,hx,ha,if_true,if_false,Bool.false_eq_true,↓reduceIte,List.cons_append,List.nil_append] <;> simp_all
 | x::y::p,a=>by
  have ih:=thin_snoc b (y::p) a;show q0t (x::y::(p++[a,b]))=if (a==b)=true then q0t (x::y::(p++[a])) else q0t (x::y::(p++[a]))++[b]
  rw [q0t,q0t];have e1:q0t (y::p++[a,b])=q0t (y::(p++[a,b])):=rfl;have e2:q0t (y::p++[a])=q0t (y::(p++[a])):=rfl;rw [e1,e2] at ih;rw [ih];by_cases hx:x=y
  ·rw [if_pos (beq_iff_eq.2 hx),if_pos (beq_iff_eq.2 hx)]
  ·rw [if_neg (λe=>hx (beq_iff_eq.1 e)),if_neg (λe=>hx (beq_iff_eq.1 e))]
   split <;> rfl
theorem row_grown {w:World} {base:Nat} {e:TypeId} {v:Value} {n:Nat} {cells:List Value} (os:Array Obj) (h:w.ownsRow base e 1 v n cells):(grow w os).ownsRow base e 1 v n cells:=by
 rcases h with ⟨hl,h⟩;refine ⟨hl,?_⟩;rcases h with ⟨e0,h0⟩ | ⟨g,cap,cur,hv,hb,hg,hr⟩
 ·exact .inl ⟨e0,h0⟩
 ·refine .inr ⟨g,cap,cur,hv,hb,?_,hr⟩
  have hlt:g<w.heap.size:=by
   rcases Nat.lt_or_ge g w.heap.size with h' | h'
   ·exact h'
   ·rw [Array.getElem?_eq_none h'] at hg;cases hg
  show (w.heap++os)[g]? = _;rw [Array.getElem?_append_left hlt];exact hg
theorem sortL_holds:oSortL.Holds Tryz.prog:=by
 refine ⟨⟨_,Tryz.func116,by kernel_rfl,by kernel_rfl⟩,λxs p b v cells vs fvs w n0 S hn0 hS hvS hown hcells hpre hvs hfa _=>?_⟩
 have hfa:fvs=[.func (.func 67) #[] #[]]:=hfa;subst hfa;obtain ⟨xs,rfl⟩:∃ q:List (List Int),q=xs:=⟨xs,rfl⟩;obtain ⟨hp1,hp2⟩:=hpre;have hp1:xs.length≤1000000000:=hp1;have hp2:∀ x∈xs,x.length≤1000000:=hp2;have hvs2:vs=[]:=List.eq_nil_of_length_eq_zero hvs.1;subst hvs2;have hown1:w.ownsRow n0 40 1 v xs.length cells:=hown;have hcl:cells.length=xs.length:=by have:=hown1.1;omega
 obtain ⟨ds,hd1,hd2⟩:=svs_of (w:=w) (S:=S) hcl λi x hx=>by
  obtain ⟨u,hu,hr⟩:=hcells i x hx 0 ⟨Kd.sl (.one (.int .i64)),x⟩ rfl;have e:i*oSortL.fs.size+0=i:=by show i*1+0=i;omega
  rw [e] at hu;have hm:=hp2 x (List.mem_of_getElem? hx);exact ⟨u,hu,sv_of hr (by omega)⟩
 have hdl:ds.length=xs.length:=by rw [← hd2,List.length_map]
 by_cases hnil:v=.slice none 0 0
 ·subst hnil
  have h0:xs.length=0:=by
   rcases hown1.2 with ⟨_,h0⟩ | ⟨g,cap,cur,h,_⟩
   ·exact h0
   ·cases h
  have hxs:=List.eq_nil_of_length_eq_zero h0;subst hxs;refine (AnyF.slices_SortFunc_none (P:=Tryz.prog) (ρ:=Tryz.laysSlF6_f116_ren) { Tryz.laysSlF6_f116 with } none 0 _ w).mono ?_;rintro e w' ⟨rfl,rfl⟩;have e0:ordL ([]:List (List Int))=[]:=List.eq_nil_of_length_eq_zero (ord_len []);refine ⟨⟨rfl,rfl,rfl,Nat.le_refl _,λ_ _ _=>rfl⟩,_,cells,rfl,?_,?_,(λh=>by cases h),λ_=>rfl⟩
  ·show World.ownsRow _ _ _ _ _ (ordL []).length _
   rw [e0];exact hown1
  ·show q0c (Cx.of S) _ kIs (ordL []) cells
   rw [e0];exact hcells
 ·rw [← hd1] at hown1
  obtain ⟨g,cap,rfl,hg1,hg2,hc1,hc2,_,hH⟩:=Lib.holds_of_ownsRow hown1 hnil;have hSg:¬ S g:=hvS g rfl;have hsort:=Tryz.slices_SortFunc SV.enc (λx=>rfl) SV.cf (sv_swo w S) 67 #[] g 0 cap ds.toArray w (enters_of Tryz.func67 (by kernel_rfl) rfl) (sv_lays w S g _ hSg) hH hg2 (by show ds.length<_;omega)
  have hsz:ds.toArray.size=xs.length:=hdl;rw [hsz] at hsort;refine hsort.mono ?_;rintro e w' ⟨rfl,d',n,os,hperm,hsorted,rfl⟩;have hsz0:d'.size=ds.toArray.size:=hperm.1;have hds:d'.size=ds.length:=hsz0;have hpl:d'.toList.Perm ds:=by
   have:=hperm.2.2
   rw [Array.extract_eq_self_of_le (by omega),Array.extract_eq_self_of_le (by show ds.toArray.size≤_;omega)] at this
   exact this
  have hmap:d'.toList.map SV.l=ordL xs:=by
   refine qkh ?_ ?_ (ord_up xs)
   ·have h1:=hpl.map SV.l
    rw [hd2] at h1;exact h1.trans (List.mergeSort_perm _ _).symm
   ·rw [List.pairwise_map,List.pairwise_iff_getElem]
    intro i j hi hj hij;have hj':j<d'.size:=by rwa [Array.length_toList] at hj
    have hi':i<d'.size:=by rwa [Array.length_toList] at hi
    have:=hsorted i j (Nat.zero_le _) hij (by omega)
    rw [getElem!_pos d' i hi',getElem!_pos d' j hj'] at this;have h2:¬ Cod.cmpL d'[j].l d'[i].l<0:=of_decide_eq_false this;have:=Cod.q5j d'[i].l d'[j].l;show Cod.cmpL d'[i].l d'[j].l≤0;omega
  have hrow:=ownsRow_putRow (q:=n) (k:=xs.length) (ys:=d'.toList) hown1 (by rw [Array.length_toList];omega) (Nat.le_refl _)
  have hrow:=row_grown os hrow;have htk:d'.toList.take xs.length=d'.toList:=List.take_of_length_le (by rw [Array.length_toList];omega)
  rw [htk] at hrow;refine ⟨?_,_,d'.toList.map SV.enc,rfl,?_,?_,(λh=>by cases h),λ_=>rfl⟩
  ·refine ⟨rfl,rfl,rfl,qa3 ..,λk hk hne=>?_⟩
   exact heap_sorted _ _ _ _ _ _ _ hk (λe=>hne (by rw [e];rfl))
  ·show World.ownsRow _ _ _ _ _ (ordL xs).length _
   rw [ord_len];exact hrow
  ·show q0c (Cx.of S) _ kIs (ordL xs) _
   rw [← hmap];exact sv_row _
theorem ints_put {w:World} {S:Nat→Prop} {blk:Nat} (hS:¬ S blk) (dk:Array (SV w S)) (m n:Nat) (q:SV w S):IntsIn ((putRow SV.enc (Sort.ahead w m) blk 0 dk).drewN n) (λ_=>True) q.A q.l.length q.l:=by
 refine ⟨rfl,λh=>?_⟩
 obtain ⟨g,off,e,hg,hs,hc⟩:=q.ok.2 h;have hne:g≠blk:=λe2=>hS (e2▸hs)
 have hsz:=qa3 (SV.enc (w:=w) (S:=S)) w blk 0 m dk #[];refine ⟨g,off,e,Nat.lt_of_lt_of_le hg (by simp only [sortWorld,grow_empty] at hsz;exact hsz),trivial,λj hj=>?_⟩
 have:=qib (SV.enc (w:=w) (S:=S)) w blk 0 m dk #[] (o:=off+j) hg hne
 unfold sortWorld at this;rw [grow_empty] at this;show (putRow SV.enc (Sort.ahead w m) blk 0 dk).cell? _=_;rw [this];exact hc j hj
theorem ints_drew {w:World} {S:Nat→Prop} (n:Nat) (q:SV w S):IntsIn (w.drewN n) S q.A q.l.length q.l:=⟨rfl,λh=>q.ok.2 h⟩
theorem thin_take (T:List (List Int)) (k:Nat) (h1:1≤k) (h:k<T.length):q0t (T.take (k+1))=if (T.getD (k-1) []==T.getD k [])=true then q0t (T.take k) else q0t (T.take k)++[T.getD k []]:=by
 obtain ⟨j,rfl⟩:∃ j,k=j+1:=⟨k-1,by omega⟩
 rw [Snd.q1d T [] (j+1) h,Snd.q1d T [] j (by omega),List.append_assoc]
 exact thin_snoc _ _ _
theorem getD_l {w:World} {S:Nat→Prop} (d:Array (SV w S)) (k:Nat) (h:k<d.size):(d.toList.map SV.l).getD k []=d[k]!.l:=by
 rw [List.getD_eq_getElem?_getD,List.getElem?_map,Array.getElem?_toList,Array.getElem?_eq_getElem h,getElem!_pos d k h];rfl
theorem qcm {w:World} {S:Nat→Prop} (d:Array (SV w S)) (k:Nat) (h1:1≤k) (h:k<d.size):q0t ((d.toList.map SV.l).take (k+1))=if (d[k-1]!.l==d[k]!.l)=true then q0t ((d.toList.map SV.l).take k) else q0t ((d.toList.map SV.l).take k)++[d[k]!.l]:=by
 rw [thin_take _ k h1 (by rw [List.length_map,Array.length_toList];exact h),getD_l d k h,getD_l d (k-1) (by omega)]
theorem thin_one {w:World} {S:Nat→Prop} (d:Array (SV w S)) (k:Nat) (h:k≤1):q0t ((d.toList.map SV.l).take k)=(d.toList.map SV.l).take k:=by
 have:((d.toList.map SV.l).take k).length≤1:=by rw [List.length_take];omega
 generalize (d.toList.map SV.l).take k=T at this
 match T,this with
 | [],_=>rfl
 | [x],_=>rfl
theorem take_set_l {w:World} {S:Nat→Prop} (dk:Array (SV w S)) (kk:Nat) (u:SV w S) (h:kk<dk.size):((dk.setIfInBounds kk u).toList.take (kk+1)).map SV.l=(dk.toList.take kk).map SV.l++[u.l]:=by
 rw [Array.toList_setIfInBounds,List.take_set,List.take_succ_eq_append_getElem (by rw [Array.length_toList];exact h),List.set_append_right _ _ (by rw [List.length_take];omega),List.length_take]
 have e:kk-min kk dk.toList.length=0:=by rw [Array.length_toList];omega
 rw [e,List.map_append];rfl
theorem lay_size {α:Type} [Inhabited α]:∀ (xs:List α) (d:Array α) (k:Nat),(Lib.lay d k xs).size=d.size
 | [],_,_=>rfl
 | x::r,d,k=>by
  rw [Lib.lay,lay_size r];exact Array.size_setIfInBounds
theorem lay_head {α:Type} [Inhabited α] (xs:List α) (d:Array α) (k:Nat) (h:k+xs.length≤d.size):(Lib.lay d k xs).toList.take k=d.toList.take k:=by
 apply List.ext_getElem?
 intro i;rw [List.getElem?_take,List.getElem?_take];by_cases hi:i<k
 ·rw [if_pos hi,if_pos hi,Array.getElem?_toList,Array.getElem?_toList,Lib.lay_get? xs d k i h,if_neg (by omega)]
 ·rw [if_neg hi,if_neg hi]
set_option maxHeartbeats 4000000 in
set_option maxRecDepth 1000000 in
theorem compact_arr (w:World) (S:Nat→Prop) (blk cap:Nat) (d:Array (SV w S)) (hS:¬ S blk) (hH:Holds SV.enc w blk 0 d) (hsz:d.size≤1000000000) (hcap:d.size≤cap) :
  Calls Tryz.prog 68 #[.slice (some ⟨blk,0,none⟩) d.size cap,.func (.func 69) #[] #[]] w λe w' =>
   ∃ (q kk:Nat) (dk:Array (SV w S)),e=.returned (.slice (some ⟨blk,0,none⟩) kk cap)∧w'=putRow SV.enc (Sort.ahead w q) blk 0 dk∧dk.size=d.size∧kk≤d.size∧(dk.toList.take kk).map SV.l=q0t (d.toList.map SV.l):=by
 by_cases h2:d.size<2
 ·have HH:Aside (Holds SV.enc w blk 0 d):=hH
  have HS:Aside (¬ S blk):=hS;clear hH hS
  go_enter Tryz.func68,Tryz.ntmps68
  go_wp2
  go_ret
  refine ⟨0,d.size,d,rfl,(putRow_self SV.enc _ blk 0 d (holds_ahead SV.enc w 0 blk 0 d HH.out)).symm,rfl,Nat.le_refl _,?_⟩;rw [List.take_of_length_le (by rw [Array.length_toList];exact Nat.le_refl _)]
  have:=thin_one d d.size (by omega)
  rw [List.take_of_length_le (by rw [List.length_map,Array.length_toList];exact Nat.le_refl _)] at this
  exact this.symm
 ·go_enter Tryz.func68,Tryz.ntmps68
  have HS:Aside (¬ S blk):=hS;clear hS
  go_wp2
  go_loopg [5] d.size (λg s5 wr=>∃ k q:Nat,1≤k∧k≤d.size∧d.size-k≤g∧s5=.int .i64 k∧wr=w.drewN q∧q0t ((d.toList.map SV.l).take k)=(d.toList.map SV.l).take k)
  case atStart=>exact ⟨1,0,Nat.le_refl _,by omega,by omega,rfl,rfl,thin_one d 1 (Nat.le_refl _)⟩
  case round =>
   obtain ⟨k,q,hk1,hk,hg,rfl,rfl,hall⟩:=hrel;by_cases hlt:k<d.size
   ·obtain ⟨c1,f1⟩:=hH k hlt
    obtain ⟨c0,f0⟩:=hH (k-1) (by omega)
    have A:Aside (q0t ((d.toList.map SV.l).take k)=(d.toList.map SV.l).take k):=hall;have HH:Aside (Holds SV.enc w blk 0 d):=hH;clear hall hH;generalize hx:d[k]! = x at c1;generalize hy:d[k-1]! = y at c0;have B:Aside (d[k]! = x∧d[k-1]! = y):=⟨hx,hy⟩;clear hx hy;have call:∀ n,Calls Tryz.prog 69 #[.slice x.A x.l.length x.c,.slice y.A y.l.length y.c] (w.drewN (q+n)) λe w'=>e=.returned (.bool (x.l==y.l))∧∃ m,w'=w.drewN (q+m):=λn=>(equal_any x.small y.small (ints_drew (q+n) x) (ints_drew (q+n) y)).mono λe w' h=>by
     obtain ⟨he,m,hw⟩:=h;exact ⟨he,n+m,by rw [hw,World.drewN_drewN,Nat.add_assoc]⟩
    have c1:w.cell? ⟨blk,0+k,none⟩=some (.slice x.A x.l.length x.c):=c1;have c0:w.cell? ⟨blk,0+(k-1),none⟩=some (.slice y.A y.l.length y.c):=c0;rw [Nat.zero_add] at c1 c0;have wk:IntKind.i64.wrap ((k:Int)-1)=((k-1:Nat):Int):=by rw [IntKind.wrap_i64] <;> omega
    have pk:(((k-1:Nat):Int))<(d.size:Int):=by omega
    have pk0:(0:Int)≤((k-1:Nat):Int):=by omega
    by_cases hdup:x.l=y.l
    ·rw [show (x.l==y.l)=true from beq_iff_eq.2 hdup] at call
     have D:Aside (x.l=y.l):=hdup;clear hdup
     go_wp2_with fail
     go_quiet (exact call _)
     go_wp2
     clear c0 c1 f0 f1 call
     go_loopg [5,7] d.size (λg s5 s7 wr=>∃ (kk k2 q2:Nat) (dk:Array (SV w S)),s5=.int .i64 kk∧s7=.int .i64 k2∧1≤k2∧k+k2≤d.size∧d.size-(k+k2)≤g∧wr=putRow SV.enc (Sort.ahead w q2) blk 0 dk∧dk.size=d.size∧kk<k+k2∧(∀ j,kk≤j→dk[j]! = d[j]!)∧(dk.toList.take kk).map SV.l=q0t ((d.toList.map SV.l).take (k+k2)))
     case atStart =>
      refine ⟨k,1,q+nq,d,rfl,rfl,Nat.le_refl _,by omega,by omega,(putRow_self SV.enc (Sort.ahead w (q+nq)) blk 0 d (holds_ahead SV.enc w (q+nq) blk 0 d HH.out)).symm,rfl,by omega,λ_ _=>rfl,?_⟩
      rw [qcm d k hk1 hlt,B.out.1,B.out.2,if_pos (beq_iff_eq.2 D.out.symm),A.out,List.map_take]
     case round =>
      obtain ⟨kk,k2,q2,dk,rfl,rfl,h1,hle,hg2,hwr,hds,hkk,hhigh,hthin⟩:=hrel;have hHk:Holds SV.enc wr blk 0 dk:=by rw [hwr];exact holds_putRow SV.enc _ blk 0 d dk (holds_ahead SV.enc w q2 blk 0 d HH.out) hds
      have W2:Aside (wr=putRow SV.enc (Sort.ahead w q2) blk 0 dk):=hwr;have I2:Aside (dk.size=d.size∧(∀ j,kk≤j→dk[j]! = d[j]!)∧(dk.toList.take kk).map SV.l=q0t ((d.toList.map SV.l).take (k+k2))):=⟨hds,hhigh,hthin⟩;clear hwr hthin;by_cases hlt2:k+k2<d.size
      ·obtain ⟨cm,_⟩:=hHk (k+k2) (by omega)
       obtain ⟨cp,_⟩:=hHk (k+k2-1) (by omega)
       obtain ⟨ck,fk⟩:=hHk kk (by omega)
       rw [hhigh (k+k2) (by omega),Nat.zero_add] at cm
       rw [hhigh (k+k2-1) (by omega),show 0+(k+k2-1)=k+(k2-1) by omega] at cp
       rw [Nat.zero_add] at ck fk;clear hHk hhigh hds;generalize hu:d[k+k2]! = u at cm;generalize hv:d[k+k2-1]! = v at cp;generalize dk[kk]! = old at ck;have C:Aside (d[k+k2]! = u∧d[k+k2-1]! = v):=⟨hu,hv⟩;clear hu hv
       change wr.cell? ⟨blk,k+k2,none⟩=some (.slice u.A u.l.length u.c) at cm
       change wr.cell? ⟨blk,k+(k2-1),none⟩=some (.slice v.A v.l.length v.c) at cp
       change wr.cell? ⟨blk,kk,none⟩=some (.slice old.A old.l.length old.c) at ck
       have call2:∀ n,Calls Tryz.prog 69 #[.slice u.A u.l.length u.c,.slice v.A v.l.length v.c] (wr.drewN n) λe w'=>e=.returned (.bool (u.l==v.l))∧∃ m,w'=wr.drewN m:=λn=>by
        have h:=equal_any (w:=wr.drewN n) (c:=u.c) (d:=v.c) u.small v.small (by rw [W2.out];exact ints_put HS.out dk q2 n u) (by rw [W2.out];exact ints_put HS.out dk q2 n v)
        refine h.mono λe w' h=>?_
        obtain ⟨he,m,hw⟩:=h;exact ⟨he,n+m,by rw [hw,World.drewN_drewN]⟩
       have wk2:IntKind.i64.wrap ((k2:Int)-1)=((k2-1:Nat):Int):=by rw [IntKind.wrap_i64] <;> omega
       have pk2:(((k2-1:Nat):Int))<((d.size-k:Nat):Int):=by omega
       have pk3:(0:Int)≤((k2-1:Nat):Int):=by omega
       have pk4:((k2:Nat):Int)<((d.size-k:Nat):Int):=by omega
       by_cases huv:u.l=v.l
       ·rw [show (u.l==v.l)=true from beq_iff_eq.2 huv] at call2
        have E:Aside (u.l=v.l):=huv;clear huv
        go_wp2_with fail
        go_quiet (exact call2 _)
        go_wp2
        go_roundg (d.size-(k+(k2+1)))
        case measure=>omega
        case rel =>
         refine ⟨kk,k2+1,q2+nq,dk,rfl,by go_num,by omega,by omega,Nat.le_refl _,?_,I2.out.1,by omega,I2.out.2.1,?_⟩
         ·rw [W2.out,putRow_drewN]
         ·rw [I2.out.2.2,show k+(k2+1)=k+k2+1 by omega,qcm d (k+k2) (by omega) hlt2,C.out.1,C.out.2,if_pos (beq_iff_eq.2 E.out.symm)]
       ·rw [show (u.l==v.l)=false from beq_eq_false_iff_ne.2 huv] at call2
        have F:Aside (¬ u.l=v.l):=huv;clear huv
        go_wp2_with fail
        go_quiet (exact call2 _)
        go_wp2
        go_roundg (d.size-(k+(k2+1)))
        case measure=>omega
        case rel =>
         refine ⟨kk+1,k2+1,q2+nq,dk.setIfInBounds kk u,by go_num,by go_num,by omega,by omega,Nat.le_refl _,?_,by rw [Array.size_setIfInBounds];exact I2.out.1,by omega,?_,?_⟩
         ·have hset:=putRow_set SV.enc (Sort.ahead w (q2+nq)) blk 0 dk kk u (by rw [I2.out.1];omega)
          rw [Nat.zero_add] at hset;rw [W2.out,putRow_drewN];exact hset
         ·intro j hj
          rw [getElem!_set_other dk kk j _ (by omega),I2.out.2.1 j (by omega)]
         ·rw [take_set_l dk kk u (by rw [I2.out.1];omega),I2.out.2.2,show k+(k2+1)=k+k2+1 by omega,qcm d (k+k2) (by omega) hlt2,C.out.1,C.out.2,if_neg (λe=>F.out (beq_iff_eq.1 e).symm)]
      ·have hend:k+k2=d.size:=by omega
       have hcl:∀ ty,(Builtin.clear_ #[50] ty #[.slice (some ⟨blk,kk,none⟩) (d.size-kk) (cap-kk)]).run Tryz.prog wr=.ok (.tuple #[]) (wr.setCells blk kk (List.replicate (d.size-kk) (.slice none 0 0))) :=
        λty=>Lib.run_clear_slice wr _ 40 ty _ (by kernel_rfl) (λ_=>rfl) rfl rfl blk kk _ _ (by omega) (λj hj=>by have:=(hHk (kk+j) (by omega)).1;rw [Nat.zero_add] at this;rw [this];rfl) (λj hj=>by have:=(hHk (kk+j) (by omega)).2;rwa [Nat.zero_add] at this)
       clear hHk hhigh hds
       go_wp2
       go_ret
       have hth:=I2.out.2.2;have hT:(d.toList.map SV.l).take d.size=d.toList.map SV.l:=List.take_of_length_le (by rw [List.length_map,Array.length_toList];exact Nat.le_refl _)
       rw [hend,hT] at hth;have hsz1:=I2.out.1;have hlay:kk+(List.replicate (d.size-kk) (default:SV w S)).length≤dk.size:=by rw [List.length_replicate];omega
       have hset:=Lib.putRow_setCells SV.enc (Sort.ahead w q2) blk 0 (List.replicate (d.size-kk) (default:SV w S)) dk kk hlay;rw [Nat.zero_add,List.map_replicate] at hset;refine ⟨q2,kk,Lib.lay dk kk (List.replicate (d.size-kk) default),rfl,?_,by rw [lay_size];exact hsz1,by omega,?_⟩
       ·rw [W2.out]
        exact hset
       ·rw [lay_head _ _ _ hlay]
        exact hth
    ·rw [show (x.l==y.l)=false from beq_eq_false_iff_ne.2 hdup] at call
     go_wp2_with fail
     go_quiet (exact call _)
     go_wp2
     go_roundg (d.size-(k+1))
     case measure=>omega
     case rel =>
      refine ⟨k+1,q+nq,by omega,by omega,Nat.le_refl _,by go_num,rfl,?_⟩
      rw [qcm d k hk1 hlt,B.out.1,B.out.2,if_neg (λe=>hdup (beq_iff_eq.1 e).symm),A.out,Snd.q1d (d.toList.map SV.l) [] k (by rw [List.length_map,Array.length_toList];exact hlt),getD_l d k hlt,B.out.1]
   ·have:k=d.size:=by omega
    subst this;have HH:Aside (Holds SV.enc w blk 0 d):=hH;clear hH
    go_wp2
    go_ret
    refine ⟨q,d.size,d,rfl,(putRow_self SV.enc _ blk 0 d (holds_ahead SV.enc w q blk 0 d HH.out)).symm,rfl,Nat.le_refl _,?_⟩;rw [List.take_of_length_le (by rw [List.length_map,Array.length_toList];exact Nat.le_refl _)] at hall
    rw [List.take_of_length_le (by rw [Array.length_toList];exact Nat.le_refl _)]
    exact hall.symm
end Go.Proofs.YtfecgebhoondjaaGreatDoor
namespace Go.Proofs.YtfecgebhoondjaaGreatDoor
open Go.RowKit R
abbrev q45 (e:Cod.Ear):Prop :=
 ((e.lang=e.lang∧e.ws=e.ws∧True∧e.c=e.c∧True)∧(e.lang=e.lang∧e.ws=e.ws∧True)∧True)
abbrev q5e (code:List Int) (e:Cod.Ear):Prop :=
 ((True∧True)∧(True∧True)∧(code=code∧True)∧(e.lang=e.lang∧e.ws=e.ws∧True∧e.c=e.c∧True)∧True)
abbrev zCoT0_2 (code:List Int) (e:Cod.Ear) (p:Nat×q04×List (List Int)) (p':Nat×List (List Int)) (p_2:Nat×List (List Int)):Prop :=
 ((p_2.1:Int)+1=(p'.1:Int)∧True∧True∧True∧True∧(p.1:Int)=(p.1:Int)∧code.getD (p.1:Int).toNat (0:Int)=code.getD (p.1:Int).toNat (0:Int)∧code=code∧(code.length:Int)=(code.length:Int)∧(p.1:Int)=(p.1:Int)∧e.near (code.getD (p.1:Int).toNat (0:Int))=e.near (code.getD (p.1:Int).toNat (0:Int))∧(↑(e.near (code.getD (p.1:Int).toNat (0:Int))).length:Int)=(↑(e.near (code.getD (p.1:Int).toNat (0:Int))).length:Int)∧True)
abbrev q9e (code:List Int) (e:Cod.Ear):Prop :=
 (True∧Snd.q0l e.c=(Snd.q0h e.lang e.ws&&Snd.q0l e.c)∧code=code∧True∧True)
abbrev q9j (code:List Int) (e:Cod.Ear):Prop :=
 (True∧false=(Snd.q0h e.lang e.ws&&Snd.q0l e.c)∧code=code∧True∧True)
abbrev zCoT0_5 (code:List Int) (p:Nat×q04×List (List Int)):Prop :=
 (True∧True∧True∧True∧(p.1:Int)=(p.1:Int)∧code.getD (p.1:Int).toNat (0:Int)=code.getD (p.1:Int).toNat (0:Int)∧code=code∧(code.length:Int)=(code.length:Int)∧(p.1:Int)=(p.1:Int)∧True∧True∧True∧True∧True∧True∧True)
abbrev qhb (code:List Int) (p:Nat×q04×List (List Int)) (p':Nat×q04×List (List Int)):Prop :=
 ((p.1:Int)+1=(p'.1:Int)∧True∧True∧True∧True∧code=code∧(code.length:Int)=(code.length:Int)∧True)
set_option maxRecDepth 100000 in
theorem mist_vc (e:Cod.Ear) (code:List Int) (h:cMist.pre ((e.lang,e.ws),e.c,code)) :
  (((q0x (e.lang,e.ws)∧bif Snd.q0h e.lang e.ws then q0o e.c∧∃ (p':Unit),True∧(q9e code e)∧(q45 e)∧True∧True∧(([]:q04)=[]∧True)∧True∧True∧True∧True∧True else ∃ (p':Unit),True∧(q9j code e)∧(q45 e)∧True∧True∧(([]:q04)=[]∧True)∧True∧True∧True∧True∧True)∧q0x (e.lang,e.ws)∧bif Snd.q0h e.lang e.ws then (q0o e.c∧∃ (p':Unit),True∧(q9e code e)∧(q45 e)∧True∧True∧(([]:q04)=[]∧True)∧True∧True∧True∧True∧True)∧q0o e.c∧∃ (p':Unit),True∧(q9e code e)∧(q45 e)∧True∧True∧(([]:q04)=[]∧True)∧True∧True∧True∧True∧True else (∃ (p':Unit),True∧(q9j code e)∧(q45 e)∧True∧True∧(([]:q04)=[]∧True)∧True∧True∧True∧True∧True)∧∃ (p':Unit),True∧(q9j code e)∧(q45 e)∧True∧True∧(([]:q04)=[]∧True)∧True∧True∧True∧True∧True)∧q0x (e.lang,e.ws)∧bif Snd.q0h e.lang e.ws then ((q0o e.c∧∃ (p':Unit),True∧(q9e code e)∧(q45 e)∧True∧True∧(([]:q04)=[]∧True)∧True∧True∧True∧True∧True)∧q0o e.c∧∃ (p':Unit),True∧(q9e code e)∧(q45 e)∧True∧True∧(([]:q04)=[]∧True)∧True∧True∧True∧True∧True)∧q0o e.c∧∃ (p':Unit),True∧(q9e code e)∧(q45 e)∧True∧True∧(([]:q04)=[]∧True)∧True∧True∧True∧True∧True else ((∃ (p':Unit),True∧(q9j code e)∧(q45 e)∧True∧True∧(([]:q04)=[]∧True)∧True∧True∧True∧True∧True)∧∃ (p':Unit),True∧(q9j code e)∧(q45 e)∧True∧True∧(([]:q04)=[]∧True)∧True∧True∧True∧True∧True)∧∃ (p':Unit),True∧(q9j code e)∧(q45 e)∧True∧True∧(([]:q04)=[]∧True)∧True∧True∧True∧True∧True)∧∀ (p:Unit),True→bif !(Snd.q0h e.lang e.ws&&Snd.q0l e.c) then ([],(1:Int))=e.q2g code else (q0x (e.lang,e.ws)∧code.length≤(1000000:Nat))∧bif !Cod.q1m e.lang e.ws code then ([],(1:Int))=e.q2g code else (∃ (p':Nat×q04×List (List Int)),(p'.1≤code.length∧q0q e p'.2.1∧p'.2.2=e.q0k code p'.1 (0:Nat))∧((0:Int)=(p'.1:Int)∧True∧True∧True∧True∧code=code∧(code.length:Int)=(code.length:Int)∧True)∧(q5e code e)∧(p'.2.2=[]∧True)∧True∧([]=p'.2.1∧True)∧(True∧True∧True)∧True∧True∧True∧True∧(True∧True)∧True)∧∀ (p:Nat×q04×List (List Int)),p.1≤code.length∧q0q e p.2.1∧p.2.2=e.q0k code p.1 (0:Nat)→bif decide ((p.1:Int)<(code.length:Int)) then (0≤(p.1:Int)∧(p.1:Int)<(code.length:Int))∧(bif !(Mp.get (λ(x x_1:Int)=>x==x_1) (code.getD (p.1:Int).toNat (0:Int)) p.2.1).isSome then ((0:Int)≤code.getD (p.1:Int).toNat (0:Int)∧code.getD (p.1:Int).toNat 0<(e.ws.length:Int))∧(q0x (e.lang,e.ws)∧q0o e.c∧(e.ws.getD (code.getD (p.1:Int).toNat (0:Int)).toNat []).length≤(1000000:Nat))∧∃ (p':q04),q0q e p'∧((Snd.q35 e.lang e.ws e.c (e.ws.getD (code.getD (p.1:Int).toNat (0:Int)).toNat [])).1=e.near (code.getD (p.1:Int).toNat (0:Int))∧True)∧(q5e code e)∧(p.2.2=p.2.2∧True)∧True∧(Mp.put (λ(x x_1:Int)=>x==x_1) (code.getD (p.1:Int).toNat (0:Int)) (Snd.q35 e.lang e.ws e.c (e.ws.getD (code.getD (p.1:Int).toNat (0:Int)).toNat [])).1 p.2.1=p'∧True)∧(zCoT0_5 code p)∧True∧True∧True∧True∧(True∧True)∧True else ∃ (p':q04),q0q e p'∧((Mp.get (λ(x x_1:Int)=>x==x_1) (code.getD (p.1:Int).toNat (0:Int)) p.2.1).getD []=e.near (code.getD (p.1:Int).toNat (0:Int))∧True)∧(q5e code e)∧(p.2.2=p.2.2∧True)∧True∧(p.2.1=p'∧True)∧(zCoT0_5 code p)∧True∧True∧True∧True∧(True∧True)∧True)∧∀ (p_1:q04),q0q e p_1→(∃ (p':Nat×List (List Int)),(p'.1≤(e.near (code.getD (p.1:Int).toNat (0:Int))).length∧p'.2=p.2.2++q1q e code (p.1:Int).toNat p'.1)∧((0:Int)=(p'.1:Int)∧True∧True∧True∧True∧(p.1:Int)=(p.1:Int)∧code.getD (p.1:Int).toNat (0:Int)=code.getD (p.1:Int).toNat (0:Int)∧code=code∧(code.length:Int)=(code.length:Int)∧(p.1:Int)=(p.1:Int)∧e.near (code.getD (p.1:Int).toNat (0:Int))=e.near (code.getD (p.1:Int).toNat (0:Int))∧(↑(e.near (code.getD (p.1:Int).toNat (0:Int))).length:Int)=(↑(e.near (code.getD (p.1:Int).toNat (0:Int))).length:Int)∧True)∧(q5e code e)∧(p.2.2=p'.2∧True)∧True∧(p_1=p_1∧True)∧(True∧True∧True)∧True∧True∧True∧True∧(True∧True)∧True)∧∀ (p_2:Nat×List (List Int)),p_2.1≤(e.near (code.getD (p.1:Int).toNat (0:Int))).length∧p_2.2=p.2.2++q1q e code (p.1:Int).toNat p_2.1→bif decide ((p_2.1:Int)<(↑(e.near (code.getD (p.1:Int).toNat (0:Int))).length:Int)) then (0≤(p_2.1:Int)∧(p_2.1:Int)<(↑(e.near (code.getD (p.1:Int).toNat (0:Int))).length:Int))∧bif (e.near (code.getD (p.1:Int).toNat (0:Int))).getD (p_2.1:Int).toNat (0:Int) != code.getD (p.1:Int).toNat (0:Int) then code.length≤(1000000:Nat)∧(0≤(p.1:Int)∧(p.1:Int)<(code.length:Int))∧bif (p.1:Int).toNat.beq (p.1:Int).toNat then (p_2.2.length+[code.set (p.1:Int).toNat ((e.near (code.getD (p.1:Int).toNat (0:Int))).getD (p_2.1:Int).toNat (0:Int))].length)*(24:Nat)≤(140737488355328:Nat)∧(zFit ((p_2.1:Int)+1))∧∃ (p':Nat×List (List Int)),(p'.1≤(e.near (code.getD (p.1:Int).toNat (0:Int))).length∧p'.2=p.2.2++q1q e code (p.1:Int).toNat p'.1)∧(e.near (code.getD (p.1:Int).toNat (0:Int))).length-p'.1<(e.near (code.getD (p.1:Int).toNat (0:Int))).length-p_2.1∧(zCoT0_2 code e p p' p_2)∧(q5e code e)∧(p_2.2++[code.set (p.1:Int).toNat ((e.near (code.getD (p.1:Int).toNat (0:Int))).getD (p_2.1:Int).toNat (0:Int))]=p'.2∧True)∧True∧(p_1=p_1∧True)∧(True∧True∧True)∧True∧True∧True∧True∧(True∧True)∧True else False else (zFit ((p_2.1:Int)+1))∧∃ (p':Nat×List (List Int)),(p'.1≤(e.near (code.getD (p.1:Int).toNat (0:Int))).length∧p'.2=p.2.2++q1q e code (p.1:Int).toNat p'.1)∧(e.near (code.getD (p.1:Int).toNat (0:Int))).length-p'.1<(e.near (code.getD (p.1:Int).toNat (0:Int))).length-p_2.1∧(zCoT0_2 code e p p' p_2)∧(q5e code e)∧(p_2.2=p'.2∧True)∧True∧(p_1=p_1∧True)∧(True∧True∧True)∧True∧True∧True∧True∧(True∧True)∧True else (code.length≤(1000000:Nat)∧(zFit ((p.1:Int)+1))∧((p.1:Int)+1=(p.1:Int)+1∧0≤(p.1:Int)∧(p.1:Int)<(code.length:Int))∧(p_2.2.length+[code.eraseIdx (p.1:Int).toNat].length)*(24:Nat)≤(140737488355328:Nat)∧∃ (p':List (List Int)),p'=p_2.2++[code.eraseIdx (p.1:Int).toNat]∧(True∧True∧True∧True∧(p.1:Int)=(p.1:Int)∧code.getD (p.1:Int).toNat (0:Int)=code.getD (p.1:Int).toNat (0:Int)∧code=code∧(code.length:Int)=(code.length:Int)∧(p.1:Int)=(p.1:Int)∧True)∧(q5e code e)∧(p_2.2++[code.eraseIdx (p.1:Int).toNat]=p'∧True)∧True∧(p_1=p_1∧True)∧(True∧True∧True)∧True∧True∧True∧True∧(True∧True)∧True)∧∀ (p_3:List (List Int)),p_3=p_2.2++[code.eraseIdx (p.1:Int).toNat]→bif (p.1:Int)==(0:Int) then (zFit ((p.1:Int)+1))∧∃ (p':Nat×q04×List (List Int)),(p'.1≤code.length∧q0q e p'.2.1∧p'.2.2=e.q0k code p'.1 (0:Nat))∧code.length-p'.1<code.length-p.1∧(qhb code p p')∧(q5e code e)∧(p_3=p'.2.2∧True)∧True∧(p_1=p'.2.1∧True)∧(True∧True∧True)∧True∧True∧True∧True∧(True∧True)∧True else (zFit ((p.1:Int)-1))∧(0≤(p.1:Int)-1∧(p.1:Int)-1<(code.length:Int))∧bif code.getD ((p.1:Int)-1).toNat (0:Int)==code.getD (p.1:Int).toNat (0:Int) then (zFit ((p.1:Int)+1))∧∃ (p':Nat×q04×List (List Int)),(p'.1≤code.length∧q0q e p'.2.1∧p'.2.2=e.q0k code p'.1 (0:Nat))∧code.length-p'.1<code.length-p.1∧(qhb code p p')∧(q5e code e)∧(p_3=p'.2.2∧True)∧True∧(p_1=p'.2.1∧True)∧(True∧True∧True)∧True∧True∧True∧True∧(True∧True)∧True else (zFit ((p.1:Int)-1))∧(0≤(p.1:Int)-1∧(p.1:Int)-1<(code.length:Int))∧code.length≤(1000000:Nat)∧(0≤(p.1:Int)∧(p.1:Int)<(code.length:Int))∧bif (p.1:Int).toNat.beq (p.1:Int).toNat then (zFit ((p.1:Int)-1))∧(0≤(p.1:Int)-1∧(p.1:Int)-1<(↑(code.set (p.1:Int).toNat (code.getD ((p.1:Int)-1).toNat (0:Int))).length:Int))∧bif ((p.1:Int)-1).toNat.beq ((p.1:Int)-1).toNat then (p_3.length+[(code.set (p.1:Int).toNat (code.getD ((p.1:Int)-1).toNat (0:Int))).set ((p.1:Int)-1).toNat (code.getD (p.1:Int).toNat (0:Int))].length)*(24:Nat)≤(140737488355328:Nat)∧(zFit ((p.1:Int)+1))∧∃ (p':Nat×q04×List (List Int)),(p'.1≤code.length∧q0q e p'.2.1∧p'.2.2=e.q0k code p'.1 (0:Nat))∧code.length-p'.1<code.length-p.1∧(qhb code p p')∧(q5e code e)∧(p_3++[(code.set (p.1:Int).toNat (code.getD ((p.1:Int)-1).toNat (0:Int))).set ((p.1:Int)-1).toNat (code.getD (p.1:Int).toNat (0:Int))]=p'.2.2∧True)∧True∧(p_1=p'.2.1∧True)∧(True∧True∧True)∧True∧True∧True∧True∧(True∧True)∧True else False else False else LongX p.2.2∧LongX (ordL p.2.2)∧(q0t (ordL p.2.2),(0:Int))=e.q2g code:=by
 delta q45 q5e zCoT0_2 q9e q9j zCoT0_5 qhb zFit
 obtain ⟨hW,hC,h1⟩:=h;have hW:q0x (e.lang,e.ws):=hW;have hC:q0o e.c:=hC;have h1:code.length≤1000000:=h1;have ok:e.ok=(Snd.q0h e.lang e.ws&&Snd.q0l e.c):=rfl;have no:(e.ok&&Cod.q1m e.lang e.ws code)=false→([],(1:Int))=e.q2g code:=λh=>by unfold Cod.Ear.q2g;rw [h];rfl
 simp only [true_and,and_true,eq_self,and_self,Nat.beq_refl,Bool.and_self,Bool.true_and,cond_true,Int.toNat_natCast,forall_const,exists_const,true_implies];refine ⟨?_,?_⟩
 ·clear ok no
  generalize Snd.q0h e.lang e.ws=v at *
  generalize Snd.q0l e.c=q at *
  cases v <;> cases q <;> simp [hW,hC]
 rw [← ok];refine bifP (λhok=>no (by rw [q9x hok];rfl)) λhok=>?_
 have hok:=q5o hok;refine ⟨⟨hW,h1⟩,bifP (λhcd=>no (by rw [q9x hcd,Bool.and_false])) λhcd=>?_⟩
 have hcd:=q5o hcd;obtain ⟨⟨hg3,hg5⟩,hin⟩:=code_in hcd;have hws:e.ws.length≤1000000:=hW.2.1;refine ⟨⟨(0,[],[]),⟨Nat.zero_le _,qjz e,rfl⟩,by and_intros <;> rfl⟩,?_⟩
 rintro ⟨k,nr,out⟩ ⟨hkl,hn,ho⟩;dsimp only at *
 subst ho;have hfl:=qg4 e code hws k;refine bifP (λhkl=>?_) λhkl=>?_
 rotate_left
 ·have hkl:=of_decide_eq_false hkl
  have hkk:k=code.length:=by omega
  have hsm:∀ x∈e.q0k code k 0,x.length≤1000000:=λx hx=>by
   rw [hkk] at hx;have:=Cod.qj7 (e:=e) (code:=code) hx;omega
  refine ⟨⟨by omega,hsm⟩,⟨by rw [ord_len];omega,λx hx=>hsm x (ord_mem.1 hx)⟩,?_⟩
  rw [thin_ord];unfold Cod.Ear.q2g;rw [hok,hcd,hkk];rfl
 have hkl:k<code.length:=by have:=of_decide_eq_true hkl;omega
 obtain ⟨hw0,hw1⟩:=hin k hkl;refine ⟨⟨by omega,by omega⟩,qee hn hW hC hw0 hw1,?_⟩
 intro nr hn;have hnl:(e.near (code.getD k 0)).length≤1000000:=Nat.le_trans (qf1 e _) hW.2.1;refine ⟨⟨(0,e.q0k code k 0),⟨Nat.zero_le _,(List.append_nil _).symm⟩,by and_intros <;> rfl⟩,?_⟩
 rintro ⟨q,out⟩ ⟨hql,ho⟩;dsimp only at *
 subst ho;have hpl:=part_len e code k q hws;refine bifP (λhq=>?_) λhq=>?_
 ·have hq:q<(e.near (code.getD k 0)).length:=by have:=of_decide_eq_true hq;omega
  refine ⟨⟨by omega,by omega⟩,bifP (λhne=>?_) λhne=>?_⟩
  ·refine ⟨by omega,⟨by omega,by omega⟩,by rw [List.length_append,List.length_singleton];omega,⟨by omega,by omega⟩,(q+1,_),⟨by omega,?_⟩,by omega,by and_intros <;> first | rfl | omega⟩
   rw [q6h hq,if_pos hne,List.append_assoc]
  ·refine ⟨⟨by omega,by omega⟩,(q+1,_),⟨by omega,?_⟩,by omega,by and_intros <;> first | rfl | omega⟩
   rw [q6h hq,if_neg (by rw [hne];decide),List.append_nil]
 have hq:=of_decide_eq_false hq;have full:=qch (e:=e) (code:=code) (i:=k) (k:=q) (by omega)
 simp only [show ((k:Int)-1).toNat=k-1 by omega]
 refine ⟨⟨by omega,⟨by omega,by omega⟩,⟨by omega,by omega⟩,by rw [List.length_append,List.length_singleton];omega,_,rfl,rfl⟩,?_⟩
 rintro out ho;subst ho;have next1:(k=0∨code.getD (k-1) 0=code.getD k 0)→e.q0k code k 0++q1q e code k q++[code.eraseIdx k]=e.q0k code (k+1) 0:=λh=>by
  rw [q5t,full,if_pos h,List.append_assoc]
 refine bifP (λh0=>⟨⟨by omega,by omega⟩,(k+1,nr,_),⟨by omega,hn,next1 (.inl (by have:=beq_iff_eq.1 h0;omega))⟩,by omega,by and_intros <;> first | rfl | omega⟩) λh0=>?_
 have h0:k≠0:=by have:=beq_eq_false_iff_ne.1 h0;omega
 refine ⟨⟨by omega,by omega⟩,⟨by omega,by omega⟩,bifP (λh1=>⟨⟨by omega,by omega⟩,(k+1,nr,_),⟨by omega,hn,next1 (.inr (beq_iff_eq.1 h1))⟩,by omega,by and_intros <;> first | rfl | omega⟩) λh1=>?_⟩
 have h1:code.getD (k-1) 0≠code.getD k 0:=beq_eq_false_iff_ne.1 h1;refine ⟨⟨by omega,by omega⟩,⟨by omega,by omega⟩,by omega,⟨by omega,by omega⟩,⟨by omega,by omega⟩,⟨by omega,by rw [List.length_set];omega⟩,by simp only [List.length_append,List.length_singleton];omega,⟨by omega,by omega⟩,(k+1,nr,_),⟨by omega,hn,?_⟩,by omega,by and_intros <;> first | rfl | omega⟩
 rw [q5t,full,if_neg (λh=>h.elim h0 h1)]
 show _++[Cod.swapAt code k]=_;simp only [List.append_assoc,List.cons_append,List.nil_append]
theorem kitMi_ok (hc:oCompL.Holds Tryz.prog):kitMi.Ok Tryz.prog where
 cons:=all_cons qgo (all_cons qa6 (all_cons qfv (all_cons qju all_nil)))
 ns:=all_cons qic all_nil
 os:=all_cons qgr (all_cons sortL_holds (all_cons hc all_nil))
 fcs:=all_nil
 rcs:=all_nil
 inls:=q0e.more Tryz.func64 (by kernel_rfl) (by kernel_rfl) (q0e.more Tryz.func66 (by kernel_rfl) (by kernel_rfl) (q0e.more Tryz.func117 (by kernel_rfl) (by kernel_rfl) (q0e.more Tryz.func118 (by kernel_rfl) (by kernel_rfl) (q0e.more Tryz.func120 (by kernel_rfl) (by kernel_rfl)
  (q0e.more Tryz.func65 (by kernel_rfl) (by kernel_rfl) (q0e.more Tryz.func115 (by kernel_rfl) (by kernel_rfl) (q0e.more Tryz.func149 (by kernel_rfl) (by kernel_rfl) q0e.nil)))))))
set_option maxRecDepth 100000000 in
theorem mist_holds (hc:oCompL.Holds Tryz.prog):cMist.Holds Tryz.prog:=by
 refine holdsX (T:=kitMi) (λp=>anMi ⟨p.1.1,p.1.2,p.2.1⟩ p.2.2) Tryz.func32 (by kernel_rfl) (by kernel_rfl) mixed (by kernel_rfl) (kitMi_ok hc) (λp=>anMist ⟨p.1.1,p.1.2,p.2.1⟩) λp hp=>?_
 obtain ⟨⟨lang,ws⟩,c,code⟩:=p;refine cast ?_ (mist_vc ⟨lang,ws,c⟩ code hp)
 kernel_rfl
open Go.Lib Go.Sort
set_option maxRecDepth 100000 in
theorem compact_none (w:World):Calls Tryz.prog 68 #[.slice none 0 0,.func (.func 69) #[] #[]] w λe w'=>e=.returned (.slice none 0 0)∧w'=w:=by
 go_enter Tryz.func68,Tryz.ntmps68
 go_wp2
 go_ret
 exact ⟨rfl,rfl⟩
theorem compL_holds:oCompL.Holds Tryz.prog:=by
 refine ⟨⟨_,Tryz.func68,by kernel_rfl,by kernel_rfl⟩,λxs p b v cells vs fvs w n0 S hn0 hS hvS hown hcells hpre hvs hfa _=>?_⟩
 have hfa:fvs=[.func (.func 69) #[] #[]]:=hfa;subst hfa;obtain ⟨xs,rfl⟩:∃ q:List (List Int),q=xs:=⟨xs,rfl⟩;obtain ⟨hp1,hp2⟩:=hpre;have hp1:xs.length≤1000000000:=hp1;have hp2:∀ x∈xs,x.length≤1000000:=hp2;have hvs2:vs=[]:=List.eq_nil_of_length_eq_zero hvs.1;subst hvs2;have hown1:w.ownsRow n0 40 1 v xs.length cells:=hown;have hcl:cells.length=xs.length:=by have:=hown1.1;omega
 obtain ⟨ds,hd1,hd2⟩:=svs_of (w:=w) (S:=S) hcl λi x hx=>by
  obtain ⟨u,hu,hr⟩:=hcells i x hx 0 ⟨Kd.sl (.one (.int .i64)),x⟩ rfl;have e:i*oCompL.fs.size+0=i:=by show i*1+0=i;omega
  rw [e] at hu;have hm:=hp2 x (List.mem_of_getElem? hx);exact ⟨u,hu,sv_of hr (by omega)⟩
 have hdl:ds.length=xs.length:=by rw [← hd2,List.length_map]
 by_cases hnil:v=.slice none 0 0
 ·subst hnil
  have h0:xs.length=0:=by
   rcases hown1.2 with ⟨_,h0⟩ | ⟨g,cap,cur,h,_⟩
   ·exact h0
   ·cases h
  have hxs:=List.eq_nil_of_length_eq_zero h0;subst hxs;refine (compact_none w).mono ?_;rintro e w' ⟨rfl,rfl⟩;exact ⟨⟨rfl,rfl,rfl,Nat.le_refl _,λ_ _ _=>rfl⟩,_,cells,rfl,hown1,hcells,(λ_ g hg=>.inl hg),λh=>by cases h⟩
 ·rw [← hd1] at hown1
  obtain ⟨g,cap,rfl,hg1,hg2,hc1,hc2,_,hH⟩:=Lib.holds_of_ownsRow hown1 hnil;have hSg:¬ S g:=hvS g rfl;have hsz:ds.toArray.size=xs.length:=hdl;have hcomp:=compact_arr w S g cap ds.toArray hSg hH (by omega) (by omega)
  rw [hsz] at hcomp;refine hcomp.mono ?_;rintro e w' ⟨q,kk,dk,rfl,rfl,hsz2,hkk,hthin⟩;have hdkl:dk.toList.length=xs.length:=by rw [Array.length_toList];omega
  have hl:q0t (ds.map SV.l)=q0t xs:=by rw [hd2]
  have hthin:(dk.toList.take kk).map SV.l=q0t xs:=hthin.trans hl;have hrow:=ownsRow_putRow (q:=q) (k:=kk) (ys:=dk.toList) hown1 hdkl hkk;have hlen:(q0t xs).length=kk:=by rw [← hthin,List.length_map,List.length_take,hdkl];omega
  refine ⟨?_,_,(dk.toList.take kk).map SV.enc,rfl,?_,?_,(λ_ g' hg'=>.inl hg'),λh=>by cases h⟩
  ·have hb:∀ k,k<w.heap.size→k≠g→(sortWorld (SV.enc (w:=w) (S:=S)) w g 0 q dk #[]).heap[k]? = w.heap[k]? := λk hk hne=>heap_sorted _ _ _ _ _ _ _ hk hne
   have hs:=qa3 (SV.enc (w:=w) (S:=S)) w g 0 q dk #[];unfold sortWorld at hb hs;rw [grow_empty] at hb hs;exact ⟨rfl,rfl,rfl,hs,λk hk hne=>hb k hk (λe=>hne (by rw [e];rfl))⟩
  ·show World.ownsRow _ _ _ _ _ (q0t xs).length _
   rw [hlen];exact hrow
  ·show q0c (Cx.of S) _ kIs (q0t xs) _
   rw [← hthin];exact sv_row _
theorem mist41_holds:cMist.Holds Tryz.prog:=mist_holds compL_holds
end Go.Proofs.YtfecgebhoondjaaGreatDoor
namespace Go.Proofs.YtfecgebhoondjaaGreatDoor
open Go.RowKit R
abbrev ckU8:CK:=.one (.int .u8)
theorem few_out41 {lang:List UInt8} {ws:List (List UInt8)} {c:CfP} {book:q0d} {m:Int} (h:q67 (lang,ws) c book m=true):q0x (lang,ws)∧q0o c∧(∀ g∈book,g.2.1.length≤8∧g.1.length≤60)∧(book.length:Int)≤m∧ws.length≤8:=by
 unfold q67 q7d q6o at h;simp only [Bool.and_eq_true,List.all_eq_true,decide_eq_true_eq] at h;obtain ⟨⟨h1,h2,h3⟩,⟨h4,h5⟩,h6,h7,h8,h9⟩:=h;exact ⟨⟨by show lang.length≤_;omega,by show ws.length≤_;omega,λs hs=>Nat.le_trans (h3 s hs) (by omega)⟩,⟨by omega,λx hx=>by have:=h5 x hx;omega⟩,h9,h8,h6⟩
theorem longB_of {book:q0d} {m:Int} (h:∀ g∈book,g.2.1.length≤8∧g.1.length≤60) (hm:(book.length:Int)≤m) (hm2:m≤1000):q5l book:=⟨by omega,λg hg=>by have:=h g hg;omega⟩
theorem idx41 {k:Int} (hk:CK.Big ckU8 k) {n:Nat} (hn:0<n):∃ j:Nat,(IntKind.i64.wrap k).tmod (n:Int)=(j:Int)∧j<n:=by
 obtain ⟨h0,h1⟩:=bounds_u8 (show (Lit.int .u8 k).wf=true from hk);have hw:IntKind.i64.wrap k=k:=by
  unfold IntKind.wrap;have e:k % (2 ^ IntKind.i64.bits:Int)=k:=Int.emod_eq_of_lt h0 (by show k<(2:Int) ^ 64;omega)
  rw [e];have h2:¬ k ≥ (2 ^ (IntKind.i64.bits-1):Int):=by
   show ¬ k ≥ (2:Int) ^ 63;omega
  simp only [decide_eq_false h2,Bool.and_false];rfl
 rw [hw];have hK0:0≤k.tmod (n:Int):=Int.tmod_nonneg _ h0;have hK1:k.tmod (n:Int)<(n:Int):=Int.tmod_lt_of_pos _ (by omega)
 exact ⟨(k.tmod n).toNat,by omega,by omega⟩
theorem mistB_ok {e:Cod.Ear} {code:List Int} (h:e.ok=true) (hc:Cod.q1m e.lang e.ws code=true):e.q2g code=(Cod.q8e (e.miss code),0):=by
 unfold Cod.Ear.q2g;rw [h,hc];rfl
theorem mistB_proper {e:Cod.Ear} {book:q0d} (h:e.proper book=true) {i:Nat} (hi:i<book.length):e.q2g (book.getD i Cod.noG).2.1=(Cod.q8e (e.miss (book.getD i Cod.noG).2.1),0):=by
 obtain ⟨h1,_,h3,_⟩:=Cod.q4w.1 h;have:=h3 _ (Snd.q1b book Cod.noG i hi);unfold Cod.okG at this;simp only [Bool.and_eq_true] at this;exact mistB_ok h1 this.2.2
theorem any_eq_false {l:List (List Int)} {x:List Int} (h:x ∉ l):l.any (λy=>y==x)=false:=by
 rw [List.any_eq_false];intro y hy;rw [beq_iff_eq];rintro rfl;exact h hy
def q30 (ws:List (List UInt8)) (code:List Int):List UInt8:=if Cod.inB ws.length code then Cod.q2w ws code else []
def cText42:Con:=.of 48 [ckWl,qdx] [q3e] (λp=>q0x p.1∧List.length p.2≤1000) (λp=>q30 p.1.2 p.2)
def anText42 (ws:List (List UInt8)) (code:List Int):List (Nat×Ann) :=
 [annX 0 Nat (λst k=>st.hd { live:=[1,2],sav:=[],box:=[2] } [(5,str (Cod.q2w ws (code.take k))),(6,R.int .i64 k)] [] [] [] none)
  (λ_ k=>k≤code.length∧Cod.inB ws.length (code.take k)=true)
  (λ_ k=>code.length-k)]
def fewH (l:WlP) (c:CfP) (book:q0d) (text:List UInt8):Bool:=q67 l c book 8&&decide (text.length≤100)
def cFew42:Con:=.of 17 [ckWl,ckCf,q8p,q3e] [q3f] (λ_=>True) (λp=>fewH p.1 p.2.1 p.2.2.1 p.2.2.2)
def bk42:q0d:=[([101,49],[0,0,3],false,0,0),([101,50],[1,3,0],false,0,0)]
def q1t:List (List UInt8):=[[98,97,100,32,98,97,100,32,115,101,97],[98,97,100,32,112,97,100,32,115,101,97],[98,97,100,32,115,101,97],[98,97,100,32,115,101,97,32,98,97,100],[115,101,97,32,98,97,110,32,98,97,100],[112,97,110,32,115,101,97,32,98,97,100]]
def q36:List (List UInt8):=[[101,49],[101,49],[101,49],[101,49],[101,50],[101,50]]
def wd42:List (List UInt8):=[[98,97,100],[98,97,110],[112,97,110],[115,101,97]]
def cf42:CfP:=[([98],[112])]
def e42:Cod.Ear:=⟨[101,110],wd42,cf42⟩
def confRow (l:CfP):Row:=⟨72,kCf,l⟩
def cHead42:Con:=.of 16 [] [q3f] (λ_=>True) (λ_=>true)
def anHead42:List (Nat×Ann) :=
 [annX 0 Nat (λst k=>st.hd { live:=[1,2,3,5,6],sav:=[],box:=[1] } [(4,R.bool true),(7,R.int .i64 k)] [] [(20,q6d wd42),(23,confRow cf42),(28,qdz bk42),(29,q6d q1t),(30,q6d q36)] [] none)
  (λ_ k=>k≤6)
  (λ_ k=>6-k),
 qa8 10]
theorem ex_hear0:Hea.q2e e42 bk42 (q1t.getD 0 [])=(q36.getD 0 [],false,0):=by kernel_rfl
theorem ex_hear1:Hea.q2e e42 bk42 (q1t.getD 1 [])=(q36.getD 1 [],true,0):=by kernel_rfl
theorem ex_hear2:Hea.q2e e42 bk42 (q1t.getD 2 [])=(q36.getD 2 [],true,0):=by kernel_rfl
theorem ex_hear3:Hea.q2e e42 bk42 (q1t.getD 3 [])=(q36.getD 3 [],true,0):=by kernel_rfl
theorem ex_hear4:Hea.q2e e42 bk42 (q1t.getD 4 [])=(q36.getD 4 [],true,0):=by kernel_rfl
theorem ex_hear5:Hea.q2e e42 bk42 (q1t.getD 5 [])=(q36.getD 5 [],true,0):=by kernel_rfl
theorem ex_hear {k:Nat} (hk:k<6):Hea.q2e e42 bk42 (q1t.getD k [])=(q36.getD k [],decide ((0:Int)<(k:Int)),0):=by
 match k with
 | 0=>exact ex_hear0
 | 1=>exact ex_hear1
 | 2=>exact ex_hear2
 | 3=>exact ex_hear3
 | 4=>exact ex_hear4
 | 5=>exact ex_hear5
 | n+6=>omega
end Go.Proofs.YtfecgebhoondjaaGreatDoor
namespace Go.Proofs.YtfecgebhoondjaaGreatDoor
namespace Hea
end Hea
end Go.Proofs.YtfecgebhoondjaaGreatDoor
namespace Go.Proofs.YtfecgebhoondjaaGreatDoor
open Go.RowKit
namespace Hea
def okC (c:UInt8):Bool:=c==32||(decide (97≤c.toNat)&&decide (c.toNat≤122))
def okL (w:Str):Bool:=decide (1≤w.length)&&decide (w.length≤12)
end Hea
open R
end Go.Proofs.YtfecgebhoondjaaGreatDoor
namespace Go.Proofs.YtfecgebhoondjaaGreatDoor
namespace Hea
def letW (w:Str):Bool:=w.all λc=>decide (97≤c.toNat)&&decide (c.toNat≤122)
theorem word_split (w:Str):q4a w=(okL w&&letW w):=by
 unfold q4a okL letW;cases w with
 | nil=>rfl
 | cons c r=>simp [Bool.and_assoc]
theorem qi0:∀ l:List Str,l.all q4a=(l.all okL&&l.all letW)
 | []=>rfl
 | w::r=>by
  rw [List.all_cons,List.all_cons,List.all_cons,qi0 r,word_split];cases okL w <;> cases letW w <;> simp
theorem cut_total:∀ s:Str,(cutW s).all okL=true→s.length+1≤13*(cutW s).length:=by
 have key:∀ l:List Str,l.all okL=true→(l.map λw=>w.length+1).sum≤13*l.length:=by
  intro l
  induction l with
  | nil=>intro _;exact Nat.le_refl _
  | cons w r ih =>
   intro h;rw [List.all_cons,Bool.and_eq_true] at h;have h1:=ih h.2;have h2:w.length≤12:=by have:=h.1;unfold okL at this;rw [Bool.and_eq_true] at this;exact of_decide_eq_true this.2
   rw [List.map_cons,List.sum_cons,List.length_cons];omega
 have sum:∀ s:Str,((cutW s).map λw=>w.length+1).sum=s.length+1:=by
  intro s
  induction s with
  | nil=>rfl
  | cons c r ih =>
   rw [cutW];split
   ·rw [List.map_cons,List.sum_cons,ih,List.length_cons,List.length_nil];omega
   ·split
    ·rename_i w ws h;rw [h,List.map_cons,List.sum_cons] at ih;rw [List.map_cons,List.sum_cons,List.length_cons,List.length_cons];omega
    ·rename_i h;exact absurd h (cutW_ne r)
 intro s h;rw [← sum s];exact key _ h
end Hea
namespace Hea
end Hea
namespace Hea
end Hea
end Go.Proofs.YtfecgebhoondjaaGreatDoor
namespace Go.Proofs.YtfecgebhoondjaaGreatDoor
open Go.RowKit
attribute [local go_sem] q1w q1c q1k
end Go.Proofs.YtfecgebhoondjaaGreatDoor
namespace Go.Proofs.YtfecgebhoondjaaGreatDoor
open Go.RowKit
attribute [local go_sem] q1w q1c q1k Later.cell Later.frozen wrap64_nat wrap64_add wrap64_succ
end Go.Proofs.YtfecgebhoondjaaGreatDoor
namespace Go.Proofs.YtfecgebhoondjaaGreatDoor
open Go.RowKit R
end Go.Proofs.YtfecgebhoondjaaGreatDoor
namespace Go.Proofs.YtfecgebhoondjaaGreatDoor
open Go.RowKit
namespace Hea
end Hea
open R
end Go.Proofs.YtfecgebhoondjaaGreatDoor
namespace Go.Proofs.YtfecgebhoondjaaGreatDoor
open Go.RowKit R
theorem fewH_out {lang:List UInt8} {ws:List (List UInt8)} {c:CfP} {book:q0d} {text:List UInt8} (h:fewH (lang,ws) c book text=true):q0x (lang,ws)∧q0o c∧q5l book∧text.length≤100∧book.length≤8:=by
 unfold fewH at h;rw [Bool.and_eq_true,decide_eq_true_eq] at h;obtain ⟨hW,hC,hg,hl,hws⟩:=few_out41 h.1;exact ⟨hW,hC,longB_of hg hl (by omega),h.2,by omega⟩
theorem qkb (ws:List (List UInt8)) (i:Int):∀ {l:List Int},l≠[]→Cod.q2w ws (l++[i])=Cod.q2w ws l++32::ws.getD i.toNat []
 | [],h=>absurd rfl h
 | [k],_=>Cod.q90 ws k i []
 | k::m::r,_=>by
  rw [List.cons_append,List.cons_append,Cod.q90,← List.cons_append,qkb ws i (l:=m::r) (by intro h;cases h),Cod.q90,List.append_assoc]
  rfl
set_option maxRecDepth 100000 in
theorem text42_vc (lang:List UInt8) (ws:List (List UInt8)) (code:List Int) (h:cText42.pre ((lang,ws),code)) :
  (∃ (p':Nat),(p'≤code.length∧Cod.inB ws.length (List.take p' code)=true)∧([]=Cod.q2w ws (List.take p' code)∧(0:Int)=(p':Int)∧code=code∧True∧True)∧((lang =
  lang∧ws=ws∧True)∧True)∧True∧True∧True∧True∧True∧True∧True∧True)∧∀ (p:Nat),p≤code.length∧Cod.inB ws.length (List.take p code)=true→bif decide ((p:Int)
  < (code.length:Int)) then ((0:Int)≤(p:Int)∧(p:Int)<(code.length:Int))∧bif decide (code.getD (p:Int).toNat (0:Int)<(0:Int)) then []=q30 ws code else ((0 :
  Int)≤(p:Int)∧(p:Int)<(code.length:Int))∧bif decide ((ws.length:Int)≤code.getD (p:Int).toNat (0:Int)) then []=q30 ws code else bif decide ((0:Int)<(↑p :
  Int)) then List.length (Cod.q2w ws (List.take p code))+[(32:UInt8)].length≤(9223372036854775807:Nat)∧((0:Int)≤(p:Int)∧(p:Int)<(code.length:Int))∧((0:Int) ≤
  code.getD (p:Int).toNat (0:Int)∧code.getD (p:Int).toNat (0:Int)<(ws.length:Int))∧(Cod.q2w ws (List.take p code)++[(32:UInt8)]).length+(ws.getD (code.getD (↑p :
  Int).toNat (0:Int)).toNat []).length≤(9223372036854775807:Nat)∧((-9223372036854775808:Int)≤(p:Int)+(1:Int)∧(p:Int)+(1:Int)≤(9223372036854775807:Int))∧∃ (p'
  : Nat),(p'≤code.length∧Cod.inB ws.length (List.take p' code)=true)∧code.length-p'<code.length-p∧(Cod.q2w ws (List.take p code)++[(32:UInt8)]++ws.getD (code.getD (↑p
  : Int).toNat (0:Int)).toNat []=Cod.q2w ws (List.take p' code)∧(p:Int)+(1:Int)=(p':Int)∧code=code∧True∧True)∧((lang=lang∧ws=ws∧True)∧True)∧True ∧
  True∧True∧True∧True∧True∧True∧True else ((0:Int)≤(p:Int)∧(p:Int)<(code.length:Int))∧((0:Int)≤code.getD (p:Int).toNat (0:Int)∧code.getD (↑p :
  Int).toNat (0:Int)<(ws.length:Int))∧List.length (Cod.q2w ws (List.take p code))+(ws.getD (code.getD (p:Int).toNat (0:Int)).toNat []).length≤(9223372036854775807:Nat) ∧
  ((-9223372036854775808:Int)≤(p:Int)+(1:Int)∧(p:Int)+(1:Int)≤(9223372036854775807:Int))∧∃ (p':Nat),(p'≤code.length∧Cod.inB ws.length (List.take p' code) =
  true)∧code.length-p'<code.length-p∧(Cod.q2w ws (List.take p code)++ws.getD (code.getD (p:Int).toNat (0:Int)).toNat []=Cod.q2w ws (List.take p' code)∧(p:Int)+(1
  : Int)=(p':Int)∧code=code∧True∧True)∧((lang=lang∧ws=ws∧True)∧True)∧True∧True∧True∧True∧True∧True∧True∧True else Cod.q2w ws (List.take p code) =
  q30 ws code
  := by
 obtain ⟨⟨hl1,hl2,hws⟩,hl⟩:=h;have hl:code.length≤1000:=hl;have hws:∀ s∈ws,s.length≤1000000:=hws;simp only [true_and,and_true];refine ⟨⟨0,⟨Nat.zero_le _,rfl⟩,rfl,rfl⟩,?_⟩;rintro k ⟨hk,hin⟩;have hti:((k:Int).toNat)=k:=rfl;simp only [hti];have hlen:∀ l:List Int,(Cod.q2w ws l).length≤l.length*1000001:=by
  intro l
  induction l with
  | nil=>exact Nat.zero_le _
  | cons i r ih =>
   have hw:(ws.getD i.toNat []).length≤1000000:=by
    by_cases hi:i.toNat<ws.length
    ·exact hws _ (Snd.q1b ws [] _ hi)
    ·rw [List.getD_eq_getElem?_getD,List.getElem?_eq_none (by omega)];exact Nat.zero_le _
   cases r with
   | nil=>show (ws.getD i.toNat []).length≤1*1000001;omega
   | cons k r =>
    rw [Cod.q90,List.length_append,List.length_cons,List.length_cons (a:=i),Nat.succ_mul];omega
 refine bifP (λhb=>?_) λhb=>?_
 ·have hlt:k<code.length:=by have:=of_decide_eq_true hb;omega
  have hjl:=hlen (code.take k);rw [List.length_take,Nat.min_eq_left hk] at hjl;have hjl2:k*1000001≤1000001000:=by omega
  have bad:¬ (0≤code.getD k 0∧code.getD k 0<(ws.length:Int))→[]=q30 ws code:=λhn=>by
   unfold q30;rw [if_neg];intro hh;exact hn (Cod.q6q hh hlt)
  refine ⟨⟨by omega,by omega⟩,bifP (λhb=>bad λh=>by have:=of_decide_eq_true hb;omega) λh0=>⟨⟨by omega,by omega⟩,bifP (λhb=>bad λh=>by have:=of_decide_eq_true hb;omega) λh1=>?_⟩⟩
  have h0:=of_decide_eq_false h0;have h1:=of_decide_eq_false h1;have hin':Cod.inB ws.length (code.take (k+1))=true:=by
   unfold Cod.inB at hin ⊢;rw [Snd.q47 code 0 _ k hlt,hin,Bool.true_and,Bool.and_eq_true,decide_eq_true_eq,decide_eq_true_eq];omega
  have hw:(ws.getD (code.getD k 0).toNat []).length≤1000000:=hws _ (Snd.q1b ws [] _ (by omega))
  refine bifP (λhb=>?_) λhb=>?_
  ·have hk0:0<k:=by have:=of_decide_eq_true hb;omega
   refine ⟨by rw [List.length_singleton];omega,⟨by omega,by omega⟩,⟨by omega,by omega⟩,by rw [List.length_append,List.length_singleton];omega,⟨by omega,by omega⟩,k+1,⟨hlt,hin'⟩,by omega,?_,by push_cast;rfl⟩
   rw [Snd.q1d code 0 k hlt,qkb ws (code.getD k 0) (by
    intro e;have:=congrArg List.length e;rw [List.length_take,List.length_nil] at this;omega),List.append_assoc]
   rfl
  ·have hk0:k=0:=by have:=of_decide_eq_false hb;omega
   subst hk0;clear hjl hjl2 hlen;have h0:(Cod.q2w ws (code.take 0)).length=0:=rfl;refine ⟨⟨by omega,by omega⟩,⟨by omega,by omega⟩,by rw [h0];omega,⟨by omega,by omega⟩,1,⟨hlt,hin'⟩,by omega,?_,rfl⟩
   rw [Snd.q1d code 0 0 hlt];rfl
 ·rw [List.take_of_length_le (by have:=of_decide_eq_false hb;omega)] at hin ⊢
  unfold q30;rw [if_pos hin]
theorem few42_vc (lang:List UInt8) (ws:List (List UInt8)) (c:CfP) (book:q0d) (text:List UInt8) (h:cFew42.pre ((lang,ws),c,book,text)) :
  (8:Int)≤(1000:Int)∧bif q67 (lang,ws) c book (8:Int) then decide ((text.length:Int)≤(100:Int))=fewH (lang,ws) c book text else false=fewH (lang,ws) c book text
  := by
 refine ⟨by omega,bifP (λhb=>?_) λhb=>?_⟩
 ·unfold fewH
  rw [hb,Bool.true_and];exact decide_eq_decide.2 (by omega)
 ·unfold fewH
  rw [hb];rfl
abbrev qdi:Prop :=
 (([(101:UInt8),(110:UInt8)]=[(101:UInt8),(110:UInt8)]∧True∧True)∧True)
set_option maxRecDepth 100000 in
theorem head42_vc (h:cHead42.pre ()) :
  (∃ (p':Nat),p'≤(6:Nat)∧(true=true∧(0:Int)=(p':Int)∧True∧True∧True∧True∧True∧True)∧qdi∧([[(98:UInt8),(97:UInt8),(100:UInt8)],[(98:UInt8),(97:UInt8),(110:UInt8)],[(112:UInt8),(97:UInt8),(110:UInt8)],[(115:UInt8),(101:UInt8),(97:UInt8)]]=wd42∧[([(98:UInt8)],[(112:UInt8)])]=cf42∧[([(101:UInt8),(49:UInt8)],[(0:Int),(0:Int),(3:Int)],false,(0:Int),(0:Int)),([(101:UInt8),(50:UInt8)],[(1:Int),(3:Int),(0:Int)],false,(0:Int),(0:Int))]=bk42∧[[(98:UInt8),(97:UInt8),(100:UInt8),(32:UInt8),(98:UInt8),(97:UInt8),(100:UInt8),(32:UInt8),(115:UInt8),(101:UInt8),(97:UInt8)],[(98:UInt8),(97:UInt8),(100:UInt8),(32:UInt8),(112:UInt8),(97:UInt8),(100:UInt8),(32:UInt8),(115:UInt8),(101:UInt8),(97:UInt8)],[(98:UInt8),(97:UInt8),(100:UInt8),(32:UInt8),(115:UInt8),(101:UInt8),(97:UInt8)],[(98:UInt8),(97:UInt8),(100:UInt8),(32:UInt8),(115:UInt8),(101:UInt8),(97:UInt8),(32:UInt8),(98:UInt8),(97:UInt8),(100:UInt8)],[(115:UInt8),(101:UInt8),(97:UInt8),(32:UInt8),(98:UInt8),(97:UInt8),(110:UInt8),(32:UInt8),(98:UInt8),(97:UInt8),(100:UInt8)],[(112:UInt8),(97:UInt8),(110:UInt8),(32:UInt8),(115:UInt8),(101:UInt8),(97:UInt8),(32:UInt8),(98:UInt8),(97:UInt8),(100:UInt8)]]=q1t∧[[(101:UInt8),(49:UInt8)],[(101:UInt8),(49:UInt8)],[(101:UInt8),(49:UInt8)],[(101:UInt8),(49:UInt8)],[(101:UInt8),(50:UInt8)],[(101:UInt8),(50:UInt8)]]=q36∧True)∧True∧True∧True∧True∧True∧True∧True)∧∀ (p:Nat),p≤(6:Nat)→bif decide ((p:Int)<(q1t.length:Int)) then (0≤(p:Int)∧(p:Int)<(q1t.length:Int))∧(q0x ([(101:UInt8),(110:UInt8)],wd42)∧q0o cf42∧q5l bk42∧(q1t.getD (p:Int).toNat []).length≤(1000:Nat))∧bif (Hea.q2e { lang:=[(101:UInt8),(110:UInt8)],ws:=wd42,c:=cf42 } bk42 (q1t.getD (p:Int).toNat [])).2.2==(0:Int) then (0≤(p:Int)∧(p:Int)<(q36.length:Int))∧bif (Hea.q2e { lang:=[(101:UInt8),(110:UInt8)],ws:=wd42,c:=cf42 } bk42 (q1t.getD (p:Int).toNat [])).1==q36.getD (p:Int).toNat [] then (zFit ((p:Int)+1))∧∃ (p':Nat),p'≤(6:Nat)∧(6:Nat)-p'<(6:Nat)-p∧(((Hea.q2e { lang:=[(101:UInt8),(110:UInt8)],ws:=wd42,c:=cf42 } bk42 (q1t.getD (p:Int).toNat [])).2.1==decide (0<(p:Int)))=true∧(p:Int)+1=(p':Int)∧True∧True∧True∧True∧True∧True)∧qdi∧(wd42=wd42∧cf42=cf42∧bk42=bk42∧q1t=q1t∧q36=q36∧True)∧True∧True∧True∧True∧True∧True∧True else (zFit ((p:Int)+1))∧∃ (p':Nat),p'≤(6:Nat)∧(6:Nat)-p'<(6:Nat)-p∧(false=true∧(p:Int)+1=(p':Int)∧True∧True∧True∧True∧True∧True)∧qdi∧(wd42=wd42∧cf42=cf42∧bk42=bk42∧q1t=q1t∧q36=q36∧True)∧True∧True∧True∧True∧True∧True∧True else (zFit ((p:Int)+1))∧∃ (p':Nat),p'≤(6:Nat)∧(6:Nat)-p'<(6:Nat)-p∧(false=true∧(p:Int)+1=(p':Int)∧True∧True∧True∧True∧True∧True)∧qdi∧(wd42=wd42∧cf42=cf42∧bk42=bk42∧q1t=q1t∧q36=q36∧True)∧True∧True∧True∧True∧True∧True∧True else (q0x ([(101:UInt8),(110:UInt8)],wd42)∧q0o cf42∧q5l bk42∧[(98:UInt8),(97:UInt8),(110:UInt8),(32:UInt8),(98:UInt8),(97:UInt8),(110:UInt8),(32:UInt8),(98:UInt8),(97:UInt8),(110:UInt8)].length≤(1000:Nat))∧(q0x ([(101:UInt8),(110:UInt8)],wd42)∧q0o cf42∧q5l bk42∧[(98:UInt8),(97:UInt8),(100:UInt8),(32:UInt8),(32:UInt8),(115:UInt8),(101:UInt8),(97:UInt8)].length≤(1000:Nat))∧(q0x ([(101:UInt8),(110:UInt8)],wd42)∧q0o cf42∧q5l bk42∧[(98:UInt8),(97:UInt8),(100:UInt8),(32:UInt8),(98:UInt8),(97:UInt8),(100:UInt8),(32:UInt8),(115:UInt8),(101:UInt8),(97:UInt8)].length≤(1000:Nat))∧((10:Int)==(10:Int))=true:=by
 delta qdi zFit
 have hlong:q0x ([101,110],wd42)∧q0o cf42∧q5l bk42:=by
  refine ⟨⟨by decide,by decide,by decide⟩,⟨by decide,by decide⟩,by decide,by decide⟩
 simp only [true_and,and_true];refine ⟨⟨0,by omega,rfl,rfl,rfl,rfl,rfl,rfl⟩,?_⟩
 intro k hk;have hti:((k:Int).toNat)=k:=rfl;simp only [hti];have hs6:q1t.length=6:=rfl;have hw6:q36.length=6:=rfl;refine bifP (λhb=>?_) λhb=>?_
 ·have hlt:k<6:=by have:=of_decide_eq_true hb;omega
  have hx:Hea.q2e ⟨[101,110],wd42,cf42⟩ bk42 (q1t.getD k [])=(q36.getD k [],decide ((0:Int)<(k:Int)),0):=ex_hear hlt;rw [hx];have hsl:∀ s∈q1t,s.length≤1000:=by decide
  refine ⟨⟨by omega,by omega⟩,⟨hlong.1,hlong.2.1,hlong.2.2,hsl _ (Snd.q1b q1t [] k (by omega))⟩,bifP (λ_=>⟨⟨by omega,by omega⟩,bifP (λ_=>⟨⟨by omega,by omega⟩,k+1,by omega,by omega,beq_self_eq_true _,by push_cast;rfl⟩) λhf=>?_⟩) λhf=>by simp at hf⟩
  rw [beq_self_eq_true] at hf;cases hf
 ·exact ⟨⟨hlong.1,hlong.2.1,hlong.2.2,by decide⟩,⟨hlong.1,hlong.2.1,hlong.2.2,by decide⟩,⟨hlong.1,hlong.2.1,hlong.2.2,by decide⟩,rfl⟩
set_option maxRecDepth 100000 in
theorem text42_holds:cText42.Holds Tryz.prog:=by
 refine q38 (cons:=[]) Tryz.func48 (by kernel_rfl) (by kernel_rfl) mixed (by kernel_rfl) all_nil (λp=>anText42 p.1.2 p.2) λp hp=>?_
 obtain ⟨⟨lang,ws⟩,code⟩:=p;refine cast ?_ (text42_vc lang ws code hp)
 kernel_rfl
set_option maxRecDepth 100000 in
theorem few42_holds:cFew42.Holds Tryz.prog:=by
 refine q38 (cons:=[cFew41]) Tryz.func17 (by kernel_rfl) (by kernel_rfl) mixed (by kernel_rfl) (all_cons few41_holds all_nil) (λ_=>[]) λp hp=>?_
 obtain ⟨⟨lang,ws⟩,c,book,text⟩:=p;refine cast ?_ (few42_vc lang ws c book text hp)
 kernel_rfl
set_option maxRecDepth 100000 in
theorem head42_holds:cHead42.Holds Tryz.prog:=by
 refine q38 (cons:=[cHear.lent,cHere.lent]) Tryz.func16 (by kernel_rfl) (by kernel_rfl) mixed (by kernel_rfl) (all_cons (show cHear.lent.Holds Tryz.prog from hear_holds) (all_cons (show cHere.lent.Holds Tryz.prog from qkp) all_nil)) (λ_=>anHead42) λp hp=>?_
 refine cast ?_ (head42_vc hp)
 kernel_rfl
end Go.Proofs.YtfecgebhoondjaaGreatDoor
namespace Go.Proofs.YtfecgebhoondjaaGreatDoor
open Go.RowKit
namespace Hea
end Hea
open R
def cHNear:Con:=.of 15 [ckWl,ckCf,q8p,ckU8,ckU8,ckPt] [q3f] (λp=>CK.Big ckWl p.1∧CK.Big ckCf p.2.1∧CK.Big q8p p.2.2.1∧CK.Big ckU8 p.2.2.2.1∧CK.Big ckU8 p.2.2.2.2.1∧CK.Big ckPt p.2.2.2.2.2) (λ_=>true)
def consHNear:List Con:=[cHead42,cFew42,qbw,cText42,cHere,cMist,cOn,cDist]
end Go.Proofs.YtfecgebhoondjaaGreatDoor
namespace Go.Proofs.YtfecgebhoondjaaGreatDoor
open Go.RowKit
namespace Hea
theorem said_len {text:Str} {w:List Str} (h:q7b text=some w):text.length≤64:=by
 unfold q7b at h;split at h
 ·rename_i hc
  rw [Bool.and_eq_true,qi0,Bool.and_eq_true] at hc;have h5:=of_decide_eq_true hc.2;have ht:=cut_total text hc.1.1;omega
 ·cases h
end Hea
open R
set_option maxRecDepth 100000 in
theorem hnear_vc (e:Cod.Ear) (book:q0d) (i k:Int) (p:Cod.Pt) (h:cHNear.pre ((e.lang,e.ws),e.c,book,i,k,p)) :
  True∧True∧bif !fewH (e.lang,e.ws) e.c book [] then true=true else bif (↑(List.length book):Int)==(0:Int) then true=true else (q0x (e.lang,e.ws)∧q0o e.c∧q5l book) ∧
  bif !e.proper book then true=true else True∧bif !Cod.onB p then true=true else (↑(List.length book):Int)≠(0:Int)∧((0:Int)≤(IntKind.i64.wrap i).tmod (↑(List.length book) :
  Int)∧(IntKind.i64.wrap i).tmod (↑(List.length book):Int)<(↑(List.length book):Int))∧(q0x (e.lang,e.ws)∧(List.getD book ((IntKind.i64.wrap i).tmod (↑(List.length book) :
  Int)).toNat Cod.noG).2.1.length≤(1000:Nat))∧(q0x (e.lang,e.ws)∧q0o e.c∧q5l book∧(q30 e.ws (List.getD book ((IntKind.i64.wrap i).tmod (↑(List.length book):Int)).toNat
  Cod.noG).2.1).length≤(1000:Nat))∧bif !(List.getD book ((IntKind.i64.wrap i).tmod (↑(List.length book):Int)).toNat Cod.noG).2.2.1 then bif (Hea.q21 e book p (q30 e.ws (List.getD
  book ((IntKind.i64.wrap i).tmod (↑(List.length book):Int)).toNat Cod.noG).2.1)).2.2 != (0:Int) then true=true else (!(Hea.q21 e book p (q30 e.ws (List.getD book ((IntKind.i64.wrap
  i).tmod (↑(List.length book):Int)).toNat Cod.noG).2.1)).1==(List.getD book ((IntKind.i64.wrap i).tmod (↑(List.length book):Int)).toNat Cod.noG).1)=true else True∧bif decide
  ((250000:Int)<Cod.q1l (List.getD book ((IntKind.i64.wrap i).tmod (↑(List.length book):Int)).toNat Cod.noG).2.2.2 p) then bif (Hea.q21 e book p (q30 e.ws (List.getD book
  ((IntKind.i64.wrap i).tmod (↑(List.length book):Int)).toNat Cod.noG).2.1)).2.2 != (0:Int) then true=true else (!(Hea.q21 e book p (q30 e.ws (List.getD book ((IntKind.i64.wrap
  i).tmod (↑(List.length book):Int)).toNat Cod.noG).2.1)).1==(List.getD book ((IntKind.i64.wrap i).tmod (↑(List.length book):Int)).toNat Cod.noG).1)=true else (q0x (e.lang,e.ws) ∧
  q0o e.c∧(List.getD book ((IntKind.i64.wrap i).tmod (↑(List.length book):Int)).toNat Cod.noG).2.1.length≤(1000000:Nat))∧bif (Hea.q21 e book p (q30 e.ws (List.getD book
  ((IntKind.i64.wrap i).tmod (↑(List.length book):Int)).toNat Cod.noG).2.1)).2.2 != (0:Int) then false=true else bif (Hea.q21 e book p (q30 e.ws (List.getD book ((IntKind.i64.wrap
  i).tmod (↑(List.length book):Int)).toNat Cod.noG).2.1)).2.1 then false=true else bif !(Hea.q21 e book p (q30 e.ws (List.getD book ((IntKind.i64.wrap i).tmod (↑(List.length book) :
  Int)).toNat Cod.noG).2.1)).1==(List.getD book ((IntKind.i64.wrap i).tmod (↑(List.length book):Int)).toNat Cod.noG).1 then false=true else bif (e.q2g (List.getD book
  ((IntKind.i64.wrap i).tmod (↑(List.length book):Int)).toNat Cod.noG).2.1).2 != (0:Int) then false=true else bif (↑(e.q2g (List.getD book ((IntKind.i64.wrap i).tmod (↑(List.length
  book):Int)).toNat Cod.noG).2.1).1.length:Int)==(0:Int) then true=true else (↑(e.q2g (List.getD book ((IntKind.i64.wrap i).tmod (↑(List.length book):Int)).toNat
  Cod.noG).2.1).1.length:Int)≠(0:Int)∧((0:Int)≤(IntKind.i64.wrap k).tmod (↑(e.q2g (List.getD book ((IntKind.i64.wrap i).tmod (↑(List.length book):Int)).toNat
  Cod.noG).2.1).1.length:Int)∧(IntKind.i64.wrap k).tmod (↑(e.q2g (List.getD book ((IntKind.i64.wrap i).tmod (↑(List.length book):Int)).toNat Cod.noG).2.1).1.length:Int)<(↑(e.q2g
  (List.getD book ((IntKind.i64.wrap i).tmod (↑(List.length book):Int)).toNat Cod.noG).2.1).1.length:Int))∧(q0x (e.lang,e.ws)∧((e.q2g (List.getD book ((IntKind.i64.wrap i).tmod
  (↑(List.length book):Int)).toNat Cod.noG).2.1).1.getD ((IntKind.i64.wrap k).tmod (↑(e.q2g (List.getD book ((IntKind.i64.wrap i).tmod (↑(List.length book):Int)).toNat
  Cod.noG).2.1).1.length:Int)).toNat []).length≤(1000:Nat))∧(q0x (e.lang,e.ws)∧q0o e.c∧q5l book∧(q30 e.ws ((e.q2g (List.getD book ((IntKind.i64.wrap i).tmod
  (↑(List.length book):Int)).toNat Cod.noG).2.1).1.getD ((IntKind.i64.wrap k).tmod (↑(e.q2g (List.getD book ((IntKind.i64.wrap i).tmod (↑(List.length book):Int)).toNat
  Cod.noG).2.1).1.length:Int)).toNat [])).length≤(1000:Nat))∧bif (Hea.q21 e book p (q30 e.ws ((e.q2g (List.getD book ((IntKind.i64.wrap i).tmod (↑(List.length book):Int)).toNat
  Cod.noG).2.1).1.getD ((IntKind.i64.wrap k).tmod (↑(e.q2g (List.getD book ((IntKind.i64.wrap i).tmod (↑(List.length book):Int)).toNat Cod.noG).2.1).1.length:Int)).toNat []))).2.2==(0
  : Int) then bif (Hea.q21 e book p (q30 e.ws ((e.q2g (List.getD book ((IntKind.i64.wrap i).tmod (↑(List.length book):Int)).toNat Cod.noG).2.1).1.getD ((IntKind.i64.wrap k).tmod
  (↑(e.q2g (List.getD book ((IntKind.i64.wrap i).tmod (↑(List.length book):Int)).toNat Cod.noG).2.1).1.length:Int)).toNat []))).2.1 then ((Hea.q21 e book p (q30 e.ws ((e.q2g
  (List.getD book ((IntKind.i64.wrap i).tmod (↑(List.length book):Int)).toNat Cod.noG).2.1).1.getD ((IntKind.i64.wrap k).tmod (↑(e.q2g (List.getD book ((IntKind.i64.wrap i).tmod
  (↑(List.length book):Int)).toNat Cod.noG).2.1).1.length:Int)).toNat []))).1==(List.getD book ((IntKind.i64.wrap i).tmod (↑(List.length book):Int)).toNat Cod.noG).1)=true else false
  = true else false=true
  := by
 simp only [true_and,and_true];obtain ⟨_,_,_,hi,hk,_⟩:=h;refine bifP (λ_=>trivial) λhf=>bifP (λ_=>trivial) λh0=>?_
 obtain ⟨hW,hC,hB,_,hl8⟩:=fewH_out (q5o hf);have hpos:0<book.length:=by
  rcases Nat.eq_zero_or_pos book.length with h | h
  ·rw [h] at h0;cases h0
  ·exact h
 refine ⟨⟨hW,hC,hB⟩,bifP (λ_=>trivial) λhp=>bifP (λ_=>trivial) λhon=>?_⟩
 have hp:=q5o hp;have hon:=q5o hon;obtain ⟨i,ei,hi⟩:=idx41 hi hpos;simp only [ei,Int.toNat_natCast];have hmem:book.getD i Cod.noG∈book:=by
  rw [List.getD_eq_getElem?_getD,List.getElem?_eq_getElem hi];exact List.getElem_mem hi
 have hmb:=mistB_proper hp hi;generalize book.getD i Cod.noG=g at hmem hmb ⊢;obtain ⟨hok,hgc⟩:=Hea.q3y hp hmem;obtain ⟨g0,g5,gi⟩:=Hea.code_said hgc;have hv:=(Cod.ok_out hok).1;have hT:q30 e.ws g.2.1=Cod.q2w e.ws g.2.1:=by unfold q30;rw [gi];rfl
 rw [hT,Hea.here_said hp hon g0 g5 gi,hmb];have hlen:=Hea.said_len (Hea.qea hv g0 g5 gi);have hne:=Hea.near_exact (p:=p) hp hmem;have hfar:=Hea.far_not (p:=p) hp hmem;refine ⟨by omega,⟨by omega,by omega⟩,⟨hW,by omega⟩,⟨hW,hC,hB,by omega⟩,?_⟩
 have far:Hea.q02 p g=false→bif (Hea.q0i (Hea.q05 e) e.ws (Hea.ownW e.ws g.2.1) (book.filter (Hea.q02 p)) []).2.2 != (0:Int) then True else (!(Hea.q0i (Hea.q05 e) e.ws (Hea.ownW e.ws g.2.1) (book.filter (Hea.q02 p)) []).1==g.1)=true:=λhn=>by
  rcases hfar hn (Hea.ownW e.ws g.2.1) with h | h
  ·exact bifP (λ_=>trivial) λh'=>absurd (by simpa using h') h
  ·exact bifP (λ_=>trivial) λ_=>by rw [beq_eq_false_iff_ne.2 h];rfl
 refine bifP (λhpl=>far ?_) λhpl=>bifP (λhd=>far ?_) λhd=>?_
 ·unfold Hea.q02;rw [show g.2.2.1=false by simpa using hpl];rfl
 ·have:=of_decide_eq_true hd
  unfold Hea.q02;rw [decide_eq_false (show ¬ Cod.q1l (Cod.ptOf g) p≤250000 by show ¬ Cod.q1l g.2.2.2 p≤250000;omega),Bool.and_false]
 have hd:=of_decide_eq_false hd;have hn:Hea.q02 p g=true:=by
  unfold Hea.q02;rw [q5o hpl,decide_eq_true (show Cod.q1l (Cod.ptOf g) p≤250000 by show Cod.q1l g.2.2.2 p≤250000;omega)];rfl
 rw [hne hn];simp only [bne_self_eq_false,cond_false,beq_self_eq_true,Bool.not_true];refine ⟨⟨hW,hC,by omega⟩,bifP (λ_=>trivial) λhne=>?_⟩
 have hpos2:0<(Cod.q8e (e.miss g.2.1)).length:=by
  rcases Nat.eq_zero_or_pos (Cod.q8e (e.miss g.2.1)).length with h | h
  ·rw [h] at hne;cases hne
  ·exact h
 obtain ⟨k,ek,hk⟩:=idx41 hk hpos2;simp only [ek,Int.toNat_natCast];have hx:(Cod.q8e (e.miss g.2.1)).getD k []∈e.miss g.2.1:=Cod.qgf.1 (by
  rw [List.getD_eq_getElem?_getD,List.getElem?_eq_getElem hk];exact List.getElem_mem hk)
 generalize (Cod.q8e (e.miss g.2.1)).getD k []=x at hx ⊢;obtain ⟨x0,x5,xi⟩:=Hea.miss_said hok hgc hx;have hTx:q30 e.ws x=Cod.q2w e.ws x:=by unfold q30;rw [xi];rfl
 have hlenx:=Hea.said_len (Hea.qea hv x0 x5 xi);rw [hTx,Hea.here_said hp hon x0 x5 xi,Hea.near_mistake hp hon hmem hn hx];refine ⟨by omega,⟨by omega,by omega⟩,⟨hW,by omega⟩,⟨hW,hC,hB,by omega⟩,?_⟩
 simp
end Go.Proofs.YtfecgebhoondjaaGreatDoor
namespace Go.Proofs.YtfecgebhoondjaaGreatDoor
open Go.RowKit R
set_option maxRecDepth 100000 in
theorem hnear_holds:cHNear.Holds Tryz.prog:=by
 refine q38 (cons:=consHNear) Tryz.func15 (by kernel_rfl) (by kernel_rfl) mixed (by kernel_rfl) (all_cons head42_holds (all_cons few42_holds (all_cons qaw (all_cons text42_holds (all_cons qkp (all_cons mist41_holds (all_cons qf0 (all_cons qeh all_nil)))))))) (λ_=>[]) λp hp=>?_
 obtain ⟨⟨lang,ws⟩,c,book,i,k,pt⟩:=p;refine cast ?_ (hnear_vc ⟨lang,ws,c⟩ book i k pt hp)
 kernel_rfl
end Go.Proofs.YtfecgebhoondjaaGreatDoor

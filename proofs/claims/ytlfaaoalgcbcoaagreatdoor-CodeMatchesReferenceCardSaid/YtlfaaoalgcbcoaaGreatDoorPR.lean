/-
  Several texts in one: CoGC, CoTL, CoW, CoX, CoZA, CoY, CoZB, CoT, CoZ, CoZC, CoZD, CoZE, CoV, CoHd, CoJ0, HeR, HfA, HfB, HfC, HfL, HfD, HfF, HfG, HfH, HfI, CrD, CrG, CrH, CrL, CrM.
-/
import Derived.Test.YtlfaaoalgcbcoaaGreatDoorPQ
import Derived.Test.YtlfaaoalgcbcoaaGreatDoorPP
import Derived.Test.YtlfaaoalgcbcoaaGreatDoorPB
import Derived.Deep.LoopGhost
import Derived.Lib.OwnBridge
import Derived.Shelf.SlSortCmp.NoneTotal
import Derived.Deep.QuietTactic
import Derived.Test.YtlfaaoalgcbcoaaGreatDoorPA
open List renaming eq_nil_of_length_eq_zero→Q0,getElem?_eq_getElem→Q4,getD_eq_getElem?_getD→Q5,length_append→Q9,take_of_length_le→Qa,length_take→Qb,length_singleton→Qc,length_map→Qd,getElem?_eq_none→Qe,length_cons→Qg,getElem?_take_of_lt→Qj,append_assoc→Ql,cons_append→Qo,pairwise_cons→Qq,mem_cons_self→Qr,replicate→Qs,getElem?_map→Qt,drop_eq_nil_of_le→Qu,length→Qv,mem_cons→Qw,ext_getElem?→Qz,all_eq_true→QC,length_nil→QD,map_append→QE,length_filter_le→QF,mem_of_getElem?→QG,takeWhile_cons→QJ,getElem?_take→QL,nil_append→QT,append_nil→QU,length_set→QV,take→QY
open Array renaming length_toList→Q6,getElem?_toList→Qx,extract_eq_self_of_le→Qy,size_setIfInBounds→QA
open Nat renaming zero_le→Q7,le_refl→Q8,le_of_eq→Qf,pos_of_ne_zero→Qh,zero_add→Qn,not_lt_zero→Qp,lt_of_lt_of_le→QK
open Go.Sort renaming ahead→Qi
open Bool renaming and_eq_true→Qk,not_eq_false'→QM,not_eq_true→QR,or_eq_true→QS
open Go.Lib renaming compareInt→Qm,holds_of_ownsRow→QH,lay→QW
open Go.World renaming ownsRow→QI,drewN_drewN→QO
open List.Pairwise renaming nil→QN
open Int renaming toNat_natCast→QP
open Go.IntKind renaming wrap_i64→QQ,i64→QZ
set_option linter.unusedVariables false
namespace Go.Proofs.YtlfaaoalgcbcoaaGreatDoor
open Go.RowKit R
theorem kitGi_ok:kitGi.Ok Tryz.prog where
 cons:=all_cons qlk (all_cons qho (all_cons q5t (all_cons (show cKey.lent.Holds Tryz.prog from key_holds) (all_cons q7v (all_cons qd3 (all_cons qfu (all_cons (show cNearG.lent.Holds Tryz.prog from qk5) all_nil)))))))
 ns:=all_cons qdu all_nil
 os:=all_cons qch all_nil
 fcs:=all_nil
 rcs:=all_nil
 inls:=q0l.more Tryz.func40 (by kernel_rfl) (by kernel_rfl) (q0l.more Tryz.func49 (by kernel_rfl) (by kernel_rfl) (q0l.more Tryz.func54 (by kernel_rfl) (by kernel_rfl) (q0l.more Tryz.func101 (by kernel_rfl) (by kernel_rfl)
  (q0l.more Tryz.func42 (by kernel_rfl) (by kernel_rfl) (q0l.more Tryz.func89 (by kernel_rfl) (by kernel_rfl) (q0l.more Tryz.func90 (by kernel_rfl) (by kernel_rfl) (q0l.more Tryz.func92 (by kernel_rfl) (by kernel_rfl)
  (q0l.more Tryz.func104 (by kernel_rfl) (by kernel_rfl) (q0l.more Tryz.func52 (by kernel_rfl) (by kernel_rfl) (q0l.more Tryz.func84 (by kernel_rfl) (by kernel_rfl)
  (q0l.more Tryz.func53 (by kernel_rfl) (by kernel_rfl) (q0l.more Tryz.func55 (by kernel_rfl) (by kernel_rfl) q0l.nil))))))))))))
set_option maxRecDepth 100000000 in
theorem qm4:cGive.Holds Tryz.prog:=by
 refine holdsX (T:=kitGi) (λp=>anGi ⟨p.1.1,p.1.2,p.2.1⟩ p.2.2.1 p.2.2.2.1) Tryz.func18 (by kernel_rfl) (by kernel_rfl) mixed (by kernel_rfl) kitGi_ok (λp=>anGive ⟨p.1.1,p.1.2,p.2.1⟩ p.2.2.1 p.2.2.2.1 p.2.2.2.2.toNat) λp hp=>?_
 obtain ⟨⟨lang,ws⟩,c,book,y,size⟩:=p;refine cast ?_ (give_vc ⟨lang,ws,c⟩ book y size hp)
 kernel_rfl
theorem le_trans3 {a b c:List Int} (h1:Cod.cmpL a b≤0) (h2:Cod.cmpL b c≤0):Cod.cmpL a c≤0:=by
 rcases Cod.qax a b with h | h | h
 ·rcases Cod.qax b c with h' | h' | h'
  ·have:=Cod.q48 (a:=a) (b:=b) (c:=c) (by omega) (by omega)
   omega
  ·rw [← Cod.cmp_eq h'];exact h1
  ·omega
 ·rw [Cod.cmp_eq h];exact h2
 ·omega
theorem ord_mem {l:List (List Int)} {x:List Int}:x∈ordL l↔x∈l:=by
 unfold ordL;exact List.mem_mergeSort
theorem ord_len (l:List (List Int)):(ordL l).length=l.length:=by
 unfold ordL;exact List.length_mergeSort l
theorem ord_up (l:List (List Int)):(ordL l).Pairwise λa b=>Cod.cmpL a b≤0:=by
 unfold ordL;have:=List.pairwise_mergeSort (le:=λa b=>decide (Cod.cmpL a b≤0)) (λa b c h1 h2=>decide_eq_true (le_trans3 (of_decide_eq_true h1) (of_decide_eq_true h2))) (λa b=>by
  have:=Cod.q4p a b
  rw [QS,decide_eq_true_eq,decide_eq_true_eq];omega) l
 exact this.imp λh=>of_decide_eq_true h
theorem qfh {x:List Int}:∀ {l:List (List Int)},x∈q17 l↔x∈l
 | []=>Iff.rfl
 | [y]=>Iff.rfl
 | y::z::r=>by
  rw [q17];split
  ·rename_i h
   have h:=beq_iff_eq.1 h;rw [qfh,h];simp
  ·have ih:=qfh (x:=x) (l:=z::r)
   rw [Qw,ih];exact Qw.symm
theorem thin_up:∀ {l:List (List Int)},l.Pairwise (λa b=>Cod.cmpL a b≤0)→(q17 l).Pairwise λa b=>Cod.cmpL a b<0
 | [],_=>QN
 | [y],_=>List.pairwise_singleton _ _
 | y::z::r,h=>by
  rw [Qq] at h;rw [q17];split
  ·exact thin_up h.2
  ·rename_i hne
   rw [Qq];refine ⟨λx hx=>?_,thin_up h.2⟩
   have hx:=qfh.1 hx;have h1:=h.1 x hx;rcases Cod.qax y x with h2 | h2 | h2
   ·omega
   ·have e:=Cod.cmp_eq h2
    subst e;have hz:=h.1 z (Qr ..);have hz2:Cod.cmpL z y≤0:=by
     rcases Qw.1 hx with e | hx
     ·rw [e,Cod.q89];omega
     ·exact (Qq.1 h.2).1 y hx
    have ha:=Cod.q4p y z;have:Cod.cmpL y z=0:=by omega
    rw [Cod.cmp_eq this,beq_self_eq_true] at hne;exact absurd rfl hne
   ·omega
theorem thin_ord (l:List (List Int)):q17 (ordL l)=Cod.q1y l :=
 Cod.qhv (thin_up (ord_up l)) (Cod.qf4 l) λx=>by rw [qfh,ord_mem,Cod.q78]
theorem part_len (e:Cod.Ear) (code:List Int) (i k:Nat) (hw:e.ws.length≤1000000):(q0y e code i k).length≤1000000:=by
 unfold q0y;rw [Qd];have h1:=QF (λx=>!(x==code.getD i 0)) ((e.near (code.getD i 0)).take k)
 have h2:=q6d e (code.getD i 0);rw [Qb] at h1;omega
theorem qbt (e:Cod.Ear) (code:List Int) (i:Nat) (hw:e.ws.length≤1000000):(e.q2g code i).length≤1000002:=by
 rw [q75 (Q8 _),Q9,Qg];have:=part_len e code i (e.near (code.getD i 0)).length hw;split
 ·rw [QD];omega
 ·rw [Qc];omega
theorem qcy (e:Cod.Ear) (code:List Int) (hw:e.ws.length≤1000000):∀ k,(e.q0i code k 0).length≤k*1000002
 | 0=>by rw [Cod.Ear.q0i];simp
 | k+1=>by
  rw [q3t,Q9];have:=qcy e code hw k;have:=qbt e code k hw;omega
open Go.Lib
theorem cmp_at {xs ys:List Int} {k:Nat} (hx:k<xs.length) (hy:k<ys.length) (h:∀ j,j<k→xs.getD j 0=ys.getD j 0):Cod.cmpL xs ys=if xs.getD k 0<ys.getD k 0 then -1 else if ys.getD k 0<xs.getD k 0 then 1 else Cod.cmpL (xs.drop (k+1)) (ys.drop (k+1)):=by
 have ht:xs.take k=ys.take k:=by
  apply Qz
  intro i;by_cases hi:i<k
  ·rw [Qj hi,Qj hi]
   have:=h i hi
   rw [Q5,Q5,Q4 (by omega),Q4 (by omega)] at this
   rw [Q4 (by omega),Q4 (by omega)]
   exact congrArg some this
  ·rw [Qe (by rw [Qb];omega),Qe (by rw [Qb];omega)]
 rw [qkn ht,q63 xs hx,q63 ys hy,Cod.cmpL]
theorem qj4 {xs ys:List Int} {k:Nat} (h:∀ j,j<k→xs.getD j 0=ys.getD j 0) (hx:k≤xs.length) (hy:k≤ys.length) (he:k=xs.length∨k=ys.length):Cod.cmpL xs ys=if xs.length<ys.length then -1 else if ys.length<xs.length then 1 else 0:=by
 have ht:xs.take k=ys.take k:=by
  apply Qz
  intro i;by_cases hi:i<k
  ·rw [Qj hi,Qj hi]
   have:=h i hi
   rw [Q5,Q5,Q4 (by omega),Q4 (by omega)] at this
   rw [Q4 (by omega),Q4 (by omega)]
   exact congrArg some this
  ·rw [Qe (by rw [Qb];omega),Qe (by rw [Qb];omega)]
 rw [qkn ht];by_cases h1:k<xs.length
 ·have e2:ys.drop k=[]:=Qu (by omega)
  rw [q63 xs h1,e2,Cod.cmpL,if_neg (by omega),if_pos (by omega)]
 ·have e1:xs.drop k=[]:=Qu (by omega)
  rw [e1];by_cases h2:k<ys.length
  ·rw [q63 ys h2,Cod.cmpL,if_pos (by omega)]
  ·have e2:ys.drop k=[]:=Qu (by omega)
   rw [e2,Cod.cmpL,if_neg (by omega),if_neg (by omega)]
set_option maxHeartbeats 2000000 in
set_option maxRecDepth 100000 in
theorem compare_both (b1 o1 n c b2 o2 m d:Nat) (xs ys:List Int) (w:World) (hx1:n≤xs.length) (hx2:xs.length≤n) (hy1:m≤ys.length) (hy2:ys.length≤m) (hbig:n≤9223372036854775807) (hbig2:m≤9223372036854775807) (hc1:∀ j,j<xs.length→w.cell? ⟨b1,o1+j,none⟩=some (.int .i64 (xs.getD j 0))) (hc2:∀ j,j<ys.length→w.cell? ⟨b2,o2+j,none⟩=some (.int .i64 (ys.getD j 0))) :
  Calls Tryz.prog 43 #[.slice (some ⟨b1,o1,none⟩) n c,.slice (some ⟨b2,o2,none⟩) m d] w λe w'=>e=.returned (.int .i64 (Cod.cmpL xs ys))∧w'=w:=by
 go_enter Tryz.func43,Tryz.ntmps43
 go_wp2
 go_loopg [11] n (λg s11 wr=>∃ k:Nat,k≤n∧k≤m∧n-k≤g∧s11=.int .i64 k∧wr=w∧∀ j,j<k→xs.getD j 0=ys.getD j 0)
 case atStart=>exact ⟨0,Q7 _,Q7 _,by omega,rfl,rfl,λj hj=>absurd hj (Qp _)⟩
 case round =>
  obtain ⟨k,hk,hkm,hg,rfl,hw,heq⟩:=hrel;have hw:=hw.symm;subst hw;by_cases hlt:k<n
  ·by_cases hlm:k<m
   ·have g1:w.cell? ⟨b1,o1+k,none⟩=some (.int .i64 (xs.getD k 0)):=hc1 k (by omega)
    have g2:w.cell? ⟨b2,o2+k,none⟩=some (.int .i64 (ys.getD k 0)):=hc2 k (by omega)
    have hcm:=cmp_at (k:=k) (by omega) (by omega) heq
    have A:Aside (∀ j,j<k→xs.getD j 0=ys.getD j 0):=heq;clear heq hc1 hc2;generalize hxk:xs.getD k 0=x at g1 hcm;generalize hyk:ys.getD k 0=y at g2 hcm;have B:Aside (xs.getD k 0=x∧ys.getD k 0=y):=⟨hxk,hyk⟩;have C:Aside (Cod.cmpL xs ys=if x<y then -1 else if y<x then 1 else Cod.cmpL (xs.drop (k+1)) (ys.drop (k+1))):=hcm
    clear hxk hyk hcm;have call:=Tryz.cmp_Compare_int x y w;rcases Int.lt_trichotomy x y with hxy | hxy | hxy
    ·rw [show Qm x y=-1 by unfold Qm;rw [if_pos hxy]] at call
     go_wp2_with fail
     refine call.mono ?_;rintro e w' ⟨rfl,rfl⟩
     go_wp2
     go_ret
     rw [C.out,if_pos hxy];exact ⟨rfl,rfl⟩
    ·subst hxy
     rw [show Qm x x=0 by unfold Qm;rw [if_neg (by omega),if_neg (by omega)]] at call
     go_wp2_with fail
     refine call.mono ?_;rintro e w' ⟨rfl,rfl⟩
     go_wp2
     go_roundg (n-(k+1))
     case measure=>omega
     case rel =>
      refine ⟨k+1,by omega,by omega,by omega,by go_num,rfl,λj hj=>?_⟩
      by_cases e:j=k
      ·subst e
       rw [B.out.1,B.out.2]
      ·exact A.out j (by omega)
    ·rw [show Qm x y=1 by unfold Qm;rw [if_neg (by omega),if_pos hxy]] at call
     go_wp2_with fail
     refine call.mono ?_;rintro e w' ⟨rfl,rfl⟩
     go_wp2
     go_ret
     rw [C.out,if_neg (by omega),if_pos hxy]
     exact ⟨rfl,rfl⟩
   ·have hcm:=qj4 heq (by omega) (by omega) (.inr (by omega))
    rw [if_neg (by omega),if_pos (by omega)] at hcm
    have g1:w.cell? ⟨b1,o1+k,none⟩=some (.int .i64 (xs.getD k 0)):=hc1 k (by omega)
    have C:Aside (Cod.cmpL xs ys=1):=hcm;clear heq hc1 hc2 hcm;generalize xs.getD k 0=x at g1
    go_wp2
    go_ret
    rw [C.out];exact ⟨rfl,rfl⟩
  ·have hcm:=qj4 heq (by omega) (by omega) (.inl (by omega))
   have C:Aside (Cod.cmpL xs ys=if xs.length<ys.length then -1 else if ys.length<xs.length then 1 else 0):=hcm
   clear heq hc1 hc2 hcm;by_cases hnm:n<m
   ·go_wp2
    go_ret
    rw [C.out,if_pos (by omega)]
    exact ⟨rfl,rfl⟩
   ·go_wp2
    go_ret
    rw [C.out,if_neg (by omega),if_neg (by omega)]
    exact ⟨rfl,rfl⟩
set_option maxHeartbeats 2000000 in
set_option maxRecDepth 100000 in
theorem compare_none (A B:Option Addr) (c m d:Nat) (ys:List Int) (w:World) (hy1:m≤ys.length) (hy2:ys.length≤m) (hbig2:m≤9223372036854775807) :
  Calls Tryz.prog 43 #[.slice A 0 c,.slice B m d] w λe w'=>e=.returned (.int .i64 (Cod.cmpL [] ys))∧w'=w:=by
 have hcm:=qj4 (xs:=[]) (ys:=ys) (k:=0) (λj hj=>absurd hj (Qp _)) (Q7 _) (Q7 _) (.inl rfl)
 have C:Aside (Cod.cmpL [] ys=if 0<ys.length then -1 else if ys.length<0 then 1 else 0):=hcm
 clear hcm
 go_enter Tryz.func43,Tryz.ntmps43
 go_wp2
 go_loopg [11] 0 (λg s11 wr=>s11=.int .i64 0∧wr=w)
 case atStart=>exact ⟨rfl,rfl⟩
 case round =>
  obtain ⟨rfl,hw⟩:=hrel;have hw:=hw.symm;subst hw;by_cases hnm:0<m
  ·go_wp2
   go_ret
   rw [C.out,if_pos (by omega)]
   exact ⟨rfl,rfl⟩
  ·go_wp2
   go_ret
   rw [C.out,if_neg (by omega),if_neg (by omega)]
   exact ⟨rfl,rfl⟩
set_option maxHeartbeats 2000000 in
set_option maxRecDepth 100000 in
theorem compare_some (b1 o1 n c:Nat) (B:Option Addr) (d:Nat) (xs:List Int) (w:World) (hx1:n≤xs.length) (hx2:xs.length≤n) (hn:0<n) (hbig:n≤9223372036854775807) (x:Int) (hc1:w.cell? ⟨b1,o1,none⟩=some (.int .i64 x)) :
  Calls Tryz.prog 43 #[.slice (some ⟨b1,o1,none⟩) n c,.slice B 0 d] w λe w'=>e=.returned (.int .i64 (Cod.cmpL xs []))∧w'=w:=by
 have hcm:=qj4 (xs:=xs) (ys:=[]) (k:=0) (λj hj=>absurd hj (Qp _)) (Q7 _) (Q7 _) (.inr rfl)
 rw [QD,if_neg (Qp _),if_pos (by omega)] at hcm
 have C:Aside (Cod.cmpL xs []=1):=hcm;clear hcm
 go_enter Tryz.func43,Tryz.ntmps43
 go_wp2
 go_loopg [11] 0 (λg s11 wr=>s11=.int .i64 0∧wr=w)
 case atStart=>exact ⟨rfl,rfl⟩
 case round =>
  obtain ⟨rfl,hw⟩:=hrel;have hw:=hw.symm;subst hw
  go_wp2
  go_ret
  rw [C.out];exact ⟨rfl,rfl⟩
def IntsIn (w:World) (ok:Nat→Prop) (A:Option Addr) (n:Nat) (xs:List Int):Prop :=
 n=xs.length∧(0<n→∃ g off,A=some ⟨g,off,none⟩∧g<w.heap.size∧ok g∧∀ j,j<xs.length→w.cell? ⟨g,off+j,none⟩=some (.int .i64 (xs.getD j 0)))
theorem compare_any {ok:Nat→Prop} {A B:Option Addr} {n c m d:Nat} {xs ys:List Int} {w:World} (hn:n≤9223372036854775807) (hm:m≤9223372036854775807) (hx:IntsIn w ok A n xs) (hy:IntsIn w ok B m ys) :
  Calls Tryz.prog 43 #[.slice A n c,.slice B m d] w λe w'=>e=.returned (.int .i64 (Cod.cmpL xs ys))∧w'=w:=by
 obtain ⟨hx1,hx2⟩:=hx;obtain ⟨hy1,hy2⟩:=hy;by_cases h0:n=0
 ·subst h0
  obtain rfl:=Q0 hx1.symm;exact compare_none A B c m d ys w (Qf hy1) (Qf hy1.symm) hm
 ·obtain ⟨g,off,rfl,_,_,hc⟩:=hx2 (Qh h0)
  by_cases h1:m=0
  ·subst h1
   obtain rfl:=Q0 hy1.symm;exact compare_some g off n c B d xs w (Qf hx1) (Qf hx1.symm) (Qh h0) hn _ (hc 0 (hx1▸Qh h0))
  ·obtain ⟨g2,off2,rfl,_,_,hc2⟩:=hy2 (Qh h1)
   exact compare_both g off n c g2 off2 m d xs ys w (Qf hx1) (Qf hx1.symm) (Qf hy1) (Qf hy1.symm) hn hm hc hc2
open Go.Sort
structure SV (w:World) (S:Nat→Prop) where
 A:Option Addr
 c:Nat
 l:List Int
 small:l.length≤9223372036854775807
 cap:l.length≤c
 ok:IntsIn w S A l.length l
instance (w:World) (S:Nat→Prop):Inhabited (SV w S):=⟨⟨none,0,[],Q7 _,Q8 _,rfl,λh=>absurd h (Nat.lt_irrefl _)⟩⟩
def SV.enc {w:World} {S:Nat→Prop} (x:SV w S):Value:=.slice x.A x.l.length x.c
def SV.cf {w:World} {S:Nat→Prop} (x y:SV w S):Int:=Cod.cmpL x.l y.l
theorem heap_sorted {α:Type} [Inhabited α] (enc:α→Value) (w:World) (blk off m:Nat) (dk:Array α) (os:Array Obj) {g:Nat} (hg:g<w.heap.size) (hne:g≠blk):(sortWorld enc w blk off m dk os).heap[g]? = w.heap[g]? := by
 have:blk≠g:=λe=>hne e.symm
 simp [sortWorld,grow,putRow,mapBlock,Qi,Array.getElem?_append,Array.getElem?_modify,Array.getElem_modify,hg,this]
theorem qjp {α:Type} [Inhabited α] (enc:α→Value) (w:World) (blk off m:Nat) (dk:Array α) (os:Array Obj) {g o:Nat} (hg:g<w.heap.size) (hne:g≠blk):(sortWorld enc w blk off m dk os).cell? ⟨g,o,none⟩=w.cell? ⟨g,o,none⟩:=by
 unfold World.cell?;rw [heap_sorted enc w blk off m dk os hg hne]
theorem qar {α:Type} [Inhabited α] (enc:α→Value) (w:World) (blk off m:Nat) (dk:Array α) (os:Array Obj):w.heap.size≤(sortWorld enc w blk off m dk os).heap.size:=by
 simp [sortWorld,grow,putRow,mapBlock,Qi]
theorem sv_lays (w:World) (S:Nat→Prop) (blk size:Nat) (hS:¬ S blk):CmpLays1 Tryz.prog 43 #[] (SV.enc (w:=w) (S:=S)) SV.cf blk 0 size w:=by
 intro m os dk hs x y;have kept:∀ q:SV w S,IntsIn (sortWorld SV.enc w blk 0 m dk os) (λ_=>True) q.A q.l.length q.l:=λq=>by
  refine ⟨rfl,λh=>?_⟩
  obtain ⟨g,off,e,hg,hs,hc⟩:=q.ok.2 h;have hne:g≠blk:=λe2=>hS (e2▸hs)
  exact ⟨g,off,e,QK hg (qar ..),trivial,λj hj=>by rw [qjp _ _ _ _ _ _ _ hg hne];exact hc j hj⟩
 refine (compare_any x.small y.small (kept x) (kept y)).mono ?_;rintro e w' ⟨rfl,rfl⟩;exact ⟨rfl,0,#[],by rw [grow_empty];rfl⟩
theorem sv_swo (w:World) (S:Nat→Prop):SWO (ltOf (SV.cf (w:=w) (S:=S))) where
 irrefl x:=by
  show decide (Cod.cmpL x.l x.l<0)=false;rw [Cod.q89];rfl
 trans x y z h1 h2:=by
  have h1:Cod.cmpL x.l y.l<0:=of_decide_eq_true h1;have h2:Cod.cmpL y.l z.l<0:=of_decide_eq_true h2;exact decide_eq_true (Cod.q48 h1 h2)
 ntrans x y z h1 h2:=by
  have h1:¬ Cod.cmpL x.l y.l<0:=of_decide_eq_false h1;have h2:¬ Cod.cmpL y.l z.l<0:=of_decide_eq_false h2;have a1:=Cod.q4p x.l y.l;have a2:=Cod.q4p y.l z.l;have a3:=Cod.q4p x.l z.l;have:=le_trans3 (a:=z.l) (b:=y.l) (c:=x.l) (by omega) (by omega)
  show decide (Cod.cmpL x.l z.l<0)=false;exact decide_eq_false (by omega)
theorem qln:∀ {l m:List (List Int)},l.Perm m→l.Pairwise (λa b=>Cod.cmpL a b≤0)→m.Pairwise (λa b=>Cod.cmpL a b≤0)→l=m
 | [],m,h,_,_=>(List.Perm.nil_eq h)
 | a::l,[],h,_,_=>absurd h.symm.nil_eq (by simp)
 | a::l,b::m,h,h1,h2=>by
  rw [Qq] at h1 h2;have hab:a=b:=by
   rcases Qw.1 (h.mem_iff.1 (Qr ..)) with e | ha
   ·exact e
   ·rcases Qw.1 (h.mem_iff.2 (Qr ..)) with e | hb
    ·exact e.symm
    ·have u1:=h1.1 b hb
     have u2:=h2.1 a ha;have:=Cod.q4p a b;exact Cod.cmp_eq (by omega)
  subst hab;rw [qln ((List.perm_cons a).1 h) h1.2 h2.2]
theorem svs_of {w:World} {S:Nat→Prop}:∀ {xs:List (List Int)} {cells:List Value},cells.length=xs.length→(∀ (i:Nat) (x:List Int),xs[i]? = some x→∃ u,cells[i]? = some u∧∃ q:SV w S,q.enc=u∧q.l=x)→∃ ds:List (SV w S),ds.map SV.enc=cells∧ds.map SV.l=xs
 | [],cells,hl,_=>⟨[],(Q0 hl).symm,rfl⟩
 | x::xs,[],hl,_=>by cases hl
 | x::xs,u::cells,hl,h=>by
  obtain ⟨ds,h1,h2⟩:=svs_of (xs:=xs) (cells:=cells) (by injection hl) (λi x hx=>h (i+1) x hx)
  obtain ⟨u',hu,q,hq1,hq2⟩:=h 0 x rfl;injection hu with hu;exact ⟨q::ds,by rw [List.map_cons,h1,hq1,hu],by rw [List.map_cons,h2,hq2]⟩
theorem sv_of {w:World} {S:Nat→Prop} {x:List Int} {u:Value} (h:(Kd.sl (.one (.int .i64))).Rep w S x u) (hx:x.length≤9223372036854775807):∃ q:SV w S,q.enc=u∧q.l=x:=by
 obtain ⟨A,c,rfl,hc,hrow⟩:=h;refine ⟨⟨A,c,x,hx,hc,rfl,λhp=>?_⟩,rfl,rfl⟩
 obtain ⟨g,off,e,hg,hs,hcells⟩:=hrow hp;refine ⟨g,off,e,hg,hs,λj hj=>?_⟩
 obtain ⟨v,hv,hr⟩:=hcells j _ (Q4 hj);have hr:v=.int .i64 x[j]:=hr;have e3:off+j*(Kds.one (Kd.int .i64)).size=off+j:=by show off+j*1=_;omega
 rw [e3] at hv;rw [hv,hr,Q5,Q4 hj];rfl
theorem sv_rep {w:World} {S:Nat→Prop} (q:SV w S):(Kd.sl (.one (.int .i64))).Rep w S q.l q.enc:=by
 refine ⟨q.A,q.c,rfl,q.cap,λhp=>?_⟩
 obtain ⟨g,off,e,hg,hs,hc⟩:=q.ok.2 hp;refine ⟨g,off,e,hg,hs,λi x hx=>?_⟩
 have hi:i<q.l.length:=by
  rcases Nat.lt_or_ge i q.l.length with h | h
  ·exact h
  ·rw [Qe h] at hx;cases hx
 refine ⟨.int .i64 x,?_,rfl⟩;have e3:off+i*(Kds.one (Kd.int .i64)).size=off+i:=by show off+i*1=_;omega
 rw [e3,hc i hi,Q5,hx];rfl
theorem sv_row {w:World} {S:Nat→Prop} (ds:List (SV w S)):q0d (Cx.of S) w kIs (ds.map SV.l) (ds.map SV.enc):=λi x hx f z hz=>by
 rw [Qt] at hx;cases hd:ds[i]? with
 | none=>rw [hd] at hx;cases hx
 | some q =>
  rw [hd] at hx;injection hx with hx;cases f with
  | succ f=>cases hz
  | zero =>
   injection hz with hz;subst hz;refine ⟨q.enc,?_,hx▸sv_rep q⟩;have e:i*kIs.size+0=i:=by show i*1+0=i;omega
   rw [e,Qt,hd];rfl
theorem equal_any {ok:Nat→Prop} {A B:Option Addr} {n c m d:Nat} {xs ys:List Int} {w:World} (hn:n≤9223372036854775807) (hm:m≤9223372036854775807) (hx:IntsIn w ok A n xs) (hy:IntsIn w ok B m ys) :
  Calls Tryz.prog 45 #[.slice A n c,.slice B m d] w λe w'=>e=.returned (.bool (xs==ys))∧∃ q,w'=w.drewN q:=by
 obtain ⟨hx1,hx2⟩:=hx;obtain ⟨hy1,hy2⟩:=hy;by_cases hnm:n=m
 ·subst hnm
  by_cases h0:n=0
  ·subst h0
   obtain rfl:=Q0 hx1.symm;obtain rfl:=Q0 hy1.symm;refine (Tryz.slices_Equal_int_empty A B c 0 d w hm).mono ?_;rintro e w' ⟨rfl,rfl⟩;exact ⟨rfl,0,rfl⟩
  ·obtain ⟨g,off,rfl,_,_,hc⟩:=hx2 (Qh h0)
   obtain ⟨g2,off2,rfl,_,_,hc2⟩:=hy2 (Qh h0);refine (Tryz.slices_Equal_int g off n c g2 off2 n d xs ys w (Qf hx1) (Qf hy1) hn hm hc hc2).mono ?_;rintro e w' ⟨rfl,q,rfl⟩;rw [Qa (Qf hx1.symm),Qa (Qf hy1.symm)];exact ⟨rfl,q,rfl⟩
 ·refine (Tryz.slices_Equal_int_lens A B n c m d w hnm).mono ?_
  rintro e w' ⟨rfl,rfl⟩;refine ⟨?_,0,rfl⟩;have hne:(xs==ys)=false:=beq_eq_false_iff_ne.2 λe=>hnm (by rw [hx1,hy1,e])
  rw [hne]
theorem thin_snoc (b:List Int):∀ (p:List (List Int)) (a:List Int),q17 (p++[a,b])=if a==b then q17 (p++[a]) else q17 (p++[a])++[b]
 | [],a=>by
  show q17 [a,b]=_;rw [q17];by_cases h:a=b
  ·rw [if_pos (beq_iff_eq.2 h),if_pos (beq_iff_eq.2 h),h];rfl
  ·rw [if_neg (λe=>h (beq_iff_eq.1 e)),if_neg (λe=>h (beq_iff_eq.1 e))];rfl
 | [x],a=>by
  show q17 [x,a,b]=if (a==b)=true then q17 [x,a] else q17 [x,a]++[b]
  by_cases hx:(x==a)=true <;> by_cases ha:(a==b)=true <;> simp only [q17,hx,ha,if_true,if_false,Bool.false_eq_true,↓reduceIte,Qo,QT] <;> simp_all
 | x::y::p,a=>by
  have ih:=thin_snoc b (y::p) a;show q17 (x::y::(p++[a,b]))=if (a==b)=true then q17 (x::y::(p++[a])) else q17 (x::y::(p++[a]))++[b]
  rw [q17,q17];have e1:q17 (y::p++[a,b])=q17 (y::(p++[a,b])):=rfl;have e2:q17 (y::p++[a])=q17 (y::(p++[a])):=rfl;rw [e1,e2] at ih;rw [ih];by_cases hx:x=y
  ·rw [if_pos (beq_iff_eq.2 hx),if_pos (beq_iff_eq.2 hx)]
  ·rw [if_neg (λe=>hx (beq_iff_eq.1 e)),if_neg (λe=>hx (beq_iff_eq.1 e))]
   split <;> rfl
theorem row_grown {w:World} {base:Nat} {e:TypeId} {v:Value} {n:Nat} {cells:List Value} (os:Array Obj) (h:w.ownsRow base e 1 v n cells):(grow w os).ownsRow base e 1 v n cells:=by
 rcases h with ⟨hl,h⟩;refine ⟨hl,?_⟩;rcases h with ⟨e0,h0⟩ | ⟨g,cap,cur,hv,hb,hg,hr⟩
 ·exact .inl ⟨e0,h0⟩
 ·refine .inr ⟨g,cap,cur,hv,hb,?_,hr⟩
  have hlt:g<w.heap.size:=by
   rcases Nat.lt_or_ge g w.heap.size with h' | h'
   ·exact h'
   ·rw [Array.getElem?_eq_none h'] at hg;cases hg
  show (w.heap++os)[g]? = _;rw [Array.getElem?_append_left hlt];exact hg
theorem sortL_holds:oSortL.Holds Tryz.prog:=by
 refine ⟨⟨_,Tryz.func88,by kernel_rfl,by kernel_rfl⟩,λxs p b v cells vs fvs w n0 S hn0 hS hvS hown hcells hpre hvs hfa _=>?_⟩
 have hfa:fvs=[.func (.func 43) #[] #[]]:=hfa;subst hfa;obtain ⟨xs,rfl⟩:∃ q:List (List Int),q=xs:=⟨xs,rfl⟩;obtain ⟨hp1,hp2⟩:=hpre;have hp1:xs.length≤1000000000:=hp1;have hp2:∀ x∈xs,x.length≤1000000:=hp2;have hvs2:vs=[]:=Q0 hvs.1;subst hvs2;have hown1:w.ownsRow n0 36 1 v xs.length cells:=hown;have hcl:cells.length=xs.length:=by have:=hown1.1;omega
 obtain ⟨ds,hd1,hd2⟩:=svs_of (w:=w) (S:=S) hcl λi x hx=>by
  obtain ⟨u,hu,hr⟩:=hcells i x hx 0 ⟨Kd.sl (.one (.int .i64)),x⟩ rfl;have e:i*oSortL.fs.size+0=i:=by show i*1+0=i;omega
  rw [e] at hu;have hm:=hp2 x (QG hx);exact ⟨u,hu,sv_of hr (by omega)⟩
 have hdl:ds.length=xs.length:=by rw [← hd2,Qd]
 by_cases hnil:v=.slice none 0 0
 ·subst hnil
  have h0:xs.length=0:=by
   rcases hown1.2 with ⟨_,h0⟩ | ⟨g,cap,cur,h,_⟩
   ·exact h0
   ·cases h
  have hxs:=Q0 h0;subst hxs;refine (AnyF.slices_SortFunc_none (P:=Tryz.prog) (ρ:=Tryz.laysSlF6_f88_ren) { Tryz.laysSlF6_f88 with } none 0 _ w).mono ?_;rintro e w' ⟨rfl,rfl⟩;have e0:ordL ([]:List (List Int))=[]:=Q0 (ord_len []);refine ⟨⟨rfl,rfl,rfl,Q8 _,λ_ _ _=>rfl⟩,_,cells,rfl,?_,?_,(λh=>by cases h),λ_=>rfl⟩
  ·show QI _ _ _ _ _ (ordL []).length _
   rw [e0];exact hown1
  ·show q0d (Cx.of S) _ kIs (ordL []) cells
   rw [e0];exact hcells
 ·rw [← hd1] at hown1
  obtain ⟨g,cap,rfl,hg1,hg2,hc1,hc2,_,hH⟩:=QH hown1 hnil;have hSg:¬ S g:=hvS g rfl;have hsort:=Tryz.slices_SortFunc SV.enc (λx=>rfl) SV.cf (sv_swo w S) 43 #[] g 0 cap ds.toArray w (enters_of Tryz.func43 (by kernel_rfl) rfl) (sv_lays w S g _ hSg) hH hg2 (by show ds.length<_;omega)
  have hsz:ds.toArray.size=xs.length:=hdl;rw [hsz] at hsort;refine hsort.mono ?_;rintro e w' ⟨rfl,d',n,os,hperm,hsorted,rfl⟩;have hsz0:d'.size=ds.toArray.size:=hperm.1;have hds:d'.size=ds.length:=hsz0;have hpl:d'.toList.Perm ds:=by
   have:=hperm.2.2
   rw [Qy (by omega),Qy (by show ds.toArray.size≤_;omega)] at this
   exact this
  have hmap:d'.toList.map SV.l=ordL xs:=by
   refine qln ?_ ?_ (ord_up xs)
   ·have h1:=hpl.map SV.l
    rw [hd2] at h1;exact h1.trans (List.mergeSort_perm _ _).symm
   ·rw [List.pairwise_map,List.pairwise_iff_getElem]
    intro i j hi hj hij;have hj':j<d'.size:=by rwa [Q6] at hj
    have hi':i<d'.size:=by rwa [Q6] at hi
    have:=hsorted i j (Q7 _) hij (by omega)
    rw [getElem!_pos d' i hi',getElem!_pos d' j hj'] at this;have h2:¬ Cod.cmpL d'[j].l d'[i].l<0:=of_decide_eq_false this;have:=Cod.q4p d'[i].l d'[j].l;show Cod.cmpL d'[i].l d'[j].l≤0;omega
  have hrow:=ownsRow_putRow (q:=n) (k:=xs.length) (ys:=d'.toList) hown1 (by rw [Q6];omega) (Q8 _)
  have hrow:=row_grown os hrow;have htk:d'.toList.take xs.length=d'.toList:=Qa (by rw [Q6];omega)
  rw [htk] at hrow;refine ⟨?_,_,d'.toList.map SV.enc,rfl,?_,?_,(λh=>by cases h),λ_=>rfl⟩
  ·refine ⟨rfl,rfl,rfl,qar ..,λk hk hne=>?_⟩
   exact heap_sorted _ _ _ _ _ _ _ hk (λe=>hne (by rw [e];rfl))
  ·show QI _ _ _ _ _ (ordL xs).length _
   rw [ord_len];exact hrow
  ·show q0d (Cx.of S) _ kIs (ordL xs) _
   rw [← hmap];exact sv_row _
theorem ints_put {w:World} {S:Nat→Prop} {blk:Nat} (hS:¬ S blk) (dk:Array (SV w S)) (m n:Nat) (q:SV w S):IntsIn ((putRow SV.enc (Qi w m) blk 0 dk).drewN n) (λ_=>True) q.A q.l.length q.l:=by
 refine ⟨rfl,λh=>?_⟩
 obtain ⟨g,off,e,hg,hs,hc⟩:=q.ok.2 h;have hne:g≠blk:=λe2=>hS (e2▸hs)
 have hsz:=qar (SV.enc (w:=w) (S:=S)) w blk 0 m dk #[];refine ⟨g,off,e,QK hg (by simp only [sortWorld,grow_empty] at hsz;exact hsz),trivial,λj hj=>?_⟩
 have:=qjp (SV.enc (w:=w) (S:=S)) w blk 0 m dk #[] (o:=off+j) hg hne
 unfold sortWorld at this;rw [grow_empty] at this;show (putRow SV.enc (Qi w m) blk 0 dk).cell? _=_;rw [this];exact hc j hj
theorem ints_drew {w:World} {S:Nat→Prop} (n:Nat) (q:SV w S):IntsIn (w.drewN n) S q.A q.l.length q.l:=⟨rfl,λh=>q.ok.2 h⟩
theorem thin_take (T:List (List Int)) (k:Nat) (h1:1≤k) (h:k<T.length):q17 (T.take (k+1))=if (T.getD (k-1) []==T.getD k [])=true then q17 (T.take k) else q17 (T.take k)++[T.getD k []]:=by
 obtain ⟨j,rfl⟩:∃ j,k=j+1:=⟨k-1,by omega⟩
 rw [Snd.q0t T [] (j+1) h,Snd.q0t T [] j (by omega),Ql]
 exact thin_snoc _ _ _
theorem getD_l {w:World} {S:Nat→Prop} (d:Array (SV w S)) (k:Nat) (h:k<d.size):(d.toList.map SV.l).getD k []=d[k]!.l:=by
 rw [Q5,Qt,Qx,Array.getElem?_eq_getElem h,getElem!_pos d k h];rfl
theorem qdb {w:World} {S:Nat→Prop} (d:Array (SV w S)) (k:Nat) (h1:1≤k) (h:k<d.size):q17 ((d.toList.map SV.l).take (k+1))=if (d[k-1]!.l==d[k]!.l)=true then q17 ((d.toList.map SV.l).take k) else q17 ((d.toList.map SV.l).take k)++[d[k]!.l]:=by
 rw [thin_take _ k h1 (by rw [Qd,Q6];exact h),getD_l d k h,getD_l d (k-1) (by omega)]
theorem thin_one {w:World} {S:Nat→Prop} (d:Array (SV w S)) (k:Nat) (h:k≤1):q17 ((d.toList.map SV.l).take k)=(d.toList.map SV.l).take k:=by
 have:((d.toList.map SV.l).take k).length≤1:=by rw [Qb];omega
 generalize (d.toList.map SV.l).take k=T at this
 match T,this with
 | [],_=>rfl
 | [x],_=>rfl
theorem take_set_l {w:World} {S:Nat→Prop} (dk:Array (SV w S)) (kk:Nat) (u:SV w S) (h:kk<dk.size):((dk.setIfInBounds kk u).toList.take (kk+1)).map SV.l=(dk.toList.take kk).map SV.l++[u.l]:=by
 rw [Array.toList_setIfInBounds,List.take_set,List.take_succ_eq_append_getElem (by rw [Q6];exact h),List.set_append_right _ _ (by rw [Qb];omega),Qb]
 have e:kk-min kk dk.toList.length=0:=by rw [Q6];omega
 rw [e,QE];rfl
theorem lay_size {α:Type} [Inhabited α]:∀ (xs:List α) (d:Array α) (k:Nat),(QW d k xs).size=d.size
 | [],_,_=>rfl
 | x::r,d,k=>by
  rw [QW,lay_size r];exact QA
theorem lay_head {α:Type} [Inhabited α] (xs:List α) (d:Array α) (k:Nat) (h:k+xs.length≤d.size):(QW d k xs).toList.take k=d.toList.take k:=by
 apply Qz
 intro i;rw [QL,QL];by_cases hi:i<k
 ·rw [if_pos hi,if_pos hi,Qx,Qx,Lib.lay_get? xs d k i h,if_neg (by omega)]
 ·rw [if_neg hi,if_neg hi]
set_option maxHeartbeats 4000000 in
set_option maxRecDepth 1000000 in
theorem compact_arr (w:World) (S:Nat→Prop) (blk cap:Nat) (d:Array (SV w S)) (hS:¬ S blk) (hH:Holds SV.enc w blk 0 d) (hsz:d.size≤1000000000) (hcap:d.size≤cap) :
  Calls Tryz.prog 44 #[.slice (some ⟨blk,0,none⟩) d.size cap,.func (.func 45) #[] #[]] w λe w' =>
   ∃ (q kk:Nat) (dk:Array (SV w S)),e=.returned (.slice (some ⟨blk,0,none⟩) kk cap)∧w'=putRow SV.enc (Qi w q) blk 0 dk∧dk.size=d.size∧kk≤d.size∧(dk.toList.take kk).map SV.l=q17 (d.toList.map SV.l):=by
 by_cases h2:d.size<2
 ·have HH:Aside (Holds SV.enc w blk 0 d):=hH
  have HS:Aside (¬ S blk):=hS;clear hH hS
  go_enter Tryz.func44,Tryz.ntmps44
  go_wp2
  go_ret
  refine ⟨0,d.size,d,rfl,(putRow_self SV.enc _ blk 0 d (holds_ahead SV.enc w 0 blk 0 d HH.out)).symm,rfl,Q8 _,?_⟩;rw [Qa (by rw [Q6];exact Q8 _)]
  have:=thin_one d d.size (by omega)
  rw [Qa (by rw [Qd,Q6];exact Q8 _)] at this
  exact this.symm
 ·go_enter Tryz.func44,Tryz.ntmps44
  have HS:Aside (¬ S blk):=hS;clear hS
  go_wp2
  go_loopg [5] d.size (λg s5 wr=>∃ k q:Nat,1≤k∧k≤d.size∧d.size-k≤g∧s5=.int .i64 k∧wr=w.drewN q∧q17 ((d.toList.map SV.l).take k)=(d.toList.map SV.l).take k)
  case atStart=>exact ⟨1,0,Q8 _,by omega,by omega,rfl,rfl,thin_one d 1 (Q8 _)⟩
  case round =>
   obtain ⟨k,q,hk1,hk,hg,rfl,rfl,hall⟩:=hrel;by_cases hlt:k<d.size
   ·obtain ⟨c1,f1⟩:=hH k hlt
    obtain ⟨c0,f0⟩:=hH (k-1) (by omega)
    have A:Aside (q17 ((d.toList.map SV.l).take k)=(d.toList.map SV.l).take k):=hall;have HH:Aside (Holds SV.enc w blk 0 d):=hH;clear hall hH;generalize hx:d[k]! = x at c1;generalize hy:d[k-1]! = y at c0;have B:Aside (d[k]! = x∧d[k-1]! = y):=⟨hx,hy⟩;clear hx hy;have call:∀ n,Calls Tryz.prog 45 #[.slice x.A x.l.length x.c,.slice y.A y.l.length y.c] (w.drewN (q+n)) λe w'=>e=.returned (.bool (x.l==y.l))∧∃ m,w'=w.drewN (q+m):=λn=>(equal_any x.small y.small (ints_drew (q+n) x) (ints_drew (q+n) y)).mono λe w' h=>by
     obtain ⟨he,m,hw⟩:=h;exact ⟨he,n+m,by rw [hw,QO,Nat.add_assoc]⟩
    have c1:w.cell? ⟨blk,0+k,none⟩=some (.slice x.A x.l.length x.c):=c1;have c0:w.cell? ⟨blk,0+(k-1),none⟩=some (.slice y.A y.l.length y.c):=c0;rw [Qn] at c1 c0;have wk:QZ.wrap ((k:Int)-1)=((k-1:Nat):Int):=by rw [QQ] <;> omega
    have pk:(((k-1:Nat):Int))<(d.size:Int):=by omega
    have pk0:(0:Int)≤((k-1:Nat):Int):=by omega
    by_cases hdup:x.l=y.l
    ·rw [show (x.l==y.l)=true from beq_iff_eq.2 hdup] at call
     have D:Aside (x.l=y.l):=hdup;clear hdup
     go_wp2_with fail
     go_quiet (exact call _)
     go_wp2
     clear c0 c1 f0 f1 call
     go_loopg [5,7] d.size (λg s5 s7 wr=>∃ (kk k2 q2:Nat) (dk:Array (SV w S)),s5=.int .i64 kk∧s7=.int .i64 k2∧1≤k2∧k+k2≤d.size∧d.size-(k+k2)≤g∧wr=putRow SV.enc (Qi w q2) blk 0 dk∧dk.size=d.size∧kk<k+k2∧(∀ j,kk≤j→dk[j]! = d[j]!)∧(dk.toList.take kk).map SV.l=q17 ((d.toList.map SV.l).take (k+k2)))
     case atStart =>
      refine ⟨k,1,q+nq,d,rfl,rfl,Q8 _,by omega,by omega,(putRow_self SV.enc (Qi w (q+nq)) blk 0 d (holds_ahead SV.enc w (q+nq) blk 0 d HH.out)).symm,rfl,by omega,λ_ _=>rfl,?_⟩
      rw [qdb d k hk1 hlt,B.out.1,B.out.2,if_pos (beq_iff_eq.2 D.out.symm),A.out,List.map_take]
     case round =>
      obtain ⟨kk,k2,q2,dk,rfl,rfl,h1,hle,hg2,hwr,hds,hkk,hhigh,hthin⟩:=hrel;have hHk:Holds SV.enc wr blk 0 dk:=by rw [hwr];exact holds_putRow SV.enc _ blk 0 d dk (holds_ahead SV.enc w q2 blk 0 d HH.out) hds
      have W2:Aside (wr=putRow SV.enc (Qi w q2) blk 0 dk):=hwr;have I2:Aside (dk.size=d.size∧(∀ j,kk≤j→dk[j]! = d[j]!)∧(dk.toList.take kk).map SV.l=q17 ((d.toList.map SV.l).take (k+k2))):=⟨hds,hhigh,hthin⟩;clear hwr hthin;by_cases hlt2:k+k2<d.size
      ·obtain ⟨cm,_⟩:=hHk (k+k2) (by omega)
       obtain ⟨cp,_⟩:=hHk (k+k2-1) (by omega)
       obtain ⟨ck,fk⟩:=hHk kk (by omega)
       rw [hhigh (k+k2) (by omega),Qn] at cm
       rw [hhigh (k+k2-1) (by omega),show 0+(k+k2-1)=k+(k2-1) by omega] at cp
       rw [Qn] at ck fk;clear hHk hhigh hds;generalize hu:d[k+k2]! = u at cm;generalize hv:d[k+k2-1]! = v at cp;generalize dk[kk]! = old at ck;have C:Aside (d[k+k2]! = u∧d[k+k2-1]! = v):=⟨hu,hv⟩;clear hu hv
       change wr.cell? ⟨blk,k+k2,none⟩=some (.slice u.A u.l.length u.c) at cm
       change wr.cell? ⟨blk,k+(k2-1),none⟩=some (.slice v.A v.l.length v.c) at cp
       change wr.cell? ⟨blk,kk,none⟩=some (.slice old.A old.l.length old.c) at ck
       have call2:∀ n,Calls Tryz.prog 45 #[.slice u.A u.l.length u.c,.slice v.A v.l.length v.c] (wr.drewN n) λe w'=>e=.returned (.bool (u.l==v.l))∧∃ m,w'=wr.drewN m:=λn=>by
        have h:=equal_any (w:=wr.drewN n) (c:=u.c) (d:=v.c) u.small v.small (by rw [W2.out];exact ints_put HS.out dk q2 n u) (by rw [W2.out];exact ints_put HS.out dk q2 n v)
        refine h.mono λe w' h=>?_
        obtain ⟨he,m,hw⟩:=h;exact ⟨he,n+m,by rw [hw,QO]⟩
       have wk2:QZ.wrap ((k2:Int)-1)=((k2-1:Nat):Int):=by rw [QQ] <;> omega
       have pk2:(((k2-1:Nat):Int))<((d.size-k:Nat):Int):=by omega
       have pk3:(0:Int)≤((k2-1:Nat):Int):=by omega
       have pk4:((k2:Nat):Int)<((d.size-k:Nat):Int):=by omega
       by_cases huv:u.l=v.l
       ·rw [show (u.l==v.l)=true from beq_iff_eq.2 huv] at call2
        have E:Aside (u.l=v.l):=huv;clear huv
        go_wp2_with fail
        go_quiet (exact call2 _)
        go_wp2
        go_roundg (d.size-(k+(k2+1)))
        case measure=>omega
        case rel =>
         refine ⟨kk,k2+1,q2+nq,dk,rfl,by go_num,by omega,by omega,Q8 _,?_,I2.out.1,by omega,I2.out.2.1,?_⟩
         ·rw [W2.out,putRow_drewN]
         ·rw [I2.out.2.2,show k+(k2+1)=k+k2+1 by omega,qdb d (k+k2) (by omega) hlt2,C.out.1,C.out.2,if_pos (beq_iff_eq.2 E.out.symm)]
       ·rw [show (u.l==v.l)=false from beq_eq_false_iff_ne.2 huv] at call2
        have F:Aside (¬ u.l=v.l):=huv;clear huv
        go_wp2_with fail
        go_quiet (exact call2 _)
        go_wp2
        go_roundg (d.size-(k+(k2+1)))
        case measure=>omega
        case rel =>
         refine ⟨kk+1,k2+1,q2+nq,dk.setIfInBounds kk u,by go_num,by go_num,by omega,by omega,Q8 _,?_,by rw [QA];exact I2.out.1,by omega,?_,?_⟩
         ·have hset:=putRow_set SV.enc (Qi w (q2+nq)) blk 0 dk kk u (by rw [I2.out.1];omega)
          rw [Qn] at hset;rw [W2.out,putRow_drewN];exact hset
         ·intro j hj
          rw [getElem!_set_other dk kk j _ (by omega),I2.out.2.1 j (by omega)]
         ·rw [take_set_l dk kk u (by rw [I2.out.1];omega),I2.out.2.2,show k+(k2+1)=k+k2+1 by omega,qdb d (k+k2) (by omega) hlt2,C.out.1,C.out.2,if_neg (λe=>F.out (beq_iff_eq.1 e).symm)]
      ·have hend:k+k2=d.size:=by omega
       have hcl:∀ ty,(Builtin.clear_ #[41] ty #[.slice (some ⟨blk,kk,none⟩) (d.size-kk) (cap-kk)]).run Tryz.prog wr=.ok (.tuple #[]) (wr.setCells blk kk (Qs (d.size-kk) (.slice none 0 0))) :=
        λty=>Lib.run_clear_slice wr _ 36 ty _ (by kernel_rfl) (λ_=>rfl) rfl rfl blk kk _ _ (by omega) (λj hj=>by have:=(hHk (kk+j) (by omega)).1;rw [Qn] at this;rw [this];rfl) (λj hj=>by have:=(hHk (kk+j) (by omega)).2;rwa [Qn] at this)
       clear hHk hhigh hds
       go_wp2
       go_ret
       have hth:=I2.out.2.2;have hT:(d.toList.map SV.l).take d.size=d.toList.map SV.l:=Qa (by rw [Qd,Q6];exact Q8 _)
       rw [hend,hT] at hth;have hsz1:=I2.out.1;have hlay:kk+(Qs (d.size-kk) (default:SV w S)).length≤dk.size:=by rw [List.length_replicate];omega
       have hset:=Lib.putRow_setCells SV.enc (Qi w q2) blk 0 (Qs (d.size-kk) (default:SV w S)) dk kk hlay;rw [Qn,List.map_replicate] at hset;refine ⟨q2,kk,QW dk kk (Qs (d.size-kk) default),rfl,?_,by rw [lay_size];exact hsz1,by omega,?_⟩
       ·rw [W2.out]
        exact hset
       ·rw [lay_head _ _ _ hlay]
        exact hth
    ·rw [show (x.l==y.l)=false from beq_eq_false_iff_ne.2 hdup] at call
     go_wp2_with fail
     go_quiet (exact call _)
     go_wp2
     go_roundg (d.size-(k+1))
     case measure=>omega
     case rel =>
      refine ⟨k+1,q+nq,by omega,by omega,Q8 _,by go_num,rfl,?_⟩
      rw [qdb d k hk1 hlt,B.out.1,B.out.2,if_neg (λe=>hdup (beq_iff_eq.1 e).symm),A.out,Snd.q0t (d.toList.map SV.l) [] k (by rw [Qd,Q6];exact hlt),getD_l d k hlt,B.out.1]
   ·have:k=d.size:=by omega
    subst this;have HH:Aside (Holds SV.enc w blk 0 d):=hH;clear hH
    go_wp2
    go_ret
    refine ⟨q,d.size,d,rfl,(putRow_self SV.enc _ blk 0 d (holds_ahead SV.enc w q blk 0 d HH.out)).symm,rfl,Q8 _,?_⟩;rw [Qa (by rw [Qd,Q6];exact Q8 _)] at hall
    rw [Qa (by rw [Q6];exact Q8 _)]
    exact hall.symm
end Go.Proofs.YtlfaaoalgcbcoaaGreatDoor
namespace Go.Proofs.YtlfaaoalgcbcoaaGreatDoor
open Go.RowKit R
abbrev q4n (e:Cod.Ear):Prop :=
 ((zE e.lang∧zE e.ws∧True∧zE e.c∧True)∧(zE e.lang∧zE e.ws∧True)∧True)
abbrev q5v (code:List Int) (e:Cod.Ear):Prop :=
 ((True∧True)∧(True∧True)∧(zE code∧True)∧(zE e.lang∧zE e.ws∧True∧zE e.c∧True)∧True)
abbrev qai (code:List Int) (e:Cod.Ear):Prop :=
 (True∧Snd.q0h e.c=(Snd.q0c e.lang e.ws&&Snd.q0h e.c)∧zE code∧True∧True)
abbrev qaf (code:List Int) (e:Cod.Ear):Prop :=
 (True∧false=(Snd.q0c e.lang e.ws&&Snd.q0h e.c)∧zE code∧True∧True)
abbrev zCoT0_4 (code:List Int) (e:Cod.Ear) (p:Nat×q03×List (List Int)) (p':Nat×List (List Int)) (p_2:Nat×List (List Int)):Prop :=
 ((p_2.1:Int)+1=(p'.1:Int)∧True∧True∧True∧True∧zE (p.1:Int)∧zE (code.getD (p.1:Int).toNat (0:Int))∧zE code∧zE (code.length:Int)∧zE (p.1:Int)∧zE (e.near (code.getD (p.1:Int).toNat (0:Int)))∧zE (↑(e.near (code.getD (p.1:Int).toNat (0:Int))).length:Int)∧True)
set_option maxRecDepth 100000 in
theorem mist_vc (e:Cod.Ear) (code:List Int) (h:cMist.pre ((e.lang,e.ws),e.c,code)) :
  (((q0j (e.lang,e.ws)∧bif Snd.q0c e.lang e.ws then q0n e.c∧∃ (p':Unit),True∧(qai code e)∧(q4n e)∧True∧True∧(([]:q03)=[]∧True)∧zT5 else ∃ (p':Unit),True∧(qaf code e)∧(q4n e)∧True∧True∧(([]:q03)=[]∧True)∧zT5)∧q0j (e.lang,e.ws)∧bif Snd.q0c e.lang e.ws then (q0n e.c∧∃ (p':Unit),True∧(qai code e)∧(q4n e)∧True∧True∧(([]:q03)=[]∧True)∧zT5)∧q0n e.c∧∃ (p':Unit),True∧(qai code e)∧(q4n e)∧True∧True∧(([]:q03)=[]∧True)∧zT5 else (∃ (p':Unit),True∧(qaf code e)∧(q4n e)∧True∧True∧(([]:q03)=[]∧True)∧zT5)∧∃ (p':Unit),True∧(qaf code e)∧(q4n e)∧True∧True∧(([]:q03)=[]∧True)∧zT5)∧q0j (e.lang,e.ws)∧bif Snd.q0c e.lang e.ws then ((q0n e.c∧∃ (p':Unit),True∧(qai code e)∧(q4n e)∧True∧True∧(([]:q03)=[]∧True)∧zT5)∧q0n e.c∧∃ (p':Unit),True∧(qai code e)∧(q4n e)∧True∧True∧(([]:q03)=[]∧True)∧zT5)∧q0n e.c∧∃ (p':Unit),True∧(qai code e)∧(q4n e)∧True∧True∧(([]:q03)=[]∧True)∧zT5 else ((∃ (p':Unit),True∧(qaf code e)∧(q4n e)∧True∧True∧(([]:q03)=[]∧True)∧zT5)∧∃ (p':Unit),True∧(qaf code e)∧(q4n e)∧True∧True∧(([]:q03)=[]∧True)∧zT5)∧∃ (p':Unit),True∧(qaf code e)∧(q4n e)∧True∧True∧(([]:q03)=[]∧True)∧zT5)∧∀ (p:Unit),True→bif !(Snd.q0c e.lang e.ws&&Snd.q0h e.c) then ([],(1:Int))=e.q3x code else (q0j (e.lang,e.ws)∧code.length≤(1000000:Nat))∧bif !Cod.q0q e.lang e.ws code then ([],(1:Int))=e.q3x code else (∃ (p':Nat×q03×List (List Int)),(p'.1≤code.length∧q0a e p'.2.1∧p'.2.2=e.q0i code p'.1 (0:Nat))∧((0:Int)=(p'.1:Int)∧True∧True∧True∧True∧zE code∧zE (code.length:Int)∧True)∧(q5v code e)∧(p'.2.2=[]∧True)∧True∧([]=p'.2.1∧True)∧(zT3)∧True∧True∧True∧True∧(True∧True)∧True)∧∀ (p:Nat×q03×List (List Int)),p.1≤code.length∧q0a e p.2.1∧p.2.2=e.q0i code p.1 (0:Nat)→bif decide ((p.1:Int)<(code.length:Int)) then (0≤(p.1:Int)∧(p.1:Int)<(code.length:Int))∧(bif !(Mp.get (λ(x x_1:Int)=>x==x_1) (code.getD (p.1:Int).toNat (0:Int)) p.2.1).isSome then ((0:Int)≤code.getD (p.1:Int).toNat (0:Int)∧code.getD (p.1:Int).toNat 0<(e.ws.length:Int))∧(q0j (e.lang,e.ws)∧q0n e.c∧(e.ws.getD (code.getD (p.1:Int).toNat (0:Int)).toNat []).length≤(1000000:Nat))∧∃ (p':q03),q0a e p'∧((Snd.q10 e.lang e.ws e.c (e.ws.getD (code.getD (p.1:Int).toNat (0:Int)).toNat [])).1=e.near (code.getD (p.1:Int).toNat (0:Int))∧True)∧(q5v code e)∧(zE p.2.2∧True)∧True∧(Mp.put (λ(x x_1:Int)=>x==x_1) (code.getD (p.1:Int).toNat (0:Int)) (Snd.q10 e.lang e.ws e.c (e.ws.getD (code.getD (p.1:Int).toNat (0:Int)).toNat [])).1 p.2.1=p'∧True)∧(True∧True∧True∧True∧zE (p.1:Int)∧zE (code.getD (p.1:Int).toNat (0:Int))∧zE code∧zE (code.length:Int)∧zE (p.1:Int)∧zT7)∧True∧True∧True∧True∧(True∧True)∧True else ∃ (p':q03),q0a e p'∧((Mp.get (λ(x x_1:Int)=>x==x_1) (code.getD (p.1:Int).toNat (0:Int)) p.2.1).getD []=e.near (code.getD (p.1:Int).toNat (0:Int))∧True)∧(q5v code e)∧(zE p.2.2∧True)∧True∧(p.2.1=p'∧True)∧(True∧True∧True∧True∧zE (p.1:Int)∧zE (code.getD (p.1:Int).toNat (0:Int))∧zE code∧zE (code.length:Int)∧zE (p.1:Int)∧zT7)∧True∧True∧True∧True∧(True∧True)∧True)∧∀ (p_1:q03),q0a e p_1→(∃ (p':Nat×List (List Int)),(p'.1≤(e.near (code.getD (p.1:Int).toNat (0:Int))).length∧p'.2=p.2.2++q0y e code (p.1:Int).toNat p'.1)∧((0:Int)=(p'.1:Int)∧True∧True∧True∧True∧zE (p.1:Int)∧zE (code.getD (p.1:Int).toNat (0:Int))∧zE code∧zE (code.length:Int)∧zE (p.1:Int)∧zE (e.near (code.getD (p.1:Int).toNat (0:Int)))∧zE (↑(e.near (code.getD (p.1:Int).toNat (0:Int))).length:Int)∧True)∧(q5v code e)∧(p.2.2=p'.2∧True)∧True∧(zE p_1∧True)∧(zT3)∧True∧True∧True∧True∧(True∧True)∧True)∧∀ (p_2:Nat×List (List Int)),p_2.1≤(e.near (code.getD (p.1:Int).toNat (0:Int))).length∧p_2.2=p.2.2++q0y e code (p.1:Int).toNat p_2.1→bif decide ((p_2.1:Int)<(↑(e.near (code.getD (p.1:Int).toNat (0:Int))).length:Int)) then (0≤(p_2.1:Int)∧(p_2.1:Int)<(↑(e.near (code.getD (p.1:Int).toNat (0:Int))).length:Int))∧bif (e.near (code.getD (p.1:Int).toNat (0:Int))).getD (p_2.1:Int).toNat (0:Int) != code.getD (p.1:Int).toNat (0:Int) then code.length≤(1000000:Nat)∧(0≤(p.1:Int)∧(p.1:Int)<(code.length:Int))∧bif (p.1:Int).toNat.beq (p.1:Int).toNat then (p_2.2.length+[code.set (p.1:Int).toNat ((e.near (code.getD (p.1:Int).toNat (0:Int))).getD (p_2.1:Int).toNat (0:Int))].length)*(24:Nat)≤(140737488355328:Nat)∧(zFit ((p_2.1:Int)+1))∧∃ (p':Nat×List (List Int)),(p'.1≤(e.near (code.getD (p.1:Int).toNat (0:Int))).length∧p'.2=p.2.2++q0y e code (p.1:Int).toNat p'.1)∧(e.near (code.getD (p.1:Int).toNat (0:Int))).length-p'.1<(e.near (code.getD (p.1:Int).toNat (0:Int))).length-p_2.1∧(zCoT0_4 code e p p' p_2)∧(q5v code e)∧(p_2.2++[code.set (p.1:Int).toNat ((e.near (code.getD (p.1:Int).toNat (0:Int))).getD (p_2.1:Int).toNat (0:Int))]=p'.2∧True)∧True∧(zE p_1∧True)∧(zT3)∧True∧True∧True∧True∧(True∧True)∧True else False else (zFit ((p_2.1:Int)+1))∧∃ (p':Nat×List (List Int)),(p'.1≤(e.near (code.getD (p.1:Int).toNat (0:Int))).length∧p'.2=p.2.2++q0y e code (p.1:Int).toNat p'.1)∧(e.near (code.getD (p.1:Int).toNat (0:Int))).length-p'.1<(e.near (code.getD (p.1:Int).toNat (0:Int))).length-p_2.1∧(zCoT0_4 code e p p' p_2)∧(q5v code e)∧(p_2.2=p'.2∧True)∧True∧(zE p_1∧True)∧(zT3)∧True∧True∧True∧True∧(True∧True)∧True else (code.length≤(1000000:Nat)∧(zFit ((p.1:Int)+1))∧(zE ((p.1:Int)+1)∧0≤(p.1:Int)∧(p.1:Int)<(code.length:Int))∧(p_2.2.length+[code.eraseIdx (p.1:Int).toNat].length)*(24:Nat)≤(140737488355328:Nat)∧∃ (p':List (List Int)),p'=p_2.2++[code.eraseIdx (p.1:Int).toNat]∧(True∧True∧True∧True∧zE (p.1:Int)∧zE (code.getD (p.1:Int).toNat (0:Int))∧zE code∧zE (code.length:Int)∧zE (p.1:Int)∧True)∧(q5v code e)∧(p_2.2++[code.eraseIdx (p.1:Int).toNat]=p'∧True)∧True∧(zE p_1∧True)∧(zT3)∧True∧True∧True∧True∧(True∧True)∧True)∧∀ (p_3:List (List Int)),p_3=p_2.2++[code.eraseIdx (p.1:Int).toNat]→bif (p.1:Int)==(0:Int) then (zFit ((p.1:Int)+1))∧∃ (p':Nat×q03×List (List Int)),(p'.1≤code.length∧q0a e p'.2.1∧p'.2.2=e.q0i code p'.1 (0:Nat))∧code.length-p'.1<code.length-p.1∧((p.1:Int)+1=(p'.1:Int)∧True∧True∧True∧True∧zE code∧zE (code.length:Int)∧True)∧(q5v code e)∧(p_3=p'.2.2∧True)∧True∧(p_1=p'.2.1∧True)∧(zT3)∧True∧True∧True∧True∧(True∧True)∧True else (zFit ((p.1:Int)-1))∧(0≤(p.1:Int)-1∧(p.1:Int)-1<(code.length:Int))∧bif code.getD ((p.1:Int)-1).toNat (0:Int)==code.getD (p.1:Int).toNat (0:Int) then (zFit ((p.1:Int)+1))∧∃ (p':Nat×q03×List (List Int)),(p'.1≤code.length∧q0a e p'.2.1∧p'.2.2=e.q0i code p'.1 (0:Nat))∧code.length-p'.1<code.length-p.1∧((p.1:Int)+1=(p'.1:Int)∧True∧True∧True∧True∧zE code∧zE (code.length:Int)∧True)∧(q5v code e)∧(p_3=p'.2.2∧True)∧True∧(p_1=p'.2.1∧True)∧(zT3)∧True∧True∧True∧True∧(True∧True)∧True else (zFit ((p.1:Int)-1))∧(0≤(p.1:Int)-1∧(p.1:Int)-1<(code.length:Int))∧code.length≤(1000000:Nat)∧(0≤(p.1:Int)∧(p.1:Int)<(code.length:Int))∧bif (p.1:Int).toNat.beq (p.1:Int).toNat then (zFit ((p.1:Int)-1))∧(0≤(p.1:Int)-1∧(p.1:Int)-1<(↑(code.set (p.1:Int).toNat (code.getD ((p.1:Int)-1).toNat (0:Int))).length:Int))∧bif ((p.1:Int)-1).toNat.beq ((p.1:Int)-1).toNat then (p_3.length+[(code.set (p.1:Int).toNat (code.getD ((p.1:Int)-1).toNat (0:Int))).set ((p.1:Int)-1).toNat (code.getD (p.1:Int).toNat (0:Int))].length)*(24:Nat)≤(140737488355328:Nat)∧(zFit ((p.1:Int)+1))∧∃ (p':Nat×q03×List (List Int)),(p'.1≤code.length∧q0a e p'.2.1∧p'.2.2=e.q0i code p'.1 (0:Nat))∧code.length-p'.1<code.length-p.1∧((p.1:Int)+1=(p'.1:Int)∧True∧True∧True∧True∧zE code∧zE (code.length:Int)∧True)∧(q5v code e)∧(p_3++[(code.set (p.1:Int).toNat (code.getD ((p.1:Int)-1).toNat (0:Int))).set ((p.1:Int)-1).toNat (code.getD (p.1:Int).toNat (0:Int))]=p'.2.2∧True)∧True∧(p_1=p'.2.1∧True)∧(zT3)∧True∧True∧True∧True∧(True∧True)∧True else False else False else q2c p.2.2∧q2c (ordL p.2.2)∧(q17 (ordL p.2.2),(0:Int))=e.q3x code:=by
 delta q4n q5v qai qaf zCoT0_4 zFit zE zT3 zT5 zT7
 obtain ⟨hW,hC,h1⟩:=h;have hW:q0j (e.lang,e.ws):=hW;have hC:q0n e.c:=hC;have h1:code.length≤1000000:=h1;have ok:e.ok=(Snd.q0c e.lang e.ws&&Snd.q0h e.c):=rfl;have no:(e.ok&&Cod.q0q e.lang e.ws code)=false→([],(1:Int))=e.q3x code:=λh=>by unfold Cod.Ear.q3x;rw [h];rfl
 simp only [true_and,and_true,eq_self,and_self,Nat.beq_refl,Bool.and_self,Bool.true_and,cond_true,QP,forall_const,exists_const,true_implies];refine ⟨?_,?_⟩
 ·clear ok no
  generalize Snd.q0c e.lang e.ws=v at *
  generalize Snd.q0h e.c=q at *
  cases v <;> cases q <;> simp [hW,hC]
 rw [← ok];refine bifP (λhok=>no (by rw [q4v hok];rfl)) λhok=>?_
 have hok:=q49 hok;refine ⟨⟨hW,h1⟩,bifP (λhcd=>no (by rw [q4v hcd,Bool.and_false])) λhcd=>?_⟩
 have hcd:=q49 hcd;obtain ⟨⟨hg3,hg5⟩,hin⟩:=q4l hcd;have hws:e.ws.length≤1000000:=hW.2.1;refine ⟨⟨(0,[],[]),⟨Q7 _,qfw e,rfl⟩,by and_intros <;> rfl⟩,?_⟩
 rintro ⟨k,nr,out⟩ ⟨hkl,hn,ho⟩;dsimp only at *
 subst ho;have hfl:=qcy e code hws k;refine bifP (λhkl=>?_) λhkl=>?_
 rotate_left
 ·have hkl:=of_decide_eq_false hkl
  have hkk:k=code.length:=by omega
  have hsm:∀ x∈e.q0i code k 0,x.length≤1000000:=λx hx=>by
   rw [hkk] at hx;have:=Cod.qfr (e:=e) (code:=code) hx;omega
  refine ⟨⟨by omega,hsm⟩,⟨by rw [ord_len];omega,λx hx=>hsm x (ord_mem.1 hx)⟩,?_⟩
  rw [thin_ord];unfold Cod.Ear.q3x;rw [hok,hcd,hkk];rfl
 have hkl:k<code.length:=by have:=of_decide_eq_true hkl;omega
 obtain ⟨hw0,hw1⟩:=hin k hkl;refine ⟨⟨by omega,by omega⟩,q7m hn hW hC hw0 hw1,?_⟩
 intro nr hn;have hnl:(e.near (code.getD k 0)).length≤1000000:=Nat.le_trans (q6d e _) hW.2.1;refine ⟨⟨(0,e.q0i code k 0),⟨Q7 _,(QU _).symm⟩,by and_intros <;> rfl⟩,?_⟩
 rintro ⟨q,out⟩ ⟨hql,ho⟩;dsimp only at *
 subst ho;have hpl:=part_len e code k q hws;refine bifP (λhq=>?_) λhq=>?_
 ·have hq:q<(e.near (code.getD k 0)).length:=by have:=of_decide_eq_true hq;omega
  refine ⟨⟨by omega,by omega⟩,bifP (λhne=>?_) λhne=>?_⟩
  ·refine ⟨by omega,⟨by omega,by omega⟩,by rw [Q9,Qc];omega,⟨by omega,by omega⟩,(q+1,_),⟨by omega,?_⟩,by omega,by and_intros <;> first | rfl | omega⟩
   rw [q2v hq,if_pos hne,Ql]
  ·refine ⟨⟨by omega,by omega⟩,(q+1,_),⟨by omega,?_⟩,by omega,by and_intros <;> first | rfl | omega⟩
   rw [q2v hq,if_neg (by rw [hne];decide),QU]
 have hq:=of_decide_eq_false hq;have full:=q75 (e:=e) (code:=code) (i:=k) (k:=q) (by omega)
 simp only [show ((k:Int)-1).toNat=k-1 by omega]
 refine ⟨⟨by omega,⟨by omega,by omega⟩,⟨by omega,by omega⟩,by rw [Q9,Qc];omega,_,rfl,rfl⟩,?_⟩
 rintro out ho;subst ho;have next1:(k=0∨code.getD (k-1) 0=code.getD k 0)→e.q0i code k 0++q0y e code k q++[code.eraseIdx k]=e.q0i code (k+1) 0:=λh=>by
  rw [q3t,full,if_pos h,Ql]
 refine bifP (λh0=>⟨⟨by omega,by omega⟩,(k+1,nr,_),⟨by omega,hn,next1 (.inl (by have:=beq_iff_eq.1 h0;omega))⟩,by omega,by and_intros <;> first | rfl | omega⟩) λh0=>?_
 have h0:k≠0:=by have:=beq_eq_false_iff_ne.1 h0;omega
 refine ⟨⟨by omega,by omega⟩,⟨by omega,by omega⟩,bifP (λh1=>⟨⟨by omega,by omega⟩,(k+1,nr,_),⟨by omega,hn,next1 (.inr (beq_iff_eq.1 h1))⟩,by omega,by and_intros <;> first | rfl | omega⟩) λh1=>?_⟩
 have h1:code.getD (k-1) 0≠code.getD k 0:=beq_eq_false_iff_ne.1 h1;refine ⟨⟨by omega,by omega⟩,⟨by omega,by omega⟩,by omega,⟨by omega,by omega⟩,⟨by omega,by omega⟩,⟨by omega,by rw [QV];omega⟩,by simp only [Q9,Qc];omega,⟨by omega,by omega⟩,(k+1,nr,_),⟨by omega,hn,?_⟩,by omega,by and_intros <;> first | rfl | omega⟩
 rw [q3t,full,if_neg (λh=>h.elim h0 h1)]
 show _++[Cod.swapAt code k]=_;simp only [Ql,Qo,QT]
theorem kitMi_ok (hc:oCompL.Holds Tryz.prog):kitMi.Ok Tryz.prog where
 cons:=all_cons q5t (all_cons q7v (all_cons qd3 (all_cons qfu all_nil)))
 ns:=all_cons qdu all_nil
 os:=all_cons qch (all_cons sortL_holds (all_cons hc all_nil))
 fcs:=all_nil
 rcs:=all_nil
 inls:=q0l.more Tryz.func40 (by kernel_rfl) (by kernel_rfl) (q0l.more Tryz.func42 (by kernel_rfl) (by kernel_rfl) (q0l.more Tryz.func89 (by kernel_rfl) (by kernel_rfl) (q0l.more Tryz.func90 (by kernel_rfl) (by kernel_rfl) (q0l.more Tryz.func92 (by kernel_rfl) (by kernel_rfl)
  (q0l.more Tryz.func41 (by kernel_rfl) (by kernel_rfl) (q0l.more Tryz.func87 (by kernel_rfl) (by kernel_rfl) (q0l.more Tryz.func121 (by kernel_rfl) (by kernel_rfl) q0l.nil)))))))
set_option maxRecDepth 100000000 in
theorem mist_holds (hc:oCompL.Holds Tryz.prog):cMist.Holds Tryz.prog:=by
 refine holdsX (T:=kitMi) (λp=>anMi ⟨p.1.1,p.1.2,p.2.1⟩ p.2.2) Tryz.func14 (by kernel_rfl) (by kernel_rfl) mixed (by kernel_rfl) (kitMi_ok hc) (λp=>anMist ⟨p.1.1,p.1.2,p.2.1⟩) λp hp=>?_
 obtain ⟨⟨lang,ws⟩,c,code⟩:=p;refine cast ?_ (mist_vc ⟨lang,ws,c⟩ code hp)
 kernel_rfl
open Go.Lib Go.Sort
set_option maxRecDepth 100000 in
theorem compact_none (w:World):Calls Tryz.prog 44 #[.slice none 0 0,.func (.func 45) #[] #[]] w λe w'=>e=.returned (.slice none 0 0)∧w'=w:=by
 go_enter Tryz.func44,Tryz.ntmps44
 go_wp2
 go_ret
 exact ⟨rfl,rfl⟩
theorem compL_holds:oCompL.Holds Tryz.prog:=by
 refine ⟨⟨_,Tryz.func44,by kernel_rfl,by kernel_rfl⟩,λxs p b v cells vs fvs w n0 S hn0 hS hvS hown hcells hpre hvs hfa _=>?_⟩
 have hfa:fvs=[.func (.func 45) #[] #[]]:=hfa;subst hfa;obtain ⟨xs,rfl⟩:∃ q:List (List Int),q=xs:=⟨xs,rfl⟩;obtain ⟨hp1,hp2⟩:=hpre;have hp1:xs.length≤1000000000:=hp1;have hp2:∀ x∈xs,x.length≤1000000:=hp2;have hvs2:vs=[]:=Q0 hvs.1;subst hvs2;have hown1:w.ownsRow n0 36 1 v xs.length cells:=hown;have hcl:cells.length=xs.length:=by have:=hown1.1;omega
 obtain ⟨ds,hd1,hd2⟩:=svs_of (w:=w) (S:=S) hcl λi x hx=>by
  obtain ⟨u,hu,hr⟩:=hcells i x hx 0 ⟨Kd.sl (.one (.int .i64)),x⟩ rfl;have e:i*oCompL.fs.size+0=i:=by show i*1+0=i;omega
  rw [e] at hu;have hm:=hp2 x (QG hx);exact ⟨u,hu,sv_of hr (by omega)⟩
 have hdl:ds.length=xs.length:=by rw [← hd2,Qd]
 by_cases hnil:v=.slice none 0 0
 ·subst hnil
  have h0:xs.length=0:=by
   rcases hown1.2 with ⟨_,h0⟩ | ⟨g,cap,cur,h,_⟩
   ·exact h0
   ·cases h
  have hxs:=Q0 h0;subst hxs;refine (compact_none w).mono ?_;rintro e w' ⟨rfl,rfl⟩;exact ⟨⟨rfl,rfl,rfl,Q8 _,λ_ _ _=>rfl⟩,_,cells,rfl,hown1,hcells,(λ_ g hg=>.inl hg),λh=>by cases h⟩
 ·rw [← hd1] at hown1
  obtain ⟨g,cap,rfl,hg1,hg2,hc1,hc2,_,hH⟩:=QH hown1 hnil;have hSg:¬ S g:=hvS g rfl;have hsz:ds.toArray.size=xs.length:=hdl;have hcomp:=compact_arr w S g cap ds.toArray hSg hH (by omega) (by omega)
  rw [hsz] at hcomp;refine hcomp.mono ?_;rintro e w' ⟨q,kk,dk,rfl,rfl,hsz2,hkk,hthin⟩;have hdkl:dk.toList.length=xs.length:=by rw [Q6];omega
  have hl:q17 (ds.map SV.l)=q17 xs:=by rw [hd2]
  have hthin:(dk.toList.take kk).map SV.l=q17 xs:=hthin.trans hl;have hrow:=ownsRow_putRow (q:=q) (k:=kk) (ys:=dk.toList) hown1 hdkl hkk;have hlen:(q17 xs).length=kk:=by rw [← hthin,Qd,Qb,hdkl];omega
  refine ⟨?_,_,(dk.toList.take kk).map SV.enc,rfl,?_,?_,(λ_ g' hg'=>.inl hg'),λh=>by cases h⟩
  ·have hb:∀ k,k<w.heap.size→k≠g→(sortWorld (SV.enc (w:=w) (S:=S)) w g 0 q dk #[]).heap[k]? = w.heap[k]? := λk hk hne=>heap_sorted _ _ _ _ _ _ _ hk hne
   have hs:=qar (SV.enc (w:=w) (S:=S)) w g 0 q dk #[];unfold sortWorld at hb hs;rw [grow_empty] at hb hs;exact ⟨rfl,rfl,rfl,hs,λk hk hne=>hb k hk (λe=>hne (by rw [e];rfl))⟩
  ·show QI _ _ _ _ _ (q17 xs).length _
   rw [hlen];exact hrow
  ·show q0d (Cx.of S) _ kIs (q17 xs) _
   rw [← hthin];exact sv_row _
theorem qi7:cMist.Holds Tryz.prog:=mist_holds compL_holds
end Go.Proofs.YtlfaaoalgcbcoaaGreatDoor
namespace Go.Proofs.YtlfaaoalgcbcoaaGreatDoor
open Go.RowKit R
def q4g (n most:Int):Nat→Int→Int
 | 0,out=>out
 | f+1,out=>if most<out*n then most+1 else q4g n most f (out*n)
def cCodes:Con:=.of 13 [ckWl,q57,q57] [q57] (λp=>Qv p.1.2≤1000000∧1≤p.2.2∧p.2.2≤1000) (λp=>q4g (Qv p.1.2) p.2.2 (min p.2.1.toNat 6) 1)
def anCodes (ws:List (List UInt8)) (size most:Int):List (Nat×Ann) :=
 [annX 0 (Nat×Int)
    (λst p=>st.hd { live:=[1,2,3],sav:=[],box:=[3] } [(8,R.int .i64 p.1),(7,R.int .i64 p.2)] [] [] [] none)
    (λ_ p=>p.1≤min size.toNat 6∧(0≤p.2∧p.2≤most)∧q4g ws.length most (min size.toNat 6-p.1) p.2=q4g ws.length most (min size.toNat 6) 1)
    (λ_ p=>min size.toNat 6-p.1)]
set_option maxRecDepth 100000 in
theorem codes_vc (lang:List UInt8) (ws:List (List UInt8)) (size most:Int) (h:ws.length≤1000000∧1≤most∧most≤1000) :
    (∃ (p':Nat×Int),(p'.1≤min size.toNat (6:Nat)∧((0:Int)≤p'.2∧p'.2≤most)∧q4g (ws.length:Int) most (min size.toNat (6:Nat)-p'.1) p'.2=q4g (ws.length:Int)
    most (min size.toNat (6:Nat)) (1:Int))∧((0:Int)=(p'.1:Int)∧(1:Int)=p'.2∧size=size∧most=most∧True∧True)∧((lang=lang∧ws=ws∧True)∧True)∧True∧True
    ∧ True∧True∧True∧True∧True∧True)∧∀ (p:Nat×Int),p.1≤min size.toNat (6:Nat)∧((0:Int)≤p.2∧p.2≤most)∧q4g (ws.length:Int) most (min size.toNat (6:Nat) -
    p.1) p.2=q4g (ws.length:Int) most (min size.toNat (6:Nat)) (1:Int)→bif decide ((p.1:Int)<size) then bif decide ((p.1:Int)<(6:Int)) then ((-9223372036854775808 :
    Int)≤p.2*(ws.length:Int)∧p.2*(ws.length:Int)≤(9223372036854775807:Int))∧bif decide (most<p.2*(ws.length:Int)) then ((-9223372036854775808:Int)≤most+(1:Int)
    ∧ most+(1:Int)≤(9223372036854775807:Int))∧most+(1:Int)=q4g (ws.length:Int) most (min size.toNat (6:Nat)) (1:Int) else ((-9223372036854775808:Int)≤(p.1:Int) +
    (1:Int)∧(p.1:Int)+(1:Int)≤(9223372036854775807:Int))∧∃ (p':Nat×Int),(p'.1≤min size.toNat (6:Nat)∧((0:Int)≤p'.2∧p'.2≤most)∧q4g (ws.length:Int) most
    (min size.toNat (6:Nat)-p'.1) p'.2=q4g (ws.length:Int) most (min size.toNat (6:Nat)) (1:Int))∧min size.toNat (6:Nat)-p'.1<min size.toNat (6:Nat)-p.1∧((↑p.1 :
    Int)+(1:Int)=(p'.1:Int)∧p.2*(ws.length:Int)=p'.2∧size=size∧most=most∧True∧True)∧((lang=lang∧ws=ws∧True)∧True)∧True∧True∧True∧True∧True ∧
    True∧True∧True else p.2=q4g (ws.length:Int) most (min size.toNat (6:Nat)) (1:Int) else p.2=q4g (ws.length:Int) most (min size.toNat (6:Nat)) (1:Int)
     := by
  obtain ⟨hw,hm1,hm2⟩:=h;simp only [true_and,and_true,eq_self,and_self];refine ⟨⟨(0,1),⟨Q7 _,⟨by omega,hm1⟩,by rw [Nat.sub_zero]⟩,rfl,rfl⟩,?_⟩
  rintro ⟨i,out⟩ ⟨hi,⟨ho0,ho1⟩,hc⟩;dsimp only at *
  have hend:i=min size.toNat 6→out=q4g ws.length most (min size.toNat 6) 1:=λe=>by
    rw [← hc,e,Nat.sub_self];rfl
  refine bifP (λh1=>bifP (λh2=>?_) λh2=>hend (by have:=of_decide_eq_false h2;omega)) λh1=>hend (by have:=of_decide_eq_false h1;omega)
  have h1:=of_decide_eq_true h1;have h2:=of_decide_eq_true h2;have hf:min size.toNat 6-i=(min size.toNat 6-(i+1))+1:=by omega
  have hmul:out*(ws.length:Int)≤1000*1000000:=by
    refine Int.le_trans (Int.mul_le_mul_of_nonneg_right (show out≤1000 by omega) (by omega)) ?_
    exact Int.mul_le_mul_of_nonneg_left (by omega) (by omega)
  have hmul0:0≤out*(ws.length:Int):=Int.mul_nonneg ho0 (by omega)
  rw [hf,q4g] at hc;refine ⟨⟨by omega,by omega⟩,bifP (λh3=>⟨⟨by omega,by omega⟩,?_⟩) λh3=>⟨⟨by omega,by omega⟩,(i+1,out*ws.length),⟨by omega,⟨hmul0,by have:=of_decide_eq_false h3;omega⟩,?_⟩,by omega,by omega,rfl⟩⟩
  · rw [if_pos (of_decide_eq_true h3)] at hc
    exact hc
  · rw [if_neg (of_decide_eq_false h3)] at hc
    exact hc
set_option maxRecDepth 100000 in
theorem codes_holds:cCodes.Holds Tryz.prog:=by
 refine q0s (cons:=[]) Tryz.func13 (by kernel_rfl) (by kernel_rfl) mixed (by kernel_rfl) all_nil (λp=>anCodes p.1.2 p.2.1 p.2.2) λp hp=>?_
 obtain ⟨⟨lang,ws⟩,size,most⟩:=p;refine cast ?_ (codes_vc lang ws size most hp)
 kernel_rfl
theorem word_len {lang:List UInt8} {ws:List (List UInt8)} (h:Snd.q0c lang ws=true) (i:Nat):(ws.getD i []).length≤8:=by
 unfold Snd.q0c at h;simp only [Qk,QC] at h;by_cases hi:i<ws.length
 ·have:=h.2.2.2.1 _ (Snd.q1n ws [] i hi)
  unfold Snd.q0b at this;simp only [Qk,decide_eq_true_eq] at this;omega
 ·rw [Q5,Qe (by omega)];exact Q7 _
theorem joinC_len {lang:List UInt8} {ws:List (List UInt8)} (h:Snd.q0c lang ws=true):∀ code:List Int,(Cod.q3w ws code).length≤code.length*9
 | []=>Q7 _
 | [i]=>by
  have:=word_len h i.toNat
  show (ws.getD i.toNat []).length≤1*9;omega
 | i::j::r=>by
  have ih:=joinC_len h (j::r);have:=word_len h i.toNat;show (ws.getD i.toNat []++[32]++Cod.q3w ws (j::r)).length≤(r.length+1+1)*9;rw [Q9,Q9,Qc];have:(j::r).length=r.length+1:=rfl;rw [this] at ih;omega
set_option maxRecDepth 100000 in
theorem text41_vc (lang:List UInt8) (ws:List (List UInt8)) (code:List Int) (h:qiy.pre ((lang,ws),code)) :
    (q0j (lang,ws)∧code.length≤(1000000:Nat))∧bif !Cod.q0q lang ws code then ([],(1:Int))=Cod.q56 lang ws code else (∃ (p':Nat×List (List UInt8)),(p'.1≤code.length ∧
    p'.2=q6l ws (QY p'.1 code))∧(True∧(0:Int)=(p'.1:Int)∧True∧code=code∧(code.length:Int)=(code.length:Int)∧True)∧((lang=lang∧ws=ws∧True) ∧
    True)∧(p'.2=[]∧True)∧True∧True∧True∧True∧True∧True∧True)∧∀ (p:Nat×List (List UInt8)),p.1≤code.length∧p.2=q6l ws (QY p.1 code)→bif decide ((↑p.1
    : Int)<(code.length:Int)) then ((0:Int)≤(p.1:Int)∧(p.1:Int)<(code.length:Int))∧((0:Int)≤code.getD (p.1:Int).toNat (0:Int)∧code.getD (p.1:Int).toNat (0 :
    Int)<(ws.length:Int))∧(p.2.length+[ws.getD (code.getD (p.1:Int).toNat (0:Int)).toNat []].length)*(16:Nat)≤(140737488355328:Nat)∧((-9223372036854775808:Int)≤(↑p.1
    : Int)+(1:Int)∧(p.1:Int)+(1:Int)≤(9223372036854775807:Int))∧∃ (p':Nat×List (List UInt8)),(p'.1≤code.length∧p'.2=q6l ws (QY p'.1 code))∧code.length
    - p'.1<code.length-p.1∧(True∧(p.1:Int)+(1:Int)=(p'.1:Int)∧True∧code=code∧(code.length:Int)=(code.length:Int)∧True)∧((lang=lang∧ws=ws∧True) ∧
    True)∧(p.2++[ws.getD (code.getD (p.1:Int).toNat (0:Int)).toNat []]=p'.2∧True)∧True∧True∧True∧True∧True∧True∧True else (p.2.length≤(1000000:Nat)∧(Lib.join p.2
    [(32:UInt8)]).length≤(1000000:Nat))∧(Lib.join p.2 [(32:UInt8)],(0:Int))=Cod.q56 lang ws code
     := by
  obtain ⟨hW,h1⟩:=h;have hW:q0j (lang,ws):=hW;have h1:code.length≤1000000:=h1;simp only [true_and,and_true,eq_self,and_self,QP];refine ⟨⟨hW,h1⟩,bifP (λhcd=>by unfold Cod.q56;rw [q4v hcd];rfl) λhcd=>?_⟩
  have hcd:=q49 hcd;obtain ⟨⟨hg3,hg5⟩,hin⟩:=q4l hcd;have hv:Snd.q0c lang ws=true:=by
    unfold Cod.q0q at hcd;rw [Qk] at hcd;exact hcd.1
  refine ⟨⟨(0,[]),⟨Q7 _,rfl⟩,by and_intros <;> rfl⟩,?_⟩
  rintro ⟨k,ss⟩ ⟨hk,hs⟩;dsimp only at *
  subst hs;have hl:(q6l ws (code.take k)).length≤5:=by
    unfold q6l;rw [Qd,Qb];omega
  refine bifP (λhkl=>?_) λhkl=>?_
  · have hkl:k<code.length:=by have:=of_decide_eq_true hkl;omega
    obtain ⟨hw0,hw1⟩:=hin k hkl;refine ⟨⟨by omega,by omega⟩,⟨hw0,hw1⟩,by rw [Qc];omega,⟨by omega,by omega⟩,(k+1,_),⟨by omega,?_⟩,by omega,by and_intros <;> first | rfl | omega⟩
    unfold q6l;rw [Snd.q0t code 0 k hkl,QE];rfl
  · have hkl:=of_decide_eq_false hkl
    rw [Qa (l:=code) (i:=k) (by omega)] at *
    rw [qlx];have:=joinC_len hv code;refine ⟨⟨by omega,by omega⟩,?_⟩
    unfold Cod.q56;rw [hcd];rfl
set_option maxRecDepth 100000 in
theorem qha:qiy.Holds Tryz.prog:=by
 refine q0s (cons:=[q8l,cJoinS]) Tryz.func16 (by kernel_rfl) (by kernel_rfl) mixed (by kernel_rfl) (all_cons q5t (all_cons joinS_holds all_nil)) (λp=>anText41 p.1.2 p.2) λp hp=>?_
 obtain ⟨⟨lang,ws⟩,code⟩:=p;refine cast ?_ (text41_vc lang ws code hp)
 kernel_rfl
def wd41:WlP:=([101,110],[[98,97,100],[98,97,110],[112,97,110],[115,101,97]])
def cf41:CfP:=[([98],[112])]
def cWords41:Con:=.of 37 [] [ckWl] (λ_=>True) (λ_=>wd41)
def cConf41:Con:=.of 38 [] [ckCf] (λ_=>True) (λ_=>cf41)
def cHead41:Con:=.of 11 [] [q2p] (λ_=>True) (λ_=>true)
def consHead41:List Con:=[cWords41,cConf41,cMist,qiy,cGive,cSameL,cEq,qg4,q8l]
def ga41:Cod.Giv:=([97],[0,0,0],false,0,0)
def gb41:Cod.Giv:=([98],[0,0,1],false,0,0)
def gc41:Cod.Giv:=([99],[0,0,3],false,0,0)
def mm41:List (List Int):=[[0,1],[0,1,2],[0,2,1],[1,0,1],[1,1]]
def ov41:List (Nat×AV):=[(1,.c (.one (.val (.sl kIs) mm41))),(2,R.int .i64 0),(3,.c (.one (.val .str [115,101,97,32,98,97,100,32,98,97,110]))),(4,R.int .i64 0)]
def bx41 (t:Nat):Nat×AV:=(t,.c (.one (.ptr t 0)))
def anHead41:List (Nat×Ann) :=
  [cutG 4 Unit (λst _=>st.hd { live:=[],sav:=[],box:=[] } (ov41++[bx41 5,(6,R.int .i64 0)]) [(5,kGiv.cells ga41)] [] [] none) (λ_=>True),
   cutG 5 Unit (λst _=>st.hd { live:=[],sav:=[],box:=[] } (ov41++[bx41 5,(6,R.int .i64 0),bx41 7,(8,R.int .i64 0)]) [(5,kGiv.cells ga41),(7,kGiv.cells gb41)] [] [] none) (λ_=>True),
   cutG 6 Unit (λst _=>st.hd { live:=[],sav:=[],box:=[] } (ov41++[bx41 5,(6,R.int .i64 0),bx41 7,(8,R.int .i64 0),bx41 9,(10,R.int .i64 0)]) [(5,kGiv.cells ga41),(7,kGiv.cells gb41),(9,kGiv.cells gc41)] [] [] none) (λ_=>True),
   cutG 8 Unit (λst _=>st.hd { live:=[],sav:=[],box:=[] } [bx41 5,bx41 7,bx41 9,(11,R.bool true),(12,R.bool true)] [(5,kGiv.cells ga41),(7,kGiv.cells gb41),(9,kGiv.cells gc41)] [] [] none) (λ_=>True)]
theorem few_out41 {lang:List UInt8} {ws:List (List UInt8)} {c:CfP} {book:q13} {m:Int} (h:q5c (lang,ws) c book m=true):q0j (lang,ws)∧q0n c∧(∀ g∈book,g.2.1.length≤8∧g.1.length≤60)∧(book.length:Int)≤m∧ws.length≤8:=by
 unfold q5c q82 q7c at h;simp only [Qk,QC,decide_eq_true_eq] at h;obtain ⟨⟨h1,h2,h3⟩,⟨h4,h5⟩,h6,h7,h8,h9⟩:=h;exact ⟨⟨by show lang.length≤_;omega,by show ws.length≤_;omega,λs hs=>Nat.le_trans (h3 s hs) (by omega)⟩,⟨by omega,λx hx=>by have:=h5 x hx;omega⟩,h9,h8,h6⟩
theorem longB_of {book:q13} {m:Int} (h:∀ g∈book,g.2.1.length≤8∧g.1.length≤60) (hm:(book.length:Int)≤m) (hm2:m≤1000):q3v book:=⟨by omega,λg hg=>by have:=h g hg;omega⟩
theorem qde (e:Cod.Ear) (code:List Int):∀ f i,(e.q0i code f i).length≤f*(e.ws.length+2)
 | 0,_=>Q7 _
 | f+1,i=>by
  rw [Cod.Ear.q0i,Q9,Nat.succ_mul];have h1:=qde e code f (i+1);have h2:(e.q2g code i).length≤e.ws.length+2:=by
   unfold Cod.Ear.q2g;rw [Q9,Qd,Qg];have:=QF (λk=>!(k==code.getD i 0)) (e.near (code.getD i 0))
   have:=q6d e (code.getD i 0)
   split
   ·rw [QD];omega
   ·rw [Qc];omega
  omega
theorem qka (x:List Int):∀ l:List (List Int),(Cod.putL x l).length≤l.length+1
 | []=>Q8 _
 | y::r=>by
  rw [Cod.putL];have:=qka x r;split
  ·rw [Qg];omega
  ·split <;> simp only [Qg] <;> omega
theorem qgw:∀ l:List (List Int),(Cod.q1y l).length≤l.length
 | []=>Q8 _
 | y::r=>by
  have h1:=qka y (Cod.q1y r);have h2:=qgw r;show (Cod.putL y (Cod.q1y r)).length≤r.length+1;omega
theorem mistL_long {e:Cod.Ear} {code:List Int} (hw:e.ws.length≤8) (hc:code.length≤8):LongL (Cod.q1y (e.miss code)):=by
 refine ⟨?_,λx hx=>?_⟩
 ·have h1:=qgw (e.miss code)
  have h2:=qde e code code.length 0;have h3:code.length*(e.ws.length+2)≤8*10:=Nat.mul_le_mul hc (by omega)
  unfold Cod.Ear.miss at *
  omega
 ·rcases Cod.qfr (Cod.q78.1 hx) with h | h <;> omega
theorem give_len {e:Cod.Ear} {book:q13} {g:Cod.Giv} (hg:g.2.1.length≤8) (size:Int):(e.q0p book g size).1.2.1.length≤1000000000000000:=by
 unfold Cod.Ear.q0p;split
 ·exact Q7 _
 ·rename_i h
  split
  ·exact Q7 _
  ·split
   ·exact Q7 _
   ·split
    ·rename_i c hc
     obtain ⟨i,_,_,hci,_⟩:=Cod.tryG_some hc;show c.length≤_;rw [hci,Cod.dig_len];simp only [QS,decide_eq_true_eq,not_or] at h;omega
    ·exact Q7 _
end Go.Proofs.YtlfaaoalgcbcoaaGreatDoor
namespace Go.Proofs.YtlfaaoalgcbcoaaGreatDoor
namespace Hea
end Hea
end Go.Proofs.YtlfaaoalgcbcoaaGreatDoor
namespace Go.Proofs.YtlfaaoalgcbcoaaGreatDoor
open Go.RowKit
namespace Hea
def okC (c:UInt8):Bool:=c==32||(decide (97≤c.toNat)&&decide (c.toNat≤122))
end Hea
open R
end Go.Proofs.YtlfaaoalgcbcoaaGreatDoor
namespace Go.Proofs.YtlfaaoalgcbcoaaGreatDoor
namespace Hea
end Hea
namespace Hea
end Hea
namespace Hea
end Hea
open Go.RowKit R
def annF (l:Nat) (frz:List Nat) (ι:Type) (at_:St→ι→St) (inv:St→ι→Prop):Nat×Ann:=(2000000+l,{ ι:=ι,at_:=at_,inv:=inv,mu:=λ_ _=>0,live:=frz })
def cQText:Con:=.of 17 [ckWl,q2h] [ckStr1,q57] (λp=>q0j p.1∧Qv p.2≤1000) (λp=>Cod.q56 p.1.1 p.1.2 p.2)
def anQText (ws:List (List UInt8)) (code:List Int):List (Nat×Ann) :=
 [annX 0 Nat (λst k=>st.hd { live:=[1,2],sav:=[],box:=[2] } [(6,str (Cod.q3w ws (code.take k))),(7,R.int .i64 k)] [] [] [] none) (λ_ k=>k≤code.length) (λ_ k=>code.length-k)]
def cQMist:Con:=.of 15 [ckWl,ckCf,q2h] [q6k,q57] (λp=>q41 p.1 p.2.1∧Qv p.2.2≤1000) (λp=>(q05 p.1 p.2.1).q3x p.2.2)
def q9k (p:List Int×Int):List Int×Bool:=if (Cod.qbu p.2 p.1).2 then Cod.qbu p.2 p.1 else ([],false)
def cQNext:Con:=.of 60 [q2h,q57] [q2h,q2p] (λp=>Qv p.1≤1000∧0≤p.2∧p.2≤1000000∧∀ d∈p.1,0≤d∧d<p.2) q9k
def anQNext (l:List Int) (n:Int):List (Nat×Ann) :=
 [annX 0 (Nat×List Int) (λst p=>st.hd { live:=[0,1],sav:=[],box:=[] } [(6,ownAV 8),(7,R.int .i64 ((l.length:Int)-1-p.1))] [] [(8,q7o p.2)] [] none) (λ_ p=>qb0 n l p.1 p.2) (λ_ p=>l.length-p.1)]
def cQGive:Con:=.of 19 [ckWl,ckCf,q7s,q5i,q57] [q5i,q57] (λp=>q41 p.1 p.2.1∧FewBk p.2.2.1∧Qv p.2.2.2.1.1≤1000000) (λp=>(q05 p.1 p.2.1).q0p p.2.2.1 p.2.2.2.1 p.2.2.2.2)
def datI (l:List Int):AV:=.c (.one (.val (.sl (.one (.int .i64))) l))
structure GvSt where
 k:Nat
 more:Bool
 old:List Int
def GvSt.code (n s:Nat) (q:GvSt):List Int:=bif q.more then Cod.dig n s q.k else []
def GvAt (e:Cod.Ear) (book:List Cod.Giv) (g:Cod.Giv) (s:Nat) (q:GvSt):Prop:=(∀ j,j<q.k→e.takes book (Cod.q0k g (Cod.dig e.ws.length s j))=false)∧(q.more=true→q.k<e.ws.length ^ s)∧(q.more=false→q.k=e.ws.length ^ s)
def anQGive (l:WlP) (c:CfP) (book:List Cod.Giv) (g:Cod.Giv) (s:Nat):List (Nat×Ann) :=
  [annX 0 Nat (λst k=>st.hd { live:=[1,2,4,5,8,10,11],sav:=[],box:=[5,8,10] } [(12,R.int .i64 k)] [] [] [] none) (λ_ k=>k≤book.length∧(book.take k).any (λx=>x.1==g.1)=false) (λ_ k=>book.length-k),
   annF 12 [74] Unit (λst _=>st.hd { live:=[1,2,4,5,8,10,11,13],sav:=[],box:=[5,8,10] } [(14,datI (Qs s 0))] [] [] [] none) (λ_ _=>True),
   annX 2 GvSt (λst q=>st.hd { live:=[1,2,4,5,8,10,11,13],sav:=[],box:=[5,10] } [(14,datI (q.code l.2.length s)),(15,R.bool q.more)] [(8,kGiv.cells (Cod.q0k g q.old))] [] [] none) (λ_ q=>GvAt (q05 l c) book g s q) (λ_ q=>(l.2.length ^ s-q.k)+(bif q.more then 1 else 0)),
   annX 4 Nat (λst i=>st.hd { live:=[1,2,4,5,8,10,11,13,14,15,16],sav:=[],box:=[5,8,10] } [(17,R.bool ((book.take i).all λo=>(q05 l c).apart o (Cod.q0k g (Get.slOf (.one (.int .i64)) 14 st)))),(18,R.int .i64 i)] [] [] [] none) (λ_ i=>i≤book.length) (λ_ i=>book.length-i)]
noncomputable def consCm:List Con:=[cHead41,cFewLaw41,cCodes,cMist,cQMist,qiy,cQText,cGive,cQGive,q8l,qcb,cSameL,qg4,qfa,cSame]
def cLCm:Con:=.of 4 [ckWl,ckCf,q7s,q5i,q57,q2h] [q2p] (λp=>CK.Big ckWl p.1∧CK.Big ckCf p.2.1∧CK.Big q7s p.2.2.1∧CK.Big q5i p.2.2.2.1∧CK.Big q57 p.2.2.2.2.1∧CK.Big q2h p.2.2.2.2.2) (λ_=>true)
set_option maxRecDepth 100000 in
theorem lcm_vc (l:WlP) (c:CfP) (book:List Cod.Giv) (d:List UInt8) (co:List Int) (pl:Bool) (px py:Int) (size:Int) (x:List Int) (h:cLCm.pre (l,c,book,(d,co,pl,px,py),size,x)) :
    True∧True∧bif !q5c l c book (8:Int) then true=true else True∧bif !q5c l c [(d,co,pl,px,py)] (8:Int) then true=true else bif decide ((8:Int)<(x.length:Int)) then
    true=true else (l.2.length≤(1000000:Nat)∧(1:Int)≤(600:Int)∧(600:Int)≤(1000:Int))∧bif decide ((600:Int)<q4g (l.2.length:Int) (600:Int) (min size.toNat (6 :
    Nat)) (1:Int)) then true=true else (q0j l∧q0n c∧x.length≤(1000000:Nat))∧(q41 l c∧x.length≤(1000:Nat))∧(q0j l∧x.length≤(1000000:Nat))∧(q0j l ∧
    x.length≤(1000:Nat))∧(q0j l∧q0n c∧q3v book∧d.length≤(1000:Nat)∧co.length≤(1000000:Nat))∧(q41 l c∧FewBk book∧d.length≤(1000000:Nat))∧(q0j l ∧
    x.length≤(1000000:Nat))∧(q0j l∧x.length≤(1000000:Nat))∧bif Cod.q0q l.1 l.2 x==Cod.q0q l.1 l.2 x then bif ((q05 l c).q3x x).2==((q05 l
    c).q3x x).2 then LongL ((q05 l c).q3x x).1∧bif ((q05 l c).q3x x).1==((q05 l c).q3x x).1 then bif (Cod.q56 l.1 l.2 x).1 ==
    (Cod.q56 l.1 l.2 x).1 then bif (Cod.q56 l.1 l.2 x).2==(Cod.q56 l.1 l.2 x).2 then (q0j l∧q0n c∧q3v book)∧(q41 l c∧FewBk book)∧bif (q05 l c).proper book==(q05 l c).proper book then bif ((q05 l c).q0p book (d,co,pl,px,py) size).2==((q05 l c).q0p book (d,co,pl,px,py) size).2 then ((q05 l c).q0p book (d,co,pl,px,py) size).1.2.1.length≤(1000000000000000:Nat)∧(((q05 l c).q0p book (d,co,pl,px,py) size).1 ==
    ((q05 l c).q0p book (d,co,pl,px,py) size).1)=true else false=true else false=true else false=true else false=true else false=true else false=true else false=true
     := by
  refine ⟨trivial,trivial,bifP (λ_=>rfl) λhf=>⟨trivial,bifP (λ_=>rfl) λhf2=>bifP (λ_=>rfl) λhx=>?_⟩⟩
  have hf:=cast (QM _) hf;have hf2:=cast (QM _) hf2;obtain ⟨l1,l2⟩:=l;obtain ⟨hW,hC,hbk,hlen,hws⟩:=few_out41 hf;obtain ⟨_,_,hbk2,_,_⟩:=few_out41 hf2;have hg:=hbk2 _ (List.mem_singleton.2 rfl);have hxl:x.length≤8:=by have:=of_decide_eq_false hx;omega
  have hB:FewBk book:=⟨by omega,λg hg=>by have:=hbk g hg;omega⟩
  have hE:q41 (l1,l2) c:=⟨hW,hC,by show l2.length≤1000;omega⟩
  have hL:q3v book:=longB_of hbk hlen (by decide)
  have hd:d.length≤60:=hg.2;have hco:co.length≤8:=hg.1;have hM:LongL ((q05 (l1,l2) c).q3x x).1:=by
    unfold Cod.Ear.q3x;split
    · exact mistL_long hws hxl
    · exact ⟨Q7 _,λy hy=>by cases hy⟩
  have hG:=give_len (e:=q05 (l1,l2) c) (book:=book) (g:=(d,co,pl,px,py)) hco size;have x1:x.length≤1000000:=by omega
  have x2:x.length≤1000:=by omega
  have d1:d.length≤1000:=by omega
  have d2:d.length≤1000000:=by omega
  have c1:co.length≤1000000:=by omega
  simp only [beq_self_eq_true,cond_true,and_true,true_and];refine ⟨⟨by show l2.length≤_;omega,by decide,by decide⟩,bifP (λ_=>trivial) λ_=>?_⟩
  exact ⟨⟨hW,hC,x1⟩,⟨hE,x2⟩,⟨hW,x1⟩,⟨hW,x2⟩,⟨hW,hC,hL,d1,c1⟩,⟨hE,hB,d2⟩,⟨hW,x1⟩,⟨hW,x1⟩,hM,⟨hW,hC,hL⟩,⟨hE,hB⟩,hG⟩
end Go.Proofs.YtlfaaoalgcbcoaaGreatDoor
namespace Go.Proofs.YtlfaaoalgcbcoaaGreatDoor
namespace Cod
theorem tw_len {α:Type} (p:α→Bool) (d:α):∀ (l:List α) (k:Nat),k≤l.length→(l.take k).all p=true→(k=l.length∨p (l.getD k d)=false)→(l.takeWhile p).length=k
 | [],k,hk,_,_=>by simp at hk;subst hk;rfl
 | x::r,0,_,_,h=>by
  have hx:p x=false:=h.elim (λh=>by simp at h) id
  rw [QJ,hx];rfl
 | x::r,k+1,hk,h,he=>by
  rw [List.take_succ_cons,List.all_cons,Qk] at h;rw [QJ,h.1,if_pos rfl,Qg,tw_len p d r k (by simp at hk;omega) h.2 (he.imp (λh=>by simp at h;omega) id)]
theorem qlf (l:List (List Int)) (x code:List Int):(putR l x code).length≤l.length+1:=by
 unfold putR;split
 ·omega
 ·rw [Q9,Q9,Qb,List.length_drop,Qc];omega
theorem holds_nil (e:Ear) (code:List Int):q4h [] (upTo e code 0):=⟨QN,λz=>⟨λh=>(by cases h),λh=>(by obtain ⟨k,hk,_⟩:=h;exact absurd hk (Qp _))⟩⟩
theorem upTo_len {e:Ear} {code z:List Int} {i:Nat} (hi:i≤code.length) (h:upTo e code i z):z.length≤code.length:=by
 obtain ⟨k,hk,hz⟩:=h;have:=qbt (show k<code.length by omega) hz
 omega
theorem qmn {e:Ear} {code z:List Int} {i k:Nat} (hi:i≤code.length) (h:q5b e code i k z):z.length≤code.length:=by
 rcases h with h | ⟨v,_,_,rfl⟩
 ·exact upTo_len hi h
 ·rw [QV];exact Q8 _
theorem q4l {lang:Str} {ws:List Str} {code:List Int} (h:q0q lang ws code=true):inB ws.length code=true∧code.length≤5:=by
 unfold q0q at h;simp only [Qk,decide_eq_true_eq] at h;exact ⟨h.2.2.2,by omega⟩
theorem ql4 (e:Ear) (book:List Giv) {k:Nat} (hk:k<book.length) (d:Giv):(allM e book).getD k []=q1y (e.miss (book.getD k d).2.1):=by
 unfold allM;rw [Q5,Qt,Q4 hk,Q5,Q4 hk];rfl
theorem allM_next (e:Ear) (book:List Giv) {k:Nat} (hk:k<book.length) (d:Giv):allM e (book.take (k+1))=allM e (book.take k)++[q1y (e.miss (book.getD k d).2.1)]:=by
 unfold allM;rw [Snd.q0t book d k hk,QE];rfl
theorem sub_len:∀ {l m:List (List Int)},l.Nodup→(∀ x∈l,x∈m)→l.length≤m.length
 | [],m,_,_=>Q7 _
 | x::l,m,hn,h=>by
  obtain ⟨hx,hl⟩:=List.nodup_cons.1 hn;have hm:=h x (Qr ..);have:=sub_len (m:=m.erase x) hl λy hy=>(List.mem_erase_of_ne (λe=>hx (by rw [← e];exact hy))).2 (h y (List.mem_cons_of_mem _ hy))
  rw [List.length_erase_of_mem hm] at this;have:=List.length_pos_of_mem hm;rw [Qg];omega
theorem up_nodup {l:List (List Int)} (h:l.Pairwise λa b=>cmpL a b<0):l.Nodup:=h.imp λh e=>by rw [e,q89] at h;omega
theorem sortU_len (l:List (List Int)):(q1y l).length≤l.length:=sub_len (up_nodup (qf4 l)) λx hx=>q78.1 hx
theorem qkq {b:Bool} (h:b≠true):false=b:=(QR b▸h:b=false).symm
end Cod
theorem miss_len' (e:Cod.Ear) (code:List Int) (hw:e.ws.length≤1000000):(e.miss code).length≤code.length*1000002:=qcy e code hw code.length
theorem qdk {e:Cod.Ear} {code:List Int} (hc:code.length≤900) (hw:e.ws.length≤1000000):q2c (Cod.q1y (e.miss code)):=by
 refine ⟨?_,λx hx=>?_⟩
 ·have h1:=Cod.sortU_len (e.miss code)
  have h2:=miss_len' e code hw;have:=Nat.mul_le_mul_right 1000002 hc;omega
 ·have:=Cod.qfr (Cod.q78.1 hx)
  omega
theorem qll (ws:List (List UInt8)) (i:Int):∀ {l:List Int},l≠[]→Cod.q3w ws (l++[i])=Cod.q3w ws l++32::ws.getD i.toNat []
 | [],h=>absurd rfl h
 | [k],_=>Cod.qbr ws k i []
 | k::m::r,_=>by
  rw [Qo,Qo,Cod.qbr,← Qo,qll ws i (l:=m::r) (by intro h;cases h),Cod.qbr,Ql]
  rfl
theorem joinM_len {ws:List (List UInt8)} (hws:∀ s∈ws,s.length≤1000000):∀ l:List Int,(Cod.q3w ws l).length≤l.length*1000001
 | []=>Q7 _
 | i::r=>by
  have ih:=joinM_len hws r;have hw:(ws.getD i.toNat []).length≤1000000:=by
   by_cases hi:i.toNat<ws.length
   ·exact hws _ (Snd.q1n ws [] _ hi)
   ·rw [Q5,Qe (by omega)];exact Q7 _
  cases r with
  | nil=>show (ws.getD i.toNat []).length≤1*1000001;omega
  | cons k r =>
   rw [Cod.qbr,Q9,Qg,Qg (a:=i),Nat.succ_mul];omega
theorem takes_no {e:Cod.Ear} {book:List Cod.Giv} {g:Cod.Giv} {i:Nat} (h:((book.take i).all λo=>e.apart o g)=false):e.takes book g=false:=by
 unfold Cod.Ear.takes;rw [← QR,QC] at h ⊢;exact λhh=>h λo ho=>hh o (List.mem_of_mem_take ho)
end Go.Proofs.YtlfaaoalgcbcoaaGreatDoor

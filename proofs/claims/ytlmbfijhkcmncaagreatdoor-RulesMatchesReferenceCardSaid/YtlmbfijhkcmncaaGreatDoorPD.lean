/-
  Several texts in one: Later, R7.
-/
import Derived.Test.YtlmbfijhkcmncaaGreatDoorPB
import Derived.StillTail
import Derived.Test.YtlmbfijhkcmncaaGreatDoorPC
open Go.Region renaming ready→Q0,noSelect→Qa,sinkB→Qd,binds→Qe,Mode→Qf,free→Qg,lexTailB→Ql,lexHead→Qm,noSelect_spec→Qn,waitsFor_spec→Qo,free_spec→Qr,lexFrom→Qv,chainB→Qw
open Nat renaming blt→Q3,decEq→Qi,ble→Qq
open Array renaming replicate→Q7,setIfInBounds_comm→Qk
open Bool renaming and_eq_true→Q8
open List renaming range→Q9,length_cons→Qb,replicate→Qc,mem_range→Qh,getElem?_drop→Qp,any_eq_true→Qs,all_eq_true→Qt
open Go.IntWalk renaming wrap64_in→Qj
open Option.some renaming inj→Qu
set_option linter.unusedVariables false
namespace Go.Proofs.YtlmbfijhkcmncaaGreatDoor
open Go.RowKit
section
variable {P:Program} {ops:Array Oper} {md:Qf} {C:World→Prop}
def q78 (P:Program) (md:Qf) (ops:Array Oper) (C:World→Prop) (n:Nat) (L:Array Bool→Act→Prop):Nat→Array Bool→Act→Prop
 | 0,listed,a=>L listed a
 | f+1,listed,a=>Q0 md ops listed≠[]∧∀ i∈Q0 md ops listed,i<n∧qOp P ops C i (q78 P md ops C n L f (listed.setIfInBounds i true)) a
theorem q9k {n g:Nat} {L:Array Bool→Act→Prop} {Q':Exit→Act→World→Prop} (hL:∀ listed a w,C w→L listed a→wpAny P md ops Q' g listed a w) :
  ∀ (f:Nat) (listed:Array Bool) (a:Act) (w:World),C w→q78 P md ops C n L f listed a→wpAny P md ops Q' (f+g) listed a w
 | 0,listed,a,w,hw,h=>by rw [Nat.zero_add];exact hL _ _ _ hw h
 | f+1,listed,a,w,hw,h=>by
  rw [show f+1+g=(f+g)+1 by omega]
  exact ⟨λh0=>absurd h0 h.1,λi hi=>wpOp_of_qOp hw (λa' w' hw' h'=>q9k hL f _ a' w' hw' h') (h.2 i hi).2⟩
theorem qle {n i:Nat} {oi:Oper} {v:Value} {L:Array Bool→Act→Prop} (hi:ops[i]? = some oi) (hsel:∀ (j:Nat) (o:Oper) cs b,ops[j]? = some o→o.op≠.select cs b)
  (hs:Qd md ops n=true) (hc:Qw md ops n=true) (hn:n<ops.size) (hin:i<n) (hdone:∀ listed a,L listed a→∀ j∈Q0 md ops listed,n≤j) (f:Nat) :
  ∀ (listed:Array Bool) (a:Act),HeadInv md ops n listed →
   (∀ j oj,ops[j]? = some oj→j≠i→listed.getD j true=false→(∀ e∈oj.after,Qe md e=true→e.on≠i)→oi.apart ops oj=true) →
   i∈Q0 md ops listed→YieldsIn P ops C oi v a→q78 P md ops C n L f (listed.setIfInBounds i true) (a.put oi.dst v)→q78 P md ops C n L (f+1) listed a:=by
 have before:∀ listed,HeadInv md ops n listed→i∈Q0 md ops listed→∀ j∈Q0 md ops listed,j<n:=λlisted inv hr j hj=>by
  rcases Nat.lt_or_ge j n with h | h
  ·exact h
  ·exact absurd hj (tail_waits hs hc hn inv _ i rfl hin (mem_ready.1 hr).1 j h)
 have some_:∀ listed,i∈Q0 md ops listed→Q0 md ops listed≠[]:=λlisted hr h=>by rw [h] at hr;cases hr
 induction f with
 | zero =>
  intro listed a inv _ hr hy H;refine ⟨some_ _ hr,λj hj=>⟨before _ inv hr j hj,?_⟩⟩
  rcases Qi j i with hji | hji
  ·have:=hdone _ _ H j (ready_mono hj hji)
   have:=before _ inv hr j hj
   omega
  ·subst hji;exact hy.qOp hi H
 | succ f ih =>
  intro listed a inv hfree hr hy H;refine ⟨some_ _ hr,λj hj=>⟨before _ inv hr j hj,?_⟩⟩
  rcases Qi j i with hji | hji
  ·obtain ⟨hjun,oj,hoj,hall⟩:=mem_ready.1 hj
   have hnot:∀ e∈oj.after,Qe md e=true→e.on≠i:=λe he hb heq=>by
    have h1:=hall e he hb;rw [heq,getD_both (mem_ready.1 hr).1] at h1;cases h1
   refine qOp_mono (λa' h3=>ih (listed.setIfInBounds j true) a' (inv.set hj (before _ inv hr j hj)) (λk ok hk hki hun hno=>hfree k ok hk hki ?_ hno) (ready_mono hr (Ne.symm hji)) h3.1 ?_)
    (qOp_put hoj (hfree j oj hoj hji hjun hnot) (λcs b=>hsel i oi cs b hi) (λcs b=>hsel j oj cs b hoj) hy (H.2 j (ready_mono hj hji)).2)
   ·rcases Qi j k with hjk | hjk
    ·rwa [getD_set_ne true hjk] at hun
    ·subst hjk;exact hjun
   ·rw [Qk _ _ hji]
    exact h3.2
  ·subst hji;exact hy.qOp hi H
theorem qi3 {n g:Nat} {Lq:Act→Prop} (hsel:Qa ops=true) (hs:Qd md ops n=true) (hc:Qw md ops n=true) (hn:n<ops.size) :
  ∀ (l:List Oper) (k:Nat) (listed:Array Bool) (a:Act),(∀ j,j<l.length→l[j]? = ops[k+j]?)→k+l.length=n→HeadInv md ops n listed →
  Qm md ops g l.length k listed=true→wpQuiet P ops C Lq l a→q78 P md ops C n (λlisted' a'=>Region.seqB md ops g n listed'=true∧Lq a') l.length listed a
 | [],k,listed,a,_,hk,_,hB,h=>by
  obtain rfl:k=n:=by simpa using hk
  exact ⟨by simpa [Qm] using hB,h⟩
 | o::l,k,listed,a,hl,hk,inv,hB,h=>by
  have h0:ops[k]? = some o:=by simpa using (hl 0 (by simp)).symm
  simp only [Qb,Qm,Q8] at hB;obtain ⟨⟨hr,hf⟩,hB'⟩:=hB;have hkn:k<n:=by simp only [Qb] at hk;omega
  have hr':k∈Q0 md ops listed:=by simpa using hr
  obtain ⟨v,hy,hK⟩:=yieldsIn_of_qOp (C:=C) (K:=wpQuiet P ops C Lq l) h0 (by unfold qOp;simp only [h0];exact h)
  exact qle h0 (Qn hsel) hs hc hn hkn (λlisted' a' hL=>seqB_ready hL.1) l.length listed a inv (Qr h0 hf) hr' hy
   (qi3 hsel hs hc hn l (k+1) _ _ (λj hj=>by have:=hl (j+1) (by simp;omega);simpa [Nat.add_assoc,Nat.add_comm 1 j] using this) (by simp only [Qb] at hk;omega) (inv.set hr' hkn) hB' hK)
theorem ql1 {Q:Exit→Act→World→Prop} {a:Act} {w:World} {l:List Oper} (n:Nat) (hB:Ql .any l.toArray n=true) (hC:C { w with drawn:=w.drawn+1 })
  (h:wpQuiet P l.toArray C (λa'=>∀ w',C w'→wpList P l.toArray Q (l.drop n) a' w') (l.take n) a):wpAny P .any l.toArray Q l.toArray.size (Q7 l.toArray.size false) a { w with drawn:=w.drawn+1 }:=by
 simp only [Ql,Q8,decide_eq_true_eq] at hB;obtain ⟨⟨⟨⟨hsel,hn⟩,hs⟩,hc⟩,hlex⟩:=hB;have hn':n<l.length:=by simpa using hn
 have htl:(l.take n).length=n:=by simp;omega
 have hdl:(l.drop n).length=l.toArray.size-n:=by simp
 have inv0:HeadInv .any l.toArray n (Q7 l.toArray.size false) :=
  ⟨by simp,λj oj _ hl=>(by rw [getD_replicate_false] at hl;cases hl),λt _ ht=>getD_in (by simpa using ht) (getD_replicate_false _ _)⟩
 have H:=qi3 (md:=.any) (g:=l.toArray.size-n) hsel hs hc hn (l.take n) 0 _ a (λj hj=>by
  have hj':j<n:=by rw [htl] at hj;exact hj
  simp [hj']) (by simpa using htl) inv0 (by rw [htl];exact hlex) h
 have:=q9k (Q':=Q) (g:=l.toArray.size-n) (λlisted a' w' hw' hL=>by
  have:=wpAny_of_seq (md:=.any) (Q':=Q) (l.drop n) n listed a' w' (λj=>by simp [Qp]) (by rw [hdl];exact hL.1) (hL.2 w' hw')
  rwa [hdl] at this) _ _ _ _ hC H
 rw [htl,show n+(l.toArray.size-n)=l.toArray.size by omega] at this
 exact this
end
section
variable {P:Program} {ops:Array Oper} {md:Qf} {C:World→Prop}
def restB (md:Qf) (ops:Array Oper) (n:Nat):Bool :=
 (Q9 ops.size).all λt=>decide (t≤n)||(Q9 t).any λj=>decide (n≤j)&&Region.waitsFor md ops t j
theorem mid_waits {n:Nat} {listed:Array Bool} (hs:Qd md ops n=true) (hc:restB md ops n=true) (hn:n<ops.size) (inv:HeadInv md ops n listed) :
  ∀ (d i:Nat),n-i=d→i<n→listed.getD i true=false→∀ t,n≤t→t ∉ Q0 md ops listed:=by
 intro d
 induction d using Nat.strongRecOn with
 | _ d ih =>
  intro i hd hi hun t ht hr;obtain ⟨_,ot,hot,hall⟩:=mem_ready.1 hr;have htlt:t<ops.size:=(Array.getElem?_eq_some_iff.1 hot).1;by_cases htn:t=n
  ·subst htn
   obtain ⟨j,hj,hj2⟩:=Qs.1 (Qt.1 hs i (Qh.2 hi));simp only [Q8,decide_eq_true_eq] at hj2;obtain ⟨oj,hoj,e,he,hb,hon⟩:=Qo hj2.2;have hjle:j≤t:=by have:=Qh.1 hj;omega
   by_cases hjt:j=t
   ·subst hjt
    obtain rfl:oj=ot:=Qu (hoj.symm.trans hot);have h2:=hall e he hb;rw [hon,getD_both hun] at h2;cases h2
   ·cases hl:listed.getD j false with
    | true =>
     have h2:=inv.closed j oj hoj hl e he hb;rw [hon,getD_both hun] at h2;cases h2
    | false =>
     have hjs:j<listed.size:=by rw [inv.size];omega
     exact ih (t-j) (by omega) j rfl (by omega) (getD_in hjs hl) t (Nat.le_refl _) hr
  ·have h1:=Qt.1 hc t (Qh.2 htlt)
   simp only [Bool.or_eq_true,decide_eq_true_eq] at h1;rcases h1 with h1 | h1
   ·omega
   ·obtain ⟨j,hj,hj2⟩:=Qs.1 h1
    simp only [Q8,decide_eq_true_eq] at hj2;obtain ⟨o',ho',e,he,hb,hon⟩:=Qo hj2.2;obtain rfl:o'=ot:=Qu (ho'.symm.trans hot);have hjt:=Qh.1 hj;have h2:=hall e he hb;rw [hon,getD_both (inv.tail j hj2.1 (by omega))] at h2
    cases h2
theorem qhq {n i:Nat} {oi:Oper} {v:Value} {L:Array Bool→Act→Prop} (hi:ops[i]? = some oi) (hsel:∀ (j:Nat) (o:Oper) cs b,ops[j]? = some o→o.op≠.select cs b)
  (hs:Qd md ops n=true) (hc:restB md ops n=true) (hn:n<ops.size) (hin:i<n) (hdone:∀ listed a,L listed a→∀ j∈Q0 md ops listed,n≤j) (f:Nat) :
  ∀ (listed:Array Bool) (a:Act),HeadInv md ops n listed →
   (∀ j oj,ops[j]? = some oj→j≠i→listed.getD j true=false→(∀ e∈oj.after,Qe md e=true→e.on≠i)→oi.apart ops oj=true) →
   i∈Q0 md ops listed→YieldsIn P ops C oi v a→q78 P md ops C n L f (listed.setIfInBounds i true) (a.put oi.dst v)→q78 P md ops C n L (f+1) listed a:=by
 have before:∀ listed,HeadInv md ops n listed→i∈Q0 md ops listed→∀ j∈Q0 md ops listed,j<n:=λlisted inv hr j hj=>by
  rcases Nat.lt_or_ge j n with h | h
  ·exact h
  ·exact absurd hj (mid_waits hs hc hn inv _ i rfl hin (mem_ready.1 hr).1 j h)
 have some_:∀ listed,i∈Q0 md ops listed→Q0 md ops listed≠[]:=λlisted hr h=>by rw [h] at hr;cases hr
 induction f with
 | zero =>
  intro listed a inv _ hr hy H;refine ⟨some_ _ hr,λj hj=>⟨before _ inv hr j hj,?_⟩⟩
  rcases Qi j i with hji | hji
  ·have:=hdone _ _ H j (ready_mono hj hji)
   have:=before _ inv hr j hj
   omega
  ·subst hji;exact hy.qOp hi H
 | succ f ih =>
  intro listed a inv hfree hr hy H;refine ⟨some_ _ hr,λj hj=>⟨before _ inv hr j hj,?_⟩⟩
  rcases Qi j i with hji | hji
  ·obtain ⟨hjun,oj,hoj,hall⟩:=mem_ready.1 hj
   have hnot:∀ e∈oj.after,Qe md e=true→e.on≠i:=λe he hb heq=>by
    have h1:=hall e he hb;rw [heq,getD_both (mem_ready.1 hr).1] at h1;cases h1
   refine qOp_mono (λa' h3=>ih (listed.setIfInBounds j true) a' (inv.set hj (before _ inv hr j hj)) (λk ok hk hki hun hno=>hfree k ok hk hki ?_ hno) (ready_mono hr (Ne.symm hji)) h3.1 ?_)
    (qOp_put hoj (hfree j oj hoj hji hjun hnot) (λcs b=>hsel i oi cs b hi) (λcs b=>hsel j oj cs b hoj) hy (H.2 j (ready_mono hj hji)).2)
   ·rcases Qi j k with hjk | hjk
    ·rwa [getD_set_ne true hjk] at hun
    ·subst hjk;exact hjun
   ·rw [Qk _ _ hji]
    exact h3.2
  ·subst hji;exact hy.qOp hi H
def qdl (md:Qf) (ops:Array Oper) (n:Nat):Nat→Nat→Array Bool→Bool
 | 0,k,listed=>decide (Q0 md ops listed=[k])&&Qv md ops (ops.size-(n+1)) (k+1) (listed.setIfInBounds k true)
 | f+1,k,listed=>(Q0 md ops listed).contains k&&Qg md ops listed k&&qdl md ops n f (k+1) (listed.setIfInBounds k true)
def q6j (md:Qf) (ops:Array Oper) (n:Nat):Bool :=
 Qa ops&&decide (n<ops.size)&&Qd md ops n&&restB md ops n&&qdl md ops n n 0 (Q7 ops.size false)
theorem qd7 {n:Nat} {Lq:Act→Prop} (hsel:Qa ops=true) (hs:Qd md ops n=true) (hc:restB md ops n=true) (hn:n<ops.size) :
  ∀ (l:List Oper) (k:Nat) (listed:Array Bool) (a:Act),(∀ j,j<l.length→l[j]? = ops[k+j]?)→k+l.length=n→HeadInv md ops n listed →
  qdl md ops n l.length k listed=true→wpQuiet P ops C Lq l a →
  q78 P md ops C n (λlisted' a'=>(Q0 md ops listed'=[n]∧Qv md ops (ops.size-(n+1)) (n+1) (listed'.setIfInBounds n true)=true)∧Lq a') l.length listed a
 | [],k,listed,a,_,hk,_,hB,h=>by
  obtain rfl:k=n:=by simpa using hk
  simp only [List.length_nil,qdl,Q8,decide_eq_true_eq] at hB;exact ⟨hB,h⟩
 | o::l,k,listed,a,hl,hk,inv,hB,h=>by
  have h0:ops[k]? = some o:=by simpa using (hl 0 (by simp)).symm
  simp only [Qb,qdl,Q8] at hB;obtain ⟨⟨hr,hf⟩,hB'⟩:=hB;have hkn:k<n:=by simp only [Qb] at hk;omega
  have hr':k∈Q0 md ops listed:=by simpa using hr
  obtain ⟨v,hy,hK⟩:=yieldsIn_of_qOp (C:=C) (K:=wpQuiet P ops C Lq l) h0 (by unfold qOp;simp only [h0];exact h)
  exact qhq h0 (Qn hsel) hs hc hn hkn (λlisted' a' hL j hj=>by rw [hL.1.1] at hj;simp at hj;omega) l.length listed a inv (Qr h0 hf) hr' hy
   (qd7 hsel hs hc hn l (k+1) _ _ (λj hj=>by have:=hl (j+1) (by simp;omega);simpa [Nat.add_assoc,Nat.add_comm 1 j] using this) (by simp only [Qb] at hk;omega) (inv.set hr' hkn) hB' hK)
theorem upon_then {o:Oper} {a:Act} {next K:Act→World→Prop} {Q:Exit→Act→World→Prop} {r:Result Next} (h:o.upon P a next (Exit.then K Q) r):o.upon P a next Q r:=by
 cases r with
 | ok n w' =>
  cases n <;> simp only [Oper.upon] at h ⊢ <;> exact h
 | halt x w' =>
  cases x <;> simp only [Oper.upon] at h ⊢ <;> exact h
theorem qfh {Q:Exit→Act→World→Prop} {a:Act} {w:World} {l:List Oper} (n:Nat) (hB:q6j .any l.toArray n=true) (hC:C { w with drawn:=w.drawn+1 })
  (h:wpQuiet P l.toArray C (λa'=>∀ w',C w'→wpList P l.toArray (Exit.then (λa2 w2=>wpQuiet P l.toArray (λx=>x=w2) (λa3=>Q .normal a3 w2) (l.drop (n+1)) a2) Q) ((l.drop n).take 1) a' w') (l.take n) a) :
  wpAny P .any l.toArray Q l.toArray.size (Q7 l.toArray.size false) a { w with drawn:=w.drawn+1 }:=by
 simp only [q6j,Q8,decide_eq_true_eq] at hB;obtain ⟨⟨⟨⟨hsel,hn⟩,hs⟩,hc⟩,hlex⟩:=hB;have hn':n<l.length:=by simpa using hn
 have htl:(l.take n).length=n:=by simp;omega
 have inv0:HeadInv .any l.toArray n (Q7 l.toArray.size false) :=
  ⟨by simp,λj oj _ hl=>(by rw [getD_replicate_false] at hl;cases hl),λt _ ht=>getD_in (by simpa using ht) (getD_replicate_false _ _)⟩
 have H:=qd7 (md:=.any) hsel hs hc hn (l.take n) 0 _ a (λj hj=>by
  have hj':j<n:=by rw [htl] at hj;exact hj
  simp [hj']) (by simpa using htl) inv0 (by rw [htl];exact hlex) h
 have:=q9k (Q':=Q) (g:=(l.toArray.size-(n+1))+1) (λlisted a' w' hw' hL=>by
  obtain ⟨⟨hr,hf⟩,hq⟩:=hL;have hq:=hq w' hw';refine ⟨λh0=>(by rw [hr] at h0;cases h0),λi hi=>?_⟩
  obtain rfl:i=n:=by rw [hr] at hi;simpa using hi
  have ho:l.toArray[i]? = some l[i]:=by simp [hn']
  have hone:(l.drop i).take 1=[l[i]]:=by rw [List.drop_eq_getElem_cons hn'];rfl
  have fin:∀ a2 w2,wpQuiet P l.toArray (λx=>x=w2) (λa3=>Q .normal a3 w2) (l.drop (i+1)) a2→wpAny P .any l.toArray Q (l.toArray.size-(i+1)) (listed.setIfInBounds i true) a2 w2:=by
   intro a2 w2 hq2;have hd:(l.drop (i+1)).length=l.toArray.size-(i+1):=by simp
   have h4:=wpAnyQ_lex (C:=λx=>x=w2) (md:=.any) hsel (l.drop (i+1)) (i+1) (listed.setIfInBounds i true) a2 (λj=>by simp [Qp]) (by rw [hd];exact hf) hq2
   rw [hd] at h4;exact wpAny_of_quiet (C:=λx=>x=w2) (Q:=λa3=>Q .normal a3 w2) (λa3 w3 hw3 h5=>by rw [hw3];exact h5) _ _ _ _ rfl h4
  rw [hone] at hq;unfold wpList at hq;unfold wpOp;simp only [ho];split
  ·rename_i hw
   rw [if_pos hw] at hq;rcases hq with hq | ⟨hq,a5,w5,ho5⟩
   ·exact .inl (Oper.wp_mono (λa2 w2 h2=>fin a2 w2 h2) (upon_then hq))
   ·exact .inr ⟨hq,a5,w5,ho5⟩
  ·rename_i hw
   rw [if_neg hw] at hq;exact fin _ _ hq) _ _ _ _ hC H
 rw [htl,show n+((l.toArray.size-(n+1))+1)=l.toArray.size by omega] at this
 exact this
theorem qft {id:Nat} {Q:Exit→Act→World→Prop} {a:Act} {w:World} {l:List Oper} (n:Nat) (hm:P.follows .mixedOrders=true) (hB:q6j .any l.toArray n=true) (hC:C { w with drawn:=w.drawn+1 })
  (h:wpQuiet P l.toArray C (λa'=>∀ w',C w'→wpList P l.toArray (Exit.then (λa2 w2=>wpQuiet P l.toArray (λx=>x=w2) (λa3=>Q .normal a3 w2) (l.drop (n+1)) a2) Q) ((l.drop n).take 1) a' w') (l.take n) a) :
  (Code.region id l.toArray true).wp P Q a w :=
 wp_region_any hm (qfh n hB hC h)
end
theorem app_bs (a b:ByteArray):a++b=bs (a.data.toList++b.data.toList):=by
 obtain ⟨⟨x⟩⟩:=a;obtain ⟨⟨y⟩⟩:=b;apply ByteArray.ext;rw [ByteArray.data_append];simp [bs]
theorem wrap64_nat (k:Nat) (h:k≤9223372036854775807):wrap64 (k:Int)=k:=Qj _ ⟨by omega,by omega⟩
theorem wrap64_add (a b:Nat) (h:a+b≤9223372036854775807):wrap64 ((a:Int)+(b:Int))=(a:Int)+(b:Int):=Qj _ ⟨by omega,by omega⟩
theorem wrap64_succ (a:Nat) (h:a+1≤9223372036854775807):wrap64 ((a:Int)+1)=(a:Int)+1:=Qj _ ⟨by omega,by omega⟩
structure Later (w:World) where
 val:World
 bel:Below w.heap.size w val
instance Later.nonempty (w:World):Nonempty (Later w):=⟨⟨w,Below.refl _ _⟩⟩
section
variable {w:World}
theorem Later.cell (x:Later w) (b o:Nat) (h:b<w.heap.size):x.val.cell? ⟨b,o,none⟩=w.cell? ⟨b,o,none⟩:=x.bel.cell (p:=⟨b,o,none⟩) h
theorem Later.frozen (x:Later w) (b o:Nat) (h:b<w.heap.size):x.val.frozen? ⟨b,o,none⟩=w.frozen? ⟨b,o,none⟩:=x.bel.frozen (p:=⟨b,o,none⟩) h
theorem q99 {P:Program} {id:Nat} {Q:Exit→Act→World→Prop} {a:Act} {l:List Oper} (n:Nat) (hm:P.follows .mixedOrders=true) (hB:q6j .any l.toArray n=true)
  (h:wpQuiet P l.toArray (λw'=>∃ x:Later w,w'=x.val) (λa'=>∀ w',(∃ x:Later w,w'=x.val) →
   wpList P l.toArray (Exit.then (λa2 w2=>wpQuiet P l.toArray (λx=>x=w2) (λa3=>Q .normal a3 w2) (l.drop (n+1)) a2) Q) ((l.drop n).take 1) a' w') (l.take n) a):(Code.region id l.toArray true).wp P Q a w :=
 qft (C:=λw'=>∃ x:Later w,w'=x.val) n hm hB ⟨⟨w.drew,(q03 w).drew⟩,rfl⟩ h
end
namespace R
@[reducible] def Pays:List CK→Type
 | []=>Unit
 | [x]=>x.Pay
 | x::y::r=>x.Pay×Pays (y::r)
def q0u:(l:List CK)→Pays l→List Comp
 | [],_=>[]
 | [x],p=>[x.comp p]
 | x::y::r,p=>x.comp p.1::q0u (y::r) p.2
def q1r:(l:List CK)→List AV→Option (Pays l)
 | [],[]=>some ()
 | [x],[.c y]=>q25 x y
 | x::y::r,.c z::zs=>match q25 x z,q1r (y::r) zs with
  | some p,some q=>some (p,q)
  | _,_=>none
 | _,_=>none
structure Con where
 f:FuncId
 args:List CK
 res:List CK
 pre:Pays args→Prop
 post:Pays args→Pays res→Prop
 fn:Option (Pays args→Pays res):=none
 lend:Bool:=false
def Con.of (f:FuncId) (args res:List CK) (pre:Pays args→Prop) (F:Pays args→Pays res):Con:={ f:=f,args:=args,res:=res,pre:=pre,post:=λp r=>r=F p,fn:=some F }
def Kd.flat:Kd→Bool
 | .sl _=>false
 | _=>true
def CK.flat:CK→Bool
 | .one k=>k.flat
 | .agg _=>false
def Kds.flat:Kds→Bool
 | .one k=>k.flat
 | .cons k ks=>k.flat&&ks.flat
def CK.qa8:CK→Bool
 | .one k=>k.flat
 | .agg ks=>ks.flat
def q1s (l:List CK) (r:Pays l):AV :=
 match q0u l r with
 | [x]=>.c x
 | xs=>.tup xs
def q8r (f:FuncId):List Con→Option Con
 | []=>none
 | c::r=>bif c.f.beq f then some c else q8r f r
def Cell.forget (b:Nat):Cell→Cell
 | .ptr b' off=>bif b'.beq b then .any else .ptr b' off
 | .clo f k ps=>bif ps.any (λp=>p.1.beq b) then .any else .clo f k ps
 | .fsl cls=>bif cls.any (λcl=>cl.2.2.any λp=>p.1.beq b) then .any else .fsl cls
 | .fel cls n=>bif cls.any (λcl=>cl.2.2.any λp=>p.1.beq b) then .any else .fel cls n
 | c=>c
def Comp.forget (b:Nat):Comp→Comp
 | .one c=>.one (c.forget b)
 | .agg cs=>.agg (cs.map (Cell.forget b))
def AV.forget (b:Nat):AV→AV
 | .c x=>.c (x.forget b)
 | .tup xs=>.tup (xs.map (Comp.forget b))
def q7c (b:Nat):List (Nat×List Cell)→List (Nat×List Cell)
 | []=>[]
 | (b',cs)::r=>bif b'.beq b then q7c b r else (b',cs.map (Cell.forget b))::q7c b r
def St.q8o (st:St) (d i:Nat) (cs:List Cell):St :=
 {st with env:=(d,.c (.one (.ptr i 0)))::st.env.map (λ(t,v)=>(t,v.forget i)),boxes:=(i,cs.map (Cell.forget i))::q7c i st.boxes,sav:=st.sav.map (λ(t,v)=>(t,v.forget i)),lps:=st.lps.map (Lp.mapA (AV.forget i)) }
def St.q7n (st:St) (b:Nat) (cs:List Cell):St:={ st with boxes:=(b,cs)::st.boxes }
def Cell.qbi (r:Nat):Cell→Cell
 | .own r'=>bif r'.beq r then .any else .own r'
 | .rp r' sz i f=>bif r'.beq r then .any else .rp r' sz i f
 | .sfx r' sz i=>bif r'.beq r then .any else .sfx r' sz i
 | c=>c
def Cell.thaw (r:Nat) (x:Row):Cell→Cell
 | .own r'=>bif r'.beq r then .val (.sl x.fs) x.xs else .own r'
 | .rp r' sz i f=>bif r'.beq r then .any else .rp r' sz i f
 | .sfx r' sz i=>bif r'.beq r then .any else .sfx r' sz i
 | c=>c
def Comp.mapC (g:Cell→Cell):Comp→Comp
 | .one c=>.one (g c)
 | .agg cs=>.agg (cs.map g)
def AV.mapC (g:Cell→Cell):AV→AV
 | .c x=>.c (x.mapC g)
 | .tup xs=>.tup (xs.map (Comp.mapC g))
def q1q {α:Type} (r:Nat):List (Nat×α)→List (Nat×α)
 | []=>[]
 | (k,v)::l=>bif k.beq r then q1q r l else (k,v)::q1q r l
def St.mapC (st:St) (g:Cell→Cell):St:={ st with env:=st.env.map (λ(t,v)=>(t,v.mapC g)),boxes:=st.boxes.map (λ(b,cs)=>(b,cs.map g)),sav:=st.sav.map (λ(t,v)=>(t,v.mapC g)),lps:=st.lps.map (Lp.mapA (AV.mapC g)) }
def Cell.q4m (m:Nat):Cell→Cell
 | .mref m'=>bif m'.beq m then .any else .mref m'
 | .kseq f (.map m')=>bif m'.beq m then .any else .kseq f (.map m')
 | c=>c
def Cell.q8b:Cell→Cell
 | .iref _ _=>.any
 | .kseq _ (.inner _ _)=>.any
 | c=>c
def Cell.qj9:Cell→Cell
 | .nref=>.any
 | c=>c.q8b
def Cell.qe4 (i:Nat):Cell→Cell
 | .iter j=>bif j.beq i then .any else .iter j
 | c=>c
def St.qdw (st:St) (m:Nat) (y:MRow):St:={ st.mapC (Cell.q4m m) with maps:=(m,y)::q1q m st.maps,iters:=[] }
def St.qdq (st:St) (m:Nat) (y:MRow):St:={ st with maps:=(m,y)::q1q m st.maps,iters:=[] }
def St.qhj (st:St) (y:NRow):St:={ st.mapC Cell.qj9 with nest:=some y,iters:=[] }
def St.qhb (st:St) (m:Nat) (y:NRow):St:={ st.mapC (λc=>(c.q4m m).q8b) with nest:=some y,maps:=q1q m st.maps,iters:=[] }
def St.setNest (st:St) (y:NRow):St:={ st with nest:=some y }
def Cell.dropFam:Cell→Cell
 | .fref=>.any
 | .fstamp=>.any
 | .fent _ _=>.any
 | .fp _ _ _ _ _=>.any
 | .fnew=>.any
 | c=>c
def Cell.qhc:Cell→Cell
 | .fent _ _=>.any
 | .fp _ _ _ _ _=>.any
 | .fnew=>.any
 | c=>c
def Cell.qdn:Cell→Cell
 | .fnew=>.any
 | c=>c
def Cell.qcp:Cell→Cell
 | .fstamp=>.any
 | c=>c
def St.newFam (st:St) (y:FRow):St:={ st.mapC Cell.dropFam with fam:=some y,iters:=[] }
def St.qbk (st:St) (y:FRow) (k:y.kk.Pay) (l:List y.fs.Pay):St:={ st.mapC Cell.qdn with fam:=some { y with pend:=some (k,l) } }
def St.q88 (st:St) (y:FRow) (k:y.kk.Pay) (l:List y.fs.Pay):St:={ st.mapC Cell.qhc with fam:=some { y with xs:=Mp.put y.kk.eqB k l y.xs,pend:=none,mark:=none },iters:=[] }
def St.entFam (st:St) (y:FRow) (k:y.kk.Pay):St:={ st.mapC Cell.qcp with fam:=some { y with xs:=Mp.put y.kk.eqB k ((y.at_ k).getD []) y.xs,mark:=some k },iters:=[] }
def St.qdy (st:St) (i:Nat) (z:ItP):St:={ st.mapC (Cell.qe4 i) with iters:=(i,z)::q1q i st.iters }
def St.setIter (st:St) (i:Nat) (z:ItP):St:={ st with iters:=(i,z)::q1q i st.iters }
def itOf (st:St):Cell→Option ItP
 | .mref m=>match st.map m with
  | some y=>some ⟨.map m,y.kk,y.vk,y.xs,none⟩
  | none=>none
 | .iref kk k=>match st.nest with
  | some y=>match kk.deq y.kk with
   | some ⟨h⟩=>some ⟨.inner y.kk (h▸k),y.ik,y.iv,(y.at_ (h▸k)).getD [],none⟩
   | none=>none
  | none=>none
 | .nilm=>some ⟨.none,.one .bool,.one .bool,[],none⟩
 | _=>none
def q9c (kk:CK) (k:kk.Pay):List (Nat×ItP)→Prop
 | []=>True
 | (_,z)::r=>(match z.src with
  | .inner kk' k'=>match kk'.deq kk with
   | some ⟨h⟩=>¬ (h▸k')=k
   | none=>False
  | .none=>True
  | .map _=>False)∧q9c kk k r
def q4x {a b c d:CK} (h:a=c) (h':b=d) (xs:List (a.Pay×b.Pay)):List (c.Pay×d.Pay):=h'▸h▸xs
def St.setRow (st:St) (r:Nat) (x:Row):St:={ st.mapC (Cell.qbi r) with rows:=(r,x)::q1q r st.rows }
def St.freeze (st:St) (r:Nat):St :=
 match st.row r with
 | some x=>{ st.mapC (Cell.thaw r x) with rows:=q1q r st.rows }
 | none=>st
def ownsC:List Cell→List Nat
 | []=>[]
 | .own r::l=>r::ownsC l
 | _::l=>ownsC l
def q1k:List AV→List Nat
 | []=>[]
 | .c (.one c)::l=>ownsC [c]++q1k l
 | .c (.agg cs)::l=>ownsC cs++q1k l
 | _::l=>q1k l
def St.q08 (st:St):List Nat→St
 | []=>st
 | r::l=>(st.freeze r).q08 l
def keysOf {α:Type}:List (Nat×α)→List Nat
 | []=>[]
 | (k,_)::l=>k::keysOf l
def q77 (P:Program) (e:TypeId):Option (Nat×Nat) :=
 match P.info? e with
 | some i=>match i.zero with
  | some z=>bif z.cells.size.beq i.size&&Q3 0 i.size&&Q3 0 i.bytes&&z.cells.toList.all (·.oneCell') then some (i.size,i.bytes) else none
  | none=>none
 | none=>none
def Kds.app:Kds→Kds→Kds
 | .one k,l=>.cons k l
 | .cons k ks,l=>.cons k (ks.app l)
mutual
def kdOf (P:Program):Nat→TypeId→Option Kd
 | 0,_=>none
 | n+1,t=>match P.underlying t with
  | some (.int k)=>some (.int k)
  | some .bool=>some .bool
  | some .string=>some .str
  | some (.slice e)=>(q8l P n e).map .sl
  | _=>none
def q8l (P:Program):Nat→TypeId→Option Kds
 | 0,_=>none
 | n+1,t=>match P.underlying t with
  | some (.struct fs)=>kdsAll P n (fs.toList.map (·.type))
  | some (.array len e)=>kdsAll P n (Qc len e)
  | _=>(kdOf P n t).map .one
def kdsAll (P:Program):Nat→List TypeId→Option Kds
 | 0,_=>none
 | n+1,[]=>none
 | n+1,[t]=>q8l P n t
 | n+1,t::l=>match q8l P n t,kdsAll P n l with
  | some k,some ks=>some (k.app ks)
  | _,_=>none
end
def ckOf (P:Program) (t:TypeId):Option CK :=
 match P.underlying t with
 | some (.struct _)=>(q8l P 20 t).map .agg
 | some (.array _ _)=>(q8l P 20 t).map .agg
 | _=>(kdOf P 20 t).map .one
def qbu (fs:Kds):Nat→List Cell→Option (List fs.Pay)
 | 0,[]=>some []
 | 0,_::_=>none
 | n+1,l=>match q1e fs (l.take fs.size),qbu fs n (l.drop fs.size) with
  | some x,some xs=>some (x::xs)
  | _,_=>none
def srcOf (st:St) (e:TypeId):AV→Option Row
 | .c (.one (.own r))=>st.row r
 | .c (.one (.val (.sl fs) xs))=>some ⟨e,fs,xs⟩
 | _=>none
def isOwn (r:Nat):AV→Bool
 | .c (.one (.own r'))=>r'.beq r
 | _=>false
def q4n {a b:Kds} (h:a=b) (xs:List a.Pay):List b.Pay:=h▸xs
def q0a (st:St):Option Nat→Bool
 | some d=>Q3 d st.n
 | none=>true
def evs (st:St):List Operand→List AV
 | []=>[]
 | x::r=>st.ev x::evs st r
def Kds.q8t:(fs:Kds)→fs.Pay→Nat→Cell→Option fs.Pay
 | .one k,_,0,c=>q3c k c
 | .one _,_,_+1,_=>none
 | .cons k _,p,0,c=>match q3c k c with
  | some x=>some (x,p.2)
  | none=>none
 | .cons _ ks,p,n+1,c=>match ks.q8t p.2 n c with
  | some y=>some (p.1,y)
  | none=>none
def Kds.q9f (fs:Kds):fs.Pay→Nat→List Cell→Option fs.Pay
 | p,_,[]=>some p
 | p,f,c::r=>match fs.q8t p f c with
  | some q=>fs.q9f q (f+1) r
  | none=>none
def q4u (st:St):List (Nat×Operand)→List AV
 | []=>[]
 | (_,x)::r=>st.ev x::q4u st r
def St.putRow (st:St) (r:Nat) (x:Row):St:={ st with rows:=(r,x)::q1q r st.rows }
def freeOp:Op→Bool
 | .move _ | .assign _ | .pick _ _ _ | .load _ _ | .nilCheck _ | .fieldAddr _ _ _ | .field _ _ _ | .convert _ _ _ | .extract _ _ | .build _ _ | .makeFunc _ _ _ | .lookup _ _ _ _ | .entry _ | .makeInterface _ _=>true
 | .unOp .not _ _=>true
 | .binOp op _ _ _ _=>match op with
  | .eql | .neq | .lss | .leq | .gtr | .geq=>true
  | _=>false
 | .call { callee:=.builtin .len,.. }=>true
 | _=>false
def asks (op:Op) (c k:Prop):Prop:=bif freeOp op then k else c∧k
def vcall (c:Con) (xs:List AV) (o:Oper) (st:St) (args:Array Operand) (K:St→Prop):Prop :=
 match q1r c.args (evs (st.q08 (q1k xs)) args.toList) with
 | some p=>bif q0a st o.dst then c.pre p∧(bif c.lend&&c.res.all CK.qa8 then (match c.fn with
   | some F=>K (st.put o.dst (q1s c.res (F p)))
   | none=>∀ r,c.post p r→K (st.put o.dst (q1s c.res r))) else (match c.fn with
   | some F=>K ((st.q08 (q1k xs)).put o.dst (q1s c.res (F p)))
   | none=>∀ r,c.post p r→K ((st.q08 (q1k xs)).put o.dst (q1s c.res r)))) else False
 | none=>False
def vput (P:Program) (st:St) (t:TypeId) (m k:AV) (v:Operand) (d:Option Nat) (K:St→Prop):Prop :=
 match P.underlying t,m,k,(st.q08 (q1k [st.ev v])).ev v with
 | some (.map kt _),.c (.one (.mref i)),.c kc,.c vc=>match (st.q08 (q1k [st.ev v])).map i with
  | some y=>match q25 y.kk kc,q25 y.vk vc with
   | some kp,some vp=>bif y.t.beq t&&q26 P kt y.kk&&q0a st d then K (((st.q08 (q1k [st.ev v])).qdq i ⟨y.t,y.kk,y.vk,Mp.put y.kk.eqB kp vp y.xs⟩).put d (.c (.one .undef))) else False
   | _,_=>False
  | none=>False
 | _,_,_,_=>False
def vputN (P:Program) (st:St) (t:TypeId) (k v:Operand) (d:Option Nat) (K:St→Prop):Prop :=
 match P.underlying t,st.nest,st.ev k,st.ev v with
 | some (.map kt _),some y,.c kc,.c (.one (.mref m))=>match q25 y.kk kc,st.map m with
  | some kp,some z=>match z.kk.deq y.ik,z.vk.deq y.iv with
   | some ⟨h1⟩,some ⟨h2⟩=>bif y.t.beq t&&(z.t.beq y.it&&(q26 P kt y.kk&&q0a st d)) then
     (y.at_ kp).isSome=false∧K ((st.qhb m ⟨y.t,y.kk,y.it,y.ik,y.iv,y.xs++[(kp,q4x h1 h2 z.xs)]⟩).put d (.c (.one .undef)))
    else False
   | _,_=>False
  | _,_=>False
 | _,_,_,_=>False
def vputI (P:Program) (st:St) (t:TypeId) (kk:CK) (q:kk.Pay) (k v:Operand) (d:Option Nat) (K:St→Prop):Prop :=
 match P.underlying t,st.nest,st.ev k,st.ev v with
 | some (.map kt _),some y,.c kc,.c vc=>match kk.deq y.kk,q25 y.ik kc,q25 y.iv vc with
  | some ⟨h⟩,some kp,some vp=>bif y.it.beq t&&(q26 P kt y.ik&&(y.kk.plain&&q0a st d)) then
    ((y.at_ (h▸q)).isSome=true∧q9c y.kk (h▸q) st.iters) ∧
     K ((st.setNest ⟨y.t,y.kk,y.it,y.ik,y.iv,Mp.put y.kk.eqB (h▸q) (Mp.put y.ik.eqB kp vp ((y.at_ (h▸q)).getD [])) y.xs⟩).put d (.c (.one .undef)))
   else False
  | _,_,_=>False
 | _,_,_,_=>False
def vputF (P:Program) (st:St) (t:TypeId) (k v:Operand) (d:Option Nat) (K:St→Prop):Prop :=
 match P.underlying t,st.fam,st.ev k,st.ev v with
 | some (.map kt _),some y,.c kc,.c (.one .fnew)=>match q25 y.kk kc,y.pend with
  | some kp,some (k0,l)=>bif y.t.beq t&&(q26 P kt y.kk&&q0a st d) then kp=k0∧K ((st.q88 y k0 l).put d (.c (.one .undef))) else False
  | _,_=>False
 | _,_,_,_=>False
def vputX (P:Program) (st:St) (t:TypeId) (m k v:Operand) (d:Option Nat) (K:St→Prop):Prop :=
 match st.ev m with
 | .c (.one .nref)=>vputN P st t k v d K
 | .c (.one (.iref kk q))=>vputI P st t kk q k v d K
 | .c (.one .fref)=>vputF P st t k v d K
 | _=>vput P st t (st.ev m) (st.ev k) v d K
def ventry (P:Program) (st:St) (t:TypeId) (m k:Operand) (d:Option Nat) (K:St→Prop):Prop :=
 match P.underlying t,st.fam,st.ev m,st.ev k,d with
 | some (.map kt et),some y,.c (.one .fref),.c kc,some d=>match q25 y.kk kc with
  | some k=>bif y.t.beq t&&(q26 P kt y.kk&&(q5g P et&&(y.pend.isNone&&Q3 d st.n))) then K ((st.entFam y k).set d (.tup [.one (.fent y.kk k),.one .fstamp])) else False
  | none=>False
 | _,_,_,_,_=>False
def vstamp (P:Program) (st:St) (t:TypeId) (m s v:Operand) (d:Option Nat) (K:St→Prop):Prop :=
 match P.underlying t,st.fam,st.ev m,st.ev s,st.ev v with
 | some (.map kt _),some y,.c (.one .fref),.c (.one .fstamp),.c (.one .fnew)=>match y.mark,y.pend with
  | some kp,some (k0,l)=>bif y.t.beq t&&(q26 P kt y.kk&&q0a st d) then kp=k0∧K ((st.q88 y k0 l).put d (.c (.one .undef))) else False
  | _,_=>False
 | _,_,_,_,_=>False
def vnext (st:St) (x:AV) (d:Option Nat) (K:St→Prop):Prop :=
 match x with
 | .c (.one (.iter i))=>match st.iter i with
  | some z=>bif q0a st d then
    (z.left=[]→K (st.put d (.tup [.one (.val .bool false)]))) ∧
    ∀ (j:Nat) e,z.left[j]? = some e→K ((st.setIter i ⟨z.src,z.kk,z.vk,z.left.eraseIdx j,some e⟩).put d (.tup [.one (.val .bool true),z.kk.comp e.1,z.vk.comp e.2]))
   else False
  | none=>False
 | _=>False
def vmake (P:Program) (st:St) (t kt et:TypeId) (d:Nat) (K:St→Prop):Prop :=
 match ckOf P kt,ckOf P et with
 | some kk,some vk=>bif Q3 d st.n then K ((st.qdw (st.off+d) ⟨t,kk,vk,[]⟩).set d (.c (.one (.mref (st.off+d))))) else False
 | _,_=>False
def famOk (P:Program) (st:St) (e:TypeId):Bool:=(q7g P e==some true)&&(st.fam.isNone&&st.nest.isNone)
def vmakeF (P:Program) (st:St) (t kt et e:TypeId) (d:Nat) (K:St→Prop):Prop :=
 bif famOk P st e then (match ckOf P kt,q8l P 20 e,q15 P e with
  | some kk,some fs,some n=>bif n.beq fs.size&&Q3 d st.n then K ((st.newFam { t:=t,kk:=kk,e:=e,fs:=fs,xs:=[] }).set d (.c (.one .fref))) else False
  | _,_,_=>False)
 else vmake P st t kt et d K
def eqN:Nat→Nat→Bool
 | 0,0=>true
 | a+1,b+1=>Nat.beq a b
 | _,_=>false
theorem eqN_eq (a b:Nat) (h:eqN a b=true):a=b:=by
 cases a with
 | zero=>cases b with
  | zero=>rfl
  | succ b=>cases h
 | succ a=>cases b with
  | zero=>cases h
  | succ b=>exact congrArg Nat.succ (Nat.eq_of_beq_eq_true h)
def vop (P:Program) (cons:List Con) (o:Oper) (st:St) (K:St→Prop):Prop :=
 match o.op with
 | .alloc e=>match o.dst,zeroCells P e with
  | some d,some cs=>bif Q3 d st.n then K (st.q8o d (st.off+d) cs) else False
  | _,_=>False
 | .box _ x=>match o.dst,q5b (st.ev x) with
  | some d,some cs=>bif Q3 d st.n then K (st.q8o d (st.off+d) cs) else False
  | _,_=>False
 | .makeMap t none=>match P.underlying t,o.dst with
  | some (.map kt et),some d=>match P.underlying et with
   | some (.map kt2 et2)=>match st.nest,ckOf P kt,ckOf P kt2,ckOf P et2 with
    | none,some kk,some ik,some iv=>bif Q3 d st.n&&st.fam.isNone then K ((st.qhj ⟨t,kk,et,ik,iv,[]⟩).set d (.c (.one .nref))) else False
    | _,_,_,_=>False
   | some (.slice e)=>vmakeF P st t kt et e d K
   | _=>vmake P st t kt et d K
  | _,_=>False
 | .mapUpdate t m k v=>vputX P st t m k v o.dst K
 | .mapEntry t m k=>ventry P st t m k o.dst K
 | .entryStore t m s v=>vstamp P st t m s v o.dst K
 | .insert t m k v=>vputX P st t m k v o.dst K
 | .range t x=>match P.underlying t,o.dst,st.ev x with
  | some (.map _ _),some d,.c (.one c)=>match itOf st c with
   | some z=>bif Q3 d st.n then K ((st.qdy (st.off+d) z).set d (.c (.one (.iter (st.off+d))))) else False
   | none=>False
  | _,_,_=>False
 | .next x false=>vnext st (st.ev x) o.dst K
 | .store t x y=>match st.ev x,cellsIn st y,q15 P t with
  | .c (.one (.ptr b off)),some cs,some n=>bif n.beq cs.length&&q0a st o.dst then
    match st.box b with
    | some bs=>match setCells bs off cs with
     | some bs'=>K ((st.q7n b bs').put o.dst (.c (.one .undef)))
     | none=>False
    | none=>False
   else False
  | .c (.one (.rp r sz i f)),some _,some n=>match q5b ((st.q08 (q1k [st.ev y])).ev y),(st.q08 (q1k [st.ev y])).row r with
   | some cs,some z=>bif n.beq cs.length&&q0a st o.dst&&sz.beq z.fs.size then
     match z.fs.q9f (z.xs.getD i z.fs.dflt) f cs with
     | some x'=>match (st.q08 (q1k [st.ev y])).ev x with
      | .c (.one (.rp r2 sz2 i2 f2))=>bif eqN r2 r&&(eqN sz2 sz&&(eqN f2 f&&i2.beq i)) then
        K (((st.q08 (q1k [st.ev y])).putRow r ⟨z.e,z.fs,z.xs.set i x'⟩).put o.dst (.c (.one .undef)))
       else False
      | _=>False
     | none=>False
    else False
   | _,_=>False
  | _,_,_=>False
 | .call { callee:=.value (.func f),args,argTypes }=>match q8r f cons with
  | some c=>vcall c (evs st args.toList) o st args K
  | none=>False
 | .call { callee:=.builtin .append,args,argTypes }=>match args.toList,argTypes.toList,o.dst with
  | [s,x],[t,t'],some d=>match P.underlying t,srcOf st 0 (st.ev x) with
   | some (.slice e),some z=>match q77 P e with
    | some (size,bytes)=>match st.ev s with
     | .c (.one (.own r))=>match st.row r with
      | some y=>match z.fs.deq y.fs with
       | some ⟨h⟩=>bif t'.beq t&&y.e.beq e&&y.fs.size.beq size&&Q3 d st.n&&!isOwn r (st.ev x) then
         (y.xs.length+z.xs.length)*bytes≤140737488355328∧K ((st.setRow r ⟨e,y.fs,y.xs++q4n h z.xs⟩).set d (.c (.one (.own r))))
        else False
       | none=>False
      | none=>False
     | .c (.one .nil)=>bif t'.beq t&&z.fs.size.beq size&&Q3 d st.n then
       z.xs.length*bytes≤140737488355328∧K ((st.setRow (st.off+d) ⟨e,z.fs,z.xs⟩).set d (.c (.one (.own (st.off+d)))))
      else False
     | .c (.one (.fent kk k))=>match st.fam with
      | some y=>match kk.deq y.kk,z.fs.deq y.fs with
       | some ⟨h⟩,some ⟨h'⟩=>bif t'.beq t&&(y.e.beq e&&(y.fs.size.beq size&&(Q3 d st.n&&(y.pend.isNone&&y.kk.plain)))) then
         (((y.at_ (h▸k)).getD []).length+z.xs.length)*bytes≤140737488355328∧K ((st.qbk y (h▸k) ((y.at_ (h▸k)).getD []++q4n h' z.xs)).set d (.c (.one .fnew)))
        else False
       | _,_=>False
      | none=>False
     | _=>False
    | none=>False
   | _,_=>False
  | _,_,_=>False
 | .buildSlice t len parts=>match P.underlying t,o.dst with
  | some (.slice e),some d=>match q77 P e,q8l P 20 e with
   | some (size,_),some fs=>match q53 (st.q08 (q1k (q4u st parts.toList))) ((Q9 len).map λi=>(i*size,size)) (Qc (len*size) .any) parts.toList with
    | some l=>match qbu fs len l with
     | some xs=>bif fs.size.beq size&&Q3 d (st.q08 (q1k (q4u st parts.toList))).n&&Qq (len*size) 16777216 then K (((st.q08 (q1k (q4u st parts.toList))).setRow (st.off+d) ⟨e,fs,xs⟩).set d (.c (.one (.own (st.off+d))))) else False
     | none=>False
    | none=>False
   | _,_=>False
  | _,_=>False
 | .makeSlice t x y=>match P.underlying t,o.dst,st.ev x,st.ev y with
  | some (.slice e),some d,.c (.one (.val (.int _) n)),.c (.one (.val (.int _) m))=>match q77 P e,q8l P 20 e,zeroCells P e with
   | some (size,bytes),some fs,some zc=>match q1e fs zc with
    | some z=>bif fs.size.beq size&&Q3 d st.n then
      (0≤n∧n=m∧n*(bytes:Int)≤140737488355328)∧K ((st.setRow (st.off+d) ⟨e,fs,Qc n.toNat z⟩).set d (.c (.one (.own (st.off+d)))))
     else False
    | none=>False
   | _,_,_=>False
  | _,_,_,_=>False
 | op=>match rop P st op with
  | .ok c v=>bif q0a st o.dst then asks o.op c (K (st.put o.dst v)) else False
  | .no=>False
abbrev Inl:Type:=FuncId→List Comp→Nat→St→(List Comp→St→Prop)→(Cell→St→Prop)→Prop
def noInl:Inl:=λ_ _ _ _ _ _=>False
def q5n:List AV→Option (List Comp)
 | []=>some []
 | .c x::r=>(q5n r).map (x::·)
 | .tup _::_=>none
def q8i (ps:List (Nat×Nat)):List Comp:=ps.map λp=>.one (.ptr p.1 p.2)
def retAV:List Comp→AV
 | [x]=>.c x
 | xs=>.tup xs
def vin (H:Inl) (KP:Cell→St→Prop) (f:FuncId) (ahead behind:List (Nat×Nat)) (o:Oper) (st:St) (args:List Operand) (K:St→Prop):Prop :=
 match q5n (evs st args) with
 | some xs=>bif q0a st o.dst then H f (q8i ahead++xs++q8i behind) ((st.off+o.dst.getD f+1)*1000) st (λrs st'=>K (st'.put o.dst (retAV rs))) KP else False
 | none=>False
def vinB (H:Inl) (KP:Cell→St→Prop) (f:FuncId) (x:Comp) (o:Oper) (st:St) (args:List Operand) (K:St→Prop):Prop :=
 match q5n (evs st args) with
 | some xs=>bif q0a st o.dst then H f (x::xs) ((st.off+o.dst.getD f+1)*1000) st (λrs st'=>K (st'.put o.dst (retAV rs))) KP else False
 | none=>False
def allP:List Nat→(Nat→Prop)→Prop
 | [],_=>True
 | [i],p=>p i
 | i::r,p=>p i∧allP r p
def qb8:List Cell→Option (List (FuncId×Nat×List (Nat×Nat)))
 | []=>some []
 | .clo f k ps::r=>match qb8 r with
  | some l=>some ((f,k,ps)::l)
  | none=>none
 | _::_=>none
def vfsl (P:Program) (e:TypeId) (len:Nat) (parts:Array (Nat×Operand)) (o:Oper) (st:St) (K:St→Prop):Prop :=
 match q77 P e,o.dst with
 | some (size,_),some d=>match q53 st ((Q9 len).map λi=>(i*size,size)) (Qc (len*size) .any) parts.toList with
  | some l=>match qb8 l with
   | some cls=>bif size.beq 1&&(cls.length.beq len&&(Q3 d st.n&&Qq (len*size) 16777216)) then K (st.set d (.c (.one (.fsl cls)))) else False
   | none=>False
  | none=>False
 | _,_=>False
def vfel (P:Program) (t:TypeId) (cls:List (FuncId×Nat×List (Nat×Nat))) (n:Int) (o:Oper) (st:St) (K:St→Prop):Prop :=
 bif (q7g P t==some false)&&q0a st o.dst then allP (Q9 cls.length) λi=>match cls[i]? with
  | some cl=>n=(i:Int)→K (st.put o.dst (.c (.one (.clo cl.1 cl.2.1 cl.2.2))))
  | none=>True
 else False
def vcut (P:Program) (t:TypeId) (r:Nat) (lo hi:Option Operand) (o:Oper) (st:St) (K:St→Prop):Prop :=
 match P.underlying t,st.row r,o.dst with
 | some (.slice e),some y,some d=>bif y.e.beq e&&((q15 P e==some y.fs.size)&&Q3 d st.n) then
   (match lo,hi with
   | some _,none=>match lowOf st lo with
    | some l=>(0≤l∧l<y.xs.length)∧K (st.set d (.c (.one (.sfx r y.fs.size l.toNat))))
    | none=>False
   | none,some _=>match q8n st y.xs.length hi with
    | some h=>(0≤h∧h≤y.xs.length)∧K ((st.setRow r ⟨y.e,y.fs,y.xs.take h.toNat⟩).set d (.c (.one (.own r))))
    | none=>False
   | _,_=>False) else False
 | _,_,_=>False
def vclear (P:Program) (args:List Operand) (argTypes:List TypeId) (o:Oper) (st:St) (K:St→Prop):Prop :=
 match args,argTypes,o.dst with
 | [x],[t],none=>match st.ev x,P.underlying t with
  | .c (.one (.sfx r sz i)),some (.slice e)=>match st.row r,zeroCells P e,q77 P e with
   | some y,some zc,some (size,_)=>match q1e y.fs zc with
    | some z=>bif y.e.beq e&&(sz.beq y.fs.size&&size.beq y.fs.size) then K (st.putRow r ⟨y.e,y.fs,y.xs.take i++Qc (y.xs.length-i) z⟩) else False
    | none=>False
   | _,_,_=>False
  | _,_=>False
 | _,_,_=>False
def vopI (P:Program) (cons:List Con) (H:Inl) (KP:Cell→St→Prop) (o:Oper) (st:St) (K:St→Prop):Prop :=
 match o.op with
 | .call { callee:=.value x,args,.. }=>match st.ev x with
  | .c (.one (.fn f))=>match q8r f cons,x with
   | some _,.func _=>vop P cons o st K
   | _,_=>bif Q3 f 1000000000 then vin H KP f [] [] o st args.toList K else False
  | .c (.one (.clo f k ps))=>bif Q3 f 1000000000 then vin H KP f (ps.take k) (ps.drop k) o st args.toList K else False
  | .c (.one (.bnd f x p))=>bif Q3 f 1000000000 then vinB H KP f (x.comp p) o st args.toList K else False
  | _=>False
 | .panic x=>match st.ev x with
  | .c (.one (.dyn t ks p))=>KP (.dyn t ks p) st
  | _=>False
 | .buildSlice t len parts=>match P.underlying t with
  | some (.slice e)=>match q8l P 20 e with
   | none=>vfsl P e len parts o st K
   | some _=>vop P cons o st K
  | _=>vop P cons o st K
 | .load t x=>match st.ev x with
  | .c (.one (.fel cls n))=>vfel P t cls n o st K
  | _=>vop P cons o st K
 | .slice t x lo hi none=>match st.ev x with
  | .c (.one (.own r))=>vcut P t r lo hi o st K
  | _=>vop P cons o st K
 | .call { callee:=.builtin .clear,args,argTypes }=>vclear P args.toList argTypes.toList o st K
 | _=>vop P cons o st K
def vopJ (P:Program) (cons:List Con) (H:Inl) (o:Oper) (st:St) (K:St→Prop):Prop :=
 match o.op with
 | .call { callee:=.value x,args,.. }=>match st.ev x with
  | .c (.one (.fn f))=>match q8r f cons,x with
   | some _,.func _=>vop P cons o st K
   | _,_=>bif Q3 f 1000000000 then vin H (λ_ _=>False) f [] [] o st args.toList K else False
  | .c (.one (.clo f k ps))=>bif Q3 f 1000000000 then vin H (λ_ _=>False) f (ps.take k) (ps.drop k) o st args.toList K else False
  | .c (.one (.bnd f x p))=>bif Q3 f 1000000000 then vinB H (λ_ _=>False) f (x.comp p) o st args.toList K else False
  | _=>False
 | .panic _=>False
 | _=>vop P cons o st K
def vopQ (P:Program) (cons:List Con) (o:Oper) (st:St) (K:St→Prop):Prop :=
 match o.op with
 | .call { callee:=.value (.func f),args,argTypes }=>match q8r f cons with
  | some c=>match q1r c.args (evs (st.q08 (q1k (evs st args.toList))) args.toList) with
   | some p=>bif q0a st o.dst&&c.res.all CK.flat then c.pre p∧(match c.fn with
     | some F=>K ((st.q08 (q1k (evs st args.toList))).put o.dst (q1s c.res (F p)))
     | none=>(∃ r,c.post p r∧∀ r',c.post p r'→r'=r)∧∀ r,c.post p r→K ((st.q08 (q1k (evs st args.toList))).put o.dst (q1s c.res r))) else False
   | none=>False
  | none=>False
 | op=>match rop P st op with
  | .ok c v=>bif q0a st o.dst then asks o.op c (K (st.put o.dst v)) else False
  | .no=>False
def q41 (n:Nat):List (Nat×AV)→List (Nat×AV)
 | []=>[]
 | (t,v)::r=>bif Q3 t n then (t,v)::q41 n r else q41 n r
def shiftUp (n:Nat):List (Nat×AV)→List (Nat×AV)
 | []=>[]
 | (t,v)::r=>(t+n,v)::shiftUp n r
def q6e (n:Nat):List (Nat×AV)→List (Nat×AV)
 | []=>[]
 | (t,v)::r=>bif Q3 t n then q6e n r else (t-n,v)::q6e n r
def Cell.q44 (j:Nat):Cell→Cell
 | .yld i=>bif i.beq j then .any else .yld i
 | c=>c
def memN (t:Nat):List Nat→Bool
 | []=>false
 | u::r=>bif u.beq t then true else memN t r
def q8f {α:Type}:List Nat→List (Nat×α)→List (Nat×α)
 | _,[]=>[]
 | seen,(t,v)::r=>bif memN t seen then q8f seen r else (t,v)::q8f (t::seen) r
def zipPs:List Nat→List Comp→List (Nat×AV)
 | p::ps,x::xs=>zipPs ps xs++[(p,.c x)]
 | _,_=>[]
def qhp (st:St) (L:Lp) (xs:List Comp) (off:Nat):St:={ n:=L.n,env:=zipPs L.ps xs++L.env,boxes:=st.boxes,rows:=st.rows,sav:=q41 st.n (q8f [] st.env)++shiftUp st.n st.sav,maps:=st.maps,off:=off,nest:=st.nest,iters:=st.iters,fam:=st.fam,lps:=st.lps }
def q48 (n off j:Nat) (x:Option Jmp) (st:St):St:={ n:=n,env:=q41 n st.sav,boxes:=st.boxes,rows:=st.rows,sav:=q6e n st.sav,maps:=st.maps,off:=off,nest:=st.nest,iters:=st.iters,fam:=st.fam,lps:=qa1 j false x st.lps }
def St.pushLp (st:St) (ps:List Nat):St:={ st.mapC (Cell.q44 st.off) with lps:=⟨st.off,st.n,(st.mapC (Cell.q44 st.off)).env,ps,false,none⟩::(st.mapC (Cell.q44 st.off)).lps }
def St.busyLp (st:St) (j:Nat):St:={ st with lps:=qa1 j true none st.lps }
def St.popLp (st:St) (j:Nat):St:={ st with lps:=q3p j st.lps }
structure Post where
 normal:St→Prop
 exit:Nat→St→Prop
 ret:St→Prop
 panic:Cell→St→Prop:=λ_ _=>False
def yieldOf (j:Nat) (run:St→Post→Prop) (B:Inl):Inl:=λf xs off st K KP =>
 bif f.beq (1000000000+j) then
  match q5u j st.lps with
  | some L=>match L.jump with
   | some _=>False
   | none=>bif !L.busy&&(xs.length.beq L.ps.length&&L.ps.all (Q3 · L.n)) then
     run (qhp st L xs ((j+1)*1000+700)) { normal:=λst2=>K [.one (.val .bool true)] (q48 st.n st.off j none st2),exit:=λid st2=>K [.one (.val .bool false)] (q48 st.n st.off j (some (.exit id)) st2),ret:=λst2=>K [.one (.val .bool false)] (q48 st.n st.off j (some .ret) st2) }
    else False
  | none=>False
 else B f xs off st K KP
def qha (Q:Post) (j:Nat) (st:St):Prop :=
 match q5u j st.lps with
 | some L=>bif L.busy then False else match L.jump with
  | none=>Q.normal (st.popLp j)
  | some .ret=>Q.ret (st.popLp j)
  | some (.exit id)=>Q.exit id (st.popLp j)
 | none=>False
def q9a (j:Nat) (st:St) (K:St→Prop):Prop :=
 match q5u j st.lps with
 | some L=>match L.jump with
  | none=>bif L.busy then False else K (st.busyLp j)
  | some _=>False
 | none=>False
def vopY (P:Program) (cons:List Con) (H:Inl) (KP:Cell→St→Prop) (o:Oper) (st:St) (K:St→Prop):Prop :=
 match o.op with
 | .call { callee:=.value x,args,.. }=>match st.ev x with
  | .c (.one (.yld j))=>vin H (λ_ _=>False) (1000000000+j) [] [] o st args.toList K
  | _=>vopI P cons H KP o st K
 | _=>vopI P cons H KP o st K
inductive Way where
 | run
 | skip
 | part (t:Nat) (b want:Bool)
 | no
def q2m (ops:List Oper) (st:St) (o:Oper):Way :=
 match o.guard with
 | none=>.run
 | some (j,want)=>match (ops[j]?).bind (·.dst) with
  | some t=>match st.get t with
   | .c (.one (.val .bool b))=>.part t b want
   | .c (.one .undef)=>.skip
   | _=>.no
  | none=>.no
def vgo (V:Oper→St→(St→Prop)→Prop) (o:Oper) (st:St) (w:Way) (K:St→Prop):Prop :=
 match w with
 | .run=>V o st K
 | .skip=>bif q0a st o.dst then K (st.put o.dst (.c (.one .undef))) else False
 | .part t b want=>bif q0a st o.dst then
   bif b then (bif want then V o (st.set t (bool true)) K else K ((st.set t (bool true)).put o.dst (.c (.one .undef))))
   else (bif want then K ((st.set t (bool false)).put o.dst (.c (.one .undef))) else V o (st.set t (bool false)) K)
  else False
 | .no=>False
def vops (V:Oper→St→(St→Prop)→Prop) (ops:List Oper):List Oper→St→(St→Prop)→Prop
 | [],st,K=>K st
 | o::r,st,K=>vgo V o st (q2m ops st o) λst'=>vops V ops r st' K
def scalarCall (cons:List Con):Op→Bool
 | .alloc _ | .box _ _ | .store _ _ _ | .buildSlice _ _ _ | .makeSlice _ _ _ | .makeMap _ _ | .mapUpdate _ _ _ _ | .mapEntry _ _ _ | .entryStore _ _ _ _ | .insert _ _ _ _ | .range _ _ | .next _ _=>false
 | .call { callee:=.value (.func f),.. }=>match q8r f cons with
  | some c=>c.res.all CK.flat
  | none=>false
 | .call { callee:=.builtin b,.. }=>match b with
  | .append | .copy | .delete | .clear=>false
  | _=>true
 | _=>true
def q2e (cons:List Con):List Oper→Nat
 | []=>0
 | o::r=>bif scalarCall cons o.op then q2e cons r+1 else 0
def q7p:Op→Bool
 | .store _ _ _ | .mapUpdate _ _ _ _ | .mapEntry _ _ _ | .entryStore _ _ _ _ | .insert _ _ _ _ | .next _ _=>false
 | .call { callee:=.builtin b,.. }=>match b with
  | .len=>true
  | .min=>true
  | .max=>true
  | _=>false
 | _=>true
def q8x:Op→Bool
 | .alloc _ | .box _ _ | .store _ _ _ | .buildSlice _ _ _ | .makeSlice _ _ _ | .makeMap _ _ | .mapUpdate _ _ _ _ | .mapEntry _ _ _ | .entryStore _ _ _ _ | .insert _ _ _ _ | .range _ _ | .next _ _=>false
 | .call { callee:=.builtin .len,.. }=>true
 | .call { callee:=.builtin .min,.. }=>true
 | .call { callee:=.builtin .max,.. }=>true
 | .call _=>false
 | _=>true
def qai (ops:Array Oper) (j:Nat):Bool:=match ops[j]? with
 | some o=>q7p o.op
 | none=>true
def waiters (ops:Array Oper) (i:Nat):List Nat :=
 (Q9 ops.size).foldl (λacc j=>match ops[j]? with
  | some oj=>bif oj.after.any (λe=>Qe .any e&&(e.on.beq i||acc.contains e.on)) then j::acc else acc
  | none=>acc) []
def qdj (ops:Array Oper) (listed:Array Bool) (i:Nat):Bool:=match ops[i]? with
 | some oi=>q8x oi.op&&(Qg .any ops listed i&&(Q9 ops.size).all λj=>j.beq i||(listed.getD j true||(qai ops j||(waiters ops i).contains j)))
 | none=>false
def qfv (ops:Array Oper) (listed:Array Bool):Option (Nat×Bool) :=
 match (Q0 .any ops listed).find? (qdj ops listed) with
 | some i=>some (i,true)
 | none=>match Q0 .any ops listed with
  | [k]=>some (k,false)
  | _=>none
def q8e (ops:Array Oper):Nat→Array Bool→Option (List Nat)
 | 0,listed=>match Q0 .any ops listed with
  | []=>some []
  | _=>none
 | f+1,listed=>match Q0 .any ops listed with
  | []=>some []
  | _=>match qfv ops listed with
   | some (i,_)=>match q8e ops f (listed.setIfInBounds i true) with
    | some r=>some (i::r)
    | none=>none
   | none=>none
def sched (ops:Array Oper):Option (List Nat):=bif Qa ops then q8e ops ops.size (Q7 ops.size false) else none
def q72 (o:Oper):Bool:=match o.op with
 | .buildSlice _ _ _=>true
 | .call { callee:=.builtin .append,args,.. }=>match args.toList with
  | [.tmp _,_]=>true
  | _=>false
 | _=>false
def q82 (o:Oper):Option Nat:=match o.op with
 | .call { callee:=.builtin .append,args,.. }=>match args.toList with
  | [.tmp t,_]=>some t
  | _=>none
 | _=>none
def sameDst:Option Nat→Option Nat→Bool
 | some a,some b=>a.beq b
 | _,_=>false
def q6l (ops:Array Oper) (j:Nat):Option Nat:=match ops[j]? with
 | some o=>o.dst
 | none=>none
def qf5 (ops:Array Oper) (k:Nat):Bool:=(Q9 ops.size).all λj=>j.beq k||!sameDst (q6l ops j) (q6l ops k)
def q2x (ops:Array Oper):Nat→Nat→Bool
 | 0,_=>false
 | f+1,k=>match ops[k]? with
  | some o=>q72 o&&(qf5 ops k&&(match q82 o with
   | some t=>o.after.any λe=>Qe .any e&&(sameDst (q6l ops e.on) (some t)&&q2x ops f e.on)
   | none=>true))
  | none=>false
def growN (ops:Array Oper) (j:Nat):Bool:=qai ops j||q2x ops ops.size j
def canTakeN (ops:Array Oper) (listed:Array Bool) (i:Nat):Bool:=match ops[i]? with
 | some oi=>q8x oi.op&&(Qg .any ops listed i&&(Q9 ops.size).all λj=>j.beq i||(listed.getD j true||(growN ops j||(waiters ops i).contains j)))
 | none=>false
def canTakeP (P:Program) (ops:Array Oper) (listed:Array Bool) (i:Nat):Bool:=match ops[i]? with
 | some oi=>q7m P oi.op&&Qg .any ops listed i
 | none=>false
def vany (P:Program) (V:Oper→St→(St→Prop)→Prop) (ops:List Oper):Nat→Array Bool→St→(St→Prop)→Prop
 | 0,listed,st,K=>match Q0 .any ops.toArray listed with
  | []=>K st
  | _=>False
 | f+1,listed,st,K=>match Q0 .any ops.toArray listed with
  | []=>K st
  | rs=>match rs.find? (qdj ops.toArray listed) with
   | some i=>match ops.toArray[i]? with
    | some o=>vgo V o st (q2m ops st o) λst'=>vany P V ops f (listed.setIfInBounds i true) st' K
    | none=>False
   | none=>match rs.find? (canTakeP P ops.toArray listed) with
    | some i=>match ops.toArray[i]? with
     | some o=>vgo V o st (q2m ops st o) λst'=>vany P V ops f (listed.setIfInBounds i true) st' K
     | none=>False
    | none=>allP rs λi=>match ops.toArray[i]? with
     | some o=>vgo V o st (q2m ops st o) λst'=>vany P V ops f (listed.setIfInBounds i true) st' K
     | none=>False
def vanyN (P:Program) (V:Oper→St→(St→Prop)→Prop) (ops:List Oper):Nat→Array Bool→St→(St→Prop)→Prop
 | 0,listed,st,K=>vany P V ops 0 listed st K
 | f+1,listed,st,K=>match (Q0 .any ops.toArray listed).find? (canTakeN ops.toArray listed) with
  | some i=>match ops.toArray[i]? with
   | some o=>vgo V o st (q2m ops st o) λst'=>vanyN P V ops f (listed.setIfInBounds i true) st' K
   | none=>False
  | none=>vany P V ops (f+1) listed st K
def pick (ops:List Oper):List Nat→List Oper
 | []=>[]
 | i::r=>match ops[i]? with
  | some o=>o::pick ops r
  | none=>pick ops r
def q3d (o:Oper):Bool:=match o.op with
 | .defer _=>false
 | _=>true
def q9r (ops:List Oper):Bool:=ops.all q3d
def qc9 (P:Program) (cons:List Con) (H:Inl) (KP:Cell→St→Prop) (ops:List Oper) (draw:Bool) (st:St) (K:St→Prop):Prop :=
 bif draw then
  bif Region.lexB .any ops.toArray&&(q2e cons ops).beq ops.length then vops (vopQ P cons) ops ops st K
  else bif Ql .any ops.toArray (q2e cons ops) then
   vops (vopQ P cons) ops (ops.take (q2e cons ops)) st λst'=>vops (vop P cons) ops (ops.drop (q2e cons ops)) st' K
  else bif q6j .any ops.toArray (q2e cons ops) then
   vops (vopQ P cons) ops (ops.take (q2e cons ops)) st λst'=>vops (vop P cons) ops ((ops.drop (q2e cons ops)).take 1) st' λst'' =>
    vops (vopQ P []) ops (ops.drop (q2e cons ops+1)) st'' K
  else match sched ops.toArray with
   | some ord=>vops (vop P cons) ops (pick ops ord) st K
   | none=>bif Qa ops.toArray&&Qq ops.length 30 then vanyN P (vop P cons) ops ops.length (Q7 ops.length false) st K else False
 else vops (vopY P cons H KP) ops ops st K
def q85 (cons:List Con):Op→Bool
 | .call { callee:=.value x,.. }=>match x with
  | .func f=>(q8r f cons).isSome
  | _=>false
 | _=>true
def hasInl (cons:List Con) (ops:List Oper):Bool:=!ops.all λo=>q85 cons o.op
def growI (cons:List Con) (ops:Array Oper) (j:Nat):Bool:=match ops[j]? with
 | some o=>q7p o.op&&q85 cons o.op
 | none=>true
def qej (cons:List Con) (ops:Array Oper) (listed:Array Bool) (i:Nat):Bool:=match ops[i]? with
 | some oi=>q8x oi.op&&(Qg .any ops listed i&&(Q9 ops.size).all λj=>j.beq i||(listed.getD j true||(growI cons ops j||(waiters ops i).contains j)))
 | none=>false
def qa6 (cons:List Con) (V:Oper→St→(St→Prop)→Prop) (ops:List Oper):Nat→Array Bool→St→(St→Prop)→Prop
 | 0,listed,st,K=>match Q0 .any ops.toArray listed with
  | []=>K st
  | _=>False
 | f+1,listed,st,K=>match Q0 .any ops.toArray listed with
  | []=>K st
  | rs=>match rs.find? (qej cons ops.toArray listed) with
   | some i=>match ops.toArray[i]? with
    | some o=>vgo V o st (q2m ops st o) λst'=>qa6 cons V ops f (listed.setIfInBounds i true) st' K
    | none=>False
   | none=>allP rs λi=>match ops.toArray[i]? with
    | some o=>vgo V o st (q2m ops st o) λst'=>qa6 cons V ops f (listed.setIfInBounds i true) st' K
    | none=>False
def q84 (P:Program) (cons:List Con) (H:Inl) (KP:Cell→St→Prop) (ops:List Oper) (draw:Bool) (st:St) (K:St→Prop):Prop:=bif q9r ops then
  (bif draw&&hasInl cons ops then (bif Qa ops.toArray&&Qq ops.length 40 then qa6 cons (vopJ P cons H) ops ops.length (Q7 ops.length false) st K else False)
  else qc9 P cons H KP ops draw st K) else False
def canTakeQ (P:Program) (ops:Array Oper) (listed:Array Bool) (i:Nat):Bool:=match ops[i]? with
 | some oi=>q9n P oi.op&&Qg .any ops listed i
 | none=>false
def qa4 (P:Program) (cons:List Con) (V:Oper→St→(St→Prop)→Prop) (ops:List Oper):Nat→Array Bool→St→(St→Prop)→Prop
 | 0,listed,st,K=>match Q0 .any ops.toArray listed with
  | []=>K st
  | _=>False
 | f+1,listed,st,K=>match Q0 .any ops.toArray listed with
  | []=>K st
  | rs=>match rs.find? (qej cons ops.toArray listed) with
   | some i=>match ops.toArray[i]? with
    | some o=>vgo V o st (q2m ops st o) λst'=>qa4 P cons V ops f (listed.setIfInBounds i true) st' K
    | none=>False
   | none=>match rs.find? (canTakeQ P ops.toArray listed) with
    | some i=>match ops.toArray[i]? with
     | some o=>vgo V o st (q2m ops st o) λst'=>qa4 P cons V ops f (listed.setIfInBounds i true) st' K
     | none=>False
    | none=>allP rs λi=>match ops.toArray[i]? with
     | some o=>vgo V o st (q2m ops st o) λst'=>qa4 P cons V ops f (listed.setIfInBounds i true) st' K
     | none=>False
def qe8 (P:Program) (cons:List Con) (H:Inl) (ops:List Oper) (draw:Bool) (st:St) (K:St→Prop):Prop:=bif q9r ops&&(draw&&(Qa ops.toArray&&Qq ops.length 40)) then qa4 P cons (vopJ P cons H) ops ops.length (Q7 ops.length false) st K else False
def q9o (cons:List Con):List Oper→Nat
 | []=>0
 | o::r=>bif q85 cons o.op then q9o cons r+1 else 0
def qe7 (P:Program) (cons:List Con) (H:Inl) (KP:Cell→St→Prop) (ops:List Oper) (draw:Bool) (st:St) (K:St→Prop):Prop :=
 bif q9r ops&&(draw&&q6j .any ops.toArray (q9o cons ops)) then
  vops (vopQ P cons) ops (ops.take (q9o cons ops)) st λst'=>vops (vopY P cons H KP) ops ((ops.drop (q9o cons ops)).take 1) st' λst'' =>
   vops (vopQ P []) ops (ops.drop (q9o cons ops+1)) st'' K
 else False
def qcc:List (Nat×Nat)→List (Nat×Nat)→Bool
 | [],[]=>true
 | p::r,q::l=>p.1.beq q.1&&(p.2.beq q.2&&qcc r l)
 | _,_=>false
def qdm:List (FuncId×Nat×List (Nat×Nat))→List (FuncId×Nat×List (Nat×Nat))→Bool
 | [],[]=>true
 | a::r,b::l=>a.1.beq b.1&&(a.2.1.beq b.2.1&&(qcc a.2.2 b.2.2&&qdm r l))
 | _,_=>false
def leCell (st:St):Cell→Cell→Prop
 | _,.any=>True
 | .undef,.undef=>True
 | .nil,.nil=>True
 | .nil,.val (.sl fs) xs=>([]:List fs.Pay)=xs
 | .nil,.own r=>match st.row r with
  | none=>True
  | some _=>False
 | .own r,.own r'=>bif r.beq r' then (match st.row r with | some _=>True | none=>False) else False
 | .val k p,.val k' p'=>match k.deq k' with
  | some ⟨h⟩=>h▸p=p'
  | none=>False
 | .ptr b o,.ptr b' o'=>bif b.beq b'&&o.beq o' then True else False
 | .fn f,.fn f'=>bif f.beq f' then True else False
 | .nilm,.nilm=>True
 | .mref m,.mref m'=>bif m.beq m' then True else False
 | .nref,.nref=>True
 | .iref kk k,.iref kk' k'=>match kk.deq kk' with
  | some ⟨h⟩=>h▸k=k'
  | none=>False
 | .iter i,.iter i'=>bif i.beq i' then True else False
 | .fref,.fref=>True
 | .yld j,.yld j'=>bif j.beq j' then True else False
 | .fent kk k,.fent kk' k'=>match kk.deq kk' with
  | some ⟨h⟩=>h▸k=k'
  | none=>False
 | .clo f k ps,.clo f' k' ps'=>bif f.beq f'&&(k.beq k'&&qcc ps ps') then True else False
 | .fsl cls,.fsl cls'=>bif qdm cls cls' then True else False
 | .sfx r sz i,.sfx r' sz' i'=>bif r.beq r'&&sz.beq sz' then (match st.row r with
  | some _=>i=i'
  | none=>False) else False
 | .bnd f x p,.bnd f' x' p'=>bif f.beq f' then (match x.deq x' with
  | some ⟨h⟩=>h▸p=p'
  | none=>False) else False
 | _,_=>False
def q9x (st:St):List Cell→List Cell→Prop
 | [],[]=>True
 | c::r,c'::r'=>leCell st c c'∧q9x st r r'
 | _,_=>False
def leAV (st:St):AV→AV→Prop
 | .c (.one c),.c (.one c')=>leCell st c c'
 | .c (.agg cs),.c (.agg cs')=>q9x st cs cs'
 | _,.c (.one .any)=>True
 | _,_=>False
def leEnv (st:St):List (Nat×AV)→Prop
 | []=>True
 | (t,v)::r=>leAV st (st.get t) v∧leEnv st r
def qhh (st:St):List (Nat×List Cell)→Prop
 | []=>True
 | (b,cs)::r=>(match st.box b with | some bs=>q9x st bs cs | none=>False)∧qhh st r
def leRow (st:St) (r:Nat) (y:Row):Prop :=
 match st.row r with
 | some x=>match x.fs.deq y.fs with
  | some ⟨h⟩=>bif x.e.beq y.e then q4n h x.xs=y.xs else False
  | none=>False
 | none=>y.xs=[]
def leRows (st:St):List (Nat×Row)→Prop
 | []=>True
 | (r,y)::l=>leRow st r y∧leRows st l
def castNest {a b c d e f:CK} (h:a=d) (h':b=e) (h'':c=f) (xs:List (a.Pay×List (b.Pay×c.Pay))):List (d.Pay×List (e.Pay×f.Pay)):=h''▸h'▸h▸xs
def leMap (st:St) (m:Nat) (y:MRow):Prop :=
 match st.map m with
 | some x=>match x.kk.deq y.kk,x.vk.deq y.vk with
  | some ⟨h⟩,some ⟨h'⟩=>bif x.t.beq y.t then q4x h h' x.xs=y.xs else False
  | _,_=>False
 | none=>False
def leMaps (st:St):List (Nat×MRow)→Prop
 | []=>True
 | (m,y)::l=>leMap st m y∧leMaps st l
def leSav (st:St):List (Nat×AV)→Prop
 | []=>True
 | (t,v)::l=>leAV st (look (.c (.one .any)) t st.sav) v∧leSav st l
def leNest (st:St):Option NRow→Prop
 | none=>True
 | some y=>match st.nest with
  | some x=>match x.kk.deq y.kk,x.ik.deq y.ik,x.iv.deq y.iv with
   | some ⟨h⟩,some ⟨h'⟩,some ⟨h''⟩=>bif x.t.beq y.t&&x.it.beq y.it then castNest h h' h'' x.xs=y.xs else False
   | _,_,_=>False
  | none=>False
def leSrc:Src→Src→Prop
 | .map m,.map m'=>bif m.beq m' then True else False
 | .inner kk k,.inner kk' k'=>match kk.deq kk' with
  | some ⟨h⟩=>h▸k=k'
  | none=>False
 | .none,.none=>True
 | _,_=>False
def leIter (st:St) (i:Nat) (y:ItP):Prop :=
 match st.iter i with
 | some x=>match x.kk.deq y.kk,x.vk.deq y.vk with
  | some ⟨h⟩,some ⟨h'⟩=>leSrc x.src y.src∧q4x h h' x.left=y.left∧(match y.cur with
   | none=>True
   | some e'=>match x.cur with
    | some e=>q4x h h' [e]=[e']
    | none=>False)
  | _,_=>False
 | none=>False
def qhl (st:St):List (Nat×ItP)→Prop
 | []=>True
 | (i,y)::l=>leIter st i y∧qhl st l
def castFam {a c:CK} {b d:Kds} (h:a=c) (h':b=d) (xs:List (a.Pay×List b.Pay)):List (c.Pay×List d.Pay):=h'▸h▸xs
def leFam (st:St):Option FRow→Prop
 | none=>True
 | some y=>match st.fam with
  | some x=>match x.kk.deq y.kk,x.fs.deq y.fs with
   | some ⟨h⟩,some ⟨h'⟩=>bif x.t.beq y.t&&(x.e.beq y.e&&(x.pend.isNone&&(y.pend.isNone&&(x.mark.isNone&&y.mark.isNone)))) then castFam h h' x.xs=y.xs else False
   | _,_=>False
  | none=>False
def eqJmp:Option Jmp→Option Jmp→Bool
 | none,none=>true
 | some .ret,some .ret=>true
 | some (.exit a),some (.exit b)=>a.beq b
 | _,_=>false
def sameNs:List Nat→List Nat→Bool
 | [],[]=>true
 | a::l,b::r=>a.beq b&&sameNs l r
 | _,_=>false
def qdk (st:St) (env:List (Nat×AV)):List (Nat×AV)→Prop
 | []=>True
 | (t,v)::r=>leAV st (look (.c (.one .any)) t env) v∧qdk st env r
def leLps (st:St):List Lp→List Lp→Prop
 | [],[]=>True
 | L::l,L'::l'=>(bif L.j.beq L'.j&&(L.n.beq L'.n&&(sameNs L.ps L'.ps&&((L.busy==L'.busy)&&eqJmp L.jump L'.jump))) then True else False)∧qdk st L.env L'.env∧leLps st l l'
 | _,_=>False
def St.le (st st':St):Prop:=leEnv st st'.env∧qhh st st'.boxes∧leRows st st'.rows∧(bif st.n.beq st'.n then True else False)∧leMaps st st'.maps∧leSav st st'.sav∧leNest st st'.nest∧qhl st st'.iters∧leFam st st'.fam∧leLps st st.lps st'.lps
structure Ann where
 ι:Type
 at_:St→ι→St
 inv:St→ι→Prop
 mu:St→ι→Nat
 live:List Nat:=[]
def St.head (st:St) (live:List Nat) (over:List (Nat×AV)) (rows:List (Nat×Row)):St:={ st with env:=over++live.map (λt=>(t,st.get t)),rows:=rows }
def annR (l:Nat) (ι:Type) (live:List Nat) (over:ι→List (Nat×AV)) (rows:ι→List (Nat×Row)) (inv:ι→Prop) (mu:ι→Nat):Nat×Ann:=(l,{ ι:=ι,at_:=λst p=>st.head live (over p) (rows p),inv:=λ_ p=>inv p,mu:=λ_ p=>mu p })
def annM (l:Nat) (ι:Type) (live:List Nat) (over:ι→List (Nat×AV)) (rows:ι→List (Nat×Row)) (maps:ι→List (Nat×MRow)) (inv:ι→Prop) (mu:ι→Nat):Nat×Ann:=(l,{ ι:=ι,at_:=λst p=>{ st.head live (over p) (rows p) with maps:=maps p },inv:=λ_ p=>inv p,mu:=λ_ p=>mu p })
def ann (l:Nat) (ι:Type) (live:List Nat) (over:ι→List (Nat×AV)) (inv:ι→Prop) (mu:ι→Nat):Nat×Ann:=annR l ι live over (λ_=>[]) inv mu
def ownAV (r:Nat):AV:=.c (.one (.own r))
def Post.block (Q:Post) (id:Nat):Post:={ normal:=Q.normal,exit:=λi st=>bif i.beq id then Q.normal st else Q.exit i st,ret:=Q.ret,panic:=Q.panic }
def Post.then (Q:Post) (K:St→Prop):Post:={ Q with normal:=K }
def know (st:St) (c:Operand) (b:Bool):St :=
 match c with
 | .tmp t=>st.set t (bool b)
 | _=>st
def q7q (l:Nat):List (Nat×Ann)→Option Ann
 | []=>none
 | (k,a)::r=>bif k.beq l then some a else q7q l r
def simCall (c:Con) (xs:List AV) (o:Oper) (st:St) (args:Array Operand):Option St :=
 match q1r c.args (evs (st.q08 (q1k xs)) args.toList),c.fn with
 | some p,some F=>bif c.lend&&c.res.all CK.qa8 then some (st.put o.dst (q1s c.res (F p))) else some ((st.q08 (q1k xs)).put o.dst (q1s c.res (F p)))
 | _,_=>none
def simOp (P:Program) (cons:List Con) (o:Oper) (st:St):Option St :=
 match o.guard with
 | some _=>none
 | none=>match o.op with
 | .alloc e=>match o.dst,zeroCells P e with
  | some d,some cs=>some (st.q8o d (st.off+d) cs)
  | _,_=>none
 | .box _ x=>match o.dst,q5b (st.ev x) with
  | some d,some cs=>some (st.q8o d (st.off+d) cs)
  | _,_=>none
 | .call { callee:=.value (.func f),args,argTypes }=>match q8r f cons with
  | some c=>simCall c (evs st args.toList) o st args
  | none=>none
 | .call { callee:=.builtin .append,args,argTypes }=>match args.toList,argTypes.toList,o.dst with
  | [s,x],[t,t'],some d=>match P.underlying t,srcOf st 0 (st.ev x) with
   | some (.slice e),some z=>match st.ev s with
    | .c (.one (.own r))=>match st.row r with
     | some y=>match z.fs.deq y.fs with
      | some ⟨h⟩=>some ((st.setRow r ⟨e,y.fs,y.xs++q4n h z.xs⟩).set d (.c (.one (.own r))))
      | none=>none
     | none=>none
    | .c (.one .nil)=>some ((st.setRow (st.off+d) ⟨e,z.fs,z.xs⟩).set d (.c (.one (.own (st.off+d)))))
    | _=>none
   | _,_=>none
  | _,_,_=>none
 | .buildSlice t len parts=>match P.underlying t,o.dst with
  | some (.slice e),some d=>match q77 P e,q8l P 20 e with
   | some (size,_),some fs=>match q53 (st.q08 (q1k (q4u st parts.toList))) ((Q9 len).map λi=>(i*size,size)) (Qc (len*size) .any) parts.toList with
    | some l=>match qbu fs len l with
     | some xs=>some (((st.q08 (q1k (q4u st parts.toList))).setRow (st.off+d) ⟨e,fs,xs⟩).set d (.c (.one (.own (st.off+d)))))
     | none=>none
    | none=>none
   | _,_=>none
  | _,_=>none
 | .store t x y=>match st.ev x,q5b (st.ev y) with
  | .c (.one (.ptr b off)),some cs=>match st.box b with
   | some bs=>match setCells bs off cs with
    | some bs'=>some ((st.q7n b bs').put o.dst (.c (.one .undef)))
    | none=>none
   | none=>none
  | _,_=>none
 | op=>match rop P st op with
  | .ok _ v=>some (st.put o.dst v)
  | .no=>none
def simAny (P:Program) (cons:List Con) (ops:List Oper):Nat→Array Bool→St→Option St
 | 0,listed,st=>match Q0 .any ops.toArray listed with
  | []=>some st
  | _=>none
 | f+1,listed,st=>match Q0 .any ops.toArray listed with
  | []=>some st
  | i::_=>match ops.toArray[i]? with
   | some o=>match simOp P cons o st with
    | some st'=>simAny P cons ops f (listed.setIfInBounds i true) st'
    | none=>none
   | none=>none
def St.keepJ (st:St) (live:List Nat):St:={ st with env:=live.map (λt=>(t,st.get t)),boxes:=q8f [] st.boxes }
def qji:Code→Option Nat
 | .region id _ _=>some id
 | .seq a _=>qji a
 | .block _ c=>qji c
 | _=>none
def behindAt (id:Nat) (ι:Type) (at_:St→ι→St) (inv:St→ι→Prop):Nat×Ann:=(6000000+id,{ ι:=ι,at_:=at_,inv:=inv,mu:=λ_ _=>0 })
def cutAt (id:Nat) (ι:Type) (at_:St→ι→St) (inv:St→ι→Prop):Nat×Ann:=(2000000+id,{ ι:=ι,at_:=at_,inv:=inv,mu:=λ_ _=>0 })
def cutOf (anns:List (Nat×Ann)) (c:Code):Option Ann:=match qji c with
 | some id=>q7q (2000000+id) anns
 | none=>none
def qgk (c:Cell) (K:Cell→Prop):Prop:=match c with
 | .any=>K (.any)
 | .undef=>K (.undef)
 | .nil=>K (.nil)
 | .val k p=>K (.val k p)
 | .ptr b off=>K (.ptr b off)
 | .ep fs p f=>K (.ep fs p f)
 | .own r=>K (.own r)
 | .rp r sz i f=>K (.rp r sz i f)
 | .sfx r sz i=>K (.sfx r sz i)
 | .fn f=>K (.fn f)
 | .clo f k ps=>K (.clo f k ps)
 | .fsl cls=>K (.fsl cls)
 | .fel cls n=>K (.fel cls n)
 | .nilm=>K (.nilm)
 | .mref m=>K (.mref m)
 | .dyn t ks p=>K (.dyn t ks p)
 | .nref=>K (.nref)
 | .iref kk k=>K (.iref kk k)
 | .iter i=>K (.iter i)
 | .kseq f s=>K (.kseq f s)
 | .fref=>K (.fref)
 | .fent kk k=>K (.fent kk k)
 | .fp kk k sz i f=>K (.fp kk k sz i f)
 | .fnew=>K (.fnew)
 | .yld j=>K (.yld j)
 | .fstamp=>K (.fstamp)
 | .bnd f x p=>K (.bnd f x p)
theorem qge (c:Cell) (K:Cell→Prop):qgk c K=K c:=by cases c <;> rfl
def q8s:List Cell→(List Cell→Prop)→Prop
 | [],K=>K []
 | c::r,K=>qgk c λc'=>q8s r λr'=>K (c'::r')
theorem qao:∀ (l:List Cell) (K:List Cell→Prop),q8s l K=K l
 | [],_=>rfl
 | c::r,K=>by rw [q8s,qge,qao r]
def forceAV (v:AV) (K:AV→Prop):Prop:=match v with
 | .c (.one c)=>qgk c λc'=>K (.c (.one c'))
 | .c (.agg cs)=>q8s cs λcs'=>K (.c (.agg cs'))
 | .tup xs=>K (.tup xs)
theorem forceAV_eq (v:AV) (K:AV→Prop):forceAV v K=K v:=by
 rcases v with (c | cs) | xs
 ·exact qge c (λc'=>K (.c (.one c')))
 ·exact qao cs (λcs'=>K (.c (.agg cs')))
 ·rfl
def q9p:List (Nat×AV)→(List (Nat×AV)→Prop)→Prop
 | [],K=>K []
 | (t,v)::r,K=>forceAV v λv'=>q9p r λr'=>K ((t,v')::r')
theorem qcx:∀ (l:List (Nat×AV)) (K:List (Nat×AV)→Prop),q9p l K=K l
 | [],_=>rfl
 | (t,v)::r,K=>by rw [q9p,forceAV_eq,qcx r]
def qaz:List (Nat×List Cell)→(List (Nat×List Cell)→Prop)→Prop
 | [],K=>K []
 | (t,cs)::r,K=>q8s cs λcs'=>qaz r λr'=>K ((t,cs')::r')
theorem qfk:∀ (l:List (Nat×List Cell)) (K:List (Nat×List Cell)→Prop),qaz l K=K l
 | [],_=>rfl
 | (t,cs)::r,K=>by rw [qaz,qao,qfk r]
def forceN (n:Nat) (K:Nat→Prop):Prop:=match n with
 | 0=>K 0
 | k+1=>K (k+1)
theorem forceN_eq (n:Nat) (K:Nat→Prop):forceN n K=K n:=by cases n <;> rfl
def qef:List Lp→(List Lp→Prop)→Prop
 | [],K=>K []
 | ⟨j,n,env,ps,busy,jump⟩::r,K=>forceN j λj'=>q9p env λenv'=>qef r λr'=>K (⟨j',n,env',ps,busy,jump⟩::r')
theorem qi9:∀ (l:List Lp) (K:List Lp→Prop),qef l K=K l
 | [],_=>rfl
 | ⟨j,n,env,ps,busy,jump⟩::r,K=>by rw [qef,forceN_eq,qcx,qi9 r]
def St.force (st:St) (K:St→Prop):Prop:=match st with
 | ⟨n,env,boxes,rows,sav,maps,off,nest,iters,fam,lps⟩=>forceN n λn'=>forceN off λoff'=>q9p env λenv'=>qaz boxes λboxes'=>q9p sav λsav'=>qef lps λlps'=>K ⟨n',env',boxes',rows,sav',maps,off',nest,iters,fam,lps'⟩
theorem St.force_eq (st:St) (K:St→Prop):st.force K=K st:=by
 obtain ⟨n,env,boxes,rows,sav,maps,off,nest,iters,fam,lps⟩:=st;unfold St.force;simp only [forceN_eq,qcx,qfk,qi9]
def vc (P:Program) (cons:List Con) (anns:List (Nat×Ann)) (HH:Inl→Inl) (B:Inl):Code→Nat→St→Post→Prop
 | .skip,_,st,Q=>Q.normal st
 | .region id ops draw,_,st,Q=>match q7q (1000000+id) anns with
  | none=>match q7q (6000000+id) anns with
   | some A=>q84 P cons (HH B) Q.panic ops.toList draw st (λst'=>∃ p,A.inv st p∧(st'.q08 A.live).le (A.at_ st p))∧∀ p,A.inv st p→(A.at_ st p).force λst2=>Q.normal st2
   | none=>match q7q (4000000+id) anns with
    | none=>match q7q (5000000+id) anns with
     | none=>q84 P cons (HH B) Q.panic ops.toList draw st Q.normal
     | some _=>qe7 P cons (HH B) Q.panic ops.toList draw st Q.normal
    | some _=>qe8 P cons (HH B) ops.toList draw st Q.normal
  | some A=>match simAny P cons ops.toList ops.size (Q7 ops.size false) st with
   | some st1=>q84 P cons (HH B) Q.panic ops.toList draw st (λst2=>st2.le (st1.keepJ A.live))∧Q.normal (st1.keepJ A.live)
   | none=>False
 | .seq a b,l,st,Q=>match cutOf anns b with
  | none=>vc P cons anns HH B a l st (Q.then λst'=>vc P cons anns HH B b l st' Q)
  | some A=>vc P cons anns HH B a l st (Q.then λst'=>∃ p,A.inv st p∧(st'.q08 A.live).le (A.at_ st p))∧∀ p,A.inv st p→(A.at_ st p).force λst2=>vc P cons anns HH B b l st2 Q
 | .cond c x y,l,st,Q=>match st.ev c with
  | .c (.one (.val .bool b))=>bif b then vc P cons anns HH B x l (know st c true) Q else vc P cons anns HH B y l (know st c false) Q
  | _=>False
 | .block id c,_,st,Q=>vc P cons anns HH B c id st (Q.block id)
 | .loop c,l,st,Q=>match q7q l anns with
  | some A=>(∃ p,A.inv st p∧st.le (A.at_ st p)) ∧
    ∀ p,A.inv st p→(A.at_ st p).force λst2=>vc P cons anns HH B c l st2 (Q.then λst'=>∃ p',A.inv st p'∧A.mu st p'<A.mu st p∧st'.le (A.at_ st p'))
  | none=>False
 | .exit id,_,st,Q=>Q.exit id st
 | .ret,_,st,Q=>Q.ret st
 | .rangeFunc g ps x y,l,st,Q=>match st.ev g with
  | .c (.one (.clo f k caps))=>match q5u st.off st.lps with
   | some _=>False
   | none=>bif Q3 f 1000000000 then HH (yieldOf st.off (λst1 Q1=>vc P cons anns HH B x l st1 { normal:=λst2=>q9a st.off st2 (λst3=>vc P cons anns HH B y l st3 Q1),exit:=λ_ _=>False,ret:=λ_=>False }) B)
     f (q8i (caps.take k)++[.one (.yld st.off)]++q8i (caps.drop k)) ((st.off+1)*1000+500) (st.pushLp ps.toList) (λ_ st'=>qha Q st.off st') (λ_ _=>False) else False
  | _=>False
 | _,_,_,_=>False
end R
end Go.Proofs.YtlmbfijhkcmncaaGreatDoor

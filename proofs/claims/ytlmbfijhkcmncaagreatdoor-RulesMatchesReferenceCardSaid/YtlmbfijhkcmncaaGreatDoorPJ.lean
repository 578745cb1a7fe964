/-
  Several texts in one: R11D, R8L, R11I.
-/
import Derived.Test.YtlmbfijhkcmncaaGreatDoorPI
import Derived.Test.YtlmbfijhkcmncaaGreatDoorPG
import Derived.RangeFuncOwn
import Derived.RangeFuncNested
import Derived.OrdersIn
import Derived.TacticsIn
import Derived.Sort.LoopGhostIn
open Go.Region renaming wanted→Q0,noSelect→Q8,ready→Qa,noSelect_spec→Qh,binds→Qj,free_spec→Ql
open Bool renaming and_eq_true→Q3,or_eq_true→Qe
open Array renaming replicate→Q7,setIfInBounds_comm→Qk
open Nat renaming eq_of_beq_eq_true→Q9,beq_refl→Qm,ble→Qy
open List renaming all_eq_true→Qb,mem_of_getElem?→Qc,mem_of_find?_eq_some→Qd,mem_cons_self→Qi,find?_some→Qn,mem_cons_of_mem→Qq,nodup_cons→Qw,mem_range→Qx
open Go.World renaming putObj_heap_other→Qf,putObj_heap_same→Qg
open Go.Code renaming region→Qo
open Go.Obj renaming map→Qp
open Go.Fence renaming wide→Qr
open Go.Oper renaming semAt_eq→Qs,uponIn→Qu,wpIn_mono→Qz,quietUpon→QA
open Classical renaming em→Qt
open Go renaming undef→Qv
set_option linter.unusedVariables false
namespace Go.Proofs.YtlmbfijhkcmncaaGreatDoor
open Go.RowKit
namespace R
section
variable {w0:Base} {w w':World} {κ:Cx} {st:St} {a:Act} {P:Program} {cons:List Con}
def q7k (cons:List Con) (P:Program) (ops:Array Oper) (Q:Exit→Act→World→Prop):Nat→Array Bool→Act→World→Prop
 | 0,listed,a,w=>Qa .any ops listed=[]∧Q .normal a w
 | f+1,listed,a,w=>(Qa .any ops listed=[]→Q .normal a w) ∧
  ∀ i∈Qa .any ops listed,wpOp P ops Q i (λa' w'=>(growI cons ops i=true→Below w.heap.size w w')∧q7k cons P ops Q f (listed.setIfInBounds i true) a' w') a w
theorem qea {ops:Array Oper} {Q:Exit→Act→World→Prop}:∀ (f:Nat) (listed:Array Bool) (a:Act) (w:World),q7k cons P ops Q f listed a w→wpAny P .any ops Q f listed a w
 | 0,_,_,_,h=>h
 | f+1,_,_,_,h=>⟨h.1,λi hi=>wpOp_mono (λa' w' h'=>qea f _ a' w' h'.2) (h.2 i hi)⟩
theorem qh4 {ops:Array Oper} {Q:Exit→Act→World→Prop} {i:Nat} {oi:Oper} {v:Value} (hi:ops[i]? = some oi) (hsel:∀ (j:Nat) (o:Oper) cs b,ops[j]? = some o→o.op≠.select cs b)
  (hQ:∀ c a w,Q (.panic c) (a.put oi.dst v) w→Q (.panic c) a w) :
  ∀ (f:Nat) (listed:Array Bool) (a:Act) (w:World),Closed ops listed →
   (∀ j oj,ops[j]? = some oj→j≠i→listed.getD j true=false→(∀ e∈oj.after,Qj .any e=true→e.on≠i)→oi.apart ops oj=true) →
   (∀ j,j<ops.size→j≠i→listed.getD j true=false→growI cons ops j=true∨j∈waiters ops i) →
   i∈Qa .any ops listed→YieldsIf P ops (λw'=>Below w.heap.size w w') oi v a →
   q7k cons P ops Q f (listed.setIfInBounds i true) (a.put oi.dst v) w→q7k cons P ops Q (f+1) listed a w:=by
 intro f
 induction f with
 | zero =>
  intro listed a w _ _ _ hr hy H;refine ⟨λh=>(by rw [h] at hr;cases hr),λj hj=>?_⟩
  by_cases hji:j=i
  ·subst hji;exact hy.wpOp hi (q03 w) ⟨λ_=>q03 w,H⟩
  ·have:=ready_mono hj hji
   rw [H.1] at this;cases this
 | succ f ih =>
  intro listed a w hc hfree hgr hr hy H;refine ⟨λh=>(by rw [h] at hr;cases hr),λj hj=>?_⟩
  by_cases hji:j=i
  ·subst hji;exact hy.wpOp hi (q03 w) ⟨λ_=>q03 w,H⟩
  ·have h1:=H.2 j (ready_mono hj hji)
   obtain ⟨hjun,oj,hoj,hall⟩:=mem_ready.1 hj;have hiun:=(mem_ready.1 hr).1;have hnot:∀ e∈oj.after,Qj .any e=true→e.on≠i:=λe he hb heq=>by
    have h1:=hall e he hb;rw [heq,getD_both hiun] at h1;cases h1
   have hjlt:j<ops.size:=(Array.getElem?_eq_some_iff.1 hoj).1;have hgj:growI cons ops j=true:=by
    rcases hgr j hjlt hji hjun with h | h
    ·exact h
    ·obtain ⟨ok,hok,hh⟩:=qby hc j h
     obtain rfl:ok=oj:=Option.some.inj (hok.symm.trans hoj);have:=hh hall;rw [getD_both hiun] at this;cases this
   have h2:=wpOp_putIf hoj (hfree j oj hoj hji hjun hnot) (λcs b=>hsel i oi cs b hi) (λcs b=>hsel j oj cs b hoj) hQ hy h1
   have hun:∀ k,(listed.setIfInBounds j true).getD k true=false→listed.getD k true=false:=λk h=>by
    by_cases hjk:j=k
    ·subst hjk;exact hjun
    ·rw [getD_set_ne true hjk] at h;exact h
   refine wpOp_mono (λa' w' h3=>⟨h3.2.1,ih (listed.setIfInBounds j true) a' w' (hc.set hj) (λk ok hk hki hu hno=>hfree k ok hk hki (hun k hu) hno) (λk hk hki hu=>hgr k hk hki (hun k hu)) (ready_mono hr (Ne.symm hji)) ?_ ?_⟩) h2
   ·exact h3.1.imp (λ⟨hw,hv⟩=>⟨hw,λw2 hw2=>hv w2 (q1y (h3.2.1 hgj) hw2)⟩) id
   ·rw [Qk _ _ hji]
    exact h3.2.2
theorem q9i {H:Inl} {o:Oper} {K:St→Prop} (h:q8x o.op=true) (hv:vopJ P cons H o st K):vop P cons o st K:=by
 unfold vopJ at hv;split at hv
 ·rename_i ho;rw [ho] at h;exact q19 rfl h
 ·exact hv.elim
 ·exact hv
theorem qiw {H:Inl} {ops:List Oper} {o:Oper} {K:St→Prop} (h:q8x o.op=true) (hR:Rel w0 κ st a w) (hv:vgo (vopJ P cons H) o st (q2m ops st o) K) :
  ∃ u st',YieldsIf P ops.toArray (λw'=>Below w.heap.size w w') o u a∧Rel w0 κ st' (a.put o.dst u) w∧K st':=by
 refine qb2 (cons:=cons) h hR ?_;revert hv;generalize q2m ops st o=wy;intro hv;cases wy with
 | run=>exact q9i h hv
 | skip=>exact hv
 | part t b want =>
  have hv:(bif q0a st o.dst then
   bif b then (bif want then vopJ P cons H o (st.set t (bool true)) K else K ((st.set t (bool true)).put o.dst (.c (.one .undef))))
   else (bif want then K ((st.set t (bool false)).put o.dst (.c (.one .undef))) else vopJ P cons H o (st.set t (bool false)) K)
   else False):=hv
  show (bif q0a st o.dst then
   bif b then (bif want then vop P cons o (st.set t (bool true)) K else K ((st.set t (bool true)).put o.dst (.c (.one .undef))))
   else (bif want then K ((st.set t (bool false)).put o.dst (.c (.one .undef))) else vop P cons o (st.set t (bool false)) K)
   else False)
  cases hd:q0a st o.dst
  ·rw [hd] at hv;exact hv
  ·rw [hd] at hv
   cases b <;> cases want
   ·exact q9i h hv
   ·exact hv
   ·exact hv
   ·exact q9i h hv
 | no=>exact hv
theorem vgoI_wp (hcons:∀ c∈cons,c.Holds P) {C:Nat→Option (Code×Code)} {H:Inl} (hH:q34 P C H) (hag:Agree w0 C) {ops:List Oper} {o:Oper} {i:Nat} (hi:ops.toArray[i]? = some o) {K:St→Prop} {next:Act→World→Prop} {Q:Exit→Act→World→Prop} (hR:Rel w0 κ st a w) (hv:vgo (vopJ P cons H) o st (q2m ops st o) K) (hF:Fits w0 K next) :
  wpOp P ops.toArray Q i (λa' w'=>(growI cons ops.toArray i=true→Below w.heap.size w w')∧next a' w') a w:=by
 have hg:growI cons ops.toArray i=(q7p o.op&&q85 cons o.op):=by unfold growI;rw [hi]
 rw [hg];have hrun:∀ {st:St},Rel w0 κ st a w→vopJ P cons H o st K→o.wp P a w (λa' w'=>((q7p o.op&&q85 cons o.op)=true→Below w.heap.size w w')∧next a' w') Q:=λ{st} hR hv=>by
  cases hc:q85 cons o.op
  ·rw [Bool.and_false]
   exact Oper.wp_mono (λa' w' h=>⟨λe=>(by cases e),h⟩) (vopJ_sound hcons hH hag o κ st a w K next hv hR hF)
  ·rw [Bool.and_true]
   refine qec hcons hR ?_ hF;unfold vopJ at hv;split at hv
   ·rename_i x args ts ho
    rw [ho] at hc;cases x with
    | func f =>
     have he:st.ev (.func f)=.c (.one (.fn f)):=rfl;rw [he] at hv;have hc:(q8r f cons).isSome=true:=hc;obtain ⟨c,hcc⟩:=Option.isSome_iff_exists.1 hc;simp only [hcc] at hv;exact hv
    | _=>cases hc
   ·exact hv.elim
   ·exact hv
 have hw:=q5e hR ops o;unfold wpOp;simp only [hi];cases hway:q2m ops st o with
 | run =>
  rw [hway] at hw hv;have hw:Q0 o (yielded ops.toArray a.tmps)=true:=hw;rw [if_pos hw];exact .inl (hrun hR hv)
 | skip =>
  rw [hway] at hw hv;have hw:Q0 o (yielded ops.toArray a.tmps)=false:=hw;rw [if_neg (by rw [hw];decide)]
  have hv:(bif q0a st o.dst then K (st.put o.dst (.c (.one .undef))) else False):=hv
  cases hd:q0a st o.dst
  ·rw [hd] at hv;exact hv.elim
  ·rw [hd] at hv
   exact ⟨λ_=>q03 w,hF κ _ _ _ hv (hR.put hd rfl)⟩
 | part t b want =>
  rw [hway] at hw hv;obtain ⟨hw,hb⟩:=hw;have hv:(bif q0a st o.dst then
   bif b then (bif want then vopJ P cons H o (st.set t (bool true)) K else K ((st.set t (bool true)).put o.dst (.c (.one .undef))))
   else (bif want then K ((st.set t (bool false)).put o.dst (.c (.one .undef))) else vopJ P cons H o (st.set t (bool false)) K)
   else False):=hv
  cases hd:q0a st o.dst
  ·rw [hd] at hv;exact hv.elim
  ·rw [hd] at hv
   have hR':Rel w0 κ (st.set t (bool b)) a w:=hR.know (by rw [hb];rfl)
   have hd':q0a (st.set t (bool b)) o.dst=true:=hd;cases b <;> cases want
   ·have hw:Q0 o (yielded ops.toArray a.tmps)=true:=hw
    rw [if_pos hw];exact .inl (hrun hR' hv)
   ·have hw:Q0 o (yielded ops.toArray a.tmps)=false:=hw
    rw [if_neg (by rw [hw];decide)];exact ⟨λ_=>q03 w,hF κ _ _ _ hv (hR'.put hd' rfl)⟩
   ·have hw:Q0 o (yielded ops.toArray a.tmps)=false:=hw
    rw [if_neg (by rw [hw];decide)];exact ⟨λ_=>q03 w,hF κ _ _ _ hv (hR'.put hd' rfl)⟩
   ·have hw:Q0 o (yielded ops.toArray a.tmps)=true:=hw
    rw [if_pos hw];exact .inl (hrun hR' hv)
 | no=>rw [hway] at hv;exact hv.elim
theorem qie (hcons:∀ c∈cons,c.Holds P) {C:Nat→Option (Code×Code)} {H:Inl} (hH:q34 P C H) (hag:Agree w0 C) {l:List Oper} (hsel:Q8 l.toArray=true) {K:St→Prop} {Q:Exit→Act→World→Prop} (hQ:∀ c a w,¬ Q (.panic c) a w) (hK:Fits w0 K (Q .normal)) :
  ∀ (f:Nat) (listed:Array Bool) (κ:Cx) (st:St) (a:Act) (w:World),Closed l.toArray listed→qa6 cons (vopJ P cons H) l f listed st K→Rel w0 κ st a w→q7k cons P l.toArray Q f listed a w
 | 0,listed,κ,st,a,w,hc,h,hR=>by
  unfold qa6 at h;split at h
  ·rename_i hr
   exact ⟨hr,hK κ st a w h hR⟩
  ·exact h.elim
 | f+1,listed,κ,st,a,w,hc,h,hR=>by
  unfold qa6 at h;split at h
  ·rename_i hr
   exact ⟨λ_=>hK κ st a w h hR,λi hi=>by rw [hr] at hi;cases hi⟩
  ·rename_i hne
   have ih:∀ i,i∈Qa .any l.toArray listed→Fits w0 (λst'=>qa6 cons (vopJ P cons H) l f (listed.setIfInBounds i true) st' K) (q7k cons P l.toArray Q f (listed.setIfInBounds i true)):=λi hir κ st a w h hR =>
    qie hcons hH hag hsel hQ hK f _ κ st a w (hc.set hir) h hR
   split at h
   ·rename_i i hst
    have hir:=Qd hst;have ht:=Qn hst;split at h
    ·rename_i oi hoi
     unfold qej at ht;rw [hoi] at ht;simp only [Q3] at ht;obtain ⟨h1,h2,h3⟩:=ht;obtain ⟨hiun,_,_,_⟩:=mem_ready.1 hir;obtain ⟨u,st',hy,hR',hK'⟩:=qiw h1 hR h;refine qh4 hoi (Qh hsel) (λc a w hq=>absurd hq (hQ c _ w)) f listed a w hc (Ql hoi h2) (λj hj hji hun=>?_) hir hy (ih i hir κ st' _ w hK' hR')
     have:=Qb.1 h3 j (Qx.2 hj)
     rw [hun,Bool.false_or,Qe,Qe] at this;rcases this with h | h | h
     ·exact absurd (Q9 h) hji
     ·exact .inl h
     ·exact .inr (by simpa using h)
    ·exact h.elim
   ·refine ⟨λh0=>absurd h0 (by first | exact hne | exact λe=>hne e),λi hi=>?_⟩
    have hv:=qce h i hi;split at hv
    ·rename_i oi hoi
     exact vgoI_wp hcons hH hag hoi hR hv (ih i hi)
    ·exact hv.elim
theorem vregionI_any (hcons:∀ c∈cons,c.Holds P) {C:Nat→Option (Code×Code)} {H:Inl} (hH:q34 P C H) (hag:Agree w0 C) {l:List Oper} {K:St→Prop} {Q:Exit→Act→World→Prop} (h:(bif Q8 l.toArray&&Qy l.length 40 then qa6 cons (vopJ P cons H) l l.length (Q7 l.length false) st K else False)) (hR:Rel w0 κ st a w) (hK:Fits w0 K (Q .normal)) :
  wpAny P .any l.toArray Q l.toArray.size (Q7 l.toArray.size false) a { w with drawn:=w.drawn+1 }:=by
 cases hsel:Q8 l.toArray&&Qy l.length 40
 ·rw [hsel] at h;exact h.elim
 ·rw [hsel] at h
  rw [Q3] at hsel;have h:qa6 cons (vopJ P cons H) l l.length (Q7 l.length false) st K:=h;refine q8m (Q:=λe a w=>match e with | .normal=>Q .normal a w | _=>False) (λe a w h=>by cases e <;> first | exact h | exact h.elim) _ _ _ _ (qea (cons:=cons) _ _ _ _ ?_)
  exact qie hcons hH hag (Q:=λe a w=>match e with | .normal=>Q .normal a w | _=>False) hsel.1 (λc a w h=>h) hK _ _ κ st a _ (λj oj _ hl=>by rw [getD_replicate_false] at hl;cases hl) h hR.drew
theorem wpAnyI_pure {ops:Array Oper} {Q:Exit→Act→World→Prop} {i:Nat} {oi:Oper} {v:Value} (hi:ops[i]? = some oi) (hsel:∀ (j:Nat) (o:Oper) cs b,ops[j]? = some o→o.op≠.select cs b)
  (hQ:∀ c a w,Q (.panic c) (a.put oi.dst v) w→Q (.panic c) a w) :
  ∀ (f:Nat) (listed:Array Bool) (a:Act) (w:World),Closed ops listed →
   (∀ j oj,ops[j]? = some oj→j≠i→listed.getD j true=false→(∀ e∈oj.after,Qj .any e=true→e.on≠i)→oi.apart ops oj=true) →
   i∈Qa .any ops listed→YieldsIf P ops (λ_=>True) oi v a →
   q7k cons P ops Q f (listed.setIfInBounds i true) (a.put oi.dst v) w→q7k cons P ops Q (f+1) listed a w:=by
 intro f
 induction f with
 | zero =>
  intro listed a w _ _ hr hy H;refine ⟨λh=>(by rw [h] at hr;cases hr),λj hj=>?_⟩
  by_cases hji:j=i
  ·subst hji;exact hy.wpOp hi trivial ⟨λ_=>q03 w,H⟩
  ·have:=ready_mono hj hji
   rw [H.1] at this;cases this
 | succ f ih =>
  intro listed a w hc hfree hr hy H;refine ⟨λh=>(by rw [h] at hr;cases hr),λj hj=>?_⟩
  by_cases hji:j=i
  ·subst hji;exact hy.wpOp hi trivial ⟨λ_=>q03 w,H⟩
  ·have h1:=H.2 j (ready_mono hj hji)
   obtain ⟨hjun,oj,hoj,hall⟩:=mem_ready.1 hj;have hiun:=(mem_ready.1 hr).1;have hnot:∀ e∈oj.after,Qj .any e=true→e.on≠i:=λe he hb heq=>by
    have h1:=hall e he hb;rw [heq,getD_both hiun] at h1;cases h1
   have h2:=wpOp_putIf hoj (hfree j oj hoj hji hjun hnot) (λcs b=>hsel i oi cs b hi) (λcs b=>hsel j oj cs b hoj) hQ hy h1
   have hun:∀ k,(listed.setIfInBounds j true).getD k true=false→listed.getD k true=false:=λk h=>by
    by_cases hjk:j=k
    ·subst hjk;exact hjun
    ·rw [getD_set_ne true hjk] at h;exact h
   refine wpOp_mono (λa' w' h3=>⟨h3.2.1,ih (listed.setIfInBounds j true) a' w' (hc.set hj) (λk ok hk hki hu hno=>hfree k ok hk hki (hun k hu) hno) (ready_mono hr (Ne.symm hji)) ?_ ?_⟩) h2
   ·exact h3.1
   ·rw [Qk _ _ hji]
    exact h3.2.2
theorem pure2_rop {p:Op} (h:q9n P p=true):q8x p=true:=by
 unfold q9n at h;rw [Qe] at h;rcases h with h | h
 ·exact pure_rop h
 ·split at h <;> first | rfl | cases h
theorem qga {ops:Array Oper} {o:Oper} {K:St→Prop} (h:q9n P o.op=true) (hw:Q0 o (yielded ops a.tmps)=true) (hR:Rel w0 κ st a w) (hv:vop P cons o st K) :
  ∃ u st',YieldsIf P ops (λ_=>True) o u a∧Rel w0 κ st' (a.put o.dst u) w∧K st':=by
 obtain ⟨c,v,hr,hv⟩:=vop_rop (pure2_rop h) hv;cases hd:q0a st o.dst
 ·rw [hd] at hv;exact hv.elim
 ·rw [hd] at hv
  obtain ⟨hc,hK⟩:=q9t hr hv;obtain ⟨u,hu,hy⟩:=rop_pure2 hR h hr hc;exact ⟨u,_,.inl ⟨hw,λw' _=>hy w' trivial⟩,hR.put hd hu,hK⟩
theorem vgoJ_pure {H:Inl} {ops:List Oper} {o:Oper} {K:St→Prop} (h:q9n P o.op=true) (hR:Rel w0 κ st a w) (hv:vgo (vopJ P cons H) o st (q2m ops st o) K) :
  ∃ u st',YieldsIf P ops.toArray (λ_=>True) o u a∧Rel w0 κ st' (a.put o.dst u) w∧K st':=by
 have hw:=q5e hR ops o;have hr:=pure2_rop h;cases hway:q2m ops st o with
 | run=>rw [hway] at hw hv;exact qga h hw hR (q9i hr hv)
 | skip =>
  rw [hway] at hw hv;have hv:(bif q0a st o.dst then K (st.put o.dst (.c (.one .undef))) else False):=hv
  cases hd:q0a st o.dst
  ·rw [hd] at hv;exact hv.elim
  ·rw [hd] at hv
   exact ⟨Qv,_,.inr ⟨hw,rfl⟩,hR.put hd (v:=.c (.one .undef)) rfl,hv⟩
 | part t b want =>
  rw [hway] at hw hv;obtain ⟨hw,hb⟩:=hw;have hv:(bif q0a st o.dst then
   bif b then (bif want then vopJ P cons H o (st.set t (bool true)) K else K ((st.set t (bool true)).put o.dst (.c (.one .undef))))
   else (bif want then K ((st.set t (bool false)).put o.dst (.c (.one .undef))) else vopJ P cons H o (st.set t (bool false)) K)
   else False):=hv
  cases hd:q0a st o.dst
  ·rw [hd] at hv;exact hv.elim
  ·rw [hd] at hv
   have hR':Rel w0 κ (st.set t (bool b)) a w:=hR.know (by rw [hb];rfl)
   have hd':q0a (st.set t (bool b)) o.dst=true:=hd;cases b <;> cases want
   ·exact qga h hw hR' (q9i hr hv)
   ·exact ⟨Qv,_,.inr ⟨hw,rfl⟩,hR'.put hd' (v:=.c (.one .undef)) rfl,hv⟩
   ·exact ⟨Qv,_,.inr ⟨hw,rfl⟩,hR'.put hd' (v:=.c (.one .undef)) rfl,hv⟩
   ·exact qga h hw hR' (q9i hr hv)
 | no=>rw [hway] at hv;exact hv.elim
theorem qii (hcons:∀ c∈cons,c.Holds P) {C:Nat→Option (Code×Code)} {H:Inl} (hH:q34 P C H) (hag:Agree w0 C) {l:List Oper} (hsel:Q8 l.toArray=true) {K:St→Prop} {Q:Exit→Act→World→Prop} (hQ:∀ c a w,¬ Q (.panic c) a w) (hK:Fits w0 K (Q .normal)) :
  ∀ (f:Nat) (listed:Array Bool) (κ:Cx) (st:St) (a:Act) (w:World),Closed l.toArray listed→qa4 P cons (vopJ P cons H) l f listed st K→Rel w0 κ st a w→q7k cons P l.toArray Q f listed a w
 | 0,listed,κ,st,a,w,hc,h,hR=>by
  unfold qa4 at h;split at h
  ·rename_i hr
   exact ⟨hr,hK κ st a w h hR⟩
  ·exact h.elim
 | f+1,listed,κ,st,a,w,hc,h,hR=>by
  unfold qa4 at h;split at h
  ·rename_i hr
   exact ⟨λ_=>hK κ st a w h hR,λi hi=>by rw [hr] at hi;cases hi⟩
  ·rename_i hne
   have ih:∀ i,i∈Qa .any l.toArray listed→Fits w0 (λst'=>qa4 P cons (vopJ P cons H) l f (listed.setIfInBounds i true) st' K) (q7k cons P l.toArray Q f (listed.setIfInBounds i true)):=λi hir κ st a w h hR =>
    qii hcons hH hag hsel hQ hK f _ κ st a w (hc.set hir) h hR
   split at h
   ·rename_i i hst
    have hir:=Qd hst;have ht:=Qn hst;split at h
    ·rename_i oi hoi
     unfold qej at ht;rw [hoi] at ht;simp only [Q3] at ht;obtain ⟨h1,h2,h3⟩:=ht;obtain ⟨hiun,_,_,_⟩:=mem_ready.1 hir;obtain ⟨u,st',hy,hR',hK'⟩:=qiw h1 hR h;refine qh4 hoi (Qh hsel) (λc a w hq=>absurd hq (hQ c _ w)) f listed a w hc (Ql hoi h2) (λj hj hji hun=>?_) hir hy (ih i hir κ st' _ w hK' hR')
     have:=Qb.1 h3 j (Qx.2 hj)
     rw [hun,Bool.false_or,Qe,Qe] at this;rcases this with h | h | h
     ·exact absurd (Q9 h) hji
     ·exact .inl h
     ·exact .inr (by simpa using h)
    ·exact h.elim
   ·split at h
    ·rename_i i hst
     have hir:=Qd hst;have ht:=Qn hst;split at h
     ·rename_i oi hoi
      unfold canTakeQ at ht;rw [hoi] at ht;simp only [Q3] at ht;obtain ⟨h1,h2⟩:=ht;obtain ⟨u,st',hy,hR',hK'⟩:=vgoJ_pure h1 hR h;exact wpAnyI_pure hoi (Qh hsel) (λc a w hq=>absurd hq (hQ c _ w)) f listed a w hc (Ql hoi h2) hir hy (ih i hir κ st' _ w hK' hR')
     ·exact h.elim
    ·refine ⟨λh0=>absurd h0 (by first | exact hne | exact λe=>hne e),λi hi=>?_⟩
     have hv:=qce h i hi;split at hv
     ·rename_i oi hoi
      exact vgoI_wp hcons hH hag hoi hR hv (ih i hi)
     ·exact hv.elim
theorem vregionJ_any (hcons:∀ c∈cons,c.Holds P) {C:Nat→Option (Code×Code)} {H:Inl} (hH:q34 P C H) (hag:Agree w0 C) {l:List Oper} {K:St→Prop} {Q:Exit→Act→World→Prop} (hsel:Q8 l.toArray=true) (h:qa4 P cons (vopJ P cons H) l l.length (Q7 l.length false) st K) (hR:Rel w0 κ st a w) (hK:Fits w0 K (Q .normal)) :
  wpAny P .any l.toArray Q l.toArray.size (Q7 l.toArray.size false) a { w with drawn:=w.drawn+1 }:=by
 refine q8m (Q:=λe a w=>match e with | .normal=>Q .normal a w | _=>False) (λe a w h=>by cases e <;> first | exact h | exact h.elim) _ _ _ _ (qea (cons:=cons) _ _ _ _ ?_)
 exact qii hcons hH hag (Q:=λe a w=>match e with | .normal=>Q .normal a w | _=>False) hsel (λc a w h=>h) hK _ _ κ st a _ (λj oj _ hl=>by rw [getD_replicate_false] at hl;cases hl) h hR.drew
end
end R
namespace R
def Base.ctl (w0:Base) (M0' bzs' js':Nat→Prop) (lam0':Nat→Nat) (rd':Option Nat) (code':Nat→Code×Code):Base:={ w0 with M0:=M0',bzs:=bzs',js:=js',lam0:=lam0',rd:=rd',code:=code' }
def Cx.ctl (κ:Cx) (lam':Nat→Nat) (tau':Nat→Array Value) (M':Nat→Prop):Cx:={ κ with μ:={ κ.μ with lam:=lam',tau:=tau' },M:=M' }
section
variable {w0:Base} {w w':World} {κ:Cx} {st:St} {a:Act} {P:Program}
theorem qes {lam':Nat→Nat} {tau':Nat→Array Value} {M':Nat→Prop} (hk:Keeps w w' κ.S) {c:Cell} {v:Value} (h:c.Rep κ w v) (hc:∀ j,c=.yld j→lam' j=κ.μ.lam j):c.Rep (κ.ctl lam' tau' M') w' v :=
 q00 (κ:=κ) (κ':=κ.ctl lam' tau' M') rfl rfl rfl hk h (by
  cases c with
  | kseq f src=>exact (show (κ.ctl lam' tau' M').src src=κ.src src by cases src <;> rfl)
  | yld j=>exact hc j rfl
  | _=>first | rfl | trivial)
theorem ctl_drop {j l:Nat} {tau':Nat→Array Value} {M':Nat→Prop} (hk:Keeps w w' κ.S) {c:Cell} {v:Value} (h:c.Rep κ w v):(c.q44 j).Rep (κ.ctl (λi=>if i=j then l else κ.μ.lam i) tau' M') w' v:=by
 cases c with
 | yld i =>
  show (bif i.beq j then Cell.any else .yld i).Rep _ _ _
  cases e:i.beq j
  ·have:i≠j:=λe'=>by rw [e',Qm] at e;cases e
   exact qes (c:=.yld i) hk h (λj' hj'=>by injection hj' with hj';rw [← hj',if_neg this])
  ·trivial
 | _=>exact qes hk h (λj' hj'=>by cases hj')
theorem NestRep.moveC {lam':Nat→Nat} {tau':Nat→Array Value} {M':Nat→Prop} {n0:Nat} {maps:List (Nat×MRow)} {y:NRow} (h:NestRep n0 κ maps w y) (hV:∀ k p v,Cell.Rep κ w (.val k p) v→Cell.Rep (κ.ctl lam' tau' M') w' (.val k p) v) (hm:∀ (g:Nat) es c,w.heap[g]? = some (Qp es c)→w'.heap[g]? = some (Qp es c)):NestRep n0 (κ.ctl lam' tau' M') maps w' y where
 out:=by
  obtain ⟨es,clock,h1,h2,h3,h4,h5⟩:=h.out;exact ⟨es,clock,hm _ _ _ h1,h2,λi x hx=>let ⟨e,he,q1,q2⟩:=h3 i x hx;⟨e,he,q1l hV _ _ q1,q2⟩,h4,h5⟩
 inn:=λi x hx=>by
  obtain ⟨g,es,clock,h1,h2,h3,h4,h5,h6⟩:=h.inn i x hx;exact ⟨g,es,clock,h1,hm _ _ _ h2,h3.mono hV,h4,h5,h6⟩
 miss:=h.miss
 inj:=h.inj
 low:=h.low
 apart:=h.apart
theorem q59.moveC {lam':Nat→Nat} {tau':Nat→Array Value} {M':Nat→Prop} {n0:Nat} {z:ItP} {g:Nat} (h:q59 n0 κ w z g) (hV:∀ k p v,Cell.Rep κ w (.val k p) v→Cell.Rep (κ.ctl lam' tau' M') w' (.val k p) v)
  (hi:∀ (g:Nat) a b c d,w.heap[g]? = some (Obj.mapIter a b c d)→w'.heap[g]? = some (Obj.mapIter a b c d)) (hm:∀ (g:Nat) es c,w.heap[g]? = some (Qp es c)→w'.heap[g]? = some (Qp es c)):q59 n0 (κ.ctl lam' tau' M') w' z g:=by
 obtain ⟨h0,h⟩:=h;refine ⟨h0,?_⟩;rcases h with ⟨a,b,s,h1,h2⟩ | ⟨bm,es,clock,seen,c0,h1,h2,h3,h4,h5,h6,h7,h8⟩
 ·exact .inl ⟨a,b,s,hi _ _ _ _ _ h1,h2⟩
 ·exact .inr ⟨bm,es,clock,seen,c0,(show (κ.ctl lam' tau' M').src z.src=κ.src z.src by cases z.src <;> rfl).trans h1,hm _ _ _ h2,hi _ _ _ _ _ h3,h4,h5,h6,h7.mono hV,λx hx=>let ⟨e,s',q1,q2,q3,q4,q5⟩:=h8 x hx;⟨e,s',q1,q2,q3,q1l hV _ _ q4,q1l hV _ _ q5⟩⟩
theorem Rel.ctl {st':St} (h:Rel w0 κ st a w) {row:Option Nat} (hgr:w.grownBy w' row) (hrow:∀ k,row=some k→w0.n0≤k∧∃ o:Obj,o.ctl=true∧w.heap[k]? = some o) (hkeep:Keeps w w' κ.S)
  {M0' bzs' js':Nat→Prop} {lam0':Nat→Nat} {rd':Option Nat} {code':Nat→Code×Code} {lam':Nat→Nat} {tau':Nat→Array Value} {M':Nat→Prop}
  (hn:st'.n=st.n) (hrows:st'.rows=st.rows) (hmaps:st'.maps=st.maps∧st'.nest=st.nest∧st'.iters=st.iters∧st'.fam=st.fam)
  (henv:∀ t v,(st.get t).Rep κ w v→(st'.get t).Rep (κ.ctl lam' tau' M') w' v) (hbox:∀ b bs,st'.box b=some bs→∃ bs0,st.box b=some bs0∧∀ vs,q06 κ w bs0 vs→q06 (κ.ctl lam' tau' M') w' bs vs)
  (hsav:∀ t v,(look (.c (.one .any)) t st.sav).Rep κ w v→(look (.c (.one .any)) t st'.sav).Rep (κ.ctl lam' tau' M') w' v)
  (Ds:List Nat) (hDs:Ds.Nodup∧∀ D∈Ds,M' D) (hmarks:∀ D,M0' D∨M' D→w0.n0≤D∧w'.heap[D]? = some (.deferred (some []))) (hfresh:∀ D,M' D→¬ M0' D)
  (hbusy:∀ l,bzs' l→w0.n0≤l∧∃ r:Loop,w'.heap[l]? = some (.loop r)) (hlps:∀ (i:Nat) L,st'.lps[i]? = some L→LpRep w0.n0 code' (κ.ctl lam' tau' M') w' L)
  (hlpsd:∀ (i k:Nat) L L',st'.lps[i]? = some L→st'.lps[k]? = some L'→lam' L.j=lam' L'.j→i=k) (hscope:∀ j,js' j→lam' j=lam0' j∧∃ (i:Nat) (L:Lp),st'.lps[i]? = some L∧L.j=j) :
  Rel (w0.ctl M0' bzs' js' lam0' rd' code') (κ.ctl lam' tau' M') st' { a with defers:=Ds.map Mark } w':=by
 have hrw:∀ r,st'.row r=st.row r:=λr=>by show look? r st'.rows=look? r st.rows;rw [hrows]
 have hV:∀ k p v,Cell.Rep κ w (.val k p) v→Cell.Rep (κ.ctl lam' tau' M') w' (.val k p) v:=λk p v hv=>qes hkeep hv (λj e=>by cases e)
 have hsame:∀ (g:Nat) (o:Obj),o.ctl=false→w.heap[g]? = some o→w'.heap[g]? = some o:=λg o ho hg=>(hgr.block g (lt_of_some hg) (λe=>by
  obtain ⟨_,o',h1,h2⟩:=hrow g e.symm;rw [hg] at h2;injection h2 with h2;rw [← h2,ho] at h1;cases h1)).trans hg
 have hm:∀ (g:Nat) es c,w.heap[g]? = some (Qp es c)→w'.heap[g]? = some (Qp es c):=λg es c=>hsame g _ rfl
 have hrow2:∀ k,row=some k→w0.n0≤k∧(∀ b bs,st.box b=some bs→κ.β b≠k)∧∀ r x,st.row r=some x→(κ.ρ r).ownBlock≠some k:=λk hk=>by
  obtain ⟨h1,o,h2,h3⟩:=hrow k hk;refine ⟨h1,λb bs hb e=>?_,λr x hx e=>?_⟩
  ·obtain ⟨us,ty,hbk,_⟩:=h.box b bs hb
   rw [e] at hbk;rw [show w.heap[k]? = _ from hbk] at h3;injection h3 with h3;rw [← h3] at h2;cases h2
  ·obtain ⟨cells,ho,_⟩:=h.row r x hx
   exact q45 ho k e o (q5j h2) h3
 exact {
  defers:=⟨Ds,rfl,hDs⟩
  size:=by rw [hn];exact h.size
  env:=λt=>henv t _ (h.env t)
  box:=λb bs hb=>by
   obtain ⟨bs0,hb0,hc⟩:=hbox b bs hb;obtain ⟨us,ty,hbk,hr,h1,h2⟩:=h.box b bs0 hb0;exact ⟨us,ty,(hgr.block _ hbk.lt (λe=>(hrow2 _ e.symm).2.1 b bs0 hb0 rfl)).trans hbk,hc us hr,h1,h2⟩
  apart:=λb b' bs bs' hb hb' e=>by
   obtain ⟨bs0,hb0,_⟩:=hbox b bs hb;obtain ⟨bs0',hb0',_⟩:=hbox b' bs' hb';exact h.apart b b' _ _ hb0 hb0' e
  row:=λr x hx=>by
   rw [hrw] at hx;obtain ⟨cells,ho,hc,hnn⟩:=h.row r x hx;refine ⟨cells,ho.kept hgr ?_,hc.keeps (κ:=κ) (κ':=κ.ctl lam' tau' M') hkeep (λg hg _=>hg),λg hg=>⟨(hnn g hg).1,λb bs hb e=>?_⟩⟩
   ·show (κ.ρ r).ownBlock=none∨(κ.ρ r).ownBlock≠row
    cases hb:(κ.ρ r).ownBlock with
    | none=>exact .inl rfl
    | some g =>
     refine .inr λe=>?_
     exact (hrow2 g e.symm).2.2 r x hx hb
   ·obtain ⟨bs0,hb0,_⟩:=hbox b bs hb
    exact (hnn g hg).2 b bs0 hb0 e
  rows:=λr r' x x' hx hx' g hg hg'=>by
   rw [hrw] at hx hx';exact h.rows r r' x x' hx hx' g hg hg'
  bound:=λg hg=>Nat.lt_of_lt_of_le (h.bound g hg) hgr.size
  below:=h.below.grown hgr h.low (λk hk=>(hrow k hk).1)
  old:=h.old
  ext:={
   sav:=λt=>hsav t _ (h.ext.sav t)
   map:=λm y hy=>by
    have hy:look? m st'.maps=some y:=hy;rw [hmaps.1] at hy;obtain ⟨es,clock,h1,h2,h3⟩:=h.ext.map m y hy;exact ⟨es,clock,hm _ _ _ h1,h2.mono hV,h3⟩
   maps:=λm m' y y' hy hy' e=>by
    have hy:look? m st'.maps=some y:=hy;have hy':look? m' st'.maps=some y':=hy';rw [hmaps.1] at hy hy';exact h.ext.maps m m' y y' hy hy' e
   nest:=λy hy=>by
    rw [hmaps.2.1] at hy;rw [hmaps.1];exact (h.ext.nest y hy).moveC hV hm
   iter:=λi z hz=>by
    have hz:look? i st'.iters=some z:=hz;rw [hmaps.2.2.1] at hz;exact (h.ext.iter i z hz).moveC hV (λg a b c d=>hsame g _ rfl) hm
   iters:=λi j z z' hz hz' e=>by
    have hz:look? i st'.iters=some z:=hz;have hz':look? j st'.iters=some z':=hz';rw [hmaps.2.2.1] at hz hz';exact h.ext.iters i j z z' hz hz' e
   fam:=λy hy=>by
    rw [hmaps.2.2.2] at hy;have hF:=h.ext.fam y hy;refine hF.move rfl rfl ⟨rfl,rfl⟩ hV (λes c hh=>hm _ _ _ hh) (λg h1 h2 h3=>hgr.block g h2 (λe=>?_)) (λg h1 h2=>⟨h1.1,λb bs hb=>?_,λr x hx=>?_⟩) (λm z hz=>?_)
    ·obtain ⟨_,o,h4,h5⟩:=hrow g e.symm
     exact h3 o (q5j h4) h5
    ·obtain ⟨bs0,hb0,_⟩:=hbox b bs hb
     exact h1.2.1 b bs0 hb0
    ·rw [hrows] at hx;exact h1.2.2 r x hx
    ·rw [hmaps.1] at hz;exact hF.apart m z hz
   excl:=by rw [hmaps.2.2.2,hmaps.2.1];exact h.ext.excl
   marks:=hmarks
   fresh:=hfresh
   busy:=hbusy
   lps:=hlps
   lpsd:=hlpsd
   scope:=hscope } }
theorem qa0 {j:Nat}:∀ {l:List Lp},q5u j l=none→∀ (i:Nat) L,l[i]? = some L→L.j≠j
 | L0::r,h,0,L,hL=>by
  injection hL with hL;subst hL;have h:(bif L0.j.beq j then some L0 else q5u j r)=none:=h
  intro e;rw [e,Qm] at h;cases h
 | L0::r,h,i+1,L,hL=>by
  have h:(bif L0.j.beq j then some L0 else q5u j r)=none:=h
  cases e:L0.j.beq j
  ·rw [e] at h;exact qa0 h i L hL
  ·rw [e] at h;cases h
theorem qa5 {j:Nat} {L:Lp}:∀ {l:List Lp},q5u j l=some L→L.j=j∧∃ i:Nat,l[i]? = some L
 | [],h=>by cases h
 | L0::r,h=>by
  have h:(bif L0.j.beq j then some L0 else q5u j r)=some L:=h
  cases e:L0.j.beq j
  ·rw [e] at h
   obtain ⟨h1,i,h2⟩:=qa5 h;exact ⟨h1,i+1,h2⟩
  ·rw [e] at h;injection h with h;subst h
   exact ⟨Q9 e,0,rfl⟩
theorem q8p {j:Nat}:∀ {l:List Lp} {i:Nat} {L:Lp},(q3p j l)[i]? = some L→L.j≠j∧∃ k:Nat,l[k]? = some L
 | L0::r,i,L,h=>by
  have h:(bif L0.j.beq j then q3p j r else L0::q3p j r)[i]? = some L:=h
  cases e:L0.j.beq j
  ·rw [e] at h
   cases i with
   | zero =>
    injection h with h;subst h;exact ⟨λe'=>(by rw [e',Qm] at e;cases e),0,rfl⟩
   | succ i =>
    obtain ⟨h1,k,h2⟩:=q8p (l:=r) (i:=i) (L:=L) h;exact ⟨h1,k+1,h2⟩
  ·rw [e] at h
   obtain ⟨h1,k,h2⟩:=q8p (l:=r) (i:=i) (L:=L) h;exact ⟨h1,k+1,h2⟩
theorem qkm {j:Nat}:∀ {l:List Lp} {k:Nat} {L:Lp},l[k]? = some L→L.j≠j→∃ i:Nat,(q3p j l)[i]? = some L
 | L0::r,0,L,h,hne=>by
  injection h with h;subst h;have e:L0.j.beq j=false:=Bool.eq_false_iff.mpr λe=>hne (Q9 e)
  exact ⟨0,by show (bif L0.j.beq j then q3p j r else L0::q3p j r)[0]? = _;rw [e];rfl⟩
 | L0::r,k+1,L,h,hne=>by
  obtain ⟨i,hi⟩:=qkm (l:=r) (k:=k) (L:=L) h hne;cases e:L0.j.beq j
  ·exact ⟨i+1,by show (bif L0.j.beq j then q3p j r else L0::q3p j r)[i+1]? = _;rw [e];exact hi⟩
  ·exact ⟨i,by show (bif L0.j.beq j then q3p j r else L0::q3p j r)[i]? = _;rw [e];exact hi⟩
theorem qjq {j:Nat} (f:Lp→Nat):∀ {l:List Lp},(∀ (i k:Nat) L L',l[i]? = some L→l[k]? = some L'→f L=f L'→i=k)→∀ (i k:Nat) L L',(q3p j l)[i]? = some L→(q3p j l)[k]? = some L'→f L=f L'→i=k
 | [],_,i,k,L,L',h,_,_=>by cases h
 | L0::r,hd,i,k,L,L',h,h',e=>by
  have ih:=qjq (j:=j) f (l:=r) (λi k L L' h h' e=>by have:=hd (i+1) (k+1) L L' h h' e;omega)
  have h:(bif L0.j.beq j then q3p j r else L0::q3p j r)[i]? = some L:=h
  have h':(bif L0.j.beq j then q3p j r else L0::q3p j r)[k]? = some L':=h'
  cases eb:L0.j.beq j
  ·rw [eb] at h h'
   cases i with
   | zero =>
    cases k with
    | zero=>rfl
    | succ k =>
     injection h with h;subst h;obtain ⟨_,k',hk'⟩:=q8p (l:=r) (i:=k) (L:=L') h';have:=hd 0 (k'+1) L0 L' rfl hk' e;omega
   | succ i =>
    cases k with
    | zero =>
     injection h' with h';subst h';obtain ⟨_,k',hk'⟩:=q8p (l:=r) (i:=i) (L:=L) h;have:=hd (k'+1) 0 L L0 hk' rfl e;omega
    | succ k=>rw [ih i k L L' h h' e]
  ·rw [eb] at h h'
   exact ih i k L L' h h' e
theorem qco {j:Nat} {b:Bool} {x:Option Jmp}:∀ {l:List Lp} {i:Nat} {L:Lp},(qa1 j b x l)[i]? = some L→∃ L0,l[i]? = some L0∧((L0.j=j∧L={ L0 with busy:=b,jump:=x })∨(L0.j≠j∧L=L0))
 | L0::r,0,L,h=>by
  have h:some (bif L0.j.beq j then { L0 with busy:=b,jump:=x } else L0)=some L:=h
  injection h with h;cases e:L0.j.beq j
  ·rw [e] at h;exact ⟨L0,rfl,.inr ⟨λe'=>(by rw [e',Qm] at e;cases e),h.symm⟩⟩
  ·rw [e] at h;exact ⟨L0,rfl,.inl ⟨Q9 e,h.symm⟩⟩
 | L0::r,i+1,L,h=>qco (l:=r) (i:=i) (L:=L) h
theorem setLp_has {j:Nat} {b:Bool} {x:Option Jmp}:∀ {l:List Lp} {i:Nat} {L0:Lp},l[i]? = some L0→∃ L,(qa1 j b x l)[i]? = some L∧L.j=L0.j
 | L0::r,0,L,h=>by
  injection h with h;subst h;refine ⟨_,rfl,?_⟩;show (bif L0.j.beq j then { L0 with busy:=b,jump:=x } else L0).j=L0.j
  cases L0.j.beq j <;> rfl
 | L0::r,i+1,L,h=>setLp_has (l:=r) (i:=i) (L0:=L) h
theorem LpRep.moveC {κ':Cx} {n0:Nat} {C C':Nat→Code×Code} {L L':Lp} {g:AV→AV} (h:LpRep n0 C κ w L) (e:LpEq g L L') (hl:κ'.μ.lam L.j=κ.μ.lam L.j) (ht:κ'.μ.tau L.j=κ.μ.tau L.j) (hC:C' L.j=C L.j) (H:∀ (c:AV) v,c.Rep κ w v→(g c).Rep κ' w' v)
  (hm:∀ r:Loop,w.heap[κ.μ.lam L.j]? = some (.loop r)→w'.heap[κ.μ.lam L.j]? = some (.loop r)):LpRep n0 C' κ' w' L' where
 low:=by rw [e.j,hl];exact h.low
 size:=by rw [e.j,ht,e.n];exact h.size
 rec_:=by
  obtain ⟨r,h1,h2,h3,h4,h5,h6,h7⟩:=h.rec_;rw [e.j,hl,ht,hC,e.ps,e.busy,e.jump];exact ⟨r,hm _ h1,h2,h3,h4,h5,h6,h7⟩
 env:=λt=>by rw [e.j,ht,e.env];exact H _ _ (h.env t)
theorem Rel.pushAny (h:Rel w0 κ st a w) (hf:q5u st.off st.lps=none) {ps:Array Tmp} {x y:Code} {r:Loop} (hr:r.tmps=a.tmps∧r.params=ps∧r.assign=x∧r.body=y∧r.state=.ready∧r.pending=none)
  (hgr:w.grownBy w' none) (mk:List Nat) (hmk:mk.Nodup∧∀ D∈mk,w.heap.size≤D∧w'.heap[D]? = some (.deferred (some []))) {l:Nat} (hl:w.heap.size≤l) (hrec:w'.heap[l]? = some (.loop r)) :
  ∃ κ',Rel (w0.ctl w0.M0 w0.bzs (λj=>w0.js j∨j=st.off) (λj=>if j=st.off then l else w0.lam0 j) w0.rd (λj=>if j=st.off then (x,y) else w0.code j)) κ' (st.pushLp ps.toList) { a with defers:=mk.map Mark++a.defers } w'∧κ'.μ.lam st.off=l∧κ'.ptr=κ.ptr:=by
 have hkeep:Keeps w w' κ.S:=⟨hgr.size,λg o _ hlt=>World.cell?_of_block (hgr.block g hlt (by simp))⟩
 have hsame:∀ (g:Nat) (o:Obj),w.heap[g]? = some o→w'.heap[g]? = some o:=λg o hg=>(hgr.block g (lt_of_some hg) (by simp)).trans hg
 obtain ⟨Ds,hDs,hnd,hDM⟩:=h.defers
 let lam':Nat→Nat:=λi=>if i=st.off then l else κ.μ.lam i
 let tau':Nat→Array Value:=λi=>if i=st.off then a.tmps else κ.μ.tau i
 have H:∀ {M':Nat→Prop} (c:Cell) v,c.Rep κ w v→(c.q44 st.off).Rep (κ.ctl lam' tau' M') w' v:=λc v hr=>ctl_drop hkeep hr
 have ha:({ a with defers:=mk.map Mark++a.defers }:Act)={ a with defers:=(mk++Ds).map Mark }:=by rw [hDs,List.map_append]
 rw [ha];refine ⟨κ.ctl lam' tau' (λD=>κ.M D∨D∈mk),Rel.ctl (st':=st.pushLp ps.toList) h (row:=none) hgr (λk hk=>by cases hk) hkeep rfl rfl ⟨rfl,rfl,rfl,rfl⟩ (λt v hv=>?_) (λb bs hb=>?_) (λt v hv=>?_) (mk++Ds) ⟨?_,λD hD=>?_⟩ (λD hD=>?_) (λD hD h0=>?_) (λg hg=>?_) (λi L hL=>?_) (λi k L L' hL hL' e=>?_) (λj hj=>?_),by show (if _ then _ else _)=_;rw [if_pos rfl],rfl⟩
 ·have e:(st.pushLp ps.toList).get t=(st.get t).mapC (Cell.q44 st.off):=qjk _ rfl st t
  rw [e];exact q3h H hv
 ·obtain ⟨bs0,h1,rfl⟩:=qja (Cell.q44 st.off) st hb
  exact ⟨bs0,h1,λvs hv=>q4y H hv⟩
 ·show AV.Rep _ _ (look _ t (st.sav.map λ(t,v)=>(t,v.mapC (Cell.q44 st.off)))) _
  rw [q3w _ rfl];exact q3h H hv
 ·refine List.nodup_append.2 ⟨hmk.1,hnd,λD hD D' hD' e=>?_⟩
  subst e;have h1:=(hmk.2 D hD).1;have h2:=lt_of_some (h.ext.marks D (.inr (hDM D hD'))).2;omega
 ·rcases List.mem_append.1 hD with h1 | h1
  ·exact .inr h1
  ·exact .inl (hDM D h1)
 ·rcases hD with h1 | h1 | h1
  ·exact ⟨(h.ext.marks D (.inl h1)).1,hsame _ _ (h.ext.marks D (.inl h1)).2⟩
  ·exact ⟨(h.ext.marks D (.inr h1)).1,hsame _ _ (h.ext.marks D (.inr h1)).2⟩
  ·exact ⟨Nat.le_trans h.low (hmk.2 D h1).1,(hmk.2 D h1).2⟩
 ·rcases hD with h1 | h1
  ·exact h.ext.fresh D h1 h0
  ·have h2:=lt_of_some (h.ext.marks D (.inl h0)).2
   have:=(hmk.2 D h1).1
   omega
 ·obtain ⟨h1,r,h2⟩:=h.ext.busy g hg
  exact ⟨h1,r,hsame _ _ h2⟩
 ·cases i with
  | zero =>
   injection hL with hL;subst hL;refine ⟨?_,?_,⟨r,?_,?_,?_,?_,?_,?_,?_⟩,λt=>?_⟩
   ·show _≤(if st.off=st.off then l else _);rw [if_pos rfl];exact Nat.le_trans h.low hl
   ·show (if st.off=st.off then a.tmps else _).size=st.n;rw [if_pos rfl];exact h.size
   ·show w'.heap[if st.off=st.off then l else _]? = _;rw [if_pos rfl];exact hrec
   ·show r.tmps=if st.off=st.off then a.tmps else _;rw [if_pos rfl];exact hr.1
   ·rw [hr.2.1]
   ·show r.assign=(if st.off=st.off then (x,y) else _).1;rw [if_pos rfl];exact hr.2.2.1
   ·show r.body=(if st.off=st.off then (x,y) else _).2;rw [if_pos rfl];exact hr.2.2.2.1
   ·exact hr.2.2.2.2.1
   ·exact hr.2.2.2.2.2
   ·show AV.Rep _ _ (look _ t (st.env.map λ(t,v)=>(t,v.mapC (Cell.q44 st.off)))) ((if st.off=st.off then a.tmps else _).getD t Qv)
    rw [if_pos rfl,q3w _ rfl];exact q3h H (h.env t)
  | succ i =>
   have hL:(st.lps.map (Lp.mapA (AV.mapC (Cell.q44 st.off))))[i]? = some L:=hL;obtain ⟨L0,h1,e⟩:=q4v (AV.mapC (Cell.q44 st.off)) rfl st.lps i L hL;have hne:=qa0 hf i L0 h1;exact (h.ext.lps i L0 h1).moveC e (if_neg hne) (if_neg hne) (if_neg hne) (λc v hr=>q3h H hr) (λr hr=>hsame _ _ hr)
 ·have old:∀ (i:Nat) L,(st.lps.map (Lp.mapA (AV.mapC (Cell.q44 st.off))))[i]? = some L→∃ L0,st.lps[i]? = some L0∧L.j=L0.j∧lam' L.j=κ.μ.lam L0.j∧κ.μ.lam L0.j<w.heap.size:=λi L hL=>by
   obtain ⟨L0,h1,e⟩:=q4v (AV.mapC (Cell.q44 st.off)) rfl st.lps i L hL;have hne:=qa0 hf i L0 h1;obtain ⟨r,h2,_⟩:=(h.ext.lps i L0 h1).rec_;refine ⟨L0,h1,e.j,?_,lt_of_some h2⟩;show (if L.j=st.off then l else κ.μ.lam L.j)=_
   rw [e.j,if_neg hne]
  have new:lam' st.off=l:=if_pos rfl;cases i with
  | zero =>
   cases k with
   | zero=>rfl
   | succ k =>
    injection hL with hL;subst hL;obtain ⟨L0,h1,h2,h3,h4⟩:=old k L' hL';rw [h3,show lam' (⟨st.off,_,_,_,_,_⟩:Lp).j=l from new] at e;omega
  | succ i =>
   cases k with
   | zero =>
    injection hL' with hL';subst hL';obtain ⟨L0,h1,h2,h3,h4⟩:=old i L hL;rw [h3,show lam' (⟨st.off,_,_,_,_,_⟩:Lp).j=l from new] at e;omega
   | succ k =>
    obtain ⟨L0,h1,h2,h3,h4⟩:=old i L hL;obtain ⟨L0',h1',h2',h3',h4'⟩:=old k L' hL';rw [h3,h3'] at e;rw [h.ext.lpsd i k L0 L0' h1 h1' e]
 ·rcases Qt (j=st.off) with e | e
  ·subst e
   exact ⟨by show (if _ then _ else _)=(if _ then _ else _);rw [if_pos rfl,if_pos rfl],0,_,rfl,rfl⟩
  ·obtain ⟨h1,i,L,h2,h3⟩:=h.ext.scope j (hj.resolve_right e)
   refine ⟨by show (if _ then _ else _)=(if _ then _ else _);rw [if_neg e,if_neg e];exact h1,i+1,Lp.mapA (AV.mapC (Cell.q44 st.off)) L,?_,h3⟩
   show (st.lps.map (Lp.mapA (AV.mapC (Cell.q44 st.off))))[i]? = _;rw [List.getElem?_map,h2];rfl
theorem qar {l:Nat} {o:Obj}:w.grownBy (w.putObj l o) (some l):=grownBy_putObj' w l o
theorem q7r {l:Nat} {o o':Obj} (hl:w.heap[l]? = some o) (ho:o.ctl=true) (ho':o'.ctl=true) (S:Nat→Prop):Keeps w (w.putObj l o') S:=q5x (q5j ho) (q5j ho') hl S
theorem q8h (hk:Keeps w w' κ.S) {M':Nat→Prop} {c:Cell} {v:Value} (h:c.Rep κ w v):c.Rep (κ.ctl κ.μ.lam κ.μ.tau M') w' v:=qes hk h (λ_ _=>rfl)
theorem Rel.qa1 (h:Rel w0 κ st a w) {j i0:Nat} {L0:Lp} (hi:st.lps[i0]? = some L0) (hj:L0.j=j) {r r':Loop} (hr:w.heap[κ.μ.lam j]? = some (.loop r)) (b:Bool) (x:Option Jmp)
  (hr':r'.tmps=r.tmps∧r'.params=r.params∧r'.assign=r.assign∧r'.body=r.body∧r'.state=(bif b then .busy else match x with | none=>.ready | some _=>.done)∧r'.pending=x.map Jmp.code) :
  Rel w0 κ { st with lps:=R.qa1 j b x st.lps } a (w.putObj (κ.μ.lam j) (.loop r')):=by
 have hkeep:=q7r (o':=.loop r') hr rfl rfl κ.S;have H:∀ (c:Cell) v,c.Rep κ w v→c.Rep (κ.ctl κ.μ.lam κ.μ.tau κ.M) (w.putObj (κ.μ.lam j) (.loop r')) v:=λc v hv=>q8h hkeep hv
 have hlow:w0.n0≤κ.μ.lam j:=by have:=(h.ext.lps i0 L0 hi).low;rwa [hj] at this
 have hoth:∀ (g:Nat) (o:Obj),g≠κ.μ.lam j→w.heap[g]? = some o→(w.putObj (κ.μ.lam j) (.loop r')).heap[g]? = some o:=λg o hne hg=>(Qf hne).trans hg
 obtain ⟨tm,dfs⟩:=a;obtain ⟨Ds,hDs,hnd,hDM⟩:=h.defers;have hDs:dfs=Ds.map Mark:=hDs;subst hDs;refine Rel.ctl (st':={ st with lps:=R.qa1 j b x st.lps }) (M0':=w0.M0) (bzs':=w0.bzs) (js':=w0.js) (lam0':=w0.lam0) (rd':=w0.rd) (code':=w0.code) (lam':=κ.μ.lam) (tau':=κ.μ.tau) (M':=κ.M) (a:=⟨tm,Ds.map Mark⟩) h (row:=some (κ.μ.lam j)) qar (λk hk=>by injection hk with hk;subst hk;exact ⟨hlow,_,rfl,hr⟩) hkeep rfl rfl ⟨rfl,rfl,rfl,rfl⟩
  (λt v hv=>AV.Rep.mono H hv) (λb bs hb=>⟨bs,hb,λvs hv=>hv.mono H⟩) (λt v hv=>AV.Rep.mono H hv) Ds ⟨hnd,hDM⟩ (λD hD=>?_) h.ext.fresh (λg hg=>?_) (λi L hL=>?_) (λi k L L' hL hL' e=>?_) (λj' hj'=>?_)
 ·have:=h.ext.marks D hD
  exact ⟨this.1,hoth _ _ (λe=>by rw [e,hr] at this;cases this.2) this.2⟩
 ·obtain ⟨h1,r1,h2⟩:=h.ext.busy g hg
  refine ⟨h1,?_⟩;rcases Qt (g=κ.μ.lam j) with e | e
  ·exact ⟨r',by rw [e];exact Qg (lt_of_some hr)⟩
  ·exact ⟨r1,hoth _ _ e h2⟩
 ·obtain ⟨L1,h1,h2⟩:=qco hL
  rcases h2 with ⟨hj1,rfl⟩ | ⟨hj1,rfl⟩
  ·have h3:=h.ext.lps i L1 h1
   obtain ⟨r1,q1,q2,q3,q4,q5,q6,q7⟩:=h3.rec_;rw [hj1] at q1 q2 q4 q5;rw [hr] at q1;injection q1 with q1;injection q1 with q1;subst q1;refine ⟨h3.low,h3.size,⟨r',?_,?_,?_,?_,?_,?_,?_⟩,λt=>AV.Rep.mono H (h3.env t)⟩
   ·show (w.putObj (κ.μ.lam j) (.loop r')).heap[κ.μ.lam L1.j]? = _
    rw [hj1];exact Qg (lt_of_some hr)
   ·show r'.tmps=κ.μ.tau L1.j;rw [hj1,hr'.1];exact q2
   ·rw [hr'.2.1];exact q3
   ·show r'.assign=(w0.code L1.j).1;rw [hj1,hr'.2.2.1];exact q4
   ·show r'.body=(w0.code L1.j).2;rw [hj1,hr'.2.2.2.1];exact q5
   ·exact hr'.2.2.2.2.1
   ·exact hr'.2.2.2.2.2
  ·refine (h.ext.lps i L h1).moveC (κ':=κ.ctl κ.μ.lam κ.μ.tau κ.M) (LpEq.refl L) rfl rfl rfl (λc v hv=>AV.Rep.mono H hv) (λr1 hr1=>hoth _ _ (λe=>?_) hr1)
   have:=h.ext.lpsd i i0 L L0 h1 hi (by rw [e,hj])
   subst this;rw [hi] at h1;injection h1 with h1;subst h1;exact hj1 hj
 ·obtain ⟨L1,h1,h2⟩:=qco hL
  obtain ⟨L2,h3,h4⟩:=qco hL';have e1:L.j=L1.j:=by rcases h2 with ⟨_,rfl⟩ | ⟨_,rfl⟩ <;> rfl
  have e2:L'.j=L2.j:=by rcases h4 with ⟨_,rfl⟩ | ⟨_,rfl⟩ <;> rfl
  rw [e1,e2] at e;exact h.ext.lpsd i k L1 L2 h1 h3 e
 ·obtain ⟨h1,i,L,h2,h3⟩:=h.ext.scope j' hj'
  obtain ⟨L',h4,h5⟩:=setLp_has (j:=j) (b:=b) (x:=x) h2;exact ⟨h1,i,L',h4,h5.trans h3⟩
theorem Rel.endLp {j l:Nat} {c:Code×Code} (h:Rel (w0.ctl w0.M0 w0.bzs (λi=>w0.js i∨i=j) (λi=>if i=j then l else w0.lam0 i) w0.rd (λi=>if i=j then c else w0.code i)) κ st a w) (hnj:¬ w0.js j) {r r':Loop} (hr:w.heap[l]? = some (.loop r)) :
  κ.μ.lam j=l∧Rel w0 κ (st.popLp j) a (w.putObj l (.loop r')):=by
 obtain ⟨hl,i0,L0,hi,hj⟩:=h.ext.scope j (.inr rfl);have hl:κ.μ.lam j=l:=by rw [hl];exact if_pos rfl
 refine ⟨hl,?_⟩;have hkeep:=q7r (o':=.loop r') hr rfl rfl κ.S;have H:∀ (c:Cell) v,c.Rep κ w v→c.Rep (κ.ctl κ.μ.lam κ.μ.tau κ.M) (w.putObj l (.loop r')) v:=λc v hv=>q8h hkeep hv
 have hlow:w0.n0≤l:=by have:=(h.ext.lps i0 L0 hi).low;rw [hj,hl] at this;exact this
 have hoth:∀ (g:Nat) (o:Obj),g≠l→w.heap[g]? = some o→(w.putObj l (.loop r')).heap[g]? = some o:=λg o hne hg=>(Qf hne).trans hg
 obtain ⟨tm,dfs⟩:=a;obtain ⟨Ds,hDs,hnd,hDM⟩:=h.defers;have hDs:dfs=Ds.map Mark:=hDs;subst hDs;refine Rel.ctl (st':=st.popLp j) (M0':=w0.M0) (bzs':=w0.bzs) (js':=w0.js) (lam0':=w0.lam0) (rd':=w0.rd) (code':=w0.code) (lam':=κ.μ.lam) (tau':=κ.μ.tau) (M':=κ.M) (a:=⟨tm,Ds.map Mark⟩) h (row:=some l) qar (λk hk=>by injection hk with hk;subst hk;exact ⟨hlow,_,rfl,hr⟩) hkeep rfl rfl ⟨rfl,rfl,rfl,rfl⟩
  (λt v hv=>AV.Rep.mono H hv) (λb bs hb=>⟨bs,hb,λvs hv=>hv.mono H⟩) (λt v hv=>AV.Rep.mono H hv) Ds ⟨hnd,hDM⟩ (λD hD=>?_) h.ext.fresh (λg hg=>?_) (λi L hL=>?_) (qjq (λL=>κ.μ.lam L.j) h.ext.lpsd) (λj' hj'=>?_)
 ·have:=h.ext.marks D hD
  exact ⟨this.1,hoth _ _ (λe=>by rw [e,hr] at this;cases this.2) this.2⟩
 ·obtain ⟨h1,r1,h2⟩:=h.ext.busy g hg
  refine ⟨h1,?_⟩;rcases Qt (g=l) with e | e
  ·exact ⟨r',by rw [e];exact Qg (lt_of_some hr)⟩
  ·exact ⟨r1,hoth _ _ e h2⟩
 ·obtain ⟨hne,k,hk⟩:=q8p hL
  refine (h.ext.lps k L hk).moveC (κ':=κ.ctl κ.μ.lam κ.μ.tau κ.M) (LpEq.refl L) rfl rfl (if_neg hne).symm (λc v hv=>AV.Rep.mono H hv) (λr1 hr1=>hoth _ _ (λe=>?_) hr1)
  have:=h.ext.lpsd k i0 L L0 hk hi (by rw [e,hj,hl])
  subst this;rw [hi] at hk;injection hk with hk;subst hk;exact hne hj
 ·obtain ⟨h1,i,L,h2,h3⟩:=h.ext.scope j' (.inl hj')
  have hne:j'≠j:=λe=>hnj (e▸hj')
  obtain ⟨k,hk⟩:=qkm (j:=j) h2 (by rw [h3];exact hne)
  exact ⟨by rw [h1];exact if_neg hne,k,L,hk,h3⟩
theorem Rel.remark (h:Rel w0 κ st a w) {M0' bzs' M':Nat→Prop} (rd':Option Nat) (Ds:List Nat) (hDs:Ds.Nodup∧∀ D∈Ds,M' D) (hM:∀ D,M0' D∨M' D→w0.M0 D∨κ.M D) (hf:∀ D,M' D→¬ M0' D) (hb:∀ l,bzs' l→w0.n0≤l∧∃ r:Loop,w.heap[l]? = some (.loop r)) :
  Rel (w0.ctl M0' bzs' w0.js w0.lam0 rd' w0.code) (κ.ctl κ.μ.lam κ.μ.tau M') st { a with defers:=Ds.map Mark } w:=by
 have hkeep:Keeps w w κ.S:=Keeps.refl w κ.S;have H:∀ (c:Cell) v,c.Rep κ w v→c.Rep (κ.ctl κ.μ.lam κ.μ.tau M') w v:=λc v hv=>q8h hkeep hv
 exact Rel.ctl (st':=st) h (row:=none) ⟨rfl,rfl,rfl,Nat.le_refl _,λ_ _ _=>rfl⟩ (λk hk=>by cases hk) hkeep rfl rfl ⟨rfl,rfl,rfl,rfl⟩
  (λt v hv=>AV.Rep.mono H hv) (λb bs hb=>⟨bs,hb,λvs hv=>hv.mono H⟩) (λt v hv=>AV.Rep.mono H hv) Ds hDs (λD hD=>h.ext.marks D (hM D hD)) hf hb
  (λi L hL=>(h.ext.lps i L hL).moveC (κ':=κ.ctl κ.μ.lam κ.μ.tau M') (LpEq.refl L) rfl rfl rfl (λc v hv=>AV.Rep.mono H hv) (λr hr=>hr)) h.ext.lpsd h.ext.scope
theorem Rel.shut1 {D:Nat} {Ds:List Nat} {tm:Array Value} (h:Rel w0 κ st ⟨tm,(D::Ds).map Mark⟩ w) :
  Rel w0 (κ.ctl κ.μ.lam κ.μ.tau (λD'=>κ.M D'∧D'≠D)) st ⟨tm,Ds.map Mark⟩ (w.putObj D (.deferred none))∧w.heap[D]? = some (.deferred (some [])):=by
 obtain ⟨Ds',hDs,hnd,hDM⟩:=h.defers;have hinj:∀ a b:Nat,Mark a=Mark b→a=b:=λa b e=>by unfold Mark at e;injection e with e _;injection e
 have hDs:Ds'=D::Ds:=by
  have:∀ l l':List Nat,l.map Mark=l'.map Mark→l=l':=λl=>by
   induction l with
   | nil=>intro l' e;cases l' with | nil=>rfl | cons _ _=>cases e
   | cons x l ih=>intro l' e;cases l' with | nil=>cases e | cons y l'=>injection e with e1 e2;rw [hinj _ _ e1,ih l' e2]
  exact this _ _ hDs.symm
 subst hDs;have hD:=h.ext.marks D (.inr (hDM D (Qi ..)));have hkeep:=q7r (o':=.deferred none) hD.2 rfl rfl κ.S;have H:∀ (c:Cell) v,c.Rep κ w v→c.Rep (κ.ctl κ.μ.lam κ.μ.tau (λD'=>κ.M D'∧D'≠D)) (w.putObj D (.deferred none)) v:=λc v hv=>q8h hkeep hv
 have hoth:∀ (g:Nat) (o:Obj),g≠D→w.heap[g]? = some o→(w.putObj D (.deferred none)).heap[g]? = some o:=λg o hne hg=>(Qf hne).trans hg
 have hlp:∀ (g:Nat) (r:Loop),w.heap[g]? = some (.loop r)→(w.putObj D (.deferred none)).heap[g]? = some (.loop r):=λg r hg=>hoth g _ (λe=>by rw [e,hD.2] at hg;cases hg) hg
 refine ⟨Rel.ctl (st':=st) (M0':=w0.M0) (bzs':=w0.bzs) (js':=w0.js) (lam0':=w0.lam0) (rd':=w0.rd) (code':=w0.code) (a:=⟨tm,(D::Ds).map Mark⟩) h (row:=some D) qar (λk hk=>by injection hk with hk;subst hk;exact ⟨hD.1,_,rfl,hD.2⟩) hkeep rfl rfl ⟨rfl,rfl,rfl,rfl⟩
  (λt v hv=>AV.Rep.mono H hv) (λb bs hb=>⟨bs,hb,λvs hv=>hv.mono H⟩) (λt v hv=>AV.Rep.mono H hv) Ds ⟨(Qw.1 hnd).2,λD' hD'=>⟨hDM D' (Qq _ hD'),λe=>(Qw.1 hnd).1 (e▸hD')⟩⟩ (λD' hD'=>?_) (λD' hD'=>h.ext.fresh D' hD'.1) (λg hg=>?_)
  (λi L hL=>(h.ext.lps i L hL).moveC (κ':=κ.ctl κ.μ.lam κ.μ.tau (λD'=>κ.M D'∧D'≠D)) (LpEq.refl L) rfl rfl rfl (λc v hv=>AV.Rep.mono H hv) (λr hr=>hlp _ r hr)) h.ext.lpsd h.ext.scope,hD.2⟩
 ·have hne:D'≠D:=by
   rcases hD' with h1 | h1
   ·exact λe=>h.ext.fresh D (hDM D (Qi ..)) (e▸h1)
   ·exact h1.2
  have:=h.ext.marks D' (hD'.imp id (λh=>h.1))
  exact ⟨this.1,hoth _ _ hne this.2⟩
 ·obtain ⟨h1,r,h2⟩:=h.ext.busy g hg
  exact ⟨h1,r,hlp _ _ h2⟩
theorem Rel.shut {tm:Array Value}:∀ (Ds:List Nat) (κ:Cx) (w:World),Rel w0 κ st ⟨tm,Ds.map Mark⟩ w →
  ∃ M' w',Rel w0 (κ.ctl κ.μ.lam κ.μ.tau M') st ⟨tm,[]⟩ w'∧(∀ (c:Cell) v,c.Rep κ w v→c.Rep (κ.ctl κ.μ.lam κ.μ.tau M') w' v) ∧
   ∀ (F:Fence) (n:Nat) (fn:Func) (tmps:Array Value) (X:Ending→World→Prop) (u:FrameMode),u≠.run→LeavesIn F n P fn tmps X [] u w'→LeavesInM F n P fn tmps X (Ds.map Mark) u w
 | [],κ,w,h=>⟨κ.M,w,h,λc v hv=>hv,λF n fn tmps X u hu hl=>hl⟩
 | D::Ds,κ,w,h=>by
  obtain ⟨h1,hD⟩:=h.shut1;obtain ⟨M',w',h2,h3,h4⟩:=Rel.shut Ds _ _ h1;refine ⟨M',w',h2,λc v hv=>h3 c v (q8h (q7r (o':=.deferred none) hD rfl rfl κ.S) hv),λF n fn tmps X u hu hl=>?_⟩
  exact ⟨hu,.inl ⟨D,_,rfl,run_takeDeferred hD,h4 F n fn tmps X u hu hl⟩⟩
end
end R
namespace R
def FW (ρ:Option Nat):Fence:={ Qr with round:=ρ }
section
variable {w0:Base} {w w':World} {κ:Cx} {st:St} {a:Act} {P:Program} {cons:List Con} {ρ:Option Nat} {n:Nat}
theorem qem {f:FuncId} {args:Array Value} {R:Ending→World→Prop} (h:Calls P f args w R):CallsIn (FW ρ) n P f args w R :=
 show CallsIn Qr n P f args w R from callsIn_wide.2 h
theorem roundIn_FW {l:Nat} {f:FuncId} {tmps:Array Value} {x y:Code} {R:Ending→World→Prop} (h:RoundIn Qr n P l f tmps x y w R):RoundIn (FW ρ) n P l f tmps x y w R:=h
theorem rowsIn_FW {row:String} {args:Array Value} {R:Value→World→Prop} (h:Rows P row args w R):RowsIn (FW ρ) n P row args w R:=λc cs _=>by
 obtain ⟨v,w',r,s⟩:=h c cs;exact ⟨v,w',r,show StepsIn (Machine.fenced P Qr) P _ _ from stepsIn_wide.2 s⟩
theorem oper_in {o:Oper} (hd:q3d o=true) {next:Act→World→Prop} {Q:Exit→Act→World→Prop} (h:o.wp P a w next Q):o.wpIn (FW ρ) n P a w next Q:=by
 refine ⟨λ_ _=>trivial,?_⟩
 rw [Qs _ _ _ (λc e=>by unfold q3d at hd;rw [e] at hd;cases hd)]
 unfold Oper.wp at h;generalize (execOp a.eval o).run P w=r at *
 cases r with
 | ok x w' =>
  cases x with
  | enter f args=>exact ⟨λh=>(by cases h),qem h⟩
  | row row args=>exact ⟨λh=>(by cases h),rowsIn_FW h⟩
  | round=>exact h.elim
  | _=>exact h
 | halt x w'=>cases x <;> exact h
theorem q9y {ops:Array Oper} (hnd:∀ (i:Nat) o,ops[i]? = some o→q3d o=true) {Q:Exit→Act→World→Prop} (hQ:∀ a w,¬ Q .outgrown a w):∀ (f:Nat) (listed:Array Bool) (a:Act) (w:World),wpAny P .any ops Q f listed a w→wpAnyIn (FW ρ) n P .any ops Q f listed a w
 | 0,listed,a,w,h=>h
 | f+1,listed,a,w,h=>⟨h.1,λi hi=>by
  have h:=h.2 i hi;unfold wpOp at h;unfold wpOpIn;cases ho:ops[i]? with
  | none=>simp only [ho] at h;exact q9y hnd hQ f _ a w h
  | some o =>
   simp only [ho] at h ⊢;cases hw:Q0 o (yielded ops a.tmps)
   ·rw [hw] at h
    rw [if_neg (by decide)] at h ⊢
    exact ⟨λ_ _=>trivial,q9y hnd hQ f _ _ w h⟩
   ·rw [hw] at h
    rw [if_pos rfl] at h ⊢;rcases h with h | ⟨_,a',w',h⟩
    ·exact Qz (λa w h=>q9y hnd hQ f _ a w h) (oper_in (hnd i o ho) h)
    ·exact (hQ a' w' h).elim⟩
theorem qk8 (hcons:∀ c∈cons,c.Holds P) {C:Nat→Option (Code×Code)} {H:Inl} (hH:q34 P C H) (hY:q50 P C H) (hag:Agree w0 C) {KP:Cell→St→Prop} {Q:Exit→Act→World→Prop} (hP:FitsP w0 KP Q) (o:Oper) (hd:q3d o=true) (κ:Cx) (st:St) (a:Act) (w:World) (K:St→Prop) (next:Act→World→Prop) (h:vopY P cons H KP o st K) (hR:Rel w0 κ st a w) (hF:Fits w0 K next):o.wpIn (FW ρ) n P a w next Q:=by
 unfold vopY at h;split at h
 ·rename_i x args ts ho
  have hx:=hR.ev x;split at h
  ·rename_i j hj
   rw [hj] at hx;have hx:a.eval x=.func (.yield (κ.μ.lam j)) #[] #[]:=hx;unfold vin at h;split at h
   ·rename_i xs hxs
    cases hd:q0a st o.dst
    ·rw [hd] at h;exact h.elim
    ·rw [hd] at h
     have hargs:q0f κ w (q8i []++xs++q8i []) (args.toList.map a.eval):=by
      have:=((q81 (κ:=κ) (w:=w) []).append (q7t hR _ _ hxs)).append (q81 [])
      simpa using this
     obtain ⟨r,h1,h2,h3⟩:=hY w0 hag j _ _ st _ _ κ a w _ h hR hargs;have hrun:(execOp a.eval o).run P w=.ok (.round (κ.μ.lam j) r.fn ((r.params.zip (args.map a.eval)).foldl (λtmps (t,a)=>tmps.setIfInBounds t a) r.tmps) r.assign r.body) w:=by
      have hy:=run_yield (P:=P) (args:=args.map a.eval) h1 (by rw [Array.size_map,← h2,List.length_map];rfl)
      simp [execOp,ho,resolve,hx,Deferred.ofValue,invoke,hy]
     refine ⟨λ_ _=>trivial,?_⟩
     rw [Qs _ _ _ (λc e=>by rw [ho] at e;cases e),hrun,Oper.uponIn_round]
     refine ⟨λh=>(by cases h),RoundIn.mono (roundIn_FW (by
      have e:(args.toList.map a.eval).toArray=args.map a.eval:=by rw [← Array.toList_map,Array.toArray_toList]
      have:=h3 (n-1)
      rw [e] at this;exact this)) ?_⟩
     rintro e w' ⟨v,rs,κ',st',rfl,hK,hR',hr⟩;have hn:st'.n=st.n:=hR'.size.symm.trans hR.size;exact hF κ' _ _ _ hK (hR'.put (by unfold q0a at hd ⊢;rw [hn];exact hd) hr)
   ·exact h.elim
  ·exact oper_in hd (qeh hcons hH hag hP o κ st a w K next h hR hF)
 ·exact oper_in hd (qeh hcons hH hag hP o κ st a w K next h hR hF)
theorem qcz {V:Oper→St→(St→Prop)→Prop} {Q:Exit→Act→World→Prop} (hV:∀ (o:Oper),q3d o=true→∀ (κ:Cx) (st:St) (a:Act) (w:World) (K:St→Prop) (next:Act→World→Prop),V o st K→Rel w0 κ st a w→Fits w0 K next→o.wpIn (FW ρ) n P a w next Q)
  (ops:List Oper) {K:St→Prop} (hK:Fits w0 K (Q .normal)):∀ (l:List Oper) (hnd:∀ o∈l,q3d o=true) (κ:Cx) (st:St) (a:Act) (w:World),vops V ops l st K→Rel w0 κ st a w→wpListIn (FW ρ) n P ops.toArray Q l a w
 | [],hnd,κ,st,a,w,h,hR=>hK κ st a w h hR
 | o::r,hnd,κ,st,a,w,h,hR=>by
  have ih:Fits w0 (λst'=>vops V ops r st' K) (wpListIn (FW ρ) n P ops.toArray Q r):=λκ st a w h hR=>qcz hV ops hK r (λo ho=>hnd o (Qq _ ho)) κ st a w h hR
  have hw:=q5e hR ops o;have h:vgo V o st (q2m ops st o) (λst'=>vops V ops r st' K):=h
  have hdo:=hnd o (Qi ..);unfold wpListIn;cases hway:q2m ops st o with
  | run =>
   rw [hway] at hw h;have hw:Q0 o (yielded ops.toArray a.tmps)=true:=hw;rw [if_pos hw];exact hV o hdo κ st a w (λst'=>vops V ops r st' K) _ h hR ih
  | skip =>
   rw [hway] at hw h;have hw:Q0 o (yielded ops.toArray a.tmps)=false:=hw;rw [if_neg (by rw [hw];decide)]
   have h:(bif q0a st o.dst then vops V ops r (st.put o.dst (.c (.one .undef))) K else False):=h
   refine ⟨λ_ _=>trivial,?_⟩
   cases hd:q0a st o.dst
   ·rw [hd] at h;exact h.elim
   ·rw [hd] at h
    exact ih κ _ _ _ h (hR.put hd rfl)
  | part t b want =>
   rw [hway] at hw h;obtain ⟨hw,hb⟩:=hw;have h:(bif q0a st o.dst then
    bif b then (bif want then V o (st.set t (bool true)) (λst'=>vops V ops r st' K) else vops V ops r ((st.set t (bool true)).put o.dst (.c (.one .undef))) K)
    else (bif want then vops V ops r ((st.set t (bool false)).put o.dst (.c (.one .undef))) K else V o (st.set t (bool false)) (λst'=>vops V ops r st' K))
    else False):=h
   cases hd:q0a st o.dst
   ·rw [hd] at h;exact h.elim
   ·rw [hd] at h
    have hR':Rel w0 κ (st.set t (bool b)) a w:=hR.know (by rw [hb];rfl)
    have hd':q0a (st.set t (bool b)) o.dst=true:=hd;cases b <;> cases want
    ·have hw:Q0 o (yielded ops.toArray a.tmps)=true:=hw
     rw [if_pos hw];exact hV o hdo κ _ a w (λst'=>vops V ops r st' K) _ h hR' ih
    ·have hw:Q0 o (yielded ops.toArray a.tmps)=false:=hw
     rw [if_neg (by rw [hw];decide)];exact ⟨λ_ _=>trivial,ih κ _ _ _ h (hR'.put hd' rfl)⟩
    ·have hw:Q0 o (yielded ops.toArray a.tmps)=false:=hw
     rw [if_neg (by rw [hw];decide)];exact ⟨λ_ _=>trivial,ih κ _ _ _ h (hR'.put hd' rfl)⟩
    ·have hw:Q0 o (yielded ops.toArray a.tmps)=true:=hw
     rw [if_pos hw];exact hV o hdo κ _ a w (λst'=>vops V ops r st' K) _ h hR' ih
  | no=>rw [hway] at h;exact h.elim
theorem q8q {id:Nat} (hm:P.follows .mixedOrders=true) (hcons:∀ c∈cons,c.Holds P) {C:Nat→Option (Code×Code)} {H:Inl} (hH:q34 P C H) (hY:q50 P C H) (hag:Agree w0 C) {KP:Cell→St→Prop} {l:List Oper} {draw:Bool} {K:St→Prop} {Q:Exit→Act→World→Prop} (hP:FitsP w0 KP Q) (hQ:∀ a w,¬ Q .outgrown a w)
  (h:q84 P cons H KP l draw st K) (hR:Rel w0 κ st a w) (hK:Fits w0 K (Q .normal)):(Qo id l.toArray draw).wpIn (FW ρ) n P Q a w:=by
 unfold q84 at h;cases hnd:q9r l
 ·rw [hnd] at h;exact h.elim
 rw [hnd] at h;have h:(bif draw&&hasInl cons l then (bif Q8 l.toArray&&Qy l.length 40 then qa6 cons (vopJ P cons H) l l.length (Q7 l.length false) st K else False)
  else qc9 P cons H KP l draw st K):=h
 have hnd:∀ o∈l,q3d o=true:=Qb.1 hnd;cases hin:draw&&hasInl cons l
 rotate_left
 ·rw [hin] at h
  obtain rfl:draw=true:=by rw [Q3] at hin;exact hin.1
  exact wpIn_region_any hm (q9y (λi o ho=>hnd o (Qc (by simpa using ho))) hQ _ _ _ _ (by simpa using vregionI_any (Q:=Q) hcons hH hag h hR hK))
 rw [hin] at h;have h:qc9 P cons H KP l draw st K:=h;cases draw
 ·refine wpIn_region_lit (qcz (λo hd κ st a w K next h hR hF=>qk8 hcons hH hY hag hP o hd κ st a w K next h hR hF) l hK l hnd κ st a w h hR)
 ·exact wpIn_region_any hm (q9y (λi o ho=>hnd o (Qc (by simpa using ho))) hQ _ _ _ _ (by simpa using vregion_any (Q:=Q) hcons h hR hK))
theorem qj2 {id:Nat} (hm:P.follows .mixedOrders=true) (hcons:∀ c∈cons,c.Holds P) {C:Nat→Option (Code×Code)} {H:Inl} (hH:q34 P C H) (hag:Agree w0 C) {l:List Oper} {draw:Bool} {K:St→Prop} {Q:Exit→Act→World→Prop} (hQ:∀ a w,¬ Q .outgrown a w)
  (h:qe8 P cons H l draw st K) (hR:Rel w0 κ st a w) (hK:Fits w0 K (Q .normal)):(Qo id l.toArray draw).wpIn (FW ρ) n P Q a w:=by
 unfold qe8 at h;cases hb:q9r l&&(draw&&(Q8 l.toArray&&Qy l.length 40))
 ·rw [hb] at h;exact h.elim
 rw [hb] at h;have h:qa4 P cons (vopJ P cons H) l l.length (Q7 l.length false) st K:=h;simp only [Q3] at hb;obtain ⟨hnd,rfl,hsel,_⟩:=hb;have hnd:∀ o∈l,q3d o=true:=Qb.1 hnd;exact wpIn_region_any hm (q9y (λi o ho=>hnd o (Qc (by simpa using ho))) hQ _ _ _ _ (by simpa using vregionJ_any (Q:=Q) hcons hH hag hsel h hR hK))
section
variable {ops:Array Oper} {md:Region.Mode} {C:World→Prop} {m:Nat}
theorem qdr {i:Nat} {a:Act} {K:Act→Prop} {K':Act→World→Prop} {Q':Exit→Act→World→Prop} {w:World} (hnd:∀ (i:Nat) o,ops[i]? = some o→q3d o=true) (hC:C w) (h:∀ a w',C w'→K a→K' a w')
  (hh:qOp P ops C i K a):wpOpIn (FW ρ) m P ops Q' i K' a w:=by
 unfold qOp at hh;unfold wpOpIn;split
 ·rename_i ho;simp only [ho] at hh;exact h _ _ hC hh
 ·rename_i o ho
  simp only [ho] at hh;split
  ·rename_i hw
   simp only [hw,if_true] at hh;obtain ⟨v,h1,h2⟩:=hh;have h3:=h1 w hC;unfold Oper.quietAt at h3;unfold Oper.wpIn;refine ⟨λ_ _=>trivial,?_⟩
   rw [Qs _ _ _ (λc e=>by have hd:=hnd i o ho;unfold q3d at hd;rw [e] at hd;cases hd)]
   generalize (execOp a.eval o).run P w=r at *
   cases r with
   | ok x w' =>
    cases x <;> simp only [QA] at h3 <;> simp only [Qu]
    case value u =>
     obtain ⟨e1,e2⟩:=h3;rw [e1,e2];exact h _ _ hC h2
    case skip =>
     obtain ⟨e1,e2⟩:=h3;rw [e1,← e2];exact h _ _ hC h2
    case enter f args =>
     obtain ⟨e1,hc⟩:=h3;rw [e1];refine ⟨λhd=>(by cases hd),qem (hc.mono λe w'' ⟨he,hw''⟩=>by subst he;exact h _ _ hw'' h2)⟩
   | halt x w'=>simp only [QA] at h3
  ·rename_i hw
   simp only [hw] at hh;exact ⟨λ_ _=>trivial,h _ _ hC hh⟩
theorem qat {n g:Nat} {L:Array Bool→Act→Prop} {Q':Exit→Act→World→Prop} (hnd:∀ (i:Nat) o,ops[i]? = some o→q3d o=true) (hL:∀ listed a w,C w→L listed a→wpAnyIn (FW ρ) m P md ops Q' g listed a w) :
  ∀ (f:Nat) (listed:Array Bool) (a:Act) (w:World),C w→q78 P md ops C n L f listed a→wpAnyIn (FW ρ) m P md ops Q' (f+g) listed a w
 | 0,listed,a,w,hw,h=>by rw [Nat.zero_add];exact hL _ _ _ hw h
 | f+1,listed,a,w,hw,h=>by
  rw [show f+1+g=(f+g)+1 by omega]
  exact ⟨λh0=>absurd h0 h.1,λi hi=>qdr hnd hw (λa' w' hw' h'=>qat hnd hL f _ a' w' hw' h') (h.2 i hi).2⟩
theorem qav {Q:Act→Prop} {Q':Exit→Act→World→Prop} (hnd:∀ (i:Nat) o,ops[i]? = some o→q3d o=true) (hQ:∀ a w,C w→Q a→Q' .normal a w):∀ (fuel:Nat) (listed:Array Bool) (a:Act) (w:World),C w →
  wpAnyQ P md ops C Q fuel listed a→wpAnyIn (FW ρ) m P md ops Q' fuel listed a w
 | 0,_,_,_,hw,h=>⟨h.1,hQ _ _ hw h.2⟩
 | fuel+1,_,_,_,hw,h=>⟨λh0=>hQ _ _ hw (h.1 h0),λi hi=>qdr hnd hw (λa' w' hw'=>qav hnd hQ fuel _ a' w' hw') (h.2 i hi)⟩
theorem uponInF_then {o:Oper} {a:Act} {next K:Act→World→Prop} {Q:Exit→Act→World→Prop} {r:Result Next} (h:o.uponIn (FW ρ) m P a next (Exit.then K Q) r):o.uponIn (FW ρ) m P a next Q r:=by
 cases r with
 | ok n w' =>
  cases n <;> simp only [Qu] at h ⊢ <;> exact h
 | halt x w' =>
  cases x <;> simp only [Qu] at h ⊢ <;> exact h
theorem qcv {id:Nat} {Q:Exit→Act→World→Prop} {a:Act} {w:World} {l:List Oper} (n:Nat) (hnd:∀ (i:Nat) o,l.toArray[i]? = some o→q3d o=true) (hm:P.follows .mixedOrders=true) (hB:q6j .any l.toArray n=true) (hC:C { w with drawn:=w.drawn+1 })
  (h:wpQuiet P l.toArray C (λa'=>∀ w',C w'→wpListIn (FW ρ) m P l.toArray (Exit.then (λa2 w2=>wpQuiet P l.toArray (λx=>x=w2) (λa3=>Q .normal a3 w2) (l.drop (n+1)) a2) Q) ((l.drop n).take 1) a' w') (l.take n) a) :
  (Qo id l.toArray true).wpIn (FW ρ) m P Q a w:=by
 simp only [q6j,Q3,decide_eq_true_eq] at hB;obtain ⟨⟨⟨⟨hsel,hn⟩,hs⟩,hc⟩,hlex⟩:=hB;have hn':n<l.length:=by simpa using hn
 have htl:(l.take n).length=n:=by simp;omega
 have inv0:HeadInv .any l.toArray n (Q7 l.toArray.size false) :=
  ⟨by simp,λj oj _ hl=>(by rw [getD_replicate_false] at hl;cases hl),λt _ ht=>getD_in (by simpa using ht) (getD_replicate_false _ _)⟩
 have H:=qd7 (md:=.any) hsel hs hc hn (l.take n) 0 _ a (λj hj=>by
  have hj':j<n:=by rw [htl] at hj;exact hj
  simp [hj']) (by simpa using htl) inv0 (by rw [htl];exact hlex) h
 refine wpIn_region_any hm ?_;have:=qat (ρ:=ρ) (m:=m) (Q':=Q) (g:=(l.toArray.size-(n+1))+1) hnd (λlisted a' w' hw' hL=>by
  obtain ⟨⟨hr,hf⟩,hq⟩:=hL;have hq:=hq w' hw';refine ⟨λh0=>(by rw [hr] at h0;cases h0),λi hi=>?_⟩
  obtain rfl:i=n:=by rw [hr] at hi;simpa using hi
  have ho:l.toArray[i]? = some l[i]:=by simp [hn']
  have hone:(l.drop i).take 1=[l[i]]:=by rw [List.drop_eq_getElem_cons hn'];rfl
  have fin:∀ a2 w2,wpQuiet P l.toArray (λx=>x=w2) (λa3=>Q .normal a3 w2) (l.drop (i+1)) a2→wpAnyIn (FW ρ) m P .any l.toArray Q (l.toArray.size-(i+1)) (listed.setIfInBounds i true) a2 w2:=by
   intro a2 w2 hq2;have hd:(l.drop (i+1)).length=l.toArray.size-(i+1):=by simp
   have h4:=wpAnyQ_lex (C:=λx=>x=w2) (md:=.any) hsel (l.drop (i+1)) (i+1) (listed.setIfInBounds i true) a2 (λj=>by simp [List.getElem?_drop]) (by rw [hd];exact hf) hq2
   rw [hd] at h4;exact qav (C:=λx=>x=w2) (Q:=λa3=>Q .normal a3 w2) hnd (λa3 w3 hw3 h5=>by rw [hw3];exact h5) _ _ _ _ rfl h4
  rw [hone] at hq;unfold wpListIn at hq;unfold wpOpIn;simp only [ho];split
  ·rename_i hw
   rw [if_pos hw] at hq;refine Qz (λa2 w2 h2=>fin a2 w2 h2) ⟨hq.1,uponInF_then hq.2⟩
  ·rename_i hw
   rw [if_neg hw] at hq;exact ⟨hq.1,fin _ _ hq.2⟩) _ _ _ _ hC H
 rw [htl,show n+((l.toArray.size-(n+1))+1)=l.toArray.size by omega] at this
 exact this
end
theorem qjf {id:Nat} (hm:P.follows .mixedOrders=true) (hcons:∀ c∈cons,c.Holds P) {C:Nat→Option (Code×Code)} {H:Inl} (hH:q34 P C H) (hY:q50 P C H) (hag:Agree w0 C) {KP:Cell→St→Prop} {l:List Oper} {draw:Bool} {K:St→Prop} {Q:Exit→Act→World→Prop} (hP:FitsP w0 KP Q)
  (h:qe7 P cons H KP l draw st K) (hR:Rel w0 κ st a w) (hK:Fits w0 K (Q .normal)):(Qo id l.toArray draw).wpIn (FW ρ) n P Q a w:=by
 unfold qe7 at h;generalize q9o cons l=k at h;cases hb:q9r l&&(draw&&q6j .any l.toArray k)
 ·rw [hb] at h;exact h.elim
 rw [hb,cond_true] at h;simp only [Q3] at hb;obtain ⟨hnd,rfl,hB⟩:=hb;have hnd:∀ o∈l,q3d o=true:=Qb.1 hnd;have hQ:∀ (o:Oper) (κ:Cx) (st:St) (a:Act) (K:St→Prop) (next:Act→Prop),vopQ P cons o st K→Rel w0 κ st a w→qb7 w0 w K next→o.quiet P a (λw'=>Below w.heap.size w w') next :=
  λo κ st a K next h hR hF=>qfb hcons hR h hF
 have hlater:∀ {K:St→Prop} {N:Act→World→Prop},Fits w0 K N→qb7 w0 w K (λa'=>∀ w',Below w.heap.size w w'→N a' w'):=λhF κ st a h hR w' hb=>hF _ _ _ _ h (hR.later hb)
 refine qcv (ρ:=ρ) (m:=n) (C:=λw'=>Below w.heap.size w w') k (λi o ho=>hnd o (Qc (by simpa using ho))) hm hB (q7z (q03 w)) ?_
 refine q69 l hQ (hlater (N:=λa' w'=>wpListIn (FW ρ) n P l.toArray (Exit.then (λa2 w2=>wpQuiet P l.toArray (λx=>x=w2) (λa3=>Q .normal a3 w2) (l.drop (k+1)) a2) Q) ((l.drop k).take 1) a' w') ?_) _ κ st a h hR
 intro κ1 st1 a1 w1 h1 hR1;refine qcz (Q:=Exit.then _ Q) (λo hd κ st a w K next h hR hF=>qk8 (Q:=Exit.then _ Q) hcons hH hY hag hP o hd κ st a w K next h hR hF) l ?_ _ (λo ho=>hnd o (List.mem_of_mem_drop (List.mem_of_mem_take ho))) κ1 st1 a1 w1 h1 hR1
 intro κ2 st2 a2 w2 h2 hR2;exact q69 l (C:=λx=>x=w2) (λo κ st a K next h hR hF=>vopQ_none h hR hF) (λκ st a h hR=>hK _ _ _ _ h hR) _ κ2 st2 a2 h2 hR2
end
end R
end Go.Proofs.YtlmbfijhkcmncaaGreatDoor

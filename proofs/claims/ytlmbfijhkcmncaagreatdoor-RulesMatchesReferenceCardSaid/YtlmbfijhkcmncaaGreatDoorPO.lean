/-
  Several texts in one: RuK, RuReach, RuI, RuC, RuB, LexLaw2, RuParse, RuText, RuD, RuF.
-/
import Derived.Test.YtlmbfijhkcmncaaGreatDoorPL
import Derived.Test.YtlmbfijhkcmncaaGreatDoorPM
import Derived.Test.YtlmbfijhkcmncaaGreatDoorShelf
import Derived.Test.YtlmbfijhkcmncaaGreatDoorPN
open List renaming take→Q0,map→Q3,mem_singleton→Q7,mem_cons→Q8,getElem?_eq_getElem→Qc,map_cons→Qd,pairwise_cons→Qe,mem_cons_self→Qf,getElem?_map→Qh,length_singleton→Qk,mem_of_getElem?→Ql,length_append→Qn,length_eq_one_iff→Qo,take_of_length_le→Qp,length_take→Qq,all_eq_true→Qr,length_map→Qs,mem_cons_of_mem→Qt,mem_append→Qu,mem_append_left→Qv,any_append→Qx,contains_cons→Qy,getD_eq_getElem?_getD→QC,append_assoc→QD,take_add_one→QE,getElem?_eq_none_iff→QF,mem_map→QH,range_succ→QK,nodup_cons→QN,length→QO,mem_append_right→QP,length_mergeSort→QQ,drop_zero→QS,mergeSort_perm→QY,ext_getElem?→QZ,not_lt→Wd,le_antisymm→We,length_drop→Wi,append_nil→Wj,map_append→Wl,all_append→Wn
open Bool renaming and_eq_true→Q9,true_and→QA,noConfusion→QJ,false_or→QU,or_false→QV,eq_iff_iff→Wm,false_and→Wq
open Except renaming ok→Qa
open Nat renaming eq_of_beq_eq_true→Qb,zero_le→Qg,le_refl→Qm,le_add_right→Wh,beq→Wp
open Array renaming getElem?_toList→Qi,getElem?_eq_some_iff→Qz,length_toList→QW
open Go.Op renaming bytesLess→Qj
open Go.Fence renaming wide→Qw
open Classical renaming byContradiction→QG
open Int renaming toNat→QL
open List.Perm renaming refl→QR
open List.Pairwise renaming nil→W9
open Go.Proofs.AnyZ renaming sorted_in→Wo
open Go.Maps renaming size→Ws
open Go.WideElems renaming rd→Wt
set_option linter.unusedVariables false
namespace Go.Proofs.YtlmbfijhkcmncaaGreatDoor
open Go.RowKit Go.Maps Go.Sort
open Go.WideElems (Fit rg)
namespace R
abbrev ckB:CK:=.one .bool
abbrev ckS:CK:=.one .str
def q6m (l:List (List UInt8)):List (List UInt8):=l.mergeSort λx y=>decide (x≤y)
def keysS (st:St):Src→Option (List (List UInt8))
 | .inner kk k=>match st.nest with
  | some y=>match kk.deq y.kk,y.ik.deq ckS,y.iv.deq ckB with
   | some ⟨h⟩,some ⟨h1⟩,some ⟨h2⟩=>some ((q4x h1 h2 ((y.at_ (h▸k)).getD [])).map (·.1))
   | _,_,_=>none
  | none=>none
 | .map m=>match st.map m with
  | some y=>match y.kk.deq ckS,y.vk.deq ckB with
   | some ⟨h1⟩,some ⟨h2⟩=>some ((q4x h1 h2 y.xs).map (·.1))
   | _,_=>none
  | none=>none
 | .none=>none
def srcOfC:Cell→Option Src
 | .iref kk k=>some (.inner kk k)
 | .mref m=>some (.map m)
 | _=>none
def kInl (fk fs it:FuncId):Inl:=λf xs off st K KP =>
 match xs with
 | [.one c]=>bif f.beq fk then match srcOfC c with
   | some s=>K [.one (.kseq it s)] st
   | none=>False
  else bif f.beq fs then match c with
   | .kseq g s=>bif g.beq it then match keysS st s with
     | some l=>(l.Nodup∧l.length≤1000000000∧∀ x∈l,QO x≤1000000000)∧K [.one (.val (.sl (.one .str)) (q6m l))] st
     | none=>False
    else False
   | _=>False
  else False
 | _=>False
section
variable {w0:Base} {w w':World} {κ:Cx} {st:St} {a:Act}
theorem map_ent {y:MRow} {es:Array MapEntry} {clock:Nat} (h1:y.kk=ckS) (h2:y.vk=ckB) (hE:EntRep κ w y es clock) :
  ∀ l:List (List UInt8),(q4x h1 h2 y.xs).map (·.1)=l→es.size=l.length∧∀ (i:Nat) s,l[i]? = some s→∃ e b,es[i]? = some e∧e.key=.string (bs s)∧e.val=.bool b:=by
 obtain ⟨t,kk,vk,xs⟩:=y;dsimp only at h1 h2;subst h1;subst h2;rintro l rfl;have hl:((q4x rfl rfl xs:List (ckS.Pay×ckB.Pay)).map (·.1))=xs.map (·.1):=rfl;refine ⟨by rw [hl,Qs];exact hE.size,λi s hs=>?_⟩
 rw [hl,Qh] at hs;cases hx:xs[i]? with
 | none=>rw [hx] at hs;cases hs
 | some x =>
  rw [hx] at hs;injection hs with hs;obtain ⟨e,he,q1,q2⟩:=hE.at_ i x hx;exact ⟨e,x.2,he,by rw [← hs];exact q1,q2⟩
theorem keysS_spec (hR:Rel w0 κ st a w) {s:Src} {l:List (List UInt8)} (h:keysS st s=some l) :
  (κ.src s=none∧l=[])∨∃ b es clock,κ.src s=some b∧w.heap[b]? = some (.map es clock)∧(∀ e∈es.toList,e.born<clock)∧(es.toList.map (·.born)).Nodup∧es.size=l.length∧∀ (i:Nat) s,l[i]? = some s→∃ e b,es[i]? = some e∧e.key=.string (bs s)∧e.val=.bool b:=by
 unfold keysS at h;split at h
 ·rename_i kk k
  split at h
  ·rename_i y hy
   split at h
   ·rename_i e h1 h2 _ _ _
    subst e;injection h with h;have hN:=hR.ext.nest y hy;have h:(q4x h1 h2 ((y.at_ k).getD [])).map (·.1)=l:=h;cases hk:y.at_ k with
    | none =>
     left
     refine ⟨hN.miss k hk,?_⟩;rw [← h,hk];have:∀ {a b c d:CK} (h:a=c) (h':b=d),q4x h h' []=[]:=by intro a b c d h h';subst h;subst h';rfl
     show (q4x h1 h2 []).map (·.1)=[];rw [this];rfl
    | some l0 =>
     right
     obtain ⟨i,x,q1,q2,q3⟩:=get_mem _ _ _ _ hk;obtain ⟨g,es,clock,p1,p2,p3,_⟩:=hN.inn i x q1;rw [← q4r q2] at p1;rw [q3] at p3;rw [hk] at h;have:=map_ent (y:=⟨y.it,y.ik,y.iv,l0⟩) h1 h2 p3 l h;exact ⟨g,es,clock,p1,p2,p3.born,p3.apart,this.1,this.2⟩
   ·cases h
  ·cases h
 ·rename_i m
  split at h
  ·rename_i y hy
   split at h
   ·rename_i h1 h2 _ _
    injection h with h;obtain ⟨es,clock,p1,p2,_⟩:=hR.ext.map m y hy;have:=map_ent h1 h2 p2 l h;exact .inr ⟨_,es,clock,rfl,p1,p2.born,p2.apart,this.1,this.2⟩
   ·cases h
  ·cases h
 ·cases h
set_option maxRecDepth 100000 in
theorem owns_texts {b:Nat} {es:Array MapEntry} {clock:Nat} {l:List (List UInt8)} (hb:w.heap[b]? = some (.map es clock)) (hborn:∀ e∈es.toList,e.born<clock) (hnd:(es.toList.map (·.born)).Nodup) (hsz:es.size=l.length)
  (hat:∀ (i:Nat) s,l[i]? = some s→∃ e b,es[i]? = some e∧e.key=.string (bs s)∧e.val=.bool b) (hl:l.Nodup) (hlen:l.length≤1000000000) (hbig:∀ x∈l,QO x≤1000000000) :
  ∃ D0:DataW Unit,w.ownsMap Tryz.prog 9 (plainElem Tryz.prog 4) b l.length D0∧Ws D0=l.length∧(strKeys D0).Perm l:=by
 have hm:∀ e∈es.toList,∃ (i:Nat) (s:List UInt8) (v:Bool),es[i]? = some e∧l[i]? = some s∧e.key=.string (bs s)∧e.val=.bool v:=λe he=>by
  obtain ⟨i,hi⟩:=List.getElem?_of_mem he;rw [Qi] at hi;have hlt:i<l.length:=by rw [← hsz];exact (Qz.1 hi).1
  obtain ⟨e',v,h1,h2,h3⟩:=hat i _ (Qc hlt);rw [hi] at h1;injection h1 with h1;subst h1;exact ⟨i,l[i],v,hi,Qc hlt,h2,h3⟩
 have hbig':∀ (i:Nat) s,l[i]? = some s→(bs s).size≤maxLen:=λi s hs=>by
  have:=hbig s (Ql hs)
  rw [q3j];show _≤9223372036854775807;omega
 have hread:∀ e∈es.toList,∀ (i:Nat) s v,l[i]? = some s→e.key=.string (bs s)→e.val=.bool v→Wt Tryz.prog 9 (plainElem (H:=Unit) Tryz.prog 4) e=some (.string s,.lit (.bool v)):=λe he i s v hs hk hv=>by
  unfold Wt;rw [hk,hv,Go.WideMaps.keyOf_string_mk Tryz.underlying9 (hbig' i s hs),plainElem_bool Tryz.underlying4];simp [bs]
 have hkeys:es.toList.map (·.key)=l.map (λs=>Value.string (bs s)):=by
  apply QZ
  intro i;rw [Qh,Qh];cases hs:l[i]? with
  | none =>
   have:es.toList[i]? = none:=by
    rw [QF] at hs ⊢;rw [QW,hsz];exact hs
   rw [this];rfl
  | some s =>
   obtain ⟨e,v,h1,h2,_⟩:=hat i s hs;rw [Qi,h1];show some e.key=_;rw [h2];rfl
 have hF:Fit Tryz.prog 9 (plainElem (H:=Unit) Tryz.prog 4) es clock:={
  size:=by rw [hsz];show _≤9223372036854775807;omega
  stamped:=⟨hborn,hnd,by
   rw [hkeys];refine (List.pairwise_map).2 (hl.imp λhne e=>hne ?_)
   injection e with e;exact bs_inj.1 e⟩
  reads:=λe he=>by
   obtain ⟨i,s,v,_,h2,h3,h4⟩:=hm e he;exact ⟨_,hread e he i s v h2 h3 h4⟩ }
 refine ⟨_,⟨es,clock,hb,hF,by omega,rfl⟩,?_,?_⟩
 ·exact (length_read (k:=9) (P:=Tryz.prog) (R0:=plainElem (H:=Unit) Tryz.prog 4) es).trans hsz
 ·show (Q3 _ (List.foldr DataW.insert [] (es.toList.map (rg Tryz.prog 9 (plainElem (H:=Unit) Tryz.prog 4))))).Perm l
  refine ((Go.WideShapes.sorted_perm _).map _).trans ?_;rw [List.map_map];have:es.toList.map ((λp:Lit×DataW Unit=>strOf p.1) ∘ rg Tryz.prog 9 (plainElem (H:=Unit) Tryz.prog 4))=l:=by
   apply QZ
   intro i;rw [Qh];cases hs:l[i]? with
   | none =>
    have:es.toList[i]? = none:=by
     rw [QF] at hs ⊢;rw [QW,hsz];exact hs
    rw [this];rfl
   | some s =>
    obtain ⟨e,v,h1,h2,h3⟩:=hat i s hs;have he:es.toList[i]? = some e:=by rw [Qi];exact h1
    rw [he];show some (strOf (rg _ _ _ e).1)=some s;unfold rg;rw [hread e (Ql he) i s v hs h2 h3];simp [strOf]
  rw [this]
theorem texts_row {base n:Nat} {e:TypeId} {v:Value} {S:Nat→Prop} {ss:List (List UInt8)} (hn:n=ss.length) (h:w.ownsRow base e 1 v n (ss.map encStr)) (hS:∀ g,base≤g→g<w.heap.size→S g):Kd.Rep w S (.sl (.one .str)) ss v:=by
 subst hn;rcases h.2 with ⟨rfl,h0⟩ | ⟨g,cap,cur,rfl,hb,hh,hc,hm,hsz,ht⟩
 ·exact ⟨none,0,by rw [h0],by show ss.length≤0;omega,λh=>by have h:0<ss.length:=h;omega⟩
 ·have hlt:g<w.heap.size:=(Qz.1 hh).1
  refine ⟨some ⟨g,0,none⟩,cap,rfl,hc,λ_=>⟨g,0,rfl,hlt,hS g hb hlt,λi x hx=>?_⟩⟩
  have hx:ss[i]? = some x:=hx;rw [Nat.mul_one] at ht;have hi:i<ss.length:=(List.getElem?_eq_some_iff.1 hx).1;refine ⟨.string (bs x),?_,rfl⟩;show w.cell? ⟨g,0+i*1,none⟩=_;rw [Nat.zero_add,Nat.mul_one];unfold World.cell?;rw [hh];show cur[i]? = _;have:(cur.toList.take ss.length)[i]? = some (encStr x):=by rw [ht,Qh,hx];rfl
  rw [List.getElem?_take,if_pos hi] at this;rw [← Qi,this];rfl
end
end R
end Go.Proofs.YtlmbfijhkcmncaaGreatDoor
namespace Go.Proofs.YtlmbfijhkcmncaaGreatDoor
namespace Rul
abbrev Below (s t:Str):Prop:=Qj s t=true
theorem less_lt:∀ (x y:List UInt8),Qj x y=decide (x<y)
 | [],[]=>by simp [Qj]
 | _::_,[]=>by simp [Qj]
 | [],_::_=>by simp [Qj]
 | a::x,b::y=>by
  rw [Qj,less_lt x y];simp only [List.cons_lt_cons_iff];by_cases h1:a<b <;> by_cases h2:a=b <;> by_cases h3:x<y <;> simp [h1,h2,h3]
theorem q6x {s t:Str}:Below s t↔s<t:=by
 show Qj s t=true↔_;rw [less_lt,decide_eq_true_iff]
theorem q71 (s:Str):¬ Below s s:=λh=>List.lt_irrefl s (q6x.1 h)
theorem qcu {s t u:Str} (h:Below s t) (h':Below t u):Below s u:=q6x.2 (List.lt_trans (q6x.1 h) (q6x.1 h'))
theorem qin {s t:Str} (h:¬ Below s t) (hne:s≠t):Below t s:=by
 have h:¬ s<t:=λe=>h (q6x.2 e)
 exact q6x.2 (QG λh'=>hne (We (Wd.1 h') (Wd.1 h)))
abbrev Up (l:List Str):Prop:=l.Pairwise Below
theorem mem_put {s x:Str}:∀ {l:List Str},x∈put s l↔x=s∨x∈l
 | []=>by simp [put]
 | a::l=>by
  unfold put;split
  ·simp
  ·split
   ·rename_i h
    subst h;simp
   ·rw [Q8,mem_put,Q8]
    constructor
    ·rintro (h | h | h)
     ·exact .inr (.inl h)
     ·exact .inl h
     ·exact .inr (.inr h)
    ·rintro (h | h | h)
     ·exact .inr (.inl h)
     ·exact .inl h
     ·exact .inr (.inr h)
theorem put_up {s:Str}:∀ {l:List Str},Up l→Up (put s l)
 | [],_=>by simp [put,Up]
 | a::l,h=>by
  have h':=Qe.1 h;unfold put;split
  ·rename_i hs
   refine Qe.2 ⟨λy hy=>?_,h⟩
   rcases Q8.1 hy with rfl | hy
   ·exact hs
   ·exact qcu hs (h'.1 y hy)
  ·rename_i hs
   split
   ·exact h
   ·rename_i hne
    refine Qe.2 ⟨λy hy=>?_,put_up h'.2⟩
    rcases mem_put.1 hy with rfl | hy
    ·exact qin hs hne
    ·exact h'.1 y hy
theorem qch:∀ (l acc:List Str),Up acc→Up (l.foldl (λacc s=>put s acc) acc)∧∀ x,x∈l.foldl (λacc s=>put s acc) acc↔x∈acc∨x∈l
 | [],acc,h=>⟨h,λx=>by simp⟩
 | a::l,acc,h=>by
  have ih:=qch l (put a acc) (put_up h);refine ⟨ih.1,λx=>?_⟩
  rw [List.foldl_cons,ih.2,mem_put,Q8];constructor
  ·rintro ((h | h) | h)
   ·exact .inr (.inl h)
   ·exact .inl h
   ·exact .inr (.inr h)
  ·rintro (h | h | h)
   ·exact .inl (.inr h)
   ·exact .inl (.inl h)
   ·exact .inr h
theorem setOf_up (l:List Str):Up (setOf l):=(qch l [] W9).1
theorem qgv {l:List Str} {x:Str}:x∈setOf l↔x∈l:=by
 have:=(qch l [] W9).2 x
 simpa [setOf] using this
theorem up_ext:∀ {l m:List Str},Up l→Up m→(∀ x,x∈l↔x∈m)→l=m
 | [],[],_,_,_=>rfl
 | [],b::m,_,_,h=>by have:=(h b).2 Qf;cases this
 | a::l,[],_,_,h=>by have:=(h a).1 Qf;cases this
 | a::l,b::m,hl,hm,h=>by
  have hl':=Qe.1 hl;have hm':=Qe.1 hm;have e:a=b:=by
   rcases Q8.1 ((h a).1 Qf) with e | ha
   ·exact e
   ·rcases Q8.1 ((h b).2 Qf) with e | hb
    ·exact e.symm
    ·exact absurd (qcu (hm'.1 a ha) (hl'.1 b hb)) (q71 b)
  subst e;refine congrArg (a::·) (up_ext hl'.2 hm'.2 λx=>?_)
  constructor
  ·intro hx
   rcases Q8.1 ((h x).1 (Qt _ hx)) with e | hx'
   ·subst e;exact absurd (hl'.1 x hx) (q71 x)
   ·exact hx'
  ·intro hx
   rcases Q8.1 ((h x).2 (Qt _ hx)) with e | hx'
   ·subst e;exact absurd (hm'.1 x hx) (q71 x)
   ·exact hx'
theorem setOf_eq {l m:List Str} (hm:Up m) (h:∀ x,x∈m↔x∈l):setOf l=m:=up_ext (setOf_up l) hm λx=>by rw [qgv,h]
inductive Reach (rs:List q0g) (w:List Int):Nat→Str→Prop
 | zero:Reach rs w 0 []
 | step {k:Nat} {s:Str} {x:q0g}:Reach rs w k s→k<w.length→x∈rs→q0x x (w.drop k)=true→Reach rs w (k+x.2.1.length) (s++x.1.2.1)
abbrev Pos (rs:List q0g):Prop:=∀ x∈rs,1≤x.2.1.length
def q4i (rs:List q0g) (w:List Int) (k:Nat) (done:List q0g) (n:Nat) (s:Str):Prop :=
 (n=0∧s=[])∨∃ j s' x,Reach rs w j s'∧j<w.length∧x∈rs∧q0x x (w.drop j)=true∧n=j+x.2.1.length∧s=s'++x.1.2.1∧(j<k∨(j=k∧x∈done))
theorem reach_cases {rs:List q0g} {w:List Int} {n:Nat} {s:Str} (h:Reach rs w n s):(n=0∧s=[])∨∃ j s' x,Reach rs w j s'∧j<w.length∧x∈rs∧q0x x (w.drop j)=true∧n=j+x.2.1.length∧s=s'++x.1.2.1:=by
 cases h with
 | zero=>exact .inl ⟨rfl,rfl⟩
 | step h hk hx hs=>exact .inr ⟨_,_,_,h,hk,hx,hs,rfl,rfl⟩
theorem q6i {rs:List q0g} {w:List Int} {k:Nat} {done:List q0g} {n:Nat} {s:Str} (hp:Pos rs) (hn:n≤k):q4i rs w k done n s↔Reach rs w n s:=by
 constructor
 ·rintro (⟨rfl,rfl⟩ | ⟨j,s',x,h,hj,hx,hs,rfl,rfl,_⟩)
  ·exact .zero
  ·exact .step h hj hx hs
 ·intro h
  rcases reach_cases h with h | ⟨j,s',x,h',hj,hx,hs,rfl,rfl⟩
  ·exact .inl h
  ·have:=hp x hx
   exact .inr ⟨j,s',x,h',hj,hx,hs,rfl,rfl,.inl (by omega)⟩
theorem qkl {rs:List q0g} {w:List Int} {n:Nat} {s:Str}:q4i rs w 0 [] n s↔n=0∧s=[]:=by
 constructor
 ·rintro (h | ⟨j,s',x,_,_,_,_,_,_,h | ⟨_,h⟩⟩)
  ·exact h
  ·omega
  ·cases h
 ·exact .inl
theorem qk0 {rs:List q0g} {w:List Int} {k n:Nat} {s:Str}:q4i rs w (k+1) [] n s↔q4i rs w k rs n s:=by
 constructor
 ·rintro (h | ⟨j,s',x,h1,h2,h3,h4,h5,h6,h | ⟨_,h⟩⟩)
  ·exact .inl h
  ·refine .inr ⟨j,s',x,h1,h2,h3,h4,h5,h6,?_⟩
   rcases Nat.lt_succ_iff_lt_or_eq.1 h with h | h
   ·exact .inl h
   ·exact .inr ⟨h,h3⟩
  ·cases h
 ·rintro (h | ⟨j,s',x,h1,h2,h3,h4,h5,h6,h | ⟨h,_⟩⟩)
  ·exact .inl h
  ·exact .inr ⟨j,s',x,h1,h2,h3,h4,h5,h6,.inl (by omega)⟩
  ·exact .inr ⟨j,s',x,h1,h2,h3,h4,h5,h6,.inl (by omega)⟩
theorem qk2 {rs:List q0g} {w:List Int} {k:Nat} {done:List q0g} {x:q0g} {n:Nat} {s:Str} (hk:k<w.length) (hx:x∈rs) (hs:q0x x (w.drop k)=true) :
  q4i rs w k (done++[x]) n s↔q4i rs w k done n s∨(n=k+x.2.1.length∧∃ s',Reach rs w k s'∧s=s'++x.1.2.1):=by
 constructor
 ·rintro (h | ⟨j,s',y,h1,h2,h3,h4,h5,h6,h | ⟨h,h'⟩⟩)
  ·exact .inl (.inl h)
  ·exact .inl (.inr ⟨j,s',y,h1,h2,h3,h4,h5,h6,.inl h⟩)
  ·rcases Qu.1 h' with h' | h'
   ·exact .inl (.inr ⟨j,s',y,h1,h2,h3,h4,h5,h6,.inr ⟨h,h'⟩⟩)
   ·obtain rfl:=Q7.1 h'
    subst h;exact .inr ⟨h5,s',h1,h6⟩
 ·rintro ((h | ⟨j,s',y,h1,h2,h3,h4,h5,h6,h | ⟨h,h'⟩⟩) | ⟨h,s',h1,h2⟩)
  ·exact .inl h
  ·exact .inr ⟨j,s',y,h1,h2,h3,h4,h5,h6,.inl h⟩
  ·exact .inr ⟨j,s',y,h1,h2,h3,h4,h5,h6,.inr ⟨h,Qv _ h'⟩⟩
  ·exact .inr ⟨k,s',x,h1,hk,hx,hs,h,h2,.inr ⟨rfl,QP _ (Q7.2 rfl)⟩⟩
theorem qe3 {rs:List q0g} {w:List Int} {k:Nat} {done:List q0g} {x:q0g} {n:Nat} {s:Str} (hs:q0x x (w.drop k)=false):q4i rs w k (done++[x]) n s↔q4i rs w k done n s:=by
 constructor
 ·rintro (h | ⟨j,s',y,h1,h2,h3,h4,h5,h6,h | ⟨h,h'⟩⟩)
  ·exact .inl h
  ·exact .inr ⟨j,s',y,h1,h2,h3,h4,h5,h6,.inl h⟩
  ·rcases Qu.1 h' with h' | h'
   ·exact .inr ⟨j,s',y,h1,h2,h3,h4,h5,h6,.inr ⟨h,h'⟩⟩
   ·obtain rfl:=Q7.1 h'
    subst h;rw [hs] at h4;cases h4
 ·rintro (h | ⟨j,s',y,h1,h2,h3,h4,h5,h6,h | ⟨h,h'⟩⟩)
  ·exact .inl h
  ·exact .inr ⟨j,s',y,h1,h2,h3,h4,h5,h6,.inl h⟩
  ·exact .inr ⟨j,s',y,h1,h2,h3,h4,h5,h6,.inr ⟨h,Qv _ h'⟩⟩
def Has (T:Tab) (Q:Nat→Str→Prop):Prop:=∀ n s,s∈T n↔Q n s
theorem has_stepR {rs:List q0g} {w:List Int} {k:Nat} {done:List q0g} {x:q0g} {T:Tab} (hp:Pos rs) (hk:k<w.length) (hx:x∈rs) (hT:Has T (q4i rs w k done)):Has (q3y w k T x) (q4i rs w k (done++[x])):=by
 intro n s;unfold q3y;cases hs:q0x x (w.drop k)
 ·rw [if_neg (by simp),qe3 hs];exact hT n s
 ·rw [if_pos rfl,qk2 hk hx hs]
  unfold putT;by_cases e:n=k+x.2.1.length
  ·rw [if_pos e,Qu,hT n s]
   constructor
   ·rintro (h | h)
    ·exact .inl h
    ·obtain ⟨s',h1,h2⟩:=QH.1 h
     exact .inr ⟨e,s',(q6i hp (Qm k)).1 ((hT k s').1 h1),h2.symm⟩
   ·rintro (h | ⟨_,s',h1,h2⟩)
    ·exact .inl h
    ·exact .inr (QH.2 ⟨s',(hT k s').2 ((q6i hp (Qm k)).2 h1),h2.symm⟩)
  ·rw [if_neg e,hT n s]
   exact ⟨.inl,λh=>h.elim id λh=>absurd h.1 e⟩
theorem has_stepK {rs:List q0g} {w:List Int} {k:Nat} (hp:Pos rs) (hk:k<w.length):∀ (l done:List q0g) (T:Tab),(∀ x∈l,x∈rs)→Has T (q4i rs w k done)→Has (l.foldl (q3y w k) T) (q4i rs w k (done++l))
 | [],done,T,_,hT=>by rw [Wj];exact hT
 | x::l,done,T,hl,hT=>by
  have:=has_stepK hp hk l (done++[x]) _ (λy hy=>hl y (Qt _ hy)) (has_stepR hp hk (hl x Qf) hT)
  rw [QD] at this;exact this
theorem tabs_succ (rs:List q0g) (w:List Int) (k:Nat):tabs rs w (k+1)=stepK rs w (tabs rs w k) k:=by
 unfold tabs;rw [QK,List.foldl_append];rfl
theorem has_tabs {rs:List q0g} {w:List Int} (hp:Pos rs):∀ k,k≤w.length→Has (tabs rs w k) (q4i rs w k [])
 | 0,_=>λn s=>by
  rw [qkl];show s∈tab0 n↔_;unfold tab0;split
  ·rename_i h;simp [h]
  ·rename_i h;simp [h]
 | k+1,h=>λn s=>by
  rw [tabs_succ,qk0];exact has_stepK hp h rs [] _ (λx hx=>hx) (has_tabs hp k (Nat.le_of_lt h)) n s
theorem mem_tabs {rs:List q0g} {w:List Int} (hp:Pos rs) {k:Nat} (hk:k≤w.length) {s:Str}:s∈tabs rs w k k↔Reach rs w k s:=(has_tabs hp k hk k s).trans (q6i hp (Qm k))
theorem write_err (rs:List q0g) (w:List Int):(q40 rs w).2=0∨q40 rs w=([],2):=by
 unfold q40;split
 ·exact .inr rfl
 ·exact .inl rfl
end Rul
open Go.RowKit Go.Maps Go.Sort
namespace R
theorem qgb {l:List (List UInt8)} {x:List UInt8}:x∈q6m l↔x∈l:=(QY l _).mem_iff
theorem qje {l:List (List UInt8)} (h:l.Nodup):Rul.Up (q6m l):=by
 have hs:=List.pairwise_mergeSort (le:=λa b:List UInt8=>decide (a≤b)) (λa b c h1 h2=>decide_eq_true (List.le_trans (of_decide_eq_true h1) (of_decide_eq_true h2))) (λa b=>by
  rcases List.le_total a b with h | h
  ·rw [decide_eq_true h];rfl
  ·rw [decide_eq_true h];simp) l
 have hn:(q6m l).Nodup:=(QY l _).nodup_iff.2 h;refine (hs.and hn).imp λ⟨h1,h2⟩=>?_
 refine Rul.q6x.2 ?_;have h1:=of_decide_eq_true h1;exact QG λh'=>h2 (We h1 (Wd.1 h'))
theorem sortS_perm {l m:List (List UInt8)} (hm:m.Nodup) (h:l.Perm m):q6m l=q6m m :=
 Rul.up_ext (qje (h.nodup_iff.2 hm)) (qje hm) λx=>by rw [qgb,qgb];exact h.mem_iff
theorem sortS_set {l m:List (List UInt8)} (hl:l.Nodup) (h:∀ x,x∈l↔x∈m):q6m l=Rul.setOf m :=
 (Rul.setOf_eq (qje hl) λx=>by rw [qgb];exact h x).symm
abbrev fKeys:FuncId:=24
abbrev q86:FuncId:=23
abbrev q8z:FuncId:=50
theorem sorted_some (g b nn:Nat) (D0:DataW Unit) (w:World) (hg:g<w.heap.size) (hc:w.cell? ⟨g,0,none⟩=some (.map (some b))) (hown:w.ownsMap Tryz.prog 9 (plainElem Tryz.prog 4) b nn D0) (hmax:Ws D0≤1000000000) :
  Calls Tryz.prog q86 #[.func (.func q8z) #[] #[.pointer (some ⟨g,0,none⟩)]] w λe w'=>∃ (v:Value) (ss:List (List UInt8)),e=.returned v∧ss.Perm (strKeys D0) ∧
   w'.ownsRow w.heap.size 9 1 v ss.length ((ss.mergeSort (λx y=>decide (x≤y))).map encStr)∧(v=.slice none 0 0↔ss=[])∧Below w.heap.size w w':=by
 have hseq:SeqGives Qw 2 Tryz.prog q8z #[.pointer (some ⟨g,0,none⟩)] encStr (λss=>ss.Perm (strKeys D0)) (Ws D0) w :=
  AnyZ.keys_gives (ρ:=Tryz.keys24_ren) { Tryz.keys24 with } Qw _ trivial rfl (by omega) g b nn D0 _ hg hc (by
   obtain ⟨es,clock,hb,Ft,hs,hD⟩:=hown;exact ⟨es,clock,hb,Ft,hs,hD⟩)
 refine (callsIn_wide (n:=5)).1 ?_;exact Wo Tryz.sorted23 Qw 5 trivial trivial trivial trivial rfl (by omega) (Tryz.sorts23 _) (enters_of Tryz.func49 (by kernel_rfl) rfl) q8z #[.pointer (some ⟨g,0,none⟩)] trivial (enters_of Tryz.func50 (by kernel_rfl) rfl) _ _ (by unfold maxLen;omega) (by omega) _ hseq
theorem sorted_none (g:Nat) (w:World) (hg:g<w.heap.size) (hc:w.cell? ⟨g,0,none⟩=some (.map none)) :
  Calls Tryz.prog q86 #[.func (.func q8z) #[] #[.pointer (some ⟨g,0,none⟩)]] w λe w'=>∃ (v:Value) (ss:List (List UInt8)),e=.returned v∧ss=[] ∧
   w'.ownsRow w.heap.size 9 1 v ss.length ((ss.mergeSort (λx y=>decide (x≤y))).map encStr)∧(v=.slice none 0 0↔ss=[])∧Below w.heap.size w w':=by
 have hseq:SeqGives Qw 2 Tryz.prog q8z #[.pointer (some ⟨g,0,none⟩)] encStr (λss:List (List UInt8)=>ss=[]) 0 w :=
  AnyZ.keys_gives_nil (ρ:=Tryz.keys24_ren) { Tryz.keys24 with } Qw _ trivial rfl g _ hg hc
 refine (callsIn_wide (n:=5)).1 ?_;exact Wo Tryz.sorted23 Qw 5 trivial trivial trivial trivial rfl (by omega) (Tryz.sorts23 _) (enters_of Tryz.func49 (by kernel_rfl) rfl) q8z #[.pointer (some ⟨g,0,none⟩)] trivial (enters_of Tryz.func50 (by kernel_rfl) rfl) _ 0 (Qg _) (by omega) _ hseq
theorem srcOfC_spec {κ:Cx} {w:World} {c:Cell} {s:Src} {v:Value} (h:srcOfC c=some s) (hv:c.Rep κ w v):v=.map (κ.src s):=by
 cases c <;> simp only [srcOfC] at h <;> first | (injection h with h;subst h;exact hv) | cases h
theorem kInl_yld {C:Nat→Option (Code×Code)}:q50 Tryz.prog C (kInl fKeys q86 q8z):=by
 intro w0 hag j xs off st K KP κ a w vs h hR hvs;exfalso;unfold kInl at h;split at h
 ·have h1:Wp (1000000000+j) fKeys=false:=by
   cases hb:Wp (1000000000+j) fKeys
   ·rfl
   ·have:=Qb hb
    exact absurd (this▸Wh 1000000000 j) (show ¬ 1000000000≤(fKeys:Nat) by decide +kernel)
  have h2:Wp (1000000000+j) q86=false:=by
   cases hb:Wp (1000000000+j) q86
   ·rfl
   ·have:=Qb hb
    exact absurd (this▸Wh 1000000000 j) (show ¬ 1000000000≤(q86:Nat) by decide +kernel)
  rw [h1] at h;dsimp only [cond_false] at h;rw [h2] at h;exact h
 ·exact h
theorem kInl_ok {C:Nat→Option (Code×Code)}:q34 Tryz.prog C (kInl fKeys q86 q8z):=by
 intro w0 hag f hf9 xs off st K KP κ a w vs h hR hvs;unfold kInl at h;split at h
 ·rename_i c
  cases hf:f.beq fKeys
  ·rw [hf] at h
   dsimp only [cond_false] at h;cases hf2:f.beq q86
   ·rw [hf2] at h;exact h.elim
   ·rw [hf2] at h
    dsimp only [cond_true] at h;obtain rfl:=Qb hf2;obtain ⟨v,rfl⟩:=Qo.1 hvs.1;obtain ⟨v',hv',hv⟩:=hvs.2 0 _ rfl;injection hv' with hv';subst hv';split at h
    ·rename_i g s
     cases hg:g.beq q8z
     ·rw [hg] at h;exact h.elim
     ·rw [hg] at h
      dsimp only [cond_true] at h;obtain rfl:=Qb hg;split at h
      ·rename_i l hl
       obtain ⟨⟨hnd,hlen,hbig⟩,hK⟩:=h;refine ⟨⟨_,Tryz.func23,by kernel_rfl,by kernel_rfl⟩,?_⟩
       obtain ⟨g,rfl,hgl,hgS,hgc⟩:=hv;have fin:∀ (w':World) (v:Value) (ss:List (List UInt8)),ss.Perm l→w'.ownsRow w.heap.size 9 1 v ss.length ((ss.mergeSort (λx y=>decide (x≤y))).map encStr)→Below w.heap.size w w' →
         ∃ (v':Value) (rs:List Comp) (κ':Cx) (st':St),Ending.returned v=.returned v'∧K rs st'∧Rel w0 κ' st' a w'∧(retAV rs).Rep κ' w' v':=λw' v ss hp hrow hbl=>by
        refine ⟨v,_,_,st,rfl,hK,hR.later hbl,?_⟩;have e:q6m ss=q6m l:=sortS_perm hnd hp;have hlen':ss.length=(q6m l).length:=by rw [← e];exact (QQ ss).symm
        have hrow':w'.ownsRow w.heap.size 9 1 v ss.length ((q6m l).map encStr):=by rw [← e];exact hrow
        exact texts_row hlen' hrow' λg h1 h2=>.inr ⟨h1,h2⟩
       rcases keysS_spec hR hl with ⟨hs,rfl⟩ | ⟨b,es,clock,hs,hb,hborn,hap,hsz,hat⟩
       ·rw [hs] at hgc
        refine (sorted_none g w hgl hgc).mono ?_;rintro e w' ⟨v,ss,rfl,rfl,hrow,_,hbl⟩;exact .inl (fin w' v [] (QR _) hrow hbl)
       ·rw [hs] at hgc
        obtain ⟨D0,hown,hsize,hperm⟩:=owns_texts hb hborn hap hsz hat hnd hlen hbig;refine (sorted_some g b _ D0 w hgl hgc hown (by omega)).mono ?_
        rintro e w' ⟨v,ss,rfl,hp,hrow,_,hbl⟩;exact .inl (fin w' v ss (hp.trans hperm) hrow hbl)
      ·exact h.elim
    ·exact h.elim
  ·rw [hf] at h
   dsimp only [cond_true] at h;obtain rfl:=Qb hf;obtain ⟨v,rfl⟩:=Qo.1 hvs.1;obtain ⟨v',hv',hv⟩:=hvs.2 0 _ rfl;injection hv' with hv';subst hv';split at h
   ·rename_i s hs
    refine ⟨⟨_,Tryz.func24,by kernel_rfl,by kernel_rfl⟩,?_⟩
    obtain rfl:=srcOfC_spec hs hv;refine ((callsIn_wide (n:=5)).1 (Tryz.maps_Keys_24 (κ.src s) w)).mono ?_;rintro e w' ⟨rfl,rfl⟩;have hbl:Below w.heap.size w (w.alloc (.cells #[.map (κ.src s)] 53)):=q02 (q03 w) _;refine .inl ⟨_,_,_,st,rfl,h,hR.later hbl,?_⟩;exact ⟨w.heap.size,rfl,by simp,.inr ⟨Qm _,by simp⟩,by simp;rfl⟩
   ·exact h.elim
 ·exact h.elim
end R
end Go.Proofs.YtlmbfijhkcmncaaGreatDoor
namespace Go.Proofs.YtlmbfijhkcmncaaGreatDoor
open Go.RowKit R
def q7l:Rul.Rule→Rul.Rule→Bool:=λx y=>x.1==y.1&&(x.2.1==y.2.1&&(x.2.2.1==y.2.2.1&&x.2.2.2==y.2.2.2))
theorem eqRule_eq (x y:Rul.Rule):q7l x y=(x==y):=rfl
theorem qe9 (x:Rul.Rule):∀ l:List Rul.Rule,(Mp.get q7l x (l.map λy=>(y,true))).getD false=l.contains x
 | []=>rfl
 | y::r=>by
  show (if q7l x y then some true else Mp.get q7l x (r.map λy=>(y,true))).getD false=_
  rw [eqRule_eq,Qy];cases h:(x==y)
  ·rw [if_neg (by simp),qe9 x r,QU]
  ·rw [if_pos rfl,Bool.true_or];rfl
theorem qjp (x:Rul.Rule):∀ l:List Rul.Rule,l.contains x=false→Mp.put q7l x true (l.map λy=>(y,true))=(l++[x]).map λy=>(y,true)
 | [],_=>rfl
 | y::r,h=>by
  rw [Qy,Bool.or_eq_false_iff] at h;show (if q7l x y then (x,true)::r.map (λy=>(y,true)) else (y,true)::Mp.put q7l x true (r.map λy=>(y,true)))=_
  rw [eqRule_eq,h.1,if_neg (by simp),qjp x r h.2];rfl
def seenRow (l:List Rul.Rule):MRow:=⟨104,ckRule,.one .bool,l.map λx=>(x,true)⟩
def anFormed (r:Rul.q11):List (Nat×Ann) :=
 [annM 0 Nat [1,2,3,8,9] (λk=>[(10,R.int .i64 k)]) (λ_=>[]) (λk=>[(6,seenRow (r.2.2.take k))])
  (λk=>k≤r.2.2.length∧(r.2.2.take k).all Rul.q1g=true∧Rul.once (r.2.2.take k)=true) (λk=>r.2.2.length-k)]
abbrev NX:Type:=List (Int×List (List UInt8×Bool))
def nestRow (xs:NX):NRow:=⟨54,.one (.int .i64),53,.one .str,.one .bool,xs⟩
def R.nestXs (st:St):NX :=
 match st.nest with
 | some ⟨_,.one (.int _),_,.one .str,.one .bool,xs⟩=>xs
 | _=>[]
def eqI:Int→Int→Bool:=λa b=>a==b
def q38 (xs:NX) (n:Nat):List (List UInt8):=((Mp.get eqI (n:Int) xs).getD []).map (·.1)
structure Tb (xs:NX) (Q:Nat→List UInt8→Prop):Prop where
 mem:∀ n s,s∈q38 xs n↔Q n s
 nodup:∀ n,(q38 xs n).Nodup
def rsOf (r:Rul.q11) (f:AlP):List Rul.q0g:=r.2.2.map (Rul.q1b f.2.1)
def wOf (f:AlP) (word:List UInt8):List Int:=(Al.q0o (alOf f) word).1
def rAt (rs:List Rul.q0g) (i:Nat):Rul.q0g:=rs.getD i (([],[],[],false),[],[])
def inOut (rs:List Rul.q0g) (w:List Int) (k:Nat) (xs:NX):Prop:=k≤w.length∧(List.range k).any (Rul.q4e rs w)=false∧Tb xs (Rul.q4i rs w k [])
def q5k (rs:List Rul.q0g) (w:List Int) (k i:Nat) (xs:NX):Prop:=i≤rs.length∧Tb xs (Rul.q4i rs w k (rs.take i))
def inIn (rs:List Rul.q0g) (w:List Int) (k i:Nat) (xs0 xs:NX) (left:List (List UInt8×Bool)):Prop :=
 (Mp.get eqI ((k+(rAt rs i).2.1.length:Nat):Int) xs).isSome=true∧∃ done,(q38 xs0 k).Perm (done++left.map (·.1))∧Tb xs λn s=>Rul.q4i rs w k (rs.take i) n s∨(n=k+(rAt rs i).2.1.length∧∃ s'∈done,s=s'++(rAt rs i).1.2.1)
def R.box18 (st:St):List Cell :=
 match st.box 18 with
 | some l=>l
 | none=>[]
def anWrit (rs:List Rul.q0g) (w:List Int):List (Nat×Ann) :=
  [(0,{ ι:=Nat×NX,at_:=λst p=>{ st.head [10,12,15,44] [(45,R.int .i64 p.1)] [] with boxes:=[],maps:=[],nest:=some (nestRow p.2),iters:=[] },inv:=λ_ p=>inOut rs w p.1 p.2,mu:=λ_ p=>w.length-p.1 }),
   (2,{ ι:=Nat×NX,at_:=λst p=>{ st.head [10,12,15,16,44,45,53,54] [(55,R.int .i64 p.1)] [] with boxes:=[],maps:=[],nest:=some (nestRow p.2),iters:=[] },inv:=λst p=>q5k rs w (st.intOf 16).toNat p.1 p.2,mu:=λ_ p=>rs.length-p.1 }),
   (4,{ ι:=NX×List (List UInt8×Bool),at_:=λst p=>{ st.head [10,12,15,16,18,19,44,45,53,54,55,80] [] [] with boxes:=[(18,R.box18 st)],maps:=[],nest:=some (nestRow p.1),iters:=[(80,⟨.inner (.one (.int .i64)) (st.intOf 16),.one .str,.one .bool,p.2,none⟩)] },inv:=λst p=>inIn rs w (st.intOf 16).toNat (st.intOf 55).toNat (R.nestXs st) p.1 p.2,mu:=λ_ p=>p.2.length })]
def cWrit:Con:=.of 6 [q0t,ckAl,ckAl,q3a] [ckStrs,q3l] (λp=>FewR p.1∧FewP p.2.1∧FewP p.2.2.1∧QO p.2.2.2≤1000000) (λp=>Rul.q21 p.1 (alOf p.2.1) (alOf p.2.2.1) p.2.2.2)
set_option maxRecDepth 100000 in
theorem isname_vc (s:List UInt8) (h:cIsName.pre s) :
    s.length≤(1000000:Nat)∧bif (Lx.lex s).2.1==(0:Int) then bif (↑(Q3 tokP (Lx.lex s).1).length:Int)==(1:Int) then ((0:Int)≤(0:Int)∧(0:Int)<(↑(Q3 tokP
    (Lx.lex s).1).length:Int))∧bif ((Q3 tokP (Lx.lex s).1).getD (QL (0:Int)) ((0:Int),(0:Int),(0:Int),[])).1==(1:Int) then ((0:Int)≤(0:Int)∧(0:Int) <
    (↑(Q3 tokP (Lx.lex s).1).length:Int))∧(((Q3 tokP (Lx.lex s).1).getD (QL (0:Int)) ((0:Int),(0:Int),(0:Int),[])).2.2.2==s)=Lx.q0j s else false =
    Lx.q0j s else false=Lx.q0j s else false=Lx.q0j s
     := by
  have h1000:s.length≤1000:=h;have hyes:=Lx.lex_name s (by omega)
  have hno:∀ (t:Lx.Tok) (e a:Int),Lx.lex s=([t],e,a)→e=0→t.kind=1→t.text=s→Lx.q0j s=true:=λt e a=>Lx.name_lex s (by omega)
  have nam:(Lx.q0j s=true→False)→false=Lx.q0j s:=λh=>by
    cases hh:Lx.q0j s
    · rfl
    · exact (h hh).elim
  generalize Lx.lex s=L at *
  obtain ⟨l,er,a⟩:=L;dsimp only at *
  refine ⟨by omega,bifP (λhe=>bifP (λhl=>?_) λhl=>nam λhh=>?_) λhe=>nam λhh=>?_⟩
  · obtain ⟨t,rfl⟩:∃ t,l=[t]:=by
      have:((l.map tokP).length:Int)=1:=beq_iff_eq.1 hl
      rw [Qs] at this;exact Qo.1 (by omega)
    have he:er=0:=beq_iff_eq.1 he;refine ⟨⟨by omega,by show (0:Int)<1;omega⟩,bifP (λhk=>⟨⟨by omega,by show (0:Int)<1;omega⟩,?_⟩) λhk=>nam λhh=>?_⟩
    · have hk:t.kind=1:=beq_iff_eq.1 hk
      show (t.text==s)=Lx.q0j s;by_cases ht:t.text=s
      · rw [hno t er a rfl he hk ht];exact beq_iff_eq.2 ht
      · rw [beq_eq_false_iff_ne.2 ht]
        refine nam λhh=>ht ?_
        have:=hyes hh
        simp at this;rw [this.1]
    · have:=hyes hh
      simp at this;exact (beq_eq_false_iff_ne.1 hk) (by show t.kind=1;rw [this.1])
  · have:=hyes hh
    simp at this;rw [this.1] at hl;exact (beq_eq_false_iff_ne.1 hl) rfl
  · have:=hyes hh
    simp at this;exact (beq_eq_false_iff_ne.1 he) this.2.1
set_option maxRecDepth 100000 in
theorem readr_vc (a:AlP) (s:List UInt8) (most:Int) (h:cReadR.pre (a,s,most)) :
    bif s==[] then ([],true)=q3t (a,s,most) else (FewP a∧s.length≤(1000000:Nat))∧bif (Al.q0o (alOf a) s).2.1==(0:Int) then ((Al.q0o (alOf a) s).1,decide ((↑(Al.q0o
    (alOf a) s).1.length:Int)≤most))=q3t (a,s,most) else ((Al.q0o (alOf a) s).1,false)=q3t (a,s,most)
     := by
  obtain ⟨hF,hs⟩:=h;have e:∀ c:List Int×Bool,c=(if s=[] then ([],true) else ((Al.q0o (alOf a) s).1,(Al.q0o (alOf a) s).2.1==0&&decide (((Al.q0o (alOf a) s).1.length:Int)≤most)))→c=q3t (a,s,most):=λc h=>h
  refine bifP (λhb=>e _ ?_) λhb=>⟨⟨hF,hs⟩,bifP (λh0=>e _ ?_) λh0=>e _ ?_⟩
  · rw [if_pos (beq_iff_eq.1 hb)]
  · rw [if_neg (beq_eq_false_iff_ne.1 hb)]
    show _=(_,((Al.q0o (alOf a) s).2.1==0)&&_);rw [show ((Al.q0o (alOf a) s).2.1==0)=true from h0,QA]
  · rw [if_neg (beq_eq_false_iff_ne.1 hb)]
    show _=(_,((Al.q0o (alOf a) s).2.1==0)&&_);rw [show ((Al.q0o (alOf a) s).2.1==0)=false from h0,Wq]
set_option maxRecDepth 100000 in
theorem open_vc (r1 r2:List UInt8) (l:List Rul.Rule) (f t:AlP) (h:cOpen.pre ((r1,r2,l),f,t)) :
    FewR (r1,r2,l)∧bif !Rul.q04 (r1,r2,l) then ([],false)=q0l ((r1,r2,l),f,t) else FewP f∧bif !Al.q09 (alOf f) then ([],false)=q0l ((r1,r2,l),f,t) else FewP t ∧
    bif !Al.q09 (alOf t) then ([],false)=q0l ((r1,r2,l),f,t) else bif !r1==f.1 then ([],false)=q0l ((r1,r2,l),f,t) else bif !r2==t.1 then ([],false)=q0l ((r1,r2,
    l),f,t) else (∃ (p':Nat),(p'≤l.length∧(Q0 p' l).all (Rul.okIn f.2.1 t.2.1)=true)∧(True∧(0:Int)=(p':Int)∧True∧True∧True∧l=l∧(l.length:Int) =
    (l.length:Int)∧True)∧((t.1=t.1∧t.2.1=t.2.1∧t.2.2=t.2.2∧True)∧(f.1=f.1∧f.2.1=f.2.1∧f.2.2=f.2.2∧True)∧(r1=r1∧r2=r2∧l=l∧True)∧True)∧(Q3
    opOf (Q3 (Rul.q1b f.2.1) (Q0 p' l))=[]∧True)∧True∧True∧True∧True∧True∧True∧True)∧∀ (p:Nat),p≤l.length∧(Q0 p l).all (Rul.okIn f.2.1 t.2.1) =
    true→bif decide ((p:Int)<(l.length:Int)) then ((0:Int)≤(p:Int)∧(p:Int)<(l.length:Int))∧(FewP f∧(l.getD (p:Int).toNat ([],[],[],false)).1.length ≤
    (1000000:Nat))∧(FewP f∧(l.getD (p:Int).toNat ([],[],[],false)).2.2.1.length≤(1000000:Nat))∧(FewP t∧(l.getD (p:Int).toNat ([],[],[],false)).2.1.length≤(1000000 :
    Nat))∧bif !(q3t (f,(l.getD (p:Int).toNat ([],[],[],false)).1,(3:Int))).2 then ([],false)=q0l ((r1,r2,l),f,t) else bif !(q3t (f,(l.getD (p:Int).toNat ([],[],
    [],false)).2.2.1,(10:Int))).2 then ([],false)=q0l ((r1,r2,l),f,t) else bif !(q3t (t,(l.getD (p:Int).toNat ([],[],[],false)).2.1,(3:Int))).2 then ([],false)=q0l
    ((r1,r2,l),f,t) else ((Q3 opOf (Q3 (Rul.q1b f.2.1) (Q0 p l))).length+[((l.getD (p:Int).toNat ([],[],[],false)).1,(l.getD (p:Int).toNat ([],[],[],
    false)).2.1,(l.getD (p:Int).toNat ([],[],[],false)).2.2.1,(l.getD (p:Int).toNat ([],[],[],false)).2.2.2,(q3t (f,(l.getD (p:Int).toNat ([],[],[],false)).1,(3 :
    Int))).1,(q3t (f,(l.getD (p:Int).toNat ([],[],[],false)).2.2.1,(10:Int))).1)].length)*(104:Nat)≤(140737488355328:Nat)∧((-9223372036854775808:Int)≤(p:Int)+(1
    : Int)∧(p:Int)+(1:Int)≤(9223372036854775807:Int))∧∃ (p':Nat),(p'≤l.length∧(Q0 p' l).all (Rul.okIn f.2.1 t.2.1)=true)∧l.length-p'<l.length-p∧(True ∧
    (p:Int)+(1:Int)=(p':Int)∧True∧True∧True∧l=l∧(l.length:Int)=(l.length:Int)∧True)∧((t.1=t.1∧t.2.1=t.2.1∧t.2.2=t.2.2∧True)∧(f.1=f.1∧f.2.1 =
    f.2.1∧f.2.2=f.2.2∧True)∧(r1=r1∧r2=r2∧l=l∧True)∧True)∧(Q3 opOf (Q3 (Rul.q1b f.2.1) (Q0 p l))++[((l.getD (p:Int).toNat ([],[],[],false)).1,
    (l.getD (p:Int).toNat ([],[],[],false)).2.1,(l.getD (p:Int).toNat ([],[],[],false)).2.2.1,(l.getD (p:Int).toNat ([],[],[],false)).2.2.2,(q3t (f,(l.getD (↑p :
    Int).toNat ([],[],[],false)).1,(3:Int))).1,(q3t (f,(l.getD (p:Int).toNat ([],[],[],false)).2.2.1,(10:Int))).1)]=Q3 opOf (Q3 (Rul.q1b f.2.1) (Q0 p'
    l))∧True)∧True∧True∧True∧True∧True∧True∧True else (Q3 opOf (Q3 (Rul.q1b f.2.1) (Q0 p l)),true)=q0l ((r1,r2,l),f,t)
     := by
  obtain ⟨hR,hf,ht⟩:=h;have hn:l.length≤1000:=hR.2.2.1;have bad:Rul.q09 (r1,r2,l) (alOf f) (alOf t)=false→(([],false):List OP×Bool)=q0l ((r1,r2,l),f,t):=λh=>by
    unfold q0l;rw [if_neg (by rw [h];exact QJ)]
  have hv:Rul.q09 (r1,r2,l) (alOf f) (alOf t)=(Rul.q04 (r1,r2,l)&&(Al.q09 (alOf f)&&(Al.q09 (alOf t)&&(r1==f.1&&(r2==t.1&&l.all (Rul.okIn f.2.1 t.2.1)))))):=rfl;simp only [true_and,and_true];refine ⟨hR,bifP (λhb=>bad ?_) λh1=>⟨hf,bifP (λhb=>bad ?_) λh2=>⟨ht,bifP (λhb=>bad ?_) λh3=>bifP (λhb=>bad ?_) λh4=>bifP (λhb=>bad ?_) λh5=>?_⟩⟩⟩
  · rw [hv,show Rul.q04 (r1,r2,l)=false by simpa using hb];rfl
  · rw [hv,show Al.q09 (alOf f)=false by simpa using hb];simp
  · rw [hv,show Al.q09 (alOf t)=false by simpa using hb];simp
  · rw [hv,show (r1==f.1)=false by simpa using hb];simp
  · rw [hv,show (r2==t.1)=false by simpa using hb];simp
  have hvl:Rul.q09 (r1,r2,l) (alOf f) (alOf t)=l.all (Rul.okIn f.2.1 t.2.1):=by
    rw [hv,show Rul.q04 (r1,r2,l)=true by simpa using h1,show Al.q09 (alOf f)=true by simpa using h2,show Al.q09 (alOf t)=true by simpa using h3,show (r1==f.1)=true by simpa using h4,show (r2==t.1)=true by simpa using h5]
    rfl
  have hrf:∀ s most,q3t (f,s,most)=Rul.q07 f.2.1 s most:=λs most=>by
    unfold q3t Rul.q07 Al.q0o;rw [if_pos (show Al.q09 (alOf f)=true by simpa using h2)]
    rfl
  have hrt:∀ s most,q3t (t,s,most)=Rul.q07 t.2.1 s most:=λs most=>by
    unfold q3t Rul.q07 Al.q0o;rw [if_pos (show Al.q09 (alOf t)=true by simpa using h3)]
    rfl
  refine ⟨⟨0,⟨Qg _,rfl⟩,rfl,rfl⟩,?_⟩;rintro p ⟨hp,ha⟩;have hti:((p:Int).toNat)=p:=rfl;simp only [hti];refine bifP (λhb=>?_) λhb=>?_
  · have hlt:p<l.length:=by have:=of_decide_eq_true hb;omega
    have hx:=hR.2.2.2 _ (Snd.q5y l ([],[],[],false) p hlt);have hst:=Snd.qev l ([],[],[],false) (Rul.okIn f.2.1 t.2.1) p hlt;have htk:=Snd.q70 l ([],[],[],false) p hlt;have hno:Rul.okIn f.2.1 t.2.1 (l.getD p ([],[],[],false))=false→(([],false):List OP×Bool)=q0l ((r1,r2,l),f,t):=λh=>bad (by rw [hvl];exact Snd.all_no l ([],[],[],false) _ p hlt h)
    generalize l.getD p ([],[],[],false)=x at *
    obtain ⟨q1,q2,q3⟩:=hx;have hf':FewP (f.1,f.2.1,f.2.2):=hf;have ht':FewP (t.1,t.2.1,t.2.2):=ht;have e1:q3t ((f.1,f.2.1,f.2.2),x.1,3)=Rul.q07 f.2.1 x.1 3:=hrf _ _;have e2:q3t ((f.1,f.2.1,f.2.2),x.2.2.1,10)=Rul.q07 f.2.1 x.2.2.1 10:=hrf _ _;have e3:q3t ((t.1,t.2.1,t.2.2),x.2.1,3)=Rul.q07 t.2.1 x.2.1 3:=hrt _ _;rw [e1,e2,e3];have hok:Rul.okIn f.2.1 t.2.1 x=((Rul.q07 f.2.1 x.1 3).2&&((Rul.q07 f.2.1 x.2.2.1 10).2&&(Rul.q07 t.2.1 x.2.1 3).2)):=rfl;refine ⟨⟨by omega,by omega⟩,⟨hf',by omega⟩,⟨hf',by omega⟩,⟨ht',by omega⟩,bifP (λhb=>hno ?_) λg1=>bifP (λhb=>hno ?_) λg2=>bifP (λhb=>hno ?_) λg3=>?_⟩
    · rw [hok,show (Rul.q07 f.2.1 x.1 3).2=false by simpa using hb];rfl
    · rw [hok,show (Rul.q07 f.2.1 x.2.2.1 10).2=false by simpa using hb];simp
    · rw [hok,show (Rul.q07 t.2.1 x.2.1 3).2=false by simpa using hb];simp
    have hk:Rul.okIn f.2.1 t.2.1 x=true:=by
      rw [hok,show (Rul.q07 f.2.1 x.1 3).2=true by simpa using g1,show (Rul.q07 f.2.1 x.2.2.1 10).2=true by simpa using g2,show (Rul.q07 t.2.1 x.2.1 3).2=true by simpa using g3];rfl
    refine ⟨?_,⟨by omega,by omega⟩,p+1,⟨by omega,by rw [hst,ha,hk];rfl⟩,by omega,by omega,?_⟩
    · rw [Qs,Qs,Qq,Qk]
      omega
    · rw [htk,Wl,Wl];rfl
  · have hle:l.length≤p:=by have:=of_decide_eq_false hb;omega
    rw [Qp hle] at ha ⊢;unfold q0l;rw [if_pos (by rw [hvl];exact ha)]
set_option maxRecDepth 100000 in
theorem validp_vc (r:Rul.q11) (f t:AlP) (h:qhd.pre (r,f,t)) :
    (FewR r∧FewP f∧FewP t)∧(q0l (r,f,t)).2=Rul.q09 r (alOf f) (alOf t)
     := by
  refine ⟨h,?_⟩;show (q0l (r,f,t)).2=_;unfold q0l;cases Rul.q09 r (alOf f) (alOf t) <;> rfl
set_option maxRecDepth 100000 in
theorem stands_vc (x1 x2 x3:List UInt8) (x4:Bool) (f n rest:List Int) (h:cStands.pre ((x1,x2,x3,x4,f,n),rest)) :
    bif decide ((rest.length:Int)<(f.length:Int)) then false=Rul.q0x (toOp (x1,x2,x3,x4,f,n)) rest else ((0:Int)≤(0:Int)∧(0:Int)≤(f.length:Int)∧(↑f.length :
    Int)≤(rest.length:Int))∧(f.length≤(1000000:Nat)∧(List.drop (QL (0:Int)) (Q0 (f.length:Int).toNat rest)).length≤(1000000:Nat))∧bif !f==List.drop
    (QL (0:Int)) (Q0 (f.length:Int).toNat rest) then false=Rul.q0x (toOp (x1,x2,x3,x4,f,n)) rest else bif x4 then ((f.length:Int)==(rest.length:Int)) =
    Rul.q0x (toOp (x1,x2,x3,x4,f,n)) rest else bif decide ((0:Int)<(n.length:Int)) then bif decide ((f.length:Int)<(rest.length:Int)) then ((0:Int)≤(f.length:Int)
    ∧ (f.length:Int)<(rest.length:Int))∧n.length≤(1000000:Nat)∧n.contains (rest.getD (f.length:Int).toNat (0:Int))=Rul.q0x (toOp (x1,x2,x3,x4,f,n)) rest else
    false=Rul.q0x (toOp (x1,x2,x3,x4,f,n)) rest else true=Rul.q0x (toOp (x1,x2,x3,x4,f,n)) rest
     := by
  obtain ⟨hf,hn,hr⟩:=h;have hf:f.length≤1000000:=hf;have hn:n.length≤1000000:=hn;have hr:rest.length≤1000000:=hr;have hv:Rul.q0x (toOp (x1,x2,x3,x4,f,n)) rest=(decide (f.length≤rest.length)&&(f==rest.take f.length &&
    (if x4 then f.length==rest.length else if n=[] then true else decide (f.length<rest.length)&&n.contains (rest.getD f.length 0)))):=rfl
  rw [hv];have hti:((f.length:Int).toNat)=f.length:=rfl;have htz:QL 0=0:=rfl;simp only [hti,htz,QS];refine bifP (λhb=>?_) λh1=>⟨⟨by omega,by omega,by have:=of_decide_eq_false h1;omega⟩,⟨hf,by rw [Qq];omega⟩,bifP (λhb=>?_) λh2=>?_⟩
  · rw [decide_eq_false (p:=f.length≤rest.length) (by have:=of_decide_eq_true hb;omega)];rfl
  · rw [show (f==rest.take f.length)=false by simpa using hb];simp
  have hle:f.length≤rest.length:=by have:=of_decide_eq_false h1;omega
  rw [decide_eq_true hle,show (f==rest.take f.length)=true by simpa using h2,QA,QA]
  refine bifP (λh3=>?_) λh3=>?_
  · have h3:x4=true:=h3
    rw [if_pos h3,Wm,beq_iff_eq,beq_iff_eq];omega
  · have h3:x4=false:=h3
    rw [if_neg (by rw [h3];exact QJ)]
    refine bifP (λh4=>?_) λh4=>?_
    · have h4:0<n.length:=by have:=of_decide_eq_true h4;omega
      rw [if_neg (λe=>by rw [e] at h4;cases h4)]
      refine bifP (λh5=>⟨⟨by omega,by have:=of_decide_eq_true h5;omega⟩,hn,?_⟩) λh5=>?_
      · rw [decide_eq_true (p:=f.length<rest.length) (by have:=of_decide_eq_true h5;omega),QA]
      · rw [decide_eq_false (p:=f.length<rest.length) (by have:=of_decide_eq_false h5;omega),Wq]
    · have h4:n=[]:=List.eq_nil_of_length_eq_zero (by have:=of_decide_eq_false h4;omega)
      rw [if_pos h4]
set_option maxRecDepth 100000 in
theorem isname_holds:cIsName.Holds Tryz.prog:=by
 refine q20 (cons:=[cLex]) Tryz.func54 (by kernel_rfl) (by kernel_rfl) mixed (by kernel_rfl) (λc h=>by obtain rfl:=Q7.1 h;exact lex_holds) (λ_=>[]) λp hp=>?_
 refine cast ?_ (isname_vc p hp)
 kernel_rfl
set_option maxRecDepth 100000 in
theorem readr_holds:cReadR.Holds Tryz.prog:=by
 refine q20 (cons:=[cPRead]) Tryz.func43 (by kernel_rfl) (by kernel_rfl) mixed (by kernel_rfl) (λc h=>by obtain rfl:=Q7.1 h;exact qhs) (λ_=>[]) λp hp=>?_
 obtain ⟨a,s,most⟩:=p;refine cast ?_ (readr_vc a s most hp)
 kernel_rfl
set_option maxRecDepth 100000 in
theorem stands_holds:cStands.Holds Tryz.prog:=by
 refine q20 (cons:=[cEqI,cContI]) Tryz.func22 (by kernel_rfl) (by kernel_rfl) mixed (by kernel_rfl) (λc h=>by
  rcases Q8.1 h with rfl | h
  ·exact eqI_holds
  ·obtain rfl:=Q7.1 h;exact contI_holds) (λ_=>[]) λp hp=>?_
 obtain ⟨⟨x1,x2,x3,x4,f,n⟩,rest⟩:=p;refine cast ?_ (stands_vc x1 x2 x3 x4 f n rest hp)
 kernel_rfl
end Go.Proofs.YtlmbfijhkcmncaaGreatDoor
namespace Go.Proofs.YtlmbfijhkcmncaaGreatDoor
namespace Lx
def Tok.written (t:Tok):List UInt8:=if t.kind=3 then 34::(t.text++[34]) else t.text
theorem q9w (t:Tok):t.written.length=if t.kind=3 then t.text.length+2 else t.text.length:=by
 unfold Tok.written;split <;> simp
def Wr (x:List UInt8) (r:Sc):Prop:=r.err=0→(if r.kind=3 then 34::(r.text++[34]) else r.text)=x.take r.width
theorem Wr.ite {x:List UInt8} {p:Prop} [Decidable p] {a b:Sc} (ha:p→Wr x a) (hb:¬ p→Wr x b):Wr x (if p then a else b):=by
 split
 ·exact ha ‹_›
 ·exact hb ‹_›
theorem Wr.bad (x:List UInt8) {e:Int} (h:e≠0):Wr x (bad e):=λh'=>absurd h' h
theorem scan_wr (x:List UInt8):Wr x (scan x):=by
 cases x with
 | nil=>exact Wr.bad _ (by decide)
 | cons c r =>
  rw [scan];refine Wr.ite (λ_=>?_) λ_=>Wr.ite (λ_=>?_) λ_=>Wr.ite (λh3=>?_) λ_=>Wr.ite (λh4=>?_) λ_=>Wr.ite (λ_=>?_) λ_=>Wr.bad _ (by decide)
  ·exact Wr.ite (λ_=>Wr.bad _ (by decide)) λ_ _=>by simp only [];rw [if_neg (by decide)]
  ·exact Wr.ite (λ_=>Wr.bad _ (by decide)) λ_ _=>by simp only [];rw [if_neg (by decide)]
  ·refine Wr.ite (λh4=>?_) λ_=>Wr.bad _ (by decide)
   refine Wr.ite (λ_=>Wr.bad _ (by decide)) λ_ _=>?_
   simp only [if_true];obtain rfl:c=34:=by simpa using h3
   have h5:(r.drop (span q0p r)).head? = some 34:=by simpa using h4
   rw [List.head?_drop] at h5;rw [show span q0p r+2=(span q0p r+1)+1 from rfl,List.take_succ_cons,QE,h5];rfl
  ·rw [Q9] at h4
   intro _;simp only [];rw [if_neg (by decide)]
   cases r with
   | nil=>cases h4.2
   | cons d r =>
    have:d=61:=by simpa using h4.2
    subst this;rfl
  ·intro _
   simp only [];rw [if_neg (by decide)]
   rfl
theorem written_scan (x:List UInt8) (off:Nat) (h:(scan x).err=0):((scan x).tok off).written=x.take (scan x).width:=scan_wr x h
theorem q98 (x:List UInt8) (off:Nat) (h:(scan x).err=0):((scan x).tok off).written.length=(scan x).width:=by
 rw [written_scan x off h,Qq,Nat.min_eq_left (width_le h)]
theorem longest (x:List UInt8) (hx:(scan x).err=0) (hgx:gap x=0) (hy:(scan (x.drop (scan x).width)).err=0) (hgy:gap (x.drop (scan x).width)=0) {ts:List Tok}
  (h:LexOk 0 (x.take ((scan x).width+(scan (x.drop (scan x).width)).width)) ts):ts.length≠1:=by
 have hw:=width_pos hx;have hwl:=width_le hx;have hw2:=width_pos hy;have hwl2:=width_le hy;rw [Wi] at hwl2;have hs:=scan_take x ((scan x).width+(scan (x.drop (scan x).width)).width) hx (by omega)
 have hg:gap (x.take ((scan x).width+(scan (x.drop (scan x).width)).width))=0:=by rw [gap_take,hgx,Nat.min_zero]
 cases h with
 | done=>simp
 | tok _ _ ts h he hr =>
  rw [hg,QS,hs,Nat.zero_add,qew,Nat.add_sub_cancel_left] at hr;cases hr with
  | done _ _ h2 =>
   rw [gap_take,hgy,Nat.min_zero,QS] at h2;have:=congrArg QO h2;rw [Qq,Wi] at this;simp at this;omega
  | tok=>simp
theorem text_le (t:Tok):t.text.length≤t.written.length:=by
 rw [q9w];split <;> omega
end Lx
namespace Rul
abbrev TP:=Int×Int×Int×Str
def tp (t:Lx.Tok):TP:=(t.kind,t.pos,t.n,t.text)
abbrev Flt:=Int×Int
abbrev q4o:Str:=[114,117,108,101,115]
abbrev wTo:Str:=[116,111]
abbrev q76:Str:=[98,101,102,111,114,101]
abbrev wAt:Str:=[97,116]
abbrev wEnd:Str:=[101,110,100]
def q14 (e:Int):List TP→TP
 | []=>(0,e,0,[])
 | t::_=>t
def q05 (e kind:Int) (txt:Str) (ts:List TP):Except Flt (TP×List TP) :=
 if (q14 e ts).1==0 then .error (6,e)
 else if !((q14 e ts).1==kind)||(!(txt==[])&&!((q14 e ts).2.2.2==txt)) then .error (5,(q14 e ts).2.1)
 else .ok (q14 e ts,ts.drop 1)
def q3k (e lo hi:Int) (ts:List TP):Except Flt (Str×List TP) :=
 (q05 e 3 [] ts).bind λx=>if q0e x.1.2.2.2 lo hi then .ok (x.1.2.2.2,x.2) else .error (1,x.1.2.1)
def q5d (e:Int) (f t:Str) (ts:List TP):Except Flt (Rule×List TP) :=
 if (q14 e ts).1==1 then
  if (q14 e ts).2.2.2==q76 then (q05 e 1 q76 ts).bind λx=>(q3k e 1 30 x.2).bind λy=>.ok ((f,t,y.1,false),y.2)
  else if (q14 e ts).2.2.2==wAt then (q05 e 1 wAt ts).bind λx=>(q05 e 1 wEnd x.2).bind λy=>.ok ((f,t,[],true),y.2)
  else .ok ((f,t,[],false),ts)
 else .ok ((f,t,[],false),ts)
def q62 (e:Int) (ts:List TP):Except Flt (Rule×List TP) :=
 (q3k e 1 9 ts).bind λx=>(q05 e 1 wTo x.2).bind λy=>(q3k e 0 9 y.2).bind λz=>q5d e x.1 z.1 z.2
def q39 (e:Int) (acc:List Rule) (ts:List TP):Except Flt (List Rule×List TP) :=
 if acc.length==80&&(q14 e ts).1==3 then .error (2,(q14 e ts).2.1)
 else (q62 e ts).bind λx=>(q05 e 4 [59] x.2).bind λy=>if acc.contains x.1 then .error (8,y.1.2.1) else .ok (acc++[x.1],y.2)
def q1v:Nat→Int→List Rule→List TP→Except Flt (List Rule)
 | 0,_,_,_=>.error (0,0)
 | f+1,e,acc,ts=>if acc.length==0||decide (0<ts.length) then (q39 e acc ts).bind λx=>q1v f e x.1 x.2 else .ok acc
def q5w (e:Int) (ts:List TP):Except Flt (Str×Str×List TP) :=
 (q05 e 1 q4o ts).bind λx=>(q05 e 1 [] x.2).bind λa=>(q05 e 1 wTo a.2).bind λy=>(q05 e 1 [] y.2).bind λb=>(q05 e 4 [59] b.2).bind λz=>.ok (a.1.2.2.2,b.1.2.2.2,z.2)
def q6d (e:Int) (ts:List TP):Except Flt q11:=(q5w e ts).bind λx=>(q1v (x.2.2.length+1) e [] x.2.2).bind λl=>.ok (x.1,x.2.1,l)
def q2s (s:Str):q11×Int×Int :=
 if (Lx.lex s).2.1==0 then match q6d s.length ((Lx.lex s).1.map tp) with
  | .ok r=>(r,0,0)
  | .error x=>(([],[],[]),x.1,x.2)
 else (([],[],[]),(Lx.lex s).2.1,(Lx.lex s).2.2)
theorem q3o {e k:Int} {s:Str} {ts:List TP} {x:TP×List TP} (h:q05 e k s ts=.ok x):∃ r,ts=x.1::r∧x.2=r∧x.1.1=k∧x.1.1≠0∧(s≠[]→x.1.2.2.2=s):=by
 unfold q05 at h;split at h
 ·cases h
 ·rename_i h0
  split at h
  ·cases h
  ·rename_i h1
   injection h with h;subst h;cases ts with
   | nil=>exact absurd rfl h0
   | cons t r =>
    refine ⟨r,rfl,rfl,?_,?_,?_⟩
    ·simp [q14] at h1 ⊢
     exact h1.1
    ·simpa [q14] using h0
    ·intro hs
     simp [q14] at h1 ⊢;exact h1.2 hs
theorem qfa {e lo hi:Int} {ts:List TP} {x:Str×List TP} (h:q3k e lo hi ts=.ok x):∃ t r,ts=t::r∧x=(t.2.2.2,r)∧t.1=3∧q0e t.2.2.2 lo hi=true:=by
 unfold q3k at h;cases ht:q05 e 3 [] ts with
 | error y=>rw [ht] at h;cases h
 | ok y =>
  rw [ht] at h;obtain ⟨r,h1,h2,h3,_⟩:=q3o ht;have h:(if q0e y.1.2.2.2 lo hi then (Qa (y.1.2.2.2,y.2):Except Flt (Str×List TP)) else .error (1,y.1.2.1))=Qa x:=h
  split at h
  ·rename_i hp
   injection h with h;exact ⟨y.1,r,h1,by rw [← h,h2],h3,hp⟩
  ·cases h
theorem tailM_ok {e:Int} {f t:Str} {ts:List TP} {x:Rule×List TP} (h:q5d e f t ts=.ok x):x.1.1=f∧x.1.2.1=t∧((x.1.2.2.1=[]∧x.1.2.2.2=false∧x.2=ts)∨(q0e x.1.2.2.1 1 30=true∧x.1.2.2.2=false∧x.2.length<ts.length)∨(x.1.2.2.1=[]∧x.1.2.2.2=true∧x.2.length<ts.length)):=by
 unfold q5d at h;split at h
 ·split at h
  ·cases h1:q05 e 1 q76 ts with
   | error y=>rw [h1] at h;cases h
   | ok y =>
    rw [h1] at h;obtain ⟨r,q1,q2,_⟩:=q3o h1;have h:((q3k e 1 30 y.2).bind λy=>Qa ((f,t,y.1,false),y.2))=Qa x:=h
    cases h2:q3k e 1 30 y.2 with
    | error z=>rw [h2] at h;cases h
    | ok z =>
     rw [h2] at h;obtain ⟨t',r',q3,q4,_,q5⟩:=qfa h2;injection h with h;subst h;refine ⟨rfl,rfl,.inr (.inl ⟨?_,rfl,?_⟩)⟩
     ·rw [q4];exact q5
     ·rw [q4,q1,← q2,q3];simp;omega
  ·split at h
   ·cases h1:q05 e 1 wAt ts with
    | error y=>rw [h1] at h;cases h
    | ok y =>
     rw [h1] at h;obtain ⟨r,q1,q2,_⟩:=q3o h1;have h:((q05 e 1 wEnd y.2).bind λy=>Qa ((f,t,[],true),y.2))=Qa x:=h
     cases h2:q05 e 1 wEnd y.2 with
     | error z=>rw [h2] at h;cases h
     | ok z =>
      rw [h2] at h;obtain ⟨r',q3,q4,_⟩:=q3o h2;injection h with h;subst h;refine ⟨rfl,rfl,.inr (.inr ⟨rfl,rfl,?_⟩)⟩;rw [q1,← q2,q3,q4];simp;omega
   ·injection h with h
    subst h;exact ⟨rfl,rfl,.inl ⟨rfl,rfl,rfl⟩⟩
 ·injection h with h
  subst h;exact ⟨rfl,rfl,.inl ⟨rfl,rfl,rfl⟩⟩
theorem plainB_wide {s:Str} {lo hi lo' hi':Int} (h:q0e s lo hi=true) (h1:lo'≤lo) (h2:hi≤hi'):q0e s lo' hi'=true:=by
 unfold q0e at h ⊢;rw [Q9,Q9,decide_eq_true_iff,decide_eq_true_iff] at h ⊢;exact ⟨h.1,by omega,by omega⟩
theorem ruleM_ok {e:Int} {ts:List TP} {x:Rule×List TP} (h:q62 e ts=.ok x):q1g x.1=true∧x.2.length<ts.length∧(q14 e ts).1=3:=by
 unfold q62 at h;cases h1:q3k e 1 9 ts with
 | error y=>rw [h1] at h;cases h
 | ok y =>
  rw [h1] at h;obtain ⟨t1,r1,p1,p2,p3,p4⟩:=qfa h1;have h:((q05 e 1 wTo y.2).bind λq=>(q3k e 0 9 q.2).bind λz=>q5d e y.1 z.1 z.2)=Qa x:=h
  cases h2:q05 e 1 wTo y.2 with
  | error z=>rw [h2] at h;cases h
  | ok z =>
   rw [h2] at h;obtain ⟨r2,q1,q2,_⟩:=q3o h2;have h:((q3k e 0 9 z.2).bind λz=>q5d e y.1 z.1 z.2)=Qa x:=h
   cases h3:q3k e 0 9 z.2 with
   | error u=>rw [h3] at h;cases h
   | ok u =>
    rw [h3] at h;obtain ⟨t3,r3,s1,s2,_,s4⟩:=qfa h3;have h:q5d e y.1 u.1 u.2=Qa x:=h;obtain ⟨k1,k2,k3⟩:=tailM_ok h;have hy:y.1=t1.2.2.2:=by rw [p2]
    have hu:u.1=t3.2.2.2:=by rw [s2]
    have hl:u.2.length+3=ts.length:=by
     rw [s2,p1];have e1:y.2=r1:=by rw [p2]
     have:r1.length=r3.length+2:=by rw [← e1,q1,← q2,s1];simp
     simp [this]
    have hpl:q0e x.1.2.2.1 0 30=true:=by
     rcases k3 with ⟨k,_⟩ | ⟨k,_⟩ | ⟨k,_⟩
     ·rw [k];rfl
     ·exact plainB_wide k (by omega) (by omega)
     ·rw [k];rfl
    refine ⟨?_,?_,?_⟩
    ·unfold q1g
     rw [k1,hy,p4,k2,hu,s4,hpl];rcases k3 with ⟨k,k',_⟩ | ⟨k,k',_⟩ | ⟨k,k',_⟩
     ·rw [k,k'];rfl
     ·rw [k'];rfl
     ·rw [k,k'];rfl
    ·rcases k3 with ⟨_,_,k⟩ | ⟨_,_,k⟩ | ⟨_,_,k⟩
     ·rw [k];omega
     ·omega
     ·omega
    ·rw [p1];exact p3
theorem qci:∀ (l:List Rule) (x:Rule),once (l++[x])=(once l&&!(l.contains x))
 | [],x=>by simp [once]
 | a::l,x=>by
  show (!((l++[x]).any λy=>a==y)&&once (l++[x]))=_
  rw [qci l x,Qx,show once (a::l)=(!(l.any λy=>a==y)&&once l) from rfl,Qy]
  simp only [List.any_cons,List.any_nil,QV];have:(x==a)=(a==x):=by rw [Wm,beq_iff_eq,beq_iff_eq];exact eq_comm
  rw [this];cases l.any (λy=>a==y) <;> cases (a==x) <;> cases once l <;> cases l.contains x <;> rfl
theorem qeb {e:Int} {acc:List Rule} {ts:List TP} {x:List Rule×List TP} (h:q39 e acc ts=.ok x) (ha:acc.length≤80) (hok:acc.all q1g=true) (ho:once acc=true) :
  x.2.length<ts.length∧1≤x.1.length∧x.1.length≤80∧x.1.all q1g=true∧once x.1=true:=by
 unfold q39 at h;split at h
 ·cases h
 ·rename_i h80
  cases h1:q62 e ts with
  | error y=>rw [h1] at h;cases h
  | ok y =>
   rw [h1] at h;obtain ⟨p1,p2,p3⟩:=ruleM_ok h1;have h:((q05 e 4 [59] y.2).bind λz=>if acc.contains y.1 then .error (8,z.1.2.1) else Qa (acc++[y.1],z.2))=Qa x:=h
   cases h2:q05 e 4 [59] y.2 with
   | error z=>rw [h2] at h;cases h
   | ok z =>
    rw [h2] at h;obtain ⟨r,q1,q2,_⟩:=q3o h2;have h:(if acc.contains y.1 then (.error (8,z.1.2.1):Except Flt (List Rule×List TP)) else Qa (acc++[y.1],z.2))=Qa x:=h
    split at h
    ·cases h
    ·rename_i hc
     injection h with h;subst h;have hne:acc.length≠80:=λe80=>h80 (by rw [e80,p3];rfl)
     have hl:y.2.length=z.2.length+1:=by rw [q1,q2];simp
     refine ⟨by show z.2.length<_;omega,by simp,by rw [Qn,Qk];omega,?_,?_⟩
     ·rw [Wn,hok];simp [p1]
     ·rw [qci,ho];simpa using hc
theorem qk6 (e:Int):∀ (f g:Nat) (acc:List Rule) (ts:List TP),ts.length<f→ts.length<g→acc.length≤80→acc.all q1g=true→once acc=true→q1v f e acc ts=q1v g e acc ts
 | 0,_,_,_,h,_,_,_,_=>by omega
 | _+1,0,_,_,_,h,_,_,_=>by omega
 | f+1,g+1,acc,ts,h1,h2,ha,hok,ho=>by
  show (if acc.length==0||decide (0<ts.length) then (q39 e acc ts).bind λx=>q1v f e x.1 x.2 else .ok acc)=(if acc.length==0||decide (0<ts.length) then (q39 e acc ts).bind λx=>q1v g e x.1 x.2 else .ok acc)
  split
  ·cases hm:q39 e acc ts with
   | error y=>rfl
   | ok y =>
    obtain ⟨p1,_,p3,p4,p5⟩:=qeb hm ha hok ho;exact qk6 e f g y.1 y.2 (by omega) (by omega) p3 p4 p5
  ·rfl
theorem listM_ok (e:Int):∀ (f:Nat) (acc:List Rule) (ts:List TP) (l:List Rule),q1v f e acc ts=.ok l→acc.length≤80→acc.all q1g=true→once acc=true→1≤l.length∧l.length≤80∧l.all q1g=true∧once l=true
 | 0,_,_,_,h,_,_,_=>by cases h
 | f+1,acc,ts,l,h,ha,hok,ho=>by
  have h:(if acc.length==0||decide (0<ts.length) then (q39 e acc ts).bind λx=>q1v f e x.1 x.2 else .ok acc)=Qa l:=h
  split at h
  ·cases hm:q39 e acc ts with
   | error y=>rw [hm] at h;cases h
   | ok y =>
    rw [hm] at h;obtain ⟨_,_,p3,p4,p5⟩:=qeb hm ha hok ho;exact listM_ok e f y.1 y.2 l h p3 p4 p5
  ·rename_i hn
   injection h with h;subst h;refine ⟨?_,ha,hok,ho⟩;have:¬ acc.length=0:=λe=>hn (by rw [e];rfl)
   omega
theorem headM_ok {e:Int} {ts:List TP} {x:Str×Str×List TP} (h:q5w e ts=.ok x):∃ a b t1 t2 t3,ts=t1::a::t2::b::t3::x.2.2∧a.1=1∧b.1=1∧x.1=a.2.2.2∧x.2.1=b.2.2.2:=by
 unfold q5w at h;cases h1:q05 e 1 q4o ts with
 | error y=>rw [h1] at h;cases h
 | ok y1 =>
  rw [h1] at h;obtain ⟨r1,a1,a2,_⟩:=q3o h1;have h:((q05 e 1 [] y1.2).bind λa=>(q05 e 1 wTo a.2).bind λy=>(q05 e 1 [] y.2).bind λb=>(q05 e 4 [59] b.2).bind λz=>Qa (a.1.2.2.2,b.1.2.2.2,z.2))=.ok x:=h
  cases h2:q05 e 1 [] y1.2 with
  | error y=>rw [h2] at h;cases h
  | ok y2 =>
   rw [h2] at h;obtain ⟨r2,b1,b2,b3,_⟩:=q3o h2;have h:((q05 e 1 wTo y2.2).bind λy=>(q05 e 1 [] y.2).bind λb=>(q05 e 4 [59] b.2).bind λz=>Qa (y2.1.2.2.2,b.1.2.2.2,z.2))=.ok x:=h
   cases h3:q05 e 1 wTo y2.2 with
   | error y=>rw [h3] at h;cases h
   | ok y3 =>
    rw [h3] at h;obtain ⟨r3,c1,c2,_⟩:=q3o h3;have h:((q05 e 1 [] y3.2).bind λb=>(q05 e 4 [59] b.2).bind λz=>Qa (y2.1.2.2.2,b.1.2.2.2,z.2))=.ok x:=h
    cases h4:q05 e 1 [] y3.2 with
    | error y=>rw [h4] at h;cases h
    | ok y4 =>
     rw [h4] at h;obtain ⟨r4,d1,d2,d3,_⟩:=q3o h4;have h:((q05 e 4 [59] y4.2).bind λz=>Qa (y2.1.2.2.2,y4.1.2.2.2,z.2))=.ok x:=h
     cases h5:q05 e 4 [59] y4.2 with
     | error y=>rw [h5] at h;cases h
     | ok y5 =>
      rw [h5] at h;obtain ⟨r5,e1,e2,_⟩:=q3o h5;injection h with h;subst h;refine ⟨y2.1,y4.1,y1.1,y3.1,y5.1,?_,b3,d3,rfl,rfl⟩;rw [a1,← a2,b1,← b2,c1,← c2,d1,← d2,e1,e2]
end Rul
namespace Lx
end Lx
namespace Rul
open Lx (q2g isWord q0j q0p gap scan LexOk)
theorem qf4 {r:q11} (h:q04 r=true):q0j r.1=true∧q0j r.2.1=true∧1≤r.2.2.length∧r.2.2.length≤80∧r.2.2.all q1g=true∧once r.2.2=true:=by
 unfold q04 at h;simp only [Q9,decide_eq_true_iff] at h;exact h
theorem formed_in {r:q11} (h1:q0j r.1=true) (h2:q0j r.2.1=true) (h3:1≤r.2.2.length) (h4:r.2.2.length≤80) (h5:r.2.2.all q1g=true) (h6:once r.2.2=true):q04 r=true:=by
 unfold q04;simp only [Q9,decide_eq_true_iff];exact ⟨h1,h2,h3,h4,h5,h6⟩
theorem q2w {α β:Type} {x:α} {f:α→Except Flt β}:(Qa x:Except Flt α).bind f=f x:=rfl
theorem once_tail {x:Rule} {acc l:List Rule} (h:once (acc++x::l)=true):acc.contains x=false∧once (acc++[x])=true:=by
 have e:∀ (a b:List Rule),once (a++b)=true→once a=true:=by
  intro a
  induction a with
  | nil=>intro b _;rfl
  | cons y a ih =>
   intro b h;have h:(!((a++b).any λz=>y==z)&&once (a++b))=true:=h
   rw [Q9] at h;show (!(a.any λz=>y==z)&&once a)=true
   rw [ih b h.2];have:=h.1;rw [Qx] at this;simp only [Bool.not_or,Q9] at this;rw [this.1];rfl
 have h1:once (acc++[x])=true:=e (acc++[x]) l (by simpa using h)
 refine ⟨?_,h1⟩;rw [qci,Q9] at h1
 simpa using h1.2
end Rul
open Go.RowKit R
abbrev zRuD0_0 (l:List Rul.Rule) (p:Nat) (p':Nat):Prop :=
 (Mp.put (CK.agg (Kds.cons Kd.str (Kds.cons Kd.str (Kds.cons Kd.str (Kds.one Kd.bool))))).eqB (l.getD (p:Int).toNat ([],[],[],false)) true (Q3 (λ(x:List UInt8×List UInt8×List UInt8×Bool)=>(x,true)) (Q0 p l))=Q3 (λ(x:List UInt8×List UInt8×List UInt8×Bool)=>(x,true)) (Q0 p' l)∧True)
set_option maxRecDepth 100000 in
theorem formed_vc (r1 r2:List UInt8) (l:List Rul.Rule) (h:qjh.pre (r1,r2,l)) :
  (∃ (p':Nat),(p'≤l.length∧(Q0 p' l).all Rul.q1g=true∧Rul.once (Q0 p' l)=true)∧((0:Int)=(p':Int)∧True∧zE false∧True∧l=l∧zE (l.length:Int)∧True)∧((r1=r1∧r2=r2∧l=l∧True)∧True)∧True∧True∧([]=Q3 (λ(x:List UInt8×List UInt8×List UInt8×Bool)=>(x,true)) (Q0 p' l)∧True)∧zT5)∧∀ (p:Nat),p≤l.length∧(Q0 p l).all Rul.q1g=true∧Rul.once (Q0 p l)=true→bif decide ((p:Int)<(l.length:Int)) then (0≤(p:Int)∧(p:Int)<(l.length:Int))∧(l.getD (p:Int).toNat ([],[],[],false)).1.length≤(1000000000:Nat)∧bif !Rul.q0e (l.getD (p:Int).toNat ([],[],[],false)).1 (1:Int) (9:Int) then false=Rul.q04 (r1,r2,l) else (l.getD (p:Int).toNat ([],[],[],false)).2.1.length≤(1000000000:Nat)∧bif !Rul.q0e (l.getD (p:Int).toNat ([],[],[],false)).2.1 (0:Int) (9:Int) then false=Rul.q04 (r1,r2,l) else (l.getD (p:Int).toNat ([],[],[],false)).2.2.1.length≤(1000000000:Nat)∧bif !Rul.q0e (l.getD (p:Int).toNat ([],[],[],false)).2.2.1 (0:Int) (30:Int) then false=Rul.q04 (r1,r2,l) else bif (l.getD (p:Int).toNat ([],[],[],false)).2.2.2 then bif !(l.getD (p:Int).toNat ([],[],[],false)).2.2.1==[] then false=Rul.q04 (r1,r2,l) else bif (Mp.get (CK.agg (Kds.cons Kd.str (Kds.cons Kd.str (Kds.cons Kd.str (Kds.one Kd.bool))))).eqB (l.getD (p:Int).toNat ([],[],[],false)) (Q3 (λ(x:List UInt8×List UInt8×List UInt8×Bool)=>(x,true)) (Q0 p l))).getD false then false=Rul.q04 (r1,r2,l) else (zFit ((p:Int)+1))∧∃ (p':Nat),(p'≤l.length∧(Q0 p' l).all Rul.q1g=true∧Rul.once (Q0 p' l)=true)∧l.length-p'<l.length-p∧((p:Int)+1=(p':Int)∧True∧zE false∧True∧l=l∧zE (l.length:Int)∧True)∧((r1=r1∧r2=r2∧l=l∧True)∧True)∧True∧True∧(zRuD0_0 l p p')∧zT5 else bif (Mp.get (CK.agg (Kds.cons Kd.str (Kds.cons Kd.str (Kds.cons Kd.str (Kds.one Kd.bool))))).eqB (l.getD (p:Int).toNat ([],[],[],false)) (Q3 (λ(x:List UInt8×List UInt8×List UInt8×Bool)=>(x,true)) (Q0 p l))).getD false then false=Rul.q04 (r1,r2,l) else (zFit ((p:Int)+1))∧∃ (p':Nat),(p'≤l.length∧(Q0 p' l).all Rul.q1g=true∧Rul.once (Q0 p' l)=true)∧l.length-p'<l.length-p∧((p:Int)+1=(p':Int)∧True∧zE false∧True∧l=l∧zE (l.length:Int)∧True)∧((r1=r1∧r2=r2∧l=l∧True)∧True)∧True∧True∧(zRuD0_0 l p p')∧zT5 else r1.length≤(1000:Nat)∧bif Lx.q0j r1 then r2.length≤(1000:Nat)∧bif Lx.q0j r2 then bif decide (1≤(l.length:Int)) then decide ((l.length:Int)≤80)=Rul.q04 (r1,r2,l) else false=Rul.q04 (r1,r2,l) else false=Rul.q04 (r1,r2,l) else false=Rul.q04 (r1,r2,l):=by
 delta zRuD0_0 zFit zE zT5
 simp only [true_and,and_true];obtain ⟨hr1,hr2,hl,hx⟩:=h;have hr1:r1.length≤1000:=hr1;have hr2:r2.length≤1000:=hr2;have hl:l.length≤1000:=hl;have hx:∀ x∈l,FewT x:=hx;refine ⟨⟨0,⟨Qg _,rfl,rfl⟩,rfl,rfl⟩,λk ⟨hk,hall,honce⟩=>bifP (λhb=>?_) λhb=>?_⟩
 ·have hlt:k<l.length:=by have:=of_decide_eq_true hb;omega
  have hti:((k:Int)).toNat=k:=rfl;have hxk:l[k]? = some (l.getD k ([],[],[],false)):=by rw [QC,Qc hlt];rfl
  have hmem:l.getD k ([],[],[],false)∈l:=Ql hxk;have htk:l.take (k+1)=l.take k++[l.getD k ([],[],[],false)]:=by rw [QE,hxk];rfl
  have hdr:l=l.take k++l.getD k ([],[],[],false)::l.drop (k+1):=by
   conv=>lhs;rw [← List.take_append_drop (k+1) l,htk]
   rw [QD];rfl
  have hf:=hx _ hmem;rw [hti];generalize l.getD k ([],[],[],false)=x at *
  obtain ⟨x1,x2,x3,x4⟩:=x;obtain ⟨f1,f2,f3⟩:=hf;dsimp only at f1 f2 f3 ⊢;have no:Rul.q1g (x1,x2,x3,x4)=false→false=Rul.q04 (r1,r2,l):=λh=>by
   cases hf:Rul.q04 (r1,r2,l)
   ·rfl
   ·obtain ⟨_,_,_,_,q,_⟩:=Rul.qf4 hf
    have:=Qr.1 q _ hmem
    rw [h] at this;cases this
  have ho:Rul.q1g (x1,x2,x3,x4)=(Rul.q0e x1 1 9&&(Rul.q0e x2 0 9&&(Rul.q0e x3 0 30&&!(x4&&!(x3==[]))))):=rfl;have dup:(l.take k).contains (x1,x2,x3,x4)=true→false=Rul.q04 (r1,r2,l):=λh=>by
   cases hf:Rul.q04 (r1,r2,l)
   ·rfl
   ·obtain ⟨_,_,_,_,_,q⟩:=Rul.qf4 hf
    have q:Rul.once l=true:=q;rw [hdr] at q;have:=(Rul.once_tail q).1;rw [h] at this;cases this
  refine ⟨⟨by omega,by omega⟩,by omega,bifP (λh1=>no (by rw [ho,show Rul.q0e x1 1 9=false by simpa using h1];rfl)) λh1=>?_⟩
  have h1:Rul.q0e x1 1 9=true:=by simpa using h1
  refine ⟨by omega,bifP (λh2=>no (by rw [ho,h1,show Rul.q0e x2 0 9=false by simpa using h2];rfl)) λh2=>?_⟩
  have h2:Rul.q0e x2 0 9=true:=by simpa using h2
  refine ⟨by omega,bifP (λh3=>no (by rw [ho,h1,h2,show Rul.q0e x3 0 30=false by simpa using h3];rfl)) λh3=>?_⟩
  have h3:Rul.q0e x3 0 30=true:=by simpa using h3
  have go:(l.take k).contains (x1,x2,x3,x4)=false→Rul.q1g (x1,x2,x3,x4)=true→((-9223372036854775808:Int)≤(k:Int)+1∧(k:Int)+1≤9223372036854775807)∧∃ p',(p'≤l.length∧(Q0 p' l).all Rul.q1g=true∧Rul.once (Q0 p' l)=true)∧l.length-p'<l.length-k∧(k:Int)+1=(p':Int) ∧
    Mp.put q7l (x1,x2,x3,x4) true (Q3 (λx=>(x,true)) (Q0 k l))=Q3 (λx=>(x,true)) (Q0 p' l):=λhc hok=>by
   refine ⟨⟨by omega,by omega⟩,k+1,⟨by omega,?_,?_⟩,by omega,by omega,?_⟩
   ·rw [htk,Wn,hall];simpa using hok
   ·rw [htk,Rul.qci,honce,hc];rfl
   ·rw [qjp _ _ hc,htk]
  have fin:x4=false∨(x3==[])=true→bif (Mp.get q7l (x1,x2,x3,x4) (Q3 (λx=>(x,true)) (Q0 k l))).getD false then false=Rul.q04 (r1,r2,l) else ((-9223372036854775808:Int)≤(k:Int)+1∧(k:Int)+1≤9223372036854775807)∧∃ p',(p'≤l.length∧(Q0 p' l).all Rul.q1g=true∧Rul.once (Q0 p' l)=true)∧l.length-p'<l.length-k∧(k:Int)+1=(p':Int) ∧
    Mp.put q7l (x1,x2,x3,x4) true (Q3 (λx=>(x,true)) (Q0 k l))=Q3 (λx=>(x,true)) (Q0 p' l):=λhx=>by
   rw [qe9];refine bifP dup λhc=>go hc ?_
   rw [ho,h1,h2,h3];rcases hx with hx | hx <;> rw [hx] <;> simp
  exact bifP (λh4=>bifP (λh5=>no (by rw [ho,h1,h2,h3,show x4=true from h4,show (x3==[])=false by simpa using h5];rfl)) λh5=>fin (.inr (by simpa using h5))) λh4=>fin (.inl h4)
 ·have hge:l.length≤k:=by have:=of_decide_eq_false hb;omega
  rw [Qp hge] at hall honce;have hv:Rul.q04 (r1,r2,l)=(Lx.q0j r1&&(Lx.q0j r2&&(decide (1≤l.length)&&(decide (l.length≤80)&&(l.all Rul.q1g&&Rul.once l))))):=rfl;rw [hv,hall,honce];refine ⟨hr1,bifP (λh1=>⟨hr2,bifP (λh2=>?_) λh2=>?_⟩) λh1=>?_⟩
  ·rw [show Lx.q0j r1=true from h1,show Lx.q0j r2=true from h2]
   have e1:decide ((1:Int)≤(l.length:Int))=decide (1≤l.length):=decide_eq_decide.2 (by omega)
   have e2:decide ((l.length:Int)≤80)=decide (l.length≤80):=decide_eq_decide.2 (by omega)
   rw [e1,e2];cases decide (1≤l.length) <;> cases decide (l.length≤80) <;> rfl
  ·rw [show Lx.q0j r1=true from h1,show Lx.q0j r2=false from h2];rfl
  ·rw [show Lx.q0j r1=false from h1];rfl
set_option maxRecDepth 100000 in
theorem qh0:qjh.Holds Tryz.prog:=by
 refine q20 (cons:=[cPlain,cIsName]) Tryz.func29 (by kernel_rfl) (by kernel_rfl) mixed (by kernel_rfl) (λc h=>by
  rcases Q8.1 h with rfl | h
  ·exact qhx
  ·obtain rfl:=Q7.1 h;exact isname_holds) (λr=>anFormed r) λp hp=>?_
 obtain ⟨r1,r2,l⟩:=p;refine cast ?_ (formed_vc r1 r2 l hp)
 kernel_rfl
set_option maxRecDepth 100000 in
theorem qk4:cOpen.Holds Tryz.prog:=by
 refine q20 (cons:=[qjh,cPValid,cReadR]) Tryz.func20 (by kernel_rfl) (by kernel_rfl) mixed (by kernel_rfl) (λc h=>by
  rcases Q8.1 h with rfl | h
  ·exact qh0
  rcases Q8.1 h with rfl | h
  ·exact pvalid_holds
  ·obtain rfl:=Q7.1 h;exact readr_holds) (λp=>anOpen p.1 p.2.1 p.2.2) λp hp=>?_
 obtain ⟨⟨r1,r2,l⟩,f,t⟩:=p;refine cast ?_ (open_vc r1 r2 l f t hp)
 kernel_rfl
set_option maxRecDepth 100000 in
theorem qfw:qhd.Holds Tryz.prog:=by
 refine q20 (cons:=[cOpen]) Tryz.func12 (by kernel_rfl) (by kernel_rfl) mixed (by kernel_rfl) (λc h=>by obtain rfl:=Q7.1 h;exact qk4) (λ_=>[]) λp hp=>?_
 obtain ⟨r,f,t⟩:=p;refine cast ?_ (validp_vc r f t hp)
 kernel_rfl
namespace Mp
section
variable {α β:Type} [BEq α] [LawfulBEq α] [DecidableEq α]
theorem get_put (a n:α) (v:β):∀ xs:List (α×β),get (λx y=>x==y) n (put (λx y=>x==y) a v xs)=if n=a then some v else get (λx y=>x==y) n xs
 | []=>by
  show (if (n==a)=true then some v else none)=if n=a then some v else none
  by_cases h:n=a
  ·rw [if_pos (beq_iff_eq.2 h),if_pos h]
  ·rw [if_neg (λe=>h (beq_iff_eq.1 e)),if_neg h]
 | x::r=>by
  show get _ n (if (a==x.1)=true then (a,v)::r else x::put _ a v r)=if n=a then some v else (if (n==x.1)=true then some x.2 else get _ n r)
  by_cases hx:a=x.1
  ·rw [if_pos (beq_iff_eq.2 hx)]
   show (if (n==a)=true then some v else get _ n r)=_
   by_cases h:n=a
   ·rw [if_pos (beq_iff_eq.2 h),if_pos h]
   ·rw [if_neg (λe=>h (beq_iff_eq.1 e)),if_neg h,if_neg (λe=>h ((beq_iff_eq.1 e).trans hx.symm))]
  ·rw [if_neg (λe=>hx (beq_iff_eq.1 e))]
   show (if (n==x.1)=true then some x.2 else get _ n (put _ a v r))=_
   rw [get_put a n v r];by_cases h:n=a
   ·rw [if_pos h,if_pos h,if_neg (λe=>hx (h.symm.trans (beq_iff_eq.1 e)))]
   ·rw [if_neg h,if_neg h]
theorem get_app (a n:α) (v:β):∀ xs:List (α×β),get (λx y=>x==y) n (xs++[(a,v)])=match get (λx y=>x==y) n xs with | some u=>some u | none=>if n=a then some v else none
 | []=>by
  show (if (n==a)=true then some v else none)=_
  by_cases h:n=a
  ·rw [if_pos (beq_iff_eq.2 h)];simp [get,h]
  ·rw [if_neg (λe=>h (beq_iff_eq.1 e))];simp [get,h]
 | x::r=>by
  show (if (n==x.1)=true then some x.2 else get _ n (r++[(a,v)]))=_
  have e:get (λx y=>x==y) n (x::r)=(if (n==x.1)=true then some x.2 else get (λx y=>x==y) n r):=rfl
  rw [e];cases h:(n==x.1)
  ·rw [if_neg (by simp),if_neg (by simp),get_app a n v r]
  ·rw [if_pos rfl,if_pos rfl]
theorem qjn (a:α) (v:β):∀ (xs:List (α×β)) (x:α),x∈(put (λx y=>x==y) a v xs).map (·.1)↔x=a∨x∈xs.map (·.1)
 | [],x=>by simp [put]
 | y::r,x=>by
  have e:put (λx y=>x==y) a v (y::r)=(if (a==y.1)=true then (a,v)::r else y::put (λx y=>x==y) a v r):=rfl
  rw [e];by_cases h:a=y.1
  ·rw [if_pos (beq_iff_eq.2 h),Qd,Q8,Qd,Q8,← h]
   constructor
   ·rintro (h | h)
    ·exact .inl h
    ·exact .inr (.inr h)
   ·rintro (h | h | h)
    ·exact .inl h
    ·exact .inl h
    ·exact .inr h
  ·rw [if_neg (λe=>h (beq_iff_eq.1 e)),Qd,Q8,qjn a v r,Qd,Q8]
   constructor
   ·rintro (h | h | h)
    ·exact .inr (.inl h)
    ·exact .inl h
    ·exact .inr (.inr h)
   ·rintro (h | h | h)
    ·exact .inr (.inl h)
    ·exact .inl h
    ·exact .inr (.inr h)
theorem nodup_put (a:α) (v:β):∀ (xs:List (α×β)),(xs.map (·.1)).Nodup→((put (λx y=>x==y) a v xs).map (·.1)).Nodup
 | [],_=>by simp [put]
 | y::r,hn=>by
  have e:put (λx y=>x==y) a v (y::r)=(if (a==y.1)=true then (a,v)::r else y::put (λx y=>x==y) a v r):=rfl
  rw [Qd,QN] at hn;rw [e];by_cases h:a=y.1
  ·rw [if_pos (beq_iff_eq.2 h),Qd,QN]
   exact ⟨by rw [show ((a,v).1:α)=y.1 from h];exact hn.1,hn.2⟩
  ·rw [if_neg (λe=>h (beq_iff_eq.1 e)),Qd,QN]
   refine ⟨λhm=>?_,nodup_put a v r hn.2⟩
   rcases (qjn a v r _).1 hm with e | hm
   ·exact h e.symm
   ·exact hn.1 hm
end
end Mp
theorem qkb {α:Type} {e:α}:∀ (l:List α) (j:Nat),l[j]? = some e→l.Perm (e::l.eraseIdx j)
 | [],j,h=>by cases h
 | a::l,0,h=>by injection h with h;subst h;exact QR _
 | a::l,j+1,h=>((qkb l j h).cons a).trans (List.Perm.swap _ _ _)
theorem tabAt_new {xs:NX} {a:Int} (h:(Mp.get eqI a xs).isSome=false) (n:Nat):q38 (xs++[(a,[])]) n=q38 xs n:=by
 unfold q38;have:Mp.get eqI (n:Int) (xs++[(a,[])])=_:=Mp.get_app a (n:Int) [] xs;rw [this];cases hg:Mp.get (λx y:Int=>x==y) (n:Int) xs with
 | some u=>rw [show Mp.get eqI (n:Int) xs=some u from hg]
 | none =>
  rw [show Mp.get eqI (n:Int) xs=none from hg];dsimp only;split <;> rfl
theorem has_new {xs:NX} {a:Int}:(Mp.get eqI a (xs++[(a,[])])).isSome=true:=by
 have:Mp.get eqI a (xs++[(a,[])])=_:=Mp.get_app a a [] xs
 rw [this];cases Mp.get (λx y:Int=>x==y) a xs with
 | some u=>rfl
 | none=>dsimp only;rw [if_pos rfl];rfl
def putS (xs:NX) (a:Nat) (s:List UInt8):NX:=Mp.put eqI (a:Int) (Mp.put (λx y=>x==y) s true ((Mp.get eqI (a:Int) xs).getD [])) xs
theorem tabAt_put (xs:NX) (a:Nat) (s:List UInt8) (n:Nat):q38 (putS xs a s) n=if n=a then (Mp.put (λx y=>x==y) s true ((Mp.get eqI (a:Int) xs).getD [])).map (·.1) else q38 xs n:=by
 unfold q38 putS;have:Mp.get eqI (n:Int) (Mp.put eqI (a:Int) (Mp.put (λx y=>x==y) s true ((Mp.get eqI (a:Int) xs).getD [])) xs)=_:=Mp.get_put (a:Int) (n:Int) _ xs
 rw [this];by_cases h:n=a
 ·rw [if_pos (by rw [h]),if_pos h];rfl
 ·rw [if_neg (by omega),if_neg h];rfl
theorem has_put (xs:NX) (a:Nat) (s:List UInt8):(Mp.get eqI (a:Int) (putS xs a s)).isSome=true:=by
 unfold putS;have:Mp.get eqI (a:Int) (Mp.put eqI (a:Int) (Mp.put (λx y=>x==y) s true ((Mp.get eqI (a:Int) xs).getD [])) xs)=_:=Mp.get_put (a:Int) (a:Int) _ xs
 rw [this,if_pos rfl];rfl
theorem Tb.put {xs:NX} {Q:Nat→List UInt8→Prop} (h:Tb xs Q) (a:Nat) (s:List UInt8):Tb (putS xs a s) λn x=>Q n x∨(n=a∧x=s) where
 mem:=λn x=>by
  rw [tabAt_put];by_cases e:n=a
  ·rw [if_pos e,Mp.qjn,← h.mem n x,e]
   show x=s∨x∈q38 xs a↔_;constructor
   ·rintro (h | h)
    ·exact .inr ⟨rfl,h⟩
    ·exact .inl h
   ·rintro (h | h)
    ·exact .inr h
    ·exact .inl h.2
  ·rw [if_neg e,h.mem]
   exact ⟨.inl,λh=>h.elim id λh=>absurd h.1 e⟩
 nodup:=λn=>by
  rw [tabAt_put];by_cases e:n=a
  ·rw [if_pos e]
   exact Mp.nodup_put _ _ _ (h.nodup a)
  ·rw [if_neg e];exact h.nodup n
theorem Tb.ext {xs:NX} {Q Q':Nat→List UInt8→Prop} (h:Tb xs Q) (he:∀ n s,Q n s↔Q' n s):Tb xs Q':=⟨λn s=>(h.mem n s).trans (he n s),h.nodup⟩
theorem Tb.new {xs:NX} {Q:Nat→List UInt8→Prop} (h:Tb xs Q) {a:Int} (ha:(Mp.get eqI a xs).isSome=false):Tb (xs++[(a,[])]) Q:=⟨λn s=>by rw [tabAt_new ha];exact h.mem n s,λn=>by rw [tabAt_new ha];exact h.nodup n⟩
section
variable {rs:List Rul.q0g} {w:List Int}
theorem tab_start:Tb [((0:Int),[([],true)])] (Rul.q4i rs w 0 []):=by
 have e:∀ n:Nat,q38 [((0:Int),[([],true)])] n=if n=0 then [[]] else []:=λn=>by
  unfold q38;show Q3 _ (Option.getD (if ((n:Int)==0)=true then some [([],true)] else none) [])=_
  by_cases h:n=0
  ·rw [if_pos h,if_pos (by rw [beq_iff_eq];omega)];rfl
  ·rw [if_neg h,if_neg (by rw [beq_iff_eq];omega)];rfl
 refine ⟨λn s=>?_,λn=>?_⟩
 ·rw [e,Rul.qkl]
  by_cases h:n=0
  ·rw [if_pos h,Q7];exact ⟨λe=>⟨h,e⟩,λe=>e.2⟩
  ·rw [if_neg h];exact ⟨λe=>(by cases e),λe=>absurd e.1 h⟩
 ·rw [e];split
  ·simp
  ·exact List.nodup_nil
theorem reach_len {m:Nat} (hp:Rul.Pos rs) (hm:∀ x∈rs,x.1.2.1.length≤m) {k:Nat} {s:List UInt8} (h:Rul.Reach rs w k s):s.length≤m*k:=by
 induction h with
 | zero=>exact Qg _
 | step h hk hx hs ih =>
  have h1:=hm _ hx;have h2:=hp _ hx;rw [Qn,Nat.mul_add];have:m*1≤m*_:=Nat.mul_le_mul_left m h2;omega
theorem tab_sort (hp:Rul.Pos rs) {k:Nat} (hk:k≤w.length) {xs:NX} (h:Tb xs (Rul.q4i rs w k [])):q6m (q38 xs k)=Rul.setOf (Rul.tabs rs w k k) :=
 sortS_set (h.nodup k) λx=>by rw [h.mem,Rul.mem_tabs hp hk,Rul.q6i hp (Qm k)]
theorem qj1 (hp:Rul.Pos rs) {k:Nat} (hk:k≤w.length) {xs:NX} (h:Tb xs (Rul.q4i rs w k [])):Rul.q4e rs w k=decide (200<(q38 xs k).length):=by
 unfold Rul.q4e;rw [← tab_sort hp hk h];have:(q6m (q38 xs k)).length=(q38 xs k).length:=QQ _;rw [this]
theorem rAt_some {i:Nat} (h:i<rs.length):rs[i]? = some (rAt rs i):=by unfold rAt;rw [QC,Qc h];rfl
theorem qhn {i:Nat} (h:i<rs.length):rAt rs i∈rs:=Ql (rAt_some h)
theorem take_next {i:Nat} (h:i<rs.length):rs.take (i+1)=rs.take i++[rAt rs i]:=by rw [QE,rAt_some h];rfl
theorem mid_skip {k i:Nat} {xs:NX} (h:q5k rs w k i xs) (hi:i<rs.length) (hs:Rul.q0x (rAt rs i) (w.drop k)=false):q5k rs w k (i+1) xs :=
 ⟨hi,h.2.ext λn s=>by rw [take_next hi];exact (Rul.qe3 hs).symm⟩
theorem in_start {k i:Nat} {xs:NX} (h:q5k rs w k i xs) (ha:(Mp.get eqI ((k+(rAt rs i).2.1.length:Nat):Int) xs).isSome=true):inIn rs w k i xs xs ((Mp.get eqI (k:Int) xs).getD []) :=
 ⟨ha,[],QR _,h.2.ext λn s=>⟨.inl,λh=>h.elim id λh=>(by obtain ⟨_,s',h,_⟩:=h;cases h)⟩⟩
theorem mid_new {k i:Nat} {xs:NX} (h:q5k rs w k i xs) {a:Int} (ha:(Mp.get eqI a xs).isSome=false):q5k rs w k i (xs++[(a,[])]):=⟨h.1,h.2.new ha⟩
theorem in_step {k i:Nat} {xs0 xs:NX} {left:List (List UInt8×Bool)} (h:inIn rs w k i xs0 xs left) {j:Nat} {e:List UInt8×Bool} (he:left[j]? = some e):inIn rs w k i xs0 (putS xs (k+(rAt rs i).2.1.length) (e.1++(rAt rs i).1.2.1)) (left.eraseIdx j):=by
 obtain ⟨ha,done,hp,ht⟩:=h;refine ⟨has_put _ _ _,done++[e.1],hp.trans ?_,(ht.put _ _).ext λn s=>?_⟩
 ·rw [QD]
  exact ((qkb left j he).map (·.1)).append_left done
 ·constructor
  ·rintro ((h | ⟨h1,s',h2,h3⟩) | ⟨h1,h2⟩)
   ·exact .inl h
   ·exact .inr ⟨h1,s',Qv _ h2,h3⟩
   ·exact .inr ⟨h1,e.1,QP _ (Q7.2 rfl),h2⟩
  ·rintro (h | ⟨h1,s',h2,h3⟩)
   ·exact .inl (.inl h)
   ·rcases Qu.1 h2 with h2 | h2
    ·exact .inl (.inr ⟨h1,s',h2,h3⟩)
    ·obtain rfl:=Q7.1 h2
     exact .inr ⟨h1,h3⟩
theorem in_end (hp:Rul.Pos rs) {k i:Nat} {xs0 xs:NX} (h0:q5k rs w k i xs0) (hi:i<rs.length) (hk:k<w.length) (hs:Rul.q0x (rAt rs i) (w.drop k)=true) (h:inIn rs w k i xs0 xs []):q5k rs w k (i+1) xs:=by
 obtain ⟨ha,done,hpm,ht⟩:=h;rw [List.map_nil,Wj] at hpm;refine ⟨hi,ht.ext λn s=>?_⟩
 rw [take_next hi,Rul.qk2 hk (qhn hi) hs];have e:∀ s',s'∈done↔Rul.Reach rs w k s':=λs'=>by rw [← hpm.mem_iff,h0.2.mem,Rul.q6i hp (Qm k)]
 constructor
 ·rintro (h | ⟨h1,s',h2,h3⟩)
  ·exact .inl h
  ·exact .inr ⟨h1,s',(e s').1 h2,h3⟩
 ·rintro (h | ⟨h1,s',h2,h3⟩)
  ·exact .inl h
  ·exact .inr ⟨h1,s',(e s').2 h2,h3⟩
theorem out_next (hp:Rul.Pos rs) {k i:Nat} {xs0 xs:NX} (h0:inOut rs w k xs0) (hk:k<w.length) (hn:(q38 xs0 k).length≤200) (h:q5k rs w k i xs) (hi:rs.length≤i):inOut rs w (k+1) xs:=by
 refine ⟨hk,?_,h.2.ext λn s=>by rw [Qp hi];exact Rul.qk0.symm⟩
 rw [QK,Qx,h0.2.1,QU];show (Rul.q4e rs w k||false)=false;rw [qj1 hp h0.1 h0.2.2,QV];exact decide_eq_false (by omega)
theorem many_out (hp:Rul.Pos rs) {k:Nat} {xs:NX} (h:inOut rs w k xs) (hn:200<(q38 xs k).length):Rul.q40 rs w=([],2):=by
 unfold Rul.q40;rw [if_pos];refine List.any_eq_true.2 ⟨k,List.mem_range.2 (by have:=h.1;omega),?_⟩
 rw [qj1 hp h.1 h.2.2];exact decide_eq_true hn
theorem write_out (hp:Rul.Pos rs) {xs:NX} (h:inOut rs w w.length xs) (hn:(q38 xs w.length).length≤200):Rul.q40 rs w=(q6m (q38 xs w.length),0):=by
 unfold Rul.q40;rw [if_neg]
 ·rw [tab_sort hp h.1 h.2.2]
 ·rw [QK,Qx,h.2.1,QU]
  show ¬ (Rul.q4e rs w w.length||false)=true;rw [qj1 hp h.1 h.2.2,QV,decide_eq_false (by omega)]
  exact QJ
end
namespace Al
theorem qg5:∀ (pl:List (Nat×Int)) (out:List Int),out.length≤24→(collect out pl).1.length≤24
 | [],out,h=>h
 | (a,k)::r,out,h=>by
  unfold collect;split
  ·exact Qg _
  ·split
   ·exact Qg _
   ·rename_i h1 h2
    exact qg5 r _ (by rw [Qn,Qk];omega)
theorem qfp:∀ (pl:List (Nat×Int)) (out:List Int),(collect out pl).2.1=0→out.length≤(collect out pl).1.length
 | [],out,h=>Qm _
 | (a,k)::r,out,h=>by
  unfold collect at h ⊢;split at h
  ·cases h
  ·split at h
   ·cases h
   ·rename_i h1 h2
    rw [if_neg h1,if_neg h2];have:=qfp r _ h;rw [Qn,Qk] at this;omega
theorem qbb (L:List (List UInt8)) (s:List UInt8):(q0m L s).1.length≤24:=by
 unfold q0m;split
 ·exact Qg _
 ·exact qg5 _ _ (Qg _)
theorem readL_least {L:List (List UInt8)} {s:List UInt8} (h:(q0m L s).2.1=0):1≤(q0m L s).1.length:=by
 unfold q0m at h ⊢;split at h
 ·cases h
 ·rename_i hne
  rw [if_neg hne];cases s with
  | nil=>exact absurd rfl hne
  | cons c r =>
   have e:places L ((c::r).length+1) 0 (c::r)=(match first L (c::r) with | none=>[(0,-1)] | some (k,n)=>(0,(k:Int))::places L (c::r).length (0+n) ((c::r).drop n)):=rfl
   rw [e] at h ⊢;split at h
   ·cases h
   ·rename_i k n hf
    unfold collect at h ⊢;rw [if_neg (by omega),if_neg (by simp)] at h ⊢
    have:=qfp _ _ h
    simpa using this
end Al
namespace Rul
theorem pos_of {r:q11} {f t:Al.Alph} (h:q09 r f t=true):Pos (r.2.2.map (q1b f.letters))∧∀ x∈r.2.2.map (q1b f.letters),x.1.2.1.length≤9:=by
 unfold q09 at h;simp only [Q9] at h;obtain ⟨h1,_,_,_,_,h2⟩:=h;unfold q04 at h1;simp only [Q9] at h1;obtain ⟨_,_,_,_,h3,_⟩:=h1;refine ⟨λy hy=>?_,λy hy=>?_⟩
 ·obtain ⟨x,hx,rfl⟩:=QH.1 hy
  have a:=Qr.1 h2 x hx;have b:=Qr.1 h3 x hx;unfold okIn at a;unfold q1g q0e at b;simp only [Q9,decide_eq_true_eq] at a b;show 1≤(q07 f.letters x.1 3).1.length;have a:=a.1;unfold q07 at a ⊢;have hne:x.1≠[]:=λe=>by
   have b:=b.1.2.1;rw [e] at b;simp at b
  rw [if_neg hne] at a ⊢;simp only [Q9,beq_iff_eq] at a;exact Al.readL_least a.1
 ·obtain ⟨x,hx,rfl⟩:=QH.1 hy
  have b:=Qr.1 h3 x hx;unfold q1g q0e at b;simp only [Q9,decide_eq_true_eq] at b;have:=b.2.1.2.2;show x.2.1.length≤9;omega
end Rul
end Go.Proofs.YtlmbfijhkcmncaaGreatDoor

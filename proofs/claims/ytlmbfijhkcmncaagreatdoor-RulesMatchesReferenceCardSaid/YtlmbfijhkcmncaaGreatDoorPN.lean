/-
  Several texts in one: AlLaw, AlLaw2, AlLaw3, AlLaw4, AlMap, AlPlaces, AlValid, AlLetters, AlRead, PAl, RuA.
-/
import Derived.Test.YtlmbfijhkcmncaaGreatDoorPL
import Derived.Maps.Views
import Derived.Test.YtlmbfijhkcmncaaGreatDoorPM
import Derived.Maps.OwnSet
import Derived.Laws.EntriesVeiled
import Derived.RangeFuncNested
import Derived.RangeFuncBound
import Derived.RangeFuncCalls
import Derived.RangeFuncLeaves
import Derived.Shelf.Abstract
import Derived.Shelf.RegionOpen
import Derived.OwnWalkIn
import Derived.TacticsInMore
import Derived.LoopNIn
import Derived.LoopIn
import Derived.RegionTactic
import Derived.BigRegion
import Derived.Deep.CutRange
import Derived.Deep.CutBlock
import Derived.RangeFuncBox
import Derived.Maps.AppendAt
open Go.Lib renaming hid→Q0,toList_data→QD,hasPrefix→QL
open Bool renaming and_eq_true→Q3,not_eq_true→Qf,not_eq_true'→Qw,true_and→QK,eq_iff_iff→Wi
open Go.KeepsOthers renaming setCell→Q7
open List renaming getElem?_eq_getElem→Q8,getElem_mem→Q9,length_cons→Qa,length→Qc,length_drop→Qd,contains_iff_mem→Qe,take_of_length_le→Qg,getElem_of_mem→Qh,length_nil→Qi,length_append→Qj,eq_nil_of_length_eq_zero→Qk,length_take→Ql,getD_eq_getElem?_getD→Qm,isPrefixOf_iff_prefix→Qn,nil_append→Qo,all_eq_true→Qq,take_succ_eq_append_getElem→Qr,take_length→Qs,cons_append→Qt,all_append→Qu,mem_singleton→Qv,take_prefix→Qx,any_eq_true→Qy,prefix_iff_eq_take→QA,drop_eq_nil_of_le→QE,any_cons→QN,append_toArray→QO,findIdx_cons→QW,size_toArray→QZ,push_toArray→W9,mem_append→Wl,take→Wp
open Nat renaming le_refl→Qb,le_trans→Qz,lt_of_lt_of_le→QP,ne_of_lt→QR,lt_trans→QS,ne_of_gt→QU,le_of_lt→QV,zero_le→We
open Go.World renaming putObj_heap_other→Qp,cell?_of_block→QF,ownsRow_nil→Wd,size_alloc→Wh
open Go.Exit renaming noGoto_ret→QC,inBlock→QQ
open Go.Fence renaming wide→QG
open Array renaming replicate_succ→QH,replicate_zero→QJ
open Int renaming toNat_natCast→QY
open Go.WideAt renaming IsKeyLit→Wj
open Go.Oper renaming semAt_some→Wm
open Go.Value renaming bool→Wn,int→Wo
open Go.DataW.lit renaming inj→Wq
open Go.Lit.int renaming inj→Ws
set_option linter.unusedVariables false
namespace Go.Proofs.YtlmbfijhkcmncaaGreatDoor
namespace Al
theorem longest_eq {L:List (List UInt8)} {s:List UInt8} (m:Nat):∀ n,m≤n→1≤m→L.contains (s.take m)=true→(∀ j,m<j→j≤n→L.contains (s.take j)=false)→longest L s n=some (idx L (s.take m),m):=by
 intro n
 induction n with
 | zero=>intro h1 h2;omega
 | succ n ih =>
  intro h1 h2 h3 h4;by_cases h:m=n+1
  ·subst h
   rw [longest,if_pos h3]
  ·rw [longest,if_neg (by rw [h4 (n+1) (by omega) (by omega)];decide)]
   exact ih (by omega) h2 h3 (λj hj hn=>h4 j hj (by omega))
theorem longest_some {L:List (List UInt8)} {s:List UInt8} {k m:Nat}:∀ n,longest L s n=some (k,m)→1≤m∧m≤n∧L.contains (s.take m)=true∧k=idx L (s.take m)∧∀ j,m<j→j≤n→L.contains (s.take j)=false:=by
 intro n
 induction n with
 | zero=>intro h;cases h
 | succ n ih =>
  intro h;rw [longest] at h;by_cases hc:L.contains (s.take (n+1))=true
  ·rw [if_pos hc] at h
   simp only [Option.some.injEq,Prod.mk.injEq] at h;obtain ⟨rfl,rfl⟩:=h;exact ⟨by omega,Qb _,hc,rfl,λj h1 h2=>by omega⟩
  ·rw [if_neg hc] at h
   obtain ⟨h1,h2,h3,h4,h5⟩:=ih h;refine ⟨h1,by omega,h3,h4,λj hj hn=>?_⟩
   by_cases hj2:j=n+1
   ·subst hj2;simpa using hc
   ·exact h5 j hj (by omega)
theorem qke {L:List (List UInt8)} {s:List UInt8} {k m:Nat} (h:first L s=some (k,m)):1≤m∧m≤3∧m≤s.length∧L.contains (s.take m)=true∧k=idx L (s.take m)∧∀ j,m<j→j≤3→j≤s.length→L.contains (s.take j)=false:=by
 obtain ⟨h1,h2,h3,h4,h5⟩:=longest_some _ h;exact ⟨h1,by omega,by omega,h3,h4,λj a b c=>h5 j a (by omega)⟩
theorem idx_lt {L:List (List UInt8)} {l:List UInt8} (h:L.contains l=true):idx L l<L.length:=by
 unfold idx;rw [List.findIdx_lt_length];exact ⟨l,by simpa using h,by simp⟩
theorem q4t {L:List (List UInt8)} {l:List UInt8} (h:L.contains l=true):L[idx L l]? = some l:=by
 have hl:=idx_lt h;rw [Q8 hl];have:=List.findIdx_getElem (xs:=L) (p:=(·==l)) (w:=hl);rw [beq_iff_eq] at this;exact congrArg some this
theorem q5r {a:Alph} (h:q04 a=true):∀ l∈a.letters,1≤l.length∧l.length≤3:=by
 intro l hl;unfold q04 at h;simp only [Q3,Qq] at h;have:=h.1.1.2 l hl;unfold q1f at this;simp only [Q3,decide_eq_true_eq] at this;exact this.2
theorem qg4 {a:Alph} (h:q09 a=true):q04 a=true:=by
 unfold q09 at h;rw [Q3] at h;exact h.1
theorem valid_clash {a:Alph} (h:q09 a=true) {l:List UInt8} (hl:l∈a.letters):clash a.letters l 1=false∧clash a.letters l 2=false:=by
 unfold q09 at h;rw [Q3,Qq] at h;have:=h.2 l hl
 simpa using this
theorem qcy {L:List (List UInt8)} (h:q1p L=true):∀ (i:Nat) (hi:i<L.length),idx L L[i]=i:=by
 induction L with
 | nil=>intro i hi;simp at hi
 | cons l r ih =>
  intro i hi;rw [q1p,Q3] at h;cases i with
  | zero=>unfold idx;rw [QW];simp
  | succ i =>
   have hi':i<r.length:=by simpa using hi
   have hne:(l==r[i])=false:=by
    rw [beq_eq_false_iff_ne];rintro rfl;have:=h.1;simp at this
   have:=ih h.2 i hi'
   unfold idx at this ⊢;rw [QW];simp [hne,this]
end Al
namespace Al
theorem q9e {a:Alph} (h:q04 a=true):q1p a.letters=true:=by
 unfold q04 at h;simp only [Q3] at h;exact h.1.2
end Al
namespace Al
end Al
namespace Al
theorem qd1 {L:List (List UInt8)} (h:q1p L=true) {i k:Nat} (hi:i<L.length) (hk:k<L.length) (he:L[i]=L[k]):i=k:=by
 have h1:=qcy h i hi;have h2:=qcy h k hk;rw [he,h2] at h1;exact h1.symm
theorem first_best {L:List (List UInt8)} (hL:∀ l∈L,1≤l.length∧l.length≤3) (hd:q1p L=true) {s:List UInt8} {k:Nat} (hk:k<L.length) (hp:L[k] <+: s) (hmax:∀ l∈L,l <+: s→l.length≤L[k].length):first L s=some (k,L[k].length):=by
 have hb:=hL _ (Q9 hk);have ht:s.take L[k].length=L[k]:=(QA.1 hp).symm;have hle:=hp.length_le;have:=longest_eq (L:=L) (s:=s) L[k].length (min 3 s.length) (by omega) hb.1 (by rw [ht];simp) ?_
 ·rw [ht,qcy hd k hk] at this
  exact this
 ·intro j hj hn
  rw [← Qf];intro hc;have hm:=Qe.1 hc;have:=hmax _ hm (Qx _ _);rw [Ql] at this;omega
theorem first_no {L:List (List UInt8)} (hL:∀ l∈L,1≤l.length∧l.length≤3) {s:List UInt8} (h:∀ l∈L,¬ l <+: s):first L s=none:=by
 cases hf:first L s with
 | none=>rfl
 | some km =>
  obtain ⟨k,m⟩:=km;have:=(qke hf).2.2.2.1;exact absurd (Qx _ _) (h _ (Qe.1 this))
def better (L:List (List UInt8)) (s:List UInt8) (i:Nat) (out:Int):Int :=
 if (q3n L i).isPrefixOf s&&(decide (out<0)||decide ((q3n L out).length<(q3n L i).length)) then i else out
def best (L:List (List UInt8)) (s:List UInt8):Nat→Int
 | 0=>-1
 | i+1=>better L s i (best L s i)
theorem q3r (L:List (List UInt8)) (i:Nat) (h:i<L.length):q3n L (i:Int)=L[i]:=by
 unfold q3n;rw [Qm,QY,Q8 h];rfl
theorem best_spec (L:List (List UInt8)) (s:List UInt8):∀ n,n≤L.length →
  (best L s n=-1∧∀ i (h:i<L.length),i<n→¬ L[i] <+: s)∨(∃ k,∃ hk:k<L.length,best L s n=(k:Int)∧k<n∧L[k] <+: s∧∀ i (h:i<L.length),i<n→L[i] <+: s→L[i].length≤L[k].length):=by
 intro n
 induction n with
 | zero=>intro _;exact .inl ⟨rfl,λi _ h=>by omega⟩
 | succ n ih =>
  intro hn;have hl:q3n L (n:Int)=L[n]:=q3r L n (by omega)
  rw [best,better,hl];rcases ih (by omega) with ⟨h1,h2⟩ | ⟨k,hk,h1,h2,h3,h4⟩
  ·rw [h1]
   by_cases hp:L[n] <+: s
   ·right
    refine ⟨n,by omega,?_,by omega,hp,?_⟩
    ·rw [if_pos (by simp [hp])]
    ·intro i hi hin hip
     by_cases he:i=n
     ·subst he;exact Qb _
     ·exact absurd hip (h2 i hi (by omega))
   ·left
    refine ⟨by rw [if_neg (by simp [hp])],?_⟩
    intro i hi hin;by_cases he:i=n
    ·subst he;exact hp
    ·exact h2 i hi (by omega)
  ·rw [h1,q3r L k hk]
   right
   by_cases hp:L[n] <+: s∧L[k].length<L[n].length
   ·refine ⟨n,by omega,?_,by omega,hp.1,?_⟩
    ·rw [if_pos (by simp [hp.1,hp.2])]
    ·intro i hi hin hip
     by_cases he:i=n
     ·subst he;exact Qb _
     ·have:=h4 i hi (by omega) hip;omega
   ·refine ⟨k,hk,?_,by omega,h3,?_⟩
    ·rw [if_neg]
     simp only [Q3,Bool.or_eq_true,decide_eq_true_eq,Qn];rintro ⟨a,b⟩;rcases b with b | b
     ·omega
     ·exact hp ⟨a,b⟩
    ·intro i hi hin hip
     by_cases he:i=n
     ·subst he
      rcases Nat.lt_or_ge L[k].length L[i].length with h | h
      ·exact absurd ⟨hip,h⟩ hp
      ·exact h
     ·exact h4 i hi (by omega) hip
def atR (L:List (List UInt8)) (s:List UInt8):Int:=match first L s with | none=>-1 | some (k,_)=>k
theorem best_all {L:List (List UInt8)} (hL:∀ l∈L,1≤l.length∧l.length≤3) (hd:q1p L=true) (s:List UInt8):best L s L.length=atR L s:=by
 unfold atR;rcases best_spec L s L.length (Qb _) with ⟨h1,h2⟩ | ⟨k,hk,h1,_,h3,h4⟩
 ·rw [h1,first_no hL (λl hl=>by obtain ⟨i,hi,rfl⟩:=Qh hl;exact h2 i hi hi)]
 ·rw [h1,first_best hL hd hk h3 (λl hl hp=>by obtain ⟨i,hi,rfl⟩:=Qh hl;exact h4 i hi hi hp)]
def q2l (L:List (List UInt8)) (i k:Nat):Bool:=decide (i≠k)&&((q3n L k).isPrefixOf (q3n L i)&&follows L 4 ((q3n L i).drop (q3n L k).length))
theorem valid_ref {a:Alph} (hf:q04 a=true):q09 a=!((List.range a.letters.length).any λi=>(List.range a.letters.length).any λk=>q2l a.letters i k):=by
 have hl:=q5r hf;have hd:=q9e hf;rw [Wi];unfold q09;rw [hf,QK,Qq,Qw,← Qf,Qy];constructor
 ·rintro h ⟨i,hi,h2⟩
  rw [Qy] at h2;obtain ⟨k,hk,h2⟩:=h2;rw [List.mem_range] at hi hk;unfold q2l at h2;rw [q3r _ i hi,q3r _ k hk] at h2;simp only [Q3,decide_eq_true_eq,Qn] at h2;obtain ⟨hne,hp,hfo⟩:=h2;have hml:=hl _ (Q9 hk);have hll:=hl _ (Q9 hi);have hlt:a.letters[k].length<a.letters[i].length:=by
   rcases Nat.lt_or_ge a.letters[k].length a.letters[i].length with h' | h'
   ·exact h'
   ·have:=hp.eq_of_length_le h'
    exact absurd (qd1 hd hk hi this).symm hne
  have ht:a.letters[i].take a.letters[k].length=a.letters[k]:=(QA.1 hp).symm;have hcl:clash a.letters a.letters[i] a.letters[k].length=true:=by
   unfold clash;rw [ht,hfo];simp [hlt]
  have h3:=h _ (Q9 hi);simp only [Q3,Qw] at h3;have:a.letters[k].length=1∨a.letters[k].length=2:=by omega
  rcases this with h4 | h4
  ·rw [h4,h3.1] at hcl;cases hcl
  ·rw [h4,h3.2] at hcl;cases hcl
 ·intro h l hm
  have key:∀ n,clash a.letters l n=false:=by
   intro n;rw [← Qf];intro hc;unfold clash at hc;simp only [Q3,decide_eq_true_eq,Qe] at hc;obtain ⟨h1,h2,h3⟩:=hc;obtain ⟨i,hi,rfl⟩:=Qh hm;obtain ⟨k,hk,he⟩:=Qh h2;refine h ⟨i,by simpa using hi,?_⟩
   rw [Qy];refine ⟨k,by simpa using hk,?_⟩
   unfold q2l;rw [q3r _ i hi,q3r _ k hk];have hlk:a.letters[k].length=n:=by rw [he,Ql];omega
   have hp:a.letters[k] <+: a.letters[i]:=by rw [he];exact Qx _ _
   rw [hlk,h3];simp only [Q3,decide_eq_true_eq,Qn];refine ⟨?_,hp,trivial⟩;rintro rfl;omega
  simp [key]
end Al
namespace Al
open Go.Maps
def idxD (L:List (List UInt8)):Nat→DataW Unit
 | 0=>.map []
 | n+1=>(idxD L n).put (.string (q3n L (n:Int))) (.lit (.int .i64 (n:Int)))
theorem idxD_map (L:List (List UInt8)) (n:Nat):IsMap (idxD L n):=by
 induction n with
 | zero=>exact isMap_empty
 | succ n ih=>exact ih.put _ _
theorem has_idxD (L:List (List UInt8)) (s:List UInt8):∀ n,n≤L.length→has (idxD L n) (.string s)=(L.take n).contains s:=by
 intro n
 induction n with
 | zero=>intro _;rfl
 | succ n ih =>
  intro hn;have hl:=q3r L n (by omega)
  have ht:L.take (n+1)=L.take n++[L[n]]:=by rw [Qr (by omega)]
  rw [idxD,hl];rw [ht];by_cases h:s=L[n]
  ·subst h
   rw [has_put_same (idxD_map L n) (show Wj (.string L[n]) from trivial)]
   symm
   rw [Qe];exact List.mem_append_right _ (Qv.2 rfl)
  ·rw [has_put_other (by intro he;injection he with he;exact h he),ih (by omega),List.contains_append]
   simp [h]
theorem has_all (L:List (List UInt8)) (s:List UInt8):has (idxD L L.length) (.string s)=L.contains s:=by
 rw [has_idxD L s _ (Qb _),Qs]
theorem at_idxD {L:List (List UInt8)} (hd:q1p L=true) (i:Nat) (hi:i<L.length) (z:DataW Unit):∀ n,i<n→n≤L.length→(idxD L n).atKey (.string L[i]) z=.lit (.int .i64 (i:Int)):=by
 intro n
 induction n with
 | zero=>intro h;omega
 | succ n ih =>
  intro h1 h2;rw [idxD,q3r L n (by omega)]
  by_cases h:i=n
  ·subst h
   exact atKey_put_same (idxD_map L i) (show Wj (.string L[i]) from trivial) _ _
  ·rw [atKey_put_other]
   ·exact ih (by omega) (by omega)
   ·intro he
    injection he with he;exact h (qd1 hd hi (by omega) he)
theorem at_all {L:List (List UInt8)} (hd:q1p L=true) {s:List UInt8} (hs:L.contains s=true) (z:DataW Unit):(idxD L L.length).atKey (.string s) z=.lit (.int .i64 (idx L s:Nat)):=by
 have h1:=idx_lt hs;have h2:=q4t hs;rw [Q8 h1] at h2;have h3:=Option.some.inj h2;have:=at_idxD hd (idx L s) h1 z L.length h1 (Qb _);rw [h3] at this;exact this
end Al
end Go.Proofs.YtlmbfijhkcmncaaGreatDoor
namespace Go.Proofs.YtlmbfijhkcmncaaGreatDoor
open Go.RowKit Go.Maps
attribute [local go_sem] q12 q0q q0s
namespace Al
theorem qg8 (l:List (List UInt8)) (x:List UInt8):q1p (l++[x])=(q1p l&&!l.contains x):=by
 induction l with
 | nil=>simp [q1p]
 | cons y l ih =>
  rw [Qt,q1p,q1p,ih,Wi];simp only [Q3,Qw,← Qf,Qe,Wl,Qv,List.mem_cons];constructor
  ·rintro ⟨h1,h2,h3⟩
   exact ⟨⟨λh=>h1 (.inl h),h2⟩,λh=>h.elim (λh=>h1 (.inr (.inl h.symm))) h3⟩
  ·rintro ⟨⟨h1,h2⟩,h3⟩
   exact ⟨λh=>h.elim h1 (λh=>h.elim (λh=>h3 (.inl h.symm)) (λh=>by cases h)),h2,λh=>h3 (.inr h)⟩
theorem qi7 {L:List (List UInt8)} {k:Nat} (hk:k<L.length) (h:(L.take k).contains L[k]=true):q1p L=false:=by
 rw [← Qf];intro hn;obtain ⟨i,hi,he⟩:=Qh (Qe.1 h);rw [List.getElem_take] at he;rw [Ql] at hi;have:=qd1 hn (by omega) hk he
 omega
theorem q73 {α:Type} (L:List α) (k:Nat) (hk:k<L.length):L.take (k+1)=L.take k++[L[k]]:=by
 rw [Qr hk]
theorem q57 {a:Alph} (h:Lx.q0j a.name=false∨a.letters.length<1∨64<a.letters.length∨a.small.length≠a.letters.length∨(∃ l∈a.letters,q1f l=false)∨q1p a.letters=false∨(∃ k∈a.small,q4c a.letters.length a.small k=false)):q04 a=false:=by
 rw [← Qf];intro hf;unfold q04 at hf;simp only [Q3,decide_eq_true_eq,beq_iff_eq,Qq] at hf;obtain ⟨⟨⟨⟨⟨h1,h2,h3⟩,h4⟩,h5⟩,h6⟩,h7⟩:=hf;rcases h with h | h | h | h | ⟨l,hl,h⟩ | h | ⟨k,hk,h⟩
 ·rw [h1] at h;cases h
 ·omega
 ·omega
 ·exact h h4
 ·rw [h5 l hl] at h;cases h
 ·rw [h6] at h;cases h
 ·rw [h7 k hk] at h;cases h
theorem is_formed {a:Alph} (h1:Lx.q0j a.name=true) (h2:1≤a.letters.length) (h3:a.letters.length≤64) (h4:a.small.length=a.letters.length) (h5:a.letters.all q1f=true) (h6:q1p a.letters=true) (h7:a.small.all (q4c a.letters.length a.small)=true):q04 a=true:=by
 unfold q04;rw [h1,h5,h6,h7,h4];simp [h2,h3]
end Al
def q2u (a:Al.Alph) (w:World) (e:Ending) (w':World):Prop :=
 Below w.heap.size w w'∧((Al.q04 a=false∧e=.returned (.tuple #[.map none,.bool false])) ∨
  (Al.q04 a=true∧∃ b,e=.returned (.tuple #[.map (some b),.bool true])∧w.heap.size≤b∧w'.ownsMap Tryz.prog 9 (plainElem Tryz.prog 3) b a.letters.length (Al.idxD a.letters a.letters.length)))
theorem q2u.no {a:Al.Alph} {w w':World} (hb:Below w.heap.size w w') (h:Al.q04 a=false):q2u a w (.returned (.tuple #[.map none,.bool false])) w':=⟨hb,.inl ⟨h,rfl⟩⟩
theorem qdp:Keyed Tryz.prog 9:=string_keyed Tryz.underlying9
theorem qdg (w:World):(zeroValue 3).run Tryz.prog w=.ok (.int .i64 0) w:=by kernel_rfl
theorem keyStr (l:List UInt8) (h:l.length≤maxLen):keyOf Tryz.prog 9 (.string (bs l))=some (.string l):=WideMaps.keyOf_string_mk Tryz.underlying9 h
set_option maxRecDepth 100000 in
set_option maxHeartbeats 4000000 in
theorem qkv (a:Al.Alph) (A A':Option Addr) (c c':Nat) (w:World) (hF:Few a) (hA:q8g w A a.letters) (hS:qb0 w A' a.small) :
  Calls Tryz.prog 44 #[alv a A c A' c'] w (q2u a w):=by
 obtain ⟨hF1,hF2,hF3,hF4⟩:=hF;have HF2:=Q0 hF2;clear hF2;have hmm:=@run_makeMap Tryz.prog;obtain ⟨hF1',hF3'⟩:(a.letters.length:Int)≤70∧(a.small.length:Int)≤70:=by omega
 have hnm:(bs a.name).size≤5000:=by rw [q3j];omega
 go_enter Tryz.func44,Tryz.ntmps44
 go_wp2_with fail
 refine (named_any (bs a.name) _ hnm).mono ?_;rintro e w1 ⟨rfl,hb1⟩;rw [q2h];have hblk:=(Blk.new w 28 #[.string (bs a.name),.slice A a.letters.length c,.slice A' a.small.length c']).bel hb1;have c0:w1.cell? ⟨w.heap.size,0,none⟩=some (.string (bs a.name)):=hblk.cell 0;have c1:w1.cell? ⟨w.heap.size,1,none⟩=some (.slice A a.letters.length c):=hblk.cell 1;have c2:w1.cell? ⟨w.heap.size,2,none⟩=some (.slice A' a.small.length c'):=hblk.cell 2;have hbw:Below w.heap.size w w1:=q1y (q02 (q03 w) _) hb1;have hsz1:w.heap.size<w1.heap.size:=hblk.lt;have HBW:=Q0 hbw;have HBLK:=Q0 hblk;have HA:=Q0 hA;have HS:=Q0 hS;clear hbw hblk hb1 hA hS;cases hn:Lx.q0j a.name
 ·have hf:=Al.q57 (a:=a) (.inl hn)
  have HF:=Q0 hf;clear hf hn
  go_wp2
  go_ret2
  exact q2u.no HBW.out HF.out
 ·have HN:=Q0 hn
  clear hn;by_cases h1:a.letters.length<1
  ·have hf:=Al.q57 (a:=a) (.inr (.inl h1))
   have HF:=Q0 hf;have h1':(a.letters.length:Int)<1:=by omega
   clear hf
   go_wp2
   go_ret2
   exact q2u.no HBW.out HF.out
  ·have h1':¬ (a.letters.length:Int)<1:=by omega
   by_cases h64:64<a.letters.length
   ·have hf:=Al.q57 (a:=a) (.inr (.inr (.inl h64)))
    have HF:=Q0 hf;have h64':64<(a.letters.length:Int):=by omega
    clear hf
    go_wp2
    go_ret2
    exact q2u.no HBW.out HF.out
   ·have h64':¬ 64<(a.letters.length:Int):=by omega
    by_cases hsl:a.small.length=a.letters.length
    ·have hsl':((a.small.length:Int) != (a.letters.length:Int))=false:=by rw [hsl];simp
     have HSL:=Q0 hsl;clear hsl
     go_wp2
     go_loopw [38] (λv wr=>∃ k:Nat,v=.int .i64 k∧k≤a.letters.length∧wr.ownsMap Tryz.prog 9 (plainElem Tryz.prog 3) w1.heap.size k (Al.idxD a.letters k)∧Below w1.heap.size w1 wr∧(a.letters.take k).all Al.q1f=true∧Al.q1p (a.letters.take k)=true) (λv _=>a.letters.length-(intOf v).toNat)
     case atStart=>exact ⟨0,rfl,We _,World.ownsMap_made _ _ _ _,q02 (q03 w1) _,rfl,rfl⟩
     case round =>
      obtain ⟨k,rfl,hk,hown,hbr,hpr,hnt⟩:=hrel;have d2:wr.cell? ⟨w.heap.size,2,none⟩=some (.slice A' a.small.length c'):=((HBLK.out.bel hbr).cell 2);have hszr:=hbr.size;have HPR:=Q0 hpr;have HNT:=Q0 hnt;have HOWN:=Q0 hown;have HBR:=Q0 hbr;clear hpr hnt hown hbr c0 c1 c2;by_cases hlt:k<a.letters.length
      ·obtain ⟨g,off,rfl,hg,hcx⟩:=HA.out.at_ k hlt
       have hcx:wr.cell? ⟨g,off+k,none⟩=some (.string (bs a.letters[k])):=(HBR.out.cell (p:=⟨g,off+k,none⟩) (QP hg HBW.out.size)).trans ((HBW.out.cell (p:=⟨g,off+k,none⟩) hg).trans hcx);have hl20:a.letters[k].length≤20:=HF2.out _ (Q9 hlt);have hkey:=keyStr a.letters[k] (by unfold maxLen;omega)
       have HKEY:=Q0 hkey;have hdup:=@Al.qi7 a.letters k hlt;have hsn:=Al.qg8 (a.letters.take k) a.letters[k];have htk:=Al.q73 a.letters k hlt;have hlk:=Al.q3r a.letters k hlt;have hmem:=Q9 hlt;have hhas:=Al.has_idxD a.letters a.letters[k] k hk;have HDUP:=Q0 hdup;have HSN:=Q0 hsn;have HTK:=Q0 htk;have HLK:=Q0 hlk;have HMEM:=Q0 hmem;clear hkey hdup hsn htk hlk hmem;generalize a.letters[k]=x at *
       cases hct:(a.letters.take k).contains x
       ·rw [hct] at hhas
        have HCT:=Q0 hct;have HHAS:=Q0 hhas;clear hct hhas
        go_wp2_with (at_lookup;refine wpList_lookup_own_ok_int _ rfl _ _ 94 rfl 9 3 .i64 qdp Tryz.underlying94 Tryz.underlying3 (qdg _) w1.heap.size k _ rfl HOWN.out _ _ rfl HKEY.out ?_;intro cc hat hwc;rw [HHAS.out];clear hat hwc)
        refine (printed_any (bs x) _ (by rw [q3j];omega)).mono ?_
        rintro e w' ⟨rfl,rfl⟩;rw [q2h];cases hpx:Al.q1f x
        ·have hf:=Al.q57 (a:=a) (.inr (.inr (.inr (.inr (.inl ⟨x,HMEM.out,hpx⟩)))))
         have HF:=Q0 hf;clear hf hpx
         go_wp2
         go_ret2
         exact q2u.no (q1y HBW.out HBR.out) HF.out
        ·have HPX:=Q0 hpx
         clear hpx
         go_wp2_with (at_mapUpdate;refine wpList_mapUpdate_own _ rfl _ _ _ 94 rfl 9 3 qdp Tryz.underlying94 _ w1.heap.size k _ rfl HOWN.out (by unfold maxLen;omega) _ _ _ rfl rfl HKEY.out _ [] (plainElem_int Tryz.underlying3 (by exact wf_nat k (by omega))) ?_;intro w4 hown4 hgrow4;have HOWN4:=Q0 hown4;have HG4:=Q0 hgrow4;clear hown4 hgrow4)
         go_roundw
         case rel =>
          refine ⟨k+1,by go_num,hlt,?_,?_,?_,?_⟩
          ·have:=HOWN4.out
           rw [Al.idxD,HLK.out];exact this
          ·exact bel_grown HBR.out HG4.out (λj hj=>by cases hj;exact Qb _)
          ·rw [HTK.out,Qu,HPR.out]
           simp [HPX.out]
          ·rw [HTK.out,HSN.out,HNT.out,HCT.out]
           rfl
         case measure=>simp [intOf];omega
       ·rw [hct] at hhas
        have hf:=Al.q57 (a:=a) (.inr (.inr (.inr (.inr (.inr (.inl (HDUP.out hct)))))));have HF:=Q0 hf;have HHAS:=Q0 hhas;clear hf hct hhas
        go_wp2_with (at_lookup;refine wpList_lookup_own_ok_int _ rfl _ _ 94 rfl 9 3 .i64 qdp Tryz.underlying94 Tryz.underlying3 (qdg _) w1.heap.size k _ rfl HOWN.out _ _ rfl HKEY.out ?_;intro cc hat hwc;rw [HHAS.out];clear hat hwc)
        go_ret2
        exact q2u.no (q1y HBW.out HBR.out) HF.out
      ·obtain rfl:k=a.letters.length:=by omega
       go_wp2
       go_loop [62] (λv=>∃ j:Nat,v=.int .i64 j∧j≤a.small.length∧(a.small.take j).all (Al.q4c a.letters.length a.small)=true) (λv=>a.small.length-(intOf v).toNat)
       case atStart=>exact ⟨0,rfl,We _,rfl⟩
       case round =>
        obtain ⟨j,rfl,hj,hsm⟩:=hrel;have HSM:=Q0 hsm;clear hsm;by_cases hlt2:j<a.small.length
        ·have hnos:∀ k∈a.small,Al.q4c a.letters.length a.small k=false→Al.q04 a=false:=λk h1 h2=>Al.q57 (a:=a) (.inr (.inr (.inr (.inr (.inr (.inr ⟨k,h1,h2⟩))))))
         have HNOS:=Q0 hnos;obtain ⟨g,off,rfl,hg,hall⟩:=HS.out (by omega)
         have hW:∀ (j:Nat) k,a.small[j]? = some k→wr.cell? ⟨g,off+j,none⟩=some (.int .i64 k):=λj k h=>(HBR.out.cell (p:=⟨g,off+j,none⟩) (QP hg HBW.out.size)).trans ((HBW.out.cell (p:=⟨g,off+j,none⟩) hg).trans (hall j k h))
         have HW:=Q0 hW;obtain ⟨x,hx⟩:∃ x,a.small[j]? = some x:=⟨_,Q8 hlt2⟩;have hcx:=hW j x hx;have hxm:x∈a.small:=List.mem_of_getElem? hx;have htk:a.small.take (j+1)=a.small.take j++[x]:=by rw [List.take_add_one,hx];rfl
         have HXM:=Q0 hxm;have HTK:=Q0 htk;clear hnos hall hW hx hxm htk;by_cases x0:x<0
         ·have hf:=HNOS.out x HXM.out (by unfold Al.q4c;rw [decide_eq_false (by omega)];rfl)
          have HF:=Q0 hf;clear hf
          go_wp2
          go_ret2
          exact q2u.no (q1y HBW.out HBR.out) HF.out
         ·by_cases xn:(a.letters.length:Int)≤x
          ·have hf:=HNOS.out x HXM.out (by unfold Al.q4c;rw [decide_eq_false (p:=x<_) (by omega)];simp)
           have HF:=Q0 hf;clear hf
           go_wp2
           go_ret2
           exact q2u.no (q1y HBW.out HBR.out) HF.out
          ·obtain ⟨X,rfl⟩:∃ X:Nat,x=X:=⟨x.toNat,by omega⟩
           have hXl:X<a.small.length:=by rw [HSL.out];omega
           obtain ⟨y,hy⟩:∃ y,a.small[X]? = some y:=⟨_,Q8 hXl⟩;have hcy:=HW.out X y hy;have hya:Al.q4c a.letters.length a.small X=(y==(X:Int)):=by
            unfold Al.q4c;rw [decide_eq_true (by omega),decide_eq_true (by omega),Qm,QY,hy]
            rfl
           have HYA:=Q0 hya;clear hy hya;by_cases hyx:y=(X:Int)
           ·subst hyx
            have hb2:((X:Int) != (X:Int))=false:=by simp
            go_wp2
            go_round
            case rel =>
             refine ⟨j+1,by go_num,hlt2,?_⟩
             rw [HTK.out,Qu,HSM.out];simp [HYA.out]
            case measure=>simp [intOf];omega
           ·have hf:=HNOS.out X HXM.out (by rw [HYA.out,beq_eq_false_iff_ne];exact hyx)
            have HF:=Q0 hf;have hb2:(y != (X:Int))=true:=by rw [bne_iff_ne];exact hyx
            clear hf hyx;by_cases y0:y<0
            ·go_wp2
             go_ret2
             exact q2u.no (q1y HBW.out HBR.out) HF.out
            ·by_cases yn:(a.letters.length:Int)≤y
             ·go_wp2
              go_ret2
              exact q2u.no (q1y HBW.out HBR.out) HF.out
             ·go_wp2
              go_ret2
              exact q2u.no (q1y HBW.out HBR.out) HF.out
        ·have hall:a.small.all (Al.q4c a.letters.length a.small)=true:=by
          have:=HSM.out
          rwa [Qg (by omega)] at this
         have h5:a.letters.all Al.q1f=true:=by
          have:=HPR.out
          rwa [Qg (by omega)] at this
         have h6:Al.q1p a.letters=true:=by
          have:=HNT.out
          rwa [Qg (by omega)] at this
         have hf:=Al.is_formed HN.out (by omega) (by omega) HSL.out h5 h6 hall
         have HF:=Q0 hf;clear hall h5 h6 hf
         go_wp2
         go_ret2
         exact ⟨q1y HBW.out HBR.out,.inr ⟨HF.out,_,rfl,by omega,HOWN.out⟩⟩
    ·have hf:=Al.q57 (a:=a) (.inr (.inr (.inr (.inl hsl))))
     have HF:=Q0 hf;have hsl':((a.small.length:Int) != (a.letters.length:Int))=true:=by rw [bne_iff_ne];omega
     clear hf hsl
     go_wp2
     go_ret2
     exact q2u.no HBW.out HF.out
end Go.Proofs.YtlmbfijhkcmncaaGreatDoor
namespace Go.Proofs.YtlmbfijhkcmncaaGreatDoor
open Go.RowKit Go.Maps
attribute [local go_sem] q12 q0q q0s
structure Fol (w:World) (L:List (List UInt8)) (ba bf:Nat) (A:Option Addr) (c:Nat):Prop where
 a1:w.cell? ⟨ba,1,none⟩=some (.slice A L.length c)
 f0:w.cell? ⟨bf,0,none⟩=some (.func (.func 70) #[] #[.pointer (some ⟨ba,0,none⟩),.pointer (some ⟨bf,0,none⟩)])
 st:q8g w A L
def fol1 (L:List (List UInt8)) (f:Nat) (s l:List UInt8):Bool:=s.isPrefixOf l||(l.isPrefixOf s&&Al.follows L f (s.drop l.length))
theorem follows_succ (L:List (List UInt8)) (f:Nat) (s:List UInt8):Al.follows L (f+1) s=L.any (fol1 L f s):=rfl
set_option maxRecDepth 100000 in
set_option maxHeartbeats 2000000 in
theorem follows_any (L:List (List UInt8)) (hL:∀ l∈L,1≤l.length∧l.length≤20) (hn:L.length≤70) (ba bf:Nat) (A:Option Addr) (c:Nat):∀ (f:Nat) (s:List UInt8) (w:World),s.length<f→s.length≤1000→Fol w L ba bf A c →
  Calls Tryz.prog 70 #[.string (bs s),.pointer (some ⟨ba,0,none⟩),.pointer (some ⟨bf,0,none⟩)] w λe w'=>e=.returned (.bool (Al.follows L f s))∧w'=w:=by
 intro f
 induction f with
 | zero=>intro s w h;omega
 | succ f ih =>
  intro s w hs hs2 hF;have HL:=Q0 hL;have IH:=Q0 ih;have h1:=hF.a1;have h2:=hF.f0;have HST:=Q0 hF.st;have HF:=Q0 hF;have HFS:=Q0 (follows_succ L f s);clear hL ih hF
  go_enter Tryz.func70,Tryz.ntmps70
  go_wp2
  go_loop [12] (λv=>∃ k:Nat,v=.int .i64 k∧k≤L.length∧Al.follows L (f+1) s=(L.drop k).any (fol1 L f s)) (λv=>L.length-(intOf v).toNat)
  case atStart=>exact ⟨0,rfl,by omega,HFS.out⟩
  case round =>
   obtain ⟨k,rfl,hk,hr⟩:=hrel;have HR:=Q0 hr;clear hr;by_cases hlt:k<L.length
   ·obtain ⟨g,off,rfl,hg,hcx⟩:=HST.out.at_ k hlt
    have hlx:=HL.out _ (Q9 hlt);have hdr:=List.drop_eq_getElem_cons hlt;have HDR:=Q0 hdr;clear hdr;generalize L[k]=x at *
    go_wp2_with fail
    refine (Tryz.strings_HasPrefix (bs x) (bs s) _).mono ?_;rintro e w' ⟨rfl,rfl⟩;rw [q2h,q2h];unfold QL;cases hp:s.isPrefixOf x
    ·have HP:=Q0 hp
     have hs1:1≤s.length:=by
      cases s with
      | nil=>simp at hp
      | cons y r=>simp
     clear hp
     go_wp2_with fail
     refine (Tryz.strings_CutPrefix (bs s) (bs x) _).mono ?_;rintro e w' ⟨rfl,rfl⟩;rw [q2h,q2h];unfold QL;cases hq:x.isPrefixOf s
     ·have hf:Al.follows L (f+1) s=(L.drop (k+1)).any (fol1 L f s):=by
       rw [HR.out,HDR.out,QN];have:fol1 L f s x=false:=by unfold fol1;rw [HP.out,hq];rfl
       rw [this];rfl
      have HFF:=Q0 hf;clear hf hq
      go_wp2
      go_round
      case rel=>exact ⟨k+1,by go_num,hlt,HFF.out⟩
      case measure=>simp [intOf];omega
     ·have htr:(⟨(Lib.trimPrefix s x).toArray⟩:ByteArray)=bs (s.drop x.length):=by
       unfold Lib.trimPrefix;rw [if_pos (by unfold QL;exact hq)]
       rfl
      rw [htr];have HQ:=Q0 hq;clear hq htr
      go_wp2_with fail
      refine (IH.out (s.drop x.length) _ (by rw [Qd];omega) (by rw [Qd];omega) HF.out).mono ?_
      rintro e w' ⟨rfl,rfl⟩;have hx:fol1 L f s x=Al.follows L f (s.drop x.length):=by unfold fol1;rw [HP.out,HQ.out];rfl
      have hf:Al.follows L (f+1) s=(Al.follows L f (s.drop x.length)||(L.drop (k+1)).any (fol1 L f s)):=by
       rw [HR.out,HDR.out,QN,hx]
      have HFF:=Q0 hf;clear hx hf;cases hfo:Al.follows L f (s.drop x.length)
      ·have hff:=HFF.out
       rw [hfo,Bool.false_or] at hff;have HFF2:=Q0 hff;clear hff hfo
       go_wp2
       go_round
       case rel=>exact ⟨k+1,by go_num,hlt,HFF2.out⟩
       case measure=>simp [intOf];omega
      ·have hff:=HFF.out
       rw [hfo,Bool.true_or] at hff;have HFF2:=Q0 hff;clear hff hfo
       go_wp2
       go_ret
       exact ⟨q1j HFF2.out.symm,rfl⟩
    ·have hf:Al.follows L (f+1) s=true:=by
      rw [HR.out,HDR.out,QN];have:fol1 L f s x=true:=by unfold fol1;rw [hp];rfl
      rw [this];rfl
     have HFF:=Q0 hf;clear hf hp
     go_wp2
     go_ret
     exact ⟨q1j HFF.out.symm,rfl⟩
   ·have hf:Al.follows L (f+1) s=false:=by
     rw [HR.out,QE (by omega)]
     rfl
    have HFF:=Q0 hf;clear hf
    go_wp2
    go_ret
    exact ⟨q1j HFF.out.symm,rfl⟩
def goodL (L:List (List UInt8)) (l:List UInt8):Bool:=!Al.clash L l 1&&!Al.clash L l 2
theorem Fol.drewN {w:World} {L:List (List UInt8)} {ba bf:Nat} {A:Option Addr} {c:Nat} (h:Fol w L ba bf A c) (n:Nat):Fol (w.drewN n) L ba bf A c:=⟨h.a1,h.f0,h.st⟩
set_option maxRecDepth 100000 in
set_option maxHeartbeats 1000000 in
theorem valid_any (a:Al.Alph) (A A':Option Addr) (c c':Nat) (w:World) (hF:Few a) (hA:q8g w A a.letters) (hS:qb0 w A' a.small) :
  Calls Tryz.prog 42 #[alv a A c A' c'] w λe w'=>e=.returned (.bool (Al.q09 a))∧Below w.heap.size w w':=by
 have HFEW:=Q0 hF;clear hF
 go_enter Tryz.func42,Tryz.ntmps42
 go_wp2
 go_step3
 go_wp2_with fail
 refine (qkv a A A' c c' _ HFEW.out (hA.bel (q02 (q03 w) _)) (hS.bel (q02 (q03 w) _))).mono ?_;rintro e w1 ⟨hb1,(⟨hf,rfl⟩ | ⟨hf,b,rfl,hb,hown⟩)⟩
 ·have hv:Al.q09 a=false:=by unfold Al.q09;rw [hf];rfl
  have HV:=Q0 hv;have HB:=Q0 (q1y (q02 (q03 w) _) hb1);clear hv hf hb1 hA hS
  go_wp2
  repeat (first | rw [QC] | simp only [QQ,Exit.then])
  go_ret
  exact ⟨q1j HV.out.symm,HB.out⟩
 ·have hblk:=(Blk.new w 28 #[.string (bs a.name),.slice A a.letters.length c,.slice A' a.small.length c']).bel hb1
  have hbw:Below w.heap.size w w1:=q1y (q02 (q03 w) _) hb1;have hsz1:w.heap.size<w1.heap.size:=hblk.lt;have c1:w1.cell? ⟨w.heap.size,1,none⟩=some (.slice A a.letters.length c):=hblk.cell 1;have HBW:=Q0 hbw;have HBLK:=Q0 hblk;have HA:=Q0 hA;have HFO:=Q0 hf;have HOWN:=Q0 hown;clear hbw hblk hb1 hA hS hf hown
  go_wp2
  have hF0:Fol (w1.alloc (.cells #[.func (.func 70) #[] #[.pointer (some ⟨w.heap.size,0,none⟩),.pointer (some ⟨w1.heap.size,0,none⟩)]] 93)) a.letters w.heap.size w1.heap.size A c :=
   ⟨((HBLK.out.alloc _).cell 1),(Blk.new w1 _ _).cell 0,HA.out.bel (q02 HBW.out _)⟩
  have hown0:=HOWN.out.alloc (.cells #[.func (.func 70) #[] #[.pointer (some ⟨w.heap.size,0,none⟩),.pointer (some ⟨w1.heap.size,0,none⟩)]] 93);have hbw0:=q02 HBW.out (.cells #[.func (.func 70) #[] #[.pointer (some ⟨w.heap.size,0,none⟩),.pointer (some ⟨w1.heap.size,0,none⟩)]] 93);have hfc:=hF0.f0;have hac:=hF0.a1;generalize w1.alloc (.cells #[.func (.func 70) #[] #[.pointer (some ⟨w.heap.size,0,none⟩),.pointer (some ⟨w1.heap.size,0,none⟩)]] 93)=W0 at *
  have HF0:=Q0 hF0;have HOWN0:=Q0 hown0;have HBW0:=Q0 hbw0;clear hF0 hown0 hbw0 HBW HOWN HBLK HA c1;obtain ⟨q1,q2,q3,q4⟩:=HFEW.out;have HQ2:=Q0 q2;have HL3:=Q0 (Al.q5r HFO.out);clear q2 q3 q4
  go_step3
  go_wp2
  go_loopg [22] a.letters.length (λg v wr=>∃ k m:Nat,k+g=a.letters.length∧v=.int .i64 k∧wr=W0.drewN m∧(a.letters.take k).all (goodL a.letters)=true)
  case atStart=>exact ⟨0,0,by omega,rfl,rfl,rfl⟩
  case round =>
   obtain ⟨k,m,hkg,rfl,rfl,hgd⟩:=hrel;have HGD:=Q0 hgd;clear hgd;cases gk with
   | zero =>
    have hv:Al.q09 a=true:=by
     have:=HGD.out
     rw [Qg (by omega)] at this
     unfold Al.q09;rw [HFO.out,QK];exact this
    have HV:=Q0 hv;have hk2:¬ ((k:Int)<(a.letters.length:Int)):=by omega
    clear hv
    go_wp2
    repeat (first | rw [QC] | simp only [QQ,Exit.then])
    go_ret
    exact ⟨q1j HV.out.symm,q13 HBW0.out _⟩
   | succ g =>
    have hlt:k<a.letters.length:=by omega
    have hk2:((k:Int)<(a.letters.length:Int)):=by omega
    obtain ⟨gb,off,rfl,hg,hcx⟩:=HF0.out.st.at_ k hlt;have hlx:=HL3.out _ (Q9 hlt);have htk:=Al.q73 a.letters k hlt;have hmem:=Q9 hlt;have HTK:=Q0 htk;have HMEM:=Q0 hmem;clear htk hmem;generalize a.letters[k]=x at *
    have hxs:(bs x).size≤3:=by rw [q3j];exact hlx.2
    go_wp2
    go_loopg [8] 3 (λg2 v wr=>∃ j m2:Nat,j+g2=4∧1≤j∧v=.int .i64 j∧wr=W0.drewN m2∧(2≤j→Al.clash a.letters x 1=false)∧(3≤j→Al.clash a.letters x 2=false))
    case atStart=>exact ⟨1,m,by omega,by omega,rfl,rfl,λh=>by omega,λh=>by omega⟩
    case round =>
     obtain ⟨j,m2,hjg,hj1,rfl,rfl,hc1,hc2⟩:=hrel;have HC1:=Q0 hc1;have HC2:=Q0 hc2;clear hc1 hc2;by_cases hjx:j<x.length
     ·have hj2:j≤2:=by omega
      have hjx':((j:Int)<((bs x).size:Int)):=by rw [q3j];omega
      have e1:(bs x).extract 0 j=bs (x.take j):=by rw [q1i,q2h,List.drop_zero,Nat.sub_zero]
      have e2:(bs x).extract j x.length=bs (x.drop j):=by rw [q1i,q2h,Qg (by rw [Qd];omega)]
      have hkey:=keyStr (x.take j) (by unfold maxLen;rw [Ql];omega)
      have HKEY:=Q0 hkey;have hhas:=Al.has_all a.letters (x.take j);have hcd:Al.clash a.letters x j=(a.letters.contains (x.take j)&&Al.follows a.letters 4 (x.drop j)):=by
       unfold Al.clash;rw [decide_eq_true hjx,QK]
      have HCD:=Q0 hcd;clear hkey hcd;cases hct:a.letters.contains (x.take j)
      ·rw [hct] at hhas
       have HHAS:=Q0 hhas;have hcf:Al.clash a.letters x j=false:=by rw [HCD.out,hct];rfl
       have HCF:=Q0 hcf;clear hct hhas hcf
       go_wp2_with (at_lookup;refine wpList_lookup_own_ok_int _ rfl _ _ 94 rfl 9 3 .i64 qdp Tryz.underlying94 Tryz.underlying3 (qdg _) b a.letters.length _ rfl HOWN0.out _ _ rfl HKEY.out ?_;intro cc hat hwc;rw [HHAS.out];clear hat hwc)
       go_roundg (gk-1)
       case measure=>omega
       case rel =>
        refine ⟨j+1,m2,by omega,by omega,by go_num,rfl,λh=>?_,λh=>?_⟩
        ·by_cases h1:j=1
         ·have:=HCF.out
          rw [h1] at this;exact this
         ·exact HC1.out (by omega)
        ·obtain rfl:j=2:=by omega
         exact HCF.out
      ·rw [hct] at hhas
       have HHAS:=Q0 hhas;have hcf:Al.clash a.letters x j=Al.follows a.letters 4 (x.drop j):=by rw [HCD.out,hct];rfl
       have HCF:=Q0 hcf;clear hct hhas hcf;have hcall:∀ n:Nat,Calls Tryz.prog 70 #[.string (bs (x.drop j)),.pointer (some ⟨w.heap.size,0,none⟩),.pointer (some ⟨w1.heap.size,0,none⟩)] (W0.drewN n) λe w'=>e=.returned (.bool (Al.follows a.letters 4 (x.drop j)))∧w'=W0.drewN n:=λn=>follows_any a.letters (λl hl=>⟨(HL3.out l hl).1,HQ2.out l hl⟩) (by omega) _ _ _ _ 4 (x.drop j) _ (by rw [Qd];omega) (by rw [Qd];omega) (HF0.out.drewN n)
       have HCALL:=Q0 hcall;clear hcall
       go_wp2_with (at_lookup;refine wpList_lookup_own_ok_int _ rfl _ _ 94 rfl 9 3 .i64 qdp Tryz.underlying94 Tryz.underlying3 (qdg _) b a.letters.length _ rfl HOWN0.out _ _ rfl HKEY.out ?_;intro cc hat hwc;rw [HHAS.out];clear hat hwc)
       go_quiet ((go_at_call 70;exact qd9 (HCALL.out _)))
       cases hfo:Al.follows a.letters 4 (x.drop j)
       ·have hcf:=HCF.out
        rw [hfo] at hcf;have HCF2:=Q0 hcf;clear hcf hfo;by_cases h2:j=2
        ·have h2':((j:Int)==2)=true:=by rw [h2];rfl
         have g1:goodL a.letters x=true:=by
          unfold goodL;have:=HCF2.out;rw [h2] at this;rw [this,HC1.out (by omega)]
          rfl
         have HG1:=Q0 g1;clear g1 h2
         go_wp2
         go_roundg g
         case measure=>omega
         case rel =>
          refine ⟨k+1,_,by omega,by go_num,rfl,?_⟩
          rw [HTK.out,Qu,HGD.out];simp [HG1.out]
        ·have h2':((j:Int)==2)=false:=by rw [beq_eq_false_iff_ne];omega
         go_wp2
         go_roundg (gk-1)
         case measure=>omega
         case rel =>
          obtain rfl:j=1:=by omega
          exact ⟨1+1,_,by omega,by omega,by go_num,rfl,λh=>HCF2.out,λh=>by omega⟩
       ·have hv:Al.q09 a=false:=by
         have hcf:=HCF.out;rw [hfo] at hcf;have hj:j=1∨j=2:=by omega
         rw [← Qf];intro hv;have:=Al.valid_clash hv HMEM.out;rcases hj with rfl | rfl
         ·rw [this.1] at hcf;cases hcf
         ·rw [this.2] at hcf;cases hcf
        have HV:=Q0 hv;clear hv hfo
        go_wp2
        repeat (first | rw [QC] | simp only [QQ,Exit.then])
        go_ret
        exact ⟨q1j HV.out.symm,q13 (q13 HBW0.out _) _⟩
     ·have g1:goodL a.letters x=true:=by
       have a1:Al.clash a.letters x 1=false:=by
        by_cases h2:2≤j
        ·exact HC1.out h2
        ·unfold Al.clash
         rw [decide_eq_false (by omega)]
         rfl
       have a2:Al.clash a.letters x 2=false:=by
        by_cases h2:3≤j
        ·exact HC2.out h2
        ·unfold Al.clash
         rw [decide_eq_false (by omega)]
         rfl
       unfold goodL;rw [a1,a2];rfl
      have HG1:=Q0 g1;have hjx':¬ ((j:Int)<((bs x).size:Int)):=by rw [q3j];omega
      clear g1
      go_wp2
      go_roundg g
      case measure=>omega
      case rel =>
       refine ⟨k+1,m2,by omega,by go_num,rfl,?_⟩
       rw [HTK.out,Qu,HGD.out];simp [HG1.out]
end Go.Proofs.YtlmbfijhkcmncaaGreatDoor
namespace Go.Proofs.YtlmbfijhkcmncaaGreatDoor
open Go.RowKit Go.Maps Go.Shelf
attribute [local go_sem] q12 q0q q0s Wm
theorem letters_any (b:Nat) (s:ByteArray) (w:World) :
  Calls Tryz.prog 45 #[.map (some b),.string s] w λe w'=>e=.returned (.func (.func 75) #[] #[.pointer (some ⟨w.heap.size+1,0,none⟩),.pointer (some ⟨w.heap.size,0,none⟩)]) ∧
   w'=(w.alloc (.cells #[.map (some b)] 94)).alloc (.cells #[.string s] 9):=by
 go_enter Tryz.func45,Tryz.ntmps45
 go_wp2
 go_ret
 exact ⟨rfl,rfl⟩
structure Lay (W:World) (bt bi bm:Nat) (L:List (List UInt8)) (s:List UInt8):Prop where
 text:W.cell? ⟨bt,0,none⟩=some (.string (bs s))
 inb:W.cell? ⟨bi,0,none⟩=some (.map (some bm))
 own:W.ownsMap Tryz.prog 9 (plainElem Tryz.prog 3) bm L.length (Al.idxD L L.length)
def Keep (bt bi bm:Nat) (W W':World):Prop:=W'.heap[bt]? = W.heap[bt]? ∧ W'.heap[bi]? = W.heap[bi]? ∧ W'.heap[bm]? = W.heap[bm]?
theorem Keep.trans {bt bi bm:Nat} {A B C:World} (h:Keep bt bi bm A B) (k:Keep bt bi bm B C):Keep bt bi bm A C:=⟨k.1.trans h.1,k.2.1.trans h.2.1,k.2.2.trans h.2.2⟩
theorem Lay.keep {W W':World} {bt bi bm:Nat} {L:List (List UInt8)} {s:List UInt8} (h:Lay W bt bi bm L s) (k:Keep bt bi bm W W'):Lay W' bt bi bm L s:=by
 refine ⟨(QF k.1).trans h.text,(QF k.2.1).trans h.inb,?_⟩;obtain ⟨es,cl,h1,h2⟩:=h.own;exact ⟨es,cl,k.2.2.trans h1,h2⟩
theorem Lay.drewN {W:World} {bt bi bm:Nat} {L:List (List UInt8)} {s:List UInt8} (h:Lay W bt bi bm L s) (n:Nat):Lay (W.drewN n) bt bi bm L s:=⟨h.text,h.inb,h.own⟩
def idx0 (L:List (List UInt8)) (x:List UInt8):Int:=if L.contains x then (Al.idx L x:Int) else 0
theorem look_at {w:World} {b:Nat} {L:List (List UInt8)} (hd:Al.q1p L=true) (h:w.ownsMap Tryz.prog 9 (plainElem Tryz.prog 3) b L.length (Al.idxD L L.length)) (x:List UInt8) (hx:x.length≤maxLen) :
  (Instr.lookup 94 (.map (some b)) (.string (bs x)) true).run Tryz.prog w=.ok (.tuple #[.int .i64 (idx0 L x),.bool (L.contains x)]) w:=by
 obtain ⟨v,ps,hrun,hv⟩:=h.look_ok qdp Tryz.underlying94 (qdg w) (plainElem_int Tryz.underlying3 (by decide)) (keyStr x hx)
 rw [Al.has_all] at hrun;obtain ⟨c,rfl,hc,_⟩:=plainElem_int_inv Tryz.underlying3 hv;have hc':=congrArg Prod.fst hc;simp only [] at hc';rw [hrun];unfold idx0;cases hct:L.contains x
 ·have hh:has (Al.idxD L L.length) (.string x)=false:=by rw [Al.has_all];exact hct
  rw [atKey_of_not_has hh] at hc';have e:=(Ws (Wq hc')).2;rw [if_neg (by decide),← e]
 ·rw [Al.at_all hd hct] at hc'
  have e:=(Ws (Wq hc')).2;rw [if_pos rfl,← e]
theorem places_none (L:List (List UInt8)) (f at_:Nat) (s:List UInt8) (h:at_<s.length) (hf:Al.first L (s.drop at_)=none):Al.places L (f+1) at_ (s.drop at_)=[(at_,-1)]:=by
 cases hd:s.drop at_ with
 | nil=>have:=congrArg Qc hd;rw [Qd] at this;simp at this;omega
 | cons c r=>rw [hd] at hf;rw [Al.places,hf]
theorem places_some (L:List (List UInt8)) (f at_:Nat) (s:List UInt8) {k m:Nat} (h:at_<s.length) (hf:Al.first L (s.drop at_)=some (k,m)):Al.places L (f+1) at_ (s.drop at_)=(at_,(k:Int))::Al.places L f (at_+m) (s.drop (at_+m)):=by
 have hdd:s.drop (at_+m)=(s.drop at_).drop m:=by rw [List.drop_drop]
 rw [hdd];cases hd:s.drop at_ with
 | nil=>have:=congrArg Qc hd;rw [Qd] at this;simp at this;omega
 | cons c r=>rw [hd] at hf;rw [Al.places,hf]
abbrev encP (p:Nat×Int):Array Value:=#[.int .i64 (p.1:Int),.int .i64 p.2]
set_option maxRecDepth 100000 in
set_option maxHeartbeats 1000000 in
theorem letters_in (n:Nat) (hn:1≤n) (l bt bi bm:Nat) (L:List (List UInt8)) (hd:Al.q1p L=true) (s:List UInt8) (hs:s.length≤1000000) (J Jx:List (Nat×Int)→World→Prop) (PL:List (Nat×Int)) (hPL:PL=Al.places L (s.length+1) 0 s)
  (hY:∀ pre x W,J pre W→pre.length<PL.length→YieldAt QG (n-1) Tryz.prog l (encP x) W λe W'=>(e=.returned (.bool true)∧J (pre++[x]) W'∧Keep bt bi bm W W')∨(e=.returned (.bool false)∧Jx (pre++[x]) W'))
  (hJd:∀ pre W k,J pre W→J pre (W.drewN k)) (W:World) (hW:Lay W bt bi bm L s) (h0:J [] W) :
  CallsIn QG n Tryz.prog 75 #[.func (.yield l) #[] #[],.pointer (some ⟨bt,0,none⟩),.pointer (some ⟨bi,0,none⟩)] W λe W' =>
   (∃ v,e=.returned v)∧((∃ ys,ys=PL∧J ys W')∨(∃ pre,pre <+: PL∧Jx pre W')):=by
 refine callsIn_of_wp Tryz.func75 rfl trivial ?_ rfl;simp only [Tryz.ntmps75,QZ,Qa,Qi,Nat.reduceAdd,Nat.reduceSub,QH,QJ,W9,QO,Qo,Qt];have HJD:=Q0 hJd;have HY:=Q0 hY;have HPL:=Q0 hPL;have HW:=Q0 hW;have HJ0:=Q0 h0;have HD:=Q0 hd;clear hJd hY hPL hW h0 hd;refine wpIn_wide.2 ?_
 go_wp2
 go_loopw [4] (λv wr=>∃ (at_ f:Nat) (pre:List (Nat×Int)),v=.int .i64 at_∧at_≤s.length∧s.length<f+at_∧PL=pre++Al.places L f at_ (s.drop at_)∧J pre wr∧Lay wr bt bi bm L s) (λv _=>s.length-(intOf v).toNat)
 case atStart=>exact ⟨0,s.length+1,[],rfl,We _,by omega,HPL.out,HJ0.out,HW.out⟩
 case round =>
  obtain ⟨at_,f,pre,rfl,hat,hf,hpl,hJ,hLay⟩:=hrel;have HJ:=Q0 hJ;have HLAY:=Q0 hLay;have HPL2:=Q0 hpl;have t0:=hLay.text;have t1:=hLay.inb;clear hJ hLay hpl;by_cases hlt:at_<s.length
  ·obtain ⟨f,rfl⟩:∃ f',f=f'+1:=⟨f-1,by omega⟩
   have hlt':(at_:Int)<(s.length:Int):=by omega
   obtain ⟨M,hM⟩:∃ M,M=min 3 (s.length-at_):=⟨_,rfl⟩;have hM':min 3 ((s.length:Int)-(at_:Int))=(M:Int):=by omega
   have hMl:M+at_≤s.length:=by omega
   have hM1:1≤M:=by omega
   have hfi:Al.first L (s.drop at_)=Al.longest L (s.drop at_) M:=by unfold Al.first;rw [Qd,hM]
   have HFI:=Q0 hfi;have HMD:=Q0 hM;clear hfi hM;obtain ⟨wo,rfl⟩:∃ wo,wo=wr:=⟨_,rfl⟩
   go_wp2
   go_quiet (fail)
   go_wp2
   go_loopw [5,6] (λv5 v6 wy=>∃ j m:Nat,v5=.int .i64 (-1)∧v6=.int .i64 j∧j≤M∧wy=wo.drewN m∧Al.longest L (s.drop at_) M=Al.longest L (s.drop at_) j) (λ_ v6 _=>(intOf v6).toNat)
   case atStart=>exact ⟨M,_,rfl,rfl,Qb _,rfl,rfl⟩
   case round =>
    obtain ⟨j,m,rfl,rfl,hj,rfl,hlg⟩:=hrel;have HLG:=Q0 hlg;clear hlg;cases j with
    | zero =>
     have hno:Al.first L (s.drop at_)=none:=by rw [HFI.out,HLG.out];rfl
     have hpl2:PL=pre++[(at_,(-1:Int))]:=by rw [HPL2.out,places_none L f at_ s hlt hno]
     obtain ⟨fn,tmps,assign,body,hy,hR⟩:=HY.out pre (at_,-1) (wo.drewN m) (HJD.out _ _ _ HJ.out) (by rw [hpl2];simp)
     have HPL3:=Q0 hpl2;dsimp only [encP] at hy;clear hno hpl2
     go_upto_region 8 with fail
     refine (wpIn_wide (n:=n)).1 ?_
     gi_wp2
     refine hR.mono ?_;rintro e W3 (⟨rfl,hJ3,hk3⟩ | ⟨rfl,hJx3⟩)
     ·gi_wp2
      go_wp2
      refine bodyPost_ret (results_none rfl _ _ _) rfl ?_;exact ⟨⟨_,rfl⟩,.inl ⟨_,HPL3.out.symm,hJ3⟩⟩
     ·gi_wp2
      go_wp2
      refine bodyPost_ret (results_none rfl _ _ _) rfl ?_;exact ⟨⟨_,rfl⟩,.inr ⟨_,⟨[],by rw [List.append_nil];exact HPL3.out.symm⟩,hJx3⟩⟩
    | succ j =>
     have hj0:(0:Int)<((j+1:Nat):Int):=by omega
     have hje:at_+(j+1)≤s.length:=by omega
     have hex:(bs s).extract at_ (at_+(j+1))=bs ((s.drop at_).take (j+1)):=by rw [q1i,q2h,Nat.add_sub_cancel_left]
     have hlk:∀ q:Nat,(Instr.lookup 94 (.map (some bm)) (.string (bs ((s.drop at_).take (j+1)))) true).run Tryz.prog (wo.drewN q)=.ok (.tuple #[.int .i64 (idx0 L ((s.drop at_).take (j+1))),.bool (L.contains ((s.drop at_).take (j+1)))]) (wo.drewN q):=λq=>look_at HD.out (HLAY.out.drewN q).own _ (by unfold maxLen;rw [Ql];omega)
     have hls:Al.longest L (s.drop at_) (j+1)=if L.contains ((s.drop at_).take (j+1)) then some (Al.idx L ((s.drop at_).take (j+1)),j+1) else Al.longest L (s.drop at_) j:=rfl
     cases hct:L.contains ((s.drop at_).take (j+1))
     ·have hid0:idx0 L ((s.drop at_).take (j+1))=0:=by unfold idx0;rw [hct];rfl
      rw [hct] at hls;simp only [hct,hid0] at hlk;have HLS:=Q0 (HLG.out.trans hls);clear hls hct hid0
      go_wp2
      go_quiet (fail)
      go_wp2
      go_roundw
      case rel=>exact ⟨j,_,rfl,by go_num,by omega,rfl,by rw [HLS.out];rfl⟩
      case measure=>simp [intOf]
     ·have hid0:idx0 L ((s.drop at_).take (j+1))=(Al.idx L ((s.drop at_).take (j+1)):Int):=by unfold idx0;rw [hct];rfl
      rw [hct] at hls;simp only [hct,hid0] at hlk;have hso:Al.first L (s.drop at_)=some (Al.idx L ((s.drop at_).take (j+1)),j+1):=by rw [HFI.out,HLG.out,hls];rfl
      have hpl2:=places_some L f at_ s hlt hso;generalize Al.idx L ((s.drop at_).take (j+1))=ix at *
      have hpl3:PL=(pre++[(at_,(ix:Int))])++Al.places L f (at_+(j+1)) (s.drop (at_+(j+1))):=by rw [HPL2.out,hpl2];simp
      have HPL3:=Q0 hpl3;have HY2:=Q0 (λq=>HY.out pre (at_,(ix:Int)) (wo.drewN q) (HJD.out _ _ _ HJ.out) (by rw [hpl3];simp))
      clear hls hct hid0 hso hpl2 hpl3
      go_wp2
      go_quiet (fail)
      go_upto_region 8 with fail
      refine (wpIn_wide (n:=n)).1 ?_;obtain ⟨fn,tmps,assign,body,hy,hR⟩:=HY2.out (m+nq);dsimp only [encP] at hy
      gi_wp2
      refine hR.mono ?_;rintro e W3 (⟨rfl,hJ3,hk3⟩ | ⟨rfl,hJx3⟩)
      ·have hix:¬ ((ix:Int)<0):=by omega
       gi_wp2
       go_wp2
       go_roundw
       case rel=>exact ⟨at_+(j+1),f,_,by go_num,by omega,by omega,HPL3.out,hJ3,(HLAY.out.drewN _).keep hk3⟩
       case measure=>simp [intOf];omega
      ·gi_wp2
       go_wp2
       refine bodyPost_ret (results_none rfl _ _ _) rfl ?_;exact ⟨⟨_,rfl⟩,.inr ⟨_,⟨_,HPL3.out.symm⟩,hJx3⟩⟩
  ·have hpe:PL=pre:=by
    rw [HPL2.out,QE (by omega)]
    cases f <;> simp [Al.places]
   have HPE:=Q0 hpe;clear hpe
   go_wp2
   go_end0
   exact ⟨⟨_,rfl⟩,.inl ⟨pre,HPE.out.symm,HJ.out⟩⟩
end Go.Proofs.YtlmbfijhkcmncaaGreatDoor
namespace Go.Proofs.YtlmbfijhkcmncaaGreatDoor
open Go.RowKit Go.Maps Go.Shelf
attribute [local go_sem] q12 q0q q0s Wm
namespace Al
theorem collect_all (xs:List (Nat×Int)):∀ (out:List Int),(∀ p∈xs,0≤p.2)→out.length+xs.length≤24→collect out xs=(out++xs.map (·.2),0,0):=by
 induction xs with
 | nil=>intro out _ _;simp [collect]
 | cons x xs ih =>
  intro out h1 h2;obtain ⟨a,k⟩:=x;rw [Qa] at h2;have h0:0≤k:=h1 (a,k) (by simp)
  rw [collect,if_neg (by omega),if_neg (by omega),ih _ (λp hp=>h1 p (by simp [hp])) (by rw [Qj];simp only [Qa,Qi];omega)]
  simp
theorem collect_stop (x:Nat×Int) (r:List (Nat×Int)) (q:List (Nat×Int)):∀ (out:List Int),(∀ p∈q,0≤p.2)→out.length+q.length≤24 →
  (x.2<0→collect out (q++x::r)=([],3,(x.1:Int)))∧(0≤x.2→out.length+q.length=24→collect out (q++x::r)=([],2,(x.1:Int))):=by
 induction q with
 | nil =>
  intro out _ _;obtain ⟨a,k⟩:=x;refine ⟨λh=>?_,λh h2=>?_⟩
  ·rw [Qo,collect,if_pos h]
  ·rw [Qo,collect,if_neg (by have:0≤k:=h;omega),if_pos (by simpa using h2)]
 | cons y q ih =>
  intro out h1 h2;obtain ⟨b,j⟩:=y;rw [Qa] at h2;have h0:0≤j:=h1 (b,j) (by simp)
  have:=ih (out++[j]) (λp hp=>h1 p (by simp [hp])) (by rw [Qj];simp only [Qa,Qi];omega)
  rw [Qj] at this;simp only [Qa,Qi] at this;rw [Qt,collect,if_neg (by omega),if_neg (by omega)]
  refine ⟨λh=>this.1 h,λh h3=>this.2 h ?_⟩
  rw [Qa] at h3;omega
end Al
def q9g (a:Al.Alph) (s:List UInt8) (w:World) (e:Ending) (w':World):Prop :=
 ∃ v,e=.returned (.tuple #[v,.int .i64 (Al.q0o a s).2.1,.int .i64 (Al.q0o a s).2.2])∧w'.ownsRow w.heap.size 3 1 v (Al.q0o a s).1.length ((Al.q0o a s).1.map (Wo .i64))∧Below w.heap.size w w'
theorem q9g.err {a:Al.Alph} {s:List UInt8} {w w':World} {e o:Int} (h:Al.q0o a s=([],e,o)) (hb:Below w.heap.size w w'):q9g a s w (.returned (.tuple #[.slice none 0 0,.int .i64 e,.int .i64 o])) w':=by
 refine ⟨.slice none 0 0,?_,?_,hb⟩
 ·rw [h]
 ·rw [h];exact Wd _ _ _ _
theorem qc0 (tmps:Array Value) (w:World) (b4 b5 b6:Nat) (v4 v5 v6:Value) (h4:tmps.getD 4 undef=.pointer (some ⟨b4,0,none⟩)) (h5:tmps.getD 5 undef=.pointer (some ⟨b5,0,none⟩)) (h6:tmps.getD 6 undef=.pointer (some ⟨b6,0,none⟩))
  (c4:w.cell? ⟨b4,0,none⟩=some v4) (c5:w.cell? ⟨b5,0,none⟩=some v5) (c6:w.cell? ⟨b6,0,none⟩=some v6):(results Tryz.f21 tmps).run Tryz.prog w=.ok (.tuple #[v4,v5,v6]) w:=by
 have h4':tmps[4]?.getD undef=.pointer (some ⟨b4,0,none⟩):=by simpa using h4
 have h5':tmps[5]?.getD undef=.pointer (some ⟨b5,0,none⟩):=by simpa using h5
 have h6':tmps[6]?.getD undef=.pointer (some ⟨b6,0,none⟩):=by simpa using h6
 simp [results,Tryz.results21,h4',h5',h6',asAddr,go_sem,c4,c5,c6]
theorem qkx {a:Al.Alph} {s:List UInt8} {w w1:World} {e o:Int} {b4 b5 b6:Nat} {t4 t5 t6:TypeId} {u4 u5 u6:Value} (tmps:Array Value) (hr:Al.q0o a s=([],e,o)) (hb:Below w.heap.size w w1)
  (H4:Blk w1 b4 t4 #[u4]) (H5:Blk w1 b5 t5 #[u5]) (H6:Blk w1 b6 t6 #[u6]) (l4:w.heap.size≤b4) (l5:b4<b5) (l6:b5<b6)
  (h4:tmps.getD 4 undef=.pointer (some ⟨b4,0,none⟩)) (h5:tmps.getD 5 undef=.pointer (some ⟨b5,0,none⟩)) (h6:tmps.getD 6 undef=.pointer (some ⟨b6,0,none⟩)) :
  ∃ v,(results Tryz.f21 tmps).run Tryz.prog (((w1.setCell ⟨b4,0,none⟩ (.slice none 0 0)).setCell ⟨b5,0,none⟩ (.int .i64 e)).setCell ⟨b6,0,none⟩ (.int .i64 o))=.ok v (((w1.setCell ⟨b4,0,none⟩ (.slice none 0 0)).setCell ⟨b5,0,none⟩ (.int .i64 e)).setCell ⟨b6,0,none⟩ (.int .i64 o)) ∧
   q9g a s w (.returned v) (((w1.setCell ⟨b4,0,none⟩ (.slice none 0 0)).setCell ⟨b5,0,none⟩ (.int .i64 e)).setCell ⟨b6,0,none⟩ (.int .i64 o)):=by
 have z4:=((H4.set_ 0 (.slice none 0 0)).far (p:=⟨b5,0,none⟩) (QR l5) (.int .i64 e)).far (p:=⟨b6,0,none⟩) (QR (QS l5 l6)) (.int .i64 o);have z5:=((H5.far (p:=⟨b4,0,none⟩) (QU l5) (.slice none 0 0)).set_ 0 (.int .i64 e)).far (p:=⟨b6,0,none⟩) (QR l6) (.int .i64 o);have z6:=((H6.far (p:=⟨b4,0,none⟩) (QU (QS l5 l6)) (.slice none 0 0)).far (p:=⟨b5,0,none⟩) (QU l6) (.int .i64 e)).set_ 0 (.int .i64 o);refine ⟨_,qc0 tmps _ b4 b5 b6 _ _ _ h4 h5 h6 (z4.cell 0) (z5.cell 0) (z6.cell 0),q9g.err hr ?_⟩;exact q1a (q1a (q1a hb l4 _) (Qz l4 (QV l5)) _) (Qz l4 (QV (QS l5 l6))) _
theorem grown_drewN (w:World) (n:Nat):w.grownBy (w.drewN n) none:=⟨rfl,rfl,rfl,Qb _,λ_ _ _=>rfl⟩
def ReadI (w:World) (b4 b5 b6 bo bt bi bm:Nat) (s:List UInt8) (pre:List (Nat×Int)) (W:World):Prop :=
 ((∀ p∈pre,(0:Int)≤p.2)∧pre.length≤24)∧((∃ v,Boxed W bo 26 v∧W.ownsRow bo 3 1 v pre.length (pre.map λp=>Wo .i64 p.2)∧True) ∧
  (Boxed W b4 26 (.slice none 0 0)∧(Boxed W b5 31 (.int .i64 0)∧(Boxed W b6 3 (.int .i64 0)∧(Boxed W bt 9 (.string (bs s))∧(Boxed W bi 94 (.map (some bm)) ∧
   ((∃ es cl,W.heap[bm]? = some (.map es cl))∧Below w.heap.size w W)))))))
def ReadX (w:World) (b4 b5 b6:Nat) (c:Code) (pre:List (Nat×Int)) (W:World):Prop :=
 (c=.ret∧∃ (q:List (Nat×Int)) (x:Nat×Int) (er:Int),(pre=q++[x]∧(∀ p∈q,(0:Int)≤p.2)∧q.length≤24∧((x.2<0∧er=3)∨(0≤x.2∧q.length=24∧er=2))) ∧
  (Boxed W b4 26 (.slice none 0 0)∧Boxed W b5 31 (.int .i64 er)∧Boxed W b6 3 (.int .i64 (x.1:Int))))∧Below w.heap.size w W
theorem q2t {W W':World} {B:Nat} {t:TypeId} {v:Value} {row:Option Nat} (h:Boxed W B t v) (hg:W.grownBy W' row) (hr:∀ r,row=some r→∃ o:Obj,W.heap[r]? = some o∧o.isCells=false):Boxed W' B t v :=
 h.kept hg (λe'=>by obtain ⟨o,ho,hc⟩:=hr B e'.symm;rw [show W.heap[B]? = _ from h] at ho;cases ho;cases hc)
theorem readI_own {w:World} {b4 b5 b6 bo bt bi bm:Nat} {s:List UInt8} {B:Nat} (hB:w.heap.size≤B) (hm:bm<B):OwnFrom B (λpre W=>ReadI w b4 b5 b6 bo bt bi bm s pre W):=by
 rintro pre W W' row ⟨h0,⟨v,h1,h2,_⟩,h3,h4,h5,h6,h7,⟨es,cl,h8⟩,h9⟩ hg hr;have hr':∀ r,row=some r→∃ o:Obj,W.heap[r]? = some o∧o.isCells=false:=λr e=>(hr r e).2
 obtain ⟨v',k1,k2,_⟩:=holdsRow_own bo bo 26 3 1 (λpre:List (Nat×Int)=>pre.length) (λpre=>pre.map λp=>Wo .i64 p.2) (λ_ _=>True) pre W W' row ⟨v,h1,h2,trivial⟩ hg hr'
 exact ⟨h0,⟨v',k1,k2,trivial⟩,q2t h3 hg hr',q2t h4 hg hr',q2t h5 hg hr',q2t h6 hg hr',q2t h7 hg hr',
  ⟨es,cl,(hg.block bm (Array.getElem?_eq_some_iff.1 h8).1 (λe=>by have:=(hr bm e.symm).1;omega)).trans h8⟩,h9.grown hg h9.size (λk e=>Qz hB (hr k e).1)⟩
theorem readX_own {w:World} {b4 b5 b6:Nat} (c:Code) {B:Nat} (hB:w.heap.size≤B):OwnFrom B (λpre W=>ReadX w b4 b5 b6 c pre W):=by
 rintro pre W W' row ⟨⟨hc,q,x,er,hp,h4,h5,h6⟩,h9⟩ hg hr;have hr':∀ r,row=some r→∃ o:Obj,W.heap[r]? = some o∧o.isCells=false:=λr e=>(hr r e).2
 exact ⟨⟨hc,q,x,er,hp,q2t h4 hg hr',q2t h5 hg hr',q2t h6 hg hr'⟩,h9.grown hg h9.size (λk e=>Qz hB (hr k e).1)⟩
theorem info_int:(Tryz.prog.info? 3).map (λi=>(i.zero,i.size,i.bytes))=some (some (.int .i64 0),1,8):=by kernel_rfl
set_option maxRecDepth 100000 in
set_option maxHeartbeats 2000000 in
theorem read_any (a:Al.Alph) (A A':Option Addr) (c c':Nat) (s:List UInt8) (w:World) (hF:Few a) (hA:q8g w A a.letters) (hS:qb0 w A' a.small) (hs:s.length≤1000000) :
  Calls Tryz.prog 21 #[alv a A c A' c',.string (bs s)] w (q9g a s w):=by
 refine (callsIn_wide (n:=6)).1 ?_;refine callsIn_of_wp_marks Tryz.func21 rfl trivial ?_ rfl;simp only [Tryz.ntmps21,QZ,Qa,Qi,Nat.reduceAdd,Nat.reduceSub,QH,QJ,W9,QO,Qo,Qt];refine wpIn_wide.2 ?_;have HFEW:=Q0 hF;clear hF
 go_wp2_with fail
 refine (valid_any a A A' c c' _ HFEW.out (hA.bel (q02 (q02 (q02 (q02 (q03 w) _) _) _) _)) (hS.bel (q02 (q02 (q02 (q02 (q03 w) _) _) _) _))).mono ?_;rintro e w1 ⟨rfl,hb1⟩;have hbw:Below w.heap.size w w1:=q1y (q02 (q02 (q02 (q02 (q03 w) _) _) _) _) hb1;have hB0:=((((Blk.new w 28 #[.string (bs a.name),.slice A a.letters.length c,.slice A' a.small.length c']).alloc (.cells #[.slice none 0 0] 26)).alloc (.cells #[.int .i64 0] 31)).alloc (.cells #[.int .i64 0] 3)).bel hb1;have hB4:=(((Blk.new (w.alloc (.cells #[.string (bs a.name),.slice A a.letters.length c,.slice A' a.small.length c'] 28)) 26 #[.slice none 0 0]).alloc (.cells #[.int .i64 0] 31)).alloc (.cells #[.int .i64 0] 3)).bel hb1;have hB5:=((Blk.new ((w.alloc (.cells #[.string (bs a.name),.slice A a.letters.length c,.slice A' a.small.length c'] 28)).alloc (.cells #[.slice none 0 0] 26)) 31 #[.int .i64 0]).alloc (.cells #[.int .i64 0] 3)).bel hb1;have hB6:=(Blk.new (((w.alloc (.cells #[.string (bs a.name),.slice A a.letters.length c,.slice A' a.small.length c'] 28)).alloc (.cells #[.slice none 0 0] 26)).alloc (.cells #[.int .i64 0] 31)) 3 #[.int .i64 0]).bel hb1;simp only [Wh] at hB4 hB5 hB6;have k0:w1.cell? ⟨w.heap.size,0,none⟩=some (.string (bs a.name)):=hB0.cell 0;have k1:w1.cell? ⟨w.heap.size,1,none⟩=some (.slice A a.letters.length c):=hB0.cell 1;have k2:w1.cell? ⟨w.heap.size,2,none⟩=some (.slice A' a.small.length c'):=hB0.cell 2;have k4:w1.cell? ⟨w.heap.size+1,0,none⟩=some (.slice none 0 0):=hB4.cell 0;have k5:w1.cell? ⟨w.heap.size+1+1,0,none⟩=some (.int .i64 0):=hB5.cell 0;have k6:w1.cell? ⟨w.heap.size+1+1+1,0,none⟩=some (.int .i64 0):=hB6.cell 0;have f4:=hB4.frozen 0;have f5:=hB5.frozen 0;have f6:=hB6.frozen 0;have HB0:=Q0 hB0;have HB4:=Q0 hB4;have HB5:=Q0 hB5;have HB6:=Q0 hB6;have HBW:=Q0 hbw;have HA:=Q0 hA;have HS:=Q0 hS;clear hB0 hB4 hB5 hB6 hbw hA hS hb1;cases hv:Al.q09 a
 ·have hr:Al.q0o a s=([],1,0):=by unfold Al.q0o;rw [hv];rfl
  have HR:=Q0 hr;clear hr hv
  go_wp2
  exact qkx _ HR.out HBW.out HB4.out HB5.out HB6.out (by omega) (by omega) (by omega) rfl rfl rfl
 ·by_cases hs0:s=[]
  ·have hr:Al.q0o a s=([],6,0):=by unfold Al.q0o Al.q0m;rw [hv,hs0];rfl
   have hse:(bs s).toList=[]:=by rw [QD,q2h];exact hs0
   have hse2:(bs s).toList.isEmpty=true:=by rw [hse];rfl
   have HR:=Q0 hr;clear hr hv hs0
   go_wp2
   exact qkx _ HR.out HBW.out HB4.out HB5.out HB6.out (by omega) (by omega) (by omega) rfl rfl rfl
  ·have hr:Al.q0o a s=Al.collect [] (Al.places a.letters (s.length+1) 0 s):=by unfold Al.q0o Al.q0m;rw [if_pos hv,if_neg hs0]
   have hfo:=Al.qg4 hv;have hse2:(bs s).toList.isEmpty=false:=by
    rw [QD,q2h];cases s with
    | nil=>exact absurd rfl hs0
    | cons x r=>rfl
   have hse3:¬ (bs s).toList=[]:=by rw [QD,q2h];exact hs0
   have HR:=Q0 hr;have HFO:=Q0 hfo;clear hr hv hs0 hfo
   go_wp2_with fail
   refine (qkv a A A' c c' _ HFEW.out (HA.out.bel HBW.out) (HS.out.bel HBW.out)).mono ?_;rintro e w2 ⟨hb2,(⟨hf,_⟩ | ⟨_,bm,rfl,hbm,hown⟩)⟩
   ·rw [HFO.out] at hf;cases hf
   ·have hbw2:=q1y HBW.out hb2
    have HBW2:=Q0 hbw2;have hg4:=HB4.out.bel hb2;have hg5:=HB5.out.bel hb2;have hg6:=HB6.out.bel hb2;have hbml:=hown.lt;have HG4:=Q0 hg4;have HG5:=Q0 hg5;have HG6:=Q0 hg6;have HOWN:=Q0 hown;have hszw:=HB6.out.lt;have hsz2:=hb2.size;clear hb2 hown hg4 hg5 hg6 hbw2 HBW HA HS k0 k1 k2 k4 k5 k6 f4 f5 f6 HB0 HB4 HB5 HB6
    go_wp2_with fail
    refine (letters_any bm (bs s) _).mono ?_;rintro e w' ⟨rfl,rfl⟩
    go_wp2
    have ho:=(((Blk.new w2 26 #[.slice none 0 0]).alloc (.cells #[.map (some bm)] 94)).alloc (.cells #[.string (bs s)] 9));have hi:=((Blk.new (w2.alloc (.cells #[.slice none 0 0] 26)) 94 #[.map (some bm)]).alloc (.cells #[.string (bs s)] 9));have ht:=(Blk.new ((w2.alloc (.cells #[.slice none 0 0] 26)).alloc (.cells #[.map (some bm)] 94)) 9 #[.string (bs s)]);have h4:=((HG4.out.alloc (.cells #[.slice none 0 0] 26)).alloc (.cells #[.map (some bm)] 94)).alloc (.cells #[.string (bs s)] 9);have h5:=((HG5.out.alloc (.cells #[.slice none 0 0] 26)).alloc (.cells #[.map (some bm)] 94)).alloc (.cells #[.string (bs s)] 9);have h6:=((HG6.out.alloc (.cells #[.slice none 0 0] 26)).alloc (.cells #[.map (some bm)] 94)).alloc (.cells #[.string (bs s)] 9);have hm:=((HOWN.out.alloc (.cells #[.slice none 0 0] 26)).alloc (.cells #[.map (some bm)] 94)).alloc (.cells #[.string (bs s)] 9);have hbl:=q02 (q02 (q02 HBW2.out (.cells #[.slice none 0 0] 26)) (.cells #[.map (some bm)] 94)) (.cells #[.string (bs s)] 9);have hz3:(((w2.alloc (.cells #[.slice none 0 0] 26)).alloc (.cells #[.map (some bm)] 94)).alloc (.cells #[.string (bs s)] 9)).heap.size=w2.heap.size+3:=by simp
    simp only [Wh] at hi ht;generalize ((w2.alloc (.cells #[.slice none 0 0] 26)).alloc (.cells #[.map (some bm)] 94)).alloc (.cells #[.string (bs s)] 9)=W3 at *
    clear HG4 HG5 HG6 HOWN HBW2;generalize ebt:w2.heap.size+1+1=bt at *
    generalize ebi:w2.heap.size+1=bi at *
    generalize ebo:w2.heap.size=bo at *
    generalize eb6:w.heap.size+1+1+1=b6 at *
    generalize eb5:w.heap.size+1+1=b5 at *
    generalize eb4:w.heap.size+1=b4 at *
    generalize eb0:w.heap.size=b0 at *
    obtain ⟨PL,hPL⟩:∃ PL,PL=Al.places a.letters (s.length+1) 0 s:=⟨_,rfl⟩;have hrd:=HR.out;rw [← hPL] at hrd;have HRD:=Q0 hrd;have HPL:=Q0 hPL;have hseq:SeqStopsK QG (6-1) Tryz.prog 75 #[.pointer (some ⟨bt,0,none⟩),.pointer (some ⟨bi,0,none⟩)] encP (Keep bt bi bm) (λys=>ys=PL) (λpre=>pre <+: PL) PL.length W3:=λl J Jx W hW hJ _ hY h0 =>
     letters_in (6-1) (by omega) l bt bi bm a.letters (Al.q9e HFO.out) s hs J Jx PL HPL.out hY (λpre W k hj=>hJ pre W _ none hj (grown_drewN W k) (λr e=>by cases e)) W
      ((⟨ht.cell 0,hi.cell 0,hm⟩:Lay W3 bt bi bm a.letters s).keep ⟨hW.block bt (by omega),hW.block bi (by omega),hW.block bm (by omega)⟩) h0
    have HSEQ:=Q0 hseq;clear hrd hPL hseq HR HPL;have hrowi:=info_parts info_int;obtain ⟨i0,hi0,hz0,hz1,hz2⟩:=hrowi;have HO:=Q0 ho;have HI:=Q0 hi;have HT:=Q0 ht;have H4:=Q0 h4;have H5:=Q0 h5;have H6:=Q0 h6;have HM:=Q0 hm;have HBL:=Q0 hbl;clear ho hi ht h4 h5 h6 hm hbl;refine (wpIn_wide (n:=6)).1 ?_;refine wpIn_rangeFunc_ownG (F:=QG) rfl (by omega) (gf:=75) (lb:=#[.pointer (some ⟨bt,0,none⟩),.pointer (some ⟨bi,0,none⟩)]) rfl trivial (enters_of Tryz.func75 (by kernel_rfl) rfl)
     HSEQ.out (λh k=>h.trans k) (λW l o o' hl hlo _ _=>⟨Qp (by omega),Qp (by omega),Qp (by omega)⟩) (Below.refl _ _) (λ_=>rfl)
     (λpre W=>ReadI w b4 b5 b6 bo bt bi bm s pre W)
     (λcc pre W=>ReadX w b4 b5 b6 cc pre W)
     (readI_own (by omega) (by omega)) (λcc=>readX_own cc (by omega))
     ⟨⟨by simp,by simp⟩,⟨_,HO.out,Wd _ _ _ _,trivial⟩,H4.out,H5.out,H6.out,HT.out,HI.out,⟨HM.out.choose,HM.out.choose_spec.choose,HM.out.choose_spec.choose_spec.1⟩,by rw [eb0];exact HBL.out⟩
     (λx:Nat×Int=>{ tmps:=#[alv a A c A' c',.string (bs s),.pointer (some ⟨b0,0,none⟩),undef,.pointer (some ⟨b4,0,none⟩),.pointer (some ⟨b5,0,none⟩),.pointer (some ⟨b6,0,none⟩),.map (some bm),.bool true,.pointer (some ⟨bo,0,none⟩),.int .i64 (x.1:Int),.int .i64 x.2,.agg #[.string (bs a.name),.slice A a.letters.length c,.slice A' a.small.length c'],.bool true,.bool false,.string (bs s),.bool false,.tuple #[.map (some bm),.bool true],.agg #[.string (bs a.name),.slice A a.letters.length c,.slice A' a.small.length c'],.tuple #[.map (some bm),.bool true],.map (some bm),.bool true,.map (some bm),.string (bs s),.func (.func 75) #[] #[.pointer (some ⟨bt,0,none⟩),.pointer (some ⟨bi,0,none⟩)],.int .i64 (x.1:Int),.int .i64 x.2,undef,undef,undef,undef,undef,undef,undef,undef,undef,undef,undef,undef,undef,undef],defers:=[] }) ?assign ?body ?done ?stop
    case assign =>
     intro l x W K hK
     gi_wp2
     exact hK
    case body =>
     rintro l pre x W ⟨⟨hnn,hle⟩,⟨v,hv,hrow,_⟩,q4,q5,q6,qt,qi,⟨es,cl,qm⟩,qb⟩ hlen;obtain ⟨xa,xk⟩:=x;obtain ⟨Ao,co,rfl⟩:=q4a hrow;dsimp only;have co0:=hv.cell;have co1:=hv.frozen;have c4:=q4.cell;have c5:=q5.cell;have c6:=q6.cell;have g4:=q4.frozen;have g5:=q5.frozen;have g6:=q6.frozen;have hle':(pre.length:Int)≤24:=by omega
     have hsW:=qb.size;have hboW:bo≤W.heap.size:=QV hv.lt;have HV:=Q0 hv;have HROW:=Q0 hrow;have HNN:=Q0 hnn;have Q4:=Q0 q4;have Q5:=Q0 q5;have Q6:=Q0 q6;have QT:=Q0 qt;have QI:=Q0 qi;have QM:=Q0 qm;have QB:=Q0 qb;clear hv hrow hnn q4 q5 q6 qt qi qm qb hlen;by_cases hk:xk<0
     ·gi_wp2
      exact ⟨((((Q7 _ _ _).trans (Q7 _ _ _)).trans (Q7 _ _ _))).from _,⟨rfl,pre,(xa,xk),3,⟨rfl,HNN.out,hle,.inl ⟨hk,rfl⟩⟩,((Q4.out.set _).other (by omega) _).other (by omega) _,((Q5.out.other (by omega) _).set _).other (by omega) _,((Q6.out.other (by omega) _).other (by omega) _).set _⟩,q1a (q1a (q1a QB.out (by dsimp only;omega) _) (by dsimp only;omega) _) (by dsimp only;omega) _⟩
     ·by_cases h24:pre.length=24
      ·have h24':((pre.length:Int)==24)=true:=by rw [beq_iff_eq];omega
       gi_wp2
       exact ⟨((((Q7 _ _ _).trans (Q7 _ _ _)).trans (Q7 _ _ _))).from _,⟨rfl,pre,(xa,xk),2,⟨rfl,HNN.out,hle,.inr ⟨by show 0≤xk;omega,h24,rfl⟩⟩,((Q4.out.set _).other (by omega) _).other (by omega) _,((Q5.out.other (by omega) _).set _).other (by omega) _,((Q6.out.other (by omega) _).other (by omega) _).set _⟩,q1a (q1a (q1a QB.out (by dsimp only;omega) _) (by dsimp only;omega) _) (by dsimp only;omega) _⟩
      ·have h24':((pre.length:Int)==24)=false:=by rw [beq_eq_false_iff_ne];omega
       gi_wp2_with (gi_at_builtin;refine wpListIn_append_own _ rfl _ _ 26 rfl bo 3 i0 (.int .i64 0) 1 8 Tryz.underlying26 hi0 hz0 hz1 hz2 rfl (by decide) _ _ _ rfl (HROW.out.alloc _) ⟨W.heap.size,0,none⟩ 1 1 [.int .i64 xk] rfl rfl (cell_one_new _ _ _) (by simp [Value.oneCell']) (by unfold maxLen;omega) (by omega) (by simp;omega) ?_;intro v' w5 hown' hgrow _;obtain ⟨g',cap',rfl⟩:=ownsRow_succ hown';obtain ⟨hv1,hv2,hr2,hk2,hb2⟩:=HV.out.appended (by decide) HROW.out hboW (Qb _) hown' hgrow;have hc1:=hv1.cell;have hf1:=hv1.frozen)
       have hnr:∀ k,k<bo→some k≠(Value.slice Ao pre.length co).ownBlock:=λk hk e=>by have:=q2r HROW.out k e.symm;omega
       have e4:=((Q4.out.alloc (.cells #[.int .i64 xk] 3)).kept hgrow (hnr _ (by omega))).other (B':=bo) (by omega) (.slice (some ⟨g',0,none⟩) (pre.length+1) cap')
       have e5:=((Q5.out.alloc (.cells #[.int .i64 xk] 3)).kept hgrow (hnr _ (by omega))).other (B':=bo) (by omega) (.slice (some ⟨g',0,none⟩) (pre.length+1) cap')
       have e6:=((Q6.out.alloc (.cells #[.int .i64 xk] 3)).kept hgrow (hnr _ (by omega))).other (B':=bo) (by omega) (.slice (some ⟨g',0,none⟩) (pre.length+1) cap')
       have et:=((QT.out.alloc (.cells #[.int .i64 xk] 3)).kept hgrow (QT.out.not_row (by decide) HROW.out)).other (B':=bo) (by omega) (.slice (some ⟨g',0,none⟩) (pre.length+1) cap')
       have ei:=((QI.out.alloc (.cells #[.int .i64 xk] 3)).kept hgrow (QI.out.not_row (by decide) HROW.out)).other (B':=bo) (by omega) (.slice (some ⟨g',0,none⟩) (pre.length+1) cap')
       have em:=hk2.same bm _ QM.out rfl;refine ⟨hk2.from _,⟨(show _=_ from et).trans (show _=_ from QT.out).symm,(show _=_ from ei).trans (show _=_ from QI.out).symm,em.trans QM.out.symm⟩,⟨⟨?_,?_⟩,⟨_,hv2,?_,trivial⟩,e4,e5,e6,et,ei,⟨es,cl,em⟩,QB.out.trans (hb2.mono (by omega))⟩⟩
       ·intro p hp
        rcases Wl.1 hp with hp | hp
        ·exact HNN.out p hp
        ·obtain rfl:=Qv.1 hp
         show 0≤xk;omega
       ·rw [Qj];simp only [Qa,Qi];omega
       ·rw [List.map_append,Qj]
        exact hr2
    case done =>
     rintro D ys W hD rfl ⟨⟨hnn,hle⟩,⟨v,hv,hrow,_⟩,q4,q5,q6,qt,qi,qm,qb⟩ hK;have hcol:=Al.collect_all ys [] hnn (by simpa using hle)
     rw [Qo] at hcol;have hfin:=HRD.out.trans hcol;have HFIN:=Q0 hfin;dsimp only;have co0:=hv.cell;have c4:=q4.cell;have c5:=q5.cell;have c6:=q6.cell;have g4:=q4.frozen;have g5:=q5.frozen;have g6:=q6.frozen;have HV:=Q0 hv;have HROW:=Q0 hrow;have Q4:=Q0 q4;have Q5:=Q0 q5;have Q6:=Q0 q6;have QB:=Q0 qb;have HK:=Q0 hK;obtain ⟨Ao,co,rfl⟩:=q4a hrow;clear hv hrow hnn q4 q5 q6 qt qi qm qb hcol hfin hK
     go_wp2
     have hK':(((W.setCell ⟨b4,0,none⟩ (.slice Ao ys.length co)).setCell ⟨b5,0,none⟩ (.int .i64 0)).setCell ⟨b6,0,none⟩ (.int .i64 0)).heap[D]? = some (.deferred (some [])):=(((Q7 _ _ _).trans (Q7 _ _ _)).trans (Q7 _ _ _)).same D _ HK.out rfl;refine ⟨by simp,.inl ⟨D,_,rfl,run_takeDeferred hK',?_⟩⟩
     have z4:=q2t (((Q4.out.set (.slice Ao ys.length co)).other (B':=b5) (by omega) (.int .i64 0)).other (B':=b6) (by omega) (.int .i64 0)) (grownBy_putObj' _ D (.deferred none)) (λr e=>by cases e;exact ⟨_,hK',rfl⟩)
     have z5:=q2t (((Q5.out.other (B':=b4) (by omega) (.slice Ao ys.length co)).set (.int .i64 0)).other (B':=b6) (by omega) (.int .i64 0)) (grownBy_putObj' _ D (.deferred none)) (λr e=>by cases e;exact ⟨_,hK',rfl⟩)
     have z6:=q2t (((Q6.out.other (B':=b4) (by omega) (.slice Ao ys.length co)).other (B':=b5) (by omega) (.int .i64 0)).set (.int .i64 0)) (grownBy_putObj' _ D (.deferred none)) (λr e=>by cases e;exact ⟨_,hK',rfl⟩)
     have hnr:∀ k,k<bo→(Value.slice Ao ys.length co).ownBlock≠some k:=λk hk e=>by have:=q2r HROW.out k e;omega
     have hrow4:=ownsRow_putObj (((HROW.out.kept (grownBy_setCell' W b4 (.slice Ao ys.length co)) (.inr (hnr _ (by omega)))).kept (grownBy_setCell' _ b5 (.int .i64 0)) (.inr (hnr _ (by omega)))).kept (grownBy_setCell' _ b6 (.int .i64 0)) (.inr (hnr _ (by omega)))) (.deferred none) hK' rfl
     have hbelow:=q1a (q1a (q1a QB.out (p:=⟨b4,0,none⟩) (by dsimp only;omega) (.slice Ao ys.length co)) (p:=⟨b5,0,none⟩) (by dsimp only;omega) (.int .i64 0)) (p:=⟨b6,0,none⟩) (by dsimp only;omega) (.int .i64 0)
     refine ⟨_,qc0 _ _ b4 b5 b6 _ _ _ rfl rfl rfl z4.cell z5.cell z6.cell,.slice Ao ys.length co,?_,?_,hbelow.grown (grownBy_putObj' _ D _) hbelow.size (λk e=>by cases e;omega)⟩
     ·rw [HFIN.out]
     ·rw [HFIN.out]
      refine q6u ?_ (show w.heap.size≤bo by omega)
      rw [List.length_map,List.map_map];exact hrow4
    case stop =>
     rintro D cc pre W hD hpre ⟨⟨rfl,q,x,er,⟨rfl,hnn,hle,hwhy⟩,q4,q5,q6⟩,qb⟩ hK;have hfin:Al.q0o a s=([],er,(x.1:Int)):=by
      obtain ⟨r,hr⟩:=hpre;rw [HRD.out,← hr,List.append_assoc];have:=Al.collect_stop x r q [] hnn (by simpa using hle)
      rcases hwhy with ⟨h1,rfl⟩ | ⟨h1,h2,rfl⟩
      ·exact this.1 h1
      ·exact this.2 h1 (by simpa using h2)
     have HFIN:=Q0 hfin;dsimp only;have Q4:=Q0 q4;have Q5:=Q0 q5;have Q6:=Q0 q6;have QB:=Q0 qb;have HK:=Q0 hK;clear q4 q5 q6 qb hfin hK
     gi_wp2
     go_wp2
     refine ⟨by simp,.inl ⟨D,_,rfl,run_takeDeferred HK.out,?_⟩⟩
     have z4:=q2t Q4.out (grownBy_putObj' _ D (.deferred none)) (λr e=>by cases e;exact ⟨_,HK.out,rfl⟩)
     have z5:=q2t Q5.out (grownBy_putObj' _ D (.deferred none)) (λr e=>by cases e;exact ⟨_,HK.out,rfl⟩)
     have z6:=q2t Q6.out (grownBy_putObj' _ D (.deferred none)) (λr e=>by cases e;exact ⟨_,HK.out,rfl⟩)
     exact ⟨_,qc0 _ _ b4 b5 b6 _ _ _ rfl rfl rfl z4.cell z5.cell z6.cell,q9g.err HFIN.out (QB.out.grown (grownBy_putObj' _ D _) QB.out.size (λk e=>by cases e;omega))⟩
end Go.Proofs.YtlmbfijhkcmncaaGreatDoor
namespace Go.Proofs.YtlmbfijhkcmncaaGreatDoor
open Go.RowKit R
abbrev ckAl:CK:=.agg (.cons .str (.cons (.sl (.one .str)) (.one (.sl (.one (.int .i64))))))
abbrev AlP:Type:=List UInt8×List (List UInt8)×List Int
def alOf (p:AlP):Al.Alph:=⟨p.1,p.2.1,p.2.2⟩
def FewP (p:AlP):Prop:=p.2.1.length≤70∧(∀ l∈p.2.1,l.length≤20)∧p.2.2.length≤70∧p.1.length≤100
section
variable {S:Nat→Prop} {w w':World} {v:Value}
theorem alv_rep {p:AlP} {κ:Cx} (h:(CK.comp ckAl p).Rep κ w v):∃ A A' c c',v=alv (alOf p) A c A' c'∧q8g w A p.2.1∧qb0 w A' p.2.2:=by
 obtain ⟨vs,rfl,hsz,hc,_⟩:=h;obtain ⟨u0,e0,r0⟩:=hc 0 _ rfl;obtain ⟨u1,e1,r1⟩:=hc 1 _ rfl;obtain ⟨u2,e2,r2⟩:=hc 2 _ rfl;obtain rfl:u0=.string (bs p.1):=r0;obtain ⟨A,c,rfl,hA⟩:=str_rep r1;obtain ⟨A',c',rfl,hS⟩:=qhe r2;refine ⟨A,A',c,c',?_,hA,hS⟩;obtain ⟨l⟩:=vs;have hsz:l.length=3:=hsz
 match l,hsz with
 | [a,b,d],_ =>
  injection e0 with e0;injection e1 with e1;injection e2 with e2;have e0:a=_:=e0;have e1:b=_:=e1;have e2:d=_:=e2;subst e0;subst e1;subst e2;rfl
end
theorem few_of {p:AlP} (h:FewP p):Few (alOf p):=⟨h.1,h.2.1,h.2.2.1,h.2.2.2⟩
def cPValid:Con:=.of 42 [ckAl] [.one .bool] FewP (λp=>Al.q09 (alOf p))
theorem pvalid_holds:cPValid.Holds Tryz.prog:=by
 refine ⟨⟨⟨_,Tryz.func42,by kernel_rfl,by kernel_rfl⟩,λF' hF p r hr=>by injection hF with hF;subst hF;exact hr⟩,λp vs w S hS hp hvs=>?_⟩
 obtain ⟨v,rfl,hv⟩:=qdb hvs;obtain ⟨A,A',c,c',rfl,hA,hB⟩:=alv_rep (p:=p) hv;refine (valid_any (alOf p) A A' c c' w (few_of hp) hA hB).mono ?_;rintro e w' ⟨rfl,hbl⟩;exact ⟨Al.q09 (alOf p),_,rfl,rfl,rfl,hbl⟩
def cPRead:Con:=.of 21 [ckAl,.one .str] [.one (.sl (.one (.int .i64))),.one (.int .i64),.one (.int .i64)] (λp=>FewP p.1∧Qc p.2≤1000000) (λp=>Al.q0o (alOf p.1) p.2)
theorem qhs:cPRead.Holds Tryz.prog:=by
 refine ⟨⟨⟨_,Tryz.func21,by kernel_rfl,by kernel_rfl⟩,λF' hF p r hr=>by injection hF with hF;subst hF;exact hr⟩,λp vs w S hS hp hvs=>?_⟩
 obtain ⟨p,s⟩:=p;obtain ⟨v,v2,rfl,hv,hv2⟩:=qjj hvs;obtain ⟨A,A',c,c',rfl,hA,hB⟩:=alv_rep (p:=p) hv;obtain rfl:v2=.string (bs s):=hv2;refine (read_any (alOf p) A A' c c' s w (few_of hp.1) hA hB hp.2).mono ?_;rintro e w' ⟨v,rfl,hrow,hbl⟩;refine ⟨Al.q0o (alOf p) s,_,rfl,rfl,⟨_,rfl,rfl,?_⟩,hbl⟩;have hr:=ints_row (S:=λg=>S g∨(w.heap.size≤g∧g<w'.heap.size)) rfl hrow (λg h1 h2=>.inr ⟨h1,h2⟩)
 intro i x hx
 match i,hx with
 | 0,hx=>injection hx with hx;subst hx;exact ⟨_,rfl,hr⟩
 | 1,hx=>injection hx with hx;subst hx;exact ⟨_,rfl,rfl⟩
 | 2,hx=>injection hx with hx;subst hx;exact ⟨_,rfl,rfl⟩
abbrev q7u:Kds:=.cons .str (.cons .str (.cons .str (.one .bool)))
abbrev ckRule:CK:=.agg q7u
abbrev q0t:CK:=.agg (.cons .str (.cons .str (.one (.sl q7u))))
abbrev kO:Kds:=.cons .str (.cons .str (.cons .str (.cons .bool (.cons (.sl (.one (.int .i64))) (.one (.sl (.one (.int .i64))))))))
abbrev OP:Type:=List UInt8×List UInt8×List UInt8×Bool×List Int×List Int
def opOf (x:Rul.q0g):OP:=(x.1.1,x.1.2.1,x.1.2.2.1,x.1.2.2.2,x.2.1,x.2.2)
def toOp (p:OP):Rul.q0g:=((p.1,p.2.1,p.2.2.1,p.2.2.2.1),p.2.2.2.2.1,p.2.2.2.2.2)
def FewT (x:Rul.Rule):Prop:=x.1.length≤1000∧x.2.1.length≤1000∧x.2.2.1.length≤1000
def FewR (r:Rul.q11):Prop:=r.1.length≤1000∧r.2.1.length≤1000∧r.2.2.length≤1000∧∀ x∈r.2.2,FewT x
def cPlain:Con:=.of 53 [q3a,q3l,q3l] [.one .bool] (λp=>Qc p.1≤1000000000) (λp=>Rul.q0e p.1 p.2.1 p.2.2)
theorem qhx:cPlain.Holds Tryz.prog:=by
 refine ⟨⟨⟨_,Tryz.func53,by kernel_rfl,by kernel_rfl⟩,λF' hF p r hr=>by injection hF with hF;subst hF;exact hr⟩,λp vs w S hS hp hvs=>?_⟩
 obtain ⟨s,lo,hi⟩:=p;obtain ⟨v,v2,v3,rfl,hv,hv2,hv3⟩:=three_args hvs;obtain rfl:v=.string (bs s):=hv;obtain rfl:v2=.int .i64 lo:=hv2;obtain rfl:v3=.int .i64 hi:=hv3;refine (plain_any s lo hi w hp).mono ?_;rintro e w' ⟨rfl,hbl⟩;exact ⟨Rul.q0e s lo hi,_,rfl,rfl,rfl,hbl⟩
def cIsName:Con:=.of 54 [q3a] [.one .bool] (λs=>Qc s≤1000) Lx.q0j
def q3t (p:AlP×List UInt8×Int):List Int×Bool :=
 if p.2.1=[] then ([],true) else ((Al.q0o (alOf p.1) p.2.1).1,(Al.q0o (alOf p.1) p.2.1).2.1==0&&decide (((Al.q0o (alOf p.1) p.2.1).1.length:Int)≤p.2.2))
def cReadR:Con:=.of 43 [ckAl,q3a,q3l] [q55,.one .bool] (λp=>FewP p.1∧Qc p.2.1≤1000000) q3t
def qjh:Con:=.of 29 [q0t] [.one .bool] FewR Rul.q04
def q0l (p:Rul.q11×AlP×AlP):List OP×Bool:=if Rul.q09 p.1 (alOf p.2.1) (alOf p.2.2) then ((p.1.2.2.map (Rul.q1b p.2.1.2.1)).map opOf,true) else ([],false)
def cOpen:Con:=.of 20 [q0t,ckAl,ckAl] [.one (.sl kO),.one .bool] (λp=>FewR p.1∧FewP p.2.1∧FewP p.2.2) q0l
def oRow (l:List OP):Row:=⟨56,kO,l⟩
def anOpen (r:Rul.q11) (f t:AlP):List (Nat×Ann) :=
 [annR 0 Nat [3,4,5,45,46] (λk=>[(8,ownAV 88),(47,R.int .i64 k)]) (λk=>[(88,oRow (((r.2.2.take k).map (Rul.q1b f.2.1)).map opOf))])
  (λk=>k≤r.2.2.length∧(r.2.2.take k).all (Rul.okIn f.2.1 t.2.1)=true) (λk=>r.2.2.length-k)]
def qhd:Con:=.of 12 [q0t,ckAl,ckAl] [.one .bool] (λp=>FewR p.1∧FewP p.2.1∧FewP p.2.2) (λp=>Rul.q09 p.1 (alOf p.2.1) (alOf p.2.2))
def cStands:Con:=.of 22 [.agg kO,q55] [.one .bool] (λp=>Qc p.1.2.2.2.2.1≤1000000∧Qc p.1.2.2.2.2.2≤1000000∧Qc p.2≤1000000) (λp=>Rul.q0x (toOp p.1) p.2)
def cEqI:Con:=.of 46 [q55,q55] [.one .bool] (λp=>Qc p.1≤1000000∧Qc p.2≤1000000) (λp=>p.1==p.2)
def cContI:Con:=.of 47 [q55,q3l] [.one .bool] (λp=>Qc p.1≤1000000) (λp=>p.1.contains p.2)
theorem qgi {w:World} {A:Option Addr} {l:List Int} (h:qb0 w A l) (hl:0<l.length):∃ g off,A=some ⟨g,off,none⟩∧∀ j,j<l.length→w.cell? ⟨g,off+j,none⟩=some (.int .i64 (l.getD j 0)):=by
 obtain ⟨g,off,h1,_,h3⟩:=h hl;refine ⟨g,off,h1,λj hj=>h3 j _ ?_⟩
 rw [Qm,Q8 hj];rfl
theorem eqI_holds:cEqI.Holds Tryz.prog:=by
 refine ⟨⟨⟨_,Tryz.func46,by kernel_rfl,by kernel_rfl⟩,λF' hF p r hr=>by injection hF with hF;subst hF;exact hr⟩,λp vs w S hS hp hvs=>?_⟩
 obtain ⟨x,y⟩:=p;have hp1:x.length≤1000000:=hp.1;have hp2:y.length≤1000000:=hp.2;obtain ⟨v,v2,rfl,hv,hv2⟩:=qjj hvs;obtain ⟨A,c,rfl,hA⟩:=qhe (ls:=x) hv;obtain ⟨B,d,rfl,hB⟩:=qhe (ls:=y) hv2;by_cases hn:x.length=y.length
 ·by_cases h0:0<x.length
  ·obtain ⟨g,off,rfl,hc⟩:=qgi hA h0
   obtain ⟨g',off',rfl,hc'⟩:=qgi hB (by omega)
   refine (Tryz.slices_Equal_int g off x.length c g' off' y.length d x y w (Qb _) (Qb _) (by omega) (by omega) hc hc').mono ?_
   rintro e w' ⟨rfl,q,rfl⟩;refine ⟨x==y,_,rfl,rfl,?_,q13 (q03 w) q⟩;show Wn (Wp x.length x==Wp y.length y)=.bool (x==y);rw [Qs,Qs]
  ·have hx:x=[]:=Qk (by omega)
   have hy:y=[]:=Qk (by omega)
   subst hx;subst hy;refine (Tryz.slices_Equal_int_empty A B c 0 d w (by omega)).mono ?_
   rintro e w' ⟨rfl,rfl⟩;exact ⟨true,_,rfl,rfl,rfl,q03 _⟩
 ·refine (Tryz.slices_Equal_int_lens A B x.length c y.length d w hn).mono ?_
  rintro e w' ⟨rfl,rfl⟩;refine ⟨x==y,_,rfl,rfl,?_,q03 _⟩;show Wn false=.bool (x==y);rw [beq_eq_false_iff_ne.2 (λe=>hn (by rw [e]))]
theorem contI_holds:cContI.Holds Tryz.prog:=by
 refine ⟨⟨⟨_,Tryz.func47,by kernel_rfl,by kernel_rfl⟩,λF' hF p r hr=>by injection hF with hF;subst hF;exact hr⟩,λp vs w S hS hp hvs=>?_⟩
 obtain ⟨x,y⟩:=p;have hp:x.length≤1000000:=hp;obtain ⟨v,v2,rfl,hv,hv2⟩:=qjj hvs;obtain ⟨A,c,rfl,hA⟩:=qhe (ls:=x) hv;obtain rfl:v2=.int .i64 y:=hv2;by_cases h0:0<x.length
 ·obtain ⟨g,off,rfl,hc⟩:=qgi hA h0
  refine (Tryz.slices_Contains_int g off x.length c x y w (Qb _) (by omega) hc).mono ?_
  rintro e w' ⟨rfl,rfl⟩;refine ⟨x.contains y,_,rfl,rfl,?_,q03 _⟩;show Wn ((Wp x.length x).contains y)=.bool (x.contains y);rw [Qs]
 ·have hx:x=[]:=Qk (by omega)
  subst hx;refine (Tryz.slices_Contains_int_empty A c y w).mono ?_;rintro e w' ⟨rfl,rfl⟩;exact ⟨false,_,rfl,rfl,rfl,q03 _⟩
end Go.Proofs.YtlmbfijhkcmncaaGreatDoor

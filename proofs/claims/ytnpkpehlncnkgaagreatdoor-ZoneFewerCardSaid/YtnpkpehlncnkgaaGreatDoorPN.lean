/-
  Several texts in one: ZnLaw, ZnL, LexSpec, LexLaw, AlName, ZnA, ZnB, ZnBb, ZnBc, LexScan, LexGap, IndexAny.
-/
import Derived.Test.YtnpkpehlncnkgaaGreatDoorPM
import Derived.Test.YtnpkpehlncnkgaaGreatDoorPA
import Derived.Test.YtnpkpehlncnkgaaGreatDoorPL
import Derived.Test.YtnpkpehlncnkgaaGreatDoorPB
import Derived.WalkSmall
import Derived.Laws.Runes
import Derived.Laws.RangeAny
import Derived.Lib.OthersKept
set_option linter.unusedVariables false
set_option linter.unusedSectionVars false
namespace Go.Proofs.YtnpkpehlncnkgaaGreatDoor
namespace Geo
namespace Zn
abbrev Str:=List UInt8
abbrev Ar:=Str×Int×List P2
def q12 (k:Int):Bool:=decide (1≤k)&&decide (k≤3)
def qbk:List Str→Bool
 | []=>true
 | x::r=>!r.contains x&&qbk r
def okA (q02:Str→Bool) (a:Ar):Bool:=q02 a.1&&(q12 a.2.1&&q0e a.2.2)
def q0b (q02:Str→Bool) (l:List Ar):Bool:=l.all (okA q02)&&(qbk (l.map λa=>a.1)&&decide (l.length≤400))
def ofK (l:List Ar) (k:Int):List Ar:=l.filter λa=>a.2.1==k
def hitZ (p:P2) (a:Ar):Bool:=decide (0≤q0i a.2.2 p)
def q3u (l:List Str):List Str:=l.mergeSort λx y=>decide (x≤y)
def idsZ (l:List Ar) (k:Int) (p:P2):List Str:=q3u (((ofK l k).filter (hitZ p)).map λa=>a.1)
def inZ (l:List Ar) (k:Int) (p:P2):Bool:=(ofK l k).any λa=>decide (0<q0i a.2.2 p)
def q1a (q02:Str→Bool) (l:List Ar) (k:Int) (p:P2):List Str×Bool×Int:=if q0b q02 l&&(q12 k&&onB p) then (idsZ l k p,inZ l k p,0) else ([],false,1)
def allZ (q02:Str→Bool) (l:List Ar) (k:Int) (p:P2):List Str×Int:=((q1a q02 l k p).1,(q1a q02 l k p).2.2)
def oneZ (q02:Str→Bool) (l:List Ar) (k:Int) (p:P2):Str×Int :=
 let x:=q1a q02 l k p
 if x.2.2 != 0 then ([],x.2.2) else match x.1 with
  | []=>([],10)
  | i::r=>if !r.isEmpty&&x.2.1 then ([],8) else (i,0)
def q2f (q02:Str→Bool) (l:List Ar) (k:Int):Bool:=q0b q02 l&&(q12 k&&(ofK l k).all λa=>(ofK l k).all λb=>a.1==b.1||q2t a.2.2 b.2.2)
def q0g (q02:Str→Bool) (l:List Ar) (k i:Int):Bool:=q0b q02 l&&(q12 k&&(q12 i&&(ofK l k).all λa=>(ofK l i).any λb=>q0j a.2.2 b.2.2))
variable {q02:Str→Bool}
theorem qav:∀ {l:List Str},qbk l=true↔l.Nodup
 | []=>⟨λ_=>List.nodup_nil,λ_=>rfl⟩
 | x::r=>by
  unfold qbk;rw [Bool.and_eq_true,qav,List.nodup_cons,Bool.not_eq_true',← Bool.not_eq_true,List.contains_iff_mem]
theorem q3a {l:List Ar}:q0b q02 l=true↔(∀ a∈l,okA q02 a=true)∧(l.map λa=>a.1).Nodup∧l.length≤400:=by
 unfold q0b;rw [Bool.and_eq_true,Bool.and_eq_true,List.all_eq_true,qav,decide_eq_true_eq]
theorem qjl {l m:List Ar} (h:q0b q02 l=true) (hs:m.Sublist l):q0b q02 m=true:=by
 obtain ⟨h1,h2,h3⟩:=q3a.1 h;exact q3a.2 ⟨λa ha=>h1 a (hs.subset ha),h2.sublist (hs.map _),Nat.le_trans hs.length_le h3⟩
theorem zvalid_perm {l m:List Ar} (h:q0b q02 l=true) (hs:m.Perm l):q0b q02 m=true:=by
 obtain ⟨h1,h2,h3⟩:=q3a.1 h;exact q3a.2 ⟨λa ha=>h1 a (hs.mem_iff.1 ha),(hs.map _).nodup_iff.2 h2,by rw [hs.length_eq];exact h3⟩
theorem sortZ_mem {l:List Str} {x:Str}:x∈q3u l↔x∈l:=(List.mergeSort_perm l _).mem_iff
theorem sortZ_le (l:List Str):(q3u l).Pairwise (λa b=>a≤b):=by
 have hs:=List.pairwise_mergeSort (le:=λa b:Str=>decide (a≤b)) (λa b c h1 h2=>decide_eq_true (List.le_trans (of_decide_eq_true h1) (of_decide_eq_true h2))) (λa b=>by
  rcases List.le_total a b with h | h
  ·rw [decide_eq_true h];rfl
  ·rw [decide_eq_true h,Bool.or_true]) l
 exact hs.imp λh=>of_decide_eq_true h
theorem sortZ_lt {l:List Str} (h:l.Nodup):(q3u l).Pairwise (λa b=>a<b):=by
 have hn:(q3u l).Nodup:=(List.mergeSort_perm l _).nodup_iff.2 h;exact ((sortZ_le l).and hn).imp λ⟨h1,h2⟩=>by
  exact Classical.byContradiction λh'=>h2 (List.le_antisymm h1 (List.not_lt.1 h'))
theorem q7k:∀ {l m:List Str},l.Pairwise (λa b=>a<b)→m.Pairwise (λa b=>a<b)→(∀ x,x∈l↔x∈m)→l=m
 | [],[],_,_,_=>rfl
 | [],b::m,_,_,h=>absurd ((h b).2 (List.mem_cons_self ..)) (by simp)
 | a::l,[],_,_,h=>absurd ((h a).1 (List.mem_cons_self ..)) (by simp)
 | a::l,b::m,h1,h2,h=>by
  obtain ⟨a1,a2⟩:=List.pairwise_cons.1 h1;obtain ⟨b1,b2⟩:=List.pairwise_cons.1 h2;have hab:a=b:=by
   rcases List.mem_cons.1 ((h a).1 (List.mem_cons_self ..)) with e | ha
   ·exact e
   ·rcases List.mem_cons.1 ((h b).2 (List.mem_cons_self ..)) with e | hb
    ·exact e.symm
    ·exact absurd (List.lt_trans (a1 b hb) (b1 a ha)) (List.lt_irrefl a)
  subst hab;rw [q7k a2 b2 λp=>?_]
  constructor
  ·intro hp
   rcases List.mem_cons.1 ((h p).1 (List.mem_cons_of_mem _ hp)) with e | h'
   ·have:=a1 p hp;rw [e] at this;exact absurd this (List.lt_irrefl a)
   ·exact h'
  ·intro hp
   rcases List.mem_cons.1 ((h p).2 (List.mem_cons_of_mem _ hp)) with e | h'
   ·have:=b1 p hp;rw [e] at this;exact absurd this (List.lt_irrefl a)
   ·exact h'
theorem ids_nodup {l:List Ar} (h:q0b q02 l=true) (k:Int) (p:P2):(((ofK l k).filter (hitZ p)).map λa=>a.1).Nodup:=by
 obtain ⟨_,h2,_⟩:=q3a.1 h;exact h2.sublist ((List.filter_sublist.trans List.filter_sublist).map _)
theorem qd0 {l:List Ar} (h:q0b q02 l=true) (k:Int) (p:P2):(idsZ l k p).Pairwise (λa b=>a<b):=sortZ_lt (ids_nodup h k p)
theorem q6v {l:List Ar} {k:Int} {p:P2} {x:Str}:x∈idsZ l k p↔∃ a∈l,a.2.1=k∧0≤q0i a.2.2 p∧a.1=x:=by
 unfold idsZ;rw [sortZ_mem,List.mem_map];unfold ofK hitZ;constructor
 ·rintro ⟨a,ha,e⟩
  rw [List.mem_filter,List.mem_filter,beq_iff_eq,decide_eq_true_eq] at ha;exact ⟨a,ha.1.1,ha.1.2,ha.2,e⟩
 ·rintro ⟨a,ha,h1,h2,e⟩
  exact ⟨a,by rw [List.mem_filter,List.mem_filter,beq_iff_eq,decide_eq_true_eq];exact ⟨⟨ha,h1⟩,h2⟩,e⟩
theorem id_inj {l:List Ar} (h:q0b q02 l=true) {a b:Ar} (ha:a∈l) (hb:b∈l) (e:a.1=b.1):a=b:=by
 obtain ⟨_,h2,_⟩:=q3a.1 h;have:∀ {l:List Ar},(l.map λa=>a.1).Nodup→a∈l→b∈l→a=b:=by
  intro l
  induction l with
  | nil=>intro _ ha;cases ha
  | cons x r ih =>
   intro hn ha hb;rw [List.map_cons,List.nodup_cons] at hn;rcases List.mem_cons.1 ha with e1 | ha' <;> rcases List.mem_cons.1 hb with e2 | hb'
   ·rw [e1,e2]
   ·exact absurd (List.mem_map.2 ⟨b,hb',by rw [← e1];exact e.symm⟩) hn.1
   ·exact absurd (List.mem_map.2 ⟨a,ha',by rw [← e2];exact e⟩) hn.1
   ·exact ih hn.2 ha' hb'
 exact this h2 ha hb
theorem all_has {l:List Ar} (h:q0b q02 l=true) {k:Int} {p:P2} {a:Ar} (ha:a∈l):a.1∈idsZ l k p↔a.2.1=k∧0≤q0i a.2.2 p:=by
 rw [q6v];constructor
 ·rintro ⟨b,hb,h1,h2,e⟩
  have:=id_inj h ha hb e.symm
  subst this;exact ⟨h1,h2⟩
 ·rintro ⟨h1,h2⟩;exact ⟨a,ha,h1,h2,rfl⟩
theorem ids_len (l:List Ar) (k:Int) (p:P2):(idsZ l k p).length=(l.filter λa=>a.2.1==k&&hitZ p a).length:=by
 unfold idsZ q3u;rw [List.length_mergeSort,List.length_map];unfold ofK;rw [List.filter_filter]
 congr 1
 apply List.filter_congr
 intro a _;rw [Bool.and_comm]
theorem ids_same {l m:List Ar} (hl:q0b q02 l=true) (hm:q0b q02 m=true) {k:Int} {p:P2} (h:∀ a,(a∈l∧a.2.1=k)↔(a∈m∧a.2.1=k)):idsZ l k p=idsZ m k p:=by
 refine q7k (qd0 hl k p) (qd0 hm k p) λx=>?_
 rw [q6v,q6v];constructor
 ·rintro ⟨a,ha,h1,h2,e⟩;exact ⟨a,((h a).1 ⟨ha,h1⟩).1,h1,h2,e⟩
 ·rintro ⟨a,ha,h1,h2,e⟩;exact ⟨a,((h a).2 ⟨ha,h1⟩).1,h1,h2,e⟩
theorem in_iff {l:List Ar} {k:Int} {p:P2}:inZ l k p=true↔∃ a∈l,a.2.1=k∧0<q0i a.2.2 p:=by
 unfold inZ ofK;rw [List.any_eq_true];constructor
 ·rintro ⟨a,ha,h⟩
  rw [List.mem_filter,beq_iff_eq] at ha;exact ⟨a,ha.1,ha.2,of_decide_eq_true h⟩
 ·rintro ⟨a,ha,h1,h⟩
  exact ⟨a,List.mem_filter.2 ⟨ha,beq_iff_eq.2 h1⟩,decide_eq_true h⟩
theorem q5n {l:List Ar} {k:Int}:q2f q02 l k=true↔q0b q02 l=true∧q12 k=true∧∀ a∈l,a.2.1=k→∀ b∈l,b.2.1=k→a.1=b.1∨q2t a.2.2 b.2.2=true:=by
 unfold q2f ofK;rw [Bool.and_eq_true,Bool.and_eq_true,List.all_eq_true];refine and_congr Iff.rfl (and_congr Iff.rfl ?_);constructor
 ·intro h a ha ka b hb kb
  have:=List.all_eq_true.1 (h a (List.mem_filter.2 ⟨ha,beq_iff_eq.2 ka⟩)) b (List.mem_filter.2 ⟨hb,beq_iff_eq.2 kb⟩)
  rw [Bool.or_eq_true,beq_iff_eq] at this;exact this
 ·intro h a ha
  rw [List.mem_filter,beq_iff_eq] at ha;rw [List.all_eq_true];intro b hb;rw [List.mem_filter,beq_iff_eq] at hb;rw [Bool.or_eq_true,beq_iff_eq];exact h a ha.1 ha.2 b hb.1 hb.2
theorem q5s {l:List Ar} {k i:Int}:q0g q02 l k i=true↔q0b q02 l=true∧q12 k=true∧q12 i=true∧∀ a∈l,a.2.1=k→∃ b∈l,b.2.1=i∧q0j a.2.2 b.2.2=true:=by
 unfold q0g ofK;rw [Bool.and_eq_true,Bool.and_eq_true,Bool.and_eq_true,List.all_eq_true];refine and_congr Iff.rfl (and_congr Iff.rfl (and_congr Iff.rfl ?_));constructor
 ·intro h a ha ka
  obtain ⟨b,hb,hw⟩:=List.any_eq_true.1 (h a (List.mem_filter.2 ⟨ha,beq_iff_eq.2 ka⟩));rw [List.mem_filter,beq_iff_eq] at hb;exact ⟨b,hb.1,hb.2,hw⟩
 ·intro h a ha
  rw [List.mem_filter,beq_iff_eq] at ha;obtain ⟨b,hb,kb,hw⟩:=h a ha.1 ha.2;exact List.any_eq_true.2 ⟨b,List.mem_filter.2 ⟨hb,beq_iff_eq.2 kb⟩,hw⟩
theorem ok_ring {l:List Ar} (h:q0b q02 l=true) {a:Ar} (ha:a∈l):q0e a.2.2=true:=by
 have:=(q3a.1 h).1 a ha
 unfold okA at this;simp only [Bool.and_eq_true] at this;exact this.2.2
theorem qhb (l:List Ar) (k:Int):q0g q02 l k k=(q0b q02 l&&q12 k):=by
 rw [Bool.eq_iff_iff,q5s,Bool.and_eq_true];exact ⟨λh=>⟨h.1,h.2.1⟩,λh=>⟨h.1,h.2,h.2,λa ha ka=>⟨a,ha,ka,Geo.within_self (ok_ring h.1 ha)⟩⟩⟩
theorem nested_ids {l:List Ar} {k i:Int} {p:P2} (h:q0g q02 l k i=true) (hne:idsZ l k p≠[]):idsZ l i p≠[]:=by
 obtain ⟨h1,_,_,h4⟩:=q5s.1 h;obtain ⟨x,hx⟩:=List.exists_mem_of_ne_nil _ hne;obtain ⟨a,ha,ka,hw,_⟩:=q6v.1 hx;obtain ⟨b,hb,kb,hwi⟩:=h4 a ha ka;intro e;have:b.1∈idsZ l i p:=q6v.2 ⟨b,hb,kb,Geo.within_where hwi hw,rfl⟩;rw [e] at this;cases this
theorem nested_trans {l:List Ar} {k i j:Int} (h:q0g q02 l k i=true) (h':q0g q02 l i j=true):q0g q02 l k j=true:=by
 obtain ⟨h1,h2,_,h4⟩:=q5s.1 h;obtain ⟨_,_,g3,g4⟩:=q5s.1 h';refine q5s.2 ⟨h1,h2,g3,λa ha ka=>?_⟩
 obtain ⟨b,hb,kb,hw⟩:=h4 a ha ka;obtain ⟨c,hc,kc,hw'⟩:=g4 b hb kb;exact ⟨c,hc,kc,Geo.within_again hw hw'⟩
theorem apart_one {l:List Ar} {k:Int} {p:P2} (h:q2f q02 l k=true) {a b:Ar} (ha:a∈l) (hb:b∈l) (ka:a.2.1=k) (kb:b.2.1=k) (wa:q0i a.2.2 p=1) (wb:q0i b.2.2 p=1):a=b:=by
 obtain ⟨h1,_,h3⟩:=q5n.1 h;rcases h3 a ha ka b hb kb with e | hap
 ·exact id_inj h1 ha hb e
 ·exact absurd wb (Geo.apart_where hap wa)
end Zn
end Geo
namespace Zl
theorem q1x {α:Type} (l:List α) (d:α) (k:Nat) (h:k<l.length):l.take (k+1)=l.take k++[l.getD k d]:=by
 rw [List.take_succ_eq_append_getElem h,List.getD_eq_getElem?_getD,List.getElem?_eq_getElem h];rfl
theorem q1v {α:Type} (l:List α) (d:α) (k:Nat) (h:k<l.length):l.getD k d∈l:=by
 rw [List.getD_eq_getElem?_getD,List.getElem?_eq_getElem h];exact List.getElem_mem h
theorem qds {α:Type} (l:List α) (d:α) (p:α→Bool) (k:Nat) (h:k<l.length):(l.take (k+1)).all p=((l.take k).all p&&p (l.getD k d)):=by
 rw [q1x l d k h,List.all_append,List.all_cons,List.all_nil,Bool.and_true]
theorem any_step {α:Type} (l:List α) (d:α) (p:α→Bool) (k:Nat) (h:k<l.length):(l.take (k+1)).any p=((l.take k).any p||p (l.getD k d)):=by
 rw [q1x l d k h,List.any_append,List.any_cons,List.any_nil,Bool.or_false]
theorem all_end {α:Type} (l:List α) (p:α→Bool) (k:Nat) (h:l.length≤k):(l.take k).all p=l.all p:=by rw [List.take_of_length_le h]
theorem all_no {α:Type} (l:List α) (d:α) (p:α→Bool) (k:Nat) (h:k<l.length) (hp:p (l.getD k d)=false):l.all p=false:=by
 rw [← Bool.not_eq_true,List.all_eq_true];intro ha;have:=ha _ (q1v l d k h);rw [hp] at this;cases this
theorem qgp {α:Type} (l:List α) (d:α) (p:α→Bool) (k:Nat) (h:k<l.length) (hp:p (l.getD k d)=true):l.any p=true :=
 List.any_eq_true.2 ⟨_,q1v l d k h,hp⟩
open Geo.Zn
theorem q1i {p:P2} (h:onB p=true):(0≤p.1∧p.1≤32767)∧(0≤p.2∧p.2≤32767):=by
 unfold onB at h;rw [Bool.and_eq_true,decide_eq_true_eq,decide_eq_true_eq] at h;omega
theorem mul_le {a b m n:Int} (h1:-m≤a) (h2:a≤m) (h3:-n≤b) (h4:b≤n):-(m*n)≤a*b∧a*b≤m*n:=by
 have hm:0≤m:=by omega
 have hn:0≤n:=by omega
 have ha:a.natAbs≤m.natAbs:=by omega
 have hb:b.natAbs≤n.natAbs:=by omega
 have h:=Nat.mul_le_mul ha hb;rw [← Int.natAbs_mul,← Int.natAbs_mul] at h;have:=Int.mul_nonneg hm hn;omega
theorem q3k {a b:Int} (h1:-32767≤a) (h2:a≤32767) (h3:-32767≤b) (h4:b≤32767):-1073676289≤a*b∧a*b≤1073676289:=mul_le (m:=32767) (n:=32767) h1 h2 h3 h4
theorem tm_eq (k n c:Nat):((k:Int)+(c:Int)).tmod (n:Int)=(((k+c) % n:Nat):Int):=by
 rw [Int.ofNat_tmod,Int.natCast_add]
theorem tm1 (k n:Nat):((k:Int)+(1:Int)).tmod (n:Int)=(((k+1) % n:Nat):Int):=tm_eq k n 1
theorem tm2 (k n:Nat):((k:Int)+(2:Int)).tmod (n:Int)=(((k+2) % n:Nat):Int):=tm_eq k n 2
theorem at0 (r:List P2) {k:Nat} (hk:k<r.length):r.getD k ((0:Int),(0:Int))=rAt r k:=by unfold rAt;rw [Nat.mod_eq_of_lt hk]
theorem atm (r:List P2) (k:Nat):r.getD (((k % r.length:Nat):Int)).toNat ((0:Int),(0:Int))=rAt r k:=rfl
theorem atm' (r:List P2) (k:Nat):r.getD (k % r.length) ((0:Int),(0:Int))=rAt r k:=rfl
theorem tm_in {n:Nat} (k:Nat) (hn:0<n):(0:Int)≤((k % n:Nat):Int)∧((k % n:Nat):Int)<(n:Int):=by
 have:=Nat.mod_lt k hn
 omega
theorem q31 {r:List P2} (h:r.all onB=true) (hn:0<r.length) (i:Nat):onB (rAt r i)=true:=by
 unfold rAt;exact List.all_eq_true.1 h _ (q1v r _ _ (Nat.mod_lt _ hn))
def sumTo (f:Nat→Int) (k:Nat):Int:=((List.range k).map f).sum
theorem qix (f:Nat→Int) (k:Nat):sumTo f (k+1)=sumTo f k+f k:=by
 unfold sumTo;rw [List.range_succ,List.map_append,List.sum_append];simp
theorem qf4 {f:Nat→Int} {B:Int} (h:∀ i,-B≤f i∧f i≤B):∀ k:Nat,-(k*B)≤sumTo f k∧sumTo f k≤k*B
 | 0=>by simp [sumTo]
 | k+1=>by
  have ih:=qf4 h k;have:=h k;rw [qix,show ((k+1:Nat):Int)*B=k*B+B by rw [Int.natCast_add,Int.add_mul];simp]
  omega
theorem range_all (p:Nat→Bool) (k:Nat):(List.range (k+1)).all p=((List.range k).all p&&p k):=by
 rw [List.range_succ,List.all_append];simp
theorem qfz (p:Nat→Bool) (k:Nat):(List.range (k+1)).any p=((List.range k).any p||p k):=by
 rw [List.range_succ,List.any_append];simp
theorem q5q {r:List P2} (h:q0e r=true):3≤r.length∧r.length≤40∧r.all onB=true:=by
 unfold q0e at h;simp only [Bool.and_eq_true,decide_eq_true_eq] at h;exact ⟨h.1,h.2.1,h.2.2.1⟩
end Zl
namespace Lx
def q1w (c:UInt8):Bool:=(97≤c&&c≤122)||(65≤c&&c≤90)
def isDigit (c:UInt8):Bool:=48≤c&&c≤57
def q2c (c:UInt8):Bool:=c==32||c==9||c==10
def isWord (c:UInt8):Bool:=q1w c||isDigit c||c==95
def isSym (c:UInt8):Bool:=[59,44,46,58,40,41,91,93,123,125,61,43,45].contains c
def q02 (l:List UInt8):Bool:=l.all isWord&&(decide (0<l.length)&&decide (l.length≤24))&&(match l with | []=>false | c::_=>q1w c)
def cls (c:UInt8):Nat :=
 if q1w c then 3 else if isDigit c then 4 else if c==95 then 5 else if q2c c then 1 else if c==35 then 2
 else if c==34 then 6 else if c==33 then 7 else if c==60||c==62 then 8 else if isSym c then 9 else 0
def q1s:List UInt8→Nat
 | []=>0
 | c::_=>cls c
def span (p:UInt8→Bool) (l:List UInt8):Nat:=(l.takeWhile p).length
def gapc:Bool→List UInt8→Nat
 | _,[]=>0
 | false,c::r=>if q2c c then gapc false r+1 else if c==35 then gapc true r+1 else 0
 | true,c::r=>if c==10 then gapc false r+1 else gapc true r+1
def gap (l:List UInt8):Nat:=gapc false l
def qcg (l:List UInt8):Nat:=l.foldl (λa c=>10*a+(c.toNat-48)) 0
structure Sc where
 err:Int
 kind:Int
 n:Int
 text:List UInt8
 width:Nat
 deriving DecidableEq
def bad (e:Int):Sc:=⟨e,0,0,[],0⟩
def q2v (c:UInt8):Bool:=!(c==34||c==10)
def scan:List UInt8→Sc
 | []=>bad 3
 | c::r =>
  if q1w c then
   let m:=span isWord r+1
   if 24<m then bad 2 else ⟨0,1,0,(c::r).take m,m⟩
  else if isDigit c then
   let m:=span isDigit r+1
   if 13<m||q1s ((c::r).drop m)==3||q1s ((c::r).drop m)==5 then bad 4 else ⟨0,2,qcg ((c::r).take m),(c::r).take m,m⟩
  else if c==34 then
   let m:=span q2v r
   if (r.drop m).head? == some 34 then (if 400<m then bad 2 else ⟨0,3,0,r.take m,m+2⟩) else bad 6
  else if (c==33||c==60||c==62)&&r.head? == some 61 then ⟨0,4,0,[c,61],2⟩
  else if c==60||c==62||isSym c then ⟨0,4,0,[c],1⟩
  else bad 3
structure Tok where
 kind:Int
 pos:Int
 n:Int
 text:List UInt8
 deriving DecidableEq
def Sc.tok (r:Sc) (off:Nat):Tok:=⟨r.kind,off,r.n,r.text⟩
def q5f:Nat→List Tok→Nat→List UInt8→List Tok×Int×Int
 | 0,out,_,_=>(out,0,0)
 | _+1,out,_,[]=>(out,0,0)
 | f+1,out,off,c::r =>
  let s:=scan (c::r)
  if s.err=0∧out.length=5000 then ([],2,off)
  else if s.err≠0 then ([],s.err,off)
  else
   let l:=(c::r).drop s.width
   q5f f (out++[s.tok off]) (off+s.width+gap l) (l.drop (gap l))
def lex (l:List UInt8):List Tok×Int×Int :=
 if 20000<l.length then ([],2,-1) else q5f (l.length+1) [] (gap l) (l.drop (gap l))
theorem lexAt_nil (f:Nat) (out:List Tok) (off:Nat):q5f f out off []=(out,0,0):=by cases f <;> rfl
theorem lexAt_full (f:Nat) (out:List Tok) (off:Nat) (c:UInt8) (r:List UInt8) (h:(scan (c::r)).err=0) (hl:out.length=5000):q5f (f+1) out off (c::r)=([],2,(off:Int)):=by
 simp only [q5f];rw [if_pos ⟨h,hl⟩]
theorem lexAt_err (f:Nat) (out:List Tok) (off:Nat) (c:UInt8) (r:List UInt8) (h:(scan (c::r)).err≠0):q5f (f+1) out off (c::r)=([],(scan (c::r)).err,(off:Int)):=by
 simp only [q5f];rw [if_neg (λh'=>h h'.1),if_pos h]
theorem lexAt_tok (f:Nat) (out:List Tok) (off:Nat) (c:UInt8) (r:List UInt8) (h:(scan (c::r)).err=0) (hl:out.length≠5000) :
  q5f (f+1) out off (c::r)=q5f f (out++[(scan (c::r)).tok off]) (off+(scan (c::r)).width+gap ((c::r).drop (scan (c::r)).width)) (((c::r).drop (scan (c::r)).width).drop (gap ((c::r).drop (scan (c::r)).width))):=by
 simp only [q5f];rw [if_neg (λh'=>hl h'.2),if_neg (by simp [h])]
theorem qdt (p:UInt8→Bool) (l:List UInt8):span p l≤l.length:=by
 unfold span
 induction l with
 | nil=>simp
 | cons c r ih=>rw [List.takeWhile_cons];split <;> simp [ih]
theorem gapc_le (l:List UInt8):∀ b,gapc b l≤l.length:=by
 induction l with
 | nil=>intro b;cases b <;> simp [gapc]
 | cons c r ih =>
  intro b;cases b
  ·have h1:=ih false
   have h2:=ih true;simp only [gapc,List.length_cons];split
   ·omega
   ·split <;> omega
  ·have h1:=ih false
   have h2:=ih true;simp only [gapc,List.length_cons];split <;> omega
theorem gap_le (l:List UInt8):gap l≤l.length:=gapc_le l false
def Fits (n:Nat) (r:Sc):Prop:=r.err=0→1≤r.width∧r.width≤n
theorem Fits.ite {n:Nat} {p:Prop} [Decidable p] {a b:Sc} (ha:p→Fits n a) (hb:¬ p→Fits n b):Fits n (if p then a else b):=by
 split
 ·exact ha ‹_›
 ·exact hb ‹_›
theorem Fits.bad (n:Nat) {e:Int} (h:e≠0):Fits n (bad e):=λh'=>absurd h' h
theorem qdn (l:List UInt8):Fits l.length (scan l):=by
 cases l with
 | nil=>exact Fits.bad _ (by decide)
 | cons c r =>
  have hw:=qdt isWord r;have hd:=qdt isDigit r;have ht:=qdt q2v r;rw [scan];refine Fits.ite (λ_=>?_) λ_=>Fits.ite (λ_=>?_) λ_=>Fits.ite (λ_=>?_) λ_=>Fits.ite (λh4=>?_) λ_=>Fits.ite (λ_=>?_) λ_=>Fits.bad _ (by decide)
  ·exact Fits.ite (λ_=>Fits.bad _ (by decide)) λ_ _=>⟨by simp only [];omega,by simp only [List.length_cons];omega⟩
  ·exact Fits.ite (λ_=>Fits.bad _ (by decide)) λ_ _=>⟨by simp only [];omega,by simp only [List.length_cons];omega⟩
  ·refine Fits.ite (λh4=>?_) λ_=>Fits.bad _ (by decide)
   have:span q2v r<r.length:=by
    rcases Nat.lt_or_ge (span q2v r) r.length with h5 | h5
    ·exact h5
    ·rw [List.drop_eq_nil_of_le h5] at h4;cases h4
   exact Fits.ite (λ_=>Fits.bad _ (by decide)) λ_ _=>⟨by simp only [];omega,by simp only [List.length_cons];omega⟩
  ·rw [Bool.and_eq_true] at h4
   cases r with
   | nil=>cases h4.2
   | cons d r=>exact λ_=>⟨by simp only [];omega,by simp only [List.length_cons];omega⟩
  ·exact λ_=>⟨by simp only [];omega,by simp only [List.length_cons];omega⟩
end Lx
namespace Lx
theorem qji {p:UInt8→Bool} {c:UInt8} {l:List UInt8} (h:p c=true):span p (c::l)=span p l+1:=by simp [span,h]
theorem span_stop' {p:UInt8→Bool} {c:UInt8} {l:List UInt8} (h:p c=false):span p (c::l)=0:=by simp [span,h]
inductive LexOk:Nat→List UInt8→List Tok→Prop
 | done (off:Nat) (l:List UInt8) (h:l.drop (gap l)=[]):LexOk off l []
 | tok (off:Nat) (l:List UInt8) (ts:List Tok) (h:l.drop (gap l)≠[]) (he:(scan (l.drop (gap l))).err=0)
   (hr:LexOk (off+gap l+(scan (l.drop (gap l))).width) (l.drop (gap l+(scan (l.drop (gap l))).width)) ts):LexOk off l ((scan (l.drop (gap l))).tok (off+gap l)::ts)
inductive LexErr:Nat→List UInt8→Int→Nat→Prop
 | here (off:Nat) (l:List UInt8) (h:l.drop (gap l)≠[]) (he:(scan (l.drop (gap l))).err≠0):LexErr off l (scan (l.drop (gap l))).err (off+gap l)
 | later (off:Nat) (l:List UInt8) (e:Int) (a:Nat) (h:l.drop (gap l)≠[]) (he:(scan (l.drop (gap l))).err=0)
   (hr:LexErr (off+gap l+(scan (l.drop (gap l))).width) (l.drop (gap l+(scan (l.drop (gap l))).width)) e a):LexErr off l e a
theorem LexOk.det {off:Nat} {l:List UInt8} {ts ts':List Tok} (h:LexOk off l ts) (h':LexOk off l ts'):ts=ts':=by
 induction h generalizing ts' with
 | done off l h=>cases h' with
  | done=>rfl
  | tok _ _ _ h2=>exact absurd h h2
 | tok off l ts h he hr ih=>cases h' with
  | done _ _ h2=>exact absurd h2 h
  | tok _ _ ts2 h2 he2 hr2=>rw [ih hr2]
theorem LexOk.not_err {off:Nat} {l:List UInt8} {ts:List Tok} (h:LexOk off l ts) {e:Int} {a:Nat} (h':LexErr off l e a):False:=by
 induction h with
 | done off l h=>cases h' with
  | here _ _ h2=>exact h2 h
  | later _ _ _ _ h2=>exact h2 h
 | tok off l ts h he hr ih=>cases h' with
  | here _ _ h2 he2=>exact he2 he
  | later _ _ _ _ h2 he2 hr2=>exact ih hr2
theorem LexErr.det {off:Nat} {l:List UInt8} {e e':Int} {a a':Nat} (h:LexErr off l e a) (h':LexErr off l e' a'):e=e'∧a=a':=by
 induction h with
 | here off l h he=>cases h' with
  | here=>exact ⟨rfl,rfl⟩
  | later _ _ _ _ h2 he2=>exact absurd he2 he
 | later off l e a h he hr ih=>cases h' with
  | here _ _ h2 he2=>exact absurd he he2
  | later _ _ _ _ h2 he2 hr2=>exact ih hr2
theorem LexErr.ne {off:Nat} {l:List UInt8} {e:Int} {a:Nat} (h:LexErr off l e a):e≠0:=by
 induction h with
 | here off l h he=>exact he
 | later off l e a h he hr ih=>exact ih
theorem qbe (l:List UInt8):gap (l.drop (gap l))=0:=by
 have H:∀ (l:List UInt8) (b:Bool),gap (l.drop (gapc b l))=0:=by
  intro l
  induction l with
  | nil=>intro b;cases b <;> rfl
  | cons c r ih =>
   intro b;cases b
   ·simp only [gapc]
    split
    ·exact ih false
    ·split
     ·exact ih true
     ·rename_i h1 h2
      have h1':q2c c=false:=by simpa using h1
      have h2':(c==35)=false:=by simpa using h2
      simp only [List.drop_zero,gap,gapc,h1',h2',Bool.false_eq_true,if_false]
   ·simp only [gapc]
    split
    ·exact ih false
    ·exact ih true
 exact H l false
theorem width_pos {l:List UInt8} (h:(scan l).err=0):1≤(scan l).width:=(qdn l h).1
theorem width_le {l:List UInt8} (h:(scan l).err=0):(scan l).width≤l.length:=(qdn l h).2
theorem lexAt_spec (f:Nat):∀ (out:List Tok) (off:Nat) (l:List UInt8),gap l=0→l.length<f→out.length+l.length≤5000 →
  (∃ ts,LexOk off l ts∧q5f f out off l=(out++ts,0,0))∨(∃ e a,LexErr off l e a∧q5f f out off l=([],e,(a:Int))):=by
 induction f with
 | zero=>intro out off l _ h;omega
 | succ f ih =>
  intro out off l hg hf ho;cases l with
  | nil=>exact .inl ⟨[],.done _ _ (by simp),by rw [lexAt_nil];simp⟩
  | cons c r =>
   have hd:(c::r).drop (gap (c::r))=c::r:=by rw [hg];rfl
   by_cases he:(scan (c::r)).err=0
   ·have hlen:(c::r).length=r.length+1:=rfl
    have hne:out.length≠5000:=by omega
    rw [lexAt_tok f out off c r he hne];have hw:=width_pos he;have hw2:=width_le he;have hg2:=gap_le ((c::r).drop (scan (c::r)).width);rw [List.length_drop] at hg2;have key:=ih (out++[(scan (c::r)).tok off]) (off+(scan (c::r)).width+gap ((c::r).drop (scan (c::r)).width)) (((c::r).drop (scan (c::r)).width).drop (gap ((c::r).drop (scan (c::r)).width)))
     (qbe _) (by rw [List.length_drop,List.length_drop];omega) (by rw [List.length_append,List.length_drop,List.length_drop];simp only [List.length_singleton];omega)
    have back:∀ (o:Nat) (m:List UInt8),(∀ ts,LexOk (o+gap m) (m.drop (gap m)) ts→LexOk o m ts)∧(∀ e a,LexErr (o+gap m) (m.drop (gap m)) e a→LexErr o m e a):=by
     intro o m;have hz:=qbe m;have hdd:(m.drop (gap m)).drop (gap (m.drop (gap m)))=m.drop (gap m):=by rw [hz];rfl
     refine ⟨λts h=>?_,λe a h=>?_⟩
     ·cases h with
      | done _ _ h=>exact .done _ _ (by rwa [hdd] at h)
      | tok _ _ ts h he hr =>
       rw [hdd] at h he;rw [hdd,hz,Nat.zero_add,Nat.add_zero,List.drop_drop] at hr;rw [hdd,hz,Nat.add_zero];exact .tok _ _ _ h he hr
     ·cases h with
      | here _ _ h he =>
       rw [hdd] at h he;rw [hdd,hz,Nat.add_zero];exact .here _ _ h he
      | later _ _ _ _ h he hr =>
       rw [hdd] at h he;rw [hdd,hz,Nat.zero_add,Nat.add_zero,List.drop_drop] at hr;exact .later _ _ _ _ h he hr
    have hb:=back (off+(scan (c::r)).width) ((c::r).drop (scan (c::r)).width);have hne0:(c::r).drop (gap (c::r))≠[]:=by rw [hd];simp
    have he0:(scan ((c::r).drop (gap (c::r)))).err=0:=by rw [hd];exact he
    rcases key with ⟨ts,h1,h2⟩ | ⟨e,a,h1,h2⟩
    ·left
     refine ⟨(scan (c::r)).tok off::ts,?_,by rw [h2];simp⟩
     have h3:=LexOk.tok off (c::r) ts hne0 he0 (by rw [hd,hg];simpa using hb.1 ts h1)
     rw [hd,hg] at h3;exact h3
    ·right
     exact ⟨e,a,LexErr.later off (c::r) e a hne0 he0 (by rw [hd,hg];simpa using hb.2 e a h1),h2⟩
   ·right
    rw [lexAt_err f out off c r he];refine ⟨_,_,?_,rfl⟩;have h3:=LexErr.here off (c::r) (by rw [hd];simp) (by rw [hd];exact he)
    rw [hd,hg] at h3;exact h3
theorem LexOk.back {o:Nat} {m:List UInt8} {ts:List Tok} (h:LexOk (o+gap m) (m.drop (gap m)) ts):LexOk o m ts:=by
 have hz:=qbe m;have hdd:(m.drop (gap m)).drop (gap (m.drop (gap m)))=m.drop (gap m):=by rw [hz];rfl
 cases h with
 | done _ _ h=>exact .done _ _ (by rwa [hdd] at h)
 | tok _ _ ts h he hr =>
  rw [hdd] at h he;rw [hdd,hz,Nat.zero_add,Nat.add_zero,List.drop_drop] at hr;rw [hdd,hz,Nat.add_zero];exact .tok _ _ _ h he hr
theorem LexErr.back {o:Nat} {m:List UInt8} {e:Int} {a:Nat} (h:LexErr (o+gap m) (m.drop (gap m)) e a):LexErr o m e a:=by
 have hz:=qbe m;have hdd:(m.drop (gap m)).drop (gap (m.drop (gap m)))=m.drop (gap m):=by rw [hz];rfl
 cases h with
 | here _ _ h he =>
  rw [hdd] at h he;rw [hdd,hz,Nat.add_zero];exact .here _ _ h he
 | later _ _ _ _ h he hr =>
  rw [hdd] at h he;rw [hdd,hz,Nat.zero_add,Nat.add_zero,List.drop_drop] at hr;exact .later _ _ _ _ h he hr
theorem lex_small (l:List UInt8) (h:l.length≤5000):(∃ ts,LexOk 0 l ts∧lex l=(ts,0,0))∨(∃ e a,LexErr 0 l e a∧lex l=([],e,(a:Int))):=by
 unfold lex;rw [if_neg (by omega)]
 have hg:=gap_le l;rcases lexAt_spec (l.length+1) [] (gap l) (l.drop (gap l)) (qbe l) (by rw [List.length_drop];omega) (by rw [List.length_drop];simp;omega) with ⟨ts,h1,h2⟩ | ⟨e,a,h1,h2⟩
 ·exact .inl ⟨ts,LexOk.back (by rw [Nat.zero_add];exact h1),by rw [h2];rfl⟩
 ·exact .inr ⟨e,a,LexErr.back (by rw [Nat.zero_add];exact h1),h2⟩
theorem lex_ok {l:List UInt8} (h:l.length≤5000) {ts:List Tok} (hl:LexOk 0 l ts):lex l=(ts,0,0):=by
 rcases lex_small l h with ⟨ts',h1,h2⟩ | ⟨e,a,h1,_⟩
 ·rw [h2,hl.det h1]
 ·exact (hl.not_err h1).elim
end Lx
namespace Lx
theorem letter_gap (c:UInt8) (r:List UInt8) (h:q1w c=true):gap (c::r)=0:=by
 have H:∀ c:Fin 256,q1w (UInt8.ofNat c.val)=true→q2c (UInt8.ofNat c.val)=false∧(UInt8.ofNat c.val==35)=false:=by decide +kernel
 have h1:=H ⟨c.toNat,UInt8.toNat_lt c⟩;simp only [UInt8.ofNat_toNat] at h1;obtain ⟨h1,h2⟩:=h1 h;simp only [gap,gapc,h1,h2,Bool.false_eq_true,if_false]
theorem span_whole (p:UInt8→Bool) (q:List UInt8) (hq:∀ b∈q,p b=true):span p q=q.length:=by
 induction q with
 | nil=>rfl
 | cons a q ih=>rw [qji (hq a (by simp)),ih (λb hb=>hq b (by simp [hb]))];rfl
theorem qjy (p:UInt8→Bool) (q:List UInt8) (h:span p q=q.length):∀ b∈q,p b=true:=by
 induction q with
 | nil=>simp
 | cons a q ih =>
  intro b hb;cases ha:p a
  ·rw [span_stop' ha] at h;simp at h
  ·rw [qji ha] at h
   rcases List.mem_cons.1 hb with rfl | hb
   ·exact ha
   ·exact ih (by simpa using h) b hb
theorem scan_kind1 (l:List UInt8) (he:(scan l).err=0) (hk:(scan l).kind=1):∃ c r,l=c::r∧q1w c=true∧span isWord r+1≤24∧(scan l).text=(c::r).take (span isWord r+1)∧(scan l).width=span isWord r+1:=by
 cases l with
 | nil=>cases he
 | cons c r =>
  cases h1:q1w c
  ·exfalso
   rw [scan,if_neg (by rw [h1];decide)] at he hk
   split at hk
   ·simp only [] at hk
    split at hk <;> cases hk
   ·split at hk
    ·simp only [] at hk
     split at hk
     ·split at hk <;> cases hk
     ·cases hk
    ·split at hk
     ·cases hk
     ·split at hk <;> cases hk
  ·rw [scan,if_pos h1] at he ⊢
   simp only [] at he ⊢;by_cases h24:24<span isWord r+1
   ·rw [if_pos h24] at he;cases he
   ·rw [if_neg h24] at he ⊢
    exact ⟨c,r,rfl,h1,by omega,rfl,rfl⟩
theorem lex_name (s:List UInt8) (hs:s.length≤5000) (hn:q02 s=true):lex s=([⟨1,0,0,s⟩],0,0):=by
 unfold q02 at hn;rw [Bool.and_eq_true,Bool.and_eq_true,Bool.and_eq_true,decide_eq_true_eq,decide_eq_true_eq,List.all_eq_true] at hn;obtain ⟨⟨h1,h2,h3⟩,h4⟩:=hn;cases s with
 | nil=>cases h4
 | cons c r =>
  simp only [] at h4;have hg:=letter_gap c r h4;have hsp:=span_whole isWord r (λb hb=>h1 b (by simp [hb]))
  have hsc:scan (c::r)=⟨0,1,0,c::r,(c::r).length⟩:=by
   rw [scan,if_pos h4];simp only [];rw [hsp,if_neg (by rw [List.length_cons] at h3;omega),List.length_cons,show r.length+1=(c::r).length from rfl,List.take_length]
  have hok:LexOk 0 (c::r) [⟨1,(0:Nat),0,c::r⟩]:=by
   have h:=LexOk.tok 0 (c::r) [] (by rw [hg];simp) (by rw [hg,List.drop_zero,hsc]) (by
    rw [hg,List.drop_zero,hsc];exact LexOk.done _ _ (by simp))
   rw [hg,List.drop_zero,hsc] at h;exact h
  exact lex_ok hs hok
theorem name_lex (s:List UInt8) (hs:s.length≤5000) {t:Tok} {e a:Int} (h:lex s=([t],e,a)) (he:e=0) (hk:t.kind=1) (ht:t.text=s):q02 s=true:=by
 rcases lex_small s hs with ⟨ts,h1,h2⟩ | ⟨e',a',h1,h2⟩
 ·rw [h2] at h
  simp only [Prod.mk.injEq] at h;obtain ⟨rfl,_,_⟩:=h;cases h1 with
  | tok _ _ _ hne he' hr =>
   have hk':(scan (s.drop (gap s))).kind=1:=hk;have ht':(scan (s.drop (gap s))).text=s:=ht;obtain ⟨c,r,hd,hl,h24,h5,h6⟩:=scan_kind1 _ he' hk';rw [h5] at ht';have hlen:=congrArg List.length ht';rw [List.length_take] at hlen;have hdl:=congrArg List.length hd;rw [List.length_drop] at hdl;have hg:gap s=0:=by
    have:=gap_le s
    have:(c::r).length≤s.length:=by omega
    omega
   rw [hg,List.drop_zero] at hd;have hsl:=qdt isWord r;have hsp:span isWord r=r.length:=by
    rw [hd,List.length_cons] at hlen;omega
   have hall:=qjy isWord r hsp;have hlw:isWord c=true:=by unfold isWord;rw [hl];rfl
   rw [hd];unfold q02;rw [Bool.and_eq_true,Bool.and_eq_true,Bool.and_eq_true,decide_eq_true_eq,decide_eq_true_eq,List.all_eq_true];refine ⟨⟨?_,by simp,?_⟩,hl⟩
   ·intro b hb
    rcases List.mem_cons.1 hb with rfl | hb
    ·exact hlw
    ·exact hall b hb
   ·rw [List.length_cons];omega
 ·rw [h2] at h
  simp at h
end Lx
open Go.RowKit R Geo.Zn
theorem mixed:Tryz.prog.follows .mixedOrders=true:=by kernel_rfl
abbrev kPt:Kds:=.cons (.int .i64) (.one (.int .i64))
abbrev ckPt:CK:=.agg kPt
abbrev q39:CK:=.one (.sl kPt)
abbrev q10:CK:=.one .bool
abbrev q0s:CK:=.one (.int .i64)
abbrev ckStr1:CK:=.one .str
abbrev kSeg:Kds:=.cons (.int .i64) (.cons (.int .i64) (.cons (.int .i64) (.cons (.int .i64) kPt)))
abbrev ckSeg:CK:=.agg kSeg
abbrev SegP:Type:=Int×Int×Int×Int×Int×Int
def segI (a b:P2):SegP:=(a.1,a.2,b.1,b.2,b.1-a.1,b.2-a.2)
def q11 (s:SegP) (p:P2):Int:=sgn (s.2.2.2.2.1*(p.2-s.2.1)-s.2.2.2.2.2*(p.1-s.1))
def q3f (s:SegP):Prop:=onB (s.1,s.2.1)=true∧(-32767≤s.2.2.2.2.1∧s.2.2.2.2.1≤32767)∧(-32767≤s.2.2.2.2.2∧s.2.2.2.2.2≤32767)
theorem side_seg (a b p:P2):q11 (segI a b) p=sgn (q1p a b p):=rfl
theorem seg_ok {a b:P2} (ha:onB a=true) (hb:onB b=true):q3f (segI a b):=by
 have h1:=Zl.q1i ha;have h2:=Zl.q1i hb;refine ⟨ha,?_,?_⟩ <;> (unfold segI;dsimp only;omega)
def cOn:Con:=.of 24 [ckPt] [q10] (λ_=>True) onB
def cOnL:Con:=.of 113 [q39] [q10] (λl=>List.length l≤1000) (λl=>List.all l onB)
def anOnL (l:List P2):List (Nat×Ann) :=
 [ann 0 Nat [0,5,6] (λk=>[(7,R.int .i64 k)]) (λk=>k≤l.length∧(l.take k).all onB=true) (λk=>l.length-k)]
def cFrom:Con:=.of 117 [ckPt,ckPt] [ckPt] (λp=>onB p.1=true∧onB p.2=true) (λp=>(p.2.1-p.1.1,p.2.2-p.1.2))
def VecOk (p:P2×P2):Prop:=(-32767≤p.1.1∧p.1.1≤32767)∧(-32767≤p.1.2∧p.1.2≤32767)∧(-32767≤p.2.1∧p.2.1≤32767)∧(-32767≤p.2.2∧p.2.2≤32767)
def cAlong:Con:=.of 118 [ckPt,ckPt] [q0s] VecOk (λp=>p.1.1*p.2.1+p.1.2*p.2.2)
def cArea:Con:=.of 136 [ckPt,ckPt] [q0s] VecOk (λp=>p.1.1*p.2.2-p.1.2*p.2.1)
def cOpen:Con:=.of 114 [ckPt,ckPt] [ckSeg] (λp=>onB p.1=true∧onB p.2=true) (λp=>segI p.1 p.2)
def cSide:Con:=.of 115 [ckSeg,ckPt] [q0s] (λp=>q3f p.1∧onB p.2=true) (λp=>q11 p.1 p.2)
def cTurn:Con:=.of 81 [ckPt,ckPt,ckPt] [q0s] (λ_=>True) (λp=>q8z p.1 p.2.1 p.2.2)
def cDist:Con:=.of 90 [ckPt,ckPt] [q0s] (λ_=>True) (λp=>q0m p.1 p.2)
def cBet:Con:=.of 87 [ckPt,ckPt,ckPt] [q10] (λ_=>True) (λp=>betI p.1 p.2.1 p.2.2)
def cCross:Con:=.of 82 [ckPt,ckPt,ckPt,ckPt] [q0s] (λp=>onB p.1=true∧onB p.2.1=true∧onB p.2.2.1=true∧onB p.2.2.2=true) (λp=>q1b p.1 p.2.1 p.2.2.1 p.2.2.2)
def fSide:FCon:={ f:=115,args:=[ckSeg,ckPt],fa:=.no,res:=[q0s],pre:=λp _=>q3f p.1∧onB p.2=true,F:=λp _=>q11 p.1 p.2 }
namespace R
def Get.boxOf (ks:Kds) (b:Nat) (st:St):ks.Pay:=match st.box b with
 | some cs=>match q0r ks cs with
  | some p=>p
  | none=>ks.dflt
 | none=>ks.dflt
def Get.bndOf (ks:Kds) (t:Nat) (st:St):ks.Pay:=match st.get t with
 | .c (.one (.bnd _ (.agg ks') p))=>match ks'.deq ks with
  | some ⟨h⟩=>h▸p
  | none=>ks.dflt
 | _=>ks.dflt
def Get.boxB (b:Nat) (st:St):Bool:=match st.box b with
 | some [.val .bool q]=>q
 | _=>false
def annX (l:Nat) (ι:Type) (at_:St→ι→St) (inv:St→ι→Prop) (mu:St→ι→Nat):Nat×Ann:=(l,{ ι:=ι,at_:=at_,inv:=inv,mu:=mu })
end R
def savK:Nat→List (Nat×List Nat)→List Nat
 | _,[]=>[]
 | off,(n,l)::r=>l.map (·+off)++savK (off+n) r
def anCrI (a b c d:P2):Nat→List (Nat×Ann):=λf=>bif Nat.beq f 116 then
 [behindAt 1 Unit (λst _=>st.hd { live:=[],sav:=savK 0 [(61,[4,5,9,10,54])],box:=[4,5,6,7,9,10] } [(6,R.bool (bif st.off.beq 54000 then q38 a b c d else q38 c d a b))] [] [] [] none) (λ_ _=>True)] else []
noncomputable def kitCr:Kit:={ cons:=[cOnL,cOpen,cBet],fcs:=[fSide],inls:=[(116,Tryz.f116)] }
abbrev kTok:Kds:=.cons (.int .i64) (.cons (.int .i64) (.cons (.int .i64) (.one .str)))
def tokP (t:Lx.Tok):Int×Int×Int×List UInt8:=(t.kind,t.pos,t.n,t.text)
def lexP (s:List UInt8):List (Int×Int×Int×List UInt8)×Int×Int:=((Lx.lex s).1.map tokP,(Lx.lex s).2.1,(Lx.lex s).2.2)
def cLex:Con:=.of 54 [.one .str] [.one (.sl kTok),.one (.int .i64),.one (.int .i64)] (λs=>List.length s≤1000) lexP
def cIsName:Con:=.of 33 [ckStr1] [q10] (λs=>List.length s≤1000) Lx.q02
set_option maxRecDepth 100000 in
theorem on_vc (x y:Int) :
    True∧bif decide ((0:Int)≤min x y) then True∧decide (max x y≤(32767:Int))=onB (x,y) else false=onB (x,y)
     := by
  refine ⟨trivial,bifP (λhb=>⟨trivial,?_⟩) λhb=>?_⟩
  · show _=(decide (0≤min x y)&&_)
    rw [hb,Bool.true_and]
  · show _=(decide (0≤min x y)&&_)
    rw [hb,Bool.false_and]
set_option maxRecDepth 100000 in
theorem onL_vc (l:List (Int×Int)) (h:cOnL.pre l) :
    (∃ (p':Nat),(p'≤l.length∧(List.take p' l).all onB=true)∧((0:Int)=(p':Int)∧l=l∧l=l∧(l.length:Int)=(l.length:Int)∧True)∧True∧True∧True∧True∧True
    ∧ True∧True∧True∧True)∧∀ (p:Nat),p≤l.length∧(List.take p l).all onB=true→bif decide ((p:Int)<(l.length:Int)) then ((0:Int)≤(p:Int)∧(p:Int)<(↑l.length
    : Int))∧True∧bif !onB (l.getD (p:Int).toNat ((0:Int),(0:Int))) then false=l.all onB else ((-9223372036854775808:Int)≤(p:Int)+(1:Int)∧(p:Int)+(1:Int) ≤
    (9223372036854775807:Int))∧∃ (p':Nat),(p'≤l.length∧(List.take p' l).all onB=true)∧l.length-p'<l.length-p∧((p:Int)+(1:Int)=(p':Int)∧l=l∧l=l ∧
    (l.length:Int)=(l.length:Int)∧True)∧True∧True∧True∧True∧True∧True∧True∧True∧True else true=l.all onB
     := by
  simp only [true_and,and_true];have hl:l.length≤1000:=h;refine ⟨⟨0,⟨Nat.zero_le _,rfl⟩,rfl⟩,?_⟩;rintro p ⟨hp,ha⟩;have hti:((p:Int).toNat)=p:=rfl;simp only [hti];refine bifP (λhb=>?_) λhb=>?_
  · have hlt:p<l.length:=by have:=of_decide_eq_true hb;omega
    refine ⟨⟨by omega,by omega⟩,bifP (λhb=>?_) λhb=>⟨⟨by omega,by omega⟩,p+1,⟨by omega,?_⟩,by omega,rfl⟩⟩
    · rw [Zl.all_no l ((0:Int),(0:Int)) _ p hlt (by simpa using hb)]
    · rw [Zl.qds l ((0:Int),(0:Int)) _ p hlt,ha,Bool.true_and];simpa using hb
  · have hle:l.length≤p:=by have:=of_decide_eq_false hb;omega
    rw [Zl.all_end l _ p hle] at ha;exact ha.symm
set_option maxRecDepth 100000 in
theorem from_vc (a b c d:Int) (h:cFrom.pre ((a,b),(c,d))) :
    ((-9223372036854775808:Int)≤c-a∧c-a≤(9223372036854775807:Int))∧((-9223372036854775808:Int)≤d-b∧d-b≤(9223372036854775807:Int))∧(c-a,d-b)=(c-a,d-b)
     := by
  have h:onB (a,b)=true∧onB (c,d)=true:=h;obtain ⟨h1,h2⟩:=h;have h1:=Zl.q1i h1;have h2:=Zl.q1i h2;dsimp only at h1 h2;exact ⟨⟨by omega,by omega⟩,⟨by omega,by omega⟩,rfl⟩
set_option maxRecDepth 100000 in
theorem along_vc (a b c d:Int) (h:cAlong.pre ((a,b),(c,d))) :
    ((-9223372036854775808:Int)≤a*c∧a*c≤(9223372036854775807:Int))∧((-9223372036854775808:Int)≤b*d∧b*d≤(9223372036854775807:Int))∧((-9223372036854775808:Int) ≤
    a*c+b*d∧a*c+b*d≤(9223372036854775807:Int))∧a*c+b*d=a*c+b*d
     := by
  have h:VecOk ((a,b),(c,d)):=h;obtain ⟨q1,q2,q3,q4⟩:=h;dsimp only at q1 q2 q3 q4;have h1:=Zl.q3k (a:=a) (b:=c) (by omega) (by omega) (by omega) (by omega)
  have h2:=Zl.q3k (a:=b) (b:=d) (by omega) (by omega) (by omega) (by omega)
  exact ⟨⟨by omega,by omega⟩,⟨by omega,by omega⟩,⟨by omega,by omega⟩,rfl⟩
set_option maxRecDepth 100000 in
theorem area_vc (a b c d:Int) (h:cArea.pre ((a,b),(c,d))) :
    ((-9223372036854775808:Int)≤a*d∧a*d≤(9223372036854775807:Int))∧((-9223372036854775808:Int)≤b*c∧b*c≤(9223372036854775807:Int))∧((-9223372036854775808:Int) ≤
    a*d-b*c∧a*d-b*c≤(9223372036854775807:Int))∧a*d-b*c=a*d-b*c
     := by
  have h:VecOk ((a,b),(c,d)):=h;obtain ⟨q1,q2,q3,q4⟩:=h;dsimp only at q1 q2 q3 q4;have h1:=Zl.q3k (a:=a) (b:=d) (by omega) (by omega) (by omega) (by omega)
  have h2:=Zl.q3k (a:=b) (b:=c) (by omega) (by omega) (by omega) (by omega)
  exact ⟨⟨by omega,by omega⟩,⟨by omega,by omega⟩,⟨by omega,by omega⟩,rfl⟩
set_option maxRecDepth 100000 in
theorem open_vc (a b c d:Int) (h:cOpen.pre ((a,b),(c,d))) :
    (onB (a,b)=true∧onB (c,d)=true)∧(a,b,c,d,c-a,d-b)=segI (a,b) (c,d)
     := by
  exact ⟨h,rfl⟩
set_option maxRecDepth 100000 in
theorem side_vc (a b c d e f x y:Int) (h:cSide.pre ((a,b,c,d,e,f),(x,y))) :
    (onB (a,b)=true∧onB (x,y)=true)∧VecOk ((e,f),x-a,y-b)∧bif decide ((0:Int)<e*(y-b)-f*(x-a)) then (1:Int)=q11 (a,b,c,d,e,f) (x,y) else bif decide
    (e*(y-b)-f*(x-a)<(0:Int)) then (-1:Int)=q11 (a,b,c,d,e,f) (x,y) else (0:Int)=q11 (a,b,c,d,e,f) (x,y)
     := by
  have h:q3f (a,b,c,d,e,f)∧onB (x,y)=true:=h;obtain ⟨⟨h1,h2,h3⟩,h4⟩:=h;have g1:=Zl.q1i h1;have g2:=Zl.q1i h4;dsimp only at g1 g2 h2 h3;refine ⟨⟨h1,h4⟩,⟨?_,?_,?_,?_⟩,?_⟩
  · exact h2
  · exact h3
  · dsimp only;omega
  · dsimp only;omega
  · show bif decide (0<e*(y-b)-f*(x-a)) then (1:Int)=sgn (e*(y-b)-f*(x-a)) else bif decide (e*(y-b)-f*(x-a)<0) then (-1:Int)=sgn (e*(y-b)-f*(x-a)) else (0:Int)=sgn (e*(y-b)-f*(x-a))
    generalize e*(y-b)-f*(x-a)=n;unfold sgn;refine bifP (λhb=>?_) λhb=>bifP (λhb2=>?_) λhb2=>?_
    · rw [if_pos (of_decide_eq_true hb)]
    · rw [if_neg (of_decide_eq_false hb),if_pos (of_decide_eq_true hb2)]
    · rw [if_neg (of_decide_eq_false hb),if_neg (of_decide_eq_false hb2)]
set_option maxRecDepth 100000 in
theorem turn_vc (a b c d x y:Int) :
    [(a,b),(c,d),(x,y)].length≤(1000:Nat)∧bif ![(a,b),(c,d),(x,y)].all onB then (0:Int)=q8z (a,b) (c,d) (x,y) else (onB (a,b)=true∧onB (c,d)=true)∧(q3f (a,
    b,c,d,c-a,d-b)∧onB (x,y)=true)∧q11 (a,b,c,d,c-a,d-b) (x,y)=q8z (a,b) (c,d) (x,y)
     := by
  have e:[(a,b),(c,d),(x,y)].all onB=(onB (a,b)&&(onB (c,d)&&onB (x,y))):=by simp only [List.all_cons,List.all_nil,Bool.and_true]
  rw [e];unfold q8z;refine ⟨by simp,bifP (λhb=>?_) λhb=>?_⟩
  · rw [if_neg (by rw [Bool.not_eq_true'] at hb;rw [hb];decide)]
  · have hb:(onB (a,b)&&(onB (c,d)&&onB (x,y)))=true:=by simpa using hb
    rw [if_pos hb];simp only [Bool.and_eq_true] at hb;exact ⟨⟨hb.1,hb.2.1⟩,⟨seg_ok hb.1 hb.2.1,hb.2.2⟩,side_seg (a,b) (c,d) (x,y)⟩
set_option maxRecDepth 100000 in
theorem dist_vc (a b c d:Int) :
    [(a,b),(c,d)].length≤(1000:Nat)∧bif ![(a,b),(c,d)].all onB then (0:Int)=q0m (a,b) (c,d) else (onB (a,b)=true∧onB (c,d)=true)∧VecOk ((c-a,d-b),c-a,d -
    b)∧(c-a)*(c-a)+(d-b)*(d-b)=q0m (a,b) (c,d)
     := by
  have e:[(a,b),(c,d)].all onB=(onB (a,b)&&onB (c,d)):=by rw [List.all_cons,List.all_cons,List.all_nil,Bool.and_true]
  rw [e];unfold q0m;refine ⟨by simp,bifP (λhb=>?_) λhb=>?_⟩
  · rw [if_neg (by rw [Bool.not_eq_true'] at hb;rw [hb];decide)]
  · have hb:(onB (a,b)&&onB (c,d))=true:=by simpa using hb
    rw [if_pos hb];rw [Bool.and_eq_true] at hb;have h1:=Zl.q1i hb.1;have h2:=Zl.q1i hb.2;dsimp only at h1 h2;refine ⟨hb,⟨?_,?_,?_,?_⟩,rfl⟩ <;> (dsimp only;omega)
set_option maxRecDepth 100000 in
theorem name_vc (s:List UInt8) (h:cIsName.pre s) :
    s.length≤(1000:Nat)∧bif (Lx.lex s).2.1==(0:Int) then bif (↑(List.map tokP (Lx.lex s).1).length:Int)==(1:Int) then ((0:Int)≤(0:Int)∧(0:Int)<(↑(List.map tokP
    (Lx.lex s).1).length:Int))∧bif ((List.map tokP (Lx.lex s).1).getD (Int.toNat (0:Int)) ((0:Int),(0:Int),(0:Int),[])).1==(1:Int) then ((0:Int)≤(0:Int)∧(0:Int) <
    (↑(List.map tokP (Lx.lex s).1).length:Int))∧(((List.map tokP (Lx.lex s).1).getD (Int.toNat (0:Int)) ((0:Int),(0:Int),(0:Int),[])).2.2.2==s)=Lx.q02 s else false =
    Lx.q02 s else false=Lx.q02 s else false=Lx.q02 s
     := by
  have h1000:s.length≤1000:=h;have hyes:=Lx.lex_name s (by omega)
  have hno:∀ (t:Lx.Tok) (e a:Int),Lx.lex s=([t],e,a)→e=0→t.kind=1→t.text=s→Lx.q02 s=true:=λt e a=>Lx.name_lex s (by omega)
  have nam:(Lx.q02 s=true→False)→false=Lx.q02 s:=λh=>by
    cases hh:Lx.q02 s
    · rfl
    · exact (h hh).elim
  generalize Lx.lex s=L at *
  obtain ⟨l,er,a⟩:=L;dsimp only at *
  refine ⟨by omega,bifP (λhe=>bifP (λhl=>?_) λhl=>nam λhh=>?_) λhe=>nam λhh=>?_⟩
  · obtain ⟨t,rfl⟩:∃ t,l=[t]:=by
      have:((l.map tokP).length:Int)=1:=beq_iff_eq.1 hl
      rw [List.length_map] at this;exact List.length_eq_one_iff.1 (by omega)
    have he:er=0:=beq_iff_eq.1 he;refine ⟨⟨by omega,by show (0:Int)<1;omega⟩,bifP (λhk=>⟨⟨by omega,by show (0:Int)<1;omega⟩,?_⟩) λhk=>nam λhh=>?_⟩
    · have hk:t.kind=1:=beq_iff_eq.1 hk
      show (t.text==s)=Lx.q02 s;by_cases ht:t.text=s
      · rw [hno t er a rfl he hk ht];exact beq_iff_eq.2 ht
      · rw [beq_eq_false_iff_ne.2 ht]
        refine nam λhh=>ht ?_
        have:=hyes hh
        simp at this;rw [this.1]
    · have:=hyes hh
      simp at this;exact (beq_eq_false_iff_ne.1 hk) (by show t.kind=1;rw [this.1])
  · have:=hyes hh
    simp at this;rw [this.1] at hl;exact (beq_eq_false_iff_ne.1 hl) rfl
  · have:=hyes hh
    simp at this;exact (beq_eq_false_iff_ne.1 he) this.2.1
set_option maxRecDepth 100000 in
theorem bet_vc (x y a b c d:Int) :
    [(x,y),(a,b),(c,d)].length≤(1000:Nat)∧bif ![(x,y),(a,b),(c,d)].all onB then false=betI (x,y) (a,b) (c,d) else bif x==a&&(y==b&&true) then true=betI (x,y) (a,
    b) (c,d) else bif x==c&&(y==d&&true) then true=betI (x,y) (a,b) (c,d) else (onB (a,b)=true∧onB (c,d)=true)∧(q3f (a,b,c,d,c-a,d-b)∧onB (x,y)=true) ∧
    bif q11 (a,b,c,d,c-a,d-b) (x,y)==(0:Int) then (onB (x,y)=true∧onB (a,b)=true)∧(onB (x,y)=true∧onB (c,d)=true)∧VecOk ((a-x,b-y),c-x,d-y) ∧
    decide ((a-x)*(c-x)+(b-y)*(d-y)<(0:Int))=betI (x,y) (a,b) (c,d) else false=betI (x,y) (a,b) (c,d)
     := by
  have e:[(x,y),(a,b),(c,d)].all onB=(onB (x,y)&&(onB (a,b)&&onB (c,d))):=by simp only [List.all_cons,List.all_nil,Bool.and_true]
  simp only [e,Bool.and_true];refine ⟨by simp,bifP (λhb=>?_) λhb=>?_⟩
  · unfold betI
    rw [show (onB (x,y)&&(onB (a,b)&&onB (c,d)))=false from by rw [Bool.not_eq_true'] at hb;exact hb,Bool.false_and]
  · have hb:(onB (x,y)&&(onB (a,b)&&onB (c,d)))=true:=by simpa using hb
    have hB:betI (x,y) (a,b) (c,d)=(((x,y)==(a,b)||(x,y)==(c,d))||(q1p (a,b) (c,d) (x,y)==0&&decide ((a-x)*(c-x)+(b-y)*(d-y)<0))):=by
      unfold betI;rw [hb,Bool.true_and]
    have e1:((x,y)==(a,b))=(x==a&&y==b):=rfl;have e2:((x,y)==(c,d))=(x==c&&y==d):=rfl;rw [hB,e1,e2];simp only [Bool.and_eq_true] at hb;refine bifP (λh1=>by rw [h1];rfl) λh1=>bifP (λh2=>by rw [h1,h2];rfl) λh2=>⟨⟨hb.2.1,hb.2.2⟩,⟨seg_ok hb.2.1 hb.2.2,hb.1⟩,?_⟩
    rw [h1,h2,Bool.false_or,Bool.false_or];have hs:(q11 (a,b,c,d,c-a,d-b) (x,y)==0)=(q1p (a,b) (c,d) (x,y)==0):=by
      rw [show q11 (a,b,c,d,c-a,d-b) (x,y)=sgn (q1p (a,b) (c,d) (x,y)) from rfl];unfold sgn;rw [Bool.eq_iff_iff,beq_iff_eq,beq_iff_eq];constructor
      · intro h;split at h <;> (try split at h) <;> omega
      · intro h;rw [h];rfl
    rw [hs];have g1:=Zl.q1i hb.1;have g2:=Zl.q1i hb.2.1;have g3:=Zl.q1i hb.2.2;dsimp only at g1 g2 g3;refine bifP (λh3=>⟨⟨hb.1,hb.2.1⟩,⟨hb.1,hb.2.2⟩,⟨?_,?_,?_,?_⟩,by rw [h3,Bool.true_and]⟩) λh3=>by rw [h3,Bool.false_and]
    all_goals (dsimp only;omega)
abbrev q4n (a:Int) (b:Int) (c:Int) (d:Int) (e:Int) (f:Int) (x:Int) (y:Int):Prop :=
 ((e=e∧f=f∧x=x∧y=y∧x-e=x-e∧y-f=y-f∧True)∧(a=a∧b=b∧c=c∧d=d∧c-a=c-a∧d-b=d-b∧True)∧(x=x∧y=y∧True)∧(e=e∧f=f∧True)∧(c=c∧d=d∧True)∧(a=a∧b=b∧True)∧True)
abbrev q6j (a:Int) (b:Int) (c:Int) (d:Int) (e:Int) (f:Int) (x:Int) (y:Int):Prop :=
 ((a=a∧b=b∧True)∧(c=c∧d=d∧True)∧(e=e∧f=f∧True)∧(x=x∧y=y∧True)∧(a=a∧b=b∧c=c∧d=d∧c-a=c-a∧d-b=d-b∧True)∧(e=e∧f=f∧x=x∧y=y∧x-e=x-e∧y-f=y-f∧True)∧True)
abbrev qef (a:Int) (b:Int) (c:Int) (d:Int) (e:Int) (f:Int) (x:Int) (y:Int):Prop :=
 ((q3f (e,f,x,y,x-e,y-f)∧onB (a,b)=true)∧(q3f (e,f,x,y,x-e,y-f)∧onB (c,d)=true)∧(zFit (q11 (e,f,x,y,x-e,y-f) (a,b)*q11 (e,f,x,y,x-e,y-f) (c,d)))∧∃ (p':Unit),True∧(decide (q11 (e,f,x,y,x-e,y-f) (a,b)*q11 (e,f,x,y,x-e,y-f) (c,d)<(0:Int))=q38 (e,f) (x,y) (a,b) (c,d)∧True)∧(q6j a b c d e f x y)∧True∧True∧True∧(True∧True∧True∧True∧true=true∧True)∧True∧True∧True∧True)
abbrev qe5 (a:Int) (b:Int) (c:Int) (d:Int) (e:Int) (f:Int) (x:Int) (y:Int):Prop :=
 ((q3f (a,b,c,d,c-a,d-b)∧onB (e,f)=true)∧(q3f (a,b,c,d,c-a,d-b)∧onB (x,y)=true)∧(zFit (q11 (a,b,c,d,c-a,d-b) (e,f)*q11 (a,b,c,d,c-a,d-b) (x,y)))∧∃ (p':Unit),True∧(decide (q11 (a,b,c,d,c-a,d-b) (e,f)*q11 (a,b,c,d,c-a,d-b) (x,y)<(0:Int))=q38 (a,b) (c,d) (e,f) (x,y)∧True)∧(q6j a b c d e f x y)∧True∧True∧True∧(True∧True∧True∧True∧True∧True)∧True∧True∧True∧True)
abbrev q4m:Prop :=
 (True∧True∧True∧True∧(0:Int)=0∧True∧True∧True)
abbrev qbc (a:Int) (b:Int) (c:Int) (d:Int) (e:Int) (f:Int) (x:Int) (y:Int):Prop :=
 ((onB (e,f)=true∧onB (x,y)=true)∧q4m∧(q4n a b c d e f x y)∧True∧True∧True∧True∧True∧True∧True∧True)
set_option maxRecDepth 100000 in
theorem cross_vc (a b c d e f x y:Int) (h:cCross.pre ((a,b),(c,d),(e,f),(x,y))) :
  (((onB (a,b)=true∧onB (c,d)=true)∧((onB (e,f)=true∧onB (x,y)=true)∧(q4m∧(q4n a b c d e f x y)∧True∧True∧True∧True∧True∧True∧True∧True)∧q4m∧(q4n a b c d e f x y)∧True∧True∧True∧True∧True∧True∧True∧True)∧((qbc a b c d e f x y)∧(onB (e,f)=true∧onB (x,y)=true)∧q4m∧(q4n a b c d e f x y)∧True∧True∧True∧True∧True∧True∧True∧True)∧(qbc a b c d e f x y)∧(onB (e,f)=true∧onB (x,y)=true)∧q4m∧(q4n a b c d e f x y)∧True∧True∧True∧True∧True∧True∧True∧True)∧(((onB (a,b)=true∧onB (c,d)=true)∧(qbc a b c d e f x y)∧(onB (e,f)=true∧onB (x,y)=true)∧q4m∧(q4n a b c d e f x y)∧True∧True∧True∧True∧True∧True∧True∧True)∧(onB (a,b)=true∧onB (c,d)=true)∧(onB (e,f)=true∧onB (x,y)=true)∧q4m∧(q4n a b c d e f x y)∧True∧True∧True∧True∧True∧True∧True∧True)∧((onB (a,b)=true∧onB (c,d)=true)∧(qbc a b c d e f x y)∧(onB (e,f)=true∧onB (x,y)=true)∧q4m∧(q4n a b c d e f x y)∧True∧True∧True∧True∧True∧True∧True∧True)∧(onB (a,b)=true∧onB (c,d)=true)∧(onB (e,f)=true∧onB (x,y)=true)∧q4m∧(q4n a b c d e f x y)∧True∧True∧True∧True∧True∧True∧True∧True)∧[(a,b),(c,d),(e,f),(x,y)].length≤(1000:Nat)∧bif ![(a,b),(c,d),(e,f),(x,y)].all onB then (0:Int)=q1b (a,b) (c,d) (e,f) (x,y) else True∧bif betI (a,b) (e,f) (x,y) then (1:Int)=q1b (a,b) (c,d) (e,f) (x,y) else True∧bif betI (c,d) (e,f) (x,y) then (1:Int)=q1b (a,b) (c,d) (e,f) (x,y) else True∧bif betI (e,f) (a,b) (c,d) then (1:Int)=q1b (a,b) (c,d) (e,f) (x,y) else True∧bif betI (x,y) (a,b) (c,d) then (1:Int)=q1b (a,b) (c,d) (e,f) (x,y) else ((qe5 a b c d e f x y)∧((qe5 a b c d e f x y)∧(q3f (a,b,c,d,c-a,d-b)∧onB (e,f)=true)∧(q3f (a,b,c,d,c-a,d-b)∧onB (x,y)=true)∧(zFit (q11 (a,b,c,d,c-a,d-b) (e,f)*q11 (a,b,c,d,c-a,d-b) (x,y)))∧∃ (p':Unit),True∧(decide (q11 (a,b,c,d,c-a,d-b) (e,f)*q11 (a,b,c,d,c-a,d-b) (x,y)<(0:Int))=q38 (a,b) (c,d) (e,f) (x,y)∧True)∧(q6j a b c d e f x y)∧True∧True∧True∧(True∧True∧True∧True∧True∧True)∧True∧True∧True∧True)∧(qe5 a b c d e f x y)∧(q3f (a,b,c,d,c-a,d-b)∧onB (e,f)=true)∧(q3f (a,b,c,d,c-a,d-b)∧onB (x,y)=true)∧(zFit (q11 (a,b,c,d,c-a,d-b) (e,f)*q11 (a,b,c,d,c-a,d-b) (x,y)))∧∃ (p':Unit),True∧(decide (q11 (a,b,c,d,c-a,d-b) (e,f)*q11 (a,b,c,d,c-a,d-b) (x,y)<(0:Int))=q38 (a,b) (c,d) (e,f) (x,y)∧True)∧(q6j a b c d e f x y)∧True∧True∧True∧(True∧True∧True∧True∧True∧True)∧True∧True∧True∧True)∧∀ (p:Unit),True→bif q38 (a,b) (c,d) (e,f) (x,y) then ((qef a b c d e f x y)∧((qef a b c d e f x y)∧(q3f (e,f,x,y,x-e,y-f)∧onB (a,b)=true)∧(q3f (e,f,x,y,x-e,y-f)∧onB (c,d)=true)∧(zFit (q11 (e,f,x,y,x-e,y-f) (a,b)*q11 (e,f,x,y,x-e,y-f) (c,d)))∧∃ (p':Unit),True∧(decide (q11 (e,f,x,y,x-e,y-f) (a,b)*q11 (e,f,x,y,x-e,y-f) (c,d)<(0:Int))=q38 (e,f) (x,y) (a,b) (c,d)∧True)∧(q6j a b c d e f x y)∧True∧True∧True∧(True∧True∧True∧True∧true=true∧True)∧True∧True∧True∧True)∧(qef a b c d e f x y)∧(q3f (e,f,x,y,x-e,y-f)∧onB (a,b)=true)∧(q3f (e,f,x,y,x-e,y-f)∧onB (c,d)=true)∧(zFit (q11 (e,f,x,y,x-e,y-f) (a,b)*q11 (e,f,x,y,x-e,y-f) (c,d)))∧∃ (p':Unit),True∧(decide (q11 (e,f,x,y,x-e,y-f) (a,b)*q11 (e,f,x,y,x-e,y-f) (c,d)<(0:Int))=q38 (e,f) (x,y) (a,b) (c,d)∧True)∧(q6j a b c d e f x y)∧True∧True∧True∧(True∧True∧True∧True∧true=true∧True)∧True∧True∧True∧True)∧∀ (p:Unit),True→bif q38 (e,f) (x,y) (a,b) (c,d) then (2:Int)=q1b (a,b) (c,d) (e,f) (x,y) else (0:Int)=q1b (a,b) (c,d) (e,f) (x,y) else (0:Int)=q1b (a,b) (c,d) (e,f) (x,y):=by
 delta q4n q6j qef qe5 q4m qbc zFit
 have h:onB (a,b)=true∧onB (c,d)=true∧onB (e,f)=true∧onB (x,y)=true:=h;obtain ⟨h1,h2,h3,h4⟩:=h;have s1:=seg_ok h1 h2;have s2:=seg_ok h3 h4;have e0:[(a,b),(c,d),(e,f),(x,y)].all onB=true:=by simp only [List.all_cons,List.all_nil,Bool.and_true,h1,h2,h3,h4]
 have hs:∀ (s t:Int),(-9223372036854775808:Int)≤sgn s*sgn t∧sgn s*sgn t≤(9223372036854775807:Int):=λs t=>by
  unfold sgn;split <;> (try split) <;> (try split) <;> (try split) <;> omega
 have f1:∀ p q:P2,q11 (a,b,c,d,c-a,d-b) p*q11 (a,b,c,d,c-a,d-b) q=sgn (q1p (a,b) (c,d) p)*sgn (q1p (a,b) (c,d) q):=λp q=>rfl
 have f2:∀ p q:P2,q11 (e,f,x,y,x-e,y-f) p*q11 (e,f,x,y,x-e,y-f) q=sgn (q1p (e,f) (x,y) p)*sgn (q1p (e,f) (x,y) q):=λp q=>rfl
 have p1:decide (sgn (q1p (a,b) (c,d) (e,f))*sgn (q1p (a,b) (c,d) (x,y))<0)=q38 (a,b) (c,d) (e,f) (x,y):=rfl;have p2:decide (sgn (q1p (e,f) (x,y) (a,b))*sgn (q1p (e,f) (x,y) (c,d))<0)=q38 (e,f) (x,y) (a,b) (c,d):=rfl;have s1':q3f (a,b,c,d,c-a,d-b):=s1;have s2':q3f (e,f,x,y,x-e,y-f):=s2;have hc:q1b (a,b) (c,d) (e,f) (x,y)=if betI (a,b) (e,f) (x,y)||(betI (c,d) (e,f) (x,y)||(betI (e,f) (a,b) (c,d)||betI (x,y) (a,b) (c,d))) then 1 else if q38 (a,b) (c,d) (e,f) (x,y)&&q38 (e,f) (x,y) (a,b) (c,d) then 2 else 0:=by
  unfold q1b;rw [h1,h2,h3,h4];rfl
 rw [hc];simp only [and_self,true_and,eq_self,exists_const,forall_const,h1,h2,h3,h4,e0,s1',s2',f1,f2,hs,p1,p2,Bool.not_true,cond_false];cases betI (a,b) (e,f) (x,y) <;> cases betI (c,d) (e,f) (x,y) <;> cases betI (e,f) (a,b) (c,d) <;> cases betI (x,y) (a,b) (c,d) <;> cases q38 (a,b) (c,d) (e,f) (x,y) <;> cases q38 (e,f) (x,y) (a,b) (c,d) <;> simp
end Go.Proofs.YtnpkpehlncnkgaaGreatDoor
namespace Go.Proofs.YtnpkpehlncnkgaaGreatDoor
open Go.RowKit
structure Scan (w:World) (b:Nat) (s:ByteArray):Prop where
 text:w.cell? ⟨b,0,none⟩=some (.string s)
 cls:∀ c:UInt8,w.cell? ⟨b,1+c.toNat,none⟩=some (.int .i64 (Lx.cls c:Nat))
theorem Scan.drewN {w:World} {b:Nat} {s:ByteArray} (h:Scan w b s) (n:Nat):Scan (w.drewN n) b s:=⟨h.text,h.cls⟩
theorem Scan.below {B:Nat} {w w':World} {b:Nat} {s:ByteArray} (h:Scan w b s) (hb:Below B w w') (hB:b<B):Scan w' b s :=
 ⟨(hb.cell (p:=⟨b,0,none⟩) hB).trans h.text,λc=>(hb.cell (p:=⟨b,1+c.toNat,none⟩) hB).trans (h.cls c)⟩
theorem Scan.alloc {w:World} {b:Nat} {s:ByteArray} (h:Scan w b s) (hB:b<w.heap.size) (o:Obj):Scan (w.alloc o) b s :=
 h.below ((Below.refl w.heap.size w).alloc (Nat.le_refl _) o) hB
set_option maxHeartbeats 400000 in
theorem at_ge (b:Nat) (s:ByteArray) (i:Int) (w:World) (hs:s.size≤9223372036854775807) (hi:(s.size:Int)≤i)
   (h0:w.cell? ⟨b,0,none⟩=some (.string s)) :
    Calls Tryz.prog 107 #[.pointer (some ⟨b,0,none⟩),.int .i64 i] w λe w'=>e=.returned (.int .i64 0)∧w=w':=by
  go_enter Tryz.func107,Tryz.ntmps107
  go_wp2
  go_ret
  exact ⟨rfl,rfl⟩
set_option maxHeartbeats 400000 in
theorem at_lt (b:Nat) (s:ByteArray) (i:Nat) (w:World) (hs:s.size≤9223372036854775807) (hi:i<s.size)
   (h0:w.cell? ⟨b,0,none⟩=some (.string s)) (hc:w.cell? ⟨b,1+s[i].toNat,none⟩=some (.int .i64 (Lx.cls s[i]:Nat))) :
    Calls Tryz.prog 107 #[.pointer (some ⟨b,0,none⟩),.int .i64 i] w λe w'=>e=.returned (.int .i64 (Lx.cls s[i]:Nat))∧∃ n,w'=w.drewN n:=by
  have hb:s[i].toNat<256:=UInt8.toNat_lt s[i]
  go_enter Tryz.func107,Tryz.ntmps107
  go_wp2
  go_quiet (fail)
  go_wp2
  go_ret
  exact ⟨rfl,_,rfl⟩
theorem q56 (b:Nat) (s:ByteArray) (i:Int) (w:World) (hs:s.size≤9223372036854775807) (hi:0≤i) (h:Scan w b s) :
  Calls Tryz.prog 107 #[.pointer (some ⟨b,0,none⟩),.int .i64 i] w λe w' =>
   e=.returned (.int .i64 (Lx.q1s (s.data.toList.drop i.toNat):Nat))∧∃ n,w'=w.drewN n:=by
 obtain ⟨k,rfl⟩:=Int.eq_ofNat_of_zero_le hi;rw [Int.toNat_natCast];by_cases hlt:k<s.size
 ·rw [q1r s k hlt]
  exact at_lt b s k w hs hlt h.text (h.cls _)
 ·have hd:s.data.toList.drop k=[]:=List.drop_eq_nil_of_le (by rw [← q0l];omega)
  rw [hd];exact (at_ge b s k w hs (by omega) h.text).mono λe w' ⟨he,hw⟩=>⟨he,0,hw.symm⟩
def among (zs:List Int) (c:UInt8):Bool:=zs.contains (Lx.cls c:Nat)
theorem q40 {p:UInt8→Bool} {c:UInt8} {l:List UInt8} (h:p c=true):Lx.span p (c::l)=Lx.span p l+1:=by
 simp [Lx.span,h]
theorem q76 {p:UInt8→Bool} {c:UInt8} {l:List UInt8} (h:p c=false):Lx.span p (c::l)=0:=by
 simp [Lx.span,h]
theorem qgl (p:UInt8→Bool) (l:List UInt8):Lx.span p l≤l.length:=by
 induction l with
 | nil=>simp [Lx.span]
 | cons c r ih =>
  cases h:p c
  ·rw [q76 h];omega
  ·rw [q40 h,List.length_cons];omega
set_option maxHeartbeats 1000000 in
theorem qbn (b:Nat) (s:ByteArray) (i:Nat) (bk n c:Nat) (zs:List Int) (w:World) (hs:s.size≤4611686018427387904) (hi:i≤s.size) (h:Scan w b s)
  (hn:n=zs.length) (hn1:0<n) (hn2:n≤100) (hz:∀ j,j<zs.length→w.cell? ⟨bk,0+j,none⟩=some (.int .i64 (zs.getD j 0))) :
  Calls Tryz.prog 106 #[.pointer (some ⟨b,0,none⟩),.int .i64 i,.slice (some ⟨bk,0,none⟩) n c] w λe w' =>
   e=.returned (.int .i64 (i+Lx.span (among zs) (s.data.toList.drop i):Nat))∧∃ m,w'=w.drewN m:=by
 have htake:zs.take n=zs:=List.take_of_length_le (by omega)
 have HT:=Lib.hid htake;clear htake;have HZ:=Lib.hid hz;clear hz;have HN:=Lib.hid hn;have hnz:n≤zs.length:=by omega
 clear hn
 go_enter Tryz.func106,Tryz.ntmps106
 go_wp2
 go_loopw [1] (λv wr=>∃ k m:Nat,k≤s.size∧v=.int .i64 k∧wr=w.drewN m∧i+Lx.span (among zs) (s.data.toList.drop i)=k+Lx.span (among zs) (s.data.toList.drop k)) (λv _=>s.size-(intOf v).toNat)
 case atStart=>exact ⟨i,0,hi,rfl,rfl,rfl⟩
 case round =>
  obtain ⟨k,m,hk,rfl,rfl,hrest⟩:=hrel;have HR:=Lib.hid hrest;clear hrest;have h0:=h.text;by_cases hlt:k<s.size
  ·have hc:=q1r s k hlt
   have HC:=Lib.hid hc;clear hc
   go_wp2_with fail
   refine (q56 b s k _ (by omega) (by omega) (h.drewN m)).mono ?_
   rintro e w' ⟨rfl,m1,rfl⟩;rw [Int.toNat_natCast,HC.out]
   go_wp2_with fail
   refine (Tryz.slices_Contains_int bk 0 n c zs _ _ hnz (by omega) (by exact HZ.out)).mono ?_
   rintro e w' ⟨rfl,rfl⟩;rw [HT.out];have hx:zs.contains ((Lx.q1s (s[k]::List.drop (k+1) s.data.toList):Nat):Int)=among zs s[k]:=rfl;rw [hx];clear hx;cases hq:among zs s[k]
   ·go_wp2
    go_ret
    refine ⟨?_,_,rfl⟩;rw [HR.out,HC.out,q76 hq];rfl
   ·go_wp2
    go_roundw
    case rel=>
     refine ⟨k+1,_,by omega,by go_num,rfl,?_⟩
     rw [HR.out,HC.out,q40 hq];omega
    case measure=>simp [intOf];omega
  ·go_wp2
   go_ret
   refine ⟨?_,_,rfl⟩;rw [HR.out];have hd:s.data.toList.drop k=[]:=List.drop_eq_nil_of_le (by rw [← q0l];omega)
   rw [hd];rfl
namespace Lx
theorem qfv (c:UInt8):(cls c==1)=q2c c:=by
 have H:∀ c:Fin 256,(cls (UInt8.ofNat c.val)==1)=q2c (UInt8.ofNat c.val):=by decide +kernel
 have h:=H ⟨c.toNat,UInt8.toNat_lt c⟩
 simpa using h
theorem qig (c:UInt8):(cls c==2)=(c==35):=by
 have H:∀ c:Fin 256,(cls (UInt8.ofNat c.val)==2)=(UInt8.ofNat c.val==35):=by decide +kernel
 have h:=H ⟨c.toNat,UInt8.toNat_lt c⟩
 simpa using h
theorem gap_blank (l:List UInt8):gap l=span q2c l+gap (l.drop (span q2c l)):=by
 induction l with
 | nil=>simp [span,gap,gapc]
 | cons c r ih =>
  cases h:q2c c
  ·rw [q76 h];simp
  ·rw [q40 h]
   have:gap (c::r)=gap r+1:=by simp [gap,gapc,h]
   rw [this,ih];simp only [List.drop_succ_cons];omega
theorem qjo (l:List UInt8):q1s (l.drop (span q2c l))≠1:=by
 induction l with
 | nil=>simp [span,q1s]
 | cons c r ih =>
  cases h:q2c c
  ·rw [q76 h]
   intro e;have:=qfv c;simp only [List.drop_zero,q1s] at e;rw [e,h] at this;cases this
  ·rw [q40 h]
   exact ih
theorem gap_not (l:List UInt8) (h1:q1s l≠1) (h2:q1s l≠2):gap l=0:=by
 cases l with
 | nil=>rfl
 | cons c r =>
  have hb:q2c c=false:=by rw [← qfv];simpa [q1s] using h1
  have hh:(c==35)=false:=by rw [← qig];simpa [q1s] using h2
  simp only [gap,gapc,hb,hh,Bool.false_eq_true,if_false]
theorem gap_hash (l:List UInt8) (h2:q1s l=2):gap l=gapc true l:=by
 cases l with
 | nil=>cases h2
 | cons c r =>
  have hh:(c==35)=true:=by rw [← qig];simpa [q1s] using h2
  obtain rfl:c=35:=by simpa using hh
  show gapc false (35::r)=gapc true (35::r);rfl
theorem gapc_none (l:List UInt8) (h:Lib.indexByte l 10<0):gapc true l=l.length:=by
 induction l with
 | nil=>rfl
 | cons c r ih =>
  unfold Lib.indexByte at h;have hge:=Lib.indexByte_ge r 10;by_cases hc:(c==10)=true
  ·rw [if_pos hc] at h;omega
  ·rw [if_neg hc] at h
   by_cases hr:(Lib.indexByte r 10==-1)=true
   ·have hr':Lib.indexByte r 10=-1:=by simpa using hr
    have:=ih (by omega)
    simp only [gapc,hc,Bool.false_eq_true,if_false,this,List.length_cons]
   ·rw [if_neg hr] at h
    have hr':Lib.indexByte r 10≠-1:=by simpa using hr
    omega
theorem gapc_some (l:List UInt8) (h:0≤Lib.indexByte l 10):(Lib.indexByte l 10).toNat≤l.length∧gapc true l=(Lib.indexByte l 10).toNat+gap (l.drop (Lib.indexByte l 10).toNat):=by
 induction l with
 | nil=>exact absurd h (by decide)
 | cons c r ih =>
  unfold Lib.indexByte at h ⊢;have hge:=Lib.indexByte_ge r 10;by_cases hc:(c==10)=true
  ·rw [if_pos hc]
   obtain rfl:c=10:=by simpa using hc
   refine ⟨Nat.zero_le _,?_⟩;show gapc true (10::r)=0+gapc false (10::r);simp [gapc,q2c]
  ·rw [if_neg hc] at h ⊢
   by_cases hr:(Lib.indexByte r 10==-1)=true
   ·rw [if_pos hr] at h;omega
   ·rw [if_neg hr] at h ⊢
    have hr':Lib.indexByte r 10≠-1:=by simpa using hr
    have h0:0≤Lib.indexByte r 10:=by omega
    obtain ⟨ih1,ih2⟩:=ih h0;have e:(Lib.indexByte r 10+1).toNat=(Lib.indexByte r 10).toNat+1:=by omega
    rw [e];refine ⟨by simpa using ih1,?_⟩
    simp only [gapc,hc,Bool.false_eq_true,if_false,List.drop_succ_cons];omega
theorem hash_pos (l:List UInt8) (h:q1s l=2):Lib.indexByte l 10≠0:=by
 cases l with
 | nil=>cases h
 | cons c r =>
  have hh:(c==35)=true:=by rw [← qig];simpa [q1s] using h
  obtain rfl:c=35:=by simpa using hh
  have hge:=Lib.indexByte_ge r 10;unfold Lib.indexByte;rw [if_neg (by decide)]
  split
  ·omega
  ·rename_i h2
   have h2':Lib.indexByte r 10≠-1:=by simpa using h2
   omega
end Lx
theorem qhi:among [1]=Lx.q2c:=by
 funext c
 rw [← Lx.qfv];have h:∀ n:Nat,([1]:List Int).contains (n:Int)=(n==1):=by
  intro n;rw [Bool.eq_iff_iff];simp;omega
 exact h _
theorem qg8 (w:World) (bk:Nat) (hbk:bk=w.heap.size) (x:Int) (t:TypeId):∀ j,j<[x].length→(w.alloc (.cells #[.int .i64 x] t)).cell? ⟨bk,0+j,none⟩=some (.int .i64 ([x].getD j 0)):=by
 intro j hj;subst hbk;obtain rfl:j=0:=by simpa using hj
 simp [World.cell?_alloc_at]
set_option maxHeartbeats 1000000 in
theorem gap_any (b:Nat) (s:ByteArray) (i:Int) (w:World) (hs:s.size≤4611686018427387904) (hi0:0≤i) (hi:i≤s.size) (hb:b<w.heap.size) (h:Scan w b s) :
  Calls Tryz.prog 77 #[.pointer (some ⟨b,0,none⟩),.int .i64 i] w λe w' =>
   e=.returned (.int .i64 (i.toNat+Lx.gap (s.data.toList.drop i.toNat):Nat))∧Below w.heap.size w w':=by
 obtain ⟨i,rfl⟩:=Int.eq_ofNat_of_zero_le hi0;rw [Int.toNat_natCast];have hi':i≤s.size:=by omega
 clear hi hi0
 go_enter Tryz.func77,Tryz.ntmps77
 go_wp2_with fail
 refine (qbn b s i _ 1 1 [1] _ hs hi' (by exact h.below ((Below.refl w.heap.size w).alloc (Nat.le_refl _) _) hb) rfl (by omega) (by omega) (by exact qg8 w _ rfl 1 _)).mono ?_
 rintro e w' ⟨rfl,m,rfl⟩;rw [qhi];have hg:=Lx.gap_blank (s.data.toList.drop i);have hst:=Lx.qjo (s.data.toList.drop i);have hle:=qgl Lx.q2c (s.data.toList.drop i);rw [List.drop_drop] at hg hst;rw [List.length_drop,← q0l] at hle;have HG:=Lib.hid hg;have HST:=Lib.hid hst;clear hg hst;generalize Lx.span Lx.q2c (s.data.toList.drop i)=n0 at *
 have hb0:Below w.heap.size w ((w.alloc (.cells #[.int .i64 1] 3)).drewN m):=belN ((Below.refl w.heap.size w).alloc (Nat.le_refl _) _) m
 go_wp2
 go_loopw [1,5] (λv _ wr=>∃ k:Nat,k≤s.size∧v=.int .i64 k∧Below w.heap.size w wr∧i+Lx.gap (s.data.toList.drop i)=k+Lx.gap (s.data.toList.drop k)∧Lx.q1s (s.data.toList.drop k)≠1) (λv _ _=>s.size-(intOf v).toNat)
 case atStart=>exact ⟨i+n0,by omega,by go_num,hb0,by rw [HG.out];omega,HST.out⟩
 case round =>
  obtain ⟨k,hk,rfl,hbr,hrest,hst⟩:=hrel;clear HG HST hb0;have HR:=Lib.hid hrest;clear hrest;have HST:=Lib.hid hst;clear hst;have hSr:=h.below hbr hb;have hsz:=hbr.size
  go_wp2_with fail
  refine (q56 b s k _ (by omega) (by omega) hSr).mono ?_
  rintro e w' ⟨rfl,m1,rfl⟩;rw [Int.toNat_natCast];by_cases hc:Lx.q1s (s.data.toList.drop k)=2
  ·rw [hc]
   have hlt:k<s.size:=by
    rcases Nat.lt_or_ge k s.size with hlt | hge
    ·exact hlt
    ·rw [List.drop_eq_nil_of_le (by rw [← q0l];exact hge)] at hc;cases hc
   have h0:=hSr.text;have HGH:=Lib.hid (Lx.gap_hash _ hc);have hpos:=Lx.hash_pos _ hc;have HC:=Lib.hid hc;clear hc
   go_wp2_with fail
   refine (Tryz.strings_IndexByte _ _ _).mono ?_;rintro e w' ⟨rfl,rfl⟩;have hdl:(s.extract k s.size).data.toList=s.data.toList.drop k:=by
    rw [q3j,bs_list];exact List.take_of_length_le (by rw [List.length_drop,← q0l];omega)
   rw [hdl];clear hdl;have h10:(Int.toNat 10).toUInt8=10:=rfl;rw [h10];clear h10;have hge:=Lib.indexByte_ge (s.data.toList.drop k) 10;by_cases hneg:Lib.indexByte (s.data.toList.drop k) 10<0
   ·have hnone:=Lib.hid (Lx.gapc_none _ hneg)
    generalize Lib.indexByte (s.data.toList.drop k) 10=o at *
    go_wp2
    go_ret
    refine ⟨?_,belN hbr _⟩;rw [HR.out,HGH.out,hnone.out,List.length_drop,← q0l];exact ret_int (by omega)
   ·have hs2:=Lx.gapc_some (s.data.toList.drop k) (by omega)
    obtain ⟨hs2,hs3⟩:=hs2;rw [List.length_drop,← q0l] at hs2;rw [List.drop_drop] at hs3;have HS3:=Lib.hid hs3;clear hs3;generalize Lib.indexByte (s.data.toList.drop k) 10=o at *
    obtain ⟨q,rfl⟩:=Int.eq_ofNat_of_zero_le (show 0≤o by omega)
    have hq:q≤s.size-k:=by simpa using hs2
    have hq1:1≤q:=by omega
    have hq2:Lx.gapc true (s.data.toList.drop k)=q+Lx.gap (s.data.toList.drop (k+q)):=HS3.out;have HQ2:=Lib.hid hq2;clear HS3 hq2 hs2 hge hneg hpos
    go_wp2_with fail
    have hkq:(k:Int)+q=((k+q:Nat):Int):=by omega
    rw [hkq];clear hkq;refine (qbn b s (k+q) _ 1 1 [1] _ hs (by omega) (by exact (hSr.drewN _).below ((Below.refl _ _).alloc (Nat.le_refl _) _) (by simp;omega)) rfl (by omega) (by omega) (by exact qg8 (wr.drewN m1) _ rfl 1 _)).mono ?_
    rintro e w' ⟨rfl,m2,rfl⟩;rw [qhi];have hg:=Lx.gap_blank (s.data.toList.drop (k+q));have hst:=Lx.qjo (s.data.toList.drop (k+q));have hle:=qgl Lx.q2c (s.data.toList.drop (k+q));rw [List.drop_drop] at hg hst;rw [List.length_drop,← q0l] at hle;have HG:=Lib.hid hg;have HST:=Lib.hid hst;clear hg hst;generalize Lx.span Lx.q2c (s.data.toList.drop (k+q))=n1 at *
    go_wp2
    go_roundw
    case rel =>
     refine ⟨k+q+n1,by omega,by go_num,?_,?_,HST.out⟩
     ·exact belN ((belN hbr m1).alloc (by simpa using hsz) _) m2
     ·rw [HR.out,HGH.out,HQ2.out,HG.out]
      omega
    case measure=>simp [intOf];omega
  ·have hg0:=Lib.hid (Lx.gap_not _ HST.out hc)
   have hcn:((Lx.q1s (s.data.toList.drop k):Int)==2)=false:=by
    rw [beq_eq_false_iff_ne];omega
   clear hc;generalize Lx.q1s (s.data.toList.drop k)=cc at *
   go_wp2
   go_ret
   refine ⟨?_,belN hbr _⟩;rw [HR.out,hg0.out];rfl
set_option maxRecDepth 100000 in
set_option maxHeartbeats 1000000 in
theorem qjb (s:ByteArray) (hs:s.size=2) (w:World) (ha:∀ (j:Nat) (h:j<s.size),(s[j]'h).toNat<128) :
  Calls Tryz.prog 131 #[.string s,.int .i32 65533] w λe w'=>e=.returned (.int .i64 (-1))∧Below w.heap.size w w':=by
 have HS:=Lib.hid hs;have HA:=Lib.hid ha;clear ha;have hs2:s.size≤2:=by omega
 clear hs
 go_enter Tryz.func131,Tryz.ntmps131
 go_wp2
 go_loopg [5,6] 2 (λg _ _ wx=>∃ i:Nat,i+g=2∧wx=w.iter s i)
 case atStart=>exact ⟨0,rfl,rfl⟩
 case round =>
  obtain ⟨i,hig,rfl⟩:=hrel;cases gk with
  | zero =>
   have hnx:=λty=>run_next_end (P:=Tryz.prog) w s i ty (by rw [HS.out];omega)
   go_wp2
   go_ret
   exact ⟨rfl,(Below.refl _ _).alloc (Nat.le_refl _) _⟩
  | succ g =>
   have hi:i<s.size:=by rw [HS.out];omega
   have hx128:=HA.out i hi;have hnx:=λty=>run_next_ascii (P:=Tryz.prog) w s i ty hi hx128
   generalize s[i]=x at *
   have hne:((x.toNat:Int)==65533)=false:=by rw [beq_eq_false_iff_ne];omega
   go_wp2
   go_roundg g
   case measure=>omega
   case rel=>exact ⟨i+1,by omega,rfl⟩
set_option maxRecDepth 100000 in
set_option maxHeartbeats 1000000 in
theorem qjz (s:ByteArray) (hs:s.size=2) (r:Int) (w:World) (ha:∀ (j:Nat) (h:j<s.size),(s[j]'h).toNat<128) (h1:128≤r) (h2:Utf8.valid r=true) (h3:r≠65533) :
  Calls Tryz.prog 131 #[.string s,.int .i32 r] w λe w'=>e=.returned (.int .i64 (-1))∧Below w.heap.size w w':=by
 have HS:=Lib.hid hs;have HA:=Lib.hid ha;clear ha;have hs2:s.size≤2:=by omega
 have hs3:2≤s.size:=by omega
 clear hs;obtain ⟨e1,e2,e3⟩:=encode_facts r h2 h1;have hlt0:¬ r<128:=by omega
 have hnr:(r==65533)=false:=by rw [beq_eq_false_iff_ne];exact h3
 have hvr:Lib.validRune r=true:=by
  have e:=validRune_eq r;rw [h2] at e;exact e.symm
 clear h2
 go_enter Tryz.func131,Tryz.ntmps131
 go_wp2_with (first | (go_at_call 153;refine (Tryz.utf8_ValidRune _ _).mono ?_;rintro e w' ⟨rfl,rfl⟩))
 go_step3
 go_wp2
 generalize Utf8.encode r=rs at *
 obtain ⟨i,hi⟩:∃ i,rs.size=i+1:=⟨rs.size-1,by omega⟩
 have ei:(rs.size:Int)-1=(i:Int):=by omega
 rw [ei];clear ei;have hir:i<rs.size:=by omega
 have e4:128≤(rs[i]'hir).toNat:=by
  have e5:rs.size-1=i:=by omega
  simp only [e5] at e3;exact e3 hir
 clear e3;have hi1:1≤i:=by omega
 have HI:=Lib.hid hi;clear hi;refine wp_loop_rounds 1 ?_;rw [rounds_succ];by_cases h2:i<s.size
 ·have hne:((s[i].toNat:Int) != (rs[i].toNat:Int))=true:=by
   have a2:=HA.out i h2;rw [bne_iff_ne];omega
  have hz:Lib.indexByte (List.take (s.size-(i+1)) (List.drop (i+1) s.data.toList)) rs[i]=-1:=by
   rw [List.drop_eq_nil_of_le (by rw [← Lib.size_eq];omega),List.take_nil]
   rfl
  go_wp2
  go_step3
  go_wp2
  go_quiet (fail)
  go_wp2
  go_quiet ((go_at_call 108;exact qk9 (Tryz.strings_IndexByte _ _ _)))
  go_wp2
  repeat (first | rw [Exit.noGoto_ret] | simp only [Exit.inBlock,Exit.then])
  go_ret
  exact ⟨rfl,belN (Below.refl _ _) _⟩
 ·go_wp2
  repeat (first | rw [Exit.noGoto_ret] | simp only [Exit.inBlock])
  go_ret
  exact ⟨rfl,Below.refl _ _⟩
theorem qk6 (s:ByteArray) (hs:s.size=2) (r:Int) (w:World) (ha:∀ (j:Nat) (h:j<s.size),(s[j]'h).toNat<128) (h:r=65533∨(128≤r∧Utf8.valid r=true)) :
  Calls Tryz.prog 131 #[.string s,.int .i32 r] w λe w'=>e=.returned (.int .i64 (-1))∧Below w.heap.size w w':=by
 by_cases h3:r=65533
 ·subst h3;exact qjb s hs w ha
 ·rcases h with h | ⟨h1,h2⟩
  ·exact absurd h h3
  ·exact qjz s hs r w ha h1 h2 h3
theorem decode_high (s:ByteArray) (i:Nat) (hi:i<s.size) (h:¬ (s[i]'hi).toNat<128) :
  1≤(Utf8.decode s i).2∧i+(Utf8.decode s i).2≤s.size∧((Utf8.decode s i).1=65533∨(128≤(Utf8.decode s i).1∧Utf8.valid (Utf8.decode s i).1=true)) ∧
   ∀ j (hj:j<s.size),i≤j→j<i+(Utf8.decode s i).2→¬ (s[j]'hj).toNat<128:=by
 have e:∀ k (hk:i+k<s.size),(s.get! (i+k)).toNat=(s[i+k]'hk).toNat:=λk hk=>by
  have:s.get! (i+k)=s[i+k]'hk:=by simp [ByteArray.get!,getElem!_pos,hk];rfl
  rw [this]
 have e0:(s.get! (i+0)).toNat=(s[i]'hi).toNat:=e 0 hi;have hb:∀ k,k<4→(decide (i+k<s.size)&&(s.get! (i+k)).toNat / 64==2)=true→∀ hj:i+k<s.size,¬ (s[i+k]'hj).toNat<128:=λk _ hc hj=>by
  rw [Bool.and_eq_true] at hc;have h2:(s.get! (i+k)).toNat / 64=2:=by simpa using hc.2
  rw [e k hj] at h2;omega
 have hl:∀ k,(decide (i+k<s.size)&&(s.get! (i+k)).toNat / 64==2)=true→i+k<s.size:=λk hc=>by
  rw [Bool.and_eq_true] at hc
  simpa using hc.1
 have one:∀ j (hj:j<s.size),i≤j→j<i+1→¬ (s[j]'hj).toNat<128:=λj hj h1 h2=>by
  obtain rfl:j=i:=by omega
  exact h
 have l0:(s[i]'hi).toNat<256:=UInt8.toNat_lt _;have l:∀ k,(s.get! k).toNat<256:=λk=>UInt8.toNat_lt _
 have l1:=l (i+1);have l2:=l (i+2);have l3:=l (i+3);unfold Utf8.decode;simp only [e0];rw [if_neg h];have bad:1≤1∧i+1≤s.size∧(Utf8.runeError=65533∨(128≤Utf8.runeError∧Utf8.valid (Utf8.runeError:Nat)=true))∧∀ j (hj:j<s.size),i≤j→j<i+1→¬ (s[j]'hj).toNat<128 :=
  ⟨by omega,by omega,.inl rfl,one⟩
 split
 ·rename_i h2
  rw [Bool.and_eq_true] at h2;have c1:=h2.2;split
  ·refine ⟨by simp,by have:=hl 1 c1;simp;omega,.inr ⟨by simp only [];omega,?_⟩,?_⟩
   ·simp only [Utf8.valid]
    simp;omega
   ·intro j hj h3 h4
    by_cases hj0:j=i
    ·subst hj0;exact h
    ·obtain rfl:j=i+1:=by simp only [] at h4;omega
     exact hb 1 (by omega) c1 hj
  ·exact bad
 ·split
  ·rename_i h2
   rw [Bool.and_eq_true,Bool.and_eq_true] at h2;have c1:=h2.1.2;have c2:=h2.2;split
   ·rename_i h5
    rw [Bool.and_eq_true] at h5;have h6:2048≤_:=of_decide_eq_true h5.1;refine ⟨by simp,by have:=hl 2 c2;simp;omega,.inr ⟨by simp only [];omega,by simpa using h5.2⟩,?_⟩
    intro j hj h3 h4;by_cases hj0:j=i
    ·subst hj0;exact h
    ·by_cases hj1:j=i+1
     ·subst hj1;exact hb 1 (by omega) c1 hj
     ·obtain rfl:j=i+2:=by simp only [] at h4;omega
      exact hb 2 (by omega) c2 hj
   ·exact bad
  ·split
   ·rename_i h2
    rw [Bool.and_eq_true,Bool.and_eq_true,Bool.and_eq_true] at h2;have c1:=h2.1.1.2;have c2:=h2.1.2;have c3:=h2.2;split
    ·rename_i h5
     rw [Bool.and_eq_true] at h5;have h6:65536≤_:=of_decide_eq_true h5.1;refine ⟨by simp,by have:=hl 3 c3;simp;omega,.inr ⟨by simp only [];omega,by simpa using h5.2⟩,?_⟩
     intro j hj h3 h4;by_cases hj0:j=i
     ·subst hj0;exact h
     ·by_cases hj1:j=i+1
      ·subst hj1;exact hb 1 (by omega) c1 hj
      ·by_cases hj2:j=i+2
       ·subst hj2;exact hb 2 (by omega) c2 hj
       ·obtain rfl:j=i+3:=by simp only [] at h4;omega
        exact hb 3 (by omega) c3 hj
    ·exact bad
   ·exact bad
set_option maxRecDepth 100000 in
set_option maxHeartbeats 1000000 in
theorem qk5 (s chars:ByteArray) (hc:chars.size=2) (w:World) (h8:s.size≤8) (hac:∀ (j:Nat) (h:j<chars.size),(chars[j]'h).toNat<128) :
  Calls Tryz.prog 110 #[.string s,.string chars] w λe w'=>e=.returned (.int .i64 (Lib.indexAny s.data.toList chars.data.toList))∧Below w.heap.size w w':=by
 have hemp:chars.toList.isEmpty=false:=by
  rw [Lib.toList_data];cases h:chars.data.toList with
  | nil=>have:=Lib.size_eq chars;rw [h,List.length_nil] at this;omega
  | cons _ _=>rfl
 have hcon:∀ x:UInt8,¬ x.toNat<128→chars.data.toList.contains x=false:=λx hx=>by
  rw [List.contains_eq_any_beq,List.any_eq_false];intro y hy;obtain ⟨j,hj,rfl⟩:=List.mem_iff_getElem.1 hy;have hj':j<chars.size:=by rw [q0l];exact hj
  have h1:=hac j hj';have h2:=qb1 chars j hj';rw [List.getElem?_eq_getElem hj] at h2;injection h2 with h2;intro he;have he':x=chars.data.toList[j]:=by simpa using he
  rw [he',h2] at hx;exact hx h1
 have HCON:=Lib.hid hcon;clear hcon;have HAC:=Lib.hid hac;clear hac;have hn1:((chars.size:Int)==1)=false:=beq_eq_false_iff_ne.2 (by omega)
 have HC:=Lib.hid hc;clear hc;have h8z:decide ((8:Int)<(s.size:Int))=false:=decide_eq_false (by omega)
 have hg0:(w.iter s 0).heap[w.heap.size]? = some (.stringIter s 0):=World.iter_heap w s 0;have hb0:Below w.heap.size w (w.iter s 0):=(Below.refl _ _).alloc (Nat.le_refl _) _;have hz0:w.heap.size<(w.iter s 0).heap.size:=by show w.heap.size<(w.heap.push _).size;simp
 go_enter Tryz.func110,Tryz.ntmps110
 go_wp2_with (go_at_call 132;refine (Tryz.strings_shouldUseASCIISet _ _).mono ?_;rintro e w' ⟨rfl,rfl⟩;rw [h8z])
 go_loopg [9,10] s.size (λg _ _ wx=>∃ i:Nat,i+g=s.size∧wx.heap[w'.heap.size]? = some (.stringIter s i)∧Below w'.heap.size w' wx∧w'.heap.size<wx.heap.size∧Lib.NoAny s.data.toList chars.data.toList i)
 case atStart=>exact ⟨0,by omega,hg0,hb0,hz0,Lib.NoAny.zero _ _⟩
 case round =>
  obtain ⟨i,hig,hit,hbx,hlt,hno⟩:=hrel;clear hg0 hb0 hz0;have HN:=Lib.hid hno;clear hno;have HB:=Lib.hid hbx;clear hbx;by_cases hi:i<s.size
  ·have hnx:=λty=>Lib.run_next_any_at (P:=Tryz.prog) wr w'.heap.size s i ty hit hi
   have hdle:=decode_le s i;have hxl:s.data.toList[i]? = some s[i]:=qb1 s i hi;by_cases ha:s[i].toNat<128
   ·rw [decode_ascii s i hi ha] at hnx hdle
    simp only [] at hnx;have Hx:=Lib.hid hxl;clear hxl;have HIT:=Lib.hid hit;clear hit;generalize s[i]=x at *
    have hcn:=Lib.contains_iff_indexByte chars.data.toList x;have hback:((x.toNat:Int)).toNat.toUInt8=x:=by simp
    cases hin:chars.data.toList.contains x
    ·rw [hin] at hcn
     have hlt2:¬ ((0:Int)≤Lib.indexByte chars.data.toList x):=of_decide_eq_false hcn.symm;clear hcn;have HIN:=Lib.hid hin;clear hin
     go_wp2_with (go_at_call 131;refine (Tryz.strings_IndexRune_ascii _ _ _ (by omega) (by omega)).mono ?_;rintro e w' ⟨rfl,hw⟩;rw [hw,hback])
     go_roundg (s.size-(i+1))
     case measure=>omega
     case rel=>exact ⟨i+1,by omega,Lib.iterAt_heap _ _ _ _ _ HIT.out,Lib.below_iterAt HB.out (Nat.le_refl _) _ _,by rw [Lib.iterAt_size];exact hlt,HN.out.succ Hx.out HIN.out⟩
    ·rw [hin] at hcn
     have hge:(0:Int)≤Lib.indexByte chars.data.toList x:=of_decide_eq_true hcn.symm;clear hcn;have HIN:=Lib.hid hin;clear hin
     go_wp2_with (go_at_call 131;refine (Tryz.strings_IndexRune_ascii _ _ _ (by omega) (by omega)).mono ?_;rintro e w' ⟨rfl,hw⟩;rw [hw,hback])
     go_ret
     exact ⟨by rw [Lib.indexAny_hit HN.out Hx.out HIN.out];rfl,Lib.below_iterAt HB.out (Nat.le_refl _) _ _⟩
   ·obtain ⟨d1,d2,d3,d4⟩:=decode_high s i hi ha
    have hall:Lib.NoAny s.data.toList chars.data.toList (i+(Utf8.decode s i).2):=by
     intro j b hj hb;by_cases hji:j<i
     ·exact HN.out j b hji hb
     ·have hjs:j<s.size:=by
       rw [Lib.size_eq];rcases Nat.lt_or_ge j s.data.toList.length with hjl | hjl
       ·exact hjl
       ·rw [List.getElem?_eq_none hjl] at hb;cases hb
      rw [qb1 s j hjs] at hb;injection hb with hb;rw [← hb];exact HCON.out _ (d4 j hjs (by omega) hj)
    have HALL:=Lib.hid hall;clear hall d4 ha hxl;have HD3:=Lib.hid d3;clear d3;have HIT:=Lib.hid hit;clear hit;generalize Utf8.decode s i=dc at *
    obtain ⟨r,n⟩:=dc;simp only [] at hnx d1 d2 hdle;have hr3:(r:Int)=65533∨(128≤(r:Int)∧Utf8.valid r=true):=by
     rcases HD3.out with h | h
     ·left;simp only [] at h;omega
     ·right;simp only [] at h;exact ⟨by omega,h.2⟩
    have HR3:=Lib.hid hr3;clear hr3
    go_wp2_with fail
    refine (qk6 chars HC.out r _ HAC.out HR3.out).mono ?_;rintro e w2 ⟨rfl,hb2⟩;have HB2:=Lib.hid hb2;clear hb2
    go_wp2
    go_roundg (s.size-(i+n))
    case measure=>omega
    case rel =>
     have hz2:=HB2.out.size;rw [Lib.iterAt_size] at hz2;refine ⟨i+n,by omega,?_,?_,by omega,HALL.out⟩
     ·rw [HB2.out.block _ (by rw [Lib.iterAt_size];exact hlt)]
      exact Lib.iterAt_heap _ _ _ _ _ HIT.out
     ·exact (Lib.below_iterAt HB.out (Nat.le_refl _) _ _).trans (HB2.out.mono (by rw [Lib.iterAt_size];omega))
  ·have hnx:=λty=>Lib.run_next_end_at (P:=Tryz.prog) wr w'.heap.size s i ty hit hi
   have hii:i=s.data.toList.length:=by rw [← Lib.size_eq];omega
   have HI:=Lib.hid hii;clear hii;have HIT:=Lib.hid hit;clear hit
   go_wp2
   go_ret
   exact ⟨by rw [Lib.indexAny_none (by rw [← HI.out];exact HN.out)];rfl,HB.out⟩
theorem zero_ascii:∀ w,(zeroValue 147).run Tryz.prog w=.ok (.agg (Array.replicate 256 (.bool false))) w:=λ_=>by kernel_rfl
theorem qk2 (s:ByteArray) (w:World) (hs:s.size<4294967281) :
  Calls Tryz.prog 110 #[.string s,.string { data:=#[34,10] }] w λe w'=>e=.returned (.int .i64 (Lib.indexAny s.data.toList [34,10]))∧Below w.heap.size w w':=by
 have ha:∀ (j:Nat) (h:j<(⟨#[34,10]⟩:ByteArray).size),((⟨#[34,10]⟩:ByteArray)[j]'h).toNat<128:=by
  intro j h;have h2:(⟨#[34,10]⟩:ByteArray).size=2:=rfl;rw [h2] at h
  match j,h with
  | 0,_=>show (34:UInt8).toNat<128;decide
  | 1,_=>show (10:UInt8).toNat<128;decide
 by_cases h8:s.size≤8
 ·exact qk5 s ⟨#[34,10]⟩ rfl w h8 ha
 ·refine (Tryz.strings_IndexAny_long zero_ascii s ⟨#[34,10]⟩ w (Nat.le_refl 2) (by omega) hs (by show 2<4294967281;omega) ?_).mono ?_
  ·intro j b hb
   have h2:j<2:=by
    rcases Nat.lt_or_ge j 2 with h | h
    ·exact h
    ·rw [List.getElem?_eq_none (by simpa using h)] at hb;cases hb
   have hb':([34,10]:List UInt8)[j]? = some b:=hb
   match j,h2 with
   | 0,_=>injection hb' with hb';subst hb';decide
   | 1,_=>injection hb' with hb';subst hb';decide
  ·rintro e w' ⟨rfl,rfl⟩
   exact ⟨rfl,((Below.refl _ _).alloc (Nat.le_refl _) _).alloc (by simp) _⟩
end Go.Proofs.YtnpkpehlncnkgaaGreatDoor

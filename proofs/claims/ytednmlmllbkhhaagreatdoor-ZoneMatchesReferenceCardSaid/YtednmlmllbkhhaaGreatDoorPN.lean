/-
  Several texts in one: ZnLaw, ZnL, LexSpec, LexLaw, AlName, ZnA, ZnM, ZnD, ZnO, ZnQ, ZnT, ZrA, ZrB, ZrC.
-/
import Derived.Test.YtednmlmllbkhhaaGreatDoorPM
import Derived.Test.YtednmlmllbkhhaaGreatDoorPA
import Derived.Test.YtednmlmllbkhhaaGreatDoorPL
set_option linter.unusedVariables false
set_option linter.unusedSectionVars false
namespace Go.Proofs.YtednmlmllbkhhaaGreatDoor
namespace Geo
namespace Zn
abbrev Str:=List UInt8
abbrev Ar:=Str×Int×List P2
def q1f (k:Int):Bool:=decide (1≤k)&&decide (k≤3)
def qc7:List Str→Bool
 | []=>true
 | x::r=>!r.contains x&&qc7 r
def okA (q03:Str→Bool) (a:Ar):Bool:=q03 a.1&&(q1f a.2.1&&q05 a.2.2)
def q0k (q03:Str→Bool) (l:List Ar):Bool:=l.all (okA q03)&&(qc7 (l.map λa=>a.1)&&decide (l.length≤400))
def ofK (l:List Ar) (k:Int):List Ar:=l.filter λa=>a.2.1==k
def hitZ (p:P2) (a:Ar):Bool:=decide (0≤q1i a.2.2 p)
def q3u (l:List Str):List Str:=l.mergeSort λx y=>decide (x≤y)
def idsZ (l:List Ar) (k:Int) (p:P2):List Str:=q3u (((ofK l k).filter (hitZ p)).map λa=>a.1)
def inZ (l:List Ar) (k:Int) (p:P2):Bool:=(ofK l k).any λa=>decide (0<q1i a.2.2 p)
def q1j (q03:Str→Bool) (l:List Ar) (k:Int) (p:P2):List Str×Bool×Int:=if q0k q03 l&&(q1f k&&onB p) then (idsZ l k p,inZ l k p,0) else ([],false,1)
def allZ (q03:Str→Bool) (l:List Ar) (k:Int) (p:P2):List Str×Int:=((q1j q03 l k p).1,(q1j q03 l k p).2.2)
def oneZ (q03:Str→Bool) (l:List Ar) (k:Int) (p:P2):Str×Int :=
 let x:=q1j q03 l k p
 if x.2.2 != 0 then ([],x.2.2) else match x.1 with
  | []=>([],10)
  | i::r=>if !r.isEmpty&&x.2.1 then ([],8) else (i,0)
def q34 (q03:Str→Bool) (l:List Ar) (k:Int):Bool:=q0k q03 l&&(q1f k&&(ofK l k).all λa=>(ofK l k).all λb=>a.1==b.1||q1k a.2.2 b.2.2)
def q2e (q03:Str→Bool) (l:List Ar) (k i:Int):Bool:=q0k q03 l&&(q1f k&&(q1f i&&(ofK l k).all λa=>(ofK l i).any λb=>q0i a.2.2 b.2.2))
variable {q03:Str→Bool}
theorem qb5:∀ {l:List Str},qc7 l=true↔l.Nodup
 | []=>⟨λ_=>List.nodup_nil,λ_=>rfl⟩
 | x::r=>by
  unfold qc7;rw [Bool.and_eq_true,qb5,List.nodup_cons,Bool.not_eq_true',← Bool.not_eq_true,List.contains_iff_mem]
theorem q7v {l:List Ar}:q0k q03 l=true↔(∀ a∈l,okA q03 a=true)∧(l.map λa=>a.1).Nodup∧l.length≤400:=by
 unfold q0k;rw [Bool.and_eq_true,Bool.and_eq_true,List.all_eq_true,qb5,decide_eq_true_eq]
theorem sortZ_mem {l:List Str} {x:Str}:x∈q3u l↔x∈l:=(List.mergeSort_perm l _).mem_iff
theorem sortZ_le (l:List Str):(q3u l).Pairwise (λa b=>a≤b):=by
 have hs:=List.pairwise_mergeSort (le:=λa b:Str=>decide (a≤b)) (λa b c h1 h2=>decide_eq_true (List.le_trans (of_decide_eq_true h1) (of_decide_eq_true h2))) (λa b=>by
  rcases List.le_total a b with h | h
  ·rw [decide_eq_true h];rfl
  ·rw [decide_eq_true h,Bool.or_true]) l
 exact hs.imp λh=>of_decide_eq_true h
theorem sortZ_lt {l:List Str} (h:l.Nodup):(q3u l).Pairwise (λa b=>a<b):=by
 have hn:(q3u l).Nodup:=(List.mergeSort_perm l _).nodup_iff.2 h;exact ((sortZ_le l).and hn).imp λ⟨h1,h2⟩=>by
  exact Classical.byContradiction λh'=>h2 (List.le_antisymm h1 (List.not_lt.1 h'))
theorem qbl:∀ {l m:List Str},l.Pairwise (λa b=>a<b)→m.Pairwise (λa b=>a<b)→(∀ x,x∈l↔x∈m)→l=m
 | [],[],_,_,_=>rfl
 | [],b::m,_,_,h=>absurd ((h b).2 (List.mem_cons_self ..)) (by simp)
 | a::l,[],_,_,h=>absurd ((h a).1 (List.mem_cons_self ..)) (by simp)
 | a::l,b::m,h1,h2,h=>by
  obtain ⟨a1,a2⟩:=List.pairwise_cons.1 h1;obtain ⟨b1,b2⟩:=List.pairwise_cons.1 h2;have hab:a=b:=by
   rcases List.mem_cons.1 ((h a).1 (List.mem_cons_self ..)) with e | ha
   ·exact e
   ·rcases List.mem_cons.1 ((h b).2 (List.mem_cons_self ..)) with e | hb
    ·exact e.symm
    ·exact absurd (List.lt_trans (a1 b hb) (b1 a ha)) (List.lt_irrefl a)
  subst hab;rw [qbl a2 b2 λp=>?_]
  constructor
  ·intro hp
   rcases List.mem_cons.1 ((h p).1 (List.mem_cons_of_mem _ hp)) with e | h'
   ·have:=a1 p hp;rw [e] at this;exact absurd this (List.lt_irrefl a)
   ·exact h'
  ·intro hp
   rcases List.mem_cons.1 ((h p).2 (List.mem_cons_of_mem _ hp)) with e | h'
   ·have:=b1 p hp;rw [e] at this;exact absurd this (List.lt_irrefl a)
   ·exact h'
theorem ids_nodup {l:List Ar} (h:q0k q03 l=true) (k:Int) (p:P2):(((ofK l k).filter (hitZ p)).map λa=>a.1).Nodup:=by
 obtain ⟨_,h2,_⟩:=q7v.1 h;exact h2.sublist ((List.filter_sublist.trans List.filter_sublist).map _)
theorem ids_lt {l:List Ar} (h:q0k q03 l=true) (k:Int) (p:P2):(idsZ l k p).Pairwise (λa b=>a<b):=sortZ_lt (ids_nodup h k p)
theorem ids_mem {l:List Ar} {k:Int} {p:P2} {x:Str}:x∈idsZ l k p↔∃ a∈l,a.2.1=k∧0≤q1i a.2.2 p∧a.1=x:=by
 unfold idsZ;rw [sortZ_mem,List.mem_map];unfold ofK hitZ;constructor
 ·rintro ⟨a,ha,e⟩
  rw [List.mem_filter,List.mem_filter,beq_iff_eq,decide_eq_true_eq] at ha;exact ⟨a,ha.1.1,ha.1.2,ha.2,e⟩
 ·rintro ⟨a,ha,h1,h2,e⟩
  exact ⟨a,by rw [List.mem_filter,List.mem_filter,beq_iff_eq,decide_eq_true_eq];exact ⟨⟨ha,h1⟩,h2⟩,e⟩
end Zn
end Geo
namespace Zl
theorem q2d {α:Type} (l:List α) (d:α) (k:Nat) (h:k<l.length):l.take (k+1)=l.take k++[l.getD k d]:=by
 rw [List.take_succ_eq_append_getElem h,List.getD_eq_getElem?_getD,List.getElem?_eq_getElem h];rfl
theorem q1l {α:Type} (l:List α) (d:α) (k:Nat) (h:k<l.length):l.getD k d∈l:=by
 rw [List.getD_eq_getElem?_getD,List.getElem?_eq_getElem h];exact List.getElem_mem h
theorem q8v {α:Type} (l:List α) (d:α) (p:α→Bool) (k:Nat) (h:k<l.length):(l.take (k+1)).all p=((l.take k).all p&&p (l.getD k d)):=by
 rw [q2d l d k h,List.all_append,List.all_cons,List.all_nil,Bool.and_true]
theorem qbp {α:Type} (l:List α) (d:α) (p:α→Bool) (k:Nat) (h:k<l.length):(l.take (k+1)).any p=((l.take k).any p||p (l.getD k d)):=by
 rw [q2d l d k h,List.any_append,List.any_cons,List.any_nil,Bool.or_false]
theorem all_end {α:Type} (l:List α) (p:α→Bool) (k:Nat) (h:l.length≤k):(l.take k).all p=l.all p:=by rw [List.take_of_length_le h]
theorem qbk {α:Type} (l:List α) (d:α) (p:α→Bool) (k:Nat) (h:k<l.length) (hp:p (l.getD k d)=false):l.all p=false:=by
 rw [← Bool.not_eq_true,List.all_eq_true];intro ha;have:=ha _ (q1l l d k h);rw [hp] at this;cases this
theorem qhq {α:Type} (l:List α) (d:α) (p:α→Bool) (k:Nat) (h:k<l.length) (hp:p (l.getD k d)=true):l.any p=true :=
 List.any_eq_true.2 ⟨_,q1l l d k h,hp⟩
open Geo.Zn
theorem q0x {p:P2} (h:onB p=true):(0≤p.1∧p.1≤32767)∧(0≤p.2∧p.2≤32767):=by
 unfold onB at h;rw [Bool.and_eq_true,decide_eq_true_eq,decide_eq_true_eq] at h;omega
theorem q44 {a b m n:Int} (h1:-m≤a) (h2:a≤m) (h3:-n≤b) (h4:b≤n):-(m*n)≤a*b∧a*b≤m*n:=by
 have hm:0≤m:=by omega
 have hn:0≤n:=by omega
 have ha:a.natAbs≤m.natAbs:=by omega
 have hb:b.natAbs≤n.natAbs:=by omega
 have h:=Nat.mul_le_mul ha hb;rw [← Int.natAbs_mul,← Int.natAbs_mul] at h;have:=Int.mul_nonneg hm hn;omega
theorem q3w {a b:Int} (h1:-32767≤a) (h2:a≤32767) (h3:-32767≤b) (h4:b≤32767):-1073676289≤a*b∧a*b≤1073676289:=q44 (m:=32767) (n:=32767) h1 h2 h3 h4
theorem tm_eq (k n c:Nat):((k:Int)+(c:Int)).tmod (n:Int)=(((k+c) % n:Nat):Int):=by
 rw [Int.ofNat_tmod,Int.natCast_add]
theorem tm1 (k n:Nat):((k:Int)+(1:Int)).tmod (n:Int)=(((k+1) % n:Nat):Int):=tm_eq k n 1
theorem tm2 (k n:Nat):((k:Int)+(2:Int)).tmod (n:Int)=(((k+2) % n:Nat):Int):=tm_eq k n 2
theorem at0 (r:List P2) {k:Nat} (hk:k<r.length):r.getD k ((0:Int),(0:Int))=rAt r k:=by unfold rAt;rw [Nat.mod_eq_of_lt hk]
theorem atm (r:List P2) (k:Nat):r.getD (((k % r.length:Nat):Int)).toNat ((0:Int),(0:Int))=rAt r k:=rfl
theorem atm' (r:List P2) (k:Nat):r.getD (k % r.length) ((0:Int),(0:Int))=rAt r k:=rfl
theorem q8k {n:Nat} (k:Nat) (hn:0<n):(0:Int)≤((k % n:Nat):Int)∧((k % n:Nat):Int)<(n:Int):=by
 have:=Nat.mod_lt k hn
 omega
theorem q23 {r:List P2} (h:r.all onB=true) (hn:0<r.length) (i:Nat):onB (rAt r i)=true:=by
 unfold rAt;exact List.all_eq_true.1 h _ (q1l r _ _ (Nat.mod_lt _ hn))
def sumTo (f:Nat→Int) (k:Nat):Int:=((List.range k).map f).sum
theorem qfe (f:Nat→Int) (k:Nat):sumTo f (k+1)=sumTo f k+f k:=by
 unfold sumTo;rw [List.range_succ,List.map_append,List.sum_append];simp
theorem qca {f:Nat→Int} {B:Int} (h:∀ i,-B≤f i∧f i≤B):∀ k:Nat,-(k*B)≤sumTo f k∧sumTo f k≤k*B
 | 0=>by simp [sumTo]
 | k+1=>by
  have ih:=qca h k;have:=h k;rw [qfe,show ((k+1:Nat):Int)*B=k*B+B by rw [Int.natCast_add,Int.add_mul];simp]
  omega
theorem range_all (p:Nat→Bool) (k:Nat):(List.range (k+1)).all p=((List.range k).all p&&p k):=by
 rw [List.range_succ,List.all_append];simp
theorem q7o (p:Nat→Bool) (k:Nat):(List.range (k+1)).any p=((List.range k).any p||p k):=by
 rw [List.range_succ,List.any_append];simp
theorem q1q {r:List P2} (h:q05 r=true):3≤r.length∧r.length≤40∧r.all onB=true:=by
 unfold q05 at h;simp only [Bool.and_eq_true,decide_eq_true_eq] at h;exact ⟨h.1,h.2.1,h.2.2.1⟩
end Zl
namespace Lx
def q19 (c:UInt8):Bool:=(97≤c&&c≤122)||(65≤c&&c≤90)
def isDigit (c:UInt8):Bool:=48≤c&&c≤57
def q2l (c:UInt8):Bool:=c==32||c==9||c==10
def isWord (c:UInt8):Bool:=q19 c||isDigit c||c==95
def isSym (c:UInt8):Bool:=[59,44,46,58,40,41,91,93,123,125,61,43,45].contains c
def q03 (l:List UInt8):Bool:=l.all isWord&&(decide (0<l.length)&&decide (l.length≤24))&&(match l with | []=>false | c::_=>q19 c)
def cls (c:UInt8):Nat :=
 if q19 c then 3 else if isDigit c then 4 else if c==95 then 5 else if q2l c then 1 else if c==35 then 2
 else if c==34 then 6 else if c==33 then 7 else if c==60||c==62 then 8 else if isSym c then 9 else 0
def q25:List UInt8→Nat
 | []=>0
 | c::_=>cls c
def span (p:UInt8→Bool) (l:List UInt8):Nat:=(l.takeWhile p).length
def gapc:Bool→List UInt8→Nat
 | _,[]=>0
 | false,c::r=>if q2l c then gapc false r+1 else if c==35 then gapc true r+1 else 0
 | true,c::r=>if c==10 then gapc false r+1 else gapc true r+1
def gap (l:List UInt8):Nat:=gapc false l
def qdg (l:List UInt8):Nat:=l.foldl (λa c=>10*a+(c.toNat-48)) 0
structure Sc where
 err:Int
 kind:Int
 n:Int
 text:List UInt8
 width:Nat
 deriving DecidableEq
def bad (e:Int):Sc:=⟨e,0,0,[],0⟩
def q37 (c:UInt8):Bool:=!(c==34||c==10)
def scan:List UInt8→Sc
 | []=>bad 3
 | c::r =>
  if q19 c then
   let m:=span isWord r+1
   if 24<m then bad 2 else ⟨0,1,0,(c::r).take m,m⟩
  else if isDigit c then
   let m:=span isDigit r+1
   if 13<m||q25 ((c::r).drop m)==3||q25 ((c::r).drop m)==5 then bad 4 else ⟨0,2,qdg ((c::r).take m),(c::r).take m,m⟩
  else if c==34 then
   let m:=span q37 r
   if (r.drop m).head? == some 34 then (if 400<m then bad 2 else ⟨0,3,0,r.take m,m+2⟩) else bad 6
  else if (c==33||c==60||c==62)&&r.head? == some 61 then ⟨0,4,0,[c,61],2⟩
  else if c==60||c==62||isSym c then ⟨0,4,0,[c],1⟩
  else bad 3
structure Tok where
 kind:Int
 pos:Int
 n:Int
 text:List UInt8
 deriving DecidableEq
def Sc.tok (r:Sc) (off:Nat):Tok:=⟨r.kind,off,r.n,r.text⟩
def q5r:Nat→List Tok→Nat→List UInt8→List Tok×Int×Int
 | 0,out,_,_=>(out,0,0)
 | _+1,out,_,[]=>(out,0,0)
 | f+1,out,off,c::r =>
  let s:=scan (c::r)
  if s.err=0∧out.length=5000 then ([],2,off)
  else if s.err≠0 then ([],s.err,off)
  else
   let l:=(c::r).drop s.width
   q5r f (out++[s.tok off]) (off+s.width+gap l) (l.drop (gap l))
def lex (l:List UInt8):List Tok×Int×Int :=
 if 20000<l.length then ([],2,-1) else q5r (l.length+1) [] (gap l) (l.drop (gap l))
theorem lexAt_nil (f:Nat) (out:List Tok) (off:Nat):q5r f out off []=(out,0,0):=by cases f <;> rfl
theorem lexAt_full (f:Nat) (out:List Tok) (off:Nat) (c:UInt8) (r:List UInt8) (h:(scan (c::r)).err=0) (hl:out.length=5000):q5r (f+1) out off (c::r)=([],2,(off:Int)):=by
 simp only [q5r];rw [if_pos ⟨h,hl⟩]
theorem lexAt_err (f:Nat) (out:List Tok) (off:Nat) (c:UInt8) (r:List UInt8) (h:(scan (c::r)).err≠0):q5r (f+1) out off (c::r)=([],(scan (c::r)).err,(off:Int)):=by
 simp only [q5r];rw [if_neg (λh'=>h h'.1),if_pos h]
theorem lexAt_tok (f:Nat) (out:List Tok) (off:Nat) (c:UInt8) (r:List UInt8) (h:(scan (c::r)).err=0) (hl:out.length≠5000) :
  q5r (f+1) out off (c::r)=q5r f (out++[(scan (c::r)).tok off]) (off+(scan (c::r)).width+gap ((c::r).drop (scan (c::r)).width)) (((c::r).drop (scan (c::r)).width).drop (gap ((c::r).drop (scan (c::r)).width))):=by
 simp only [q5r];rw [if_neg (λh'=>hl h'.2),if_neg (by simp [h])]
theorem qe3 (p:UInt8→Bool) (l:List UInt8):span p l≤l.length:=by
 unfold span
 induction l with
 | nil=>simp
 | cons c r ih=>rw [List.takeWhile_cons];split <;> simp [ih]
theorem gapc_le (l:List UInt8):∀ b,gapc b l≤l.length:=by
 induction l with
 | nil=>intro b;cases b <;> simp [gapc]
 | cons c r ih =>
  intro b;cases b
  ·have h1:=ih false
   have h2:=ih true;simp only [gapc,List.length_cons];split
   ·omega
   ·split <;> omega
  ·have h1:=ih false
   have h2:=ih true;simp only [gapc,List.length_cons];split <;> omega
theorem gap_le (l:List UInt8):gap l≤l.length:=gapc_le l false
def Fits (n:Nat) (r:Sc):Prop:=r.err=0→1≤r.width∧r.width≤n
theorem Fits.ite {n:Nat} {p:Prop} [Decidable p] {a b:Sc} (ha:p→Fits n a) (hb:¬ p→Fits n b):Fits n (if p then a else b):=by
 split
 ·exact ha ‹_›
 ·exact hb ‹_›
theorem Fits.bad (n:Nat) {e:Int} (h:e≠0):Fits n (bad e):=λh'=>absurd h' h
theorem qep (l:List UInt8):Fits l.length (scan l):=by
 cases l with
 | nil=>exact Fits.bad _ (by decide)
 | cons c r =>
  have hw:=qe3 isWord r;have hd:=qe3 isDigit r;have ht:=qe3 q37 r;rw [scan];refine Fits.ite (λ_=>?_) λ_=>Fits.ite (λ_=>?_) λ_=>Fits.ite (λ_=>?_) λ_=>Fits.ite (λh4=>?_) λ_=>Fits.ite (λ_=>?_) λ_=>Fits.bad _ (by decide)
  ·exact Fits.ite (λ_=>Fits.bad _ (by decide)) λ_ _=>⟨by simp only [];omega,by simp only [List.length_cons];omega⟩
  ·exact Fits.ite (λ_=>Fits.bad _ (by decide)) λ_ _=>⟨by simp only [];omega,by simp only [List.length_cons];omega⟩
  ·refine Fits.ite (λh4=>?_) λ_=>Fits.bad _ (by decide)
   have:span q37 r<r.length:=by
    rcases Nat.lt_or_ge (span q37 r) r.length with h5 | h5
    ·exact h5
    ·rw [List.drop_eq_nil_of_le h5] at h4;cases h4
   exact Fits.ite (λ_=>Fits.bad _ (by decide)) λ_ _=>⟨by simp only [];omega,by simp only [List.length_cons];omega⟩
  ·rw [Bool.and_eq_true] at h4
   cases r with
   | nil=>cases h4.2
   | cons d r=>exact λ_=>⟨by simp only [];omega,by simp only [List.length_cons];omega⟩
  ·exact λ_=>⟨by simp only [];omega,by simp only [List.length_cons];omega⟩
end Lx
namespace Lx
theorem qkb {p:UInt8→Bool} {c:UInt8} {l:List UInt8} (h:p c=true):span p (c::l)=span p l+1:=by simp [span,h]
theorem span_stop' {p:UInt8→Bool} {c:UInt8} {l:List UInt8} (h:p c=false):span p (c::l)=0:=by simp [span,h]
inductive LexOk:Nat→List UInt8→List Tok→Prop
 | done (off:Nat) (l:List UInt8) (h:l.drop (gap l)=[]):LexOk off l []
 | tok (off:Nat) (l:List UInt8) (ts:List Tok) (h:l.drop (gap l)≠[]) (he:(scan (l.drop (gap l))).err=0)
   (hr:LexOk (off+gap l+(scan (l.drop (gap l))).width) (l.drop (gap l+(scan (l.drop (gap l))).width)) ts):LexOk off l ((scan (l.drop (gap l))).tok (off+gap l)::ts)
inductive LexErr:Nat→List UInt8→Int→Nat→Prop
 | here (off:Nat) (l:List UInt8) (h:l.drop (gap l)≠[]) (he:(scan (l.drop (gap l))).err≠0):LexErr off l (scan (l.drop (gap l))).err (off+gap l)
 | later (off:Nat) (l:List UInt8) (e:Int) (a:Nat) (h:l.drop (gap l)≠[]) (he:(scan (l.drop (gap l))).err=0)
   (hr:LexErr (off+gap l+(scan (l.drop (gap l))).width) (l.drop (gap l+(scan (l.drop (gap l))).width)) e a):LexErr off l e a
theorem LexOk.det {off:Nat} {l:List UInt8} {ts ts':List Tok} (h:LexOk off l ts) (h':LexOk off l ts'):ts=ts':=by
 induction h generalizing ts' with
 | done off l h=>cases h' with
  | done=>rfl
  | tok _ _ _ h2=>exact absurd h h2
 | tok off l ts h he hr ih=>cases h' with
  | done _ _ h2=>exact absurd h2 h
  | tok _ _ ts2 h2 he2 hr2=>rw [ih hr2]
theorem LexOk.not_err {off:Nat} {l:List UInt8} {ts:List Tok} (h:LexOk off l ts) {e:Int} {a:Nat} (h':LexErr off l e a):False:=by
 induction h with
 | done off l h=>cases h' with
  | here _ _ h2=>exact h2 h
  | later _ _ _ _ h2=>exact h2 h
 | tok off l ts h he hr ih=>cases h' with
  | here _ _ h2 he2=>exact he2 he
  | later _ _ _ _ h2 he2 hr2=>exact ih hr2
theorem LexErr.det {off:Nat} {l:List UInt8} {e e':Int} {a a':Nat} (h:LexErr off l e a) (h':LexErr off l e' a'):e=e'∧a=a':=by
 induction h with
 | here off l h he=>cases h' with
  | here=>exact ⟨rfl,rfl⟩
  | later _ _ _ _ h2 he2=>exact absurd he2 he
 | later off l e a h he hr ih=>cases h' with
  | here _ _ h2 he2=>exact absurd he he2
  | later _ _ _ _ h2 he2 hr2=>exact ih hr2
theorem LexErr.ne {off:Nat} {l:List UInt8} {e:Int} {a:Nat} (h:LexErr off l e a):e≠0:=by
 induction h with
 | here off l h he=>exact he
 | later off l e a h he hr ih=>exact ih
theorem qbx (l:List UInt8):gap (l.drop (gap l))=0:=by
 have H:∀ (l:List UInt8) (b:Bool),gap (l.drop (gapc b l))=0:=by
  intro l
  induction l with
  | nil=>intro b;cases b <;> rfl
  | cons c r ih =>
   intro b;cases b
   ·simp only [gapc]
    split
    ·exact ih false
    ·split
     ·exact ih true
     ·rename_i h1 h2
      have h1':q2l c=false:=by simpa using h1
      have h2':(c==35)=false:=by simpa using h2
      simp only [List.drop_zero,gap,gapc,h1',h2',Bool.false_eq_true,if_false]
   ·simp only [gapc]
    split
    ·exact ih false
    ·exact ih true
 exact H l false
theorem width_pos {l:List UInt8} (h:(scan l).err=0):1≤(scan l).width:=(qep l h).1
theorem width_le {l:List UInt8} (h:(scan l).err=0):(scan l).width≤l.length:=(qep l h).2
theorem lexAt_spec (f:Nat):∀ (out:List Tok) (off:Nat) (l:List UInt8),gap l=0→l.length<f→out.length+l.length≤5000 →
  (∃ ts,LexOk off l ts∧q5r f out off l=(out++ts,0,0))∨(∃ e a,LexErr off l e a∧q5r f out off l=([],e,(a:Int))):=by
 induction f with
 | zero=>intro out off l _ h;omega
 | succ f ih =>
  intro out off l hg hf ho;cases l with
  | nil=>exact .inl ⟨[],.done _ _ (by simp),by rw [lexAt_nil];simp⟩
  | cons c r =>
   have hd:(c::r).drop (gap (c::r))=c::r:=by rw [hg];rfl
   by_cases he:(scan (c::r)).err=0
   ·have hlen:(c::r).length=r.length+1:=rfl
    have hne:out.length≠5000:=by omega
    rw [lexAt_tok f out off c r he hne];have hw:=width_pos he;have hw2:=width_le he;have hg2:=gap_le ((c::r).drop (scan (c::r)).width);rw [List.length_drop] at hg2;have key:=ih (out++[(scan (c::r)).tok off]) (off+(scan (c::r)).width+gap ((c::r).drop (scan (c::r)).width)) (((c::r).drop (scan (c::r)).width).drop (gap ((c::r).drop (scan (c::r)).width)))
     (qbx _) (by rw [List.length_drop,List.length_drop];omega) (by rw [List.length_append,List.length_drop,List.length_drop];simp only [List.length_singleton];omega)
    have back:∀ (o:Nat) (m:List UInt8),(∀ ts,LexOk (o+gap m) (m.drop (gap m)) ts→LexOk o m ts)∧(∀ e a,LexErr (o+gap m) (m.drop (gap m)) e a→LexErr o m e a):=by
     intro o m;have hz:=qbx m;have hdd:(m.drop (gap m)).drop (gap (m.drop (gap m)))=m.drop (gap m):=by rw [hz];rfl
     refine ⟨λts h=>?_,λe a h=>?_⟩
     ·cases h with
      | done _ _ h=>exact .done _ _ (by rwa [hdd] at h)
      | tok _ _ ts h he hr =>
       rw [hdd] at h he;rw [hdd,hz,Nat.zero_add,Nat.add_zero,List.drop_drop] at hr;rw [hdd,hz,Nat.add_zero];exact .tok _ _ _ h he hr
     ·cases h with
      | here _ _ h he =>
       rw [hdd] at h he;rw [hdd,hz,Nat.add_zero];exact .here _ _ h he
      | later _ _ _ _ h he hr =>
       rw [hdd] at h he;rw [hdd,hz,Nat.zero_add,Nat.add_zero,List.drop_drop] at hr;exact .later _ _ _ _ h he hr
    have hb:=back (off+(scan (c::r)).width) ((c::r).drop (scan (c::r)).width);have hne0:(c::r).drop (gap (c::r))≠[]:=by rw [hd];simp
    have he0:(scan ((c::r).drop (gap (c::r)))).err=0:=by rw [hd];exact he
    rcases key with ⟨ts,h1,h2⟩ | ⟨e,a,h1,h2⟩
    ·left
     refine ⟨(scan (c::r)).tok off::ts,?_,by rw [h2];simp⟩
     have h3:=LexOk.tok off (c::r) ts hne0 he0 (by rw [hd,hg];simpa using hb.1 ts h1)
     rw [hd,hg] at h3;exact h3
    ·right
     exact ⟨e,a,LexErr.later off (c::r) e a hne0 he0 (by rw [hd,hg];simpa using hb.2 e a h1),h2⟩
   ·right
    rw [lexAt_err f out off c r he];refine ⟨_,_,?_,rfl⟩;have h3:=LexErr.here off (c::r) (by rw [hd];simp) (by rw [hd];exact he)
    rw [hd,hg] at h3;exact h3
theorem LexOk.back {o:Nat} {m:List UInt8} {ts:List Tok} (h:LexOk (o+gap m) (m.drop (gap m)) ts):LexOk o m ts:=by
 have hz:=qbx m;have hdd:(m.drop (gap m)).drop (gap (m.drop (gap m)))=m.drop (gap m):=by rw [hz];rfl
 cases h with
 | done _ _ h=>exact .done _ _ (by rwa [hdd] at h)
 | tok _ _ ts h he hr =>
  rw [hdd] at h he;rw [hdd,hz,Nat.zero_add,Nat.add_zero,List.drop_drop] at hr;rw [hdd,hz,Nat.add_zero];exact .tok _ _ _ h he hr
theorem LexErr.back {o:Nat} {m:List UInt8} {e:Int} {a:Nat} (h:LexErr (o+gap m) (m.drop (gap m)) e a):LexErr o m e a:=by
 have hz:=qbx m;have hdd:(m.drop (gap m)).drop (gap (m.drop (gap m)))=m.drop (gap m):=by rw [hz];rfl
 cases h with
 | here _ _ h he =>
  rw [hdd] at h he;rw [hdd,hz,Nat.add_zero];exact .here _ _ h he
 | later _ _ _ _ h he hr =>
  rw [hdd] at h he;rw [hdd,hz,Nat.zero_add,Nat.add_zero,List.drop_drop] at hr;exact .later _ _ _ _ h he hr
theorem lex_small (l:List UInt8) (h:l.length≤5000):(∃ ts,LexOk 0 l ts∧lex l=(ts,0,0))∨(∃ e a,LexErr 0 l e a∧lex l=([],e,(a:Int))):=by
 unfold lex;rw [if_neg (by omega)]
 have hg:=gap_le l;rcases lexAt_spec (l.length+1) [] (gap l) (l.drop (gap l)) (qbx l) (by rw [List.length_drop];omega) (by rw [List.length_drop];simp;omega) with ⟨ts,h1,h2⟩ | ⟨e,a,h1,h2⟩
 ·exact .inl ⟨ts,LexOk.back (by rw [Nat.zero_add];exact h1),by rw [h2];rfl⟩
 ·exact .inr ⟨e,a,LexErr.back (by rw [Nat.zero_add];exact h1),h2⟩
theorem lex_ok {l:List UInt8} (h:l.length≤5000) {ts:List Tok} (hl:LexOk 0 l ts):lex l=(ts,0,0):=by
 rcases lex_small l h with ⟨ts',h1,h2⟩ | ⟨e,a,h1,_⟩
 ·rw [h2,hl.det h1]
 ·exact (hl.not_err h1).elim
end Lx
namespace Lx
theorem letter_gap (c:UInt8) (r:List UInt8) (h:q19 c=true):gap (c::r)=0:=by
 have H:∀ c:Fin 256,q19 (UInt8.ofNat c.val)=true→q2l (UInt8.ofNat c.val)=false∧(UInt8.ofNat c.val==35)=false:=by decide +kernel
 have h1:=H ⟨c.toNat,UInt8.toNat_lt c⟩;simp only [UInt8.ofNat_toNat] at h1;obtain ⟨h1,h2⟩:=h1 h;simp only [gap,gapc,h1,h2,Bool.false_eq_true,if_false]
theorem span_whole (p:UInt8→Bool) (q:List UInt8) (hq:∀ b∈q,p b=true):span p q=q.length:=by
 induction q with
 | nil=>rfl
 | cons a q ih=>rw [qkb (hq a (by simp)),ih (λb hb=>hq b (by simp [hb]))];rfl
theorem qlh (p:UInt8→Bool) (q:List UInt8) (h:span p q=q.length):∀ b∈q,p b=true:=by
 induction q with
 | nil=>simp
 | cons a q ih =>
  intro b hb;cases ha:p a
  ·rw [span_stop' ha] at h;simp at h
  ·rw [qkb ha] at h
   rcases List.mem_cons.1 hb with rfl | hb
   ·exact ha
   ·exact ih (by simpa using h) b hb
theorem scan_kind1 (l:List UInt8) (he:(scan l).err=0) (hk:(scan l).kind=1):∃ c r,l=c::r∧q19 c=true∧span isWord r+1≤24∧(scan l).text=(c::r).take (span isWord r+1)∧(scan l).width=span isWord r+1:=by
 cases l with
 | nil=>cases he
 | cons c r =>
  cases h1:q19 c
  ·exfalso
   rw [scan,if_neg (by rw [h1];decide)] at he hk
   split at hk
   ·simp only [] at hk
    split at hk <;> cases hk
   ·split at hk
    ·simp only [] at hk
     split at hk
     ·split at hk <;> cases hk
     ·cases hk
    ·split at hk
     ·cases hk
     ·split at hk <;> cases hk
  ·rw [scan,if_pos h1] at he ⊢
   simp only [] at he ⊢;by_cases h24:24<span isWord r+1
   ·rw [if_pos h24] at he;cases he
   ·rw [if_neg h24] at he ⊢
    exact ⟨c,r,rfl,h1,by omega,rfl,rfl⟩
theorem lex_name (s:List UInt8) (hs:s.length≤5000) (hn:q03 s=true):lex s=([⟨1,0,0,s⟩],0,0):=by
 unfold q03 at hn;rw [Bool.and_eq_true,Bool.and_eq_true,Bool.and_eq_true,decide_eq_true_eq,decide_eq_true_eq,List.all_eq_true] at hn;obtain ⟨⟨h1,h2,h3⟩,h4⟩:=hn;cases s with
 | nil=>cases h4
 | cons c r =>
  simp only [] at h4;have hg:=letter_gap c r h4;have hsp:=span_whole isWord r (λb hb=>h1 b (by simp [hb]))
  have hsc:scan (c::r)=⟨0,1,0,c::r,(c::r).length⟩:=by
   rw [scan,if_pos h4];simp only [];rw [hsp,if_neg (by rw [List.length_cons] at h3;omega),List.length_cons,show r.length+1=(c::r).length from rfl,List.take_length]
  have hok:LexOk 0 (c::r) [⟨1,(0:Nat),0,c::r⟩]:=by
   have h:=LexOk.tok 0 (c::r) [] (by rw [hg];simp) (by rw [hg,List.drop_zero,hsc]) (by
    rw [hg,List.drop_zero,hsc];exact LexOk.done _ _ (by simp))
   rw [hg,List.drop_zero,hsc] at h;exact h
  exact lex_ok hs hok
theorem name_lex (s:List UInt8) (hs:s.length≤5000) {t:Tok} {e a:Int} (h:lex s=([t],e,a)) (he:e=0) (hk:t.kind=1) (ht:t.text=s):q03 s=true:=by
 rcases lex_small s hs with ⟨ts,h1,h2⟩ | ⟨e',a',h1,h2⟩
 ·rw [h2] at h
  simp only [Prod.mk.injEq] at h;obtain ⟨rfl,_,_⟩:=h;cases h1 with
  | tok _ _ _ hne he' hr =>
   have hk':(scan (s.drop (gap s))).kind=1:=hk;have ht':(scan (s.drop (gap s))).text=s:=ht;obtain ⟨c,r,hd,hl,h24,h5,h6⟩:=scan_kind1 _ he' hk';rw [h5] at ht';have hlen:=congrArg List.length ht';rw [List.length_take] at hlen;have hdl:=congrArg List.length hd;rw [List.length_drop] at hdl;have hg:gap s=0:=by
    have:=gap_le s
    have:(c::r).length≤s.length:=by omega
    omega
   rw [hg,List.drop_zero] at hd;have hsl:=qe3 isWord r;have hsp:span isWord r=r.length:=by
    rw [hd,List.length_cons] at hlen;omega
   have hall:=qlh isWord r hsp;have hlw:isWord c=true:=by unfold isWord;rw [hl];rfl
   rw [hd];unfold q03;rw [Bool.and_eq_true,Bool.and_eq_true,Bool.and_eq_true,decide_eq_true_eq,decide_eq_true_eq,List.all_eq_true];refine ⟨⟨?_,by simp,?_⟩,hl⟩
   ·intro b hb
    rcases List.mem_cons.1 hb with rfl | hb
    ·exact hlw
    ·exact hall b hb
   ·rw [List.length_cons];omega
 ·rw [h2] at h
  simp at h
end Lx
open Go.RowKit R Geo.Zn
theorem mixed:Tryz.prog.follows .mixedOrders=true:=by kernel_rfl
abbrev kPt:Kds:=.cons (.int .i64) (.one (.int .i64))
abbrev ckPt:CK:=.agg kPt
abbrev q1c:CK:=.one (.sl kPt)
abbrev q0u:CK:=.one .bool
abbrev q0n:CK:=.one (.int .i64)
abbrev ckStr1:CK:=.one .str
abbrev kSeg:Kds:=.cons (.int .i64) (.cons (.int .i64) (.cons (.int .i64) (.cons (.int .i64) kPt)))
abbrev ckSeg:CK:=.agg kSeg
abbrev SegP:Type:=Int×Int×Int×Int×Int×Int
def segI (a b:P2):SegP:=(a.1,a.2,b.1,b.2,b.1-a.1,b.2-a.2)
def q1a (s:SegP) (p:P2):Int:=sgn (s.2.2.2.2.1*(p.2-s.2.1)-s.2.2.2.2.2*(p.1-s.1))
def q3m (s:SegP):Prop:=onB (s.1,s.2.1)=true∧(-32767≤s.2.2.2.2.1∧s.2.2.2.2.1≤32767)∧(-32767≤s.2.2.2.2.2∧s.2.2.2.2.2≤32767)
theorem side_seg (a b p:P2):q1a (segI a b) p=sgn (q0a a b p):=rfl
theorem seg_ok {a b:P2} (ha:onB a=true) (hb:onB b=true):q3m (segI a b):=by
 have h1:=Zl.q0x ha;have h2:=Zl.q0x hb;refine ⟨ha,?_,?_⟩ <;> (unfold segI;dsimp only;omega)
def cOn:Con:=.of 37 [ckPt] [q0u] (λ_=>True) onB
def cOnL:Con:=.of 105 [q1c] [q0u] (λl=>List.length l≤1000) (λl=>List.all l onB)
def anOnL (l:List P2):List (Nat×Ann) :=
 [ann 0 Nat [0,5,6] (λk=>[(7,R.int .i64 k)]) (λk=>k≤l.length∧(l.take k).all onB=true) (λk=>l.length-k)]
def cFrom:Con:=.of 109 [ckPt,ckPt] [ckPt] (λp=>onB p.1=true∧onB p.2=true) (λp=>(p.2.1-p.1.1,p.2.2-p.1.2))
def VecOk (p:P2×P2):Prop:=(-32767≤p.1.1∧p.1.1≤32767)∧(-32767≤p.1.2∧p.1.2≤32767)∧(-32767≤p.2.1∧p.2.1≤32767)∧(-32767≤p.2.2∧p.2.2≤32767)
def cAlong:Con:=.of 110 [ckPt,ckPt] [q0n] VecOk (λp=>p.1.1*p.2.1+p.1.2*p.2.2)
def cArea:Con:=.of 128 [ckPt,ckPt] [q0n] VecOk (λp=>p.1.1*p.2.2-p.1.2*p.2.1)
def cOpen:Con:=.of 106 [ckPt,ckPt] [ckSeg] (λp=>onB p.1=true∧onB p.2=true) (λp=>segI p.1 p.2)
def cSide:Con:=.of 107 [ckSeg,ckPt] [q0n] (λp=>q3m p.1∧onB p.2=true) (λp=>q1a p.1 p.2)
def cTurn:Con:=.of 72 [ckPt,ckPt,ckPt] [q0n] (λ_=>True) (λp=>q18 p.1 p.2.1 p.2.2)
def cDist:Con:=.of 81 [ckPt,ckPt] [q0n] (λ_=>True) (λp=>q0f p.1 p.2)
def cBet:Con:=.of 78 [ckPt,ckPt,ckPt] [q0u] (λ_=>True) (λp=>betI p.1 p.2.1 p.2.2)
def cCross:Con:=.of 73 [ckPt,ckPt,ckPt,ckPt] [q0n] (λp=>onB p.1=true∧onB p.2.1=true∧onB p.2.2.1=true∧onB p.2.2.2=true) (λp=>q0j p.1 p.2.1 p.2.2.1 p.2.2.2)
def fSide:FCon:={ f:=107,args:=[ckSeg,ckPt],fa:=.no,res:=[q0n],pre:=λp _=>q3m p.1∧onB p.2=true,F:=λp _=>q1a p.1 p.2 }
namespace R
def Get.q3n (ks:Kds) (b:Nat) (st:St):ks.Pay:=match st.box b with
 | some cs=>match q10 ks cs with
  | some p=>p
  | none=>ks.dflt
 | none=>ks.dflt
def Get.bndOf (ks:Kds) (t:Nat) (st:St):ks.Pay:=match st.get t with
 | .c (.one (.bnd _ (.agg ks') p))=>match ks'.deq ks with
  | some ⟨h⟩=>h▸p
  | none=>ks.dflt
 | _=>ks.dflt
def Get.boxB (b:Nat) (st:St):Bool:=match st.box b with
 | some [.val .bool q]=>q
 | _=>false
def annX (l:Nat) (ι:Type) (at_:St→ι→St) (inv:St→ι→Prop) (mu:St→ι→Nat):Nat×Ann:=(l,{ ι:=ι,at_:=at_,inv:=inv,mu:=mu })
end R
def savK:Nat→List (Nat×List Nat)→List Nat
 | _,[]=>[]
 | off,(n,l)::r=>l.map (·+off)++savK (off+n) r
def anCrI (a b c d:P2):Nat→List (Nat×Ann):=λf=>bif Nat.beq f 108 then
 [qe2 1 Unit (λst _=>st.hd { live:=[],sav:=savK 0 [(61,[4,5,9,10,54])],box:=[4,5,6,7,9,10] } [(6,R.bool (bif st.off.beq 54000 then q2q a b c d else q2q c d a b))] [] [] [] none) (λ_ _=>True)] else []
noncomputable def kitCr:Kit:={ cons:=[cOnL,cOpen,cBet],fcs:=[fSide],inls:=[(108,Tryz.f108)] }
abbrev kTok:Kds:=.cons (.int .i64) (.cons (.int .i64) (.cons (.int .i64) (.one .str)))
def tokP (t:Lx.Tok):Int×Int×Int×List UInt8:=(t.kind,t.pos,t.n,t.text)
def lexP (s:List UInt8):List (Int×Int×Int×List UInt8)×Int×Int:=((Lx.lex s).1.map tokP,(Lx.lex s).2.1,(Lx.lex s).2.2)
def cLex:Con:=.of 43 [.one .str] [.one (.sl kTok),.one (.int .i64),.one (.int .i64)] (λs=>List.length s≤1000) lexP
def cIsName:Con:=.of 23 [ckStr1] [q0u] (λs=>List.length s≤1000) Lx.q03
end Go.Proofs.YtednmlmllbkhhaaGreatDoor
namespace Go.Proofs.YtednmlmllbkhhaaGreatDoor
namespace Zl
open Geo Geo.Zn
abbrev z0:P2:=((0:Int),(0:Int))
def UpTo (f:P2→Int) (L:List P2) (k:Nat):Prop:=∀ m n,m<n→n<k→f (L.getD m z0)≤f (L.getD n z0)
def InsAt (f:P2→Int) (O L:List P2) (i j:Nat):Prop:=L.Perm O∧j≤i∧i<L.length∧(∀ m n,m<n→n≤i→m≠j→n≠j→f (L.getD m z0)≤f (L.getD n z0))∧∀ n,j<n→n≤i→f (L.getD j z0)≤f (L.getD n z0)
def swapL (L:List P2) (j:Nat):List P2:=(L.set j (L.getD (j-1) z0)).set (j-1) (L.getD j z0)
theorem qgd (L:List P2) (i k:Nat) (x:P2) (hi:i<L.length):(L.set i x).getD k z0=if k=i then x else L.getD k z0:=by
 rw [List.getD_eq_getElem?_getD,List.getElem?_set];by_cases h:i=k
 ·subst h;rw [if_pos rfl,if_pos hi,if_pos rfl];rfl
 ·rw [if_neg h,if_neg (λe=>h e.symm),List.getD_eq_getElem?_getD]
theorem qec (L:List P2) {j:Nat} (hj:j<L.length) (h0:0<j) (k:Nat):(swapL L j).getD k z0=if k=j-1 then L.getD j z0 else if k=j then L.getD (j-1) z0 else L.getD k z0:=by
 unfold swapL;rw [qgd _ _ _ _ (by rw [List.length_set];omega),qgd _ _ _ _ hj]
theorem swap_len (L:List P2) (j:Nat):(swapL L j).length=L.length:=by
 unfold swapL;rw [List.length_set,List.length_set]
theorem swap_perm (L:List P2) {j:Nat} (hj:j<L.length) (h0:0<j):(swapL L j).Perm L:=by
 rw [List.perm_iff_count];intro a;unfold swapL;have hj1:j-1<L.length:=by omega
 rw [List.count_set (by rw [List.length_set];exact hj1),List.count_set hj]
 have e1:(L.set j (L.getD (j-1) z0))[j-1]'(by rw [List.length_set];exact hj1)=L[j-1]:=by rw [List.getElem_set,if_neg (by omega)]
 rw [e1];have e2:L.getD j z0=L[j]:=by rw [List.getD_eq_getElem?_getD,List.getElem?_eq_getElem hj];rfl
 have e3:L.getD (j-1) z0=L[j-1]:=by rw [List.getD_eq_getElem?_getD,List.getElem?_eq_getElem hj1];rfl
 rw [e2,e3];have hp1:L[j]==a→0<L.count a:=λh=>List.count_pos_iff.2 (by rw [← eq_of_beq h];exact List.getElem_mem hj)
 by_cases h1:L[j]==a <;> by_cases h2:L[j-1]==a <;> simp only [h1,h2,if_true,if_false,Bool.false_eq_true]
 ·have:=hp1 h1;omega
 ·have:=hp1 h1;omega
 ·omega
 ·omega
theorem ins_start {f:P2→Int} {O L:List P2} {i:Nat} (hp:L.Perm O) (hi:i<L.length) (h:UpTo f L i):InsAt f O L i i :=
 ⟨hp,Nat.le_refl _,hi,λm n h1 h2 h3 h4=>h m n h1 (by omega),λn h1 h2=>by omega⟩
theorem ins_step {f:P2→Int} {O L:List P2} {i j:Nat} (h:InsAt f O L i j) (h0:0<j) (hlt:f (L.getD j z0)<f (L.getD (j-1) z0)):InsAt f O (swapL L j) i (j-1):=by
 obtain ⟨hp,hji,hi,h1,h2⟩:=h;have hj:j<L.length:=by omega
 refine ⟨(swap_perm L hj h0).trans hp,by omega,by rw [swap_len];exact hi,λm n hmn hn hm1 hn1=>?_,λn hn1 hn2=>?_⟩
 ·rw [qec L hj h0,qec L hj h0,if_neg hm1,if_neg hn1]
  by_cases hmj:m=j
  ·rw [if_pos hmj,if_neg (by omega)]
   exact h1 (j-1) n (by omega) hn (by omega) (by omega)
  ·rw [if_neg hmj]
   by_cases hnj:n=j
   ·rw [if_pos hnj]
    exact h1 m (j-1) (by omega) (by omega) hmj (by omega)
   ·rw [if_neg hnj];exact h1 m n hmn hn hmj hnj
 ·rw [qec L hj h0,qec L hj h0,if_pos rfl,if_neg (by omega)]
  by_cases hnj:n=j
  ·rw [if_pos hnj];omega
  ·rw [if_neg hnj];exact h2 n (by omega) hn2
theorem ins_end {f:P2→Int} {O L:List P2} {i j:Nat} (h:InsAt f O L i j) (he:j=0∨f (L.getD (j-1) z0)≤f (L.getD j z0)):UpTo f L (i+1):=by
 obtain ⟨hp,hji,hi,h1,h2⟩:=h;intro m n hmn hn;by_cases hmj:m=j
 ·subst hmj;exact h2 n hmn (by omega)
 ·by_cases hnj:n=j
  ·subst hnj
   rcases he with he | he
   ·omega
   ·by_cases hm:m=n-1
    ·rw [hm];exact he
    ·exact Int.le_trans (h1 m (n-1) (by omega) (by omega) hmj (by omega)) he
  ·exact h1 m n hmn (by omega) hmj hnj
def q3b:P2→List P2→List P2
 | _,[]=>[]
 | x,y::r=>if y==x then q3b y r else y::q3b y r
def q2i:List P2→List P2
 | []=>[]
 | x::r=>x::q3b x r
theorem ql1 (y:P2):∀ (r:List P2) (x:P2),q3b x (r++[y])=q3b x r++(if y==(x::r).getD r.length z0 then [] else [y])
 | [],x=>by
  show (if y==x then q3b y [] else y::q3b y [])=_
  rfl
 | a::r,x=>by
  have ih:=ql1 y r a;show (if a==x then q3b a (r++[y]) else a::q3b a (r++[y]))=(if a==x then q3b a r else a::q3b a r)++(if y==(a::r).getD r.length z0 then [] else [y])
  rw [ih];split <;> rfl
theorem qcg (l:List P2) {k:Nat} (h1:1≤k) (hk:k<l.length):q2i (l.take (k+1))=q2i (l.take k)++(if l.getD k z0==l.getD (k-1) z0 then [] else [l.getD k z0]):=by
 cases l with
 | nil=>cases hk
 | cons x r =>
  have e1:(x::r).take (k+1)=x::(r.take (k-1)++[(x::r).getD k z0]):=by
   rw [q2d (x::r) z0 k hk];obtain ⟨q,rfl⟩:∃ q,k=q+1:=⟨k-1,by omega⟩
   rfl
  have e2:(x::r).take k=x::r.take (k-1):=by
   obtain ⟨q,rfl⟩:∃ q,k=q+1:=⟨k-1,by omega⟩
   rfl
  rw [e1,e2];show x::q3b x (r.take (k-1)++[(x::r).getD k z0])=x::q3b x (r.take (k-1))++_;rw [ql1];have hl:(r.take (k-1)).length=k-1:=by rw [List.length_take];rw [List.length_cons] at hk;omega
  have e3:(x::r.take (k-1)).getD (r.take (k-1)).length z0=(x::r).getD (k-1) z0:=by
   rw [hl,← e2,List.getD_eq_getElem?_getD,List.getD_eq_getElem?_getD,List.getElem?_take,if_pos (by omega)]
  rw [e3];rfl
theorem qgu:∀ (r:List P2) (x:P2),(q3b x r).Sublist r
 | [],x=>List.Sublist.refl _
 | y::r,x=>by
  show (if y==x then q3b y r else y::q3b y r).Sublist _
  split
  ·exact (qgu r y).cons _
  ·exact (qgu r y).cons_cons _
theorem comp_sub (l:List P2):(q2i l).Sublist l:=by
 cases l with
 | nil=>exact List.Sublist.refl _
 | cons x r=>exact (qgu r x).cons_cons _
theorem compF_mem:∀ (r:List P2) (x p:P2),p∈r→p=x∨p∈q3b x r
 | y::r,x,p,h=>by
  show p=x∨p∈(if y==x then q3b y r else y::q3b y r)
  rcases List.mem_cons.1 h with e | h
  ·by_cases c:y==x
   ·exact .inl (e.trans (eq_of_beq c))
   ·rw [if_neg c];exact .inr (List.mem_cons.2 (.inl e))
  ·rcases compF_mem r y p h with e | h
   ·by_cases c:y==x
    ·exact .inl (e.trans (eq_of_beq c))
    ·rw [if_neg c];exact .inr (List.mem_cons.2 (.inl e))
   ·right
    split
    ·exact h
    ·exact List.mem_cons_of_mem _ h
theorem qbm (l:List P2) (p:P2):p∈q2i l↔p∈l:=by
 refine ⟨λh=>(comp_sub l).subset h,λh=>?_⟩
 cases l with
 | nil=>exact h
 | cons x r =>
  rcases List.mem_cons.1 h with e | h
  ·exact List.mem_cons.2 (.inl e)
  ·rcases compF_mem r x p h with e | h
   ·exact List.mem_cons.2 (.inl e)
   ·exact List.mem_cons_of_mem _ h
theorem compF_up {f:P2→Int}:∀ (r:List P2) (x:P2),(x::r).Pairwise (λp q=>f p≤f q)→(∀ p∈x::r,∀ q∈x::r,f p=f q→p=q)→(x::q3b x r).Pairwise (λp q=>f p<f q)
 | [],x,_,_=>List.pairwise_singleton _ _
 | y::r,x,h,hinj=>by
  have h2:(y::r).Pairwise (λp q=>f p≤f q):=(List.pairwise_cons.1 h).2
  have ih:=compF_up r y h2 (λp hp q hq=>hinj p (List.mem_cons_of_mem _ hp) q (List.mem_cons_of_mem _ hq))
  have hxy:=(List.pairwise_cons.1 h).1 y (List.mem_cons_self ..);show (x::(if y==x then q3b y r else y::q3b y r)).Pairwise _
  by_cases c:y==x
  ·rw [if_pos c]
   obtain rfl:=eq_of_beq c;exact ih
  ·rw [if_neg c]
   have hlt:f x<f y:=by
    rcases Int.lt_or_eq_of_le hxy with h | h
    ·exact h
    ·exact absurd (hinj y (List.mem_cons_of_mem _ (List.mem_cons_self ..)) x (List.mem_cons_self ..) h.symm) (by simpa using c)
   refine List.pairwise_cons.2 ⟨λq hq=>?_,ih⟩
   rcases List.mem_cons.1 hq with e | hq
   ·rw [e];exact hlt
   ·exact Int.lt_trans hlt ((List.pairwise_cons.1 ih).1 q hq)
theorem comp_up {f:P2→Int} (l:List P2) (h:l.Pairwise (λp q=>f p≤f q)) (hinj:∀ p∈l,∀ q∈l,f p=f q→p=q):(q2i l).Pairwise (λp q=>f p<f q):=by
 cases l with
 | nil=>exact List.Pairwise.nil
 | cons x r=>exact compF_up r x h hinj
theorem up_pairwise {f:P2→Int} {L:List P2} (h:UpTo f L L.length):L.Pairwise (λp q=>f p≤f q):=by
 rw [List.pairwise_iff_getElem];intro i j hi hj hij;have:=h i j hij hj
 rwa [List.getD_eq_getElem?_getD,List.getElem?_eq_getElem hi,List.getD_eq_getElem?_getD,List.getElem?_eq_getElem hj] at this
def cutsL (y:List P2) (a b:P2):List P2:=a::b::y.filter λp=>betI p a b
theorem qjw {y:List P2} {a b:P2} (ha:onB a=true) (hb:onB b=true) (hab:a≠b) {L:List P2} (hp:L.Perm (cutsL y a b)) (hu:UpTo (q0f a) L L.length):q2i L=q0p y a b:=by
 have hmem:∀ p,p∈L↔p=a∨p=b∨(p∈y∧betI p a b=true):=λp=>by
  rw [hp.mem_iff];unfold cutsL;rw [List.mem_cons,List.mem_cons,List.mem_filter]
 have on:∀ p∈L,onB p=true∧OnS (pt a) (pt b) (pt p):=λp h=>by
  have hbet:betI p a b=true:=by
   rcases (hmem p).1 h with rfl | rfl | ⟨_,h⟩
   ·unfold betI;simp [ha,hb]
   ·unfold betI;simp [ha,hb]
   ·exact h
  exact ⟨q6m hbet,(q27 (q6m hbet) ha hb hab).1 hbet⟩
 refine stops_eq ha hb hab ⟨comp_up L (up_pairwise hu) λp h1 q h2 e=>seg_inj ha hab (on p h1).1 (on q h2).1 (on p h1).2 (on q h2).2 e,λp=>?_⟩
 rw [qbm,hmem]
theorem q95:∀ l:List P2,(q2j l).length=l.length-1
 | []=>rfl
 | [_]=>rfl
 | p::q::r=>by
  show ((p.1+q.1,p.2+q.2)::q2j (q::r)).length=_;rw [List.length_cons,q95 (q::r)];simp
theorem mids_get:∀ (l:List P2) (k:Nat),k+1<l.length→(q2j l).getD k z0=((l.getD k z0).1+(l.getD (k+1) z0).1,(l.getD k z0).2+(l.getD (k+1) z0).2)
 | [],k,h=>by simp at h
 | [_],k,h=>by simp at h
 | p::q::r,0,h=>rfl
 | p::q::r,k+1,h=>mids_get (q::r) k (by simp at h ⊢;omega)
theorem mids_take (l:List P2) {k:Nat} (h:k+1<l.length):(q2j l).take (k+1)=(q2j l).take k++[((l.getD k z0).1+(l.getD (k+1) z0).1,(l.getD k z0).2+(l.getD (k+1) z0).2)]:=by
 rw [q2d _ z0 k (by rw [q95];omega),mids_get l k h]
def q36 (x y:List P2) (i:Nat):List P2:=(List.range i).flatMap λi=>q2j (q0p y (rAt x i) (rAt x (i+1)))
theorem qfg (x y:List P2) (i:Nat):q36 x y (i+1)=q36 x y i++q2j (q0p y (rAt x i) (rAt x (i+1))):=by
 unfold q36;rw [List.range_succ,List.flatMap_append];simp
def twoOf:List Bool→Prop
 | a::b::c::r=>(a&&b&&c)=false∧twoOf (b::c::r)
 | _=>True
theorem two_count:∀ l:List Bool,twoOf l→l.count true≤2*(l.length / 3)+l.length % 3
 | [],_=>Nat.zero_le _
 | [a],_=>by cases a <;> decide
 | [a,b],_=>by cases a <;> cases b <;> decide
 | a::b::c::r,h=>by
  have hr:twoOf r:=by
   have h1:=h.2
   match r,h1 with
   | [],_=>trivial
   | [x],_=>trivial
   | x::y::q,h1=>exact h1.2.2
  have ih:=two_count r hr;have h3:(a::b::c::r).count true≤2+r.count true:=by
   have:=h.1
   cases a <;> cases b <;> cases c <;> simp_all <;> omega
  simp only [List.length_cons] at *
  omega
theorem line_three {a b p q r:P2} (hab:a≠b) (hp:q0a a b p=0) (hq:q0a a b q=0) (hr:q0a a b r=0):q0a p q r=0:=by
 unfold q0a at *
 obtain ⟨a1,a2⟩:=a;obtain ⟨b1,b2⟩:=b;obtain ⟨p1,p2⟩:=p;obtain ⟨q1,q2⟩:=q;obtain ⟨r1,r2⟩:=r;simp only at *
 have hne:b1-a1≠0∨b2-a2≠0:=by
  by_cases h:b1-a1=0
  ·by_cases h':b2-a2=0
   ·exact absurd (by rw [show a1=b1 by omega,show a2=b2 by omega]) hab
   ·exact .inr h'
  ·exact .inl h
 have k1:(b1-a1)*((q1-p1)*(r2-p2)-(q2-p2)*(r1-p1))=0:=by grind
 have k2:(b2-a2)*((q1-p1)*(r2-p2)-(q2-p2)*(r1-p1))=0:=by grind
 rcases hne with h | h
 ·exact (Int.mul_eq_zero.1 k1).resolve_left h
 ·exact (Int.mul_eq_zero.1 k2).resolve_left h
theorem qjc {p a b:P2} (h:betI p a b=true):q0a a b p=0:=by
 unfold betI at h;simp only [Bool.and_eq_true,Bool.or_eq_true,beq_iff_eq,decide_eq_true_eq] at h;rcases h.2 with (e | e) | h
 ·rw [e];unfold q0a;simp
 ·rw [e];unfold q0a;grind
 ·exact h.1
theorem two_map (f:P2→Bool):∀ l:List P2,(∀ i,i+2<l.length→(f (l.getD i z0)&&f (l.getD (i+1) z0)&&f (l.getD (i+2) z0))=false)→twoOf (l.map f)
 | [],_=>trivial
 | [_],_=>trivial
 | [_,_],_=>trivial
 | a::b::c::r,h=>⟨h 0 (by simp),two_map f (b::c::r) λi hi=>h (i+1) (by simp at hi ⊢;omega)⟩
theorem qgn (f:P2→Bool):∀ l:List P2,(l.map f).count true=(l.filter f).length
 | []=>rfl
 | x::r=>by
  have ih:=qgn f r;rw [List.map_cons,List.count_cons,List.filter_cons,ih];cases f x <;> simp
theorem cuts_few {y:List P2} (hv:q05 y=true) (h12:y.length≤12) {a b:P2} (hab:a≠b):(cutsL y a b).length≤12:=by
 have hy:=q7u hv;have key:∀ i,i+2<y.length→((betI (y.getD i z0) a b&&betI (y.getD (i+1) z0) a b&&betI (y.getD (i+2) z0) a b))=false:=λi hi=>by
  rw [at0 y (show i<y.length by omega),at0 y (show i+1<y.length by omega),at0 y (show i+2<y.length by omega)]
  rw [← Bool.not_eq_true];intro h;simp only [Bool.and_eq_true] at h;exact hy.q4g i (line_three hab (qjc h.1.1) (qjc h.1.2) (qjc h.2))
 have h:=two_count _ (two_map (λp=>betI p a b) y key)
 rw [qgn,List.length_map] at h;show ((y.filter λp=>betI p a b).length+1)+1≤12
 omega
def CoAt (l c:List P2) (k kk k2:Nat):Prop:=1≤k∧k<l.length∧1≤k2∧k+k2≤l.length∧kk+1≤k+k2∧1≤kk∧c.length=l.length∧c.drop kk=l.drop kk∧c.take kk=q2i (l.take (k+k2))
theorem co_start {l:List P2} {k:Nat} (h1:1≤k) (hk:k<l.length) (hc:q2i (l.take k)=l.take k) (he:(l.getD k z0==l.getD (k-1) z0)=true):CoAt l l k k 1 :=
 ⟨h1,hk,Nat.le_refl _,by omega,Nat.le_refl _,h1,rfl,rfl,by rw [qcg l h1 hk,hc,if_pos he,List.append_nil]⟩
theorem q1r {l c:List P2} {kk i:Nat} (h:c.drop kk=l.drop kk) (hi:kk≤i):c.getD i z0=l.getD i z0:=by
 have:=congrArg (λq=>q[i-kk]?) h
 simp only [List.getElem?_drop] at this;rw [show kk+(i-kk)=i by omega] at this
 rw [List.getD_eq_getElem?_getD,List.getD_eq_getElem?_getD,this]
theorem co_keep {l c:List P2} {k kk k2:Nat} (h:CoAt l c k kk k2) (h2:k+k2<l.length) (he:(c.getD (k+k2) z0==c.getD (k+k2-1) z0)=false):CoAt l (c.set kk (c.getD (k+k2) z0)) k (kk+1) (k2+1):=by
 obtain ⟨a1,a2,a3,a4,a5,a6,a7,a8,a9⟩:=h;rw [q1r a8 (show kk≤k+k2 by omega),q1r a8 (show kk≤k+k2-1 by omega)] at he
 rw [q1r a8 (show kk≤k+k2 by omega)]
 refine ⟨a1,a2,by omega,by omega,by omega,by omega,by rw [List.length_set];exact a7,?_,?_⟩
 ·rw [List.drop_set_of_lt (by omega)]
  have:=congrArg (List.drop 1) a8
  rwa [List.drop_drop,List.drop_drop] at this
 ·rw [show k+(k2+1)=(k+k2)+1 by omega,qcg l (show 1≤k+k2 by omega) h2,he,← a9]
  rw [q2d _ z0 kk (by rw [List.length_set];omega),List.take_set_of_le (Nat.le_refl _),qgd _ _ _ _ (by omega),if_pos rfl]
  rfl
theorem co_skip {l c:List P2} {k kk k2:Nat} (h:CoAt l c k kk k2) (h2:k+k2<l.length) (he:(c.getD (k+k2) z0==c.getD (k+k2-1) z0)=true):CoAt l c k kk (k2+1):=by
 obtain ⟨a1,a2,a3,a4,a5,a6,a7,a8,a9⟩:=h;rw [q1r a8 (show kk≤k+k2 by omega),q1r a8 (show kk≤k+k2-1 by omega)] at he
 refine ⟨a1,a2,by omega,by omega,by omega,a6,a7,a8,?_⟩
 rw [show k+(k2+1)=(k+k2)+1 by omega,qcg l (show 1≤k+k2 by omega) h2,he,← a9]
 simp
theorem co_end {l c:List P2} {k kk k2:Nat} (h:CoAt l c k kk k2) (h2:l.length≤k+k2) (r:List P2):(c.take kk++r).take kk=q2i l:=by
 obtain ⟨a1,a2,a3,a4,a5,a6,a7,a8,a9⟩:=h;have hl:(c.take kk).length=kk:=by rw [List.length_take];omega
 rw [List.take_append_of_le_length (by omega),List.take_of_length_le (by omega),a9,List.take_of_length_le h2]
theorem qeb (a b:P2):0≤q0f a b∧q0f a b≤2147352578:=by
 unfold q0f;split
 ·rename_i h
  rw [Bool.and_eq_true] at h;have h1:=q0x h.1;have h2:=q0x h.2;have m1:=q3w (a:=b.1-a.1) (b:=b.1-a.1) (by omega) (by omega) (by omega) (by omega)
  have m2:=q3w (a:=b.2-a.2) (b:=b.2-a.2) (by omega) (by omega) (by omega) (by omega)
  have n1:0≤(b.1-a.1)*(b.1-a.1):=by
   rcases Int.le_total 0 (b.1-a.1) with h | h
   ·exact Int.mul_nonneg h h
   ·exact Int.mul_nonneg_of_nonpos_of_nonpos h h
  have n2:0≤(b.2-a.2)*(b.2-a.2):=by
   rcases Int.le_total 0 (b.2-a.2) with h | h
   ·exact Int.mul_nonneg h h
   ·exact Int.mul_nonneg_of_nonpos_of_nonpos h h
  omega
 ·omega
theorem two_of_ne {l:List P2} {a b:P2} (ha:a∈l) (hb:b∈l) (hab:a≠b):2≤l.length:=by
 match l,ha,hb with
 | [x],ha,hb=>exact absurd ((List.mem_singleton.1 ha).trans (List.mem_singleton.1 hb).symm) hab
 | x::y::r,_,_=>simp
theorem qf7 (l:List P2):q2i (l.take 1)=l.take 1:=by
 cases l <;> rfl
theorem stops_len {y:List P2} (hv:q05 y=true) (h12:y.length≤12) {a b:P2} {L:List P2} (hab:a≠b) (hp:L.Perm (cutsL y a b)):(q2i L).length≤12:=by
 have h1:=(comp_sub L).length_le;have h2:=cuts_few hv h12 hab;rw [hp.length_eq] at h1;omega
theorem ins_stops (y:List P2) (a b:P2):∃ L:List P2,L.Perm (cutsL y a b)∧UpTo (q0f a) L L.length:=by
 refine ⟨(cutsL y a b).mergeSort λp q=>decide (q0f a p≤q0f a q),List.mergeSort_perm _ _,?_⟩
 have hs:=List.pairwise_mergeSort (le:=λp q:P2=>decide (q0f a p≤q0f a q)) (λp q r h1 h2=>decide_eq_true (Int.le_trans (of_decide_eq_true h1) (of_decide_eq_true h2))) (λp q=>by
  rcases Int.le_total (q0f a p) (q0f a q) with h | h
  ·rw [decide_eq_true h];rfl
  ·rw [decide_eq_true h,Bool.or_true]) (cutsL y a b)
 rw [List.pairwise_iff_getElem] at hs;intro m n hmn hn;have:=of_decide_eq_true (hs m n (by omega) hn hmn)
 rwa [List.getD_eq_getElem?_getD,List.getElem?_eq_getElem (by omega),List.getD_eq_getElem?_getD,List.getElem?_eq_getElem hn]
theorem q9t {x y:List P2} (hvx:q05 x=true) (hvy:q05 y=true) (h12:y.length≤12):∀ i,(q36 x y i).length≤i*12
 | 0=>by simp [q36]
 | i+1=>by
  have ih:=q9t hvx hvy h12 i;have hx:=q7u hvx;obtain ⟨L,h1,h2⟩:=ins_stops y (rAt x i) (rAt x (i+1));have h3:=qjw (hx.on' i) (hx.on' (i+1)) (hx.ne i) h1 h2;have h4:=stops_len hvy h12 (hx.ne i) h1;rw [qfg,List.length_append,q95,← h3];omega
theorem mids_from:∀ (l:List P2) (m:P2),m∈q2j l→∃ p q,p∈l∧q∈l∧m=(p.1+q.1,p.2+q.2)
 | [],m,h=>by cases h
 | [_],m,h=>by cases h
 | p::q::r,m,h=>by
  have h:m∈(p.1+q.1,p.2+q.2)::q2j (q::r):=h;rcases List.mem_cons.1 h with e | h
  ·exact ⟨p,q,List.mem_cons_self ..,List.mem_cons_of_mem _ (List.mem_cons_self ..),e⟩
  ·obtain ⟨p',q',h1,h2,e⟩:=mids_from (q::r) m h
   exact ⟨p',q',List.mem_cons_of_mem _ h1,List.mem_cons_of_mem _ h2,e⟩
def q0r (p:P2):Prop:=(0≤p.1∧p.1≤65534)∧(0≤p.2∧p.2≤65534)
theorem qbv {x y:List P2} (hvx:q05 x=true) (hvy:q05 y=true) {m:P2} (h:m∈q02 x y):q0r m:=by
 have hx:=q7u hvx;unfold q02 at h;rw [List.mem_flatMap] at h;obtain ⟨i,_,h⟩:=h;obtain ⟨p,q,hp,hq,rfl⟩:=mids_from _ _ h;obtain ⟨L,h1,h2⟩:=ins_stops y (rAt x i) (rAt x (i+1));have h3:=qjw (hx.on' i) (hx.on' (i+1)) (hx.ne i) h1 h2;have on:∀ p∈q0p y (rAt x i) (rAt x (i+1)),onB p=true:=λp hp=>by
  rw [← h3,qbm,h1.mem_iff] at hp;rcases List.mem_cons.1 hp with e | hp
  ·rw [e];exact hx.on' i
  ·rcases List.mem_cons.1 hp with e | hp
   ·rw [e];exact hx.on' (i+1)
   ·exact q6m (List.mem_filter.1 hp).2
 have o1:=q0x (on p hp);have o2:=q0x (on q hq);unfold q0r;dsimp only;omega
theorem qej {p:P2} (h:onB p=true):q0r (dbl p):=by
 have:=q0x h
 unfold q0r dbl;dsimp only;omega
theorem qda {x y:List P2} (hvx:q05 x=true) (hvy:q05 y=true) (h12:y.length≤12):(q02 x y).length≤480:=by
 have h:=q9t hvx hvy h12 x.length;have h2:=(q1q hvx).2.1;have:(q02 x y).length≤x.length*12:=h;omega
theorem qer (l:List P2) (f:P2→Bool) (hl:l.length≤1000000) {Pre:P2→Prop} (hpre:∀ m∈l,Pre m) {A:Nat→Prop} (hA:∀ p,p<l.length→f (l.getD p z0)=true→A p) {B:Prop} (hB:l.any f=false→B) :
  (∃ p':Nat,(p'≤l.length∧(l.take p').any f=false)∧(0:Int)=(p':Int))∧∀ p:Nat,p≤l.length∧(l.take p).any f=false →
   bif decide ((p:Int)<(l.length:Int)) then ((0:Int)≤(p:Int)∧(p:Int)<(l.length:Int))∧Pre (l.getD (p:Int).toNat z0)∧(bif f (l.getD (p:Int).toNat z0) then A p else
    ((-9223372036854775808:Int)≤(p:Int)+1∧(p:Int)+1≤(9223372036854775807:Int))∧∃ p':Nat,(p'≤l.length∧(l.take p').any f=false)∧l.length-p'<l.length-p∧(p:Int)+1=(p':Int)) else B:=by
 refine ⟨⟨0,⟨Nat.zero_le _,rfl⟩,rfl⟩,?_⟩;rintro p ⟨hp,ha⟩;rw [Int.toNat_natCast];cases hb:decide ((p:Int)<(l.length:Int))
 ·have:p=l.length:=by have:=of_decide_eq_false hb;omega
  subst this;rw [List.take_length] at ha;exact hB ha
 ·have hlt:p<l.length:=by have:=of_decide_eq_true hb;omega
  refine ⟨by omega,hpre _ (q1l l z0 p hlt),?_⟩
  cases hf:f (l.getD p z0)
  ·refine ⟨by omega,p+1,⟨by omega,?_⟩,by omega,by omega⟩
   rw [qbp l z0 f p hlt,ha,hf];rfl
  ·exact hA p hlt hf
end Zl
end Go.Proofs.YtednmlmllbkhhaaGreatDoor
namespace Go.Proofs.YtednmlmllbkhhaaGreatDoor
open Go.RowKit
open R Geo.Zn
def q0t (r:List P2):Prop:=r.length≤40∧r.all onB=true
open Zl (sumTo q0r)
def twAt (r:List P2) (i:Nat):Int:=(rAt r i).1*(rAt r (i+1)).2-(rAt r (i+1)).1*(rAt r i).2
def cOff:Con:=.of 45 [ckPt] [q0u] (λ_=>True) (λp=>!onB p)
def cTwice:Con:=.of 46 [q1c] [q0n] q0t q5y
def cSimple:Con:=.of 47 [q1c] [q0u] (λr=>q0t r∧3≤List.length r) q48
def cRing:Con:=.of 25 [q1c] [q0u] (λr=>List.length r≤1000) q05
def cHalf:Con:=.of 84 [q1c,ckPt] [q0n,q0u] (λq=>q0t q.1∧q0r q.2) (λq=>(q5s q.1 q.2,onI q.1 q.2))
def cInside:Con:=.of 59 [q1c,ckPt] [q0u] (λq=>q0t q.1∧q0r q.2) (λq=>q0w q.1 q.2)
def qjq:Con:=.of 58 [q1c,ckPt] [q0u] (λq=>q0t q.1∧q0r q.2) (λq=>q0m q.1 q.2)
def qjp:Con:=.of 55 [q1c,q1c] [q0u] (λq=>q0t q.1∧q0t q.2) (λq=>q1t q.1 q.2)
noncomputable def qf1:List (Nat×Func):=[(71,Tryz.f71),(104,Tryz.f104)]
noncomputable def kitTw:Kit:={ inls:=qf1 }
def anSides (ι:Type) (r:List P2) (sav lp box:List Nat) (bover:Nat→ι→List (Nat×List Cell)) (rows:Nat→ι→List (Nat×Row)) (inv:St→Nat→ι→Prop):List (Nat×Ann) :=
  [annX 0 (Nat×ι) (λst p=>st.hd { live:=[0,1,5,6],sav:=sav,box:=box,lp:=lp } [(7,R.int .i64 p.1)] (bover p.1 p.2) (rows p.1 p.2) [] none) (λst p=>p.1≤r.length∧inv st p.1 p.2) (λ_ p=>r.length-p.1),
   midAt 3]
def anTw (r:List P2):Nat→List (Nat×Ann):=λf=>bif Nat.beq f 104 then
 anSides Unit r (savK 0 [(24,[3])]) [3] [8001] (λk _=>[(3,[.val (.int .i64) (sumTo (twAt r) k)])]) (λ_ _=>[]) (λ_ _ _=>True) else []
def SiAt (r:List P2) (i j:Nat):Prop:=i<r.length∧i+2≤j∧(j≤min r.length (i+r.length-1)∨j=i+2)∧q18 (rAt r i) (rAt r (i+1)) (rAt r (i+2))≠0∧∀ k,i+2≤k→k<j→¬ 0<q0j (rAt r i) (rAt r (i+1)) (rAt r k) (rAt r (k+1))
def anSi (r:List P2):List (Nat×Ann) :=
  [annX 0 Nat (λst k=>st.hd { live:=[0,3,11],sav:=[],box:=[] } [(12,R.int .i64 k)] [] [] [] none) (λ_ k=>k≤r.length∧(List.range k).all (q1v r)=true) (λ_ k=>r.length-k),
   annX 2 Nat (λst j=>st.hd { live:=[0,3,4,5,6,11,12],sav:=[],box:=[5,6] } [(7,R.int .i64 j)] [] [] [] none)
     (λst j=>SiAt r (st.intOf 4).toNat j)
     (λ_ j=>2*r.length+2-j),
   joinAt 5 [0,3,4,5,6,11,12]]
def fOff:FCon:={ f:=45,args:=[ckPt],fa:=.no,res:=[q0u],pre:=λ_ _=>True,F:=λp _=>!onB p }
noncomputable def inlHasR:List (Nat×Func):=[(44,Tryz.f44),(70,Tryz.f70)]
noncomputable def kitVa:Kit:={ cons:=[cTwice,cSimple],fcs:=[fOff],inls:=inlHasR }
def anVa (r:List P2):Nat→List (Nat×Ann):=λf=>bif Nat.beq f 70 then
 [annX 0 Nat (λst k=>st.hd { live:=[0,1,7],sav:=savK 0 [(9,[]),(27,[3,13])],box:=[] } [(8,R.int .i64 k)] [] [] [] none) (λ_ k=>k≤r.length∧(r.take k).all onB=true) (λ_ k=>r.length-k)] else []
def anHa (r:List P2) (p:P2):Nat→List (Nat×Ann):=λf=>bif Nat.beq f 104 then
 anSides Unit r (savK 0 [(91,[3,4,5])]) [3,4,5] [15001,3] (λk _=>[(4,[.val (.int .i64) (sumTo (q0y r p) k)]),(5,[.val .bool ((List.range k).any (onAt r p))])]) (λ_ _=>[]) (λ_ _ _=>True) else []
def anHaB:List (Nat×Ann) :=
 [qe2 6 Bool (λst q=>st.hd { live:=[3,4,5,9,11,12],sav:=savK 0 [(25,[0,1,5,6,7]),(91,[3,4,5])],box:=[15001,3,4],lp:=[3,4,5] } [] [(5,[.val .bool q])] [] [] none)
  (λst q=>q=(Get.boxB 5 st||(st.intOf 12==0&&decide (st.intOf 8*st.intOf 10+st.intOf 9*st.intOf 11≤0))))]
noncomputable def kitCx:Kit:={ cons:=[cCross],inls:=qf1 }
def q3o (x y:List P2) (i k:Nat):Bool:=q0j (rAt x i) (rAt x (i+1)) (rAt y k) (rAt y (k+1))==2
def anCx (x y:List P2):Nat→List (Nat×Ann):=λf=>bif Nat.beq f 104 then
  [annX 0 Nat (λst k=>bif st.off.beq 1500 then st.hd { live:=[0,1,5,6],sav:=savK 0 [(23,[3,4])],box:=[11001,3,4],lp:=[3,4] } [(7,R.int .i64 k)] [] [] [] none
      else st.hd { live:=[0,1,5,6],sav:=savK 0 [(23,[3,4,5,6]),(25,[0,1,5,6,7]),(23,[3,4])],box:=[11001,3,4,1705,1706,1715001],lp:=[3,4,5,6] } [(7,R.int .i64 k)] [] [] [] none)
    (λst k=>bif st.off.beq 1500 then k≤x.length∧(List.range k).any (λi=>(List.range y.length).any (q3o x y i))=false
      else k≤y.length∧(List.range k).any (λm=>q0j (Get.q3n kPt 1705 st) (Get.q3n kPt 1706 st) (rAt y m) (rAt y (m+1))==2)=false)
    (λst k=>bif st.off.beq 1500 then x.length-k else y.length-k),
   midAt 3] else []
end Go.Proofs.YtednmlmllbkhhaaGreatDoor
namespace Go.Proofs.YtednmlmllbkhhaaGreatDoor
open Go.RowKit R Geo.Zn Zl
def ptRow (l:List P2):Row:=⟨24,kPt,l⟩
def R.Get.rowP (r:Nat) (st:St):List P2:=match st.row r with
 | some y=>match y.fs.deq kPt with
  | some ⟨h⟩=>q42 h y.xs
  | none=>[]
 | none=>[]
def qju:Con:=.of 56 [q1c,q1c] [q1c] (λq=>q05 q.1=true∧q05 q.2=true∧List.length q.2≤12) (λq=>q02 q.1 q.2)
def cLen:Con:=.of 64 [.one (.int .u64)] [q0n] (λn=>0≤n∧n<18446744073709551616) (λn=>(Go.Lib.bitLen (Int.toNat n):Int))
noncomputable def inlMi:List (Nat×Func):=qf1++[(80,Tryz.f80),(79,Tryz.f79),
 (111,Tryz.f111),(129,Tryz.f129),
 (82,Tryz.f82)]
noncomputable def kitMi:Kit:={ cons:=[cBet,cDist,cLen],inls:=inlMi }
abbrev rSt:Nat:=1719
abbrev rOut:Nat:=1767
abbrev upMi:List (Nat×List Nat):=[(25,[0,1,5,6,7]),(70,[3,5])]
abbrev boxMi:List Nat:=[15001,3,5,1706,1707]
abbrev R.Get.aAt (st:St):P2:=Get.q3n kPt 1706 st
abbrev R.Get.bAt (st:St):P2:=Get.q3n kPt 1707 st
def qbn (st:St) (l:List P2):List (Nat×Row):=[(rSt,ptRow l),(rOut,ptRow (Get.rowP rOut st))]
def anMi (y:List P2):List (Nat×Ann) :=
  [annX 2 (Nat×List P2) (λst p=>st.hd { live:=[3,5,6,7,20,21],sav:=savK 0 upMi,box:=boxMi,lp:=[3,5] } [(22,R.int .i64 p.1),(8,ownAV rSt)] [] (qbn st p.2) [] none)
     (λst p=>p.1≤y.length∧p.2=Get.aAt st::Get.bAt st::(y.take p.1).filter λq=>betI q (Get.aAt st) (Get.bAt st)) (λ_ p=>y.length-p.1),
   annX 4 (Nat×List P2) (λst p=>st.hd { live:=[3,5,8,41,42],sav:=savK 0 upMi,box:=[15001,3,5],lp:=[3,5] } [(43,R.int .i64 p.1)] [] [(rSt,ptRow (Get.rowP rSt st)),(rOut,ptRow p.2)] [] none)
     (λst p=>p.1+1≤(Get.rowP rSt st).length∧p.2=Get.rowP rOut st++(q2j (Get.rowP rSt st)).take p.1) (λst p=>(Get.rowP rSt st).length-p.1),
   annX 2000014 (List P2) (λst p=>st.hd { live:=[3,5],sav:=savK 0 upMi,box:=boxMi,lp:=[3,5] } [(8,ownAV rSt)] [] (qbn st p) [] none) (λst p=>p=q2i (Get.rowP rSt st)) (λ_ _=>0)]
def anPd:List (Nat×Ann) :=
 [annX 0 Unit (λst _=>st.hd { live:=[0,1,2,3,4,10,11],sav:=savK 0 ([(14,[]),(70,[3,5,6,7,8])]++upMi),box:=boxMi,lp:=[3,5] } [] [] (qbn st (Get.rowP rSt st)) [] none) (λ_ _=>True) (λ_ _=>0)]
def anIns:List (Nat×Ann) :=
  [annX 0 (Nat×List P2) (λst p=>st.hd { live:=[0,1,2,3],sav:=savK 0 ([(148,[]),(14,[]),(70,[3,5,6,7,8])]++upMi),box:=boxMi,lp:=[3,5] } [(8,R.int .i64 p.1)] [] (qbn st p.2) [] none)
     (λst p=>1≤p.1∧p.1≤(Get.rowP rSt st).length∧p.2.Perm (Get.rowP rSt st)∧UpTo (q0f (Get.aAt st)) p.2 p.1) (λst p=>(Get.rowP rSt st).length-p.1),
   annX 2 (Nat×List P2) (λst p=>st.hd { live:=[0,1,2,3,8],sav:=savK 0 ([(148,[]),(14,[]),(70,[3,5,6,7,8])]++upMi),box:=boxMi,lp:=[3,5] } [(9,R.int .i64 p.1)] [] (qbn st p.2) [] none)
     (λst p=>InsAt (q0f (Get.aAt st)) (Get.rowP rSt st) p.2 (st.intOf 8).toNat p.1) (λ_ p=>p.1),
   midAt 4]
def anCo:List (Nat×Ann) :=
  [annX 0 Nat (λst k=>st.hd { live:=[0],sav:=savK 0 ([(70,[3,5,6,7])]++upMi),box:=boxMi,lp:=[3,5] } [(3,R.int .i64 k)] [] (qbn st (Get.rowP rSt st)) [] none)
     (λst k=>1≤k∧k≤(Get.rowP rSt st).length∧q2i ((Get.rowP rSt st).take k)=(Get.rowP rSt st).take k) (λst k=>(Get.rowP rSt st).length-k),
   annX 2 (Nat×Nat×List P2) (λst p=>st.hd { live:=[0,4],sav:=savK 0 ([(70,[3,5,6,7])]++upMi),box:=boxMi,lp:=[3,5] } [(3,R.int .i64 p.1),(5,R.int .i64 p.2.1)] [] (qbn st p.2.2) [] none)
     (λst p=>CoAt (Get.rowP rSt st) p.2.2 (st.intOf 3).toNat p.1 p.2.1) (λst p=>(Get.rowP rSt st).length-p.2.1)]
def anMiI (x y:List P2):Nat→List (Nat×Ann):=λf =>
 bif Nat.beq f 104 then
  anSides (List P2) x (savK 0 [(70,[3,5])]) [3,5] [15001,3] (λ_ _=>[(5,[.own rOut])]) (λ_ l=>[(rOut,ptRow l)]) (λ_ i l=>l=q36 x y i)
 else bif Nat.beq f 111 then anPd
 else bif Nat.beq f 129 then anIns
 else bif Nat.beq f 82 then anCo
 else []
def cWithin:Con:=.of 35 [q1c,q1c] [q0u] (λq=>List.length q.1≤12∧List.length q.2≤12) (λq=>q0i q.1 q.2)
def cApartP:Con:=.of 31 [q1c,q1c] [q0u] (λq=>List.length q.1≤12∧List.length q.2≤12) (λq=>q1k q.1 q.2)
def cWhereOn:Con:=.of 39 [q1c,ckPt] [q0n] (λq=>List.length q.1≤1000∧onB q.2=true) (λq=>q1i q.1 q.2)
def cWhere:Con:=.of 39 [q1c,ckPt] [q0n] (λq=>List.length q.1≤1000) (λq=>q1i q.1 q.2)
def fOutside:FCon:={ f:=58,args:=[q1c,ckPt],fa:=.no,res:=[q0u],pre:=λq _=>q0t q.1∧q0r q.2,F:=λq _=>q0m q.1 q.2 }
def fInside:FCon:={ f:=59,args:=[q1c,ckPt],fa:=.no,res:=[q0u],pre:=λq _=>q0t q.1∧q0r q.2,F:=λq _=>q0w q.1 q.2 }
noncomputable def inlHasP:List (Nat×Func):=[(57,Tryz.f57),(83,Tryz.f83)]
noncomputable def kitWi:Kit:={ cons:=[cRing,qjp,qju],fcs:=[fOutside,fInside],inls:=inlHasP }
def anWi (x y:List P2):Nat→List (Nat×Ann):=λf=>bif Nat.beq f 83 then
 [annX 0 Nat (λst k=>st.hd { live:=[0,1,6,7],sav:=savK 0 [(9,[]),(30,[21])],box:=[] } [(8,R.int .i64 k)] [] [] [] none)
  (λ_ k=>k≤(q02 x y).length∧((q02 x y).take k).any (q0m y)=false) (λ_ k=>(q02 x y).length-k)] else []
def anAp (x y:List P2):Nat→List (Nat×Ann):=λf=>bif Nat.beq f 83 then
 [annX 0 Nat (λst k=>st.hd { live:=[0,1,6,7],sav:=savK 0 [(9,[]),(46,[5,6,7,30,37])],box:=[] } [(8,R.int .i64 k)] [] [] [] none)
  (λst k=>bif st.off.beq 30008000 then k≤(q02 x y).length∧((q02 x y).take k).any (q0m y)=false
   else bif st.off.beq 35008000 then k≤(q02 x y).length∧((q02 x y).take k).any (q0w y)=false
   else k≤(q02 y x).length∧((q02 y x).take k).any (q0w x)=false)
  (λst k=>bif st.off.beq 44008000 then (q02 y x).length-k else (q02 x y).length-k)] else []
abbrev kAr:Kds:=.cons .str (.cons (.int .i64) (.one (.sl kPt)))
abbrev q5g:CK:=.one (.sl kAr)
abbrev kStr:Kds:=.one .str
abbrev q9s:CK:=.one (.sl kStr)
def FewZ (l:List Ar):Prop:=l.length≤6∧∀ a∈l,a.1.length≤100∧a.2.2.length≤12
def cKnown:Con:=.of 24 [q0n] [q0u] (λ_=>True) q1f
def q8r:Con:=.of 10 [q5g] [q0u] FewZ (q0k Lx.q03)
def seenRow (m:List (Str×Bool)):MRow:=⟨46,.one .str,.one .bool,m⟩
def getZ (k:Str) (m:List (Str×Bool)):Option Bool:=Mp.get (CK.eqB (.one .str)) k m
def SeenZ (l:List Ar) (k:Nat) (m:List (Str×Bool)):Prop:=k≤l.length∧(∀ s,(getZ s m).getD false=(l.take k).any λa=>a.1==s)∧(l.take k).all (okA Lx.q03)=true∧((l.take k).map λa=>a.1).Nodup
def anZV (l:List Ar):List (Nat×Ann) :=
 [annX 0 (Nat×List (Str×Bool)) (λst p=>st.hd { live:=[0,3,7,8],sav:=[],box:=[] } [(9,R.int .i64 p.1)] [] [] [(6,seenRow p.2)] none) (λ_ p=>SeenZ l p.1 p.2) (λ_ p=>l.length-p.1)]
def strRow (l:List Str):Row:=⟨9,kStr,l⟩
def oSortS:OCon:={ f:=40,e:=9,fs:=kStr,args:=[],fa:=.no,ret:=false,pre:=λxs _ _=>List.length xs≤1000000,F:=λxs _ _=>q3u xs }
noncomputable def inlOf':List (Nat×Func):=[(38,Tryz.f38),(62,Tryz.f62)]
noncomputable def kitLo:Kit:={ cons:=[q8r,cKnown,cOn,cWhereOn],os:=[oSortS],inls:=inlOf' }
def cLook:Con:=.of 19 [q5g,q0n,ckPt] [q9s,q0u,q0n] (λq=>FewZ q.1) (λq=>q1j Lx.q03 q.1 q.2.1 q.2.2)
def q2n (l:List Ar) (n:Int) (p:P2) (k:Nat):List Str:=((ofK (l.take k) n).filter (hitZ p)).map λa=>a.1
def inTo (l:List Ar) (n:Int) (p:P2) (k:Nat):Bool:=(ofK (l.take k) n).any λa=>decide (0<q1i a.2.2 p)
def anLoI (l:List Ar) (n:Int) (p:P2):Nat→List (Nat×Ann):=λf=>bif Nat.beq f 62 then
 [annX 0 Nat (λst k=>st.hd { live:=[0,1,2,6,7],sav:=savK 0 [(50,[5,9,10])],box:=[29002,29003,5],lp:=[5,9,10] } [(8,R.int .i64 k)] [(9,[.own 1740]),(10,[.val .bool (inTo l n p k)])] [(1740,strRow (q2n l n p k))] [] none) (λ_ k=>k≤l.length) (λ_ k=>l.length-k)] else []
def cAll:Con:=.of 6 [q5g,q0n,ckPt] [q9s,q0n] (λq=>FewZ q.1) (λq=>allZ Lx.q03 q.1 q.2.1 q.2.2)
def cOne:Con:=.of 8 [q5g,q0n,ckPt] [ckStr1,q0n] (λq=>FewZ q.1) (λq=>oneZ Lx.q03 q.1 q.2.1 q.2.2)
def qax:Con:=.of 13 [q5g,q0n] [q0u] (λq=>FewZ q.1) (λq=>q34 Lx.q03 q.1 q.2)
def q8y:Con:=.of 15 [q5g,q0n,q0n] [q0u] (λq=>FewZ q.1) (λq=>q2e Lx.q03 q.1 q.2.1 q.2.2)
noncomputable def inlEach:List (Nat×Func):=inlOf'++[(28,Tryz.f28)]
noncomputable def kitAz:Kit:={ cons:=[q8r,cKnown,cApartP],inls:=inlEach++[(29,Tryz.f29),(30,Tryz.f30)] }
noncomputable def kitNz:Kit:={ cons:=[q8r,cKnown,cWithin],inls:=inlEach++[(33,Tryz.f33),(34,Tryz.f34)] }
def apB (a b:Ar):Bool:=a.1==b.1||q1k a.2.2 b.2.2
def anAz (l:List Ar) (n:Int):Nat→List (Nat×Ann):=λf=>bif Nat.beq f 62 then
 [annX 0 Nat (λst k=>bif st.off.beq 16001500 then st.hd { live:=[0,1,2,6,7],sav:=savK 0 [(16,[5,6]),(17,[11])],box:=[2,3,16005,16006,16011002,16011003],lp:=[5,6] } [(8,R.int .i64 k)] [] [] [] none
   else st.hd { live:=[0,1,2,6,7],sav:=savK 0 [(16,[5,6]),(9,[]),(16,[5,6]),(23,[0,1,2,6,7,8,16]),(16,[5,6]),(17,[11])],box:=[2,3,16005,16006,16011002,16011003,16001707,16001715003,16001715009005,16001715009006,16001715009011002,16001715009011003],lp:=[5,6] } [(8,R.int .i64 k)] [] [] [] none)
  (λst k=>k≤l.length∧bif st.off.beq 16001500 then (ofK (l.take k) n).all (λa=>(ofK l n).all (apB a))=true else (ofK (l.take k) n).all (apB (Get.q3n kAr 16001715003 st))=true)
  (λ_ k=>l.length-k)] else []
def anNz (l:List Ar) (n i:Int):Nat→List (Nat×Ann):=λf=>bif Nat.beq f 62 then
 [annX 0 Nat (λst k=>bif st.off.beq 22001500 then st.hd { live:=[0,1,2,6,7],sav:=savK 0 [(16,[5,6]),(23,[17])],box:=[3,5,22005,22006,22011002,22011003],lp:=[5,6] } [(8,R.int .i64 k)] [] [] [] none
   else st.hd { live:=[0,1,2,6,7],sav:=savK 0 [(16,[5,6]),(10,[]),(16,[5,6]),(23,[0,1,2,6,7,8,16]),(16,[5,6]),(23,[17])],box:=[3,5,22005,22006,22011002,22011003,22001707,22001715003,22001715009005,22001715009006,22001715009011002,22001715009011003],lp:=[5,6] } [(8,R.int .i64 k)] [] [] [] none)
  (λst k=>k≤l.length∧bif st.off.beq 22001500 then (ofK (l.take k) n).all (λa=>(ofK l i).any λb=>q0i a.2.2 b.2.2)=true else (ofK (l.take k) i).any (λb=>q0i (Get.q3n kAr 22001715003 st).2.2 b.2.2)=false)
  (λ_ k=>l.length-k)] else []
def cRfOn:Con:=.of 21 [ckPt] [q0u] (λ_=>True) onB
def cRfAll:Con:=.of 50 [q1c] [q0u] (λl=>List.length l≤1000) (λl=>List.all l onB)
def anRfAll (l:List P2):List (Nat×Ann) :=
 [annX 0 Nat (λst k=>st.hd { live:=[0],sav:=[],box:=[] } [(3,R.int .i64 k)] [] [] [] none) (λ_ k=>k≤l.length∧(l.take k).all onB=true) (λ_ k=>l.length-k)]
def qd0:Con:=.of 76 [ckPt,ckPt,ckPt] [q0n] (λp=>q0r p.1∧q0r p.2.1∧q0r p.2.2) (λp=>q0a p.1 p.2.1 p.2.2)
def cRfSign:Con:=.of 75 [q0n] [q0n] (λ_=>True) sgn
def cRfTurn:Con:=.of 52 [ckPt,ckPt,ckPt] [q0n] (λ_=>True) (λp=>q18 p.1 p.2.1 p.2.2)
def cRfDist:Con:=.of 112 [ckPt,ckPt] [q0n] (λ_=>True) (λp=>q0f p.1 p.2)
def cRfBet:Con:=.of 77 [ckPt,ckPt,ckPt] [q0u] (λ_=>True) (λp=>betI p.1 p.2.1 p.2.2)
def qk2:Con:=.of 53 [ckPt,ckPt,ckPt,ckPt] [q0n] (λ_=>True) (λp=>q0j p.1 p.2.1 p.2.2.1 p.2.2.2)
theorem qb3 {p:P2} (h:onB p=true):q0r p:=by
 have:=q0x h
 exact ⟨by omega,by omega⟩
theorem qhp {u1 u2 w1 w2:Int} (h:u1*w2=u2*w1):(u1*w1≤0∧u2*w2≤0)↔u1*w1+u2*w2≤0:=by
 constructor
 ·rintro ⟨h1,h2⟩;omega
 ·intro hs
  have e:(u1*w1)*(u2*w2)=(u1*w2)*(u1*w2):=by rw [show (u1*w1)*(u2*w2)=(u1*w2)*(u2*w1) by grind,← h]
  have hsq:0≤(u1*w2)*(u1*w2):=by
   rcases Int.le_total 0 (u1*w2) with h' | h'
   ·exact Int.mul_nonneg h' h'
   ·exact Int.mul_nonneg_of_nonpos_of_nonpos h' h'
  rw [← e] at hsq;generalize u1*w1=A at *
  generalize u2*w2=B at *
  constructor
  ·refine Int.not_lt.1 λhA=>?_
   have hB:B<0:=by omega
   have:=Int.mul_neg_of_pos_of_neg hA hB
   omega
  ·refine Int.not_lt.1 λhB=>?_
   have hA:A<0:=by omega
   have:=Int.mul_neg_of_neg_of_pos hA hB
   omega
theorem qe4 {x p q:Int}:(p-x)*(q-x)≤0↔min p q≤x∧x≤max p q:=by
 constructor
 ·intro h
  refine ⟨Int.not_lt.1 λh1=>?_,Int.not_lt.1 λh1=>?_⟩
  ·have:=Int.mul_pos (show 0<p-x by omega) (show 0<q-x by omega);omega
  ·have:=Int.mul_pos_of_neg_of_neg (show p-x<0 by omega) (show q-x<0 by omega);omega
 ·rintro ⟨h1,h2⟩
  rcases (show p<x∨x≤p by omega) with hp | hp
  ·exact Int.mul_nonpos_of_nonpos_of_nonneg (by omega) (by omega)
  ·rcases (show x<q∨q≤x by omega) with hq | hq
   ·have:p-x=0:=by omega
    rw [this,Int.zero_mul];exact Int.le_refl _
   ·exact Int.mul_nonpos_of_nonneg_of_nonpos (by omega) (by omega)
theorem dot_zero {u1 u2 w1 w2:Int} (h:u1*w2=u2*w1) (hd:u1*w1+u2*w2=0):(u1=0∧u2=0)∨(w1=0∧w2=0):=by
 obtain ⟨h1,h2⟩:=(qhp h).2 (by omega)
 have e1:u1*w1=0:=by omega
 have e2:u2*w2=0:=by omega
 rcases Int.mul_eq_zero.1 e1 with a | a
 ·rcases Int.mul_eq_zero.1 e2 with b | b
  ·exact .inl ⟨a,b⟩
  ·rw [a,Int.zero_mul] at h
   rcases Int.mul_eq_zero.1 h.symm with c | c
   ·exact .inl ⟨a,c⟩
   ·exact .inr ⟨c,b⟩
 ·rcases Int.mul_eq_zero.1 e2 with b | b
  ·rw [b,Int.zero_mul] at h
   rcases Int.mul_eq_zero.1 h with c | c
   ·exact .inl ⟨c,b⟩
   ·exact .inr ⟨a,c⟩
  ·exact .inr ⟨a,b⟩
theorem box_bet (a b c d e f:Int):(((a,b)==(c,d)||(a,b)==(e,f))||(q0a (c,d) (e,f) (a,b)==0&&decide ((c-a)*(e-a)+(d-b)*(f-b)<0)))=(q0a (c,d) (e,f) (a,b)==0&&((decide (min c e≤a)&&decide (a≤max c e))&&(decide (min d f≤b)&&decide (b≤max d f)))):=by
 rw [Bool.eq_iff_iff];simp only [Bool.or_eq_true,Bool.and_eq_true,beq_iff_eq,decide_eq_true_eq,Prod.mk.injEq];have hA:q0a (c,d) (e,f) (a,b)=(e-c)*(b-d)-(f-d)*(a-c):=rfl;rw [hA];have hcr:(e-c)*(b-d)-(f-d)*(a-c)=0↔(c-a)*(f-b)=(d-b)*(e-a):=by grind
 rw [hcr,← qe4,← qe4];constructor
 ·rintro ((⟨rfl,rfl⟩ | ⟨rfl,rfl⟩) | ⟨h1,h2⟩)
  ·exact ⟨by grind,by rw [Int.sub_self,Int.zero_mul];exact Int.le_refl _,by rw [Int.sub_self,Int.zero_mul];exact Int.le_refl _⟩
  ·exact ⟨by grind,by rw [Int.sub_self,Int.mul_zero];exact Int.le_refl _,by rw [Int.sub_self,Int.mul_zero];exact Int.le_refl _⟩
  ·exact ⟨h1,(qhp h1).2 (by omega)⟩
 ·rintro ⟨h1,h2⟩
  have hs:=(qhp h1).1 h2;by_cases hz:(c-a)*(e-a)+(d-b)*(f-b)=0
  ·rcases dot_zero h1 hz with ⟨x,y⟩ | ⟨x,y⟩
   ·exact .inl (.inl ⟨by omega,by omega⟩)
   ·exact .inl (.inr ⟨by omega,by omega⟩)
  ·exact .inr ⟨h1,by omega⟩
set_option maxRecDepth 100000 in
theorem rfOn_vc (x y:Int) :
    bif decide ((0:Int)≤x) then bif decide (x≤(32767:Int)) then bif decide ((0:Int)≤y) then decide (y≤(32767:Int))=onB (x,y) else false=onB (x,y) else false=onB (x,y)
    else false=onB (x,y)
     := by
  have e:onB (x,y)=(decide (0≤min x y)&&decide (max x y≤32767)):=rfl;rw [e];refine bifP (λh1=>bifP (λh2=>bifP (λh3=>?_) λh3=>?_) λh2=>?_) λh1=>?_ <;> (simp only [decide_eq_true_eq,decide_eq_false_iff_not] at *;rw [Bool.eq_iff_iff];simp only [Bool.and_eq_true,decide_eq_true_eq,Bool.false_eq_true,false_iff];omega)
set_option maxRecDepth 100000 in
theorem rfAll_vc (l:List P2) (h:cRfAll.pre l) :
    (∃ (p':Nat),(p'≤l.length∧(List.take p' l).all onB=true)∧((0:Int)=(p':Int)∧l=l∧True)∧True∧True∧True∧True∧True∧True∧True∧True∧True)∧∀ (p:Nat),p ≤
    l.length∧(List.take p l).all onB=true→bif decide ((p:Int)<(l.length:Int)) then ((0:Int)≤(p:Int)∧(p:Int)<(l.length:Int))∧True∧bif !onB (l.getD (↑p :
    Int).toNat ((0:Int),(0:Int))) then false=l.all onB else ((-9223372036854775808:Int)≤(p:Int)+(1:Int)∧(p:Int)+(1:Int)≤(9223372036854775807:Int))∧∃ (p':Nat),
    (p'≤l.length∧(List.take p' l).all onB=true)∧l.length-p'<l.length-p∧((p:Int)+(1:Int)=(p':Int)∧l=l∧True)∧True∧True∧True∧True∧True∧True∧True ∧
    True∧True else true=l.all onB
     := by
  have h:l.length≤1000:=h;simp only [and_true,true_and,eq_self,and_self];refine ⟨⟨0,⟨Nat.zero_le _,rfl⟩,rfl⟩,?_⟩;rintro k ⟨hk,ha⟩;refine bifP (λhb=>?_) λhb=>?_
  · have hkl:k<l.length:=by have:=of_decide_eq_true hb;omega
    simp only [Int.toNat_natCast];refine ⟨by omega,bifP (λc=>?_) λc=>⟨by omega,k+1,⟨by omega,?_⟩,by omega,by omega⟩⟩
    · rw [qbk l z0 _ k hkl (cast (Bool.not_eq_true' _) c)]
    · rw [q8v l z0 _ k hkl,ha,show onB (l.getD k z0)=true from cast (Bool.not_eq_false' _) c];rfl
  · have:k=l.length:=by have:=of_decide_eq_false hb;omega
    subst this;rw [List.take_length] at ha;exact ha.symm
set_option maxRecDepth 100000 in
theorem rfArea_vc (a b c d e f:Int) (h:qd0.pre ((a,b),(c,d),(e,f))) :
    ((-9223372036854775808:Int)≤c-a∧c-a≤(9223372036854775807:Int))∧((-9223372036854775808:Int)≤f-b∧f-b≤(9223372036854775807:Int))∧((-9223372036854775808:Int) ≤
    (c-a)*(f-b)∧(c-a)*(f-b)≤(9223372036854775807:Int))∧((-9223372036854775808:Int)≤d-b∧d-b≤(9223372036854775807:Int))∧((-9223372036854775808:Int)≤e-a ∧
    e-a≤(9223372036854775807:Int))∧((-9223372036854775808:Int)≤(d-b)*(e-a)∧(d-b)*(e-a)≤(9223372036854775807:Int))∧((-9223372036854775808:Int)≤(c-a)*(f -
    b)-(d-b)*(e-a)∧(c-a)*(f-b)-(d-b)*(e-a)≤(9223372036854775807:Int))∧(c-a)*(f-b)-(d-b)*(e-a)=q0a (a,b) (c,d) (e,f)
     := by
  obtain ⟨⟨⟨h1,h2⟩,h3,h4⟩,⟨⟨h5,h6⟩,h7,h8⟩,⟨h9,h10⟩,h11,h12⟩:((0≤a∧a≤65534)∧(0≤b∧b≤65534))∧((0≤c∧c≤65534)∧(0≤d∧d≤65534))∧((0≤e∧e≤65534)∧(0≤f∧f≤65534)):=h;have m1:=q44 (a:=c-a) (b:=f-b) (show -65534≤_ by omega) (show _≤65534 by omega) (show -65534≤_ by omega) (show _≤65534 by omega)
  have m2:=q44 (a:=d-b) (b:=e-a) (show -65534≤_ by omega) (show _≤65534 by omega) (show -65534≤_ by omega) (show _≤65534 by omega)
  refine ⟨by omega,by omega,by omega,by omega,by omega,by omega,by omega,rfl⟩
set_option maxRecDepth 100000 in
theorem rfSign_vc (n:Int) :
    bif decide ((0:Int)<n) then (1:Int)=sgn n else bif decide (n<(0:Int)) then (-1:Int)=sgn n else (0:Int)=sgn n
     := by
  unfold sgn;refine bifP (λh=>?_) λh=>bifP (λh2=>?_) λh2=>?_ <;> (simp only [decide_eq_true_eq,decide_eq_false_iff_not] at *;simp [*])
set_option maxRecDepth 100000 in
theorem rfTurn_vc (a b c d e f:Int) :
    True∧bif !onB (a,b) then (0:Int)=q18 (a,b) (c,d) (e,f) else True∧bif !onB (c,d) then (0:Int)=q18 (a,b) (c,d) (e,f) else True∧bif !onB (e,f) then (0:Int)=q18
    (a,b) (c,d) (e,f) else (q0r (a,b)∧q0r (c,d)∧q0r (e,f))∧True∧sgn (q0a (a,b) (c,d) (e,f))=q18 (a,b) (c,d) (e,f)
     := by
  simp only [true_and];have e0:q18 (a,b) (c,d) (e,f)=if onB (a,b)&&(onB (c,d)&&onB (e,f)) then sgn (q0a (a,b) (c,d) (e,f)) else 0:=rfl
  rw [e0];refine bifP (λh1=>?_) λh1=>bifP (λh2=>?_) λh2=>bifP (λh3=>?_) λh3=>⟨⟨qb3 (cast (Bool.not_eq_false' _) h1),qb3 (cast (Bool.not_eq_false' _) h2),qb3 (cast (Bool.not_eq_false' _) h3)⟩,?_⟩
  all_goals (first | rw [show onB (a,b)=false from cast (Bool.not_eq_true' _) h1] | skip)
  · rfl
  · rw [show onB (c,d)=false from cast (Bool.not_eq_true' _) h2,Bool.false_and,Bool.and_false];rfl
  · rw [show onB (e,f)=false from cast (Bool.not_eq_true' _) h3,Bool.and_false,Bool.and_false];rfl
  · rw [show onB (a,b)=true from cast (Bool.not_eq_false' _) h1,show onB (c,d)=true from cast (Bool.not_eq_false' _) h2,show onB (e,f)=true from cast (Bool.not_eq_false' _) h3];rfl
set_option maxRecDepth 100000 in
theorem rfDist_vc (a b c d:Int) :
    True∧bif !onB (a,b) then (0:Int)=q0f (a,b) (c,d) else True∧bif !onB (c,d) then (0:Int)=q0f (a,b) (c,d) else ((-9223372036854775808:Int)≤a-c∧a-c ≤
    (9223372036854775807:Int))∧((-9223372036854775808:Int)≤a-c∧a-c≤(9223372036854775807:Int))∧((-9223372036854775808:Int)≤(a-c)*(a-c)∧(a-c)*(a-c) ≤
    (9223372036854775807:Int))∧((-9223372036854775808:Int)≤b-d∧b-d≤(9223372036854775807:Int))∧((-9223372036854775808:Int)≤b-d∧b-d≤(9223372036854775807:Int)) ∧
    ((-9223372036854775808:Int)≤(b-d)*(b-d)∧(b-d)*(b-d)≤(9223372036854775807:Int))∧((-9223372036854775808:Int)≤(a-c)*(a-c)+(b-d)*(b-d)∧(a-c)*(a -
    c)+(b-d)*(b-d)≤(9223372036854775807:Int))∧(a-c)*(a-c)+(b-d)*(b-d)=q0f (a,b) (c,d)
     := by
  simp only [true_and];have e0:q0f (a,b) (c,d)=if onB (a,b)&&onB (c,d) then (c-a)*(c-a)+(d-b)*(d-b) else 0:=rfl
  rw [e0];refine bifP (λh1=>?_) λh1=>bifP (λh2=>?_) λh2=>?_
  · rw [show onB (a,b)=false from cast (Bool.not_eq_true' _) h1];rfl
  · rw [show onB (c,d)=false from cast (Bool.not_eq_true' _) h2,Bool.and_false];rfl
  · have h1:onB (a,b)=true:=cast (Bool.not_eq_false' _) h1
    have h2:onB (c,d)=true:=cast (Bool.not_eq_false' _) h2;have o1:=q0x h1;have o2:=q0x h2;dsimp only at o1 o2;have m1:=q44 (a:=a-c) (b:=a-c) (show -65534≤_ by omega) (show _≤65534 by omega) (show -65534≤_ by omega) (show _≤65534 by omega)
    have m2:=q44 (a:=b-d) (b:=b-d) (show -65534≤_ by omega) (show _≤65534 by omega) (show -65534≤_ by omega) (show _≤65534 by omega)
    rw [h1,h2];refine ⟨by omega,by omega,by omega,by omega,by omega,by omega,by omega,?_⟩
    show _=(c-a)*(c-a)+(d-b)*(d-b)
    grind
set_option maxRecDepth 100000 in
theorem rfBet_vc (a b c d e f:Int) :
    True∧bif !onB (a,b) then false=betI (a,b) (c,d) (e,f) else True∧bif !onB (c,d) then false=betI (a,b) (c,d) (e,f) else True∧bif !onB (e,f) then false=betI (a,b) (c,d)
    (e,f) else (q0r (c,d)∧q0r (e,f)∧q0r (a,b))∧bif q0a (c,d) (e,f) (a,b) != (0:Int) then false=betI (a,b) (c,d) (e,f) else True∧bif decide (min c e≤a) then
    True∧bif decide (a≤max c e) then True∧bif decide (min d f≤b) then True∧decide (b≤max d f)=betI (a,b) (c,d) (e,f) else false=betI (a,b) (c,d) (e,f) else false=betI (a,
    b) (c,d) (e,f) else false=betI (a,b) (c,d) (e,f)
     := by
  simp only [true_and];have e0:betI (a,b) (c,d) (e,f)=((onB (a,b)&&(onB (c,d)&&onB (e,f)))&&(((a,b)==(c,d)||(a,b)==(e,f))||(q0a (c,d) (e,f) (a,b)==0&&decide ((c-a)*(e-a)+(d-b)*(f-b)<0)))):=rfl;rw [e0];refine bifP (λh1=>?_) λh1=>bifP (λh2=>?_) λh2=>bifP (λh3=>?_) λh3=>⟨⟨qb3 (cast (Bool.not_eq_false' _) h2),qb3 (cast (Bool.not_eq_false' _) h3),qb3 (cast (Bool.not_eq_false' _) h1)⟩,?_⟩
  · rw [show onB (a,b)=false from cast (Bool.not_eq_true' _) h1];rfl
  · rw [show onB (c,d)=false from cast (Bool.not_eq_true' _) h2,Bool.false_and,Bool.and_false];rfl
  · rw [show onB (e,f)=false from cast (Bool.not_eq_true' _) h3,Bool.and_false,Bool.and_false];rfl
  rw [show onB (a,b)=true from cast (Bool.not_eq_false' _) h1,show onB (c,d)=true from cast (Bool.not_eq_false' _) h2,show onB (e,f)=true from cast (Bool.not_eq_false' _) h3,box_bet a b c d e f];refine bifP (λh4=>?_) λh4=>?_
  · have:(q0a (c,d) (e,f) (a,b)==0)=false:=by rw [← Bool.not_eq_true',← bne];exact h4
    rw [this];rfl
  · have:(q0a (c,d) (e,f) (a,b)==0)=true:=by rw [← Bool.not_eq_false',← bne];exact h4
    rw [this];refine bifP (λh5=>bifP (λh6=>bifP (λh7=>?_) λh7=>?_) λh6=>?_) λh5=>?_
    · rw [h5,h6,h7];rfl
    · rw [h7,h5,h6];rfl
    · rw [h6,h5];rfl
    · rw [h5];rfl
set_option maxRecDepth 100000 in
theorem rfCross_vc (a b c d e f x y:Int) :
    True∧bif !onB (a,b) then (0:Int)=q0j (a,b) (c,d) (e,f) (x,y) else True∧bif !onB (c,d) then (0:Int)=q0j (a,b) (c,d) (e,f) (x,y) else True∧bif !onB (e,f) then (0
    : Int)=q0j (a,b) (c,d) (e,f) (x,y) else True∧bif !onB (x,y) then (0:Int)=q0j (a,b) (c,d) (e,f) (x,y) else True∧bif betI (a,b) (e,f) (x,y) then (1:Int)=q0j
    (a,b) (c,d) (e,f) (x,y) else True∧bif betI (c,d) (e,f) (x,y) then (1:Int)=q0j (a,b) (c,d) (e,f) (x,y) else True∧bif betI (e,f) (a,b) (c,d) then (1:Int)=q0j
    (a,b) (c,d) (e,f) (x,y) else True∧bif betI (x,y) (a,b) (c,d) then (1:Int)=q0j (a,b) (c,d) (e,f) (x,y) else True∧True∧((-9223372036854775808:Int)≤q18 (a,b) (c,
    d) (e,f)*q18 (a,b) (c,d) (x,y)∧q18 (a,b) (c,d) (e,f)*q18 (a,b) (c,d) (x,y)≤(9223372036854775807:Int))∧bif decide (q18 (a,b) (c,d) (e,f)*q18 (a,b) (c,d)
    (x,y)<(0:Int)) then True∧True∧((-9223372036854775808:Int)≤q18 (e,f) (x,y) (a,b)*q18 (e,f) (x,y) (c,d)∧q18 (e,f) (x,y) (a,b)*q18 (e,f) (x,y) (c,d) ≤
    (9223372036854775807:Int))∧bif decide (q18 (e,f) (x,y) (a,b)*q18 (e,f) (x,y) (c,d)<(0:Int)) then (2:Int)=q0j (a,b) (c,d) (e,f) (x,y) else (0:Int)=q0j
    (a,b) (c,d) (e,f) (x,y) else (0:Int)=q0j (a,b) (c,d) (e,f) (x,y)
     := by
  simp only [true_and];have e0:q0j (a,b) (c,d) (e,f) (x,y)=if !(onB (a,b)&&(onB (c,d)&&(onB (e,f)&&onB (x,y)))) then 0 else if betI (a,b) (e,f) (x,y)||(betI (c,d) (e,f) (x,y)||(betI (e,f) (a,b) (c,d)||betI (x,y) (a,b) (c,d))) then 1 else if q2q (a,b) (c,d) (e,f) (x,y)&&q2q (e,f) (x,y) (a,b) (c,d) then 2 else 0:=rfl
  rw [e0];refine bifP (λh1=>?_) λh1=>bifP (λh2=>?_) λh2=>bifP (λh3=>?_) λh3=>bifP (λh4=>?_) λh4=>?_
  · rw [show onB (a,b)=false from cast (Bool.not_eq_true' _) h1];rfl
  · rw [show onB (c,d)=false from cast (Bool.not_eq_true' _) h2,Bool.false_and,Bool.and_false];rfl
  · rw [show onB (e,f)=false from cast (Bool.not_eq_true' _) h3,Bool.false_and,Bool.and_false,Bool.and_false];rfl
  · rw [show onB (x,y)=false from cast (Bool.not_eq_true' _) h4,Bool.and_false,Bool.and_false,Bool.and_false];rfl
  have h1:onB (a,b)=true:=cast (Bool.not_eq_false' _) h1;have h2:onB (c,d)=true:=cast (Bool.not_eq_false' _) h2;have h3:onB (e,f)=true:=cast (Bool.not_eq_false' _) h3;have h4:onB (x,y)=true:=cast (Bool.not_eq_false' _) h4;have t1:q18 (a,b) (c,d) (e,f)=sgn (q0a (a,b) (c,d) (e,f)):=by unfold q18;rw [h1,h2,h3];rfl
  have t2:q18 (a,b) (c,d) (x,y)=sgn (q0a (a,b) (c,d) (x,y)):=by unfold q18;rw [h1,h2,h4];rfl
  have t3:q18 (e,f) (x,y) (a,b)=sgn (q0a (e,f) (x,y) (a,b)):=by unfold q18;rw [h3,h4,h1];rfl
  have t4:q18 (e,f) (x,y) (c,d)=sgn (q0a (e,f) (x,y) (c,d)):=by unfold q18;rw [h3,h4,h2];rfl
  have p1:q2q (a,b) (c,d) (e,f) (x,y)=decide (sgn (q0a (a,b) (c,d) (e,f))*sgn (q0a (a,b) (c,d) (x,y))<0):=rfl;have p2:q2q (e,f) (x,y) (a,b) (c,d)=decide (sgn (q0a (e,f) (x,y) (a,b))*sgn (q0a (e,f) (x,y) (c,d))<0):=rfl;have sg:∀ n:Int,-1≤sgn n∧sgn n≤1:=λn=>by unfold sgn;split <;> (try split) <;> omega
  rw [h1,h2,h3,h4,t1,t2,t3,t4,p1,p2];have m1:=q44 (sg (q0a (a,b) (c,d) (e,f))).1 (sg (q0a (a,b) (c,d) (e,f))).2 (sg (q0a (a,b) (c,d) (x,y))).1 (sg (q0a (a,b) (c,d) (x,y))).2;have m2:=q44 (sg (q0a (e,f) (x,y) (a,b))).1 (sg (q0a (e,f) (x,y) (a,b))).2 (sg (q0a (e,f) (x,y) (c,d))).1 (sg (q0a (e,f) (x,y) (c,d))).2;refine bifP (λc1=>?_) λc1=>bifP (λc2=>?_) λc2=>bifP (λc3=>?_) λc3=>bifP (λc4=>?_) λc4=>⟨by omega,bifP (λc5=>⟨by omega,bifP (λc6=>?_) λc6=>?_⟩) λc5=>?_⟩
  · rw [c1];rfl
  · rw [c1,c2];rfl
  · rw [c1,c2,c3];rfl
  · rw [c1,c2,c3,c4];rfl
  · rw [c1,c2,c3,c4,c5,c6];rfl
  · rw [c1,c2,c3,c4,c5,c6];rfl
  · rw [c1,c2,c3,c4,c5];rfl
def q9h:Con:=.of 54 [q1c,q0n] [ckPt] (λp=>List.length p.1≤1000∧0≤p.2∧p.2<(List.length p.1:Int)) (λp=>rAt p.1 (p.2.toNat+1))
def cRgSum:Con:=.of 51 [q1c] [q0n] q0t q5y
def anRgSum (r:List P2):List (Nat×Ann) :=
 [annX 0 Nat (λst k=>st.hd { live:=[0],sav:=[],box:=[] } [(3,R.int .i64 (sumTo (twAt r) k)),(4,R.int .i64 k)] [] [] [] none) (λ_ k=>k≤r.length) (λ_ k=>r.length-k)]
def qc0:Con:=.of 66 [ckPt] [ckPt] (λp=>onB p=true) dbl
def q97:Con:=.of 27 [q1c] [q0u] (λr=>List.length r≤1000) q05
def SrAt (r:List P2) (i j:Nat):Prop:=i<r.length∧i+2≤j∧(j≤r.length∨j=i+2)∧q18 (rAt r i) (rAt r (i+1)) (rAt r (i+2))≠0∧∀ k,i+2≤k→k<j→k+1<i+r.length→¬ 0<q0j (rAt r i) (rAt r (i+1)) (rAt r k) (rAt r (k+1))
def anRgValid (r:List P2):List (Nat×Ann) :=
  [annX 0 Nat (λst k=>st.hd { live:=[0,3],sav:=[],box:=[] } [(4,R.int .i64 k)] [] [] [] none) (λ_ k=>k≤r.length∧(List.range k).all (q1v r)=true) (λ_ k=>r.length-k),
   annX 2 Nat (λst j=>st.hd { live:=[0,3,4],sav:=[],box:=[] } [(5,R.int .i64 j)] [] [] [] none)
     (λst j=>SrAt r (st.intOf 4).toNat j)
     (λ_ j=>2*r.length+2-j)]
def qdz:Con:=.of 65 [q1c,ckPt] [q0n] (λq=>q0t q.1∧q0r q.2) (λq=>q1g q.1 q.2)
def q6l (a b p:P2):Bool:=decide (min a.1 b.1≤p.1)&&(decide (p.1≤max a.1 b.1)&&(decide (min a.2 b.2≤p.2)&&decide (p.2≤max a.2 b.2)))
def hitB (t:Int) (a b p:P2):Bool:=(decide (a.2≤p.2)&&(decide (p.2<b.2)&&decide (0<t)))||(decide (b.2≤p.2)&&(decide (p.2<a.2)&&decide (t<0)))
def anRgPlace (r:List P2) (p:P2):List (Nat×Ann) :=
 [annX 0 Nat (λst k=>st.hd { live:=[0,3],sav:=[],box:=[3] } [(5,R.bool (((List.range k).filter (q26 r p)).length % 2==1)),(6,R.int .i64 k)] [] [] [] none) (λ_ k=>k≤r.length∧(List.range k).any (onAt r p)=false) (λ_ k=>r.length-k),
  qe2 8 Bool (λst q=>st.hd { live:=[0,3,5,6,7,8,9],sav:=[],box:=[3,7,8] } [(70,R.bool q)] [] [] [] none) (λst q=>q=(st.intOf 9==0&&q6l (Get.q3n kPt 7 st) (Get.q3n kPt 8 st) (Get.q3n kPt 3 st))),
  qe2 10 Bool (λst q=>st.hd { live:=[0,3,5,6],sav:=[],box:=[3] } [(104,R.bool q)] [] [] [] none) (λst q=>q=hitB (st.intOf 9) (Get.q3n kPt 7 st) (Get.q3n kPt 8 st) (Get.q3n kPt 3 st))]
def qjm:Con:=.of 41 [q1c,ckPt] [q0n] (λq=>List.length q.1≤1000) (λq=>q1i q.1 q.2)
def qaj:Con:=.of 60 [q1c,q1c] [q0u] (λq=>q0t q.1∧q0t q.2) (λq=>q1t q.1 q.2)
def anRgCrossed (x y:List P2):List (Nat×Ann) :=
  [annX 0 Nat (λst k=>st.hd { live:=[0,1],sav:=[],box:=[] } [(5,R.int .i64 k)] [] [] [] none) (λ_ k=>k≤x.length∧(List.range k).any (λi=>(List.range y.length).any (q3o x y i))=false) (λ_ k=>x.length-k),
   annX 2 Nat (λst k=>st.hd { live:=[0,1,5],sav:=[],box:=[] } [(6,R.int .i64 k)] [] [] [] none) (λst k=>k≤y.length∧(List.range k).any (q3o x y (st.intOf 5).toNat)=false) (λ_ k=>y.length-k)]
end Go.Proofs.YtednmlmllbkhhaaGreatDoor

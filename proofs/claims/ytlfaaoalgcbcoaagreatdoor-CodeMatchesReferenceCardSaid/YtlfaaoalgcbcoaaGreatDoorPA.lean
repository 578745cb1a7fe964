/-
  Several texts in one: Base, LexSpec, SoSpec, SoNear, CoSpec, SoStep, CoLaw, CoJL, CoML, CoGL, CoRL.
-/
import Derived.Lib.Strings
import Derived.Shelf.Spec.SearchS
import Derived.Lib.SlicesCompact
open Bool renaming and_eq_true→Q0,not_eq_true'→Qc,not_eq_true→Qd,or_eq_true→Qi,eq_iff_iff→Qs,or_eq_false_iff→Qw,and_eq_false_iff→QP,and_true→QU,and_assoc→Wv
open List renaming getD_eq_getElem?_getD→Q4,mem_cons→Q6,mem_singleton→Q7,mem_cons_self→Q8,getElem?_eq_getElem→Q9,append_assoc→Qa,length_cons→Qb,pairwise_cons→Qe,replicate→Qf,mem_append→Qg,take_of_length_le→Qh,mem_cons_of_mem→Qj,any_eq_true→Qk,all_eq_true→Ql,takeWhile_cons→Qm,getD_cons_succ→Qn,take_append_drop→Qo,drop_left→Qp,singleton_append→Qq,cons_append→Qr,not_mem_nil→Qv,mem_filter→Qy,length_set→Qz,isPrefixOf_iff_prefix→QC,all_cons→QD,length_eraseIdx_of_lt→QE,pairwise_iff_getElem→QF,length_take→QG,mem_flatMap→QH,pairwise_singleton→QJ,drop_eq_nil_of_le→QK,reverse_replicate→QM,mem_range→QN,take_left→QO,mem_append_right→QQ,mem_append_left→QS,reverse_reverse→QT,take_succ_cons→QV,getD_cons_zero→QW,length_reverse→QY,reverse_append→QZ,any_eq_false→We,reverse_cons→Wh,getElem_mem→Wl,all_reverse→Wm,any_append→Wn,nil_append→Wo,append_nil→Wq,drop_drop→Wu
open Go.Op renaming bytesLess→Q5
open List.Pairwise renaming nil→Qt
open Nat renaming add_assoc→Qu,pow_succ→QI,le_refl→QL,div_lt_iff_lt_mul→QR,sub_self→Wd,zero_le→Wi,mul_add_mod→Ws,mul_add_div→Wt
open Go.Lib renaming compactUpTo→Qx,keeps→W9,bsGo→Wj
open Iff renaming rfl→QA
open Int renaming neg_mul_neg→Wp
set_option linter.unusedVariables false
namespace Go.Proofs.YtlfaaoalgcbcoaaGreatDoor
def bs (l:List UInt8):ByteArray:=⟨l.toArray⟩
@[simp] theorem q2r (l:List UInt8):(bs l).data.toList=l:=rfl
@[simp] theorem qer (l:List UInt8):(bs l).size=l.length:=rfl
theorem bs_inj {l k:List UInt8}:bs l=bs k↔l=k:=by
 constructor
 ·intro h
  have:=congrArg (λs:ByteArray=>s.data.toList) h
  simpa using this
 ·rintro rfl;rfl
theorem q0r (s:ByteArray):s.size=s.data.toList.length:=Lib.size_eq s
theorem q3h (s:ByteArray) (i j:Nat):s.extract i j=bs ((s.data.toList.drop i).take (j-i)):=Lib.extract_eq s i j
theorem qcj (s:ByteArray) (i:Nat) (h:i<s.size):s.data.toList[i]? = some s[i]:=by
 obtain ⟨⟨l⟩⟩:=s;exact Q9 (l:=l) h
theorem q3n (s:ByteArray) (i:Nat) (h:i<s.size):s.data.toList.drop i=s[i]::s.data.toList.drop (i+1):=by
 obtain ⟨⟨l⟩⟩:=s;exact List.drop_eq_getElem_cons (l:=l) h
namespace Lx
def q1h (c:UInt8):Bool:=(97≤c&&c≤122)||(65≤c&&c≤90)
def isDigit (c:UInt8):Bool:=48≤c&&c≤57
def q2x (c:UInt8):Bool:=c==32||c==9||c==10
def isWord (c:UInt8):Bool:=q1h c||isDigit c||c==95
def isSym (c:UInt8):Bool:=[59,44,46,58,40,41,91,93,123,125,61,43,45].contains c
def q0v (l:List UInt8):Bool:=l.all isWord&&(decide (0<l.length)&&decide (l.length≤24))&&(match l with | []=>false | c::_=>q1h c)
def cls (c:UInt8):Nat :=
 if q1h c then 3 else if isDigit c then 4 else if c==95 then 5 else if q2x c then 1 else if c==35 then 2
 else if c==34 then 6 else if c==33 then 7 else if c==60||c==62 then 8 else if isSym c then 9 else 0
def q2a:List UInt8→Nat
 | []=>0
 | c::_=>cls c
def span (p:UInt8→Bool) (l:List UInt8):Nat:=(l.takeWhile p).length
def gapc:Bool→List UInt8→Nat
 | _,[]=>0
 | false,c::r=>if q2x c then gapc false r+1 else if c==35 then gapc true r+1 else 0
 | true,c::r=>if c==10 then gapc false r+1 else gapc true r+1
def gap (l:List UInt8):Nat:=gapc false l
def qes (l:List UInt8):Nat:=l.foldl (λa c=>10*a+(c.toNat-48)) 0
structure Sc where
 err:Int
 kind:Int
 n:Int
 text:List UInt8
 width:Nat
 deriving DecidableEq
def bad (e:Int):Sc:=⟨e,0,0,[],0⟩
def q3q (c:UInt8):Bool:=!(c==34||c==10)
def scan:List UInt8→Sc
 | []=>bad 3
 | c::r =>
  if q1h c then
   let m:=span isWord r+1
   if 24<m then bad 2 else ⟨0,1,0,(c::r).take m,m⟩
  else if isDigit c then
   let m:=span isDigit r+1
   if 13<m||q2a ((c::r).drop m)==3||q2a ((c::r).drop m)==5 then bad 4 else ⟨0,2,qes ((c::r).take m),(c::r).take m,m⟩
  else if c==34 then
   let m:=span q3q r
   if (r.drop m).head? == some 34 then (if 400<m then bad 2 else ⟨0,3,0,r.take m,m+2⟩) else bad 6
  else if (c==33||c==60||c==62)&&r.head? == some 61 then ⟨0,4,0,[c,61],2⟩
  else if c==60||c==62||isSym c then ⟨0,4,0,[c],1⟩
  else bad 3
structure Tok where
 kind:Int
 pos:Int
 n:Int
 text:List UInt8
 deriving DecidableEq
def Sc.tok (r:Sc) (off:Nat):Tok:=⟨r.kind,off,r.n,r.text⟩
def q6s:Nat→List Tok→Nat→List UInt8→List Tok×Int×Int
 | 0,out,_,_=>(out,0,0)
 | _+1,out,_,[]=>(out,0,0)
 | f+1,out,off,c::r =>
  let s:=scan (c::r)
  if s.err=0∧out.length=5000 then ([],2,off)
  else if s.err≠0 then ([],s.err,off)
  else
   let l:=(c::r).drop s.width
   q6s f (out++[s.tok off]) (off+s.width+gap l) (l.drop (gap l))
def lex (l:List UInt8):List Tok×Int×Int :=
 if 20000<l.length then ([],2,-1) else q6s (l.length+1) [] (gap l) (l.drop (gap l))
theorem lexAt_nil (f:Nat) (out:List Tok) (off:Nat):q6s f out off []=(out,0,0):=by cases f <;> rfl
theorem lexAt_full (f:Nat) (out:List Tok) (off:Nat) (c:UInt8) (r:List UInt8) (h:(scan (c::r)).err=0) (hl:out.length=5000):q6s (f+1) out off (c::r)=([],2,(off:Int)):=by
 simp only [q6s];rw [if_pos ⟨h,hl⟩]
theorem lexAt_err (f:Nat) (out:List Tok) (off:Nat) (c:UInt8) (r:List UInt8) (h:(scan (c::r)).err≠0):q6s (f+1) out off (c::r)=([],(scan (c::r)).err,(off:Int)):=by
 simp only [q6s];rw [if_neg (λh'=>h h'.1),if_pos h]
theorem lexAt_tok (f:Nat) (out:List Tok) (off:Nat) (c:UInt8) (r:List UInt8) (h:(scan (c::r)).err=0) (hl:out.length≠5000) :
  q6s (f+1) out off (c::r)=q6s f (out++[(scan (c::r)).tok off]) (off+(scan (c::r)).width+gap ((c::r).drop (scan (c::r)).width)) (((c::r).drop (scan (c::r)).width).drop (gap ((c::r).drop (scan (c::r)).width))):=by
 simp only [q6s];rw [if_neg (λh'=>hl h'.2),if_neg (by simp [h])]
theorem qfp (p:UInt8→Bool) (l:List UInt8):span p l≤l.length:=by
 unfold span
 induction l with
 | nil=>simp
 | cons c r ih=>rw [Qm];split <;> simp [ih]
theorem gapc_le (l:List UInt8):∀ b,gapc b l≤l.length:=by
 induction l with
 | nil=>intro b;cases b <;> simp [gapc]
 | cons c r ih =>
  intro b;cases b
  ·have h1:=ih false
   have h2:=ih true;simp only [gapc,Qb];split
   ·omega
   ·split <;> omega
  ·have h1:=ih false
   have h2:=ih true;simp only [gapc,Qb];split <;> omega
theorem gap_le (l:List UInt8):gap l≤l.length:=gapc_le l false
def Fits (n:Nat) (r:Sc):Prop:=r.err=0→1≤r.width∧r.width≤n
theorem Fits.ite {n:Nat} {p:Prop} [Decidable p] {a b:Sc} (ha:p→Fits n a) (hb:¬ p→Fits n b):Fits n (if p then a else b):=by
 split
 ·exact ha ‹_›
 ·exact hb ‹_›
theorem Fits.bad (n:Nat) {e:Int} (h:e≠0):Fits n (bad e):=λh'=>absurd h' h
theorem qg5 (l:List UInt8):Fits l.length (scan l):=by
 cases l with
 | nil=>exact Fits.bad _ (by decide)
 | cons c r =>
  have hw:=qfp isWord r;have hd:=qfp isDigit r;have ht:=qfp q3q r;rw [scan];refine Fits.ite (λ_=>?_) λ_=>Fits.ite (λ_=>?_) λ_=>Fits.ite (λ_=>?_) λ_=>Fits.ite (λh4=>?_) λ_=>Fits.ite (λ_=>?_) λ_=>Fits.bad _ (by decide)
  ·exact Fits.ite (λ_=>Fits.bad _ (by decide)) λ_ _=>⟨by simp only [];omega,by simp only [Qb];omega⟩
  ·exact Fits.ite (λ_=>Fits.bad _ (by decide)) λ_ _=>⟨by simp only [];omega,by simp only [Qb];omega⟩
  ·refine Fits.ite (λh4=>?_) λ_=>Fits.bad _ (by decide)
   have:span q3q r<r.length:=by
    rcases Nat.lt_or_ge (span q3q r) r.length with h5 | h5
    ·exact h5
    ·rw [QK h5] at h4;cases h4
   exact Fits.ite (λ_=>Fits.bad _ (by decide)) λ_ _=>⟨by simp only [];omega,by simp only [Qb];omega⟩
  ·rw [Q0] at h4
   cases r with
   | nil=>cases h4.2
   | cons d r=>exact λ_=>⟨by simp only [];omega,by simp only [Qb];omega⟩
  ·exact λ_=>⟨by simp only [];omega,by simp only [Qb];omega⟩
end Lx
namespace Snd
abbrev Str:=List UInt8
abbrev Conf:=Str×Str
def letB (c:UInt8):Bool:=decide (97≤c.toNat)&&decide (c.toNat≤122)
def q0b (s:Str) (lo hi:Int):Bool:=s.all letB&&(decide (lo≤(s.length:Int))&&decide ((s.length:Int)≤hi))
def flip (c:Conf):Conf:=(c.2,c.1)
def okC (c:Conf):Bool:=q0b c.1 1 3&&(q0b c.2 1 3&&!(c.1==c.2))
def same (c d:Conf):Bool:=c==d||c==flip d
def fresh:List Conf→Bool
 | []=>true
 | c::r=>!(r.any (same c))&&fresh r
def q0h (l:List Conf):Bool:=decide (l.length≤200)&&(l.all okC&&fresh l)
def q7n (x y a b:Str) (i:Nat):Bool:=decide (i+a.length≤x.length)&&((x.drop i).take a.length==a&&x.take i++b++x.drop (i+a.length)==y)
def repB (x y a b:Str):Bool:=(List.range (x.length+1)).any (q7n x y a b)
def hitB (x y:Str) (c:Conf):Bool:=repB x y c.1 c.2||repB x y c.2 c.1
def q29 (l:List Conf) (x y:Str):Bool:=x==y||l.any (hitB x y)
def q9m (s:Str):Bool:=q0b s 1 12
def rising:List Str→Bool
 | []=>true
 | [_]=>true
 | a::b::r=>Q5 a b&&rising (b::r)
def q0c (lang:Str) (ws:List Str):Bool:=Lx.q0v lang&&(decide (1≤ws.length)&&(decide (ws.length≤4096)&&(ws.all (λs=>q0b s 3 8)&&rising ws)))
def q3f (ws:List Str) (c:List Conf) (x:Str) (n:Nat):List Int:=((List.range n).filter λi=>q29 c (ws.getD i []) x).map Int.ofNat
def q10 (lang:Str) (ws:List Str) (c:List Conf) (x:Str):List Int×Int :=
 if q0c lang ws&&(q0h c&&q9m x) then (q3f ws c x ws.length,0) else ([],1)
def q2y (w:Str) (i:Nat) (p:Conf):List Str:=if p.1.isPrefixOf (w.drop i) then [w.take i++p.2++(w.drop i).drop p.1.length] else []
def wayL (w:Str) (i:Nat) (c:Conf):List Str:=q2y w i c++q2y w i (flip c)
def atL (l:List Conf) (w:Str) (i:Nat):List Str:=l.flatMap (wayL w i)
def q6r (l:List Conf) (w:Str):Nat→Nat→List Str
 | 0,_=>[]
 | f+1,i=>atL l w i++q6r l w f (i+1)
def q76 (l:List Conf) (w:Str):List Str:=w::q6r l w w.length 0
theorem qb3 (c:Conf):flip (flip c)=c:=rfl
theorem flip_inj {c d:Conf} (h:flip c=flip d):c=d:=by
 have:=congrArg flip h
 rwa [qb3,qb3] at this
theorem same_iff {c d:Conf}:same c d=true↔c=d∨c=flip d:=by
 unfold same;rw [Qi,beq_iff_eq,beq_iff_eq]
theorem same_symm (c d:Conf):same c d=same d c:=by
 rw [Qs,same_iff,same_iff];constructor
 ·rintro (h | h)
  ·exact .inl h.symm
  ·exact .inr (by rw [h,qb3])
 ·rintro (h | h)
  ·exact .inl h.symm
  ·exact .inr (by rw [h,qb3])
theorem fresh_snoc (l:List Conf) (c:Conf):fresh (l++[c])=(fresh l&&!(l.any (same c))):=by
 induction l with
 | nil=>rfl
 | cons d l ih =>
  have h1:(d::l).any (same c)=(same c d||l.any (same c)):=rfl;have h2:(l++[c]).any (same d)=(l.any (same d)||same c d):=by
   rw [Wn,show [c].any (same d)=(same d c||false) from rfl,Bool.or_false,same_symm d c]
  rw [Qr,fresh,ih,fresh,h1,h2];cases l.any (same d) <;> cases fresh l <;> cases same c d <;> cases l.any (same c) <;> rfl
theorem fresh_take (l:List Conf) (h:fresh l=true):∀ n,fresh (l.take n)=true:=by
 induction l with
 | nil=>intro n;rw [List.take_nil];rfl
 | cons c l ih =>
  intro n;cases n with
  | zero=>rfl
  | succ n =>
   rw [fresh,Q0] at h;rw [QV,fresh,ih h.2,QU];rw [Qc] at h ⊢;rw [← Qd,Qk] at h ⊢;rintro ⟨x,hx,hs⟩;exact h.1 ⟨x,List.mem_of_mem_take hx,hs⟩
theorem okC_flip (c:Conf):okC (flip c)=okC c:=by
 unfold okC flip;simp only [];rw [show (c.2==c.1)=(c.1==c.2) from Bool.beq_comm];cases q0b c.1 1 3 <;> cases q0b c.2 1 3 <;> rfl
def Rep (x y a b:Str):Prop:=∃ u v,x=u++a++v∧y=u++b++v
theorem Rep.symm {x y a b:Str} (h:Rep x y a b):Rep y x b a:=by
 obtain ⟨u,v,h1,h2⟩:=h;exact ⟨u,v,h2,h1⟩
theorem rep_iff {x y a b:Str}:repB x y a b=true↔Rep x y a b:=by
 unfold repB;rw [Qk];constructor
 ·rintro ⟨i,_,h⟩
  unfold q7n at h;rw [Q0,Q0,decide_eq_true_eq,beq_iff_eq,beq_iff_eq] at h;obtain ⟨hi,ha,hy⟩:=h;refine ⟨x.take i,x.drop (i+a.length),?_,hy.symm⟩
  conv=>lhs;rw [← Qo i x,← Qo a.length (x.drop i),ha,Wu]
  rw [Qa]
 ·rintro ⟨u,v,rfl,rfl⟩
  refine ⟨u.length,QN.2 (by simp;omega),?_⟩
  unfold q7n;rw [Q0,Q0,decide_eq_true_eq,beq_iff_eq,beq_iff_eq];refine ⟨by simp,?_,?_⟩
  ·rw [Qa,Qp,QO]
  ·rw [Qa u a v,QO,← Wu,Qp,Qp]
theorem qj7 {x y:Str} {c:Conf}:hitB x y c=true↔Rep x y c.1 c.2∨Rep x y c.2 c.1:=by
 unfold hitB;rw [Qi,rep_iff,rep_iff]
theorem hit_symm (x y:Str) (c:Conf):hitB x y c=hitB y x c:=by
 rw [Qs,qj7,qj7];exact ⟨λh=>h.elim (λh=>.inr h.symm) (λh=>.inl h.symm),λh=>h.elim (λh=>.inr h.symm) (λh=>.inl h.symm)⟩
theorem sounds_iff {l:List Conf} {x y:Str}:q29 l x y=true↔x=y∨∃ c∈l,Rep x y c.1 c.2∨Rep x y c.2 c.1:=by
 unfold q29;rw [Qi,beq_iff_eq,Qk];constructor
 ·rintro (h | ⟨c,hc,h⟩)
  ·exact .inl h
  ·exact .inr ⟨c,hc,qj7.1 h⟩
 ·rintro (h | ⟨c,hc,h⟩)
  ·exact .inl h
  ·exact .inr ⟨c,hc,qj7.2 h⟩
theorem qk0 (l:List Conf) (x y:Str):q29 l x y=q29 l y x:=by
 unfold q29;rw [show (x==y)=(y==x) from Bool.beq_comm,show hitB x y=hitB y x from funext λc=>hit_symm x y c]
theorem okC_len {c:Conf} (h:okC c=true):(1≤c.1.length∧c.1.length≤3)∧(1≤c.2.length∧c.2.length≤3)∧c.1≠c.2:=by
 unfold okC q0b at h;simp only [Q0,decide_eq_true_eq,Qc,beq_eq_false_iff_ne] at h;obtain ⟨⟨_,h1,h2⟩,⟨_,h3,h4⟩,h5⟩:=h;exact ⟨⟨by omega,by omega⟩,⟨by omega,by omega⟩,h5⟩
theorem proper_len {l:List Conf} (h:q0h l=true):∀ c∈l,(1≤c.1.length∧c.1.length≤3)∧(1≤c.2.length∧c.2.length≤3)∧c.1≠c.2:=by
 unfold q0h at h;simp only [Q0,Ql] at h;exact λc hc=>okC_len (h.2.1 c hc)
theorem qfj {w y:Str} {i:Nat} {p:Conf} (hi:i≤w.length):y∈q2y w i p↔∃ v,w=w.take i++p.1++v∧y=w.take i++p.2++v:=by
 unfold q2y;constructor
 ·intro h
  split at h
  ·rename_i hp
   rw [QC] at hp;obtain ⟨v,hv⟩:=hp;have hy:=Q7.1 h;refine ⟨v,?_,?_⟩
   ·rw [Qa,hv,Qo]
   ·rw [hy,← hv,Qp]
  ·cases h
 ·rintro ⟨v,hw,hy⟩
  have hd:w.drop i=p.1++v:=by
   have:=congrArg (List.drop i) hw
   rw [this,Qa,List.drop_append_of_le_length (by rw [QG];omega),QK (by rw [QG];omega),Wo]
  rw [if_pos (by rw [QC,hd];exact List.prefix_append _ _),hd,Qp]
  exact Q7.2 hy
theorem mem_restL {l:List Conf} {w y:Str}:∀ (f i:Nat),y∈q6r l w f i↔∃ k,i≤k∧k<i+f∧y∈atL l w k:=by
 intro f
 induction f with
 | zero =>
  intro i;constructor
  ·intro h;cases h
  ·rintro ⟨k,h1,h2,_⟩;omega
 | succ f ih =>
  intro i;rw [q6r,Qg,ih];constructor
  ·rintro (h | ⟨k,h1,h2,h3⟩)
   ·exact ⟨i,by omega,by omega,h⟩
   ·exact ⟨k,by omega,by omega,h3⟩
  ·rintro ⟨k,h1,h2,h3⟩
   by_cases h:k=i
   ·subst h;exact .inl h3
   ·exact .inr ⟨k,by omega,by omega,h3⟩
theorem qlr {l:List Conf} (hl:q0h l=true) {w y:Str}:y∈q76 l w↔q29 l w y=true:=by
 have hlen:=proper_len hl;unfold q76;rw [Q6,sounds_iff,mem_restL];have key:∀ c∈l,∀ p:Conf,(p=c∨p=flip c)→Rep w y p.1 p.2→∃ k,0≤k∧k<0+w.length∧y∈atL l w k:=by
  intro c hc p hp hr;obtain ⟨u,v,h1,h2⟩:=hr;have hl1:1≤p.1.length:=by
   obtain ⟨a,b,_⟩:=hlen c hc;rcases hp with rfl | rfl
   ·exact a.1
   ·exact b.1
  have hw:w.length=u.length+p.1.length+v.length:=by rw [h1];simp;omega
  refine ⟨u.length,by omega,by omega,?_⟩
  unfold atL;rw [QH];refine ⟨c,hc,?_⟩;have ht:w.take u.length=u:=by rw [h1,Qa,QO]
  have:y∈q2y w u.length p:=(qfj (by omega)).2 ⟨v,by rw [ht];exact h1,by rw [ht];exact h2⟩
  unfold wayL;rw [Qg];rcases hp with rfl | rfl
  ·exact .inl this
  ·exact .inr this
 constructor
 ·rintro (h | ⟨k,_,h2,h3⟩)
  ·exact .inl h.symm
  ·right
   unfold atL at h3;rw [QH] at h3;obtain ⟨c,hc,h3⟩:=h3;refine ⟨c,hc,?_⟩;unfold wayL at h3;rw [Qg] at h3;rcases h3 with h3 | h3
   ·obtain ⟨v,hv,hy⟩:=(qfj (by omega)).1 h3
    exact .inl ⟨_,v,hv,hy⟩
   ·obtain ⟨v,hv,hy⟩:=(qfj (by omega)).1 h3
    exact .inr ⟨_,v,hv,hy⟩
 ·rintro (h | ⟨c,hc,h⟩)
  ·exact .inl h.symm
  ·right
   rcases h with h | h
   ·exact key c hc c (.inl rfl) h
   ·exact key c hc (flip c) (.inr rfl) h
end Snd
namespace Snd
theorem q7w:∀ a:Str,Q5 a a=false
 | []=>rfl
 | c::a=>by
  unfold Q5;rw [q7w a,decide_eq_false (UInt8.lt_irrefl c)];simp
theorem q48:∀ {a b c:Str},Q5 a b=true→Q5 b c=true→Q5 a c=true
 | [],[],_,h,_=>by cases h
 | _::_,[],_,h,_=>by cases h
 | _,_::_,[],_,h=>by cases h
 | [],_::_,_::_,_,_=>rfl
 | x::a,y::b,z::c,h,h'=>by
  unfold Q5 at *
  simp only [Qi,Q0,decide_eq_true_eq,beq_iff_eq] at *
  rcases h with h | ⟨rfl,h⟩
  ·rcases h' with h' | ⟨rfl,h'⟩
   ·exact .inl (UInt8.lt_trans h h')
   ·exact .inl h
  ·rcases h' with h' | ⟨rfl,h'⟩
   ·exact .inl h'
   ·exact .inr ⟨rfl,q48 h h'⟩
theorem qmf:∀ {a b:Str},Q5 a b=false→Q5 b a=false→a=b
 | [],[],_,_=>rfl
 | [],_::_,h,_=>by cases h
 | _::_,[],_,h=>by cases h
 | x::a,y::b,h,h'=>by
  unfold Q5 at *
  simp only [Qw,QP,decide_eq_false_iff_not,beq_eq_false_iff_ne] at *
  have hxy:x=y:=by
   rcases UInt8.lt_or_lt_of_ne (a:=x) (b:=y) with h1;by_cases e:x=y
   ·exact e
   ·rcases h1 e with h2 | h2
    ·exact absurd h2 h.1
    ·exact absurd h2 h'.1
  subst hxy;rw [qmf (h.2.resolve_left (λe=>e rfl)) (h'.2.resolve_left (λe=>e rfl))]
theorem qid:∀ {ws:List Str},rising ws=true→∀ i j,i<j→j<ws.length→Q5 (ws.getD i []) (ws.getD j [])=true
 | [],_,i,j,_,h=>by cases h
 | [_],_,i,j,h,h'=>by simp at h';omega
 | a::b::r,h,i,j,hij,hj=>by
  rw [rising,Q0] at h;have ih:=@qid (b::r) h.2;cases j with
  | zero=>omega
  | succ j =>
   have hj':j<(b::r).length:=by simpa using hj
   cases i with
   | zero =>
    rw [QW,Qn];cases j with
    | zero=>exact h.1
    | succ j=>exact q48 h.1 (ih 0 (j+1) (by omega) hj')
   | succ i=>rw [Qn,Qn];exact ih i j (by omega) hj'
def below (ws:List Str) (s:Str):Nat:=(ws.takeWhile λx=>Q5 x s).length
theorem below_lt {ws:List Str} (h:rising ws=true) (s:Str):(∀ t,t<below ws s→Q5 (ws.getD t []) s=true)∧(∀ t,below ws s≤t→t<ws.length→Q5 (ws.getD t []) s=false)∧below ws s≤ws.length:=by
 induction ws with
 | nil=>exact ⟨λt ht=>(by cases ht),λt _ ht=>(by cases ht),QL _⟩
 | cons a r ih =>
  have hr:rising r=true:=by
   cases r with
   | nil=>rfl
   | cons b r=>rw [rising,Q0] at h;exact h.2
  obtain ⟨h1,h2,h3⟩:=ih hr;unfold below at *
  cases ha:Q5 a s
  ·rw [Qm,ha]
   refine ⟨λt ht=>(by cases ht),λt _ ht=>?_,Wi _⟩
   cases t with
   | zero=>exact ha
   | succ t =>
    have hlt:=qid h 0 (t+1) (by omega) ht
    rw [QW] at hlt;cases hc:Q5 ((a::r).getD (t+1) []) s
    ·rfl
    ·rw [q48 hlt hc] at ha;cases ha
  ·rw [Qm,ha]
   simp only [if_true,Qb];refine ⟨λt ht=>?_,λt h4 h5=>?_,by omega⟩
   ·cases t with
    | zero=>exact ha
    | succ t=>rw [Qn];exact h1 t (by omega)
   ·cases t with
    | zero=>omega
    | succ t=>rw [Qn];exact h2 t (by omega) (by simpa using h5)
theorem bs_below {ws:List Str} (h:rising ws=true) (s:Str) (less:Nat→Bool) (hl:∀ t,t<ws.length→less t=Q5 (ws.getD t []) s) :
  Wj less ws.length 0 ws.length=below ws s:=by
 obtain ⟨h1,h2,h3⟩:=below_lt h s;have key:∀ (l':Nat→Bool),(∀ t,t<ws.length→l' t=less t)→∀ f lo hi,hi≤ws.length→Wj less f lo hi=Wj l' f lo hi:=by
  intro l' hl' f
  induction f with
  | zero=>intro lo hi _;rfl
  | succ f ih =>
   intro lo hi hh;unfold Wj;split
   ·rw [hl' _ (by omega),ih _ _ hh,ih _ _ (by omega)]
   ·rfl
 rw [key (λt=>decide (t<below ws s)) (λt ht=>?_) _ _ _ (QL _)]
 ·exact Lib.bsGo_spec _ _ (λt ht=>decide_eq_true ht) (λt ht=>decide_eq_false (by omega)) _ _ _ (by omega) (Wi _) h3
 ·rw [hl t ht]
  by_cases hb:t<below ws s
  ·rw [decide_eq_true hb,h1 t hb]
  ·rw [decide_eq_false hb,h2 t (by omega) ht]
def qbo (ws:List Str) (s:Str):List Int:=if below ws s<ws.length∧ws.getD (below ws s) []=s then [(below ws s:Int)] else []
theorem mem_findL {ws:List Str} (h:rising ws=true) (s:Str) (k:Int):k∈qbo ws s↔∃ i:Nat,k=i∧i<ws.length∧ws.getD i []=s:=by
 unfold qbo;constructor
 ·intro hk
  split at hk
  ·rename_i hc
   exact ⟨_,Q7.1 hk,hc.1,hc.2⟩
  ·cases hk
 ·rintro ⟨i,rfl,hi,he⟩
  have hb:below ws s=i:=by
   obtain ⟨h1,h2,h3⟩:=below_lt h s;rcases Nat.lt_trichotomy (below ws s) i with h4 | h4 | h4
   ·have h5:=qid h _ _ h4 hi
    have h6:=h2 i (by omega) hi
    have h7:=h2 (below ws s) (QL _) (by omega)
    rw [he] at h5;rw [h5] at h7;cases h7
   ·exact h4
   ·have:=h1 i h4
    rw [he,q7w] at this;cases this
  rw [if_pos ⟨by omega,by rw [hb];exact he⟩,hb]
  exact Q7.2 rfl
def q1t (ws:List Str) (l:List Str):List Int:=l.flatMap (qbo ws)
theorem qmr (d:Array Int) (hs:∀ i j,i≤j→j<d.size→d[i]! ≤ d[j]!):∀ m,m≤d.size→(Qx d m).Pairwise (·<·)∧(∀ x∈Qx d m,∃ j,j<m∧x=d[j]!)∧(∀ j,j<m→d[j]! ∈ Qx d m):=by
 intro m
 induction m with
 | zero=>intro _;exact ⟨Qt,λx h=>(by cases h),λj h=>(by omega)⟩
 | succ m ih =>
  intro hm;obtain ⟨h1,h2,h3⟩:=ih (by omega)
  rw [Lib.compactUpTo_succ];have mono:∀ x∈Qx d m++(if W9 d m then [d[m]!] else []),∃ j,j<m+1∧x=d[j]! := by
   intro x hx;rcases Qg.1 hx with hx | hx
   ·obtain ⟨j,hj,e⟩:=h2 x hx
    exact ⟨j,by omega,e⟩
   ·split at hx
    ·exact ⟨m,by omega,Q7.1 hx⟩
    ·cases hx
  refine ⟨?_,mono,?_⟩
  ·rw [List.pairwise_append]
   refine ⟨h1,?_,?_⟩
   ·split
    ·exact QJ _ _
    ·exact Qt
   ·intro x hx y hy
    split at hy
    ·rename_i hk
     rw [Q7.1 hy];obtain ⟨j,hj,rfl⟩:=h2 x hx;unfold W9 at hk;have hk:=of_decide_eq_true hk;rcases hk with rfl | hk
     ·omega
     ·have a1:=hs j (m-1) (by omega) (by omega)
      have a2:=hs (m-1) m (by omega) (by omega)
      omega
    ·cases hy
  ·intro j hj
   rw [Qg];by_cases e:j=m
   ·subst e
    cases hk:W9 d j
    ·left
     unfold W9 at hk;have hk:=of_decide_eq_false hk;rw [not_or] at hk;have he:d[j]! = d[j-1]! := by
      by_cases he:d[j]! = d[j-1]!
      ·exact he
      ·exact absurd he hk.2
     rw [he];exact h3 _ (by omega)
    ·right
     exact Q7.2 rfl
   ·exact .inl (h3 j (by omega))
theorem qly:∀ {l m:List Int},l.Pairwise (·<·)→m.Pairwise (·<·)→(∀ x,x∈l↔x∈m)→l=m
 | [],[],_,_,_=>rfl
 | [],b::m,_,_,h=>by have:=(h b).2 (Q8 ..);cases this
 | a::l,[],_,_,h=>by have:=(h a).1 (Q8 ..);cases this
 | a::l,b::m,hl,hm,h=>by
  rw [Qe] at hl hm;have hab:a=b:=by
   have h1:=(h a).1 (Q8 ..);have h2:=(h b).2 (Q8 ..);rcases Q6.1 h1 with h1 | h1
   ·exact h1
   ·rcases Q6.1 h2 with h2 | h2
    ·exact h2.symm
    ·have:=hl.1 b h2;have:=hm.1 a h1;omega
  subst hab;rw [qly hl.2 hm.2 λx=>?_]
  constructor
  ·intro hx
   rcases Q6.1 ((h x).1 (Qj _ hx)) with e | e
   ·have:=hl.1 x hx;omega
   ·exact e
  ·intro hx
   rcases Q6.1 ((h x).2 (Qj _ hx)) with e | e
   ·have:=hm.1 x hx;omega
   ·exact e
theorem nearL_strict (ws:List Str) (c:List Conf) (x:Str) (n:Nat):(q3f ws c x n).Pairwise (·<·):=by
 unfold q3f;rw [List.pairwise_map];refine List.Pairwise.imp ?_ ((List.pairwise_lt_range (n:=n)).filter _);intro a b h;show (a:Int)<(b:Int);omega
theorem mem_nearL {ws:List Str} {c:List Conf} {x:Str} {n:Nat} {k:Int}:k∈q3f ws c x n↔∃ i:Nat,k=i∧i<n∧q29 c (ws.getD i []) x=true:=by
 unfold q3f;rw [List.mem_map];constructor
 ·rintro ⟨i,hi,rfl⟩
  rw [Qy,QN] at hi;exact ⟨i,rfl,hi.1,hi.2⟩
 ·rintro ⟨i,rfl,h1,h2⟩
  exact ⟨i,Qy.2 ⟨QN.2 h1,h2⟩,rfl⟩
theorem mem_foundL {ws:List Str} (h:rising ws=true) {c:List Conf} (hc:q0h c=true) {x:Str} {k:Int}:k∈q1t ws (q76 c x)↔k∈q3f ws c x ws.length:=by
 unfold q1t;rw [QH,mem_nearL];constructor
 ·rintro ⟨s,hs,hk⟩
  obtain ⟨i,rfl,hi,he⟩:=(mem_findL h s k).1 hk;refine ⟨i,rfl,hi,?_⟩;rw [he,qk0];exact (qlr hc).1 hs
 ·rintro ⟨i,rfl,hi,hs⟩
  rw [qk0] at hs;exact ⟨_,(qlr hc).2 hs,(mem_findL h _ _).2 ⟨i,rfl,hi,rfl⟩⟩
theorem near_found {ws:List Str} (h:rising ws=true) {c:List Conf} (hc:q0h c=true) (x:Str) :
  Lib.compact ((q1t ws (q76 c x)).mergeSort λa b=>decide (a≤b))=q3f ws c x ws.length:=by
 have hsort:=List.pairwise_mergeSort (le:=λa b:Int=>decide (a≤b)) (λa b c h1 h2=>decide_eq_true (by have:=of_decide_eq_true h1;have:=of_decide_eq_true h2;omega)) (λa b=>by
  rw [Qi,decide_eq_true_eq,decide_eq_true_eq];omega) (q1t ws (q76 c x))
 have hperm:=List.mergeSort_perm (q1t ws (q76 c x)) (λa b:Int=>decide (a≤b))
 generalize (q1t ws (q76 c x)).mergeSort (λa b=>decide (a≤b))=zs at *
 have hget:∀ i (hi:i<zs.length),zs.toArray[i]! = zs[i]:=λi hi=>by rw [getElem!_pos _ i (by simpa using hi)];simp
 obtain ⟨h1,h2,h3⟩:=qmr zs.toArray (λi j hij hj=>by
  have hj:j<zs.length:=by simpa using hj
  rw [hget i (by omega),hget j hj]
  rcases Nat.eq_or_lt_of_le hij with rfl | hlt
  ·exact Int.le_refl _
  ·exact of_decide_eq_true (QF.1 hsort i j (by omega) hj hlt)) zs.length (by simp)
 refine qly h1 (nearL_strict ..) λk=>?_
 rw [← mem_foundL h hc,← hperm.mem_iff];constructor
 ·intro hk
  obtain ⟨j,hj,rfl⟩:=h2 k hk;rw [hget j hj];exact Wl hj
 ·intro hk
  obtain ⟨j,hj,rfl⟩:=List.getElem_of_mem hk;rw [← hget j hj];exact h3 j hj
end Snd
namespace Cod
abbrev Str:=List UInt8
abbrev Pt:=Int×Int
abbrev Giv:=Str×List Int×Bool×Int×Int
structure Ear where
 lang:Str
 ws:List Str
 c:List Snd.Conf
def onB (p:Pt):Bool:=decide (0≤min p.1 p.2)&&decide (max p.1 p.2≤32767)
def sq (p q:Pt):Int:=(q.1-p.1)*(q.1-p.1)+(q.2-p.2)*(q.2-p.2)
def q5g (p q:Pt):Int:=if onB p&&onB q then sq p q else 0
def ptOf (g:Giv):Pt:=g.2.2.2
def q0o (a b:Giv):Bool:=a.2.2.1&&(b.2.2.1&&decide (q5g (ptOf a) (ptOf b)≤1000000))
def q1g (g:Giv):Bool:=if g.2.2.1 then onB (ptOf g) else (g.2.2.2.1==0&&g.2.2.2.2==0)
def inB (n:Nat) (code:List Int):Bool:=code.all λi=>decide (0≤i)&&decide (i<(n:Int))
def q0q (lang:Str) (ws:List Str) (code:List Int):Bool:=Snd.q0c lang ws&&(decide (3≤(code.length:Int))&&(decide ((code.length:Int)≤5)&&inB ws.length code))
def Ear.near (e:Ear) (i:Int):List Int:=(Snd.q10 e.lang e.ws e.c (e.ws.getD i.toNat [])).1
def swapAt (code:List Int) (i:Nat):List Int:=(code.set i (code.getD (i-1) 0)).set (i-1) (code.getD i 0)
def Ear.q2g (e:Ear) (code:List Int) (i:Nat):List (List Int) :=
 ((e.near (code.getD i 0)).filter λk=>!(k==code.getD i 0)).map (code.set i)++(code.eraseIdx i::(if i=0∨code.getD (i-1) 0=code.getD i 0 then [] else [swapAt code i]))
def Ear.q0i (e:Ear) (code:List Int):Nat→Nat→List (List Int)
 | 0,_=>[]
 | f+1,i=>e.q2g code i++e.q0i code f (i+1)
def Ear.miss (e:Ear) (code:List Int):List (List Int):=e.q0i code code.length 0
theorem qe8 {p:Pt} (h:onB p=true):(0≤p.1∧p.1≤32767)∧(0≤p.2∧p.2≤32767):=by
 unfold onB at h;rw [Q0,decide_eq_true_eq,decide_eq_true_eq] at h;omega
theorem qdl {a b:Int} (h1:-32767≤a) (h2:a≤32767) (h3:-32767≤b) (h4:b≤32767):-1073676289≤a*b∧a*b≤1073676289:=by
 have ha:a.natAbs≤32767:=by omega
 have hb:b.natAbs≤32767:=by omega
 have h:=Nat.mul_le_mul ha hb;rw [← Int.natAbs_mul] at h;omega
abbrev Key:=Int×Int×Int×Int×Int×Int
def key (l:List Int):Key:=(l.length,l.getD 0 0,l.getD 1 0,l.getD 2 0,l.getD 3 0,l.getD 4 0)
theorem key_inj {a b:List Int} (ha:a.length≤5) (hb:b.length≤5) (h:key a=key b):a=b:=by
 unfold key at h;simp only [Prod.mk.injEq] at h;obtain ⟨h0,h1,h2,h3,h4,h5⟩:=h;have h0:a.length=b.length:=by omega
 apply List.ext_getElem h0
 intro i hi hj;have hg:a.getD i 0=b.getD i 0:=by
  match i with
  | 0=>exact h1
  | 1=>exact h2
  | 2=>exact h3
  | 3=>exact h4
  | 4=>exact h5
  | n+5=>omega
 rwa [Q4,Q4,Q9 hi,Q9 hj] at hg
def Ear.apart (e:Ear) (o g:Giv):Bool :=
 !(o.2.1==g.2.1)&&(!((e.miss o.2.1).contains g.2.1)&&((e.miss g.2.1).all λx=>!(o.2.1==x)&&!((e.miss o.2.1).contains x&&q0o o g)))
def Ear.takes (e:Ear) (done:List Giv) (g:Giv):Bool:=done.all λo=>e.apart o g
def okG (e:Ear) (g:Giv):Bool:=Lx.q0v g.1&&(q1g g&&q0q e.lang e.ws g.2.1)
def Ear.fits (e:Ear) (done:List Giv) (g:Giv):Bool:=Lx.q0v g.1&&(!(done.any λo=>o.1==g.1)&&(q1g g&&(q0q e.lang e.ws g.2.1&&e.takes done g)))
def Ear.shelf (e:Ear):List Giv→List Giv→Bool
 | _,[]=>true
 | done,g::r=>e.fits done g&&e.shelf (done++[g]) r
def Ear.ok (e:Ear):Bool:=Snd.q0c e.lang e.ws&&Snd.q0h e.c
def Ear.proper (e:Ear) (book:List Giv):Bool:=e.ok&&(decide ((book.length:Int)≤20000)&&e.shelf [] book)
end Cod
namespace Snd
theorem q0t {α:Type} (l:List α) (d:α) (k:Nat) (h:k<l.length):l.take (k+1)=l.take k++[l.getD k d]:=by
 rw [List.take_succ_eq_append_getElem h,Q4,Q9 h];rfl
theorem q1n {α:Type} (l:List α) (d:α) (k:Nat) (h:k<l.length):l.getD k d∈l:=by
 rw [Q4,Q9 h];exact Wl h
theorem q4t {α:Type} (l:List α) (d:α) (p:α→Bool) (k:Nat) (h:k<l.length):(l.take (k+1)).all p=((l.take k).all p&&p (l.getD k d)):=by
 rw [q0t l d k h,List.all_append,QD,List.all_nil,QU]
theorem qco {α:Type} (l:List α) (d:α) (p:α→Bool) (k:Nat) (h:k<l.length):(l.take (k+1)).any p=((l.take k).any p||p (l.getD k d)):=by
 rw [q0t l d k h,Wn,List.any_cons,List.any_nil,Bool.or_false]
theorem q7f {α:Type} (l:List α) (p:α→Bool) (k:Nat) (h:l.length≤k):(l.take k).all p=l.all p:=by rw [Qh h]
theorem q6h {α:Type} (l:List α) (d:α) (p:α→Bool) (k:Nat) (h:k<l.length) (hp:p (l.getD k d)=false):l.all p=false:=by
 rw [← Qd,Ql];intro ha;have:=ha _ (q1n l d k h);rw [hp] at this;cases this
theorem qix {α:Type} (l:List α) (d:α) (p:α→Bool) (k:Nat) (h:k<l.length) (hp:p (l.getD k d)=true):l.any p=true :=
 Qk.2 ⟨_,q1n l d k h,hp⟩
theorem q5k:∀ (ws:List Str) (k:Nat),k<ws.length→rising (ws.take (k+1))=(rising (ws.take k)&&(k==0||Q5 (ws.getD (k-1) []) (ws.getD k [])))
 | [],k,h=>by cases h
 | [a],k,h=>by
  obtain rfl:k=0:=by simpa using h
  rfl
 | a::b::r,0,h=>rfl
 | a::b::r,1,h=>by
  show (Q5 a b&&true)=(true&&(false||Q5 a b));simp
 | a::b::r,k+2,h=>by
  have ih:=q5k (b::r) (k+1) (by simpa using h)
  have e1:(a::b::r).take (k+2+1)=a::b::r.take (k+1):=rfl;have e2:(a::b::r).take (k+2)=a::b::r.take k:=rfl;have e3:(b::r).take (k+1+1)=b::r.take (k+1):=rfl;have e4:(b::r).take (k+1)=b::r.take k:=rfl;rw [e3,e4] at ih;rw [e1,e2,rising,rising,ih];have e5:(a::b::r).getD (k+2-1) []=(b::r).getD (k+1-1) []:=rfl;have e6:(a::b::r).getD (k+2) []=(b::r).getD (k+1) []:=rfl;rw [e5,e6,Wv];rfl
theorem rising_take:∀ (ws:List Str) (k:Nat),rising ws=true→rising (ws.take k)=true:=by
 intro ws k h;rcases Nat.lt_or_ge k ws.length with hk | hk
 ·have key:∀ n,k+n≤ws.length→rising (ws.take (k+n))=true→rising (ws.take k)=true:=by
   intro n
   induction n with
   | zero=>intro _ h;exact h
   | succ n ih =>
    intro hn h;rw [← Qu,q5k ws (k+n) (by omega),Q0] at h
    exact ih (by omega) h.1
  refine key (ws.length-k) (by omega) ?_
  rw [Qh (by omega)]
  exact h
 ·rw [Qh hk];exact h
theorem rising_no (ws:List Str) (k:Nat) (hk:k<ws.length) (h0:0<k) (h:Q5 (ws.getD (k-1) []) (ws.getD k [])=false):rising ws=false:=by
 rw [← Qd];intro hr;have:=rising_take ws (k+1) hr;rw [q5k ws k hk,h,Q0] at this;have h1:(k==0)=false:=by rw [beq_eq_false_iff_ne];omega
 rw [h1] at this;cases this.2
theorem qf0 (l:List Conf) (d:Conf) (k:Nat) (h:k<l.length):fresh (l.take (k+1))=(fresh (l.take k)&&!((l.take k).any (same (l.getD k d)))):=by
 rw [q0t l d k h,fresh_snoc]
theorem fresh_no (l:List Conf) (d:Conf) (k:Nat) (h:k<l.length) (ha:(l.take k).any (same (l.getD k d))=true):fresh l=false:=by
 rw [← Qd];intro hf;have:=fresh_take l hf (k+1);rw [qf0 l d k h,ha] at this;simp at this
theorem same_val (c d:Conf):same c d=((c.1==d.1&&c.2==d.2)||(c.1==d.2&&c.2==d.1)):=by
 rw [Qs,same_iff];simp only [Qi,Q0,beq_iff_eq];unfold flip;constructor
 ·rintro (rfl | rfl)
  ·exact .inl ⟨rfl,rfl⟩
  ·exact .inr ⟨rfl,rfl⟩
 ·rintro (⟨h1,h2⟩ | ⟨h1,h2⟩)
  ·exact .inl (Prod.ext h1 h2)
  ·exact .inr (Prod.ext h1 h2)
theorem qlb (c:UInt8):letB c=(!(decide ((c.toNat:Int)<97))&&!(decide ((122:Int)<c.toNat))):=by
 unfold letB;rw [Qs];simp only [Q0,decide_eq_true_eq,Qc,decide_eq_false_iff_not];omega
end Snd
namespace Cod
theorem mem_missFrom (e:Ear) (code x:List Int):∀ (f i:Nat),x∈e.q0i code f i↔∃ k,i≤k∧k<i+f∧x∈e.q2g code k:=by
 intro f
 induction f with
 | zero =>
  intro i;constructor
  ·intro h;cases h
  ·rintro ⟨k,h1,h2,_⟩;omega
 | succ f ih =>
  intro i;rw [Ear.q0i,Qg,ih];constructor
  ·rintro (h | ⟨k,h1,h2,h3⟩)
   ·exact ⟨i,by omega,by omega,h⟩
   ·exact ⟨k,by omega,by omega,h3⟩
  ·rintro ⟨k,h1,h2,h3⟩
   by_cases h:k=i
   ·subst h;exact .inl h3
   ·exact .inr ⟨k,by omega,by omega,h3⟩
theorem qcw (e:Ear) (code x:List Int):x∈e.miss code↔∃ k,k<code.length∧x∈e.q2g code k:=by
 unfold Ear.miss;rw [mem_missFrom];constructor
 ·rintro ⟨k,_,h,h'⟩;exact ⟨k,by omega,h'⟩
 ·rintro ⟨k,h,h'⟩;exact ⟨k,Wi _,by omega,h'⟩
theorem q3l (e:Ear) (code x:List Int) (i:Nat):x∈e.q2g code i↔(∃ k∈e.near (code.getD i 0),k≠code.getD i 0∧x=code.set i k)∨x=code.eraseIdx i∨(¬ (i=0∨code.getD (i-1) 0=code.getD i 0)∧x=swapAt code i):=by
 unfold Ear.q2g;rw [Qg,Q6,List.mem_map];refine or_congr ?_ (or_congr QA ?_)
 ·constructor
  ·rintro ⟨k,hk,rfl⟩
   rw [Qy] at hk;refine ⟨k,hk.1,?_,rfl⟩;intro h;rw [h,beq_self_eq_true] at hk;exact absurd hk.2 (by decide)
  ·rintro ⟨k,hk,hne,rfl⟩
   refine ⟨k,Qy.2 ⟨hk,?_⟩,rfl⟩;rw [beq_eq_false_iff_ne.2 hne];rfl
 ·split
  ·rename_i h
   constructor
   ·intro h';cases h'
   ·exact λh'=>absurd h h'.1
  ·rename_i h
   rw [Q7];exact ⟨λh'=>⟨h,h'⟩,λh'=>h'.2⟩
theorem swap_len (code:List Int) (i:Nat):(swapAt code i).length=code.length:=by unfold swapAt;rw [Qz,Qz]
theorem qbt {e:Ear} {code x:List Int} {i:Nat} (hi:i<code.length) (h:x∈e.q2g code i):x.length=code.length∨x.length+1=code.length:=by
 rcases (q3l e code x i).1 h with ⟨k,_,_,rfl⟩ | rfl | ⟨_,rfl⟩
 ·exact .inl (Qz ..)
 ·right;rw [QE hi];omega
 ·exact .inl (swap_len _ _)
theorem qfr {e:Ear} {code x:List Int} (h:x∈e.miss code):x.length=code.length∨x.length+1=code.length:=by
 obtain ⟨k,hk,h⟩:=(qcw e code x).1 h;exact qbt hk h
theorem sq_symm (p q:Pt):sq p q=sq q p:=by
 unfold sq;have h1:q.1-p.1=-(p.1-q.1):=by omega
 have h2:q.2-p.2=-(p.2-q.2):=by omega
 rw [h1,h2,Wp,Wp]
theorem dist_symm (p q:Pt):q5g p q=q5g q p:=by
 unfold q5g;rw [sq_symm,Bool.and_comm]
theorem near_symm (a b:Giv):q0o a b=q0o b a:=by
 unfold q0o;rw [dist_symm];cases a.2.2.1 <;> cases b.2.2.1 <;> rfl
theorem q6y {e:Ear} {o g:Giv}:e.apart o g=true↔o.2.1≠g.2.1∧g.2.1 ∉ e.miss o.2.1∧∀ x∈e.miss g.2.1,o.2.1≠x∧¬ (x∈e.miss o.2.1∧q0o o g=true):=by
 unfold Ear.apart;simp only [Q0,Qc,beq_eq_false_iff_ne,Ql,QP,List.contains_eq_mem,decide_eq_false_iff_not,ne_eq];refine and_congr QA (and_congr QA (forall_congr' λx=>imp_congr QA (and_congr QA ?_)))
 constructor
 ·rintro (h | h) ⟨h1,h2⟩
  ·exact h h1
  ·rw [h] at h2;exact absurd h2 (by decide)
 ·intro h
  by_cases hm:x∈e.miss o.2.1
  ·right
   cases hn:q0o o g
   ·rfl
   ·exact absurd ⟨hm,hn⟩ h
  ·exact .inl hm
theorem apart_swap {e:Ear} {o g:Giv} (h:e.apart o g=true):e.apart g o=true:=by
 rw [q6y] at h ⊢;obtain ⟨h1,h2,h3⟩:=h;refine ⟨λhe=>h1 he.symm,λhm=>(h3 _ hm).1 rfl,λx hx=>⟨?_,?_⟩⟩
 ·rintro rfl;exact h2 hx
 ·rintro ⟨hx',hn⟩
  rw [near_symm] at hn;exact (h3 x hx').2 ⟨hx,hn⟩
def Ear.two (e:Ear) (o g:Giv):Prop:=o.1≠g.1∧e.apart o g=true
theorem two_swap {e:Ear} {o g:Giv} (h:e.two o g):e.two g o:=⟨λhe=>h.1 he.symm,apart_swap h.2⟩
theorem ql3 {e:Ear} {done:List Giv} {g:Giv}:e.fits done g=true↔okG e g=true∧∀ o∈done,e.two o g:=by
 unfold Ear.fits okG Ear.takes Ear.two;simp only [Q0,Qc,Ql,We,beq_iff_eq];constructor
 ·rintro ⟨h1,h2,h3,h4,h5⟩
  exact ⟨⟨h1,h3,h4⟩,λo ho=>⟨h2 o ho,h5 o ho⟩⟩
 ·rintro ⟨⟨h1,h3,h4⟩,h⟩
  exact ⟨h1,λo ho=>(h o ho).1,h3,h4,λo ho=>(h o ho).2⟩
theorem qdg {e:Ear}:∀ {book done:List Giv},e.shelf done book=true↔(∀ g∈book,okG e g=true)∧book.Pairwise e.two∧∀ o∈done,∀ g∈book,e.two o g
 | [],done=>by
  constructor
  ·intro _
   exact ⟨λg h=>(Qv h).elim,Qt,λo _ g h=>(Qv h).elim⟩
  ·intro _;rfl
 | g::r,done=>by
  rw [Ear.shelf,Q0,ql3,qdg,Qe];constructor
  ·rintro ⟨⟨h1,h2⟩,h3,h4,h5⟩
   refine ⟨λx hx=>?_,⟨λx hx=>h5 g (QQ _ (Q7.2 rfl)) x hx,h4⟩,λo ho x hx=>?_⟩
   ·rcases Q6.1 hx with rfl | hx
    ·exact h1
    ·exact h3 x hx
   ·rcases Q6.1 hx with rfl | hx
    ·exact h2 o ho
    ·exact h5 o (QS _ ho) x hx
  ·rintro ⟨h1,⟨h2,h3⟩,h4⟩
   refine ⟨⟨h1 g (Q8 ..),λo ho=>h4 o ho g (Q8 ..)⟩,λx hx=>h1 x (Qj _ hx),h3,λo ho x hx=>?_⟩
   rcases Qg.1 ho with ho | ho
   ·exact h4 o ho x (Qj _ hx)
   ·rw [Q7.1 ho];exact h2 x hx
theorem shelf_snoc {e:Ear} {done:List Giv} {g:Giv}:∀ {l:List Giv},e.shelf done (l++[g])=(e.shelf done l&&e.fits (done++l) g):=by
 intro l
 induction l generalizing done with
 | nil =>
  rw [Wo,Wq,Ear.shelf,Ear.shelf,Ear.shelf];cases e.fits done g <;> rfl
 | cons x l ih =>
  rw [Qr,Ear.shelf,Ear.shelf,ih,Qa,Wv];rfl
theorem qbp {e:Ear} {book:List Giv}:e.proper book=true↔e.ok=true∧book.length≤20000∧(∀ g∈book,okG e g=true)∧book.Pairwise e.two:=by
 unfold Ear.proper;rw [Q0,Q0,decide_eq_true_eq,qdg];constructor
 ·rintro ⟨h1,h2,h3,h4,_⟩
  exact ⟨h1,by omega,h3,h4⟩
 ·rintro ⟨h1,h2,h3,h4⟩
  exact ⟨h1,by omega,h3,h4,λo h=>(Qv h).elim⟩
theorem proper_two {e:Ear} {book:List Giv} (h:e.proper book=true) (d:Giv) {i k:Nat} (hi:i<book.length) (hk:k<book.length) (hne:i≠k):e.two (book.getD i d) (book.getD k d):=by
 obtain ⟨_,_,_,h4⟩:=qbp.1 h;rw [QF] at h4;have e1:book.getD i d=book[i]:=by rw [Q4,Q9 hi];rfl
 have e2:book.getD k d=book[k]:=by rw [Q4,Q9 hk];rfl
 rw [e1,e2];rcases Nat.lt_or_gt_of_ne hne with hlt | hlt
 ·exact h4 i k hi hk hlt
 ·exact two_swap (h4 k i hk hi hlt)
def bump (n:Int):List Int→List Int×Bool
 | []=>([],false)
 | d::r=>bif decide (d+1<n) then ((d+1)::r,true) else (0::(bump n r).1,(bump n r).2)
def qbu (n:Int) (l:List Int):List Int×Bool:=((bump n l.reverse).1.reverse,(bump n l.reverse).2)
def ldig (n:Nat):Nat→Nat→List Int
 | 0,_=>[]
 | s+1,k=>((k % n:Nat):Int)::ldig n s (k / n)
def dig (n s k:Nat):List Int:=(ldig n s k).reverse
theorem ldig_len (n:Nat):∀ (s k:Nat),(ldig n s k).length=s
 | 0,_=>rfl
 | s+1,k=>by rw [ldig,Qb,ldig_len]
theorem dig_len (n s k:Nat):(dig n s k).length=s:=by unfold dig;rw [QY,ldig_len]
theorem ldig_in {n:Nat} (hn:0<n):∀ (s k:Nat),inB n (ldig n s k)=true
 | 0,_=>rfl
 | s+1,k=>by
  have ih:=ldig_in hn s (k / n);unfold inB at *
  rw [ldig,QD,ih,QU,Q0,decide_eq_true_eq,decide_eq_true_eq];have:=Nat.mod_lt k hn;omega
theorem dig_in {n:Nat} (hn:0<n) (s k:Nat):inB n (dig n s k)=true:=by
 have h:=ldig_in hn s k;unfold inB dig at *
 rwa [Wm]
theorem ldig_zero {n:Nat}:∀ (s:Nat),ldig n s 0=Qf s 0
 | 0=>rfl
 | s+1=>by rw [ldig,Nat.zero_mod,Nat.zero_div,ldig_zero s];rfl
theorem dig_zero (n s:Nat):dig n s 0=Qf s 0:=by unfold dig;rw [ldig_zero,QM]
theorem bump_ldig {n:Nat} (hn:0<n):∀ (s k:Nat),k<n ^ s→(k+1<n ^ s→bump n (ldig n s k)=(ldig n s (k+1),true))∧(n ^ s≤k+1→(bump n (ldig n s k)).2=false)
 | 0,k,h=>by
  refine ⟨λh'=>?_,λ_=>rfl⟩
  rw [Nat.pow_zero] at h';omega
 | s+1,k,h=>by
  rw [ldig,bump,ldig];have hm:=Nat.mod_lt k hn;have hdm:=Nat.div_add_mod k n;by_cases hc:k % n+1<n
  ·have e1:(k+1) % n=k % n+1:=by
    conv=>lhs;rw [← hdm,Qu,Ws]
    exact Nat.mod_eq_of_lt hc
   have e2:(k+1) / n=k / n:=by
    conv=>lhs;rw [← hdm,Qu,Wt hn,Nat.div_eq_of_lt hc]
    rfl
   have hlt:k+1<n ^ (s+1):=by
    have hq:k / n<n ^ s:=by
     rw [QR hn,← QI];exact h
    have h2:n*(k / n)+n≤n ^ (s+1):=by
     rw [QI,Nat.mul_comm (n ^ s)];have:=Nat.mul_le_mul_left n hq;rw [Nat.mul_succ] at this;exact this
    omega
   have hd:decide (((k % n:Nat):Int)+1<(n:Int))=true:=decide_eq_true (by omega)
   rw [hd,e1,e2];exact ⟨λ_=>by simp,λh'=>by omega⟩
  ·have hk:k % n+1=n:=by omega
   have e1:(k+1) % n=0:=by
    conv=>lhs;rw [← hdm,Qu,hk,Ws]
    exact Nat.mod_self n
   have e2:(k+1) / n=k / n+1:=by
    conv=>lhs;rw [← hdm,Qu,hk,Wt hn,Nat.div_self hn]
   have hq:k / n<n ^ s:=by
    rw [QR hn,← QI];exact h
   have hd:decide (((k % n:Nat):Int)+1<(n:Int))=false:=decide_eq_false (by omega)
   obtain ⟨ih1,ih2⟩:=bump_ldig hn s (k / n) hq;have hkn:k+1=n*(k / n+1):=by rw [Nat.mul_succ];omega
   rw [hd,e1,e2,QI,Nat.mul_comm (n ^ s)];refine ⟨λh'=>?_,λh'=>?_⟩
   ·rw [hkn] at h'
    have:=ih1 (Nat.lt_of_mul_lt_mul_left h')
    rw [this];rfl
   ·rw [hkn] at h'
    exact ih2 (Nat.le_of_mul_le_mul_left h' hn)
theorem next_dig {n:Nat} (hn:0<n) {s k:Nat} (hk:k<n ^ s):(k+1<n ^ s→qbu n (dig n s k)=(dig n s (k+1),true))∧(n ^ s≤k+1→(qbu n (dig n s k)).2=false):=by
 obtain ⟨h1,h2⟩:=bump_ldig hn s k hk;unfold qbu dig;rw [QT];exact ⟨λh=>by rw [h1 h],h2⟩
def cmpL:List Int→List Int→Int
 | [],[]=>0
 | [],_::_=>-1
 | _::_,[]=>1
 | a::x,b::y=>if a<b then -1 else if b<a then 1 else cmpL x y
def q3u (a b:List Int):Bool:=decide (cmpL a b<0)
theorem q89:∀ a:List Int,cmpL a a=0
 | []=>rfl
 | a::x=>by rw [cmpL,if_neg (Int.lt_irrefl a),if_neg (Int.lt_irrefl a),q89 x]
theorem cmp_eq:∀ {a b:List Int},cmpL a b=0→a=b
 | [],[],_=>rfl
 | [],_::_,h=>by cases h
 | _::_,[],h=>by cases h
 | a::x,b::y,h=>by
  rw [cmpL] at h;split at h
  ·cases h
  ·split at h
   ·cases h
   ·have:a=b:=by omega
    rw [this,cmp_eq h]
theorem qax:∀ (a b:List Int),cmpL a b=-1∨cmpL a b=0∨cmpL a b=1
 | [],[]=>.inr (.inl rfl)
 | [],_::_=>.inl rfl
 | _::_,[]=>.inr (.inr rfl)
 | a::x,b::y=>by
  rw [cmpL];split
  ·exact .inl rfl
  ·split
   ·exact .inr (.inr rfl)
   ·exact qax x y
theorem q4p:∀ (a b:List Int),cmpL b a=- cmpL a b
 | [],[]=>rfl
 | [],_::_=>rfl
 | _::_,[]=>rfl
 | a::x,b::y=>by
  rw [cmpL,cmpL];by_cases h1:a<b
  ·rw [if_pos h1,if_neg (by omega),if_pos h1];rfl
  ·rw [if_neg h1]
   by_cases h2:b<a
   ·rw [if_pos h2,if_pos h2,if_neg h1]
   ·rw [if_neg h2,if_neg h2,if_neg h1,q4p x y]
theorem q48:∀ {a b c:List Int},cmpL a b<0→cmpL b c<0→cmpL a c<0
 | [],b,[],h1,h2=>by
  cases b
  ·exact absurd h1 (by decide)
  ·exact absurd h2 (by rw [cmpL];decide)
 | [],b,c::z,h1,h2=>by rw [cmpL];decide
 | a::x,[],c,h1,h2=>absurd h1 (by rw [cmpL];decide)
 | a::x,b::y,[],h1,h2=>absurd h2 (by rw [cmpL];decide)
 | a::x,b::y,c::z,h1,h2=>by
  rw [cmpL] at *
  by_cases ab:a<b
  ·by_cases bc:b<c
   ·rw [if_pos (by omega)];decide
   ·rw [if_neg bc] at h2
    by_cases cb:c<b
    ·rw [if_pos cb] at h2;omega
    ·rw [if_pos (by omega)];decide
  ·rw [if_neg ab] at h1
   by_cases ba:b<a
   ·rw [if_pos ba] at h1;omega
   ·rw [if_neg ba] at h1
    by_cases bc:b<c
    ·rw [if_pos (by omega)];decide
    ·rw [if_neg bc] at h2
     by_cases cb:c<b
     ·rw [if_pos cb] at h2;omega
     ·rw [if_neg cb] at h2
      rw [if_neg (by omega),if_neg (by omega)]
      exact q48 h1 h2
theorem less_ne {a b:List Int} (h:cmpL a b<0):a≠b:=λhe=>by rw [he,q89] at h;omega
theorem qhv:∀ {l m:List (List Int)},l.Pairwise (λa b=>cmpL a b<0)→m.Pairwise (λa b=>cmpL a b<0)→(∀ x,x∈l↔x∈m)→l=m
 | [],[],_,_,_=>rfl
 | [],b::m,_,_,h=>by have:=(h b).2 (Q8 ..);cases this
 | a::l,[],_,_,h=>by have:=(h a).1 (Q8 ..);cases this
 | a::l,b::m,hl,hm,h=>by
  rw [Qe] at hl hm;have hab:a=b:=by
   rcases Q6.1 ((h a).1 (Q8 ..)) with h1 | h1
   ·exact h1
   ·rcases Q6.1 ((h b).2 (Q8 ..)) with h2 | h2
    ·exact h2.symm
    ·exact absurd rfl (less_ne (q48 (hl.1 b h2) (hm.1 a h1)))
  subst hab;rw [qhv hl.2 hm.2 λx=>?_]
  have hx:=h x;rw [Q6,Q6] at hx;constructor
  ·intro hxl
   rcases hx.1 (.inr hxl) with rfl | h'
   ·exact absurd rfl (less_ne (hl.1 x hxl))
   ·exact h'
  ·intro hxm
   rcases hx.2 (.inr hxm) with rfl | h'
   ·exact absurd rfl (less_ne (hm.1 x hxm))
   ·exact h'
def putL (x:List Int):List (List Int)→List (List Int)
 | []=>[x]
 | y::r=>if cmpL x y<0 then x::y::r else if cmpL x y=0 then y::r else y::putL x r
def q1y (l:List (List Int)):List (List Int):=l.foldr putL []
theorem qft {x z:List Int}:∀ {l:List (List Int)},z∈putL x l↔z=x∨z∈l
 | []=>by rw [putL];simp
 | y::r=>by
  rw [putL];split
  ·rw [Q6]
  ·split
   ·rename_i h
    have:=cmp_eq h
    subst this;rw [Q6];constructor
    ·exact .inr
    ·rintro (h | h)
     ·exact .inl h
     ·exact h
   ·rw [Q6,qft,Q6]
    constructor
    ·rintro (h | h | h)
     ·exact .inr (.inl h)
     ·exact .inl h
     ·exact .inr (.inr h)
    ·rintro (h | h | h)
     ·exact .inr (.inl h)
     ·exact .inl h
     ·exact .inr (.inr h)
theorem putL_up {x:List Int}:∀ {l:List (List Int)},l.Pairwise (λa b=>cmpL a b<0)→(putL x l).Pairwise (λa b=>cmpL a b<0)
 | [],_=>by rw [putL];exact QJ _ _
 | y::r,h=>by
  rw [putL];split
  ·rename_i hc
   rw [Qe];refine ⟨λz hz=>?_,h⟩
   rcases Q6.1 hz with rfl | hz
   ·exact hc
   ·exact q48 hc ((Qe.1 h).1 z hz)
  ·split
   ·exact h
   ·rename_i h1 h2
    rw [Qe] at h ⊢;refine ⟨λz hz=>?_,putL_up h.2⟩
    rcases qft.1 hz with rfl | hz
    ·have:=q4p z y
     rcases qax z y with h | h | h <;> omega
    ·exact h.1 z hz
theorem q78 {x:List Int}:∀ {l:List (List Int)},x∈q1y l↔x∈l
 | []=>QA
 | y::r=>by
  show x∈putL y (q1y r)↔_;rw [qft,q78,Q6]
theorem qf4:∀ (l:List (List Int)),(q1y l).Pairwise (λa b=>cmpL a b<0)
 | []=>Qt
 | y::r=>putL_up (qf4 r)
def Ear.q3x (e:Ear) (code:List Int):List (List Int)×Int:=if e.ok&&q0q e.lang e.ws code then (q1y (e.miss code),0) else ([],1)
def q3w (ws:List Str):List Int→Str
 | []=>[]
 | [i]=>ws.getD i.toNat []
 | i::r=>ws.getD i.toNat []++[32]++q3w ws r
def q56 (lang:Str) (ws:List Str) (code:List Int):Str×Int:=if q0q lang ws code then (q3w ws code,0) else ([],1)
def noG:Giv:=([],[],false,0,0)
def q0k (g:Giv) (code:List Int):Giv:=(g.1,code,g.2.2)
def Ear.tryG (e:Ear) (done:List Giv) (g:Giv) (s:Nat):Nat→Nat→Option (List Int)
 | 0,_=>none
 | f+1,k=>if e.takes done (q0k g (dig e.ws.length s k)) then some (dig e.ws.length s k) else e.tryG done g s f (k+1)
def Ear.q0p (e:Ear) (book:List Giv) (g:Giv) (size:Int):Giv×Int :=
 if !(e.proper book)||decide (size<3)||decide (5<size)||decide (0<(g.2.1.length:Int))||!(Lx.q0v g.1)||!(q1g g) then (noG,1)
 else if book.any (λx=>x.1==g.1) then (noG,8)
 else if book.length=20000 then (noG,22)
 else match e.tryG book g size.toNat (e.ws.length ^ size.toNat) 0 with
  | some c=>(q0k g c,0)
  | none=>(noG,22)
theorem tryG_some {e:Ear} {done:List Giv} {g:Giv} {s:Nat} {c:List Int}:∀ {f k:Nat},e.tryG done g s f k=some c→∃ i,k≤i∧i<k+f∧c=dig e.ws.length s i∧e.takes done (q0k g c)=true∧∀ j,k≤j→j<i→e.takes done (q0k g (dig e.ws.length s j))=false
 | 0,k,h=>by cases h
 | f+1,k,h=>by
  rw [Ear.tryG] at h;split at h
  ·rename_i ht
   injection h with h;subst h;exact ⟨k,QL _,by omega,rfl,ht,λj h1 h2=>by omega⟩
  ·rename_i ht
   obtain ⟨i,h1,h2,h3,h4,h5⟩:=tryG_some h;refine ⟨i,by omega,by omega,h3,h4,λj hj1 hj2=>?_⟩
   by_cases hjk:j=k
   ·subst hjk;exact Qd _▸ht
   ·exact h5 j (by omega) hj2
end Cod
namespace Cod
theorem qbr (ws:List Str) (i k:Int) (r:List Int):q3w ws (i::k::r)=ws.getD i.toNat []++32::q3w ws (k::r):=by
 rw [q3w]
 ·simp
 ·intro h;cases h
end Cod
namespace Cod
theorem qis {n:Nat} {x:List Int} (h:inB n x=true) {i:Nat} (hi:i<x.length):0≤x.getD i 0∧x.getD i 0<(n:Int):=by
 unfold inB at h;rw [Ql] at h;have:=h _ (Snd.q1n x 0 i hi);rw [Q0,decide_eq_true_eq,decide_eq_true_eq] at this;exact this
theorem q80 {x:List Int} {i:Nat} {k:Int} (hi:i<x.length):(x.set i k).getD i 0=k:=by
 rw [Q4,List.getElem?_set_self hi];rfl
theorem qmv {x:List Int} {i j:Nat} {k:Int} (h:i≠j):(x.set i k).getD j 0=x.getD j 0:=by
 rw [Q4,List.getElem?_set_ne h,← Q4]
theorem ql6 {x:List Int} {i:Nat} (hi:i<x.length):x.set i (x.getD i 0)=x:=by
 rw [Q4,Q9 hi];exact List.set_getElem_self hi
theorem swap_get {x:List Int} {i:Nat} (hi:i<x.length) (h0:i≠0):(swapAt x i).getD i 0=x.getD (i-1) 0∧(swapAt x i).getD (i-1) 0=x.getD i 0:=by
 unfold swapAt;refine ⟨?_,?_⟩
 ·rw [qmv (by omega),q80 hi]
 ·rw [q80 (by rw [Qz];omega)]
end Cod
namespace Cod
theorem ql9 {n:Int}:∀ (a r:List Int),a.all (λd=>decide (n≤d+1))=true→bump n (a++r)=(Qf a.length 0++(bump n r).1,(bump n r).2)
 | [],r,_=>rfl
 | d::a,r,h=>by
  rw [QD,Q0,decide_eq_true_eq] at h;rw [Qr,bump,decide_eq_false (by omega),ql9 a r h.2]
  rfl
theorem all_rev {α:Type} (p:α→Bool) (l:List α):l.reverse.all p=l.all p:=Wm
theorem qlz {n:Int} {l:List Int} {p:Nat} (hp:p<l.length) (ht:(l.drop (l.length-p)).all (λd=>decide (n≤d+1))=true) :
  (l.take (l.length-p)++Qf p 0).getD (l.length-1-p) 0=l.getD (l.length-1-p) 0 ∧
  (l.getD (l.length-1-p) 0+1<n→qbu n l=((l.take (l.length-p)++Qf p 0).set (l.length-1-p) (l.getD (l.length-1-p) 0+1),true)) ∧
  (n≤l.getD (l.length-1-p) 0+1→((l.take (l.length-p)++Qf p 0).set (l.length-1-p) (l.getD (l.length-1-p) 0+1)).set (l.length-1-p) 0=l.take (l.length-(p+1))++Qf (p+1) 0∧(l.drop (l.length-(p+1))).all (λd=>decide (n≤d+1))=true):=by
 obtain ⟨k,hk⟩:∃ k,l.length=k+1+p:=⟨l.length-1-p,by omega⟩
 have e1:l.length-1-p=k:=by omega
 have e2:l.length-p=k+1:=by omega
 have e3:l.length-(p+1)=k:=by omega
 rw [e2] at ht;rw [e1,e2,e3];clear e1 e2 e3;have hkl:k<l.length:=by omega
 have tk:l.take (k+1)=l.take k++[l.getD k 0]:=Snd.q0t l 0 k hkl;have hx:(l.take k).length=k:=by rw [QG];omega
 have dl:(l.drop (k+1)).length=p:=by rw [List.length_drop];omega
 generalize hd:l.getD k 0=d at *
 have hl:l=l.take k++d::l.drop (k+1):=by
  have:=(Qo (k+1) l).symm
  rw [tk,Qa,Qq] at this;exact this
 generalize hxs:l.take k=x at *
 generalize hys:l.drop (k+1)=t at *
 rw [tk,Qa,Qq];have hset:∀ (v u:Int),(x++v::Qf p 0).set k u=x++u::Qf p 0:=λv u=>by
  rw [List.set_append_right _ _ (by omega),hx,Wd,List.set_cons_zero]
 refine ⟨?_,λh=>?_,λh=>⟨?_,?_⟩⟩
 ·rw [Q4,List.getElem?_append_right (by omega),hx,Wd];rfl
 ·rw [hset]
  unfold qbu;rw [hl,QZ,Wh,Qa,Qq,ql9 _ _ (by rw [all_rev];exact ht),bump,decide_eq_true h]
  show ((Qf t.reverse.length 0++(d+1)::x.reverse).reverse,true)=_;rw [QY,dl,QZ,Wh,QT,QM,Qa,Qq]
 ·rw [hset,hset,List.replicate_succ]
 ·have:l.drop k=d::t:=by
   rw [hl,← hx,Qp]
  rw [this,QD,ht,decide_eq_true h];rfl
theorem qfo {n:Int} {l:List Int} (ht:(l.drop (l.length-l.length)).all (λd=>decide (n≤d+1))=true):(qbu n l).2=false:=by
 rw [Wd,List.drop_zero] at ht;unfold qbu;have:=ql9 l.reverse [] (by rw [all_rev];exact ht)
 rw [Wq] at this;rw [this];rfl
theorem tryG_at {e:Ear} {done:List Giv} {g:Giv} {s i:Nat} (ht:e.takes done (q0k g (dig e.ws.length s i))=true):∀ (f k:Nat),k≤i→i<k+f→(∀ j,j<i→e.takes done (q0k g (dig e.ws.length s j))=false)→e.tryG done g s f k=some (dig e.ws.length s i)
 | 0,k,h1,h2,_=>by omega
 | f+1,k,h1,h2,h3=>by
  rw [Ear.tryG];by_cases hk:k=i
  ·subst hk;rw [if_pos ht]
  ·rw [if_neg (by rw [h3 k (by omega)];decide)]
   exact tryG_at ht f (k+1) (by omega) (by omega) h3
theorem qko {e:Ear} {done:List Giv} {g:Giv} {s:Nat}:∀ (f k:Nat),(∀ j,j<k+f→e.takes done (q0k g (dig e.ws.length s j))=false)→e.tryG done g s f k=none
 | 0,k,_=>rfl
 | f+1,k,h=>by
  rw [Ear.tryG,if_neg (by rw [h k (by omega)];decide)]
  exact qko f (k+1) λj hj=>h j (by omega)
theorem give_open {e:Ear} {book:List Giv} {g:Giv} {size:Int} (hp:e.proper book=true) (h3:¬ size<3) (h5:¬ 5<size) (hc:¬ 0<(g.2.1.length:Int)) (hn:Lx.q0v g.1=true) (hpl:q1g g=true) (ha:book.any (λx=>x.1==g.1)=false) (hl:book.length≠20000) :
  e.q0p book g size=match e.tryG book g size.toNat (e.ws.length ^ size.toNat) 0 with
  | some c=>(q0k g c,0)
  | none=>(noG,22):=by
 unfold Ear.q0p;rw [hp,hn,hpl,decide_eq_false h3,decide_eq_false h5,decide_eq_false hc,ha,if_neg (by decide),if_neg (by decide),if_neg hl]
 all_goals rfl
theorem q4r {e:Ear} {book:List Giv} {g:Giv} {size:Int} (h:(!(e.proper book)||decide (size<3)||decide (5<size)||decide (0<(g.2.1.length:Int))||!(Lx.q0v g.1)||!(q1g g))=true):e.q0p book g size=(noG,1):=by
 unfold Ear.q0p;rw [if_pos h]
theorem give_bad {e:Ear} {book:List Giv} {g:Giv} {size:Int} (h:e.proper book=false):e.q0p book g size=(noG,1):=q4r (by rw [h];rfl)
theorem qmg {e:Ear} {book:List Giv} {g:Giv} {size:Int} (hp:e.proper book=true) (h3:¬ size<3) (h5:¬ 5<size) (hc:¬ 0<(g.2.1.length:Int)) (hn:Lx.q0v g.1=true) (hpl:q1g g=true) (ha:book.any (λx=>x.1==g.1)=true):e.q0p book g size=(noG,8):=by
 unfold Ear.q0p;rw [hp,hn,hpl,decide_eq_false h3,decide_eq_false h5,decide_eq_false hc,ha,if_neg (by decide),if_pos rfl]
theorem give_full {e:Ear} {book:List Giv} {g:Giv} {size:Int} (hp:e.proper book=true) (h3:¬ size<3) (h5:¬ 5<size) (hc:¬ 0<(g.2.1.length:Int)) (hn:Lx.q0v g.1=true) (hpl:q1g g=true) (ha:book.any (λx=>x.1==g.1)=false) (hl:book.length=20000):e.q0p book g size=(noG,22):=by
 unfold Ear.q0p;rw [hp,hn,hpl,decide_eq_false h3,decide_eq_false h5,decide_eq_false hc,ha,if_neg (by decide),if_neg (by decide),if_pos hl]
theorem qkv {e:Ear} (h:e.ok=true):0<e.ws.length:=by
 unfold Ear.ok Snd.q0c at h;simp only [Q0,decide_eq_true_eq] at h;omega
theorem ok_code {e:Ear} (h:e.ok=true) {s:Nat} (h3:3≤s) (h5:s≤5) (k:Nat):q0q e.lang e.ws (dig e.ws.length s k)=true:=by
 unfold q0q;rw [dig_in (qkv h),dig_len,decide_eq_true (show (3:Int)≤(s:Int) by omega),decide_eq_true (show (s:Int)≤5 by omega)]
 unfold Ear.ok at h;rw [Q0] at h;rw [h.1];rfl
end Cod
namespace Cod
def putR (l:List (List Int)) (x code:List Int):List (List Int) :=
 if x==code||l.any (λy=>y==x) then l else l.take (l.takeWhile λy=>q3u y x).length++[x]++l.drop (l.takeWhile λy=>q3u y x).length
theorem put_take (x:List Int):∀ {l:List (List Int)},x ∉ l→l.Pairwise (λa b=>cmpL a b<0)→l.take (l.takeWhile λy=>q3u y x).length++[x]++l.drop (l.takeWhile λy=>q3u y x).length=putL x l
 | [],_,_=>rfl
 | y::r,hx,hp=>by
  obtain ⟨hp1,hp2⟩:=Qe.1 hp;rw [putL];have hne:x≠y:=λe=>hx (by rw [e];exact Q8)
  have hxr:x ∉ r:=λh=>hx (Qj _ h)
  have ha:=q4p x y;by_cases hc:cmpL x y<0
  ·have hl:q3u y x=false:=by unfold q3u;exact decide_eq_false (by omega)
   rw [if_pos hc,Qm,hl,if_neg (by decide)];rfl
  ·have h0:¬ cmpL x y=0:=λe=>hne (cmp_eq e)
   have hl:q3u y x=true:=by unfold q3u;exact decide_eq_true (by omega)
   rw [if_neg hc,if_neg h0,Qm,hl,if_pos rfl,Qb,QV,List.drop_succ_cons,Qr,Qr,put_take x hxr hp2]
theorem putR_eq {l:List (List Int)} (hp:l.Pairwise (λa b=>cmpL a b<0)) (x code:List Int):putR l x code=if x=code then l else putL x l:=by
 unfold putR;by_cases h:x=code
 ·rw [if_pos h,if_pos (by rw [h,beq_self_eq_true,Bool.true_or])]
 ·rw [if_neg h]
  have hb:(x==code)=false:=beq_eq_false_iff_ne.2 h;rw [hb,Bool.false_or];by_cases hm:x∈l
  ·have ha:l.any (λy=>y==x)=true:=Qk.2 ⟨x,hm,beq_self_eq_true x⟩
   rw [if_pos ha];clear h hb ha
   induction l with
   | nil=>cases hm
   | cons y r ih =>
    obtain ⟨hp1,hp2⟩:=Qe.1 hp;rw [putL];rcases Q6.1 hm with rfl | hm
    ·rw [if_neg (by rw [q89];omega),if_pos (q89 x)]
    ·have h1:=hp1 x hm
     have h2:=q4p x y;rw [if_neg (by omega),if_neg (by omega),← ih hp2 hm]
  ·have ha:l.any (λy=>y==x)=false:=by
    rw [We];intro y hy;rw [beq_iff_eq];rintro rfl;exact hm hy
   rw [ha,if_neg (by decide),put_take x hm hp]
theorem putR_up {l:List (List Int)} (hp:l.Pairwise (λa b=>cmpL a b<0)) (x code:List Int):(putR l x code).Pairwise (λa b=>cmpL a b<0):=by
 rw [putR_eq hp];split
 ·exact hp
 ·exact putL_up hp
theorem mem_putR {l:List (List Int)} (hp:l.Pairwise (λa b=>cmpL a b<0)) {x code z:List Int}:z∈putR l x code↔(z=x∧x≠code)∨z∈l:=by
 rw [putR_eq hp];split
 ·rename_i h
  exact ⟨.inr,λh'=>h'.elim (λh'=>absurd h h'.2) id⟩
 ·rename_i h
  rw [qft];exact ⟨λh'=>h'.imp (λe=>⟨e,h⟩) id,λh'=>h'.imp (λe=>e.1) id⟩
def q4h (l:List (List Int)) (S:List Int→Prop):Prop:=l.Pairwise (λa b=>cmpL a b<0)∧∀ z,z∈l↔S z
theorem qhi {l:List (List Int)} {S:List Int→Prop} (h:q4h l S) (x code:List Int):q4h (putR l x code) (λz=>S z∨(z=x∧x≠code)) :=
 ⟨putR_up h.1 x code,λz=>by rw [mem_putR h.1,h.2 z];exact Or.comm⟩
theorem qgb {l:List (List Int)} {S T:List Int→Prop} (h:q4h l S) (e:∀ z,S z↔T z):q4h l T:=⟨h.1,λz=>(h.2 z).trans (e z)⟩
def upTo (e:Ear) (code:List Int) (i:Nat) (z:List Int):Prop:=∃ k,k<i∧z∈e.q2g code k
def q5b (e:Ear) (code:List Int) (i k:Nat) (z:List Int):Prop:=upTo e code i z∨∃ v∈(e.near (code.getD i 0)).take k,v≠code.getD i 0∧z=code.set i v
theorem set_ne {code:List Int} {i:Nat} (hi:i<code.length) (v:Int):code.set i v≠code↔v≠code.getD i 0:=by
 constructor
 ·rintro h rfl;exact h (ql6 hi)
 ·intro h e
  have:(code.set i v).getD i 0=code.getD i 0:=by rw [e]
  rw [q80 hi] at this;exact h this
theorem erase_ne {code:List Int} {i:Nat} (hi:i<code.length):code.eraseIdx i≠code:=λe=>by
 have:=congrArg List.length e
 rw [QE hi] at this;omega
theorem swap_ne {code:List Int} {i:Nat} (hi:i<code.length) (h0:i≠0):swapAt code i≠code↔code.getD (i-1) 0≠code.getD i 0:=by
 obtain ⟨h1,h2⟩:=swap_get hi h0;constructor
 ·intro h e
  apply h
  unfold swapAt;rw [e,ql6 hi,← e,ql6 (by omega)]
 ·intro h e
  rw [e] at h1;exact h h1.symm
theorem nearTo_zero (e:Ear) (code:List Int) (i:Nat) (z:List Int):q5b e code i 0 z↔upTo e code i z:=by
 unfold q5b;rw [List.take_zero];exact ⟨λh=>h.elim id λ⟨v,hv,_⟩=>absurd hv Qv,.inl⟩
theorem nearTo_succ {e:Ear} {code:List Int} {i k:Nat} (hi:i<code.length) (hk:k<(e.near (code.getD i 0)).length) (z:List Int):(q5b e code i k z∨(z=code.set i ((e.near (code.getD i 0)).getD k 0)∧code.set i ((e.near (code.getD i 0)).getD k 0)≠code))↔q5b e code i (k+1) z:=by
 unfold q5b;rw [Snd.q0t _ 0 k hk,set_ne hi];constructor
 ·rintro ((h | ⟨v,hv,h⟩) | ⟨rfl,h⟩)
  ·exact .inl h
  ·exact .inr ⟨v,QS _ hv,h⟩
  ·exact .inr ⟨_,QQ _ (Q7.2 rfl),h,rfl⟩
 ·rintro (h | ⟨v,hv,h⟩)
  ·exact .inl (.inl h)
  ·rcases Qg.1 hv with hv | hv
   ·exact .inl (.inr ⟨v,hv,h⟩)
   ·rw [Q7.1 hv] at h
    exact .inr ⟨h.2,h.1⟩
theorem upTo_one {e:Ear} {code:List Int} (hi:0<code.length) {k:Nat} (hk:(e.near (code.getD 0 0)).length≤k) (z:List Int):(q5b e code 0 k z∨(z=code.eraseIdx 0∧code.eraseIdx 0≠code))↔upTo e code 1 z:=by
 unfold q5b upTo;rw [Qh hk];constructor
 ·rintro ((⟨j,hj,_⟩ | ⟨v,hv,h1,h2⟩) | ⟨h,_⟩)
  ·omega
  ·exact ⟨0,by omega,(q3l ..).2 (.inl ⟨v,hv,h1,h2⟩)⟩
  ·exact ⟨0,by omega,(q3l ..).2 (.inr (.inl h))⟩
 ·rintro ⟨j,hj,h⟩
  obtain rfl:j=0:=by omega
  rcases (q3l ..).1 h with ⟨v,hv,h1,h2⟩ | h | ⟨h,_⟩
  ·exact .inl (.inr ⟨v,hv,h1,h2⟩)
  ·exact .inr ⟨h,erase_ne hi⟩
  ·exact absurd (Or.inl rfl) h
theorem upTo_succ {e:Ear} {code:List Int} {i:Nat} (hi:i<code.length) (h0:i≠0) {k:Nat} (hk:(e.near (code.getD i 0)).length≤k) (z:List Int) :
  ((q5b e code i k z∨(z=code.eraseIdx i∧code.eraseIdx i≠code))∨(z=swapAt code i∧swapAt code i≠code))↔upTo e code (i+1) z:=by
 unfold q5b upTo;rw [Qh hk];constructor
 ·rintro (((⟨j,hj,h⟩ | ⟨v,hv,h1,h2⟩) | ⟨h,_⟩) | ⟨h,hn⟩)
  ·exact ⟨j,by omega,h⟩
  ·exact ⟨i,by omega,(q3l ..).2 (.inl ⟨v,hv,h1,h2⟩)⟩
  ·exact ⟨i,by omega,(q3l ..).2 (.inr (.inl h))⟩
  ·exact ⟨i,by omega,(q3l ..).2 (.inr (.inr ⟨λhc=>hc.elim h0 ((swap_ne hi h0).1 hn),h⟩))⟩
 ·rintro ⟨j,hj,h⟩
  by_cases hji:j=i
  ·subst hji
   rcases (q3l ..).1 h with ⟨v,hv,h1,h2⟩ | h | ⟨hn,h⟩
   ·exact .inl (.inl (.inr ⟨v,hv,h1,h2⟩))
   ·exact .inl (.inr ⟨h,erase_ne hi⟩)
   ·exact .inr ⟨h,(swap_ne hi h0).2 λe=>hn (.inr e)⟩
  ·exact .inl (.inl (.inl ⟨j,by omega,h⟩))
theorem holds_miss {e:Ear} {code:List Int} {l:List (List Int)} (h:q4h l (upTo e code code.length)):l=q1y (e.miss code) :=
 qhv h.1 (qf4 _) λz=>by rw [h.2 z,q78,qcw];exact QA
def q7i (x:Giv) (a:List (List Int)) (y:Giv) (b:List (List Int)):Bool :=
 !(x.2.1==y.2.1||(a.any (λz=>z==y.2.1)||b.any (λz=>z==x.2.1)))&&(!(q0o x y)||a.all λz=>!(b.any λw=>w==z))
theorem qj6 (l:List (List Int)) (x:List Int):l.any (λy=>y==x)=true↔x∈l:=by
 rw [Qk];exact ⟨λ⟨y,hy,e⟩=>by rw [← eq_of_beq e];exact hy,λh=>⟨x,h,beq_self_eq_true x⟩⟩
theorem fits_iffR {x y:Giv} {a b:List (List Int)}:q7i x a y b=true↔(x.2.1≠y.2.1∧y.2.1 ∉ a∧x.2.1 ∉ b)∧(q0o x y=true→∀ z∈a,z ∉ b):=by
 unfold q7i;rw [Q0,Qc,Qw,Qw,beq_eq_false_iff_ne,← Qd,qj6,← Qd,qj6,Qi,Qc,Ql];refine and_congr QA ?_;constructor
 ·rintro (h | h) hn z hz
  ·rw [h] at hn;cases hn
  ·have:=h z hz
   rw [Qc,← Qd,qj6] at this;exact this
 ·intro h
  cases hn:q0o x y
  ·exact .inl rfl
  ·right
   intro z hz;rw [Qc,← Qd,qj6];exact h hn z hz
theorem qls (e:Ear) (x y:Giv):q7i x (q1y (e.miss x.2.1)) y (q1y (e.miss y.2.1))=e.apart x y:=by
 rw [Qs,q6y,fits_iffR];simp only [q78];constructor
 ·rintro ⟨⟨h1,h2,h3⟩,h4⟩
  exact ⟨h1,h2,λz hz=>⟨λe=>h3 (by rw [e];exact hz),λ⟨hz',hn⟩=>h4 hn z hz' hz⟩⟩
 ·rintro ⟨h1,h2,h3⟩
  exact ⟨⟨h1,h2,λh=>(h3 _ h).1 rfl⟩,λhn z hz hz'=>(h3 z hz').2 ⟨hz,hn⟩⟩
def allM (e:Ear) (book:List Giv):List (List (List Int)):=book.map λg=>q1y (e.miss g.2.1)
end Cod
end Go.Proofs.YtlfaaoalgcbcoaaGreatDoor

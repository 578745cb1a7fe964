/-
  Several texts in one: LexSpec, SoSpec, SoNear, SoStep, SoA, CoSpec, R15, R16, R12X, R13X, CoA, LexLaw, AlName.
-/
import Derived.Test.YtfecgebhoondjaaGreatDoorPA
import Derived.Shelf.Spec.SearchS
import Derived.Lib.SlicesCompact
import Derived.Test.YtfecgebhoondjaaGreatDoorPK
import Derived.ProofKit
import Derived.Deep.Slices
namespace Go.Proofs.YtfecgebhoondjaaGreatDoor
namespace Lx
def q2n (c:UInt8):Bool:=(97≤c&&c≤122)||(65≤c&&c≤90)
def isDigit (c:UInt8):Bool:=48≤c&&c≤57
def q30 (c:UInt8):Bool:=c==32||c==9||c==10
def isWord (c:UInt8):Bool:=q2n c||isDigit c||c==95
def isSym (c:UInt8):Bool:=[59,44,46,58,40,41,91,93,123,125,61,43,45].contains c
def q1l (l:List UInt8):Bool:=l.all isWord&&(decide (0<l.length)&&decide (l.length≤24))&&(match l with | []=>false | c::_=>q2n c)
def cls (c:UInt8):Nat :=
 if q2n c then 3 else if isDigit c then 4 else if c==95 then 5 else if q30 c then 1 else if c==35 then 2
 else if c==34 then 6 else if c==33 then 7 else if c==60||c==62 then 8 else if isSym c then 9 else 0
def q2a:List UInt8→Nat
 | []=>0
 | c::_=>cls c
def span (p:UInt8→Bool) (l:List UInt8):Nat:=(l.takeWhile p).length
def gapc:Bool→List UInt8→Nat
 | _,[]=>0
 | false,c::r=>if q30 c then gapc false r+1 else if c==35 then gapc true r+1 else 0
 | true,c::r=>if c==10 then gapc false r+1 else gapc true r+1
def gap (l:List UInt8):Nat:=gapc false l
def qe2 (l:List UInt8):Nat:=l.foldl (fun a c=>10*a+(c.toNat-48)) 0
structure Sc where
 err:Int
 kind:Int
 n:Int
 text:List UInt8
 width:Nat
 deriving DecidableEq
def bad (e:Int):Sc:=⟨e,0,0,[],0⟩
def q3t (c:UInt8):Bool:=!(c==34||c==10)
def scan:List UInt8→Sc
 | []=>bad 3
 | c::r =>
  if q2n c then
   let m:=span isWord r+1
   if 24<m then bad 2 else ⟨0,1,0,(c::r).take m,m⟩
  else if isDigit c then
   let m:=span isDigit r+1
   if 13<m||q2a ((c::r).drop m)==3||q2a ((c::r).drop m)==5 then bad 4 else ⟨0,2,qe2 ((c::r).take m),(c::r).take m,m⟩
  else if c==34 then
   let m:=span q3t r
   if (r.drop m).head? == some 34 then (if 400<m then bad 2 else ⟨0,3,0,r.take m,m+2⟩) else bad 6
  else if (c==33||c==60||c==62)&&r.head? == some 61 then ⟨0,4,0,[c,61],2⟩
  else if c==60||c==62||isSym c then ⟨0,4,0,[c],1⟩
  else bad 3
structure Tok where
 kind:Int
 pos:Int
 n:Int
 text:List UInt8
 deriving DecidableEq
def Sc.tok (r:Sc) (off:Nat):Tok:=⟨r.kind,off,r.n,r.text⟩
def q6w:Nat→List Tok→Nat→List UInt8→List Tok×Int×Int
 | 0,out,_,_=>(out,0,0)
 | _+1,out,_,[]=>(out,0,0)
 | f+1,out,off,c::r =>
  let s:=scan (c::r)
  if s.err=0∧out.length=5000 then ([],2,off)
  else if s.err≠0 then ([],s.err,off)
  else
   let l:=(c::r).drop s.width
   q6w f (out++[s.tok off]) (off+s.width+gap l) (l.drop (gap l))
def lex (l:List UInt8):List Tok×Int×Int :=
 if 20000<l.length then ([],2,-1) else q6w (l.length+1) [] (gap l) (l.drop (gap l))
theorem lexAt_nil (f:Nat) (out:List Tok) (off:Nat):q6w f out off []=(out,0,0):=by cases f <;> rfl
theorem lexAt_full (f:Nat) (out:List Tok) (off:Nat) (c:UInt8) (r:List UInt8) (h:(scan (c::r)).err=0) (hl:out.length=5000):q6w (f+1) out off (c::r)=([],2,(off:Int)):=by
 simp only [q6w]
 rw [if_pos ⟨h,hl⟩]
theorem lexAt_err (f:Nat) (out:List Tok) (off:Nat) (c:UInt8) (r:List UInt8) (h:(scan (c::r)).err≠0):q6w (f+1) out off (c::r)=([],(scan (c::r)).err,(off:Int)):=by
 simp only [q6w]
 rw [if_neg (fun h'=>h h'.1),if_pos h]
theorem lexAt_tok (f:Nat) (out:List Tok) (off:Nat) (c:UInt8) (r:List UInt8) (h:(scan (c::r)).err=0) (hl:out.length≠5000) :
  q6w (f+1) out off (c::r)=q6w f (out++[(scan (c::r)).tok off]) (off+(scan (c::r)).width+gap ((c::r).drop (scan (c::r)).width)) (((c::r).drop (scan (c::r)).width).drop (gap ((c::r).drop (scan (c::r)).width))):=by
 simp only [q6w]
 rw [if_neg (fun h'=>hl h'.2),if_neg (by simp [h])]
theorem qfi (p:UInt8→Bool) (l:List UInt8):span p l≤l.length:=by
 unfold span
 induction l with
 | nil=>simp
 | cons c r ih=>rw [List.takeWhile_cons]; split <;> simp [ih]
theorem gapc_le (l:List UInt8):∀ b,gapc b l≤l.length:=by
 induction l with
 | nil=>intro b; cases b <;> simp [gapc]
 | cons c r ih =>
  intro b
  cases b
  ·have h1:=ih false
   have h2:=ih true
   simp only [gapc,List.length_cons]
   split
   ·omega
   ·split <;> omega
  ·have h1:=ih false
   have h2:=ih true
   simp only [gapc,List.length_cons]
   split <;> omega
theorem gap_le (l:List UInt8):gap l≤l.length:=gapc_le l false
def Fits (n:Nat) (r:Sc):Prop:=r.err=0→1≤r.width∧r.width≤n
theorem Fits.ite {n:Nat} {p:Prop} [Decidable p] {a b:Sc} (ha:p→Fits n a) (hb:¬ p→Fits n b):Fits n (if p then a else b):=by
 split
 ·exact ha ‹_›
 ·exact hb ‹_›
theorem Fits.bad (n:Nat) {e:Int} (h:e≠0):Fits n (bad e):=fun h'=>absurd h' h
theorem qfk (l:List UInt8):Fits l.length (scan l):=by
 cases l with
 | nil=>exact Fits.bad _ (by decide)
 | cons c r =>
  have hw:=qfi isWord r
  have hd:=qfi isDigit r
  have ht:=qfi q3t r
  rw [scan]
  refine Fits.ite (fun _=>?_) fun _=>Fits.ite (fun _=>?_) fun _=>Fits.ite (fun _=>?_) fun _=>Fits.ite (fun h4=>?_) fun _=>Fits.ite (fun _=>?_) fun _=>Fits.bad _ (by decide)
  ·exact Fits.ite (fun _=>Fits.bad _ (by decide)) fun _ _=>⟨by simp only []; omega,by simp only [List.length_cons]; omega⟩
  ·exact Fits.ite (fun _=>Fits.bad _ (by decide)) fun _ _=>⟨by simp only []; omega,by simp only [List.length_cons]; omega⟩
  ·refine Fits.ite (fun h4=>?_) fun _=>Fits.bad _ (by decide)
   have:span q3t r<r.length:=by
    rcases Nat.lt_or_ge (span q3t r) r.length with h5 | h5
    ·exact h5
    ·rw [List.drop_eq_nil_of_le h5] at h4; cases h4
   exact Fits.ite (fun _=>Fits.bad _ (by decide)) fun _ _=>⟨by simp only []; omega,by simp only [List.length_cons]; omega⟩
  ·rw [Bool.and_eq_true] at h4
   cases r with
   | nil=>cases h4.2
   | cons d r=>exact fun _=>⟨by simp only []; omega,by simp only [List.length_cons]; omega⟩
  ·exact fun _=>⟨by simp only []; omega,by simp only [List.length_cons]; omega⟩
end Lx
end Go.Proofs.YtfecgebhoondjaaGreatDoor
set_option linter.unusedVariables false
namespace Go.Proofs.YtfecgebhoondjaaGreatDoor
namespace Snd
abbrev Str:=List UInt8
abbrev Conf:=Str×Str
def letB (c:UInt8):Bool:=decide (97≤c.toNat)&&decide (c.toNat≤122)
def q0r (s:Str) (lo hi:Int):Bool:=s.all letB&&(decide (lo≤(s.length:Int))&&decide ((s.length:Int)≤hi))
def flip (c:Conf):Conf:=(c.2,c.1)
def okC (c:Conf):Bool:=q0r c.1 1 3&&(q0r c.2 1 3&&!(c.1==c.2))
def same (c d:Conf):Bool:=c==d||c==flip d
def fresh:List Conf→Bool
 | []=>true
 | c::r=>!(r.any (same c))&&fresh r
def q0o (l:List Conf):Bool:=decide (l.length≤200)&&(l.all okC&&fresh l)
def repAt (x y a b:Str) (i:Nat):Bool:=decide (i+a.length≤x.length)&&((x.drop i).take a.length==a&&x.take i++b++x.drop (i+a.length)==y)
def repB (x y a b:Str):Bool:=(List.range (x.length+1)).any (repAt x y a b)
def hitB (x y:Str) (c:Conf):Bool:=repB x y c.1 c.2||repB x y c.2 c.1
def q5s (l:List Conf) (x y:Str):Bool:=x==y||l.any (hitB x y)
def heardB (s:Str):Bool:=q0r s 1 12
def rising:List Str→Bool
 | []=>true
 | [_]=>true
 | a::b::r=>Op.bytesLess a b&&rising (b::r)
def q0j (lang:Str) (ws:List Str):Bool:=Lx.q1l lang&&(decide (1≤ws.length)&&(decide (ws.length≤4096)&&(ws.all (fun s=>q0r s 3 8)&&rising ws)))
def q7l (ws:List Str) (c:List Conf) (x:Str) (n:Nat):List Int:=((List.range n).filter fun i=>q5s c (ws.getD i []) x).map Int.ofNat
def q0u (lang:Str) (ws:List Str) (c:List Conf) (x:Str):List Int×Int :=
 if q0j lang ws&&(q0o c&&heardB x) then (q7l ws c x ws.length,0) else ([],1)
def q36 (w:Str) (i:Nat) (p:Conf):List Str:=if p.1.isPrefixOf (w.drop i) then [w.take i++p.2++(w.drop i).drop p.1.length] else []
def wayL (w:Str) (i:Nat) (c:Conf):List Str:=q36 w i c++q36 w i (flip c)
def atL (l:List Conf) (w:Str) (i:Nat):List Str:=l.flatMap (wayL w i)
def q6s (l:List Conf) (w:Str):Nat→Nat→List Str
 | 0,_=>[]
 | f+1,i=>atL l w i++q6s l w f (i+1)
def q70 (l:List Conf) (w:Str):List Str:=w::q6s l w w.length 0
theorem q76 (c:Conf):flip (flip c)=c:=rfl
theorem flip_inj {c d:Conf} (h:flip c=flip d):c=d:=by
 have:=congrArg flip h
 rwa [q76,q76] at this
theorem same_iff {c d:Conf}:same c d=true↔c=d∨c=flip d:=by
 unfold same
 rw [Bool.or_eq_true,beq_iff_eq,beq_iff_eq]
theorem qgc (c d:Conf):same c d=same d c:=by
 rw [Bool.eq_iff_iff,same_iff,same_iff]
 constructor
 ·rintro (h | h)
  ·exact .inl h.symm
  ·exact .inr (by rw [h,q76])
 ·rintro (h | h)
  ·exact .inl h.symm
  ·exact .inr (by rw [h,q76])
theorem qe3 (c d:Conf):same (flip c) d=same c d:=by
 rw [Bool.eq_iff_iff,same_iff,same_iff]
 constructor
 ·rintro (h | h)
  ·exact .inr (by rw [← h,q76])
  ·exact .inl (flip_inj h)
 ·rintro (h | h)
  ·exact .inr (by rw [h])
  ·exact .inl (by rw [h,q76])
theorem qlm (c d:Conf):same c (flip d)=same c d:=by rw [qgc,qe3,qgc]
theorem qla (l:List Conf) (c:Conf):fresh (l++[c])=(fresh l&&!(l.any (same c))):=by
 induction l with
 | nil=>rfl
 | cons d l ih =>
  have h1:(d::l).any (same c)=(same c d||l.any (same c)):=rfl
  have h2:(l++[c]).any (same d)=(l.any (same d)||same c d):=by
   rw [List.any_append,show [c].any (same d)=(same d c||false) from rfl,Bool.or_false,qgc d c]
  rw [List.cons_append,fresh,ih,fresh,h1,h2]
  cases l.any (same d) <;> cases fresh l <;> cases same c d <;> cases l.any (same c) <;> rfl
theorem fresh_take (l:List Conf) (h:fresh l=true):∀ n,fresh (l.take n)=true:=by
 induction l with
 | nil=>intro n; rw [List.take_nil]; rfl
 | cons c l ih =>
  intro n
  cases n with
  | zero=>rfl
  | succ n =>
   rw [fresh,Bool.and_eq_true] at h
   rw [List.take_succ_cons,fresh,ih h.2,Bool.and_true]
   rw [Bool.not_eq_true'] at h ⊢
   rw [← Bool.not_eq_true,List.any_eq_true] at h ⊢
   rintro ⟨x,hx,hs⟩
   exact h.1 ⟨x,List.mem_of_mem_take hx,hs⟩
theorem any_rev (l:List Conf) (p:Conf→Bool):l.reverse.any p=l.any p:=by rw [List.any_reverse]
theorem qmz (l:List Conf):fresh l.reverse=fresh l:=by
 induction l with
 | nil=>rfl
 | cons c l ih =>
  rw [List.reverse_cons,qla,ih,any_rev,fresh]
  cases fresh l <;> simp
def Turned:List Conf→List Conf→Prop
 | [],[]=>True
 | c::l,d::m=>(d=c∨d=flip c)∧Turned l m
 | _,_=>False
theorem okC_flip (c:Conf):okC (flip c)=okC c:=by
 unfold okC flip
 simp only []
 rw [show (c.2==c.1)=(c.1==c.2) from Bool.beq_comm]
 cases q0r c.1 1 3 <;> cases q0r c.2 1 3 <;> rfl
theorem Turned.any {p:Conf→Bool} (hp:∀ c,p (flip c)=p c):∀ {l m:List Conf},Turned l m→m.any p=l.any p
 | [],[],_=>rfl
 | c::l,d::m,h=>by
  rw [List.any_cons,List.any_cons,Turned.any hp h.2]
  rcases h.1 with rfl | rfl
  ·rfl
  ·rw [hp]
theorem Turned.all {p:Conf→Bool} (hp:∀ c,p (flip c)=p c):∀ {l m:List Conf},Turned l m→m.all p=l.all p
 | [],[],_=>rfl
 | c::l,d::m,h=>by
  rw [List.all_cons,List.all_cons,Turned.all hp h.2]
  rcases h.1 with rfl | rfl
  ·rfl
  ·rw [hp]
theorem Turned.fresh:∀ {l m:List Conf},Turned l m→fresh m=fresh l
 | [],[],_=>rfl
 | c::l,d::m,h=>by
  have h1:m.any (same d)=l.any (same c):=by
   rw [Turned.any (p:=same d) (fun x=>qlm d x) h.2]
   rcases h.1 with rfl | rfl
   ·rfl
   ·rw [show same (flip c)=same c from funext fun x=>qe3 c x]
  rw [Snd.fresh,Snd.fresh,h1,Turned.fresh h.2]
theorem Turned.len:∀ {l m:List Conf},Turned l m→m.length=l.length
 | [],[],_=>rfl
 | c::l,d::m,h=>by rw [List.length_cons,List.length_cons,Turned.len h.2]
theorem Turned.proper {l m:List Conf} (h:Turned l m):q0o m=q0o l:=by
 unfold q0o
 rw [h.len,h.fresh,Turned.all okC_flip h]
theorem qah (l:List Conf):q0o l.reverse=q0o l:=by
 unfold q0o
 rw [List.length_reverse,List.all_reverse,qmz]
def Rep (x y a b:Str):Prop:=∃ u v,x=u++a++v∧y=u++b++v
theorem Rep.symm {x y a b:Str} (h:Rep x y a b):Rep y x b a:=by
 obtain ⟨u,v,h1,h2⟩:=h
 exact ⟨u,v,h2,h1⟩
theorem rep_iff {x y a b:Str}:repB x y a b=true↔Rep x y a b:=by
 unfold repB
 rw [List.any_eq_true]
 constructor
 ·rintro ⟨i,_,h⟩
  unfold repAt at h
  rw [Bool.and_eq_true,Bool.and_eq_true,decide_eq_true_eq,beq_iff_eq,beq_iff_eq] at h
  obtain ⟨hi,ha,hy⟩:=h
  refine ⟨x.take i,x.drop (i+a.length),?_,hy.symm⟩
  conv=>lhs; rw [← List.take_append_drop i x,← List.take_append_drop a.length (x.drop i),ha,List.drop_drop]
  rw [List.append_assoc]
 ·rintro ⟨u,v,rfl,rfl⟩
  refine ⟨u.length,List.mem_range.2 (by simp; omega),?_⟩
  unfold repAt
  rw [Bool.and_eq_true,Bool.and_eq_true,decide_eq_true_eq,beq_iff_eq,beq_iff_eq]
  refine ⟨by simp,?_,?_⟩
  ·rw [List.append_assoc,List.drop_left,List.take_left]
  ·rw [List.append_assoc u a v,List.take_left,← List.drop_drop,List.drop_left,List.drop_left]
theorem qif {x y:Str} {c:Conf}:hitB x y c=true↔Rep x y c.1 c.2∨Rep x y c.2 c.1:=by
 unfold hitB
 rw [Bool.or_eq_true,rep_iff,rep_iff]
theorem hit_symm (x y:Str) (c:Conf):hitB x y c=hitB y x c:=by
 rw [Bool.eq_iff_iff,qif,qif]
 exact ⟨fun h=>h.elim (fun h=>.inr h.symm) (fun h=>.inl h.symm),fun h=>h.elim (fun h=>.inr h.symm) (fun h=>.inl h.symm)⟩
theorem sounds_iff {l:List Conf} {x y:Str}:q5s l x y=true↔x=y∨∃ c∈l,Rep x y c.1 c.2∨Rep x y c.2 c.1:=by
 unfold q5s
 rw [Bool.or_eq_true,beq_iff_eq,List.any_eq_true]
 constructor
 ·rintro (h | ⟨c,hc,h⟩)
  ·exact .inl h
  ·exact .inr ⟨c,hc,qif.1 h⟩
 ·rintro (h | ⟨c,hc,h⟩)
  ·exact .inl h
  ·exact .inr ⟨c,hc,qif.2 h⟩
theorem qdp (l:List Conf) (x y:Str):q5s l x y=q5s l y x:=by
 unfold q5s
 rw [show (x==y)=(y==x) from Bool.beq_comm,show hitB x y=hitB y x from funext fun c=>hit_symm x y c]
theorem okC_len {c:Conf} (h:okC c=true):(1≤c.1.length∧c.1.length≤3)∧(1≤c.2.length∧c.2.length≤3)∧c.1≠c.2:=by
 unfold okC q0r at h
 simp only [Bool.and_eq_true,decide_eq_true_eq,Bool.not_eq_true',beq_eq_false_iff_ne] at h
 obtain ⟨⟨_,h1,h2⟩,⟨_,h3,h4⟩,h5⟩:=h
 exact ⟨⟨by omega,by omega⟩,⟨by omega,by omega⟩,h5⟩
theorem proper_len {l:List Conf} (h:q0o l=true):∀ c∈l,(1≤c.1.length∧c.1.length≤3)∧(1≤c.2.length∧c.2.length≤3)∧c.1≠c.2:=by
 unfold q0o at h
 simp only [Bool.and_eq_true,List.all_eq_true] at h
 exact fun c hc=>okC_len (h.2.1 c hc)
theorem qfn {w y:Str} {i:Nat} {p:Conf} (hi:i≤w.length):y∈q36 w i p↔∃ v,w=w.take i++p.1++v∧y=w.take i++p.2++v:=by
 unfold q36
 constructor
 ·intro h
  split at h
  ·rename_i hp
   rw [List.isPrefixOf_iff_prefix] at hp
   obtain ⟨v,hv⟩:=hp
   have hy:=List.mem_singleton.1 h
   refine ⟨v,?_,?_⟩
   ·rw [List.append_assoc,hv,List.take_append_drop]
   ·rw [hy,← hv,List.drop_left]
  ·cases h
 ·rintro ⟨v,hw,hy⟩
  have hd:w.drop i=p.1++v:=by
   have:=congrArg (List.drop i) hw
   rw [this,List.append_assoc,List.drop_append_of_le_length (by rw [List.length_take]; omega),List.drop_eq_nil_of_le (by rw [List.length_take]; omega),List.nil_append]
  rw [if_pos (by rw [List.isPrefixOf_iff_prefix,hd]; exact List.prefix_append _ _),hd,List.drop_left]
  exact List.mem_singleton.2 hy
theorem mem_restL {l:List Conf} {w y:Str}:∀ (f i:Nat),y∈q6s l w f i↔∃ k,i≤k∧k<i+f∧y∈atL l w k:=by
 intro f
 induction f with
 | zero =>
  intro i
  constructor
  ·intro h; cases h
  ·rintro ⟨k,h1,h2,_⟩; omega
 | succ f ih =>
  intro i
  rw [q6s,List.mem_append,ih]
  constructor
  ·rintro (h | ⟨k,h1,h2,h3⟩)
   ·exact ⟨i,by omega,by omega,h⟩
   ·exact ⟨k,by omega,by omega,h3⟩
  ·rintro ⟨k,h1,h2,h3⟩
   by_cases h:k=i
   ·subst h; exact .inl h3
   ·exact .inr ⟨k,by omega,by omega,h3⟩
theorem qlg {l:List Conf} (hl:q0o l=true) {w y:Str}:y∈q70 l w↔q5s l w y=true:=by
 have hlen:=proper_len hl
 unfold q70
 rw [List.mem_cons,sounds_iff,mem_restL]
 have key:∀ c∈l,∀ p:Conf,(p=c∨p=flip c)→Rep w y p.1 p.2→∃ k,0≤k∧k<0+w.length∧y∈atL l w k:=by
  intro c hc p hp hr
  obtain ⟨u,v,h1,h2⟩:=hr
  have hl1:1≤p.1.length:=by
   obtain ⟨a,b,_⟩:=hlen c hc
   rcases hp with rfl | rfl
   ·exact a.1
   ·exact b.1
  have hw:w.length=u.length+p.1.length+v.length:=by rw [h1]; simp; omega
  refine ⟨u.length,by omega,by omega,?_⟩
  unfold atL
  rw [List.mem_flatMap]
  refine ⟨c,hc,?_⟩
  have ht:w.take u.length=u:=by rw [h1,List.append_assoc,List.take_left]
  have:y∈q36 w u.length p:=(qfn (by omega)).2 ⟨v,by rw [ht]; exact h1,by rw [ht]; exact h2⟩
  unfold wayL
  rw [List.mem_append]
  rcases hp with rfl | rfl
  ·exact .inl this
  ·exact .inr this
 constructor
 ·rintro (h | ⟨k,_,h2,h3⟩)
  ·exact .inl h.symm
  ·right
   unfold atL at h3
   rw [List.mem_flatMap] at h3
   obtain ⟨c,hc,h3⟩:=h3
   refine ⟨c,hc,?_⟩
   unfold wayL at h3
   rw [List.mem_append] at h3
   rcases h3 with h3 | h3
   ·obtain ⟨v,hv,hy⟩:=(qfn (by omega)).1 h3
    exact .inl ⟨_,v,hv,hy⟩
   ·obtain ⟨v,hv,hy⟩:=(qfn (by omega)).1 h3
    exact .inr ⟨_,v,hv,hy⟩
 ·rintro (h | ⟨c,hc,h⟩)
  ·exact .inl h.symm
  ·right
   rcases h with h | h
   ·exact key c hc c (.inl rfl) h
   ·exact key c hc (flip c) (.inr rfl) h
end Snd
end Go.Proofs.YtfecgebhoondjaaGreatDoor
set_option linter.unusedVariables false
namespace Go.Proofs.YtfecgebhoondjaaGreatDoor
namespace Snd
theorem q5c:∀ a:Str,Op.bytesLess a a=false
 | []=>rfl
 | c::a=>by
  unfold Op.bytesLess
  rw [q5c a,decide_eq_false (UInt8.lt_irrefl c)]
  simp
theorem q49:∀ {a b c:Str},Op.bytesLess a b=true→Op.bytesLess b c=true→Op.bytesLess a c=true
 | [],[],_,h,_=>by cases h
 | _::_,[],_,h,_=>by cases h
 | _,_::_,[],_,h=>by cases h
 | [],_::_,_::_,_,_=>rfl
 | x::a,y::b,z::c,h,h'=>by
  unfold Op.bytesLess at *
  simp only [Bool.or_eq_true,Bool.and_eq_true,decide_eq_true_eq,beq_iff_eq] at *
  rcases h with h | ⟨rfl,h⟩
  ·rcases h' with h' | ⟨rfl,h'⟩
   ·exact .inl (UInt8.lt_trans h h')
   ·exact .inl h
  ·rcases h' with h' | ⟨rfl,h'⟩
   ·exact .inl h'
   ·exact .inr ⟨rfl,q49 h h'⟩
theorem qm4:∀ {a b:Str},Op.bytesLess a b=false→Op.bytesLess b a=false→a=b
 | [],[],_,_=>rfl
 | [],_::_,h,_=>by cases h
 | _::_,[],_,h=>by cases h
 | x::a,y::b,h,h'=>by
  unfold Op.bytesLess at *
  simp only [Bool.or_eq_false_iff,Bool.and_eq_false_iff,decide_eq_false_iff_not,beq_eq_false_iff_ne] at *
  have hxy:x=y:=by
   rcases UInt8.lt_or_lt_of_ne (a:=x) (b:=y) with h1
   by_cases e:x=y
   ·exact e
   ·rcases h1 e with h2 | h2
    ·exact absurd h2 h.1
    ·exact absurd h2 h'.1
  subst hxy
  rw [qm4 (h.2.resolve_left (fun e=>e rfl)) (h'.2.resolve_left (fun e=>e rfl))]
theorem qb5:∀ {ws:List Str},rising ws=true→∀ i j,i<j→j<ws.length→Op.bytesLess (ws.getD i []) (ws.getD j [])=true
 | [],_,i,j,_,h=>by cases h
 | [_],_,i,j,h,h'=>by simp at h'; omega
 | a::b::r,h,i,j,hij,hj=>by
  rw [rising,Bool.and_eq_true] at h
  have ih:=@qb5 (b::r) h.2
  cases j with
  | zero=>omega
  | succ j =>
   have hj':j<(b::r).length:=by simpa using hj
   cases i with
   | zero =>
    rw [List.getD_cons_zero,List.getD_cons_succ]
    cases j with
    | zero=>exact h.1
    | succ j=>exact q49 h.1 (ih 0 (j+1) (by omega) hj')
   | succ i=>rw [List.getD_cons_succ,List.getD_cons_succ]; exact ih i j (by omega) hj'
theorem rising_inj {ws:List Str} (h:rising ws=true) {i j:Nat} (hi:i<ws.length) (hj:j<ws.length) (he:ws.getD i []=ws.getD j []):i=j:=by
 rcases Nat.lt_trichotomy i j with h1 | h1 | h1
 ·have:=qb5 h i j h1 hj
  rw [he,q5c] at this; cases this
 ·exact h1
 ·have:=qb5 h j i h1 hi
  rw [he,q5c] at this; cases this
def below (ws:List Str) (s:Str):Nat:=(ws.takeWhile fun x=>Op.bytesLess x s).length
theorem below_lt {ws:List Str} (h:rising ws=true) (s:Str):(∀ t,t<below ws s→Op.bytesLess (ws.getD t []) s=true)∧(∀ t,below ws s≤t→t<ws.length→Op.bytesLess (ws.getD t []) s=false)∧below ws s≤ws.length:=by
 induction ws with
 | nil=>exact ⟨fun t ht=>(by cases ht),fun t _ ht=>(by cases ht),Nat.le_refl _⟩
 | cons a r ih =>
  have hr:rising r=true:=by
   cases r with
   | nil=>rfl
   | cons b r=>rw [rising,Bool.and_eq_true] at h; exact h.2
  obtain ⟨h1,h2,h3⟩:=ih hr
  unfold below at *
  cases ha:Op.bytesLess a s
  ·rw [List.takeWhile_cons,ha]
   refine ⟨fun t ht=>(by cases ht),fun t _ ht=>?_,Nat.zero_le _⟩
   cases t with
   | zero=>exact ha
   | succ t =>
    have hlt:=qb5 h 0 (t+1) (by omega) ht
    rw [List.getD_cons_zero] at hlt
    cases hc:Op.bytesLess ((a::r).getD (t+1) []) s
    ·rfl
    ·rw [q49 hlt hc] at ha; cases ha
  ·rw [List.takeWhile_cons,ha]
   simp only [if_true,List.length_cons]
   refine ⟨fun t ht=>?_,fun t h4 h5=>?_,by omega⟩
   ·cases t with
    | zero=>exact ha
    | succ t=>rw [List.getD_cons_succ]; exact h1 t (by omega)
   ·cases t with
    | zero=>omega
    | succ t=>rw [List.getD_cons_succ]; exact h2 t (by omega) (by simpa using h5)
theorem bs_below {ws:List Str} (h:rising ws=true) (s:Str) (less:Nat→Bool) (hl:∀ t,t<ws.length→less t=Op.bytesLess (ws.getD t []) s) :
  Lib.bsGo less ws.length 0 ws.length=below ws s:=by
 obtain ⟨h1,h2,h3⟩:=below_lt h s
 have key:∀ (l':Nat→Bool),(∀ t,t<ws.length→l' t=less t)→∀ f lo hi,hi≤ws.length→Lib.bsGo less f lo hi=Lib.bsGo l' f lo hi:=by
  intro l' hl' f
  induction f with
  | zero=>intro lo hi _; rfl
  | succ f ih =>
   intro lo hi hh
   unfold Lib.bsGo
   split
   ·rw [hl' _ (by omega),ih _ _ hh,ih _ _ (by omega)]
   ·rfl
 rw [key (fun t=>decide (t<below ws s)) (fun t ht=>?_) _ _ _ (Nat.le_refl _)]
 ·exact Lib.bsGo_spec _ _ (fun t ht=>decide_eq_true ht) (fun t ht=>decide_eq_false (by omega)) _ _ _ (by omega) (Nat.zero_le _) h3
 ·rw [hl t ht]
  by_cases hb:t<below ws s
  ·rw [decide_eq_true hb,h1 t hb]
  ·rw [decide_eq_false hb,h2 t (by omega) ht]
def qbu (ws:List Str) (s:Str):List Int:=if below ws s<ws.length∧ws.getD (below ws s) []=s then [(below ws s:Int)] else []
theorem mem_findL {ws:List Str} (h:rising ws=true) (s:Str) (k:Int):k∈qbu ws s↔∃ i:Nat,k=i∧i<ws.length∧ws.getD i []=s:=by
 unfold qbu
 constructor
 ·intro hk
  split at hk
  ·rename_i hc
   exact ⟨_,List.mem_singleton.1 hk,hc.1,hc.2⟩
  ·cases hk
 ·rintro ⟨i,rfl,hi,he⟩
  have hb:below ws s=i:=by
   obtain ⟨h1,h2,h3⟩:=below_lt h s
   rcases Nat.lt_trichotomy (below ws s) i with h4 | h4 | h4
   ·have h5:=qb5 h _ _ h4 hi
    have h6:=h2 i (by omega) hi
    have h7:=h2 (below ws s) (Nat.le_refl _) (by omega)
    rw [he] at h5
    rw [h5] at h7; cases h7
   ·exact h4
   ·have:=h1 i h4
    rw [he,q5c] at this; cases this
  rw [if_pos ⟨by omega,by rw [hb]; exact he⟩,hb]
  exact List.mem_singleton.2 rfl
def q1s (ws:List Str) (l:List Str):List Int:=l.flatMap (qbu ws)
theorem qmk (d:Array Int) (hs:∀ i j,i≤j→j<d.size→d[i]! ≤ d[j]!):∀ m,m≤d.size→(Lib.compactUpTo d m).Pairwise (·<·)∧(∀ x∈Lib.compactUpTo d m,∃ j,j<m∧x=d[j]!)∧(∀ j,j<m→d[j]! ∈ Lib.compactUpTo d m):=by
 intro m
 induction m with
 | zero=>intro _; exact ⟨List.Pairwise.nil,fun x h=>(by cases h),fun j h=>(by omega)⟩
 | succ m ih =>
  intro hm
  obtain ⟨h1,h2,h3⟩:=ih (by omega)
  rw [Lib.compactUpTo_succ]
  have mono:∀ x∈Lib.compactUpTo d m++(if Lib.keeps d m then [d[m]!] else []),∃ j,j<m+1∧x=d[j]! := by
   intro x hx
   rcases List.mem_append.1 hx with hx | hx
   ·obtain ⟨j,hj,e⟩:=h2 x hx
    exact ⟨j,by omega,e⟩
   ·split at hx
    ·exact ⟨m,by omega,List.mem_singleton.1 hx⟩
    ·cases hx
  refine ⟨?_,mono,?_⟩
  ·rw [List.pairwise_append]
   refine ⟨h1,?_,?_⟩
   ·split
    ·exact List.pairwise_singleton _ _
    ·exact List.Pairwise.nil
   ·intro x hx y hy
    split at hy
    ·rename_i hk
     rw [List.mem_singleton.1 hy]
     obtain ⟨j,hj,rfl⟩:=h2 x hx
     unfold Lib.keeps at hk
     have hk:=of_decide_eq_true hk
     rcases hk with rfl | hk
     ·omega
     ·have a1:=hs j (m-1) (by omega) (by omega)
      have a2:=hs (m-1) m (by omega) (by omega)
      omega
    ·cases hy
  ·intro j hj
   rw [List.mem_append]
   by_cases e:j=m
   ·subst e
    cases hk:Lib.keeps d j
    ·left
     unfold Lib.keeps at hk
     have hk:=of_decide_eq_false hk
     rw [not_or] at hk
     have he:d[j]! = d[j-1]! := by
      by_cases he:d[j]! = d[j-1]!
      ·exact he
      ·exact absurd he hk.2
     rw [he]
     exact h3 _ (by omega)
    ·right
     exact List.mem_singleton.2 rfl
   ·exact .inl (h3 j (by omega))
theorem qlo:∀ {l m:List Int},l.Pairwise (·<·)→m.Pairwise (·<·)→(∀ x,x∈l↔x∈m)→l=m
 | [],[],_,_,_=>rfl
 | [],b::m,_,_,h=>by have:=(h b).2 (List.mem_cons_self ..); cases this
 | a::l,[],_,_,h=>by have:=(h a).1 (List.mem_cons_self ..); cases this
 | a::l,b::m,hl,hm,h=>by
  rw [List.pairwise_cons] at hl hm
  have hab:a=b:=by
   have h1:=(h a).1 (List.mem_cons_self ..)
   have h2:=(h b).2 (List.mem_cons_self ..)
   rcases List.mem_cons.1 h1 with h1 | h1
   ·exact h1
   ·rcases List.mem_cons.1 h2 with h2 | h2
    ·exact h2.symm
    ·have:=hl.1 b h2; have:=hm.1 a h1; omega
  subst hab
  rw [qlo hl.2 hm.2 fun x=>?_]
  constructor
  ·intro hx
   rcases List.mem_cons.1 ((h x).1 (List.mem_cons_of_mem _ hx)) with e | e
   ·have:=hl.1 x hx; omega
   ·exact e
  ·intro hx
   rcases List.mem_cons.1 ((h x).2 (List.mem_cons_of_mem _ hx)) with e | e
   ·have:=hm.1 x hx; omega
   ·exact e
theorem nearL_strict (ws:List Str) (c:List Conf) (x:Str) (n:Nat):(q7l ws c x n).Pairwise (·<·):=by
 unfold q7l
 rw [List.pairwise_map]
 refine List.Pairwise.imp ?_ ((List.pairwise_lt_range (n:=n)).filter _)
 intro a b h
 show (a:Int)<(b:Int)
 omega
theorem mem_nearL {ws:List Str} {c:List Conf} {x:Str} {n:Nat} {k:Int}:k∈q7l ws c x n↔∃ i:Nat,k=i∧i<n∧q5s c (ws.getD i []) x=true:=by
 unfold q7l
 rw [List.mem_map]
 constructor
 ·rintro ⟨i,hi,rfl⟩
  rw [List.mem_filter,List.mem_range] at hi
  exact ⟨i,rfl,hi.1,hi.2⟩
 ·rintro ⟨i,rfl,h1,h2⟩
  exact ⟨i,List.mem_filter.2 ⟨List.mem_range.2 h1,h2⟩,rfl⟩
theorem mem_foundL {ws:List Str} (h:rising ws=true) {c:List Conf} (hc:q0o c=true) {x:Str} {k:Int}:k∈q1s ws (q70 c x)↔k∈q7l ws c x ws.length:=by
 unfold q1s
 rw [List.mem_flatMap,mem_nearL]
 constructor
 ·rintro ⟨s,hs,hk⟩
  obtain ⟨i,rfl,hi,he⟩:=(mem_findL h s k).1 hk
  refine ⟨i,rfl,hi,?_⟩
  rw [he,qdp]
  exact (qlg hc).1 hs
 ·rintro ⟨i,rfl,hi,hs⟩
  rw [qdp] at hs
  exact ⟨_,(qlg hc).2 hs,(mem_findL h _ _).2 ⟨i,rfl,hi,rfl⟩⟩
theorem near_found {ws:List Str} (h:rising ws=true) {c:List Conf} (hc:q0o c=true) (x:Str) :
  Lib.compact ((q1s ws (q70 c x)).mergeSort fun a b=>decide (a≤b))=q7l ws c x ws.length:=by
 have hsort:=List.pairwise_mergeSort (le:=fun a b:Int=>decide (a≤b)) (fun a b c h1 h2=>decide_eq_true (by have:=of_decide_eq_true h1; have:=of_decide_eq_true h2; omega)) (fun a b=>by
  rw [Bool.or_eq_true,decide_eq_true_eq,decide_eq_true_eq]; omega) (q1s ws (q70 c x))
 have hperm:=List.mergeSort_perm (q1s ws (q70 c x)) (fun a b:Int=>decide (a≤b))
 generalize (q1s ws (q70 c x)).mergeSort (fun a b=>decide (a≤b))=zs at *
 have hget:∀ i (hi:i<zs.length),zs.toArray[i]! = zs[i]:=fun i hi=>by rw [getElem!_pos _ i (by simpa using hi)]; simp
 obtain ⟨h1,h2,h3⟩:=qmk zs.toArray (fun i j hij hj=>by
  have hj:j<zs.length:=by simpa using hj
  rw [hget i (by omega),hget j hj]
  rcases Nat.eq_or_lt_of_le hij with rfl | hlt
  ·exact Int.le_refl _
  ·exact of_decide_eq_true (List.pairwise_iff_getElem.1 hsort i j (by omega) hj hlt)) zs.length (by simp)
 refine qlo h1 (nearL_strict ..) fun k=>?_
 rw [← mem_foundL h hc,← hperm.mem_iff]
 constructor
 ·intro hk
  obtain ⟨j,hj,rfl⟩:=h2 k hk
  rw [hget j hj]
  exact List.getElem_mem hj
 ·intro hk
  obtain ⟨j,hj,rfl⟩:=List.getElem_of_mem hk
  rw [← hget j hj]
  exact h3 j hj
end Snd
end Go.Proofs.YtfecgebhoondjaaGreatDoor
set_option linter.unusedVariables false
namespace Go.Proofs.YtfecgebhoondjaaGreatDoor
namespace Snd
theorem q1n {α:Type} (l:List α) (d:α) (k:Nat) (h:k<l.length):l.take (k+1)=l.take k++[l.getD k d]:=by
 rw [List.take_succ_eq_append_getElem h,List.getD_eq_getElem?_getD,List.getElem?_eq_getElem h]
 rfl
theorem q11 {α:Type} (l:List α) (d:α) (k:Nat) (h:k<l.length):l.getD k d∈l:=by
 rw [List.getD_eq_getElem?_getD,List.getElem?_eq_getElem h]
 exact List.getElem_mem h
theorem q6a {α:Type} (l:List α) (d:α) (p:α→Bool) (k:Nat) (h:k<l.length):(l.take (k+1)).all p=((l.take k).all p&&p (l.getD k d)):=by
 rw [q1n l d k h,List.all_append,List.all_cons,List.all_nil,Bool.and_true]
theorem qfr {α:Type} (l:List α) (d:α) (p:α→Bool) (k:Nat) (h:k<l.length):(l.take (k+1)).any p=((l.take k).any p||p (l.getD k d)):=by
 rw [q1n l d k h,List.any_append,List.any_cons,List.any_nil,Bool.or_false]
theorem qbz {α:Type} (l:List α) (p:α→Bool) (k:Nat) (h:l.length≤k):(l.take k).all p=l.all p:=by rw [List.take_of_length_le h]
theorem q9e {α:Type} (l:List α) (d:α) (p:α→Bool) (k:Nat) (h:k<l.length) (hp:p (l.getD k d)=false):l.all p=false:=by
 rw [← Bool.not_eq_true,List.all_eq_true]
 intro ha
 have:=ha _ (q11 l d k h)
 rw [hp] at this; cases this
theorem any_yes {α:Type} (l:List α) (d:α) (p:α→Bool) (k:Nat) (h:k<l.length) (hp:p (l.getD k d)=true):l.any p=true :=
 List.any_eq_true.2 ⟨_,q11 l d k h,hp⟩
theorem q7x:∀ (ws:List Str) (k:Nat),k<ws.length→rising (ws.take (k+1))=(rising (ws.take k)&&(k==0||Op.bytesLess (ws.getD (k-1) []) (ws.getD k [])))
 | [],k,h=>by cases h
 | [a],k,h=>by
  obtain rfl:k=0:=by simpa using h
  rfl
 | a::b::r,0,h=>rfl
 | a::b::r,1,h=>by
  show (Op.bytesLess a b&&true)=(true&&(false||Op.bytesLess a b))
  simp
 | a::b::r,k+2,h=>by
  have ih:=q7x (b::r) (k+1) (by simpa using h)
  have e1:(a::b::r).take (k+2+1)=a::b::r.take (k+1):=rfl
  have e2:(a::b::r).take (k+2)=a::b::r.take k:=rfl
  have e3:(b::r).take (k+1+1)=b::r.take (k+1):=rfl
  have e4:(b::r).take (k+1)=b::r.take k:=rfl
  rw [e3,e4] at ih
  rw [e1,e2,rising,rising,ih]
  have e5:(a::b::r).getD (k+2-1) []=(b::r).getD (k+1-1) []:=rfl
  have e6:(a::b::r).getD (k+2) []=(b::r).getD (k+1) []:=rfl
  rw [e5,e6,Bool.and_assoc]
  rfl
theorem rising_take:∀ (ws:List Str) (k:Nat),rising ws=true→rising (ws.take k)=true:=by
 intro ws k h
 rcases Nat.lt_or_ge k ws.length with hk | hk
 ·have key:∀ n,k+n≤ws.length→rising (ws.take (k+n))=true→rising (ws.take k)=true:=by
   intro n
   induction n with
   | zero=>intro _ h; exact h
   | succ n ih =>
    intro hn h
    rw [← Nat.add_assoc,q7x ws (k+n) (by omega),Bool.and_eq_true] at h
    exact ih (by omega) h.1
  refine key (ws.length-k) (by omega) ?_
  rw [List.take_of_length_le (by omega)]
  exact h
 ·rw [List.take_of_length_le hk]; exact h
theorem rising_no (ws:List Str) (k:Nat) (hk:k<ws.length) (h0:0<k) (h:Op.bytesLess (ws.getD (k-1) []) (ws.getD k [])=false):rising ws=false:=by
 rw [← Bool.not_eq_true]
 intro hr
 have:=rising_take ws (k+1) hr
 rw [q7x ws k hk,h,Bool.and_eq_true] at this
 have h1:(k==0)=false:=by rw [beq_eq_false_iff_ne]; omega
 rw [h1] at this
 cases this.2
theorem qlf (l:List Conf) (d:Conf) (k:Nat) (h:k<l.length):fresh (l.take (k+1))=(fresh (l.take k)&&!((l.take k).any (same (l.getD k d)))):=by
 rw [q1n l d k h,qla]
theorem fresh_no (l:List Conf) (d:Conf) (k:Nat) (h:k<l.length) (ha:(l.take k).any (same (l.getD k d))=true):fresh l=false:=by
 rw [← Bool.not_eq_true]
 intro hf
 have:=fresh_take l hf (k+1)
 rw [qlf l d k h,ha] at this
 simp at this
end Snd
end Go.Proofs.YtfecgebhoondjaaGreatDoor
set_option linter.unusedVariables false
namespace Go.Proofs.YtfecgebhoondjaaGreatDoor
open Go.RowKit
open R
theorem mixed:Tryz.prog.follows .mixedOrders=true:=by kernel_rfl
abbrev ckWl:CK:=.agg (.cons .str (.one (.sl (.one .str))))
abbrev kCf:Kds:=.cons .str (.one .str)
abbrev ckCf:CK:=.one (.sl kCf)
abbrev q2i:CK:=.one (.sl (.one (.int .i64)))
abbrev WlP:Type:=List UInt8×List (List UInt8)
abbrev CfP:Type:=List (List UInt8×List UInt8)
def iRow (ks:List Int):Row:=⟨3,.one (.int .i64),ks⟩
def q7e (c:CfP):Bool:=decide (c.length≤30)&&c.all (fun x=>decide (x.1.length≤100)&&decide (x.2.length≤100))
def q83 (l:WlP):Bool:=decide (l.2.length≤40)&&(decide (l.1.length≤100)&&l.2.all (fun s=>decide (s.length≤100)))
def cFewC:Con:=.of 96 [ckCf] [.one .bool] (fun _=>True) q7e
def anFewC (c:CfP):List (Nat×Ann) :=
 [ann 0 Nat [0] (fun k=>[(3,R.int .i64 k)]) (fun k=>k≤30∧k≤c.length∧(c.take k).all (fun x=>decide (x.1.length≤100)&&decide (x.2.length≤100))=true) (fun k=>c.length-k)]
def cFewW:Con:=.of 95 [ckWl] [.one .bool] (fun _=>True) q83
def anFewW (ws:List (List UInt8)):List (Nat×Ann) :=
 [ann 0 Nat [1] (fun k=>[(3,R.int .i64 k)]) (fun k=>k≤40∧k≤ws.length∧(ws.take k).all (fun s=>decide (s.length≤100))=true) (fun k=>ws.length-k)]
def q0h (c:CfP):Prop:=c.length≤1000000∧∀ x∈c,x.1.length≤1000000∧x.2.length≤1000000
def q0d (l:WlP):Prop:=l.1.length≤1000∧l.2.length≤1000000∧∀ s∈l.2,s.length≤1000000
def cLet:Con:=.of 87 [.one .str,.one (.int .i64),.one (.int .i64)] [.one .bool] (fun p=>List.length p.1≤1000000) (fun p=>Snd.q0r p.1 p.2.1 p.2.2)
abbrev kTok:Kds:=.cons (.int .i64) (.cons (.int .i64) (.cons (.int .i64) (.one .str)))
def tokP (t:Lx.Tok):Int×Int×Int×List UInt8:=(t.kind,t.pos,t.n,t.text)
def lexP (s:List UInt8):List (Int×Int×Int×List UInt8)×Int×Int:=((Lx.lex s).1.map tokP,(Lx.lex s).2.1,(Lx.lex s).2.2)
def cLex:Con:=.of 125 [.one .str] [.one (.sl kTok),.one (.int .i64),.one (.int .i64)] (fun s=>List.length s≤1000) lexP
def qem:Con:=.of 84 [ckWl] [.one .bool] q0d (fun p=>Snd.q0j p.1 p.2)
def anValid (ws:List (List UInt8)):List (Nat×Ann) :=
 [ann 0 Nat [1,39,40] (fun k=>[(41,R.int .i64 k)]) (fun k=>k≤ws.length∧(ws.take k).all (fun s=>Snd.q0r s 3 8)=true∧Snd.rising (ws.take k)=true) (fun k=>ws.length-k)]
def qe9:Con:=.of 42 [ckCf] [.one .bool] q0h Snd.q0o
def cNear:Con:=.of 46 [ckWl,ckCf,.one .str] [q2i,.one (.int .i64)] (fun p=>q0d p.1∧q0h p.2.1∧List.length p.2.2≤1000000) (fun p=>Snd.q0u p.1.1 p.1.2 p.2.1 p.2.2)
end Go.Proofs.YtfecgebhoondjaaGreatDoor
set_option linter.unusedVariables false
namespace Go.Proofs.YtfecgebhoondjaaGreatDoor
namespace Cod
abbrev Str:=List UInt8
abbrev Pt:=Int×Int
abbrev Giv:=Str×List Int×Bool×Int×Int
structure Ear where
 lang:Str
 ws:List Str
 c:List Snd.Conf
def onB (p:Pt):Bool:=decide (0≤min p.1 p.2)&&decide (max p.1 p.2≤32767)
def sq (p q:Pt):Int:=(q.1-p.1)*(q.1-p.1)+(q.2-p.2)*(q.2-p.2)
def qaq (p q:Pt):Int:=if onB p&&onB q then sq p q else 0
def ptOf (g:Giv):Pt:=g.2.2.2
def q0q (a b:Giv):Bool:=a.2.2.1&&(b.2.2.1&&decide (qaq (ptOf a) (ptOf b)≤1000000))
def q28 (g:Giv):Bool:=if g.2.2.1 then onB (ptOf g) else (g.2.2.2.1==0&&g.2.2.2.2==0)
def inB (n:Nat) (code:List Int):Bool:=code.all fun i=>decide (0≤i)&&decide (i<(n:Int))
def q0p (lang:Str) (ws:List Str) (code:List Int):Bool:=Snd.q0j lang ws&&(decide (3≤(code.length:Int))&&(decide ((code.length:Int)≤5)&&inB ws.length code))
def Ear.near (e:Ear) (i:Int):List Int:=(Snd.q0u e.lang e.ws e.c (e.ws.getD i.toNat [])).1
def swapAt (code:List Int) (i:Nat):List Int:=(code.set i (code.getD (i-1) 0)).set (i-1) (code.getD i 0)
def Ear.q2t (e:Ear) (code:List Int) (i:Nat):List (List Int) :=
 ((e.near (code.getD i 0)).filter fun k=>!(k==code.getD i 0)).map (code.set i)++(code.eraseIdx i::(if i=0∨code.getD (i-1) 0=code.getD i 0 then [] else [swapAt code i]))
def Ear.q0i (e:Ear) (code:List Int):Nat→Nat→List (List Int)
 | 0,_=>[]
 | f+1,i=>e.q2t code i++e.q0i code f (i+1)
def Ear.miss (e:Ear) (code:List Int):List (List Int):=e.q0i code code.length 0
theorem on_out {p:Pt} (h:onB p=true):(0≤p.1∧p.1≤32767)∧(0≤p.2∧p.2≤32767):=by
 unfold onB at h
 rw [Bool.and_eq_true,decide_eq_true_eq,decide_eq_true_eq] at h
 omega
theorem mul_bound {a b:Int} (h1:-32767≤a) (h2:a≤32767) (h3:-32767≤b) (h4:b≤32767):-1073676289≤a*b∧a*b≤1073676289:=by
 have ha:a.natAbs≤32767:=by omega
 have hb:b.natAbs≤32767:=by omega
 have h:=Nat.mul_le_mul ha hb
 rw [← Int.natAbs_mul] at h
 omega
abbrev Key:=Int×Int×Int×Int×Int×Int
def key (l:List Int):Key:=(l.length,l.getD 0 0,l.getD 1 0,l.getD 2 0,l.getD 3 0,l.getD 4 0)
theorem key_inj {a b:List Int} (ha:a.length≤5) (hb:b.length≤5) (h:key a=key b):a=b:=by
 unfold key at h
 simp only [Prod.mk.injEq] at h
 obtain ⟨h0,h1,h2,h3,h4,h5⟩:=h
 have h0:a.length=b.length:=by omega
 apply List.ext_getElem h0
 intro i hi hj
 have hg:a.getD i 0=b.getD i 0:=by
  match i with
  | 0=>exact h1
  | 1=>exact h2
  | 2=>exact h3
  | 3=>exact h4
  | 4=>exact h5
  | n+5=>omega
 rwa [List.getD_eq_getElem?_getD,List.getD_eq_getElem?_getD,List.getElem?_eq_getElem hi,List.getElem?_eq_getElem hj] at hg
def Ear.apart (e:Ear) (o g:Giv):Bool :=
 !(o.2.1==g.2.1)&&(!((e.miss o.2.1).contains g.2.1)&&((e.miss g.2.1).all fun x=>!(o.2.1==x)&&!((e.miss o.2.1).contains x&&q0q o g)))
def Ear.takes (e:Ear) (done:List Giv) (g:Giv):Bool:=done.all fun o=>e.apart o g
def okG (e:Ear) (g:Giv):Bool:=Lx.q1l g.1&&(q28 g&&q0p e.lang e.ws g.2.1)
def Ear.fits (e:Ear) (done:List Giv) (g:Giv):Bool:=Lx.q1l g.1&&(!(done.any fun o=>o.1==g.1)&&(q28 g&&(q0p e.lang e.ws g.2.1&&e.takes done g)))
def Ear.shelf (e:Ear):List Giv→List Giv→Bool
 | _,[]=>true
 | done,g::r=>e.fits done g&&e.shelf (done++[g]) r
def Ear.ok (e:Ear):Bool:=Snd.q0j e.lang e.ws&&Snd.q0o e.c
def Ear.proper (e:Ear) (book:List Giv):Bool:=e.ok&&(decide ((book.length:Int)≤20000)&&e.shelf [] book)
end Cod
end Go.Proofs.YtfecgebhoondjaaGreatDoor
set_option linter.unusedVariables false
namespace Go.Proofs.YtfecgebhoondjaaGreatDoor
open Go.RowKit Go.ChangeShapes Go.WideShapes
namespace R
mutual
def Kd.Big:(k:Kd)→k.Pay→Prop
 | .int k,n=>(Lit.int k n).wf=true
 | .bool,_=>True
 | .str,s=>List.length (α:=UInt8) s≤9223372036854775807
 | .sl fs,xs=>(xs:List fs.Pay).length≤9223372036854775807∧∀ x∈(xs:List fs.Pay),fs.Big x
def Kds.Big:(fs:Kds)→fs.Pay→Prop
 | .one k,p=>k.Big p
 | .cons k ks,p=>k.Big p.1∧ks.Big p.2
end
theorem add_pl' (g off j:Nat):(⟨g,off,none⟩:Addr).add j=⟨g,off+j,none⟩:=by unfold Addr.add; split <;> simp_all
theorem cell_plain' {w:World} {a:Addr} {v:Value} (h:w.cell? (a.add 0)=some v):∃ g o,a=⟨g,o,none⟩∧g<w.heap.size:=by
 obtain ⟨g,o,sp⟩:=a
 unfold World.cell? Addr.add at h
 simp only [if_true] at h
 split at h
 ·rename_i hg
  cases sp with
  | none=>exact ⟨g,o,rfl,(Array.getElem?_eq_some_iff.1 hg).1⟩
  | some x=>simp at h
 ·cases h
section
variable {H:Type} {enc:TypeId×Value→H} {P:Program} {w:World} {base:Nat} {spare:Nat→Bool} {held:Bool}
abbrev Here (w:World) (g:Nat):Prop:=g<w.heap.size
def q31 (w:World):(fs:Kds)→fs.Pay→List Value→Prop
 | .one k,p,cs=>∃ v,cs=[v]∧k.Rep w (Here w) p v
 | .cons k ks,p,cs=>∃ v r,cs=v::r∧k.Rep w (Here w) p.1 v∧q31 w ks p.2 r
theorem q31.row:∀ (fs:Kds) (p:fs.Pay) (cs:List Value) (g o:Nat),q31 w fs p cs→(∀ i,i<cs.length→w.cell? ⟨g,o+i,none⟩=cs[i]?)→fs.Rep w (Here w) p g o
 | .one k,p,cs,g,o,h,hc=>by
  obtain ⟨v,rfl,hv⟩:=h
  exact ⟨v,hc 0 (by simp),hv⟩
 | .cons k ks,p,cs,g,o,h,hc=>by
  obtain ⟨v,r,rfl,hv,hr⟩:=h
  refine ⟨⟨v,hc 0 (by simp),hv⟩,q31.row ks p.2 r g (o+1) hr fun i hi=>?_⟩
  have:=hc (i+1) (by simp; omega)
  rw [show o+1+i=o+(i+1) by omega]
  exact this
theorem q31.len:∀ (fs:Kds) (p:fs.Pay) (cs:List Value),q31 w fs p cs→cs.length=fs.size
 | .one k,p,cs,h=>by obtain ⟨v,rfl,_⟩:=h; rfl
 | .cons k ks,p,cs,h=>by
  obtain ⟨v,r,rfl,_,hr⟩:=h
  have:=q31.len ks p.2 r hr
  show r.length+1=ks.size+1
  omega
def CK.Big:(x:CK)→x.Pay→Prop
 | .one k,p=>k.Big p
 | .agg ks,p=>ks.Big p
theorem Kd.Rep.oneCell {S:Nat→Prop}:∀ (k:Kd) (p:k.Pay) (v:Value),k.Rep w S p v→v.oneCell'=true
 | .int k,p,v,h=>by cases h; rfl
 | .bool,p,v,h=>by cases h; rfl
 | .str,p,v,h=>by cases h; rfl
 | .sl fs,p,v,h=>by obtain ⟨A,c,rfl,_⟩:=h; rfl
theorem q31.reps:∀ (fs:Kds) (p:fs.Pay) (cs:List Value),q31 w fs p cs →
  (∀ (i:Nat) c,(fs.cells p)[i]? = some c→∃ v,cs[i]? = some v∧c.Rep (Cx.of (Here w)) w v)∧(∀ (i:Nat) v,cs[i]? = some v→v.oneCell'=true)∧cs.length=(fs.cells p).length
 | .one k,p,cs,h=>by
  obtain ⟨v,rfl,hv⟩:=h
  refine ⟨fun i c hi=>?_,fun i u hi=>?_,rfl⟩
  ·cases i with
   | zero=>injection hi with hi; subst hi; exact ⟨v,rfl,hv⟩
   | succ i=>cases hi
  ·cases i with
   | zero=>injection hi with hi; subst hi; exact Kd.Rep.oneCell k p v hv
   | succ i=>cases hi
 | .cons k ks,p,cs,h=>by
  obtain ⟨v,r,rfl,hv,hr⟩:=h
  obtain ⟨h1,h2,h3⟩:=q31.reps ks p.2 r hr
  refine ⟨fun i c hi=>?_,fun i u hi=>?_,by rw [List.length_cons,h3]; rfl⟩
  ·cases i with
   | zero=>injection hi with hi; subst hi; exact ⟨v,rfl,hv⟩
   | succ i=>exact h1 i c hi
  ·cases i with
   | zero=>injection hi with hi; subst hi; exact Kd.Rep.oneCell k p.1 v hv
   | succ i=>exact h2 i u hi
end
end R
end Go.Proofs.YtfecgebhoondjaaGreatDoor
set_option linter.unusedVariables false
namespace Go.Proofs.YtfecgebhoondjaaGreatDoor
open Go.RowKit
namespace R
theorem q5t {κ:Cx} {w:World}:q0g κ w [] []:=⟨rfl,fun i c h=>by cases h⟩
theorem q0l {κ:Cx} {w:World} {a:Comp} {v:Value} {xs:List Comp} {vs:List Value} (h:a.Rep κ w v) (hs:q0g κ w xs vs):q0g κ w (a::xs) (v::vs):=by
 refine ⟨by rw [List.length_cons,List.length_cons,hs.1],fun i c hc=>?_⟩
 cases i with
 | zero=>injection hc with hc; subst hc; exact ⟨v,rfl,h⟩
 | succ i=>exact hs.2 i c hc
theorem qbw {P:Program} {f:FuncId} {args:List CK} {pre:Pays args→Prop} (h:(Con.of f args [.one .bool] pre (fun _=>true)).Holds P) (p:Pays args) (vs:List Value) (w:World) (hp:pre p) (hr:q0g (Cx.of (Here w)) w (q10 args p) vs) :
  Calls P f vs.toArray w fun e w'=>e=.returned (.bool true)∧Below w.heap.size w w':=by
 have h:=h.2 p vs w (Here w) (fun _ h=>h) hp hr
 refine Calls.mono h ?_
 rintro e w' ⟨r,v,rfl,hr,hv,hbl⟩
 have hr:r=true:=hr
 subst hr
 have hv:v=.bool true:=hv
 exact ⟨by rw [hv],hbl⟩
end R
end Go.Proofs.YtfecgebhoondjaaGreatDoor
set_option linter.unusedVariables false
namespace Go.Proofs.YtfecgebhoondjaaGreatDoor
open Go.RowKit
namespace R
inductive FA where
 | no
 | fn (g:FuncId)
 | clo (g:FuncId) (ks:Kds)
@[reducible] def FA.Pay:FA→Type
 | .no=>Unit
 | .fn _=>Unit
 | .clo _ ks=>ks.Pay
def FA.Rep (S:Nat→Prop) (w:World):(x:FA)→x.Pay→List Value→Prop
 | .no,_,vs=>vs=[]
 | .fn g,_,vs=>vs=[.func (.func g) #[] #[]]
 | .clo g ks,b,vs=>∃ B ty us,vs=[.func (.func g) #[] #[.pointer (some ⟨B,0,none⟩)]]∧Blk w B ty us∧q08 (Cx.of S) w (ks.cells b) us∧¬ S B
def q9q (st:St):(x:FA)→List Comp→Option x.Pay
 | .no,[]=>some ()
 | .fn g,[.one (.fn g')]=>bif g.beq g' then some () else none
 | .fn g,[.one (.clo g' _ [])]=>bif g.beq g' then some () else none
 | .clo g ks,[.one (.clo g' 0 [(b,0)])]=>bif g.beq g' then (match st.box b with
  | some cs=>q1a ks cs
  | none=>none) else none
 | _,_=>none
def q5x:List Comp→List Nat
 | []=>[]
 | .one c::l=>ownsC [c]++q5x l
 | .agg cs::l=>ownsC cs++q5x l
def qi2:St→List Nat→List Comp→List Comp
 | _,[],xs=>xs
 | st,r::l,xs=>qi2 (st.freeze r) l (xs.map fun c=>c.mapC (st.thawR r))
structure NCon where
 f:FuncId
 args:List CK
 fa:FA:=.no
 e:TypeId
 fs:Kds
 pre:Pays args→fa.Pay→Prop
 F:Pays args→fa.Pay→List fs.Pay
structure OCon where
 f:FuncId
 e:TypeId
 fs:Kds
 args:List CK
 fa:FA:=.no
 ret:Bool
 pre:List fs.Pay→Pays args→fa.Pay→Prop
 F:List fs.Pay→Pays args→fa.Pay→List fs.Pay
structure FCon where
 f:FuncId
 args:List CK
 fa:FA
 res:List CK
 pre:Pays args→fa.Pay→Prop
 F:Pays args→fa.Pay→Pays res
def nOf (f:FuncId):List NCon→Option NCon
 | []=>none
 | c::r=>bif c.f.beq f then some c else nOf f r
def oOf (f:FuncId):List OCon→Option OCon
 | []=>none
 | c::r=>bif c.f.beq f then some c else oOf f r
def fOf (f:FuncId):List FCon→Option FCon
 | []=>none
 | c::r=>bif c.f.beq f then some c else fOf f r
def vNew (c:NCon) (xs:List Comp) (off:Nat) (st:St) (K:List Comp→St→Prop):Prop :=
 match q1f c.args (asAVs (qi2 st (q5x xs) (xs.take c.args.length))),q9q st c.fa (xs.drop c.args.length) with
 | some p,some b=>c.pre p b∧bif c.fs.flat then K [.one (.own off)] (st.setRow off ⟨c.e,c.fs,c.F p b⟩)
   else K [.one (.own off)] ((st.q0a (q5x xs)).setRow off ⟨c.e,c.fs,c.F p b⟩)
 | _,_=>False
def vOwn (c:OCon) (xs:List Comp) (st:St) (K:List Comp→St→Prop):Prop :=
 match xs with
 | .one (.own r)::rest=>match st.row r,q1f c.args (asAVs (rest.take c.args.length)),q9q st c.fa (rest.drop c.args.length) with
  | some x,some p,some b=>match x.fs.deq c.fs with
   | some ⟨h⟩=>bif x.e.beq c.e then c.pre (q3u h x.xs) p b∧bif c.ret then K [.one (.own r)] (st.setRow r ⟨c.e,c.fs,c.F (q3u h x.xs) p b⟩) else K [] (st.putRow r ⟨c.e,c.fs,c.F (q3u h x.xs) p b⟩) else False
   | none=>False
  | _,_,_=>False
 | _=>False
def vFn (c:FCon) (xs:List Comp) (st:St) (K:List Comp→St→Prop):Prop :=
 match q1f c.args (asAVs (qi2 st (q5x xs) (xs.take c.args.length))),q9q st c.fa (xs.drop c.args.length) with
 | some p,some b=>c.pre p b∧bif c.res.all CK.q94 then K (q10 c.res (c.F p b)) st else K (q10 c.res (c.F p b)) (st.q0a (q5x xs))
 | _,_=>False
def xInl (ns:List NCon) (os:List OCon) (fs:List FCon) (B:Inl):Inl:=fun f xs off st K KP =>
 bif Nat.blt f 1000000000 then (match nOf f ns with
  | some c=>vNew c xs off st K
  | none=>match oOf f os with
   | some c=>vOwn c xs st K
   | none=>match fOf f fs with
    | some c=>vFn c xs st K
    | none=>B f xs off st K KP) else B f xs off st K KP
section
variable {w0:Base} {w w':World} {κ:Cx} {st:St} {a:Act} {P:Program} {cons:List Con}
def FnOk (P : Program) (f : FuncId) : Prop := ∃ fn, P.funcs[f]? = some fn ∧ (fn.name == "runtime.NumGoroutine") = false ∧ fn.body.isNone = false
def NCon.Holds (P:Program) (c:NCon):Prop:=FnOk P c.f ∧
 ∀ (p:Pays c.args) (b:c.fa.Pay) (vs fvs:List Value) (w:World) (S:Nat→Prop),(∀ g,S g→g<w.heap.size)→c.pre p b→q0g (Cx.of S) w (q10 c.args p) vs→c.fa.Rep S w b fvs →
  Calls P c.f (vs++fvs).toArray w fun e w'=>Below w.heap.size w w'∧∃ u cells,e=.returned u∧w'.ownsRow w.heap.size c.e c.fs.size u (c.F p b).length cells∧q0f (Cx.of S) w c.fs (c.F p b) cells
def OCon.Holds (P:Program) (c:OCon):Prop:=FnOk P c.f ∧
 ∀ (xs:List c.fs.Pay) (p:Pays c.args) (b:c.fa.Pay) (v:Value) (cells vs fvs:List Value) (w:World) (n0:Nat) (S:Nat→Prop),n0≤w.heap.size→(∀ g,S g→g<w.heap.size)→(∀ g,v.ownBlock=some g→¬ S g)→w.ownsRow n0 c.e c.fs.size v xs.length cells→q0f (Cx.of S) w c.fs xs cells →
  c.pre xs p b→q0g (Cx.of S) w (q10 c.args p) vs→c.fa.Rep S w b fvs→(∀ g u,v.ownBlock=some g→fvs≠[.func u #[] #[.pointer (some ⟨g,0,none⟩)]]) →
  Calls P c.f (v::(vs++fvs)).toArray w fun e w'=>w.grownBy w' v.ownBlock∧∃ u cells',e=.returned u ∧
   w'.ownsRow n0 c.e c.fs.size (if c.ret then u else v) (c.F xs p b).length cells'∧q0f (Cx.of S) w c.fs (c.F xs p b) cells'∧(c.ret=true→∀ g,u.ownBlock=some g→v.ownBlock=some g∨w.heap.size≤g)∧(c.ret=false→u=.tuple #[])
def FCon.Holds (P:Program) (c:FCon):Prop:=FnOk P c.f ∧
 ∀ (p:Pays c.args) (b:c.fa.Pay) (vs fvs:List Value) (w:World) (S:Nat→Prop),(∀ g,S g→g<w.heap.size)→c.pre p b→q0g (Cx.of S) w (q10 c.args p) vs→c.fa.Rep S w b fvs →
  Calls P c.f (vs++fvs).toArray w fun e w'=>Below w.heap.size w w'∧∃ u,e=.returned u∧(q1k c.res (c.F p b)).Rep (Cx.of fun g=>S g∨(w.heap.size≤g∧g<w'.heap.size)) w' u
theorem nOf_spec {f:FuncId} {c:NCon}:∀ {l:List NCon},nOf f l=some c→c∈l∧c.f=f
 | [],h=>by cases h
 | x::r,h=>by
  have h:(bif x.f.beq f then some x else nOf f r)=some c:=h
  cases e:x.f.beq f
  ·rw [e] at h
   obtain ⟨h1,h2⟩:=nOf_spec (l:=r) h
   exact ⟨List.mem_cons_of_mem _ h1,h2⟩
  ·rw [e] at h; injection h with h; subst h
   exact ⟨List.mem_cons_self,Nat.eq_of_beq_eq_true e⟩
theorem oOf_spec {f:FuncId} {c:OCon}:∀ {l:List OCon},oOf f l=some c→c∈l∧c.f=f
 | [],h=>by cases h
 | x::r,h=>by
  have h:(bif x.f.beq f then some x else oOf f r)=some c:=h
  cases e:x.f.beq f
  ·rw [e] at h
   obtain ⟨h1,h2⟩:=oOf_spec (l:=r) h
   exact ⟨List.mem_cons_of_mem _ h1,h2⟩
  ·rw [e] at h; injection h with h; subst h
   exact ⟨List.mem_cons_self,Nat.eq_of_beq_eq_true e⟩
theorem fOf_spec {f:FuncId} {c:FCon}:∀ {l:List FCon},fOf f l=some c→c∈l∧c.f=f
 | [],h=>by cases h
 | x::r,h=>by
  have h:(bif x.f.beq f then some x else fOf f r)=some c:=h
  cases e:x.f.beq f
  ·rw [e] at h
   obtain ⟨h1,h2⟩:=fOf_spec (l:=r) h
   exact ⟨List.mem_cons_of_mem _ h1,h2⟩
  ·rw [e] at h; injection h with h; subst h
   exact ⟨List.mem_cons_self,Nat.eq_of_beq_eq_true e⟩
theorem q0g.mapC {κ':Cx} {g:Cell→Cell} (H:∀ (c:Cell) v,c.Rep κ w v→(g c).Rep κ' w v) {xs:List Comp} {vs:List Value} (h:q0g κ w xs vs):q0g κ' w (xs.map fun c=>c.mapC g) vs:=by
 refine ⟨by rw [h.1,List.length_map],fun i c hc=>?_⟩
 rw [List.getElem?_map] at hc
 cases hx:xs[i]? with
 | none=>rw [hx] at hc; cases hc
 | some x =>
  rw [hx] at hc; injection hc with hc; subst hc
  obtain ⟨u,hu,hr⟩:=h.2 i x hx
  refine ⟨u,hu,?_⟩
  cases x with
  | one c=>exact H c u hr
  | agg cs=>obtain ⟨us,rfl,hr⟩:=hr; exact ⟨us,rfl,q56 H hr⟩
theorem Rel.lendAll:∀ (l:List Nat) {κ:Cx} {st:St} {xs:List Comp} {vs:List Value},Rel w0 κ st a w→q0g κ w xs vs→∃ κ',Rel w0 κ' (st.q0a l) a w∧(∀ g,κ.S g→κ'.S g)∧κ'.β=κ.β∧q0g κ' w (qi2 st l xs) vs
 | [],κ,st,xs,vs,h,hx=>⟨κ,h,fun g hg=>hg,rfl,hx⟩
 | r::l,κ,st,xs,vs,h,hx=>by
  obtain ⟨κ1,h1,e1,_,h2,h3⟩:=h.freezeH r
  obtain ⟨κ2,q1,q2,q3,q4⟩:=Rel.lendAll l h1 (hx.mapC h3)
  exact ⟨κ2,q1,fun g hg=>q2 g (h2 g hg),q3.trans e1,q4⟩
theorem q0g.takeN {xs:List Comp} {vs:List Value} (h:q0g κ w xs vs) (n:Nat):q0g κ w (xs.take n) (vs.take n) :=
 ⟨by rw [List.length_take,List.length_take,h.1],fun i c hc=>by
  rw [List.getElem?_take] at hc ⊢
  split at hc
  ·rename_i hi; rw [if_pos hi]; exact h.2 i c hc
  ·cases hc⟩
theorem q0g.dropN {xs:List Comp} {vs:List Value} (h:q0g κ w xs vs) (n:Nat):q0g κ w (xs.drop n) (vs.drop n) :=
 ⟨by rw [List.length_drop,List.length_drop,h.1],fun i c hc=>by
  rw [List.getElem?_drop] at hc ⊢
  exact h.2 _ c hc⟩
theorem q2b {c:Comp} {vs:List Value} (h:q0g κ w [c] vs):∃ v,vs=[v]∧c.Rep κ w v:=by
 obtain ⟨v,rfl⟩:=List.length_eq_one_iff.1 h.1
 obtain ⟨u,hu,hr⟩:=h.2 0 _ rfl
 injection hu with hu; subst hu
 exact ⟨v,rfl,hr⟩
theorem q9o (hR:Rel w0 κ st a w) {fa:FA} {xs:List Comp} {b:fa.Pay} (h:q9q st fa xs=some b) {vs:List Value} (hv:q0g κ w xs vs):fa.Rep κ.S w b vs:=by
 unfold q9q at h
 split at h
 ·exact List.length_eq_zero_iff.1 hv.1
 ·rename_i g g'
  cases hb:Nat.beq g g'
  ·rw [hb] at h; cases h
  ·obtain ⟨v,rfl,hr⟩:=q2b hv
   have hr:v=.func (.func g') #[] #[]:=hr
   show _=_
   rw [hr,Nat.eq_of_beq_eq_true hb]
 ·rename_i g g' k
  cases hb:Nat.beq g g'
  ·rw [hb] at h; cases h
  ·obtain ⟨v,rfl,hr⟩:=q2b hv
   have hr:v=.func (.func g') ((([]:List (Nat×Nat)).take k).map κ.ptr).toArray ((([]:List (Nat×Nat)).drop k).map κ.ptr).toArray:=hr
   show _=_
   rw [hr,Nat.eq_of_beq_eq_true hb]
   simp
 ·rename_i g ks g' bx
  cases hb:Nat.beq g g'
  ·rw [hb] at h; cases h
  ·rw [hb] at h
   have h:(match st.box bx with
    | some cs=>q1a ks cs
    | none=>none)=some b:=h
   split at h
   ·rename_i cs hcs
    obtain ⟨v,rfl,hr⟩:=q2b hv
    have hr:v=.func (.func g') (([(bx,0)].take 0).map κ.ptr).toArray (([(bx,0)].drop 0).map κ.ptr).toArray:=hr
    obtain ⟨us,ty,hblk,hus,_,hS⟩:=hR.box bx cs hcs
    refine ⟨κ.β bx,ty,us,by rw [hr,Nat.eq_of_beq_eq_true hb]; rfl,hblk,?_,hS⟩
    have:=q4f ks cs b us.toList h (by simpa using hus)
    exact qdo (κ:=κ) (κ':=Cx.of κ.S) ks b rfl (by simpa using this)
   ·cases h
 ·cases h
theorem freeze_box (st:St) (r:Nat) {b:Nat} {cs:List Cell} (h:st.box b=some cs):∃ cs',(st.freeze r).box b=some cs':=by
 unfold St.freeze
 cases hx:st.row r with
 | none=>exact ⟨cs,h⟩
 | some x =>
  refine ⟨cs.map (Cell.thaw r x),?_⟩
  show look? b (st.boxes.map fun (b,cs)=>(b,cs.map (Cell.thaw r x)))=_
  rw [look?_map,show look? b st.boxes=some cs from h]; rfl
theorem qfx:∀ (l:List Nat) (st:St) {b:Nat} {cs:List Cell},st.box b=some cs→∃ cs',(st.q0a l).box b=some cs'
 | [],st,b,cs,h=>⟨cs,h⟩
 | r::l,st,b,cs,h=>by
  obtain ⟨cs1,h1⟩:=freeze_box st r h
  exact qfx l (st.freeze r) h1
theorem qiu (hR:Rel w0 κ st a w) {fa:FA} {xs:List Comp} {b:fa.Pay} (h:q9q st fa xs=some b) {vs:List Value} (hv:q0g κ w xs vs) {κ1:Cx} {l:List Nat} (hR1:Rel w0 κ1 (st.q0a l) a w) (hS:∀ g,κ.S g→κ1.S g) (hβ:κ1.β=κ.β):fa.Rep κ1.S w b vs:=by
 have h0:=q9o hR h hv
 unfold q9q at h
 split at h
 ·exact h0
 ·exact h0
 ·exact h0
 ·rename_i g ks g' bx
  cases hb:Nat.beq g g'
  ·rw [hb] at h; cases h
  ·rw [hb] at h
   have h:(match st.box bx with
    | some cs=>q1a ks cs
    | none=>none)=some b:=h
   split at h
   ·rename_i cs hcs
    obtain ⟨v,rfl,hr⟩:=q2b hv
    have hr:v=.func (.func g') (([(bx,0)].take 0).map κ.ptr).toArray (([(bx,0)].drop 0).map κ.ptr).toArray:=hr
    obtain ⟨B,ty,us,q1,q2,q3,q4⟩:=h0
    obtain ⟨cs',hcs'⟩:=qfx l st hcs
    obtain ⟨_,_,_,_,_,hS1⟩:=hR1.box bx cs' hcs'
    have hB:κ1.β bx=B:=by
     rw [hβ]
     rw [hr] at q1
     injection q1 with q1 _
     injection q1 with _ _ q1
     have q1:(#[Value.pointer (some ⟨κ.β bx,0,none⟩)]:Array Value)=#[.pointer (some ⟨B,0,none⟩)]:=q1
     injection q1 with q1; injection q1 with q1 _; injection q1 with q1; injection q1 with q1; injection q1 with q1
    refine ⟨B,ty,us,q1,q2,q08.mono (κ:=Cx.of κ.S) (κ':=Cx.of κ1.S) (fun c v hc=>Cell.Rep.keeps (κ:=Cx.of κ.S) (κ':=Cx.of κ1.S) rfl rfl rfl (Keeps.refl w _) (fun g hg _=>hS g hg) hc) q3,by rw [← hB]; exact hS1⟩
   ·cases h
 ·cases h
theorem takeFA_apart {fa:FA} {xs:List Comp} {b:fa.Pay} (h:q9q st fa xs=some b) {vs:List Value} (hv:q0g κ w xs vs) {g:Nat} (hg:∀ bx cs,st.box bx=some cs→κ.β bx≠g) (u:Fn):vs≠[.func u #[] #[.pointer (some ⟨g,0,none⟩)]]:=by
 intro e
 unfold q9q at h
 split at h
 ·have:=hv.1; rw [e] at this; cases this
 ·obtain ⟨v,rfl,hr⟩:=q2b hv
  have hr:v=.func _ #[] #[]:=hr
  rw [hr] at e
  injection e with e _; injection e with _ _ e; cases e
 ·rename_i k
  obtain ⟨v,rfl,hr⟩:=q2b hv
  have hr:v=.func _ ((([]:List (Nat×Nat)).take k).map κ.ptr).toArray ((([]:List (Nat×Nat)).drop k).map κ.ptr).toArray:=hr
  rw [hr] at e
  injection e with e _; injection e with _ _ e; simp at e
 ·rename_i g1 ks g' bx
  cases hb:Nat.beq g1 g'
  ·rw [hb] at h; cases h
  ·rw [hb] at h
   have h:(match st.box bx with
    | some cs=>q1a ks cs
    | none=>none)=some b:=h
   split at h
   ·rename_i cs hcs
    obtain ⟨v,rfl,hr⟩:=q2b hv
    have hr:v=.func (.func g') (([(bx,0)].take 0).map κ.ptr).toArray (([(bx,0)].drop 0).map κ.ptr).toArray:=hr
    rw [hr] at e
    injection e with q1 _
    injection q1 with _ _ q1
    have q1:(#[Value.pointer (some ⟨κ.β bx,0,none⟩)]:Array Value)=#[.pointer (some ⟨g,0,none⟩)]:=q1
    injection q1 with q1; injection q1 with q1 _; injection q1 with q1; injection q1 with q1; injection q1 with q1
    exact hg bx cs hcs q1
   ·cases h
 ·cases h
theorem qg9:∀ (fs:Kds) (p:fs.Pay) (f:Nat) (z:(k:Kd)×k.Pay),fs.flat=true→fs.fld p f=some z→z.1.flat=true
 | .one k,p,0,z,hf,h=>by injection h with h; subst h; exact hf
 | .one k,p,f+1,z,hf,h=>by cases h
 | .cons k ks,p,0,z,hf,h=>by
  have hf:(k.flat&&ks.flat)=true:=hf
  rw [Bool.and_eq_true] at hf
  injection h with h; subst h; exact hf.1
 | .cons k ks,p,f+1,z,hf,h=>by
  have hf:(k.flat&&ks.flat)=true:=hf
  rw [Bool.and_eq_true] at hf
  exact qg9 ks p.2 f z hf.2 h
theorem qmx {κ':Cx} {fs:Kds} (hf:fs.flat=true) {xs:List fs.Pay} {cells:List Value} (h:q0f κ w fs xs cells):q0f κ' w' fs xs cells:=fun i x hx f z hz=>by
 obtain ⟨u,hu,hr⟩:=h i x hx f z hz
 exact ⟨u,hu,kd_flat (qg9 fs x f z hf hz) (κ:=κ) (κ':=κ') hr⟩
theorem Rel.keepRow (h:Rel w0 κ st a w) {r:Nat} {x y:Row} (hx:st.row r=some x) (ho:w.grownBy w' (κ.ρ r).ownBlock) {cells:List Value} (hown:w'.ownsRow w0.n0 y.e y.fs.size (κ.ρ r) y.xs.length cells) (hcells:q0f κ w y.fs y.xs cells) :
  Rel w0 κ (st.putRow r y) a w':=by
 obtain ⟨cs0,hown0,_,hn0⟩:=h.row r x hx
 have hkeep:Keeps w w' κ.S:=⟨ho.size,fun g o hs hlt=>World.cell?_of_block (ho.block g hlt (fun e=>(hn0 g e.symm).1 hs))⟩
 have H:∀ (c:Cell) v,c.Rep κ w v→c.Rep κ w' v:=fun c v hr=>hr.keeps rfl rfl rfl hkeep (fun g hg _=>hg)
 have hrows:∀ k z,(st.putRow r y).row k=some z→(k=r∧z=y)∨(k≠r∧st.row k=some z):=fun k z hz=>by
  have hz:look? k ((r,y)::q1c r st.rows)=some z:=hz
  rw [look?_cons,look?_dropKey] at hz
  by_cases e:r=k
  ·rw [if_pos e] at hz; injection hz with hz; exact .inl ⟨e.symm,hz.symm⟩
  ·rw [if_neg e,if_neg (fun h=>e h.symm)] at hz; exact .inr ⟨fun h=>e h.symm,hz⟩
 exact {
  defers:=h.defers
  size:=h.size
  env:=fun t=>AV.Rep.mono H (h.env t)
  box:=fun b bs hb=>by
   obtain ⟨us,ty,hblk,hr,h1,h2⟩:=h.box b bs hb
   exact ⟨us,ty,(ho.block _ hblk.lt (fun e=>(hn0 _ e.symm).2 b bs hb rfl)).trans hblk,hr.mono H,h1,h2⟩
  apart:=h.apart
  row:=fun k z hz=>by
   rcases hrows k z hz with ⟨rfl,rfl⟩ | ⟨hne,hz⟩
   ·exact ⟨cells,hown,hcells.keeps hkeep (fun g hg _=>hg),hn0⟩
   ·obtain ⟨cs,ho2,hc,hn⟩:=h.row k z hz
    refine ⟨cs,ho2.kept ho ?_,hc.keeps hkeep (fun g hg _=>hg),hn⟩
    cases hb:(κ.ρ k).ownBlock with
    | none=>exact .inl rfl
    | some g=>exact .inr fun e=>hne (h.rows k r z x hz hx g hb e.symm)
  rows:=fun k k' z z' hz hz' g' hk hk'=>by
   have q:∀ k z,(st.putRow r y).row k=some z→∃ z0,st.row k=some z0:=fun k z hz=>by
    rcases hrows k z hz with ⟨rfl,_⟩ | ⟨_,hz⟩
    ·exact ⟨x,hx⟩
    ·exact ⟨z,hz⟩
   obtain ⟨z0,hz0⟩:=q k z hz
   obtain ⟨z1,hz1⟩:=q k' z' hz'
   exact h.rows k k' z0 z1 hz0 hz1 g' hk hk'
  bound:=fun g hg=>Nat.lt_of_lt_of_le (h.bound g hg) ho.size
  below:=h.below.grown ho h.low (fun k hk=>q1v hown0 k hk)
  old:=h.old
  ext:=h.ext.move (g:=id) (fun c v hr=>AV.Rep.mono H hr) (fun t=>rfl) ⟨rfl,rfl,rfl,rfl⟩ rfl (fun k p v hr=>H (.val k p) v hr) (fun g1 o ho' hh=>(ho.block g1 (lt_of_some hh) (fun e=>q3n hown0 g1 e.symm o ho' hh)).trans hh)
   (fun g1 hs hl=>ho.block g1 hl (fun e=>hs.2.2 r x hx e.symm))
   (fun g1 hs _=>⟨hs.1,hs.2.1,fun k z hz=>by
    rcases hrows k z hz with ⟨rfl,_⟩ | ⟨_,hz⟩
    ·exact hs.2.2 _ x hx
    ·exact hs.2.2 k z hz⟩) rfl (q8q _) }
theorem qfd {xs:List Comp} {vs:List Value} (h:q0g κ w xs vs) (n:Nat):vs=vs.take n++vs.drop n:=(List.take_append_drop n vs).symm
theorem xInl_ok {C:Nat→Option (Code×Code)} {ns:List NCon} {os:List OCon} {fs:List FCon} {B:Inl} (hns:∀ c∈ns,c.Holds P) (hos:∀ c∈os,c.Holds P) (hfs:∀ c∈fs,c.Holds P) (hB:q3y P C B):q3y P C (xInl ns os fs B):=by
 intro w0 hag f hf0 xs off st K KP κ a w vs h hR hvs
 have hlt:Nat.blt f 1000000000=true:=by rw [Nat.blt_eq]; exact hf0
 unfold xInl at h
 rw [hlt,cond_true] at h
 split at h
 ·
  rename_i c hc
  obtain ⟨hmem,rfl⟩:=nOf_spec hc
  unfold vNew at h
  split at h
  ·rename_i p b hp hb
   obtain ⟨hpre,hK⟩:=h
   obtain ⟨hfn,hcall⟩:=hns c hmem
   refine ⟨hfn,?_⟩
   have hfa:=q9o hR hb (hvs.dropN c.args.length)
   obtain ⟨κ1,hR1,hS1,hβ1,hx1⟩:=Rel.lendAll (q5x xs) hR (hvs.takeN c.args.length)
   obtain ⟨e1,e2⟩:=q8y _ _ hx1
   have hargs:=q7i (κ:=κ1) (w:=w) c.args _ p hp _ e1 e2
   have hfa1:c.fa.Rep κ1.S w b (vs.drop c.args.length):=qiu hR hb (hvs.dropN c.args.length) hR1 hS1 hβ1
   have hcl:=hcall p b (vs.take c.args.length) (vs.drop c.args.length) w κ1.S hR1.bound hpre (q5e (κ:=κ1) (κ':=Cx.of κ1.S) c.args p rfl hargs) hfa1
   rw [← qfd hvs c.args.length] at hcl
   refine hcl.mono ?_
   rintro en w' ⟨hbel,u,cells,rfl,hown,hcells⟩
   left
   have hown':w'.ownsRow w0.n0 c.e c.fs.size u (c.F p b).length cells:=⟨hown.1,hown.2.imp id (fun ⟨g,cap,cur,q1,q2,q⟩=>⟨g,cap,cur,q1,Nat.le_trans hR.low q2,q⟩)⟩
   have hnew:∀ g,u.ownBlock=some g→w.heap.size≤g:=fun g hg=>q1v hown g hg
   have hgr:w.grownBy w' none:=⟨hbel.os,hbel.tape,hbel.output,hbel.size,fun k hk _=>hbel.block k hk⟩
   cases hfl:c.fs.flat
   ·rw [hfl] at hK
    have hR2:=Rel.setRow (r:=off) (x:=⟨c.e,c.fs,c.F p b⟩) hR1 (row:=none) hgr (fun g hg=>by cases hg) hown' (q0f.keeps (κ:=Cx.of κ1.S) (κ':=κ1) (Keeps.refl w _) (fun g hg _=>hg) hcells) (fun g hg=>.inr (hnew g hg))
    exact ⟨u,_,_,_,rfl,hK,hR2,by show u=(if off=off then u else _)∧_; rw [if_pos rfl]; exact ⟨rfl,q7k hown⟩⟩
   ·rw [hfl] at hK
    have hR2:=Rel.setRow (r:=off) (x:=⟨c.e,c.fs,c.F p b⟩) hR (row:=none) hgr (fun g hg=>by cases hg) hown' (qmx (κ:=Cx.of κ1.S) (κ':=κ) hfl hcells) (fun g hg=>.inr (hnew g hg))
    exact ⟨u,_,_,_,rfl,hK,hR2,by show u=(if off=off then u else _)∧_; rw [if_pos rfl]; exact ⟨rfl,q7k hown⟩⟩
  ·exact h.elim
 ·split at h
  ·
   rename_i c hc
   obtain ⟨hmem,rfl⟩:=oOf_spec hc
   unfold vOwn at h
   split at h
   ·rename_i r rest
    split at h
    ·rename_i x p b hx hp hb
     split at h
     ·rename_i hfs _
      cases he:x.e.beq c.e
      ·rw [he] at h; exact h.elim
      ·rw [he] at h
       obtain ⟨hpre,hK⟩:=h
       have hee:x.e=c.e:=Nat.eq_of_beq_eq_true he
       clear he
       obtain ⟨hfn,hcall⟩:=hos c hmem
       refine ⟨hfn,?_⟩
       cases vs with
       | nil=>have:=hvs.1; cases this
       | cons v vs =>
        obtain ⟨v',hv',hv⟩:=hvs.2 0 _ rfl
        injection hv' with hv'; subst hv'
        obtain ⟨hv,_⟩:=hv
        subst hv
        have hrest:q0g κ w rest vs:=⟨by have:=hvs.1; simpa using this,fun i c hc=>hvs.2 (i+1) c hc⟩
        have hfa:=q9o hR hb (hrest.dropN c.args.length)
        obtain ⟨e1,e2⟩:=q8y _ _ (hrest.takeN c.args.length)
        have hargs:=q7i (κ:=κ) (w:=w) c.args _ p hp _ e1 e2
        obtain ⟨xe,xfs,xxs⟩:=x
        dsimp only at hfs hee
        subst hfs
        subst hee
        have hpre:c.pre xxs p b:=hpre
        obtain ⟨cells,hown,hcells,hn⟩:=hR.row r _ hx
        have hcl:=hcall xxs p b (κ.ρ r) cells (vs.take c.args.length) (vs.drop c.args.length) w w0.n0 κ.S hR.low hR.bound (fun g hg=>(hn g hg).1) hown (q0f.keeps (κ:=κ) (κ':=Cx.of κ.S) (Keeps.refl w _) (fun g hg _=>hg) hcells) hpre (q5e (κ:=κ) (κ':=Cx.of κ.S) c.args p rfl hargs) hfa (fun g u hg e=>takeFA_apart hb (hrest.dropN c.args.length) (fun bx cs hbx=>(hn g hg).2 bx cs hbx) u e)
        rw [← qfd hrest c.args.length] at hcl
        refine hcl.mono ?_
        rintro en w' ⟨hgr,u,cells',rfl,hown',hcells',hret,hnr⟩
        left
        have hcells2:q0f κ w c.fs (c.F xxs p b) cells':=q0f.keeps (κ:=Cx.of κ.S) (κ':=κ) (Keeps.refl w _) (fun g hg _=>hg) hcells'
        cases hrt:c.ret
        ·rw [hrt] at hK hown'
         obtain rfl:=hnr hrt
         have hR2:=hR.keepRow (y:=⟨c.e,c.fs,c.F xxs p b⟩) hx hgr hown' hcells2
         exact ⟨_,_,κ,_,rfl,hK,hR2,⟨#[],rfl,rfl,fun i c h=>by cases h⟩⟩
        ·rw [hrt] at hK hown'
         have hR2:=Rel.setRow (r:=r) (x:=⟨c.e,c.fs,c.F xxs p b⟩) hR (row:=(κ.ρ r).ownBlock) hgr (fun g hg=>⟨hg,by rw [hx]; rfl⟩) hown' hcells2 (fun g hg=>(hret hrt g hg).imp (fun e=>⟨e,e⟩) id)
         exact ⟨u,_,_,_,rfl,hK,hR2,by show u=(if r=r then u else _)∧_; rw [if_pos rfl]; exact ⟨rfl,q7k hown'⟩⟩
     ·exact h.elim
    ·exact h.elim
   ·exact h.elim
  ·split at h
   ·
    rename_i c hc
    obtain ⟨hmem,rfl⟩:=fOf_spec hc
    unfold vFn at h
    split at h
    ·rename_i p b hp hb
     obtain ⟨hpre,hK⟩:=h
     obtain ⟨hfn,hcall⟩:=hfs c hmem
     refine ⟨hfn,?_⟩
     have hfa:=q9o hR hb (hvs.dropN c.args.length)
     obtain ⟨κ1,hR1,hS1,hβ1,hx1⟩:=Rel.lendAll (q5x xs) hR (hvs.takeN c.args.length)
     obtain ⟨e1,e2⟩:=q8y _ _ hx1
     have hargs:=q7i (κ:=κ1) (w:=w) c.args _ p hp _ e1 e2
     have hfa1:c.fa.Rep κ1.S w b (vs.drop c.args.length):=qiu hR hb (hvs.dropN c.args.length) hR1 hS1 hβ1
     have hcl:=hcall p b (vs.take c.args.length) (vs.drop c.args.length) w κ1.S hR1.bound hpre (q5e (κ:=κ1) (κ':=Cx.of κ1.S) c.args p rfl hargs) hfa1
     rw [← qfd hvs c.args.length] at hcl
     refine hcl.mono ?_
     rintro en w' ⟨hbel,u,rfl,hres⟩
     left
     have hret:retAV (q10 c.res (c.F p b))=q1k c.res (c.F p b):=rfl
     cases hfl:c.res.all CK.q94
     ·rw [hfl] at hK
      refine ⟨u,_,{ κ1 with S:=fun g=>κ1.S g∨(w.heap.size≤g∧g<w'.heap.size) },_,rfl,hK,hR1.later hbel,?_⟩
      rw [hret]
      exact qaj (κ:=Cx.of fun g=>κ1.S g∨(w.heap.size≤g∧g<w'.heap.size)) (κ':={ κ1 with S:=fun g=>κ1.S g∨(w.heap.size≤g∧g<w'.heap.size) }) c.res _ rfl hres
     ·rw [hfl] at hK
      refine ⟨u,_,_,_,rfl,hK,hR.later hbel,?_⟩
      rw [hret]
      exact qj7 hfl hres
    ·exact h.elim
   ·exact hB w0 hag f hf0 xs off st K KP κ a w vs h hR hvs
theorem xInl_yld {C:Nat→Option (Code×Code)} {ns:List NCon} {os:List OCon} {fs:List FCon} {B:Inl} (hB:q5k P C B):q5k P C (xInl ns os fs B):=by
 intro w0 hag j xs off st K KP κ a w vs h
 have hj:Nat.blt (1000000000+j) 1000000000=false:=Bool.eq_false_iff.mpr fun e=>by rw [Nat.blt_eq] at e; omega
 have h:(bif Nat.blt (1000000000+j) 1000000000 then _ else B (1000000000+j) xs off st K KP):=h
 rw [hj] at h
 exact hB w0 hag j xs off st K KP κ a w vs h
end
end R
end Go.Proofs.YtfecgebhoondjaaGreatDoor
set_option linter.unusedVariables false
namespace Go.Proofs.YtfecgebhoondjaaGreatDoor
open Go.RowKit
namespace R
structure Kit where
 cons:List Con:=[]
 ns:List NCon:=[]
 os:List OCon:=[]
 fcs:List FCon:=[]
 rcs:List RCon:=[]
 inls:List (Nat×Func):=[]
structure Kit.Ok (P:Program) (T:Kit):Prop where
 cons:∀ c∈T.cons,c.Holds P
 ns:∀ c∈T.ns,c.Holds P
 os:∀ c∈T.os,c.Holds P
 fcs:∀ c∈T.fcs,c.Holds P
 rcs:∀ c∈T.rcs,c.Holds P
 inls:q0m P T.inls
def Kit.base (T:Kit):Inl:=xInl T.ns T.os T.fcs (refInl T.rcs)
noncomputable def vcOfX (P:Program) (T:Kit) (annsI:Nat→List (Nat×Ann)) (anns:List (Nat×Ann)) (c:Con) (fn:Func) (p:Pays c.args):Prop:=vcOfH P T.cons (inlOf P T.cons T.inls annsI 8) T.base anns c fn p
theorem holdsX {P : Program} {T : Kit} {f : FuncId} {args res : List CK} {pre : Pays args → Prop} {F : Pays args → Pays res} {fn : Func} (annsI : Pays args → Nat → List (Nat × Ann)) (hf : P.funcs[f]? = some fn) (hb : fn.body.isSome = true) (hname : (fn.name == "runtime.NumGoroutine") = false) (hm : P.follows .mixedOrders = true)
  (hargs:Nat.ble args.length fn.ntmps=true) (hT:T.Ok P) (anns:Pays args→List (Nat×Ann)) (H:∀ p,pre p→vcOfX P T (annsI p) (anns p) (Con.of f args res pre F) fn p):(Con.of f args res pre F).Holds P :=
 holdsH (Con.of f args res pre F) (HH:=fun p=>inlOf P T.cons T.inls (annsI p) 8) hf hb hname hm hargs hT.cons (fun p=>inlOf_ok hm hT.cons hT.inls (annsI p) 8) (xInl_ok hT.ns hT.os hT.fcs (refInl_ok hT.rcs)) (xInl_yld refInl_yld) anns (fun F' h p r hr=>by injection h with h; subst h; exact hr) H
theorem all_nil {α:Type} {p:α→Prop}:∀ c∈([]:List α),p c:=fun c h=>by cases h
theorem all_cons {α:Type} {p:α→Prop} {x:α} {l:List α} (h:p x) (hl:∀ c∈l,p c):∀ c∈x::l,p c:=fun c hc=>by
 rcases List.mem_cons.1 hc with rfl | hc
 ·exact h
 ·exact hl c hc
end R
end Go.Proofs.YtfecgebhoondjaaGreatDoor
set_option linter.unusedVariables false
namespace Go.Proofs.YtfecgebhoondjaaGreatDoor
open Go.RowKit
open R
abbrev kPt:Kds:=.cons (.int .i64) (.one (.int .i64))
abbrev ckPt:CK:=.agg kPt
abbrev kGiv:Kds:=.cons .str (.cons (.sl (.one (.int .i64))) (.cons .bool (.cons (.int .i64) (.one (.int .i64)))))
abbrev q7f:CK:=.agg kGiv
abbrev q4j:CK:=.one (.sl kGiv)
abbrev q6v:CK:=.agg (.cons (.int .i64) (.cons (.int .i64) (.cons (.int .i64) (.cons (.int .i64) (.cons (.int .i64) (.one (.int .i64)))))))
abbrev q35:CK:=.one .bool
abbrev q7g:CK:=.one (.int .i64)
abbrev ckStr1:CK:=.one .str
def cOn:Con:=.of 26 [ckPt] [q35] (fun _=>True) Cod.onB
def cOnL:Con:=.of 92 [.one (.sl kPt)] [q35] (fun l=>List.length l≤1000) (fun l=>List.all l Cod.onB)
def anOnL (l:List (Int×Int)):List (Nat×Ann) :=
 [ann 0 Nat [0,5,6] (fun k=>[(7,R.int .i64 k)]) (fun k=>k≤l.length∧(l.take k).all Cod.onB=true) (fun k=>l.length-k)]
def cFrom:Con:=.of 93 [ckPt,ckPt] [ckPt] (fun p=>Cod.onB p.1=true∧Cod.onB p.2=true) (fun p=>(p.2.1-p.1.1,p.2.2-p.1.2))
def cAlong:Con:=.of 94 [ckPt,ckPt] [q7g] (fun p=>(-32767≤p.1.1∧p.1.1≤32767)∧(-32767≤p.1.2∧p.1.2≤32767)∧(-32767≤p.2.1∧p.2.1≤32767)∧(-32767≤p.2.2∧p.2.2≤32767)) (fun p=>p.1.1*p.2.1+p.1.2*p.2.2)
def cDist:Con:=.of 47 [ckPt,ckPt] [q7g] (fun _=>True) (fun p=>Cod.qaq p.1 p.2)
def cNearG:Con:=.of 128 [q7f,q7f] [q35] (fun _=>True) (fun p=>Cod.q0q p.1 p.2)
def cPlaced:Con:=.of 73 [q7f] [q35] (fun _=>True) Cod.q28
def qih:Con:=.of 72 [ckStr1] [q35] (fun s=>List.length s≤1000) Lx.q1l
def q7r:Con:=.of 37 [ckWl,q2i] [q35] (fun p=>q0d p.1∧List.length p.2≤1000000) (fun p=>Cod.q0p p.1.1 p.1.2 p.2)
def cKey:Con:=.of 126 [q2i] [q6v] (fun _=>True) Cod.key
noncomputable def kitCV:Kit:={ cons:=[qem],inls:=[(85,Tryz.f85),(133,Tryz.f133),(83,Tryz.f83)] }
def anIdx (n:Nat) (code:List Int):Nat→List (Nat×Ann):=fun f=>bif Nat.beq f 133 then
 [ann 0 Nat [0,1,7] (fun k=>[(8,R.int .i64 k)]) (fun k=>k≤code.length∧Cod.inB n (code.take k)=true) (fun k=>code.length-k)] else []
end Go.Proofs.YtfecgebhoondjaaGreatDoor
namespace Go.Proofs.YtfecgebhoondjaaGreatDoor
namespace Lx
theorem qkx {p:UInt8→Bool} {c:UInt8} {l:List UInt8} (h:p c=true):span p (c::l)=span p l+1:=by simp [span,h]
theorem span_stop' {p:UInt8→Bool} {c:UInt8} {l:List UInt8} (h:p c=false):span p (c::l)=0:=by simp [span,h]
inductive LexOk:Nat→List UInt8→List Tok→Prop
 | done (off:Nat) (l:List UInt8) (h:l.drop (gap l)=[]):LexOk off l []
 | tok (off:Nat) (l:List UInt8) (ts:List Tok) (h:l.drop (gap l)≠[]) (he:(scan (l.drop (gap l))).err=0)
   (hr:LexOk (off+gap l+(scan (l.drop (gap l))).width) (l.drop (gap l+(scan (l.drop (gap l))).width)) ts):LexOk off l ((scan (l.drop (gap l))).tok (off+gap l)::ts)
inductive LexErr:Nat→List UInt8→Int→Nat→Prop
 | here (off:Nat) (l:List UInt8) (h:l.drop (gap l)≠[]) (he:(scan (l.drop (gap l))).err≠0):LexErr off l (scan (l.drop (gap l))).err (off+gap l)
 | later (off:Nat) (l:List UInt8) (e:Int) (a:Nat) (h:l.drop (gap l)≠[]) (he:(scan (l.drop (gap l))).err=0)
   (hr:LexErr (off+gap l+(scan (l.drop (gap l))).width) (l.drop (gap l+(scan (l.drop (gap l))).width)) e a):LexErr off l e a
theorem LexOk.det {off:Nat} {l:List UInt8} {ts ts':List Tok} (h:LexOk off l ts) (h':LexOk off l ts'):ts=ts':=by
 induction h generalizing ts' with
 | done off l h=>cases h' with
  | done=>rfl
  | tok _ _ _ h2=>exact absurd h h2
 | tok off l ts h he hr ih=>cases h' with
  | done _ _ h2=>exact absurd h2 h
  | tok _ _ ts2 h2 he2 hr2=>rw [ih hr2]
theorem LexOk.not_err {off:Nat} {l:List UInt8} {ts:List Tok} (h:LexOk off l ts) {e:Int} {a:Nat} (h':LexErr off l e a):False:=by
 induction h with
 | done off l h=>cases h' with
  | here _ _ h2=>exact h2 h
  | later _ _ _ _ h2=>exact h2 h
 | tok off l ts h he hr ih=>cases h' with
  | here _ _ h2 he2=>exact he2 he
  | later _ _ _ _ h2 he2 hr2=>exact ih hr2
theorem LexErr.det {off:Nat} {l:List UInt8} {e e':Int} {a a':Nat} (h:LexErr off l e a) (h':LexErr off l e' a'):e=e'∧a=a':=by
 induction h with
 | here off l h he=>cases h' with
  | here=>exact ⟨rfl,rfl⟩
  | later _ _ _ _ h2 he2=>exact absurd he2 he
 | later off l e a h he hr ih=>cases h' with
  | here _ _ h2 he2=>exact absurd he he2
  | later _ _ _ _ h2 he2 hr2=>exact ih hr2
theorem LexErr.ne {off:Nat} {l:List UInt8} {e:Int} {a:Nat} (h:LexErr off l e a):e≠0:=by
 induction h with
 | here off l h he=>exact he
 | later off l e a h he hr ih=>exact ih
theorem qcs (l:List UInt8):gap (l.drop (gap l))=0:=by
 have H:∀ (l:List UInt8) (b:Bool),gap (l.drop (gapc b l))=0:=by
  intro l
  induction l with
  | nil=>intro b; cases b <;> rfl
  | cons c r ih =>
   intro b
   cases b
   ·simp only [gapc]
    split
    ·exact ih false
    ·split
     ·exact ih true
     ·rename_i h1 h2
      have h1':q30 c=false:=by simpa using h1
      have h2':(c==35)=false:=by simpa using h2
      simp only [List.drop_zero,gap,gapc,h1',h2',Bool.false_eq_true,if_false]
   ·simp only [gapc]
    split
    ·exact ih false
    ·exact ih true
 exact H l false
theorem width_pos {l:List UInt8} (h:(scan l).err=0):1≤(scan l).width:=(qfk l h).1
theorem width_le {l:List UInt8} (h:(scan l).err=0):(scan l).width≤l.length:=(qfk l h).2
theorem lexAt_spec (f:Nat):∀ (out:List Tok) (off:Nat) (l:List UInt8),gap l=0→l.length<f→out.length+l.length≤5000 →
  (∃ ts,LexOk off l ts∧q6w f out off l=(out++ts,0,0))∨(∃ e a,LexErr off l e a∧q6w f out off l=([],e,(a:Int))):=by
 induction f with
 | zero=>intro out off l _ h; omega
 | succ f ih =>
  intro out off l hg hf ho
  cases l with
  | nil=>exact .inl ⟨[],.done _ _ (by simp),by rw [lexAt_nil]; simp⟩
  | cons c r =>
   have hd:(c::r).drop (gap (c::r))=c::r:=by rw [hg]; rfl
   by_cases he:(scan (c::r)).err=0
   ·have hlen:(c::r).length=r.length+1:=rfl
    have hne:out.length≠5000:=by omega
    rw [lexAt_tok f out off c r he hne]
    have hw:=width_pos he
    have hw2:=width_le he
    have hg2:=gap_le ((c::r).drop (scan (c::r)).width)
    rw [List.length_drop] at hg2
    have key:=ih (out++[(scan (c::r)).tok off]) (off+(scan (c::r)).width+gap ((c::r).drop (scan (c::r)).width)) (((c::r).drop (scan (c::r)).width).drop (gap ((c::r).drop (scan (c::r)).width)))
     (qcs _) (by rw [List.length_drop,List.length_drop]; omega) (by rw [List.length_append,List.length_drop,List.length_drop]; simp only [List.length_singleton]; omega)
    have back:∀ (o:Nat) (m:List UInt8),(∀ ts,LexOk (o+gap m) (m.drop (gap m)) ts→LexOk o m ts)∧(∀ e a,LexErr (o+gap m) (m.drop (gap m)) e a→LexErr o m e a):=by
     intro o m
     have hz:=qcs m
     have hdd:(m.drop (gap m)).drop (gap (m.drop (gap m)))=m.drop (gap m):=by rw [hz]; rfl
     refine ⟨fun ts h=>?_,fun e a h=>?_⟩
     ·cases h with
      | done _ _ h=>exact .done _ _ (by rwa [hdd] at h)
      | tok _ _ ts h he hr =>
       rw [hdd] at h he
       rw [hdd,hz,Nat.zero_add,Nat.add_zero,List.drop_drop] at hr
       rw [hdd,hz,Nat.add_zero]
       exact .tok _ _ _ h he hr
     ·cases h with
      | here _ _ h he =>
       rw [hdd] at h he
       rw [hdd,hz,Nat.add_zero]
       exact .here _ _ h he
      | later _ _ _ _ h he hr =>
       rw [hdd] at h he
       rw [hdd,hz,Nat.zero_add,Nat.add_zero,List.drop_drop] at hr
       exact .later _ _ _ _ h he hr
    have hb:=back (off+(scan (c::r)).width) ((c::r).drop (scan (c::r)).width)
    have hne0:(c::r).drop (gap (c::r))≠[]:=by rw [hd]; simp
    have he0:(scan ((c::r).drop (gap (c::r)))).err=0:=by rw [hd]; exact he
    rcases key with ⟨ts,h1,h2⟩ | ⟨e,a,h1,h2⟩
    ·left
     refine ⟨(scan (c::r)).tok off::ts,?_,by rw [h2]; simp⟩
     have h3:=LexOk.tok off (c::r) ts hne0 he0 (by rw [hd,hg]; simpa using hb.1 ts h1)
     rw [hd,hg] at h3
     exact h3
    ·right
     exact ⟨e,a,LexErr.later off (c::r) e a hne0 he0 (by rw [hd,hg]; simpa using hb.2 e a h1),h2⟩
   ·right
    rw [lexAt_err f out off c r he]
    refine ⟨_,_,?_,rfl⟩
    have h3:=LexErr.here off (c::r) (by rw [hd]; simp) (by rw [hd]; exact he)
    rw [hd,hg] at h3
    exact h3
theorem LexOk.back {o:Nat} {m:List UInt8} {ts:List Tok} (h:LexOk (o+gap m) (m.drop (gap m)) ts):LexOk o m ts:=by
 have hz:=qcs m
 have hdd:(m.drop (gap m)).drop (gap (m.drop (gap m)))=m.drop (gap m):=by rw [hz]; rfl
 cases h with
 | done _ _ h=>exact .done _ _ (by rwa [hdd] at h)
 | tok _ _ ts h he hr =>
  rw [hdd] at h he
  rw [hdd,hz,Nat.zero_add,Nat.add_zero,List.drop_drop] at hr
  rw [hdd,hz,Nat.add_zero]
  exact .tok _ _ _ h he hr
theorem LexErr.back {o:Nat} {m:List UInt8} {e:Int} {a:Nat} (h:LexErr (o+gap m) (m.drop (gap m)) e a):LexErr o m e a:=by
 have hz:=qcs m
 have hdd:(m.drop (gap m)).drop (gap (m.drop (gap m)))=m.drop (gap m):=by rw [hz]; rfl
 cases h with
 | here _ _ h he =>
  rw [hdd] at h he
  rw [hdd,hz,Nat.add_zero]
  exact .here _ _ h he
 | later _ _ _ _ h he hr =>
  rw [hdd] at h he
  rw [hdd,hz,Nat.zero_add,Nat.add_zero,List.drop_drop] at hr
  exact .later _ _ _ _ h he hr
theorem lex_small (l:List UInt8) (h:l.length≤5000):(∃ ts,LexOk 0 l ts∧lex l=(ts,0,0))∨(∃ e a,LexErr 0 l e a∧lex l=([],e,(a:Int))):=by
 unfold lex
 rw [if_neg (by omega)]
 have hg:=gap_le l
 rcases lexAt_spec (l.length+1) [] (gap l) (l.drop (gap l)) (qcs l) (by rw [List.length_drop]; omega) (by rw [List.length_drop]; simp; omega) with ⟨ts,h1,h2⟩ | ⟨e,a,h1,h2⟩
 ·exact .inl ⟨ts,LexOk.back (by rw [Nat.zero_add]; exact h1),by rw [h2]; rfl⟩
 ·exact .inr ⟨e,a,LexErr.back (by rw [Nat.zero_add]; exact h1),h2⟩
theorem lex_ok {l:List UInt8} (h:l.length≤5000) {ts:List Tok} (hl:LexOk 0 l ts):lex l=(ts,0,0):=by
 rcases lex_small l h with ⟨ts',h1,h2⟩ | ⟨e,a,h1,_⟩
 ·rw [h2,hl.det h1]
 ·exact (hl.not_err h1).elim
end Lx
end Go.Proofs.YtfecgebhoondjaaGreatDoor
set_option linter.unusedVariables false
namespace Go.Proofs.YtfecgebhoondjaaGreatDoor
namespace Lx
theorem letter_gap (c:UInt8) (r:List UInt8) (h:q2n c=true):gap (c::r)=0:=by
 have H:∀ c:Fin 256,q2n (UInt8.ofNat c.val)=true→q30 (UInt8.ofNat c.val)=false∧(UInt8.ofNat c.val==35)=false:=by decide +kernel
 have h1:=H ⟨c.toNat,UInt8.toNat_lt c⟩
 simp only [UInt8.ofNat_toNat] at h1
 obtain ⟨h1,h2⟩:=h1 h
 simp only [gap,gapc,h1,h2,Bool.false_eq_true,if_false]
theorem span_whole (p:UInt8→Bool) (q:List UInt8) (hq:∀ b∈q,p b=true):span p q=q.length:=by
 induction q with
 | nil=>rfl
 | cons a q ih=>rw [qkx (hq a (by simp)),ih (fun b hb=>hq b (by simp [hb]))]; rfl
theorem qme (p:UInt8→Bool) (q:List UInt8) (h:span p q=q.length):∀ b∈q,p b=true:=by
 induction q with
 | nil=>simp
 | cons a q ih =>
  intro b hb
  cases ha:p a
  ·rw [span_stop' ha] at h; simp at h
  ·rw [qkx ha] at h
   rcases List.mem_cons.1 hb with rfl | hb
   ·exact ha
   ·exact ih (by simpa using h) b hb
theorem scan_kind1 (l:List UInt8) (he:(scan l).err=0) (hk:(scan l).kind=1):∃ c r,l=c::r∧q2n c=true∧span isWord r+1≤24∧(scan l).text=(c::r).take (span isWord r+1)∧(scan l).width=span isWord r+1:=by
 cases l with
 | nil=>cases he
 | cons c r =>
  cases h1:q2n c
  ·exfalso
   rw [scan,if_neg (by rw [h1]; decide)] at he hk
   split at hk
   ·simp only [] at hk
    split at hk <;> cases hk
   ·split at hk
    ·simp only [] at hk
     split at hk
     ·split at hk <;> cases hk
     ·cases hk
    ·split at hk
     ·cases hk
     ·split at hk <;> cases hk
  ·rw [scan,if_pos h1] at he ⊢
   simp only [] at he ⊢
   by_cases h24:24<span isWord r+1
   ·rw [if_pos h24] at he; cases he
   ·rw [if_neg h24] at he ⊢
    exact ⟨c,r,rfl,h1,by omega,rfl,rfl⟩
theorem lex_name (s:List UInt8) (hs:s.length≤5000) (hn:q1l s=true):lex s=([⟨1,0,0,s⟩],0,0):=by
 unfold q1l at hn
 rw [Bool.and_eq_true,Bool.and_eq_true,Bool.and_eq_true,decide_eq_true_eq,decide_eq_true_eq,List.all_eq_true] at hn
 obtain ⟨⟨h1,h2,h3⟩,h4⟩:=hn
 cases s with
 | nil=>cases h4
 | cons c r =>
  simp only [] at h4
  have hg:=letter_gap c r h4
  have hsp:=span_whole isWord r (fun b hb=>h1 b (by simp [hb]))
  have hsc:scan (c::r)=⟨0,1,0,c::r,(c::r).length⟩:=by
   rw [scan,if_pos h4]
   simp only []
   rw [hsp,if_neg (by rw [List.length_cons] at h3; omega),List.length_cons,show r.length+1=(c::r).length from rfl,List.take_length]
  have hok:LexOk 0 (c::r) [⟨1,(0:Nat),0,c::r⟩]:=by
   have h:=LexOk.tok 0 (c::r) [] (by rw [hg]; simp) (by rw [hg,List.drop_zero,hsc]) (by
    rw [hg,List.drop_zero,hsc]
    exact LexOk.done _ _ (by simp))
   rw [hg,List.drop_zero,hsc] at h
   exact h
  exact lex_ok hs hok
theorem name_lex (s:List UInt8) (hs:s.length≤5000) {t:Tok} {e a:Int} (h:lex s=([t],e,a)) (he:e=0) (hk:t.kind=1) (ht:t.text=s):q1l s=true:=by
 rcases lex_small s hs with ⟨ts,h1,h2⟩ | ⟨e',a',h1,h2⟩
 ·rw [h2] at h
  simp only [Prod.mk.injEq] at h
  obtain ⟨rfl,_,_⟩:=h
  cases h1 with
  | tok _ _ _ hne he' hr =>
   have hk':(scan (s.drop (gap s))).kind=1:=hk
   have ht':(scan (s.drop (gap s))).text=s:=ht
   obtain ⟨c,r,hd,hl,h24,h5,h6⟩:=scan_kind1 _ he' hk'
   rw [h5] at ht'
   have hlen:=congrArg List.length ht'
   rw [List.length_take] at hlen
   have hdl:=congrArg List.length hd
   rw [List.length_drop] at hdl
   have hg:gap s=0:=by
    have:=gap_le s
    have:(c::r).length≤s.length:=by omega
    omega
   rw [hg,List.drop_zero] at hd
   have hsl:=qfi isWord r
   have hsp:span isWord r=r.length:=by
    rw [hd,List.length_cons] at hlen
    omega
   have hall:=qme isWord r hsp
   have hlw:isWord c=true:=by unfold isWord; rw [hl]; rfl
   rw [hd]
   unfold q1l
   rw [Bool.and_eq_true,Bool.and_eq_true,Bool.and_eq_true,decide_eq_true_eq,decide_eq_true_eq,List.all_eq_true]
   refine ⟨⟨?_,by simp,?_⟩,hl⟩
   ·intro b hb
    rcases List.mem_cons.1 hb with rfl | hb
    ·exact hlw
    ·exact hall b hb
   ·rw [List.length_cons]; omega
 ·rw [h2] at h
  simp at h
end Lx
end Go.Proofs.YtfecgebhoondjaaGreatDoor

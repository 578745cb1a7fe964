/-
  Several texts in one: Base, LexSpec, SoSpec, SoNear, CoSpec, HeSpec, SoStep, CoLaw, CoJL, CoML, HeLaw.
-/
import Derived.Lib.Strings
import Derived.Shelf.Spec.SearchS
import Derived.Lib.SlicesCompact
namespace Go.Proofs.YtfecgebhoondjaaGreatDoor
def bs (l:List UInt8):ByteArray:=⟨l.toArray⟩
@[simp] theorem q2k (l:List UInt8):(bs l).data.toList=l:=rfl
@[simp] theorem qh9 (l:List UInt8):(bs l).size=l.length:=rfl
theorem qde {l k:List UInt8}:bs l=bs k↔l=k:=by
 constructor
 ·intro h
  have:=congrArg (λs:ByteArray=>s.data.toList) h
  simpa using this
 ·rintro rfl;rfl
theorem q0n (s:ByteArray):s.size=s.data.toList.length:=Lib.size_eq s
theorem q31 (s:ByteArray) (i j:Nat):s.extract i j=bs ((s.data.toList.drop i).take (j-i)):=Lib.extract_eq s i j
theorem qca (s:ByteArray) (i:Nat) (h:i<s.size):s.data.toList[i]? = some s[i]:=by
 obtain ⟨⟨l⟩⟩:=s;exact List.getElem?_eq_getElem (l:=l) h
theorem q3s (s:ByteArray) (i:Nat) (h:i<s.size):s.data.toList.drop i=s[i]::s.data.toList.drop (i+1):=by
 obtain ⟨⟨l⟩⟩:=s;exact List.drop_eq_getElem_cons (l:=l) h
namespace Lx
def q2a (c:UInt8):Bool:=(97≤c&&c≤122)||(65≤c&&c≤90)
def isDigit (c:UInt8):Bool:=48≤c&&c≤57
def q2j (c:UInt8):Bool:=c==32||c==9||c==10
def isWord (c:UInt8):Bool:=q2a c||isDigit c||c==95
def isSym (c:UInt8):Bool:=[59,44,46,58,40,41,91,93,123,125,61,43,45].contains c
def q2o (l:List UInt8):Bool:=l.all isWord&&(decide (0<l.length)&&decide (l.length≤24))&&(match l with | []=>false | c::_=>q2a c)
def cls (c:UInt8):Nat :=
 if q2a c then 3 else if isDigit c then 4 else if c==95 then 5 else if q2j c then 1 else if c==35 then 2
 else if c==34 then 6 else if c==33 then 7 else if c==60||c==62 then 8 else if isSym c then 9 else 0
def q20:List UInt8→Nat
 | []=>0
 | c::_=>cls c
def span (p:UInt8→Bool) (l:List UInt8):Nat:=(l.takeWhile p).length
def gapc:Bool→List UInt8→Nat
 | _,[]=>0
 | false,c::r=>if q2j c then gapc false r+1 else if c==35 then gapc true r+1 else 0
 | true,c::r=>if c==10 then gapc false r+1 else gapc true r+1
def gap (l:List UInt8):Nat:=gapc false l
def qdl (l:List UInt8):Nat:=l.foldl (λa c=>10*a+(c.toNat-48)) 0
structure Sc where
 err:Int
 kind:Int
 n:Int
 text:List UInt8
 width:Nat
 deriving DecidableEq
def bad (e:Int):Sc:=⟨e,0,0,[],0⟩
def q37 (c:UInt8):Bool:=!(c==34||c==10)
def scan:List UInt8→Sc
 | []=>bad 3
 | c::r =>
  if q2a c then
   let m:=span isWord r+1
   if 24<m then bad 2 else ⟨0,1,0,(c::r).take m,m⟩
  else if isDigit c then
   let m:=span isDigit r+1
   if 13<m||q20 ((c::r).drop m)==3||q20 ((c::r).drop m)==5 then bad 4 else ⟨0,2,qdl ((c::r).take m),(c::r).take m,m⟩
  else if c==34 then
   let m:=span q37 r
   if (r.drop m).head? == some 34 then (if 400<m then bad 2 else ⟨0,3,0,r.take m,m+2⟩) else bad 6
  else if (c==33||c==60||c==62)&&r.head? == some 61 then ⟨0,4,0,[c,61],2⟩
  else if c==60||c==62||isSym c then ⟨0,4,0,[c],1⟩
  else bad 3
structure Tok where
 kind:Int
 pos:Int
 n:Int
 text:List UInt8
 deriving DecidableEq
def Sc.tok (r:Sc) (off:Nat):Tok:=⟨r.kind,off,r.n,r.text⟩
def q68:Nat→List Tok→Nat→List UInt8→List Tok×Int×Int
 | 0,out,_,_=>(out,0,0)
 | _+1,out,_,[]=>(out,0,0)
 | f+1,out,off,c::r =>
  let s:=scan (c::r)
  if s.err=0∧out.length=5000 then ([],2,off)
  else if s.err≠0 then ([],s.err,off)
  else
   let l:=(c::r).drop s.width
   q68 f (out++[s.tok off]) (off+s.width+gap l) (l.drop (gap l))
def lex (l:List UInt8):List Tok×Int×Int :=
 if 20000<l.length then ([],2,-1) else q68 (l.length+1) [] (gap l) (l.drop (gap l))
theorem lexAt_nil (f:Nat) (out:List Tok) (off:Nat):q68 f out off []=(out,0,0):=by cases f <;> rfl
theorem lexAt_full (f:Nat) (out:List Tok) (off:Nat) (c:UInt8) (r:List UInt8) (h:(scan (c::r)).err=0) (hl:out.length=5000):q68 (f+1) out off (c::r)=([],2,(off:Int)):=by
 simp only [q68];rw [if_pos ⟨h,hl⟩]
theorem lexAt_err (f:Nat) (out:List Tok) (off:Nat) (c:UInt8) (r:List UInt8) (h:(scan (c::r)).err≠0):q68 (f+1) out off (c::r)=([],(scan (c::r)).err,(off:Int)):=by
 simp only [q68];rw [if_neg (λh'=>h h'.1),if_pos h]
theorem lexAt_tok (f:Nat) (out:List Tok) (off:Nat) (c:UInt8) (r:List UInt8) (h:(scan (c::r)).err=0) (hl:out.length≠5000) :
  q68 (f+1) out off (c::r)=q68 f (out++[(scan (c::r)).tok off]) (off+(scan (c::r)).width+gap ((c::r).drop (scan (c::r)).width)) (((c::r).drop (scan (c::r)).width).drop (gap ((c::r).drop (scan (c::r)).width))):=by
 simp only [q68];rw [if_neg (λh'=>hl h'.2),if_neg (by simp [h])]
theorem qek (p:UInt8→Bool) (l:List UInt8):span p l≤l.length:=by
 unfold span
 induction l with
 | nil=>simp
 | cons c r ih=>rw [List.takeWhile_cons];split <;> simp [ih]
theorem gapc_le (l:List UInt8):∀ b,gapc b l≤l.length:=by
 induction l with
 | nil=>intro b;cases b <;> simp [gapc]
 | cons c r ih =>
  intro b;cases b
  ·have h1:=ih false
   have h2:=ih true;simp only [gapc,List.length_cons];split
   ·omega
   ·split <;> omega
  ·have h1:=ih false
   have h2:=ih true;simp only [gapc,List.length_cons];split <;> omega
theorem gap_le (l:List UInt8):gap l≤l.length:=gapc_le l false
def Fits (n:Nat) (r:Sc):Prop:=r.err=0→1≤r.width∧r.width≤n
theorem Fits.ite {n:Nat} {p:Prop} [Decidable p] {a b:Sc} (ha:p→Fits n a) (hb:¬ p→Fits n b):Fits n (if p then a else b):=by
 split
 ·exact ha ‹_›
 ·exact hb ‹_›
theorem Fits.bad (n:Nat) {e:Int} (h:e≠0):Fits n (bad e):=λh'=>absurd h' h
theorem qf7 (l:List UInt8):Fits l.length (scan l):=by
 cases l with
 | nil=>exact Fits.bad _ (by decide)
 | cons c r =>
  have hw:=qek isWord r;have hd:=qek isDigit r;have ht:=qek q37 r;rw [scan];refine Fits.ite (λ_=>?_) λ_=>Fits.ite (λ_=>?_) λ_=>Fits.ite (λ_=>?_) λ_=>Fits.ite (λh4=>?_) λ_=>Fits.ite (λ_=>?_) λ_=>Fits.bad _ (by decide)
  ·exact Fits.ite (λ_=>Fits.bad _ (by decide)) λ_ _=>⟨by simp only [];omega,by simp only [List.length_cons];omega⟩
  ·exact Fits.ite (λ_=>Fits.bad _ (by decide)) λ_ _=>⟨by simp only [];omega,by simp only [List.length_cons];omega⟩
  ·refine Fits.ite (λh4=>?_) λ_=>Fits.bad _ (by decide)
   have:span q37 r<r.length:=by
    rcases Nat.lt_or_ge (span q37 r) r.length with h5 | h5
    ·exact h5
    ·rw [List.drop_eq_nil_of_le h5] at h4;cases h4
   exact Fits.ite (λ_=>Fits.bad _ (by decide)) λ_ _=>⟨by simp only [];omega,by simp only [List.length_cons];omega⟩
  ·rw [Bool.and_eq_true] at h4
   cases r with
   | nil=>cases h4.2
   | cons d r=>exact λ_=>⟨by simp only [];omega,by simp only [List.length_cons];omega⟩
  ·exact λ_=>⟨by simp only [];omega,by simp only [List.length_cons];omega⟩
end Lx
namespace Snd
abbrev Str:=List UInt8
abbrev Conf:=Str×Str
def letB (c:UInt8):Bool:=decide (97≤c.toNat)&&decide (c.toNat≤122)
def q0j (s:Str) (lo hi:Int):Bool:=s.all letB&&(decide (lo≤(s.length:Int))&&decide ((s.length:Int)≤hi))
def flip (c:Conf):Conf:=(c.2,c.1)
def okC (c:Conf):Bool:=q0j c.1 1 3&&(q0j c.2 1 3&&!(c.1==c.2))
def same (c d:Conf):Bool:=c==d||c==flip d
def fresh:List Conf→Bool
 | []=>true
 | c::r=>!(r.any (same c))&&fresh r
def q0l (l:List Conf):Bool:=decide (l.length≤200)&&(l.all okC&&fresh l)
def repAt (x y a b:Str) (i:Nat):Bool:=decide (i+a.length≤x.length)&&((x.drop i).take a.length==a&&x.take i++b++x.drop (i+a.length)==y)
def repB (x y a b:Str):Bool:=(List.range (x.length+1)).any (repAt x y a b)
def hitB (x y:Str) (c:Conf):Bool:=repB x y c.1 c.2||repB x y c.2 c.1
def q3i (l:List Conf) (x y:Str):Bool:=x==y||l.any (hitB x y)
def q6j (s:Str):Bool:=q0j s 1 12
def q29 (l:List Conf) (x y:Str):Bool:=q0l l&&(q6j x&&(q6j y&&q3i l x y))
def rising:List Str→Bool
 | []=>true
 | [_]=>true
 | a::b::r=>Op.bytesLess a b&&rising (b::r)
def q0h (lang:Str) (ws:List Str):Bool:=Lx.q2o lang&&(decide (1≤ws.length)&&(decide (ws.length≤4096)&&(ws.all (λs=>q0j s 3 8)&&rising ws)))
def q7c (ws:List Str) (c:List Conf) (x:Str) (n:Nat):List Int:=((List.range n).filter λi=>q3i c (ws.getD i []) x).map Int.ofNat
def q35 (lang:Str) (ws:List Str) (c:List Conf) (x:Str):List Int×Int :=
 if q0h lang ws&&(q0l c&&q6j x) then (q7c ws c x ws.length,0) else ([],1)
def q2l (w:Str) (i:Nat) (p:Conf):List Str:=if p.1.isPrefixOf (w.drop i) then [w.take i++p.2++(w.drop i).drop p.1.length] else []
def wayL (w:Str) (i:Nat) (c:Conf):List Str:=q2l w i c++q2l w i (flip c)
def atL (l:List Conf) (w:Str) (i:Nat):List Str:=l.flatMap (wayL w i)
def q69 (l:List Conf) (w:Str):Nat→Nat→List Str
 | 0,_=>[]
 | f+1,i=>atL l w i++q69 l w f (i+1)
def q5v (l:List Conf) (w:Str):List Str:=w::q69 l w w.length 0
theorem q6a (c:Conf):flip (flip c)=c:=rfl
theorem flip_inj {c d:Conf} (h:flip c=flip d):c=d:=by
 have:=congrArg flip h
 rwa [q6a,q6a] at this
theorem same_iff {c d:Conf}:same c d=true↔c=d∨c=flip d:=by
 unfold same;rw [Bool.or_eq_true,beq_iff_eq,beq_iff_eq]
theorem qgk (c d:Conf):same c d=same d c:=by
 rw [Bool.eq_iff_iff,same_iff,same_iff];constructor
 ·rintro (h | h)
  ·exact .inl h.symm
  ·exact .inr (by rw [h,q6a])
 ·rintro (h | h)
  ·exact .inl h.symm
  ·exact .inr (by rw [h,q6a])
theorem qdj (c d:Conf):same (flip c) d=same c d:=by
 rw [Bool.eq_iff_iff,same_iff,same_iff];constructor
 ·rintro (h | h)
  ·exact .inr (by rw [← h,q6a])
  ·exact .inl (flip_inj h)
 ·rintro (h | h)
  ·exact .inr (by rw [h])
  ·exact .inl (by rw [h,q6a])
theorem qkn (c d:Conf):same c (flip d)=same c d:=by rw [qgk,qdj,qgk]
theorem fresh_snoc (l:List Conf) (c:Conf):fresh (l++[c])=(fresh l&&!(l.any (same c))):=by
 induction l with
 | nil=>rfl
 | cons d l ih =>
  have h1:(d::l).any (same c)=(same c d||l.any (same c)):=rfl;have h2:(l++[c]).any (same d)=(l.any (same d)||same c d):=by
   rw [List.any_append,show [c].any (same d)=(same d c||false) from rfl,Bool.or_false,qgk d c]
  rw [List.cons_append,fresh,ih,fresh,h1,h2];cases l.any (same d) <;> cases fresh l <;> cases same c d <;> cases l.any (same c) <;> rfl
theorem fresh_take (l:List Conf) (h:fresh l=true):∀ n,fresh (l.take n)=true:=by
 induction l with
 | nil=>intro n;rw [List.take_nil];rfl
 | cons c l ih =>
  intro n;cases n with
  | zero=>rfl
  | succ n =>
   rw [fresh,Bool.and_eq_true] at h;rw [List.take_succ_cons,fresh,ih h.2,Bool.and_true];rw [Bool.not_eq_true'] at h ⊢;rw [← Bool.not_eq_true,List.any_eq_true] at h ⊢;rintro ⟨x,hx,hs⟩;exact h.1 ⟨x,List.mem_of_mem_take hx,hs⟩
def Turned:List Conf→List Conf→Prop
 | [],[]=>True
 | c::l,d::m=>(d=c∨d=flip c)∧Turned l m
 | _,_=>False
theorem okC_flip (c:Conf):okC (flip c)=okC c:=by
 unfold okC flip;simp only [];rw [show (c.2==c.1)=(c.1==c.2) from Bool.beq_comm];cases q0j c.1 1 3 <;> cases q0j c.2 1 3 <;> rfl
theorem Turned.any {p:Conf→Bool} (hp:∀ c,p (flip c)=p c):∀ {l m:List Conf},Turned l m→m.any p=l.any p
 | [],[],_=>rfl
 | c::l,d::m,h=>by
  rw [List.any_cons,List.any_cons,Turned.any hp h.2];rcases h.1 with rfl | rfl
  ·rfl
  ·rw [hp]
theorem Turned.all {p:Conf→Bool} (hp:∀ c,p (flip c)=p c):∀ {l m:List Conf},Turned l m→m.all p=l.all p
 | [],[],_=>rfl
 | c::l,d::m,h=>by
  rw [List.all_cons,List.all_cons,Turned.all hp h.2];rcases h.1 with rfl | rfl
  ·rfl
  ·rw [hp]
theorem Turned.fresh:∀ {l m:List Conf},Turned l m→fresh m=fresh l
 | [],[],_=>rfl
 | c::l,d::m,h=>by
  have h1:m.any (same d)=l.any (same c):=by
   rw [Turned.any (p:=same d) (λx=>qkn d x) h.2]
   rcases h.1 with rfl | rfl
   ·rfl
   ·rw [show same (flip c)=same c from funext λx=>qdj c x]
  rw [Snd.fresh,Snd.fresh,h1,Turned.fresh h.2]
theorem Turned.len:∀ {l m:List Conf},Turned l m→m.length=l.length
 | [],[],_=>rfl
 | c::l,d::m,h=>by rw [List.length_cons,List.length_cons,Turned.len h.2]
theorem Turned.proper {l m:List Conf} (h:Turned l m):q0l m=q0l l:=by
 unfold q0l;rw [h.len,h.fresh,Turned.all okC_flip h]
def Rep (x y a b:Str):Prop:=∃ u v,x=u++a++v∧y=u++b++v
theorem Rep.symm {x y a b:Str} (h:Rep x y a b):Rep y x b a:=by
 obtain ⟨u,v,h1,h2⟩:=h;exact ⟨u,v,h2,h1⟩
theorem rep_iff {x y a b:Str}:repB x y a b=true↔Rep x y a b:=by
 unfold repB;rw [List.any_eq_true];constructor
 ·rintro ⟨i,_,h⟩
  unfold repAt at h;rw [Bool.and_eq_true,Bool.and_eq_true,decide_eq_true_eq,beq_iff_eq,beq_iff_eq] at h;obtain ⟨hi,ha,hy⟩:=h;refine ⟨x.take i,x.drop (i+a.length),?_,hy.symm⟩
  conv=>lhs;rw [← List.take_append_drop i x,← List.take_append_drop a.length (x.drop i),ha,List.drop_drop]
  rw [List.append_assoc]
 ·rintro ⟨u,v,rfl,rfl⟩
  refine ⟨u.length,List.mem_range.2 (by simp;omega),?_⟩
  unfold repAt;rw [Bool.and_eq_true,Bool.and_eq_true,decide_eq_true_eq,beq_iff_eq,beq_iff_eq];refine ⟨by simp,?_,?_⟩
  ·rw [List.append_assoc,List.drop_left,List.take_left]
  ·rw [List.append_assoc u a v,List.take_left,← List.drop_drop,List.drop_left,List.drop_left]
theorem qh8 {x y:Str} {c:Conf}:hitB x y c=true↔Rep x y c.1 c.2∨Rep x y c.2 c.1:=by
 unfold hitB;rw [Bool.or_eq_true,rep_iff,rep_iff]
theorem hit_symm (x y:Str) (c:Conf):hitB x y c=hitB y x c:=by
 rw [Bool.eq_iff_iff,qh8,qh8];exact ⟨λh=>h.elim (λh=>.inr h.symm) (λh=>.inl h.symm),λh=>h.elim (λh=>.inr h.symm) (λh=>.inl h.symm)⟩
theorem sounds_iff {l:List Conf} {x y:Str}:q3i l x y=true↔x=y∨∃ c∈l,Rep x y c.1 c.2∨Rep x y c.2 c.1:=by
 unfold q3i;rw [Bool.or_eq_true,beq_iff_eq,List.any_eq_true];constructor
 ·rintro (h | ⟨c,hc,h⟩)
  ·exact .inl h
  ·exact .inr ⟨c,hc,qh8.1 h⟩
 ·rintro (h | ⟨c,hc,h⟩)
  ·exact .inl h
  ·exact .inr ⟨c,hc,qh8.2 h⟩
theorem qcw (l:List Conf) (x y:Str):q3i l x y=q3i l y x:=by
 unfold q3i;rw [show (x==y)=(y==x) from Bool.beq_comm,show hitB x y=hitB y x from funext λc=>hit_symm x y c]
theorem okC_len {c:Conf} (h:okC c=true):(1≤c.1.length∧c.1.length≤3)∧(1≤c.2.length∧c.2.length≤3)∧c.1≠c.2:=by
 unfold okC q0j at h;simp only [Bool.and_eq_true,decide_eq_true_eq,Bool.not_eq_true',beq_eq_false_iff_ne] at h;obtain ⟨⟨_,h1,h2⟩,⟨_,h3,h4⟩,h5⟩:=h;exact ⟨⟨by omega,by omega⟩,⟨by omega,by omega⟩,h5⟩
theorem proper_len {l:List Conf} (h:q0l l=true):∀ c∈l,(1≤c.1.length∧c.1.length≤3)∧(1≤c.2.length∧c.2.length≤3)∧c.1≠c.2:=by
 unfold q0l at h;simp only [Bool.and_eq_true,List.all_eq_true] at h;exact λc hc=>okC_len (h.2.1 c hc)
theorem qe6 {w y:Str} {i:Nat} {p:Conf} (hi:i≤w.length):y∈q2l w i p↔∃ v,w=w.take i++p.1++v∧y=w.take i++p.2++v:=by
 unfold q2l;constructor
 ·intro h
  split at h
  ·rename_i hp
   rw [List.isPrefixOf_iff_prefix] at hp;obtain ⟨v,hv⟩:=hp;have hy:=List.mem_singleton.1 h;refine ⟨v,?_,?_⟩
   ·rw [List.append_assoc,hv,List.take_append_drop]
   ·rw [hy,← hv,List.drop_left]
  ·cases h
 ·rintro ⟨v,hw,hy⟩
  have hd:w.drop i=p.1++v:=by
   have:=congrArg (List.drop i) hw
   rw [this,List.append_assoc,List.drop_append_of_le_length (by rw [List.length_take];omega),List.drop_eq_nil_of_le (by rw [List.length_take];omega),List.nil_append]
  rw [if_pos (by rw [List.isPrefixOf_iff_prefix,hd];exact List.prefix_append _ _),hd,List.drop_left]
  exact List.mem_singleton.2 hy
theorem mem_restL {l:List Conf} {w y:Str}:∀ (f i:Nat),y∈q69 l w f i↔∃ k,i≤k∧k<i+f∧y∈atL l w k:=by
 intro f
 induction f with
 | zero =>
  intro i;constructor
  ·intro h;cases h
  ·rintro ⟨k,h1,h2,_⟩;omega
 | succ f ih =>
  intro i;rw [q69,List.mem_append,ih];constructor
  ·rintro (h | ⟨k,h1,h2,h3⟩)
   ·exact ⟨i,by omega,by omega,h⟩
   ·exact ⟨k,by omega,by omega,h3⟩
  ·rintro ⟨k,h1,h2,h3⟩
   by_cases h:k=i
   ·subst h;exact .inl h3
   ·exact .inr ⟨k,by omega,by omega,h3⟩
theorem qe8 {l:List Conf} (hl:q0l l=true) {w y:Str}:y∈q5v l w↔q3i l w y=true:=by
 have hlen:=proper_len hl;unfold q5v;rw [List.mem_cons,sounds_iff,mem_restL];have key:∀ c∈l,∀ p:Conf,(p=c∨p=flip c)→Rep w y p.1 p.2→∃ k,0≤k∧k<0+w.length∧y∈atL l w k:=by
  intro c hc p hp hr;obtain ⟨u,v,h1,h2⟩:=hr;have hl1:1≤p.1.length:=by
   obtain ⟨a,b,_⟩:=hlen c hc;rcases hp with rfl | rfl
   ·exact a.1
   ·exact b.1
  have hw:w.length=u.length+p.1.length+v.length:=by rw [h1];simp;omega
  refine ⟨u.length,by omega,by omega,?_⟩
  unfold atL;rw [List.mem_flatMap];refine ⟨c,hc,?_⟩;have ht:w.take u.length=u:=by rw [h1,List.append_assoc,List.take_left]
  have:y∈q2l w u.length p:=(qe6 (by omega)).2 ⟨v,by rw [ht];exact h1,by rw [ht];exact h2⟩
  unfold wayL;rw [List.mem_append];rcases hp with rfl | rfl
  ·exact .inl this
  ·exact .inr this
 constructor
 ·rintro (h | ⟨k,_,h2,h3⟩)
  ·exact .inl h.symm
  ·right
   unfold atL at h3;rw [List.mem_flatMap] at h3;obtain ⟨c,hc,h3⟩:=h3;refine ⟨c,hc,?_⟩;unfold wayL at h3;rw [List.mem_append] at h3;rcases h3 with h3 | h3
   ·obtain ⟨v,hv,hy⟩:=(qe6 (by omega)).1 h3
    exact .inl ⟨_,v,hv,hy⟩
   ·obtain ⟨v,hv,hy⟩:=(qe6 (by omega)).1 h3
    exact .inr ⟨_,v,hv,hy⟩
 ·rintro (h | ⟨c,hc,h⟩)
  ·exact .inl h.symm
  ·right
   rcases h with h | h
   ·exact key c hc c (.inl rfl) h
   ·exact key c hc (flip c) (.inr rfl) h
end Snd
namespace Snd
theorem q55:∀ a:Str,Op.bytesLess a a=false
 | []=>rfl
 | c::a=>by
  unfold Op.bytesLess;rw [q55 a,decide_eq_false (UInt8.lt_irrefl c)];simp
theorem q3n:∀ {a b c:Str},Op.bytesLess a b=true→Op.bytesLess b c=true→Op.bytesLess a c=true
 | [],[],_,h,_=>by cases h
 | _::_,[],_,h,_=>by cases h
 | _,_::_,[],_,h=>by cases h
 | [],_::_,_::_,_,_=>rfl
 | x::a,y::b,z::c,h,h'=>by
  unfold Op.bytesLess at *
  simp only [Bool.or_eq_true,Bool.and_eq_true,decide_eq_true_eq,beq_iff_eq] at *
  rcases h with h | ⟨rfl,h⟩
  ·rcases h' with h' | ⟨rfl,h'⟩
   ·exact .inl (UInt8.lt_trans h h')
   ·exact .inl h
  ·rcases h' with h' | ⟨rfl,h'⟩
   ·exact .inl h'
   ·exact .inr ⟨rfl,q3n h h'⟩
theorem qkm:∀ {a b:Str},Op.bytesLess a b=false→Op.bytesLess b a=false→a=b
 | [],[],_,_=>rfl
 | [],_::_,h,_=>by cases h
 | _::_,[],_,h=>by cases h
 | x::a,y::b,h,h'=>by
  unfold Op.bytesLess at *
  simp only [Bool.or_eq_false_iff,Bool.and_eq_false_iff,decide_eq_false_iff_not,beq_eq_false_iff_ne] at *
  have hxy:x=y:=by
   rcases UInt8.lt_or_lt_of_ne (a:=x) (b:=y) with h1;by_cases e:x=y
   ·exact e
   ·rcases h1 e with h2 | h2
    ·exact absurd h2 h.1
    ·exact absurd h2 h'.1
  subst hxy;rw [qkm (h.2.resolve_left (λe=>e rfl)) (h'.2.resolve_left (λe=>e rfl))]
theorem qaa:∀ {ws:List Str},rising ws=true→∀ i j,i<j→j<ws.length→Op.bytesLess (ws.getD i []) (ws.getD j [])=true
 | [],_,i,j,_,h=>by cases h
 | [_],_,i,j,h,h'=>by simp at h';omega
 | a::b::r,h,i,j,hij,hj=>by
  rw [rising,Bool.and_eq_true] at h;have ih:=@qaa (b::r) h.2;cases j with
  | zero=>omega
  | succ j =>
   have hj':j<(b::r).length:=by simpa using hj
   cases i with
   | zero =>
    rw [List.getD_cons_zero,List.getD_cons_succ];cases j with
    | zero=>exact h.1
    | succ j=>exact q3n h.1 (ih 0 (j+1) (by omega) hj')
   | succ i=>rw [List.getD_cons_succ,List.getD_cons_succ];exact ih i j (by omega) hj'
theorem rising_inj {ws:List Str} (h:rising ws=true) {i j:Nat} (hi:i<ws.length) (hj:j<ws.length) (he:ws.getD i []=ws.getD j []):i=j:=by
 rcases Nat.lt_trichotomy i j with h1 | h1 | h1
 ·have:=qaa h i j h1 hj
  rw [he,q55] at this;cases this
 ·exact h1
 ·have:=qaa h j i h1 hi
  rw [he,q55] at this;cases this
def below (ws:List Str) (s:Str):Nat:=(ws.takeWhile λx=>Op.bytesLess x s).length
theorem below_lt {ws:List Str} (h:rising ws=true) (s:Str):(∀ t,t<below ws s→Op.bytesLess (ws.getD t []) s=true)∧(∀ t,below ws s≤t→t<ws.length→Op.bytesLess (ws.getD t []) s=false)∧below ws s≤ws.length:=by
 induction ws with
 | nil=>exact ⟨λt ht=>(by cases ht),λt _ ht=>(by cases ht),Nat.le_refl _⟩
 | cons a r ih =>
  have hr:rising r=true:=by
   cases r with
   | nil=>rfl
   | cons b r=>rw [rising,Bool.and_eq_true] at h;exact h.2
  obtain ⟨h1,h2,h3⟩:=ih hr;unfold below at *
  cases ha:Op.bytesLess a s
  ·rw [List.takeWhile_cons,ha]
   refine ⟨λt ht=>(by cases ht),λt _ ht=>?_,Nat.zero_le _⟩
   cases t with
   | zero=>exact ha
   | succ t =>
    have hlt:=qaa h 0 (t+1) (by omega) ht
    rw [List.getD_cons_zero] at hlt;cases hc:Op.bytesLess ((a::r).getD (t+1) []) s
    ·rfl
    ·rw [q3n hlt hc] at ha;cases ha
  ·rw [List.takeWhile_cons,ha]
   simp only [if_true,List.length_cons];refine ⟨λt ht=>?_,λt h4 h5=>?_,by omega⟩
   ·cases t with
    | zero=>exact ha
    | succ t=>rw [List.getD_cons_succ];exact h1 t (by omega)
   ·cases t with
    | zero=>omega
    | succ t=>rw [List.getD_cons_succ];exact h2 t (by omega) (by simpa using h5)
theorem bs_below {ws:List Str} (h:rising ws=true) (s:Str) (less:Nat→Bool) (hl:∀ t,t<ws.length→less t=Op.bytesLess (ws.getD t []) s) :
  Lib.bsGo less ws.length 0 ws.length=below ws s:=by
 obtain ⟨h1,h2,h3⟩:=below_lt h s;have key:∀ (l':Nat→Bool),(∀ t,t<ws.length→l' t=less t)→∀ f lo hi,hi≤ws.length→Lib.bsGo less f lo hi=Lib.bsGo l' f lo hi:=by
  intro l' hl' f
  induction f with
  | zero=>intro lo hi _;rfl
  | succ f ih =>
   intro lo hi hh;unfold Lib.bsGo;split
   ·rw [hl' _ (by omega),ih _ _ hh,ih _ _ (by omega)]
   ·rfl
 rw [key (λt=>decide (t<below ws s)) (λt ht=>?_) _ _ _ (Nat.le_refl _)]
 ·exact Lib.bsGo_spec _ _ (λt ht=>decide_eq_true ht) (λt ht=>decide_eq_false (by omega)) _ _ _ (by omega) (Nat.zero_le _) h3
 ·rw [hl t ht]
  by_cases hb:t<below ws s
  ·rw [decide_eq_true hb,h1 t hb]
  ·rw [decide_eq_false hb,h2 t (by omega) ht]
def qb9 (ws:List Str) (s:Str):List Int:=if below ws s<ws.length∧ws.getD (below ws s) []=s then [(below ws s:Int)] else []
theorem mem_findL {ws:List Str} (h:rising ws=true) (s:Str) (k:Int):k∈qb9 ws s↔∃ i:Nat,k=i∧i<ws.length∧ws.getD i []=s:=by
 unfold qb9;constructor
 ·intro hk
  split at hk
  ·rename_i hc
   exact ⟨_,List.mem_singleton.1 hk,hc.1,hc.2⟩
  ·cases hk
 ·rintro ⟨i,rfl,hi,he⟩
  have hb:below ws s=i:=by
   obtain ⟨h1,h2,h3⟩:=below_lt h s;rcases Nat.lt_trichotomy (below ws s) i with h4 | h4 | h4
   ·have h5:=qaa h _ _ h4 hi
    have h6:=h2 i (by omega) hi
    have h7:=h2 (below ws s) (Nat.le_refl _) (by omega)
    rw [he] at h5;rw [h5] at h7;cases h7
   ·exact h4
   ·have:=h1 i h4
    rw [he,q55] at this;cases this
  rw [if_pos ⟨by omega,by rw [hb];exact he⟩,hb]
  exact List.mem_singleton.2 rfl
def q1i (ws:List Str) (l:List Str):List Int:=l.flatMap (qb9 ws)
theorem qky (d:Array Int) (hs:∀ i j,i≤j→j<d.size→d[i]! ≤ d[j]!):∀ m,m≤d.size→(Lib.compactUpTo d m).Pairwise (·<·)∧(∀ x∈Lib.compactUpTo d m,∃ j,j<m∧x=d[j]!)∧(∀ j,j<m→d[j]! ∈ Lib.compactUpTo d m):=by
 intro m
 induction m with
 | zero=>intro _;exact ⟨List.Pairwise.nil,λx h=>(by cases h),λj h=>(by omega)⟩
 | succ m ih =>
  intro hm;obtain ⟨h1,h2,h3⟩:=ih (by omega)
  rw [Lib.compactUpTo_succ];have mono:∀ x∈Lib.compactUpTo d m++(if Lib.keeps d m then [d[m]!] else []),∃ j,j<m+1∧x=d[j]! := by
   intro x hx;rcases List.mem_append.1 hx with hx | hx
   ·obtain ⟨j,hj,e⟩:=h2 x hx
    exact ⟨j,by omega,e⟩
   ·split at hx
    ·exact ⟨m,by omega,List.mem_singleton.1 hx⟩
    ·cases hx
  refine ⟨?_,mono,?_⟩
  ·rw [List.pairwise_append]
   refine ⟨h1,?_,?_⟩
   ·split
    ·exact List.pairwise_singleton _ _
    ·exact List.Pairwise.nil
   ·intro x hx y hy
    split at hy
    ·rename_i hk
     rw [List.mem_singleton.1 hy];obtain ⟨j,hj,rfl⟩:=h2 x hx;unfold Lib.keeps at hk;have hk:=of_decide_eq_true hk;rcases hk with rfl | hk
     ·omega
     ·have a1:=hs j (m-1) (by omega) (by omega)
      have a2:=hs (m-1) m (by omega) (by omega)
      omega
    ·cases hy
  ·intro j hj
   rw [List.mem_append];by_cases e:j=m
   ·subst e
    cases hk:Lib.keeps d j
    ·left
     unfold Lib.keeps at hk;have hk:=of_decide_eq_false hk;rw [not_or] at hk;have he:d[j]! = d[j-1]! := by
      by_cases he:d[j]! = d[j-1]!
      ·exact he
      ·exact absurd he hk.2
     rw [he];exact h3 _ (by omega)
    ·right
     exact List.mem_singleton.2 rfl
   ·exact .inl (h3 j (by omega))
theorem qjv:∀ {l m:List Int},l.Pairwise (·<·)→m.Pairwise (·<·)→(∀ x,x∈l↔x∈m)→l=m
 | [],[],_,_,_=>rfl
 | [],b::m,_,_,h=>by have:=(h b).2 (List.mem_cons_self ..);cases this
 | a::l,[],_,_,h=>by have:=(h a).1 (List.mem_cons_self ..);cases this
 | a::l,b::m,hl,hm,h=>by
  rw [List.pairwise_cons] at hl hm;have hab:a=b:=by
   have h1:=(h a).1 (List.mem_cons_self ..);have h2:=(h b).2 (List.mem_cons_self ..);rcases List.mem_cons.1 h1 with h1 | h1
   ·exact h1
   ·rcases List.mem_cons.1 h2 with h2 | h2
    ·exact h2.symm
    ·have:=hl.1 b h2;have:=hm.1 a h1;omega
  subst hab;rw [qjv hl.2 hm.2 λx=>?_]
  constructor
  ·intro hx
   rcases List.mem_cons.1 ((h x).1 (List.mem_cons_of_mem _ hx)) with e | e
   ·have:=hl.1 x hx;omega
   ·exact e
  ·intro hx
   rcases List.mem_cons.1 ((h x).2 (List.mem_cons_of_mem _ hx)) with e | e
   ·have:=hm.1 x hx;omega
   ·exact e
theorem nearL_strict (ws:List Str) (c:List Conf) (x:Str) (n:Nat):(q7c ws c x n).Pairwise (·<·):=by
 unfold q7c;rw [List.pairwise_map];refine List.Pairwise.imp ?_ ((List.pairwise_lt_range (n:=n)).filter _);intro a b h;show (a:Int)<(b:Int);omega
theorem mem_nearL {ws:List Str} {c:List Conf} {x:Str} {n:Nat} {k:Int}:k∈q7c ws c x n↔∃ i:Nat,k=i∧i<n∧q3i c (ws.getD i []) x=true:=by
 unfold q7c;rw [List.mem_map];constructor
 ·rintro ⟨i,hi,rfl⟩
  rw [List.mem_filter,List.mem_range] at hi;exact ⟨i,rfl,hi.1,hi.2⟩
 ·rintro ⟨i,rfl,h1,h2⟩
  exact ⟨i,List.mem_filter.2 ⟨List.mem_range.2 h1,h2⟩,rfl⟩
theorem mem_foundL {ws:List Str} (h:rising ws=true) {c:List Conf} (hc:q0l c=true) {x:Str} {k:Int}:k∈q1i ws (q5v c x)↔k∈q7c ws c x ws.length:=by
 unfold q1i;rw [List.mem_flatMap,mem_nearL];constructor
 ·rintro ⟨s,hs,hk⟩
  obtain ⟨i,rfl,hi,he⟩:=(mem_findL h s k).1 hk;refine ⟨i,rfl,hi,?_⟩;rw [he,qcw];exact (qe8 hc).1 hs
 ·rintro ⟨i,rfl,hi,hs⟩
  rw [qcw] at hs;exact ⟨_,(qe8 hc).2 hs,(mem_findL h _ _).2 ⟨i,rfl,hi,rfl⟩⟩
theorem near_found {ws:List Str} (h:rising ws=true) {c:List Conf} (hc:q0l c=true) (x:Str) :
  Lib.compact ((q1i ws (q5v c x)).mergeSort λa b=>decide (a≤b))=q7c ws c x ws.length:=by
 have hsort:=List.pairwise_mergeSort (le:=λa b:Int=>decide (a≤b)) (λa b c h1 h2=>decide_eq_true (by have:=of_decide_eq_true h1;have:=of_decide_eq_true h2;omega)) (λa b=>by
  rw [Bool.or_eq_true,decide_eq_true_eq,decide_eq_true_eq];omega) (q1i ws (q5v c x))
 have hperm:=List.mergeSort_perm (q1i ws (q5v c x)) (λa b:Int=>decide (a≤b))
 generalize (q1i ws (q5v c x)).mergeSort (λa b=>decide (a≤b))=zs at *
 have hget:∀ i (hi:i<zs.length),zs.toArray[i]! = zs[i]:=λi hi=>by rw [getElem!_pos _ i (by simpa using hi)];simp
 obtain ⟨h1,h2,h3⟩:=qky zs.toArray (λi j hij hj=>by
  have hj:j<zs.length:=by simpa using hj
  rw [hget i (by omega),hget j hj]
  rcases Nat.eq_or_lt_of_le hij with rfl | hlt
  ·exact Int.le_refl _
  ·exact of_decide_eq_true (List.pairwise_iff_getElem.1 hsort i j (by omega) hj hlt)) zs.length (by simp)
 refine qjv h1 (nearL_strict ..) λk=>?_
 rw [← mem_foundL h hc,← hperm.mem_iff];constructor
 ·intro hk
  obtain ⟨j,hj,rfl⟩:=h2 k hk;rw [hget j hj];exact List.getElem_mem hj
 ·intro hk
  obtain ⟨j,hj,rfl⟩:=List.getElem_of_mem hk;rw [← hget j hj];exact h3 j hj
end Snd
namespace Cod
abbrev Str:=List UInt8
abbrev Pt:=Int×Int
abbrev Giv:=Str×List Int×Bool×Int×Int
structure Ear where
 lang:Str
 ws:List Str
 c:List Snd.Conf
def onB (p:Pt):Bool:=decide (0≤min p.1 p.2)&&decide (max p.1 p.2≤32767)
def sq (p q:Pt):Int:=(q.1-p.1)*(q.1-p.1)+(q.2-p.2)*(q.2-p.2)
def q1l (p q:Pt):Int:=if onB p&&onB q then sq p q else 0
def ptOf (g:Giv):Pt:=g.2.2.2
def q1h (a b:Giv):Bool:=a.2.2.1&&(b.2.2.1&&decide (q1l (ptOf a) (ptOf b)≤1000000))
def q4d (g:Giv):Bool:=if g.2.2.1 then onB (ptOf g) else (g.2.2.2.1==0&&g.2.2.2.2==0)
def inB (n:Nat) (code:List Int):Bool:=code.all λi=>decide (0≤i)&&decide (i<(n:Int))
def q1m (lang:Str) (ws:List Str) (code:List Int):Bool:=Snd.q0h lang ws&&(decide (3≤(code.length:Int))&&(decide ((code.length:Int)≤5)&&inB ws.length code))
def Ear.near (e:Ear) (i:Int):List Int:=(Snd.q35 e.lang e.ws e.c (e.ws.getD i.toNat [])).1
def swapAt (code:List Int) (i:Nat):List Int:=(code.set i (code.getD (i-1) 0)).set (i-1) (code.getD i 0)
def Ear.q48 (e:Ear) (code:List Int) (i:Nat):List (List Int) :=
 ((e.near (code.getD i 0)).filter λk=>!(k==code.getD i 0)).map (code.set i)++(code.eraseIdx i::(if i=0∨code.getD (i-1) 0=code.getD i 0 then [] else [swapAt code i]))
def Ear.q0k (e:Ear) (code:List Int):Nat→Nat→List (List Int)
 | 0,_=>[]
 | f+1,i=>e.q48 code i++e.q0k code f (i+1)
def Ear.miss (e:Ear) (code:List Int):List (List Int):=e.q0k code code.length 0
theorem on_out {p:Pt} (h:onB p=true):(0≤p.1∧p.1≤32767)∧(0≤p.2∧p.2≤32767):=by
 unfold onB at h;rw [Bool.and_eq_true,decide_eq_true_eq,decide_eq_true_eq] at h;omega
theorem mul_bound {a b:Int} (h1:-32767≤a) (h2:a≤32767) (h3:-32767≤b) (h4:b≤32767):-1073676289≤a*b∧a*b≤1073676289:=by
 have ha:a.natAbs≤32767:=by omega
 have hb:b.natAbs≤32767:=by omega
 have h:=Nat.mul_le_mul ha hb;rw [← Int.natAbs_mul] at h;omega
abbrev Key:=Int×Int×Int×Int×Int×Int
def key (l:List Int):Key:=(l.length,l.getD 0 0,l.getD 1 0,l.getD 2 0,l.getD 3 0,l.getD 4 0)
theorem key_inj {a b:List Int} (ha:a.length≤5) (hb:b.length≤5) (h:key a=key b):a=b:=by
 unfold key at h;simp only [Prod.mk.injEq] at h;obtain ⟨h0,h1,h2,h3,h4,h5⟩:=h;have h0:a.length=b.length:=by omega
 apply List.ext_getElem h0
 intro i hi hj;have hg:a.getD i 0=b.getD i 0:=by
  match i with
  | 0=>exact h1
  | 1=>exact h2
  | 2=>exact h3
  | 3=>exact h4
  | 4=>exact h5
  | n+5=>omega
 rwa [List.getD_eq_getElem?_getD,List.getD_eq_getElem?_getD,List.getElem?_eq_getElem hi,List.getElem?_eq_getElem hj] at hg
def Ear.apart (e:Ear) (o g:Giv):Bool :=
 !(o.2.1==g.2.1)&&(!((e.miss o.2.1).contains g.2.1)&&((e.miss g.2.1).all λx=>!(o.2.1==x)&&!((e.miss o.2.1).contains x&&q1h o g)))
def Ear.takes (e:Ear) (done:List Giv) (g:Giv):Bool:=done.all λo=>e.apart o g
def okG (e:Ear) (g:Giv):Bool:=Lx.q2o g.1&&(q4d g&&q1m e.lang e.ws g.2.1)
def Ear.fits (e:Ear) (done:List Giv) (g:Giv):Bool:=Lx.q2o g.1&&(!(done.any λo=>o.1==g.1)&&(q4d g&&(q1m e.lang e.ws g.2.1&&e.takes done g)))
def Ear.shelf (e:Ear):List Giv→List Giv→Bool
 | _,[]=>true
 | done,g::r=>e.fits done g&&e.shelf (done++[g]) r
def Ear.ok (e:Ear):Bool:=Snd.q0h e.lang e.ws&&Snd.q0l e.c
def Ear.proper (e:Ear) (book:List Giv):Bool:=e.ok&&(decide ((book.length:Int)≤20000)&&e.shelf [] book)
end Cod
namespace Hea
abbrev Str:=List UInt8
def cutW:Str→List Str
 | []=>[[]]
 | c::r=>if c==32 then []::cutW r else match cutW r with
  | w::ws=>(c::w)::ws
  | []=>[[c]]
def q4a (w:Str):Bool:=!w.isEmpty&&(decide (w.length≤12)&&w.all λc=>decide (97≤c.toNat)&&decide (c.toNat≤122))
def q7b (text:Str):Option (List Str):=if (cutW text).all q4a&&decide ((cutW text).length≤5) then some (cutW text) else none
def ownW (ws:List Str) (code:List Int):List Str:=code.map λi=>ws.getD i.toNat []
def diff:List Str→List Str→List (Str×Str)
 | x::a,y::b=>if x==y then diff a b else (x,y)::diff a b
 | _,_=>[]
def q3k (alike:Str→Str→Bool) (own words:List Str):Bool :=
 own.length==words.length&&((diff own words).all (λp=>alike p.1 p.2)&&(diff own words).length==1)
def q3w (own words:List Str):Bool:=(List.range own.length).any λi=>own.eraseIdx i==words
def q13 (own:List Str) (i:Nat):List Str:=(own.set i (own.getD (i+1) [])).set (i+1) (own.getD i [])
def q3x (own words:List Str):Bool:=(List.range (own.length-1)).any λi=>q13 own i==words&&own.getD i [] != own.getD (i+1) []
def q6m (alike:Str→Str→Bool) (own words:List Str):Bool:=q3k alike own words||(q3w own words||q3x own words)
def q0i (alike:Str→Str→Bool) (ws:List Str) (words:List Str):List Cod.Giv→List Str→Str×Bool×Int
 | [],doors=>match doors with
  | []=>([],false,10)
  | [d]=>(d,true,0)
  | _=>([],false,8)
 | g::r,doors=>if ownW ws g.2.1==words then (g.1,false,0)
  else q0i alike ws words r (if q6m alike (ownW ws g.2.1) words then doors++[g.1] else doors)
def q05 (e:Cod.Ear) (x y:Str):Bool:=Snd.q29 e.c x y
def q2e (e:Cod.Ear) (book:List Cod.Giv) (text:Str):Str×Bool×Int :=
 if !e.proper book then ([],false,1) else match q7b text with
  | none=>([],false,5)
  | some words=>q0i (q05 e) e.ws words book []
def q02 (p:Cod.Pt) (g:Cod.Giv):Bool:=g.2.2.1&&decide (Cod.q1l (Cod.ptOf g) p≤250000)
def q21 (e:Cod.Ear) (book:List Cod.Giv) (p:Cod.Pt) (text:Str):Str×Bool×Int :=
 if !(e.proper book&&Cod.onB p) then ([],false,1) else match q7b text with
  | none=>([],false,5)
  | some words=>q0i (q05 e) e.ws words (book.filter (q02 p)) []
end Hea
namespace Snd
theorem q1d {α:Type} (l:List α) (d:α) (k:Nat) (h:k<l.length):l.take (k+1)=l.take k++[l.getD k d]:=by
 rw [List.take_succ_eq_append_getElem h,List.getD_eq_getElem?_getD,List.getElem?_eq_getElem h];rfl
theorem q1b {α:Type} (l:List α) (d:α) (k:Nat) (h:k<l.length):l.getD k d∈l:=by
 rw [List.getD_eq_getElem?_getD,List.getElem?_eq_getElem h];exact List.getElem_mem h
theorem q47 {α:Type} (l:List α) (d:α) (p:α→Bool) (k:Nat) (h:k<l.length):(l.take (k+1)).all p=((l.take k).all p&&p (l.getD k d)):=by
 rw [q1d l d k h,List.all_append,List.all_cons,List.all_nil,Bool.and_true]
theorem any_step {α:Type} (l:List α) (d:α) (p:α→Bool) (k:Nat) (h:k<l.length):(l.take (k+1)).any p=((l.take k).any p||p (l.getD k d)):=by
 rw [q1d l d k h,List.any_append,List.any_cons,List.any_nil,Bool.or_false]
theorem q82 {α:Type} (l:List α) (p:α→Bool) (k:Nat) (h:l.length≤k):(l.take k).all p=l.all p:=by rw [List.take_of_length_le h]
theorem q91 {α:Type} (l:List α) (d:α) (p:α→Bool) (k:Nat) (h:k<l.length) (hp:p (l.getD k d)=false):l.all p=false:=by
 rw [← Bool.not_eq_true,List.all_eq_true];intro ha;have:=ha _ (q1b l d k h);rw [hp] at this;cases this
theorem any_yes {α:Type} (l:List α) (d:α) (p:α→Bool) (k:Nat) (h:k<l.length) (hp:p (l.getD k d)=true):l.any p=true :=
 List.any_eq_true.2 ⟨_,q1b l d k h,hp⟩
theorem q75:∀ (ws:List Str) (k:Nat),k<ws.length→rising (ws.take (k+1))=(rising (ws.take k)&&(k==0||Op.bytesLess (ws.getD (k-1) []) (ws.getD k [])))
 | [],k,h=>by cases h
 | [a],k,h=>by
  obtain rfl:k=0:=by simpa using h
  rfl
 | a::b::r,0,h=>rfl
 | a::b::r,1,h=>by
  show (Op.bytesLess a b&&true)=(true&&(false||Op.bytesLess a b));simp
 | a::b::r,k+2,h=>by
  have ih:=q75 (b::r) (k+1) (by simpa using h)
  have e1:(a::b::r).take (k+2+1)=a::b::r.take (k+1):=rfl;have e2:(a::b::r).take (k+2)=a::b::r.take k:=rfl;have e3:(b::r).take (k+1+1)=b::r.take (k+1):=rfl;have e4:(b::r).take (k+1)=b::r.take k:=rfl;rw [e3,e4] at ih;rw [e1,e2,rising,rising,ih];have e5:(a::b::r).getD (k+2-1) []=(b::r).getD (k+1-1) []:=rfl;have e6:(a::b::r).getD (k+2) []=(b::r).getD (k+1) []:=rfl;rw [e5,e6,Bool.and_assoc];rfl
theorem rising_take:∀ (ws:List Str) (k:Nat),rising ws=true→rising (ws.take k)=true:=by
 intro ws k h;rcases Nat.lt_or_ge k ws.length with hk | hk
 ·have key:∀ n,k+n≤ws.length→rising (ws.take (k+n))=true→rising (ws.take k)=true:=by
   intro n
   induction n with
   | zero=>intro _ h;exact h
   | succ n ih =>
    intro hn h;rw [← Nat.add_assoc,q75 ws (k+n) (by omega),Bool.and_eq_true] at h
    exact ih (by omega) h.1
  refine key (ws.length-k) (by omega) ?_
  rw [List.take_of_length_le (by omega)]
  exact h
 ·rw [List.take_of_length_le hk];exact h
theorem rising_no (ws:List Str) (k:Nat) (hk:k<ws.length) (h0:0<k) (h:Op.bytesLess (ws.getD (k-1) []) (ws.getD k [])=false):rising ws=false:=by
 rw [← Bool.not_eq_true];intro hr;have:=rising_take ws (k+1) hr;rw [q75 ws k hk,h,Bool.and_eq_true] at this;have h1:(k==0)=false:=by rw [beq_eq_false_iff_ne];omega
 rw [h1] at this;cases this.2
theorem qjx (l:List Conf) (d:Conf) (k:Nat) (h:k<l.length):fresh (l.take (k+1))=(fresh (l.take k)&&!((l.take k).any (same (l.getD k d)))):=by
 rw [q1d l d k h,fresh_snoc]
theorem fresh_no (l:List Conf) (d:Conf) (k:Nat) (h:k<l.length) (ha:(l.take k).any (same (l.getD k d))=true):fresh l=false:=by
 rw [← Bool.not_eq_true];intro hf;have:=fresh_take l hf (k+1);rw [qjx l d k h,ha] at this;simp at this
end Snd
namespace Cod
theorem mem_missFrom (e:Ear) (code x:List Int):∀ (f i:Nat),x∈e.q0k code f i↔∃ k,i≤k∧k<i+f∧x∈e.q48 code k:=by
 intro f
 induction f with
 | zero =>
  intro i;constructor
  ·intro h;cases h
  ·rintro ⟨k,h1,h2,_⟩;omega
 | succ f ih =>
  intro i;rw [Ear.q0k,List.mem_append,ih];constructor
  ·rintro (h | ⟨k,h1,h2,h3⟩)
   ·exact ⟨i,by omega,by omega,h⟩
   ·exact ⟨k,by omega,by omega,h3⟩
  ·rintro ⟨k,h1,h2,h3⟩
   by_cases h:k=i
   ·subst h;exact .inl h3
   ·exact .inr ⟨k,by omega,by omega,h3⟩
theorem q51 (e:Ear) (code x:List Int):x∈e.miss code↔∃ k,k<code.length∧x∈e.q48 code k:=by
 unfold Ear.miss;rw [mem_missFrom];constructor
 ·rintro ⟨k,_,h,h'⟩;exact ⟨k,by omega,h'⟩
 ·rintro ⟨k,h,h'⟩;exact ⟨k,Nat.zero_le _,by omega,h'⟩
theorem q3l (e:Ear) (code x:List Int) (i:Nat):x∈e.q48 code i↔(∃ k∈e.near (code.getD i 0),k≠code.getD i 0∧x=code.set i k)∨x=code.eraseIdx i∨(¬ (i=0∨code.getD (i-1) 0=code.getD i 0)∧x=swapAt code i):=by
 unfold Ear.q48;rw [List.mem_append,List.mem_cons,List.mem_map];refine or_congr ?_ (or_congr Iff.rfl ?_)
 ·constructor
  ·rintro ⟨k,hk,rfl⟩
   rw [List.mem_filter] at hk;refine ⟨k,hk.1,?_,rfl⟩;intro h;rw [h,beq_self_eq_true] at hk;exact absurd hk.2 (by decide)
  ·rintro ⟨k,hk,hne,rfl⟩
   refine ⟨k,List.mem_filter.2 ⟨hk,?_⟩,rfl⟩;rw [beq_eq_false_iff_ne.2 hne];rfl
 ·split
  ·rename_i h
   constructor
   ·intro h';cases h'
   ·exact λh'=>absurd h h'.1
  ·rename_i h
   rw [List.mem_singleton];exact ⟨λh'=>⟨h,h'⟩,λh'=>h'.2⟩
theorem swap_len (code:List Int) (i:Nat):(swapAt code i).length=code.length:=by unfold swapAt;rw [List.length_set,List.length_set]
theorem qen {e:Ear} {code x:List Int} {i:Nat} (hi:i<code.length) (h:x∈e.q48 code i):x.length=code.length∨x.length+1=code.length:=by
 rcases (q3l e code x i).1 h with ⟨k,_,_,rfl⟩ | rfl | ⟨_,rfl⟩
 ·exact .inl (List.length_set ..)
 ·right;rw [List.length_eraseIdx_of_lt hi];omega
 ·exact .inl (swap_len _ _)
theorem qj7 {e:Ear} {code x:List Int} (h:x∈e.miss code):x.length=code.length∨x.length+1=code.length:=by
 obtain ⟨k,hk,h⟩:=(q51 e code x).1 h;exact qen hk h
theorem sq_symm (p q:Pt):sq p q=sq q p:=by
 unfold sq;have h1:q.1-p.1=-(p.1-q.1):=by omega
 have h2:q.2-p.2=-(p.2-q.2):=by omega
 rw [h1,h2,Int.neg_mul_neg,Int.neg_mul_neg]
theorem dist_symm (p q:Pt):q1l p q=q1l q p:=by
 unfold q1l;rw [sq_symm,Bool.and_comm]
theorem near_symm (a b:Giv):q1h a b=q1h b a:=by
 unfold q1h;rw [dist_symm];cases a.2.2.1 <;> cases b.2.2.1 <;> rfl
theorem q4q {e:Ear} {o g:Giv}:e.apart o g=true↔o.2.1≠g.2.1∧g.2.1 ∉ e.miss o.2.1∧∀ x∈e.miss g.2.1,o.2.1≠x∧¬ (x∈e.miss o.2.1∧q1h o g=true):=by
 unfold Ear.apart;simp only [Bool.and_eq_true,Bool.not_eq_true',beq_eq_false_iff_ne,List.all_eq_true,Bool.and_eq_false_iff,List.contains_eq_mem,decide_eq_false_iff_not,ne_eq];refine and_congr Iff.rfl (and_congr Iff.rfl (forall_congr' λx=>imp_congr Iff.rfl (and_congr Iff.rfl ?_)))
 constructor
 ·rintro (h | h) ⟨h1,h2⟩
  ·exact h h1
  ·rw [h] at h2;exact absurd h2 (by decide)
 ·intro h
  by_cases hm:x∈e.miss o.2.1
  ·right
   cases hn:q1h o g
   ·rfl
   ·exact absurd ⟨hm,hn⟩ h
  ·exact .inl hm
theorem apart_swap {e:Ear} {o g:Giv} (h:e.apart o g=true):e.apart g o=true:=by
 rw [q4q] at h ⊢;obtain ⟨h1,h2,h3⟩:=h;refine ⟨λhe=>h1 he.symm,λhm=>(h3 _ hm).1 rfl,λx hx=>⟨?_,?_⟩⟩
 ·rintro rfl;exact h2 hx
 ·rintro ⟨hx',hn⟩
  rw [near_symm] at hn;exact (h3 x hx').2 ⟨hx,hn⟩
def Ear.two (e:Ear) (o g:Giv):Prop:=o.1≠g.1∧e.apart o g=true
theorem two_swap {e:Ear} {o g:Giv} (h:e.two o g):e.two g o:=⟨λhe=>h.1 he.symm,apart_swap h.2⟩
theorem fits_iff {e:Ear} {done:List Giv} {g:Giv}:e.fits done g=true↔okG e g=true∧∀ o∈done,e.two o g:=by
 unfold Ear.fits okG Ear.takes Ear.two;simp only [Bool.and_eq_true,Bool.not_eq_true',List.all_eq_true,List.any_eq_false,beq_iff_eq];constructor
 ·rintro ⟨h1,h2,h3,h4,h5⟩
  exact ⟨⟨h1,h3,h4⟩,λo ho=>⟨h2 o ho,h5 o ho⟩⟩
 ·rintro ⟨⟨h1,h3,h4⟩,h⟩
  exact ⟨h1,λo ho=>(h o ho).1,h3,h4,λo ho=>(h o ho).2⟩
theorem qce {e:Ear}:∀ {book done:List Giv},e.shelf done book=true↔(∀ g∈book,okG e g=true)∧book.Pairwise e.two∧∀ o∈done,∀ g∈book,e.two o g
 | [],done=>by
  constructor
  ·intro _
   exact ⟨λg h=>(List.not_mem_nil h).elim,List.Pairwise.nil,λo _ g h=>(List.not_mem_nil h).elim⟩
  ·intro _;rfl
 | g::r,done=>by
  rw [Ear.shelf,Bool.and_eq_true,fits_iff,qce,List.pairwise_cons];constructor
  ·rintro ⟨⟨h1,h2⟩,h3,h4,h5⟩
   refine ⟨λx hx=>?_,⟨λx hx=>h5 g (List.mem_append_right _ (List.mem_singleton.2 rfl)) x hx,h4⟩,λo ho x hx=>?_⟩
   ·rcases List.mem_cons.1 hx with rfl | hx
    ·exact h1
    ·exact h3 x hx
   ·rcases List.mem_cons.1 hx with rfl | hx
    ·exact h2 o ho
    ·exact h5 o (List.mem_append_left _ ho) x hx
  ·rintro ⟨h1,⟨h2,h3⟩,h4⟩
   refine ⟨⟨h1 g (List.mem_cons_self ..),λo ho=>h4 o ho g (List.mem_cons_self ..)⟩,λx hx=>h1 x (List.mem_cons_of_mem _ hx),h3,λo ho x hx=>?_⟩
   rcases List.mem_append.1 ho with ho | ho
   ·exact h4 o ho x (List.mem_cons_of_mem _ hx)
   ·rw [List.mem_singleton.1 ho];exact h2 x hx
theorem shelf_snoc {e:Ear} {done:List Giv} {g:Giv}:∀ {l:List Giv},e.shelf done (l++[g])=(e.shelf done l&&e.fits (done++l) g):=by
 intro l
 induction l generalizing done with
 | nil =>
  rw [List.nil_append,List.append_nil,Ear.shelf,Ear.shelf,Ear.shelf];cases e.fits done g <;> rfl
 | cons x l ih =>
  rw [List.cons_append,Ear.shelf,Ear.shelf,ih,List.append_assoc,Bool.and_assoc];rfl
theorem q4w {e:Ear} {book:List Giv}:e.proper book=true↔e.ok=true∧book.length≤20000∧(∀ g∈book,okG e g=true)∧book.Pairwise e.two:=by
 unfold Ear.proper;rw [Bool.and_eq_true,Bool.and_eq_true,decide_eq_true_eq,qce];constructor
 ·rintro ⟨h1,h2,h3,h4,_⟩
  exact ⟨h1,by omega,h3,h4⟩
 ·rintro ⟨h1,h2,h3,h4⟩
  exact ⟨h1,by omega,h3,h4,λo h=>(List.not_mem_nil h).elim⟩
theorem proper_two {e:Ear} {book:List Giv} (h:e.proper book=true) (d:Giv) {i k:Nat} (hi:i<book.length) (hk:k<book.length) (hne:i≠k):e.two (book.getD i d) (book.getD k d):=by
 obtain ⟨_,_,_,h4⟩:=q4w.1 h;rw [List.pairwise_iff_getElem] at h4;have e1:book.getD i d=book[i]:=by rw [List.getD_eq_getElem?_getD,List.getElem?_eq_getElem hi];rfl
 have e2:book.getD k d=book[k]:=by rw [List.getD_eq_getElem?_getD,List.getElem?_eq_getElem hk];rfl
 rw [e1,e2];rcases Nat.lt_or_gt_of_ne hne with hlt | hlt
 ·exact h4 i k hi hk hlt
 ·exact two_swap (h4 k i hk hi hlt)
def bump (n:Int):List Int→List Int×Bool
 | []=>([],false)
 | d::r=>bif decide (d+1<n) then ((d+1)::r,true) else (0::(bump n r).1,(bump n r).2)
def nextL (n:Int) (l:List Int):List Int×Bool:=((bump n l.reverse).1.reverse,(bump n l.reverse).2)
def cmpL:List Int→List Int→Int
 | [],[]=>0
 | [],_::_=>-1
 | _::_,[]=>1
 | a::x,b::y=>if a<b then -1 else if b<a then 1 else cmpL x y
theorem qe2:∀ a:List Int,cmpL a a=0
 | []=>rfl
 | a::x=>by rw [cmpL,if_neg (Int.lt_irrefl a),if_neg (Int.lt_irrefl a),qe2 x]
theorem cmp_eq:∀ {a b:List Int},cmpL a b=0→a=b
 | [],[],_=>rfl
 | [],_::_,h=>by cases h
 | _::_,[],h=>by cases h
 | a::x,b::y,h=>by
  rw [cmpL] at h;split at h
  ·cases h
  ·split at h
   ·cases h
   ·have:a=b:=by omega
    rw [this,cmp_eq h]
theorem qa9:∀ (a b:List Int),cmpL a b=-1∨cmpL a b=0∨cmpL a b=1
 | [],[]=>.inr (.inl rfl)
 | [],_::_=>.inl rfl
 | _::_,[]=>.inr (.inr rfl)
 | a::x,b::y=>by
  rw [cmpL];split
  ·exact .inl rfl
  ·split
   ·exact .inr (.inr rfl)
   ·exact qa9 x y
theorem q5j:∀ (a b:List Int),cmpL b a=- cmpL a b
 | [],[]=>rfl
 | [],_::_=>rfl
 | _::_,[]=>rfl
 | a::x,b::y=>by
  rw [cmpL,cmpL];by_cases h1:a<b
  ·rw [if_pos h1,if_neg (by omega),if_pos h1];rfl
  ·rw [if_neg h1]
   by_cases h2:b<a
   ·rw [if_pos h2,if_pos h2,if_neg h1]
   ·rw [if_neg h2,if_neg h2,if_neg h1,q5j x y]
theorem q3n:∀ {a b c:List Int},cmpL a b<0→cmpL b c<0→cmpL a c<0
 | [],b,[],h1,h2=>by
  cases b
  ·exact absurd h1 (by decide)
  ·exact absurd h2 (by rw [cmpL];decide)
 | [],b,c::z,h1,h2=>by rw [cmpL];decide
 | a::x,[],c,h1,h2=>absurd h1 (by rw [cmpL];decide)
 | a::x,b::y,[],h1,h2=>absurd h2 (by rw [cmpL];decide)
 | a::x,b::y,c::z,h1,h2=>by
  rw [cmpL] at *
  by_cases ab:a<b
  ·by_cases bc:b<c
   ·rw [if_pos (by omega)];decide
   ·rw [if_neg bc] at h2
    by_cases cb:c<b
    ·rw [if_pos cb] at h2;omega
    ·rw [if_pos (by omega)];decide
  ·rw [if_neg ab] at h1
   by_cases ba:b<a
   ·rw [if_pos ba] at h1;omega
   ·rw [if_neg ba] at h1
    by_cases bc:b<c
    ·rw [if_pos (by omega)];decide
    ·rw [if_neg bc] at h2
     by_cases cb:c<b
     ·rw [if_pos cb] at h2;omega
     ·rw [if_neg cb] at h2
      rw [if_neg (by omega),if_neg (by omega)]
      exact q3n h1 h2
theorem less_ne {a b:List Int} (h:cmpL a b<0):a≠b:=λhe=>by rw [he,qe2] at h;omega
theorem lists_ext:∀ {l m:List (List Int)},l.Pairwise (λa b=>cmpL a b<0)→m.Pairwise (λa b=>cmpL a b<0)→(∀ x,x∈l↔x∈m)→l=m
 | [],[],_,_,_=>rfl
 | [],b::m,_,_,h=>by have:=(h b).2 (List.mem_cons_self ..);cases this
 | a::l,[],_,_,h=>by have:=(h a).1 (List.mem_cons_self ..);cases this
 | a::l,b::m,hl,hm,h=>by
  rw [List.pairwise_cons] at hl hm;have hab:a=b:=by
   rcases List.mem_cons.1 ((h a).1 (List.mem_cons_self ..)) with h1 | h1
   ·exact h1
   ·rcases List.mem_cons.1 ((h b).2 (List.mem_cons_self ..)) with h2 | h2
    ·exact h2.symm
    ·exact absurd rfl (less_ne (q3n (hl.1 b h2) (hm.1 a h1)))
  subst hab;rw [lists_ext hl.2 hm.2 λx=>?_]
  have hx:=h x;rw [List.mem_cons,List.mem_cons] at hx;constructor
  ·intro hxl
   rcases hx.1 (.inr hxl) with rfl | h'
   ·exact absurd rfl (less_ne (hl.1 x hxl))
   ·exact h'
  ·intro hxm
   rcases hx.2 (.inr hxm) with rfl | h'
   ·exact absurd rfl (less_ne (hm.1 x hxm))
   ·exact h'
def putL (x:List Int):List (List Int)→List (List Int)
 | []=>[x]
 | y::r=>if cmpL x y<0 then x::y::r else if cmpL x y=0 then y::r else y::putL x r
def q8e (l:List (List Int)):List (List Int):=l.foldr putL []
theorem qj8 {x z:List Int}:∀ {l:List (List Int)},z∈putL x l↔z=x∨z∈l
 | []=>by rw [putL];simp
 | y::r=>by
  rw [putL];split
  ·rw [List.mem_cons]
  ·split
   ·rename_i h
    have:=cmp_eq h
    subst this;rw [List.mem_cons];constructor
    ·exact .inr
    ·rintro (h | h)
     ·exact .inl h
     ·exact h
   ·rw [List.mem_cons,qj8,List.mem_cons]
    constructor
    ·rintro (h | h | h)
     ·exact .inr (.inl h)
     ·exact .inl h
     ·exact .inr (.inr h)
    ·rintro (h | h | h)
     ·exact .inr (.inl h)
     ·exact .inl h
     ·exact .inr (.inr h)
theorem putL_up {x:List Int}:∀ {l:List (List Int)},l.Pairwise (λa b=>cmpL a b<0)→(putL x l).Pairwise (λa b=>cmpL a b<0)
 | [],_=>by rw [putL];exact List.pairwise_singleton _ _
 | y::r,h=>by
  rw [putL];split
  ·rename_i hc
   rw [List.pairwise_cons];refine ⟨λz hz=>?_,h⟩
   rcases List.mem_cons.1 hz with rfl | hz
   ·exact hc
   ·exact q3n hc ((List.pairwise_cons.1 h).1 z hz)
  ·split
   ·exact h
   ·rename_i h1 h2
    rw [List.pairwise_cons] at h ⊢;refine ⟨λz hz=>?_,putL_up h.2⟩
    rcases qj8.1 hz with rfl | hz
    ·have:=q5j z y
     rcases qa9 z y with h | h | h <;> omega
    ·exact h.1 z hz
theorem qgf {x:List Int}:∀ {l:List (List Int)},x∈q8e l↔x∈l
 | []=>Iff.rfl
 | y::r=>by
  show x∈putL y (q8e r)↔_;rw [qj8,qgf,List.mem_cons]
theorem sortU_up:∀ (l:List (List Int)),(q8e l).Pairwise (λa b=>cmpL a b<0)
 | []=>List.Pairwise.nil
 | y::r=>putL_up (sortU_up r)
def Ear.q2g (e:Ear) (code:List Int):List (List Int)×Int:=if e.ok&&q1m e.lang e.ws code then (q8e (e.miss code),0) else ([],1)
def q2w (ws:List Str):List Int→Str
 | []=>[]
 | [i]=>ws.getD i.toNat []
 | i::r=>ws.getD i.toNat []++[32]++q2w ws r
def noG:Giv:=([],[],false,0,0)
end Cod
namespace Cod
theorem no_blank {lang:Str} {ws:List Str} (hv:Snd.q0h lang ws=true) {i:Nat} (hi:i<ws.length):(32:UInt8) ∉ ws.getD i []:=by
 unfold Snd.q0h at hv;simp only [Bool.and_eq_true,List.all_eq_true] at hv;have h:=hv.2.2.2.1 _ (Snd.q1b ws [] i hi);unfold Snd.q0j at h;rw [Bool.and_eq_true,List.all_eq_true] at h;intro hm;have:=h.1 _ hm;revert this
 decide
theorem word_inj {lang:Str} {ws:List Str} (hv:Snd.q0h lang ws=true) {i j:Nat} (hi:i<ws.length) (hj:j<ws.length) (h:ws.getD i []=ws.getD j []):i=j:=by
 unfold Snd.q0h at hv;simp only [Bool.and_eq_true] at hv;exact Snd.rising_inj hv.2.2.2.2 hi hj h
theorem qdn {n:Nat} {i:Int} {r:List Int} (h:inB n (i::r)=true):(0≤i∧i.toNat<n)∧inB n r=true:=by
 unfold inB at *
 rw [List.all_cons,Bool.and_eq_true,Bool.and_eq_true,decide_eq_true_eq,decide_eq_true_eq] at h;exact ⟨⟨h.1.1,by omega⟩,h.2⟩
theorem q90 (ws:List Str) (i k:Int) (r:List Int):q2w ws (i::k::r)=ws.getD i.toNat []++32::q2w ws (k::r):=by
 rw [q2w]
 ·simp
 ·intro h;cases h
theorem q5q {lang:Str} {ws:List Str} {x:List Int} (h:q1m lang ws x=true):Snd.q0h lang ws=true∧(3≤x.length∧x.length≤5)∧inB ws.length x=true:=by
 unfold q1m at h;simp only [Bool.and_eq_true,decide_eq_true_eq] at h;exact ⟨h.1,by omega,h.2.2.2⟩
end Cod
namespace Cod
theorem ok_out {e:Ear} (h:e.ok=true):Snd.q0h e.lang e.ws=true∧Snd.q0l e.c=true:=by
 unfold Ear.ok at h
 rwa [Bool.and_eq_true] at h
theorem qb4 {lang:Str} {ws:List Str} (hv:Snd.q0h lang ws=true) {i:Nat} (hi:i<ws.length):Snd.q6j (ws.getD i [])=true:=by
 unfold Snd.q0h at hv;simp only [Bool.and_eq_true,List.all_eq_true] at hv;have h:=hv.2.2.2.1 _ (Snd.q1b ws [] i hi);unfold Snd.q6j;unfold Snd.q0j at *
 simp only [Bool.and_eq_true,decide_eq_true_eq] at *
 exact ⟨h.1,by omega,by omega⟩
theorem near_val {e:Ear} (h:e.ok=true) {w:Int} (h0:0≤w) (h1:w<(e.ws.length:Int)):Snd.q35 e.lang e.ws e.c (e.ws.getD w.toNat [])=(Snd.q7c e.ws e.c (e.ws.getD w.toNat []) e.ws.length,0):=by
 obtain ⟨hv,hp⟩:=ok_out h;unfold Snd.q35;rw [hv,hp,qb4 hv (show w.toNat<e.ws.length by omega)];rfl
theorem qbp {e:Ear} (h:e.ok=true) {w k:Int} (h0:0≤w) (h1:w<(e.ws.length:Int)):k∈e.near w↔∃ j:Nat,k=j∧j<e.ws.length∧Snd.q3i e.c (e.ws.getD j []) (e.ws.getD w.toNat [])=true:=by
 unfold Ear.near;rw [near_val h h0 h1];exact Snd.mem_nearL
theorem near_in {e:Ear} (h:e.ok=true) {w k:Int} (h0:0≤w) (h1:w<(e.ws.length:Int)) (hk:k∈e.near w):0≤k∧k<(e.ws.length:Int):=by
 obtain ⟨j,rfl,hj,_⟩:=(qbp h h0 h1).1 hk;omega
theorem near_back {e:Ear} (h:e.ok=true) {w k:Int} (h0:0≤w) (h1:w<(e.ws.length:Int)) (hk:k∈e.near w):w∈e.near k:=by
 obtain ⟨k0,k1⟩:=near_in h h0 h1 hk;obtain ⟨j,rfl,hj,hs⟩:=(qbp h h0 h1).1 hk;refine (qbp h k0 k1).2 ⟨w.toNat,by omega,by omega,?_⟩
 rw [Int.toNat_natCast,Snd.qcw];exact hs
theorem q6q {n:Nat} {x:List Int} (h:inB n x=true) {i:Nat} (hi:i<x.length):0≤x.getD i 0∧x.getD i 0<(n:Int):=by
 unfold inB at h;rw [List.all_eq_true] at h;have:=h _ (Snd.q1b x 0 i hi);rw [Bool.and_eq_true,decide_eq_true_eq,decide_eq_true_eq] at this;exact this
theorem in_set {n:Nat} {x:List Int} (h:inB n x=true) {i:Nat} {k:Int} (h0:0≤k) (h1:k<(n:Int)):inB n (x.set i k)=true:=by
 unfold inB at *
 rw [List.all_eq_true] at *
 intro y hy;rcases List.mem_or_eq_of_mem_set hy with h' | rfl
 ·exact h y h'
 ·rw [Bool.and_eq_true,decide_eq_true_eq,decide_eq_true_eq];exact ⟨h0,h1⟩
theorem qas {x:List Int} {i:Nat} {k:Int} (hi:i<x.length):(x.set i k).getD i 0=k:=by
 rw [List.getD_eq_getElem?_getD,List.getElem?_set_self hi];rfl
theorem ql4 {x:List Int} {i j:Nat} {k:Int} (h:i≠j):(x.set i k).getD j 0=x.getD j 0:=by
 rw [List.getD_eq_getElem?_getD,List.getElem?_set_ne h,← List.getD_eq_getElem?_getD]
theorem swap_get {x:List Int} {i:Nat} (hi:i<x.length) (h0:i≠0):(swapAt x i).getD i 0=x.getD (i-1) 0∧(swapAt x i).getD (i-1) 0=x.getD i 0:=by
 unfold swapAt;refine ⟨?_,?_⟩
 ·rw [ql4 (by omega),qas hi]
 ·rw [qas (by rw [List.length_set];omega)]
theorem miss_ne {e:Ear} {x z:List Int} (hz:z∈e.miss x):z≠x:=by
 obtain ⟨i,hi,hz⟩:=(q51 e x z).1 hz;rcases (q3l e x z i).1 hz with ⟨k,_,hk,rfl⟩ | rfl | ⟨hn,rfl⟩
 ·intro h
  have:=qas (x:=x) (k:=k) hi
  rw [h] at this;exact hk this.symm
 ·intro h
  have:=congrArg List.length h
  rw [List.length_eraseIdx_of_lt hi] at this;omega
 ·intro h
  have h0:i≠0:=λh=>hn (.inl h)
  have:=(swap_get hi h0).1
  rw [h] at this;exact hn (.inr this.symm)
theorem qgv {x:List Int} {k:Nat} (hk:k+1<x.length):swapAt x (k+1)=(x.set k (x.getD (k+1) 0)).set (k+1) (x.getD k 0):=by
 unfold swapAt;rw [Nat.add_sub_cancel,List.set_comm _ _ (show k+1≠k by omega)]
theorem mem_swap {e:Ear} {x:List Int} {k:Nat} (hk:k+1<x.length) (hne:x.getD k 0≠x.getD (k+1) 0):(x.set k (x.getD (k+1) 0)).set (k+1) (x.getD k 0)∈e.miss x:=by
 rw [← qgv hk];exact (q51 e x _).2 ⟨k+1,hk,(q3l e x _ _).2 (.inr (.inr ⟨λh=>h.elim (by omega) λh=>hne h,rfl⟩))⟩
theorem erase_miss {e:Ear} {x:List Int} {k:Nat} (hk:k<x.length):x.eraseIdx k∈e.miss x :=
 (q51 e x _).2 ⟨k,hk,(q3l e x _ _).2 (.inr (.inl rfl))⟩
theorem heard_miss {e:Ear} {x:List Int} {k:Nat} {v:Int} (hk:k<x.length) (hv:v∈e.near (x.getD k 0)) (hne:v≠x.getD k 0):x.set k v∈e.miss x :=
 (q51 e x _).2 ⟨k,hk,(q3l e x _ _).2 (.inl ⟨v,hv,hne,rfl⟩)⟩
end Cod
namespace Hea
def endB:List Str→Str×Bool×Int
 | []=>([],false,10)
 | [d]=>(d,true,0)
 | _=>([],false,8)
def qac (ws:List Str) (words:List Str) (g:Cod.Giv):Bool:=ownW ws g.2.1==words
def wrong (al:Str→Str→Bool) (ws:List Str) (words:List Str) (g:Cod.Giv):Bool:=q6m al (ownW ws g.2.1) words
def qdt (al:Str→Str→Bool) (ws:List Str) (words:List Str) (book:List Cod.Giv):List Str:=(book.filter (wrong al ws words)).map λg=>g.1
theorem qcp (al:Str→Str→Bool) (ws words:List Str):∀ (book:List Cod.Giv) (doors:List Str),q0i al ws words book doors =
  match book.find? (qac ws words) with
  | some g=>(g.1,false,0)
  | none=>endB (doors++qdt al ws words book)
 | [],doors=>by
  unfold q0i qdt;rw [List.filter_nil,List.map_nil,List.append_nil]
  match doors with
  | []=>rfl
  | [d]=>rfl
  | a::b::r=>rfl
 | g::r,doors=>by
  unfold q0i;rw [List.find?_cons];unfold qac;cases he:(ownW ws g.2.1==words)
  ·rw [if_neg (by simp)]
   rw [qcp al ws words r];unfold qac qdt wrong;rw [List.filter_cons];cases hm:q6m al (ownW ws g.2.1) words
   ·simp
   ·simp
  ·rw [if_pos rfl]
theorem qbb {lang:Str} {ws:List Str} (hv:Snd.q0h lang ws=true):∀ {x y:List Int},Cod.inB ws.length x=true→Cod.inB ws.length y=true→ownW ws x=ownW ws y→x=y
 | [],[],_,_,_=>rfl
 | [],k::s,_,_,h=>by cases h
 | i::r,[],_,_,h=>by cases h
 | i::r,k::s,hx,hy,h=>by
  obtain ⟨⟨hi0,hi1⟩,hr⟩:=Cod.qdn hx;obtain ⟨⟨hk0,hk1⟩,hs⟩:=Cod.qdn hy;have h:ws.getD i.toNat []::ownW ws r=ws.getD k.toNat []::ownW ws s:=h;injection h with h1 h2;have:=Cod.word_inj hv hi1 hk1 h1;rw [qbb hv hr hs h2,show i=k by omega]
theorem qau {e:Cod.Ear} {book:List Cod.Giv} (h:e.proper book=true) (p:Cod.Giv→Bool):e.proper (book.filter p)=true:=by
 obtain ⟨hok,hl,hg,hp⟩:=Cod.q4w.1 h;refine Cod.q4w.2 ⟨hok,Nat.le_trans (List.length_filter_le _ _) hl,λg hgm=>hg g (List.mem_filter.1 hgm).1,hp.sublist List.filter_sublist⟩
end Hea
end Go.Proofs.YtfecgebhoondjaaGreatDoor

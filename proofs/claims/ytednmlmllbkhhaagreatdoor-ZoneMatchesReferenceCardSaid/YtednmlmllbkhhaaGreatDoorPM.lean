/-
  The plane: segments parted by straight lines, the winding of a ring, how each point off a simple ring is linked to one of its banks; polygons apart and within each other (for layers 8 and 25).
-/
import Derived.Test.YtednmlmllbkhhaaGreatDoorPA
set_option linter.unusedVariables false
set_option linter.unusedSectionVars false
namespace Go.Proofs.YtednmlmllbkhhaaGreatDoor
namespace Geo
abbrev Pt:=Rat×Rat
def turn (a b p:Pt):Rat:=(b.1-a.1)*(p.2-a.2)-(b.2-a.2)*(p.1-a.1)
def dot (n p:Pt):Rat:=n.1*p.1+n.2*p.2
def Sep (a b p q:Pt):Prop:=∃ n:Pt,dot n a<dot n p∧dot n a<dot n q∧dot n b<dot n p∧dot n b<dot n q
def cr (a b p:Pt):Int:=if a.2≤p.2∧p.2<b.2∧0<turn a b p then 1 else if b.2≤p.2∧p.2<a.2∧turn a b p<0 then -1 else 0
theorem q09 (a b:Rat):a<b∨b≤a:=by
 by_cases h:a<b
 ·exact .inl h
 ·exact .inr (by grind)
theorem mul_neg_neg {a b:Rat} (h:a*b<0) (hb:0≤b):a<0:=by
 rcases q09 a 0 with h' | h'
 ·exact h'
 ·have:=Rat.mul_nonneg h' hb;grind
theorem neg_mul {a b:Rat} (ha:a<0) (hb:0<b):a*b<0:=by
 have:=Rat.mul_pos (show 0 < -a by grind) hb;grind
theorem key {a b p n:Pt} (h1:a.2≤p.2) (h2:p.2<b.2) (ha:dot n a<dot n p) (hb:dot n b<dot n p):n.1*turn a b p<0:=by
 have e:n.1*turn a b p=(dot n a-dot n p)*(b.2-p.2)+(dot n b-dot n p)*(p.2-a.2):=by unfold turn dot;grind
 have m1:(dot n a-dot n p)*(b.2-p.2)<0:=neg_mul (by grind) (by grind)
 have m2:(dot n b-dot n p)*(p.2-a.2)≤0:=by
  have:=Rat.mul_nonneg (show 0≤-(dot n b-dot n p) by grind) (show 0≤p.2-a.2 by grind);grind
 grind
theorem turn_swap (a b p:Pt):turn b a p=- turn a b p:=by unfold turn;grind
def ab (v p:Pt):Int:=if p.2<v.2 then 1 else 0
theorem cr_left {a b p n:Pt} (hn:n.1<0) (ha:dot n a<dot n p) (hb:dot n b<dot n p):cr a b p=ab b p-ab a p:=by
 unfold cr ab;by_cases h1:p.2<a.2 <;> by_cases h2:p.2<b.2
 ·rw [if_neg (by grind),if_neg (by grind),if_pos h1,if_pos h2];rfl
 ·have:=key (a:=b) (b:=a) (p:=p) (n:=n) (by grind) h1 hb ha
  rw [turn_swap] at this;have ht:turn a b p<0:=by
   rcases q09 (turn a b p) 0 with h | h
   ·exact h
   ·have:=Rat.mul_nonneg (show 0≤-n.1 by grind) h;grind
  rw [if_neg (by grind),if_pos ⟨by grind,h1,ht⟩,if_pos h1,if_neg h2];rfl
 ·have:=key (a:=a) (b:=b) (p:=p) (n:=n) (by grind) h2 ha hb
  have ht:0<turn a b p:=by
   rcases q09 0 (turn a b p) with h | h
   ·exact h
   ·have:=Rat.mul_nonneg (show 0≤-n.1 by grind) (show 0≤-(turn a b p) by grind);grind
  rw [if_pos ⟨by grind,h2,ht⟩,if_neg h1,if_pos h2];rfl
 ·rw [if_neg (by grind),if_neg (by grind),if_neg h1,if_neg h2];rfl
theorem qjh {a b p n:Pt} (hn:0≤n.1) (ha:dot n a<dot n p) (hb:dot n b<dot n p):cr a b p=0:=by
 unfold cr;rw [if_neg,if_neg]
 ·rintro ⟨h1,h2,h3⟩
  have:=key (a:=b) (b:=a) (p:=p) (n:=n) h1 h2 hb ha
  rw [turn_swap] at this;have:=Rat.mul_nonneg hn (show 0≤-(turn a b p) by grind);grind
 ·rintro ⟨h1,h2,h3⟩
  have:=key (a:=a) (b:=b) (p:=p) (n:=n) h1 h2 ha hb
  have:=Rat.mul_nonneg hn (show 0≤(turn a b p) by grind);grind
def inn (p q v:Pt):Int:=if p.2<v.2∧v.2≤q.2∧turn p q v<0 then 1 else 0
theorem key2 {p q v n:Pt} (h1:p.2<v.2) (h2:v.2≤q.2) (ha:dot n v<dot n p) (hb:dot n v<dot n q):0<n.1*turn p q v:=by
 have e:n.1*turn p q v=(dot n p-dot n v)*(q.2-v.2)+(dot n q-dot n v)*(v.2-p.2):=by unfold turn dot;grind
 have m1:0≤(dot n p-dot n v)*(q.2-v.2):=Rat.mul_nonneg (by grind) (by grind)
 have m2:0<(dot n q-dot n v)*(v.2-p.2):=Rat.mul_pos (by grind) (by grind)
 grind
theorem inn_left {p q v n:Pt} (hpq:p.2≤q.2) (hn:n.1<0) (ha:dot n v<dot n p) (hb:dot n v<dot n q):inn p q v=ab v p-ab v q:=by
 unfold inn ab;by_cases h1:p.2<v.2
 ·by_cases h2:v.2≤q.2
  ·have:=key2 h1 h2 ha hb
   have ht:turn p q v<0:=by
    rcases q09 (turn p q v) 0 with h | h
    ·exact h
    ·have:=Rat.mul_nonneg (show 0≤-n.1 by grind) h;grind
   rw [if_pos ⟨h1,h2,ht⟩,if_pos h1,if_neg (by grind)];rfl
  ·rw [if_neg (by grind),if_pos h1,if_pos (by grind)];rfl
 ·rw [if_neg (by grind),if_neg h1,if_neg (by grind)];rfl
theorem inn_right {p q v n:Pt} (hn:0≤n.1) (ha:dot n v<dot n p) (hb:dot n v<dot n q):inn p q v=0:=by
 unfold inn;rw [if_neg];rintro ⟨h1,h2,h3⟩;have:=key2 h1 h2 ha hb;have:=Rat.mul_nonneg hn (show 0≤-(turn p q v) by grind);grind
theorem strip {a b p q:Pt} (hpq:p.2≤q.2) (h:Sep a b p q):cr a b p-cr a b q=inn p q b-inn p q a:=by
 obtain ⟨n,h1,h2,h3,h4⟩:=h;rcases q09 n.1 0 with hn | hn
 ·rw [cr_left hn h1 h3,cr_left hn h2 h4,inn_left hpq hn h1 h2,inn_left hpq hn h3 h4];omega
 ·rw [qjh hn h1 h3,qjh hn h2 h4,inn_right hn h1 h2,inn_right hn h3 h4]
theorem Sep.comm {a b p q:Pt} (h:Sep a b p q):Sep a b q p:=by
 obtain ⟨n,h1,h2,h3,h4⟩:=h;exact ⟨n,h2,h1,h4,h3⟩
theorem Sep.flip {a b p q:Pt} (h:Sep a b p q):Sep b a p q:=by
 obtain ⟨n,h1,h2,h3,h4⟩:=h;exact ⟨n,h3,h4,h1,h2⟩
theorem Sep.turn {a b p q:Pt} (h:Sep a b p q):Sep p q a b:=by
 obtain ⟨n,h1,h2,h3,h4⟩:=h;refine ⟨(-n.1,-n.2),?_,?_,?_,?_⟩ <;> unfold dot at*<;> grind
def sumN:Nat→(Nat→Int)→Int
 | 0,_=>0
 | n+1,f=>sumN n f+f n
theorem q8h {f g:Nat→Int}:∀ {n:Nat},(∀ i,i<n→f i=g i)→sumN n f=sumN n g
 | 0,_=>rfl
 | n+1,h=>by
  show sumN n f+f n=sumN n g+g n;rw [q8h λi hi=>h i (by omega),h n (by omega)]
theorem sumN_sub (f g:Nat→Int):∀ n,sumN n f-sumN n g=sumN n λi=>f i-g i
 | 0=>rfl
 | n+1=>by
  have:=sumN_sub f g n
  show sumN n f+f n-(sumN n g+g n)=sumN n (λi=>f i-g i)+(f n-g n)
  omega
theorem sumN_tele (f:Nat→Int):∀ n,(sumN n λi=>f (i+1)-f i)=f n-f 0
 | 0=>by show (0:Int)=_;omega
 | n+1=>by
  have:=sumN_tele f n
  show (sumN n λi=>f (i+1)-f i)+(f (n+1)-f n)=_
  omega
def wind (n:Nat) (v:Nat→Pt) (p:Pt):Int:=sumN n λi=>cr (v i) (v (i+1)) p
def Free (n:Nat) (v:Nat→Pt) (p q:Pt):Prop:=∀ i,i<n→Sep (v i) (v (i+1)) p q
theorem Free.comm {n:Nat} {v:Nat→Pt} {p q:Pt} (h:Free n v p q):Free n v q p:=λi hi=>(h i hi).comm
theorem wind_free {n:Nat} {v:Nat→Pt} (hv:v n=v 0) {p q:Pt} (h:Free n v p q):wind n v p=wind n v q:=by
 have main:∀ {p q:Pt},p.2≤q.2→Free n v p q→wind n v p=wind n v q:=by
  intro p q hpq h;have e:wind n v p-wind n v q=0:=by
   unfold wind;rw [sumN_sub,q8h (g:=λi=>inn p q (v (i+1))-inn p q (v i)) (λi hi=>strip hpq (h i hi)),sumN_tele (λi=>inn p q (v i)),hv]
   omega
  omega
 rcases q09 q.2 p.2 with hl | hl
 ·exact (main (by grind) h.comm).symm
 ·exact main hl h
inductive Linked (n:Nat) (v:Nat→Pt):Pt→Pt→Prop where
 | refl (p:Pt):Linked n v p p
 | step {p q r:Pt} (h:Free n v p q) (t:Linked n v q r):Linked n v p r
theorem Linked.trans {n:Nat} {v:Nat→Pt} {p q r:Pt} (h:Linked n v p q) (h':Linked n v q r):Linked n v p r:=by
 induction h with
 | refl=>exact h'
 | step f _ ih=>exact .step f (ih h')
theorem Linked.of {n:Nat} {v:Nat→Pt} {p q:Pt} (h:Free n v p q):Linked n v p q:=.step h (.refl q)
theorem Linked.comm {n:Nat} {v:Nat→Pt} {p q:Pt} (h:Linked n v p q):Linked n v q p:=by
 induction h with
 | refl=>exact .refl _
 | step f _ ih=>exact ih.trans (.of f.comm)
theorem Linked.wind {n:Nat} {v:Nat→Pt} (hv:v n=v 0) {p q:Pt} (h:Linked n v p q):wind n v p=wind n v q:=by
 induction h with
 | refl=>rfl
 | step f _ ih=>exact (wind_free hv f).trans ih
def Ev (P:Rat→Prop):Prop:=∃ e0:Rat,0<e0∧∀ e,0<e→e<e0→P e
theorem Ev.and {P Q:Rat→Prop} (h:Ev P) (h':Ev Q):Ev λe=>P e∧Q e:=by
 obtain ⟨a,ha,h⟩:=h;obtain ⟨b,hb,h'⟩:=h';rcases q09 a b with hl | hl
 ·exact ⟨a,ha,λe h0 h1=>⟨h e h0 h1,h' e h0 (by grind)⟩⟩
 ·exact ⟨b,hb,λe h0 h1=>⟨h e h0 (by grind),h' e h0 h1⟩⟩
theorem Ev.mono {P Q:Rat→Prop} (h:Ev P) (hpq:∀ e,0<e→P e→Q e):Ev Q:=by
 obtain ⟨a,ha,h⟩:=h;exact ⟨a,ha,λe h0 h1=>hpq e h0 (h e h0 h1)⟩
theorem Ev.of {P:Rat→Prop} (h:∀ e,0<e→P e):Ev P:=⟨1,by decide,λe h0 _=>h e h0⟩
theorem Ev.get {P:Rat→Prop} (h:Ev P):∃ e,0<e∧P e:=by
 obtain ⟨a,ha,h⟩:=h;exact ⟨a / 2,by grind,h (a / 2) (by grind) (by grind)⟩
theorem Ev.all {P:Nat→Rat→Prop}:∀ {n:Nat},(∀ i,i<n→Ev (P i))→Ev λe=>∀ i,i<n→P i e
 | 0,_=>.of λ_ _ i hi=>absurd hi (Nat.not_lt_zero i)
 | n+1,h=>((Ev.all (P:=P) (n:=n) λi hi=>h i (by omega)).and (h n (by omega))).mono λe _ ⟨h1,h2⟩ i hi=>by
  rcases Nat.lt_or_eq_of_le (Nat.le_of_lt_succ hi) with h | rfl
  ·exact h1 i h
  ·exact h2
theorem qdv {x:Rat} (y:Rat) (hx:0<x):Ev λe=>0<x+e*y:=by
 rcases q09 y 0 with hy | hy
 ·refine ⟨x / (-y),?_,λe h0 h1=>?_⟩
  ·rw [Rat.div_def];exact Rat.mul_pos hx (Rat.inv_pos.2 (by grind))
  ·have:=Rat.mul_lt_mul_of_pos_right h1 (show 0 < -y by grind)
   have e2:x / (-y)*(-y)=x:=Rat.div_mul_cancel (by grind)
   grind
 ·exact .of λe h0=>by have:=Rat.mul_nonneg (Rat.le_of_lt h0) hy;grind
def mv (p:Pt) (e:Rat) (w:Pt):Pt:=(p.1+e*w.1,p.2+e*w.2)
theorem dot_mv (n p w:Pt) (e:Rat):dot n (mv p e w)=dot n p+e*dot n w:=by unfold dot mv;grind
theorem Sep.pert {a b p q:Pt} (h:Sep a b p q) (u w:Pt):Ev λe=>Sep a b (mv p e u) (mv q e w):=by
 obtain ⟨n,h1,h2,h3,h4⟩:=h;have k1:=qdv (dot n u) (show 0<dot n p-dot n a by grind)
 have k2:=qdv (dot n w) (show 0<dot n q-dot n a by grind)
 have k3:=qdv (dot n u) (show 0<dot n p-dot n b by grind)
 have k4:=qdv (dot n w) (show 0<dot n q-dot n b by grind)
 refine ((k1.and k2).and (k3.and k4)).mono λe _ ⟨⟨g1,g2⟩,g3,g4⟩=>⟨n,?_,?_,?_,?_⟩ <;> rw [dot_mv] <;> grind
def at_ (p q:Pt) (t:Rat):Pt:=(p.1+t*(q.1-p.1),p.2+t*(q.2-p.2))
theorem dot_at (n p q:Pt) (t:Rat):dot n (at_ p q t)=(1-t)*dot n p+t*dot n q:=by unfold dot at_;grind
theorem q81 {x y z t:Rat} (h0:0≤t) (h1:t≤1) (hy:x<y) (hz:x<z):x<(1-t)*y+t*z:=by
 rcases q09 t (1/2) with h | h
 ·have a:=Rat.mul_pos (show 0<1-t by grind) (show 0<y-x by grind)
  have b:=Rat.mul_nonneg h0 (show 0≤z-x by grind)
  grind
 ·have a:=Rat.mul_nonneg (show 0≤1-t by grind) (show 0≤y-x by grind)
  have b:=Rat.mul_pos (show 0<t by grind) (show 0<z-x by grind)
  grind
theorem Sep.sub {a b p q:Pt} (h:Sep a b p q) {s t:Rat} (s0:0≤s) (s1:s≤1) (t0:0≤t) (t1:t≤1):Sep a b (at_ p q s) (at_ p q t):=by
 obtain ⟨n,h1,h2,h3,h4⟩:=h;refine ⟨n,?_,?_,?_,?_⟩ <;> rw [dot_at]
 ·exact q81 s0 s1 h1 h2
 ·exact q81 t0 t1 h1 h2
 ·exact q81 s0 s1 h3 h4
 ·exact q81 t0 t1 h3 h4
theorem q90 {a b p q:Pt} (hp:0<turn a b p) (hq:0<turn a b q):Sep a b p q:=by
 refine ⟨(a.2-b.2,b.1-a.1),?_,?_,?_,?_⟩ <;> unfold turn at*<;> unfold dot <;> grind
theorem sep_turn' {a b p q:Pt} (hp:turn a b p<0) (hq:turn a b q<0):Sep a b p q:=by
 refine ⟨(b.2-a.2,a.1-b.1),?_,?_,?_,?_⟩ <;> unfold turn at*<;> unfold dot <;> grind
theorem sep_line {a b c d p q:Pt} (hc:turn a b c≤0) (hd:turn a b d≤0) (hp:0<turn a b p) (hq:0<turn a b q):Sep c d p q:=by
 refine ⟨(a.2-b.2,b.1-a.1),?_,?_,?_,?_⟩ <;> unfold turn at*<;> unfold dot <;> grind
structure Ring (n:Nat) (v:Nat→Pt):Prop where
 three:3≤n
 per:∀ i,v (i+n)=v i
 q4g:∀ i,turn (v i) (v (i+1)) (v (i+2))≠0
 apart:∀ i k,i+2≤k→k+1<i+n→Sep (v i) (v (i+1)) (v k) (v (k+1))
def crs (a b w:Pt):Rat:=(b.1-a.1)*w.2-(b.2-a.2)*w.1
theorem q2g (a b w:Pt) (t e:Rat):turn a b (mv (at_ a b t) e w)=e*crs a b w:=by unfold turn mv at_ crs;grind
theorem turn_mv (a b p w:Pt) (e:Rat):turn a b (mv p e w)=turn a b p+e*crs a b w:=by unfold turn mv crs;grind
theorem q3i (a b c:Pt) (t:Rat):turn b c (at_ a b t)=(1-t)*turn a b c:=by unfold turn at_;grind
theorem qbq (a b c:Pt) (t:Rat):turn a b (at_ b c t)=t*turn a b c:=by unfold turn at_;grind
theorem at_one (a b:Pt):at_ a b 1=b:=by unfold at_;ext <;> grind
theorem q39 (a b:Pt):at_ a b 0=a:=by unfold at_;ext <;> grind
theorem q3e {a b p q:Pt} {s t x:Rat} (hs:0<s) (ht:0<t) (hx:x≠0) (hp:turn a b p=s*x) (hq:turn a b q=t*x):Sep a b p q:=by
 rcases q09 0 x with h | h
 ·have:=Rat.mul_pos hs h
  have:=Rat.mul_pos ht h
  exact q90 (by grind) (by grind)
 ·have:=Rat.mul_pos hs (show 0 < -x by grind)
  have:=Rat.mul_pos ht (show 0 < -x by grind)
  exact sep_turn' (by grind) (by grind)
section
variable {n:Nat} {v:Nat→Pt} (hv:Ring n v)
include hv
theorem Ring.from {P:Pt→Pt→Prop} (i:Nat) (h:∀ k,i≤k→k<i+n→P (v k) (v (k+1))):∀ j,P (v j) (v (j+1)):=by
 have h3:=hv.three;have up:∀ m k,v (k+m*n)=v k:=by
  intro m
  induction m with
  | zero=>intro k;rw [Nat.zero_mul,Nat.add_zero]
  | succ m ih=>intro k;rw [Nat.succ_mul,← Nat.add_assoc,hv.per,ih]
 intro j;have hm:=Nat.mod_lt (j+i*n-i) (show n>0 by omega)
 have hd:=Nat.div_add_mod (j+i*n-i) n;have hin:i≤i*n:=Nat.le_mul_of_pos_right i (by omega)
 have e:j+i*n=(i+(j+i*n-i) % n)+((j+i*n-i) / n)*n:=by rw [Nat.mul_comm n] at hd;omega
 have e1:v j=v (i+(j+i*n-i) % n):=(up i j).symm.trans ((congrArg v e).trans (up _ _));have e2:v (j+1)=v (i+(j+i*n-i) % n+1) :=
  (up i (j+1)).symm.trans ((congrArg v (show j+1+i*n=(i+(j+i*n-i) % n+1)+((j+i*n-i) / n)*n by omega)).trans (up _ _))
 rw [e1,e2];exact h _ (by omega) (by omega)
theorem Ring.apart' {i k:Nat} (h1:i+2≤k) (h2:k+1<i+n):Sep (v k) (v (k+1)) (v i) (v (i+1)):=(hv.apart i k h1 h2).turn
theorem Ring.rest {i k:Nat} (h1:i+2≤k) (h2:k<i+n) {s t:Rat} (s0:0<s) (s1:s≤1) (t0:0<t) (t1:t≤1):Sep (v k) (v (k+1)) (at_ (v i) (v (i+1)) s) (at_ (v i) (v (i+1)) t):=by
 by_cases hk:k+1<i+n
 ·exact (hv.apart' h1 hk).sub (Rat.le_of_lt s0) s1 (Rat.le_of_lt t0) t1
 ·obtain rfl:k=i+n-1:=by omega
  have hc:=hv.q4g (i+n-1);have e0:v (i+n-1+1)=v i:=by rw [show i+n-1+1=i+n by omega,hv.per]
  have e1:v (i+n-1+2)=v (i+1):=by rw [show i+n-1+2=i+1+n by omega,hv.per]
  rw [e0,e1] at hc;rw [e0];exact q3e s0 t0 hc (qbq ..) (qbq ..)
theorem Ring.rest' {i k:Nat} (h1:i<k) (h2:k+1<i+n) {s t:Rat} (s0:0≤s) (s1:s<1) (t0:0≤t) (t1:t<1):Sep (v k) (v (k+1)) (at_ (v i) (v (i+1)) s) (at_ (v i) (v (i+1)) t):=by
 by_cases hk:i+2≤k
 ·exact (hv.apart' hk h2).sub s0 (Rat.le_of_lt s1) t0 (Rat.le_of_lt t1)
 ·obtain rfl:k=i+1:=by omega
  exact q3e (show 0<1-s by grind) (show 0<1-t by grind) (hv.q4g i) (q3i ..) (q3i ..)
theorem Ring.q9a {p q:Rat→Pt} (i:Nat) (h:∀ k,i≤k→k<i+n→Ev λe=>Sep (v k) (v (k+1)) (p e) (q e)):Ev λe=>Free n v (p e) (q e):=by
 have:=Ev.all (n:=n) (P:=λj e=>Sep (v (i+j)) (v (i+j+1)) (p e) (q e)) λj hj=>h (i+j) (by omega) (by omega)
 refine this.mono λe _ h' j _=>?_
 exact hv.from (P:=λa b=>Sep a b (p e) (q e)) i (λk h1 h2=>by
  have:=h' (k-i) (by omega)
  rwa [show i+(k-i)=k by omega] at this) j
theorem Ring.slide (i:Nat) {s t:Rat} {u w:Pt} (s0:0<s) (s1:s<1) (t0:0<t) (t1:t<1) (hu:0<crs (v i) (v (i+1)) u) (hw:0<crs (v i) (v (i+1)) w) :
  Ev λe=>Free n v (mv (at_ (v i) (v (i+1)) s) e u) (mv (at_ (v i) (v (i+1)) t) e w):=by
 refine hv.q9a i λk h1 h2=>?_
 by_cases hk:k=i
 ·subst hk
  exact .of λe h0=>q90 (by rw [q2g];exact Rat.mul_pos h0 hu) (by rw [q2g];exact Rat.mul_pos h0 hw)
 by_cases hk2:k=i+1
 ·subst hk2
  exact (q3e (show 0<1-s by grind) (show 0<1-t by grind) (hv.q4g i) (q3i ..) (q3i ..)).pert u w
 ·exact (hv.rest (by omega) h2 s0 (Rat.le_of_lt s1) t0 (Rat.le_of_lt t1)).pert u w
theorem Ring.toCorner (i:Nat) {s:Rat} {u w:Pt} (s0:0<s) (s1:s<1) (hu:0<crs (v i) (v (i+1)) u) (hw:0<crs (v i) (v (i+1)) w) (hw':0<crs (v (i+1)) (v (i+2)) w) :
  Ev λe=>Free n v (mv (at_ (v i) (v (i+1)) s) e u) (mv (v (i+1)) e w):=by
 refine hv.q9a i λk h1 h2=>?_
 have e1:=at_one (v i) (v (i+1));have tw:∀ e,turn (v i) (v (i+1)) (mv (v (i+1)) e w)=e*crs (v i) (v (i+1)) w:=λe=>by have:=q2g (v i) (v (i+1)) w 1 e;rwa [e1] at this
 by_cases hk:k=i
 ·subst hk
  exact .of λe h0=>q90 (by rw [q2g];exact Rat.mul_pos h0 hu) (by rw [tw];exact Rat.mul_pos h0 hw)
 by_cases hk2:k=i+1
 ·subst hk2
  have tw':∀ e,turn (v (i+1)) (v (i+2)) (mv (v (i+1)) e w)=e*crs (v (i+1)) (v (i+2)) w:=λe=>by have:=q2g (v (i+1)) (v (i+2)) w 0 e;rwa [q39] at this
  rcases q09 0 (turn (v i) (v (i+1)) (v (i+2))) with hc | hc
  ·have hp:=qdv (crs (v (i+1)) (v (i+2)) u) (Rat.mul_pos (show 0<1-s by grind) hc)
   refine hp.mono λe h0 h=>q90 ?_ ?_
   ·rw [turn_mv,q3i];exact h
   ·rw [tw'];exact Rat.mul_pos h0 hw'
  ·refine .of λe h0=>sep_line (a:=v i) (b:=v (i+1)) ?_ hc ?_ ?_
   ·have:=q3i (v i) (v (i+1)) (v i) 1
    unfold turn;grind
   ·rw [q2g];exact Rat.mul_pos h0 hu
   ·rw [tw];exact Rat.mul_pos h0 hw
 ·have:=(hv.rest (i:=i) (k:=k) (by omega) h2 s0 (Rat.le_of_lt s1) (show (0:Rat)<1 by decide) (Rat.le_refl)).pert u w
  rwa [e1] at this
theorem Ring.fromCorner (i:Nat) {s:Rat} {u w:Pt} (s0:0<s) (s1:s<1) (hu:0<crs (v (i+1)) (v (i+2)) u) (hw:0<crs (v i) (v (i+1)) w) (hw':0<crs (v (i+1)) (v (i+2)) w) :
  Ev λe=>Free n v (mv (v (i+1)) e w) (mv (at_ (v (i+1)) (v (i+2)) s) e u):=by
 have h3:=hv.three;refine hv.q9a (i+1) λk h1 h2=>?_
 have tw:∀ e,turn (v i) (v (i+1)) (mv (v (i+1)) e w)=e*crs (v i) (v (i+1)) w:=λe=>by have:=q2g (v i) (v (i+1)) w 1 e;rwa [at_one] at this
 have tw':∀ e,turn (v (i+1)) (v (i+2)) (mv (v (i+1)) e w)=e*crs (v (i+1)) (v (i+2)) w:=λe=>by have:=q2g (v (i+1)) (v (i+2)) w 0 e;rwa [q39] at this
 by_cases hk:k=i+1
 ·subst hk
  exact .of λe h0=>q90 (by rw [tw'];exact Rat.mul_pos h0 hw') (by rw [q2g];exact Rat.mul_pos h0 hu)
 by_cases hk2:k=i+n
 ·subst hk2
  have e2:v (i+n+1)=v (i+1):=by rw [show i+n+1=i+1+n by omega,hv.per]
  rw [e2,hv.per];rcases q09 0 (turn (v i) (v (i+1)) (v (i+2))) with hc | hc
  ·have hp:=qdv (crs (v i) (v (i+1)) u) (Rat.mul_pos s0 hc)
   refine hp.mono λe h0 h=>q90 ?_ ?_
   ·rw [tw];exact Rat.mul_pos h0 hw
   ·rw [turn_mv,qbq];exact h
  ·refine .of λe h0=>sep_line (a:=v (i+1)) (b:=v (i+2)) ?_ ?_ ?_ ?_
   ·have:turn (v (i+1)) (v (i+2)) (v i)=turn (v i) (v (i+1)) (v (i+2)):=by unfold turn;grind
    grind
   ·unfold turn;grind
   ·rw [tw'];exact Rat.mul_pos h0 hw'
   ·rw [q2g];exact Rat.mul_pos h0 hu
 ·have:=(hv.rest' (i:=i+1) (k:=k) (by omega) (by omega) (show (0:Rat)≤0 by exact Rat.le_refl) (show (0:Rat)<1 by decide) (Rat.le_of_lt s0) s1).pert w u
  rwa [q39] at this
end
theorem Linked.ofEv {n:Nat} {v:Nat→Pt} {p q:Rat→Pt} (h:Ev λe=>Free n v (p e) (q e)):Ev λe=>Linked n v (p e) (q e):=h.mono λ_ _ h=>.of h
theorem Ev.comp {n:Nat} {v:Nat→Pt} {p q r:Rat→Pt} (h:Ev λe=>Linked n v (p e) (q e)) (h':Ev λe=>Linked n v (q e) (r e)):Ev λe=>Linked n v (p e) (r e):=(h.and h').mono λ_ _ ⟨a,b⟩=>a.trans b
def half:Rat:=1 / 2
theorem half0:0<half:=by unfold half;grind
theorem half1:half<1:=by unfold half;grind
def nrm (a b:Pt):Pt:=(a.2-b.2,b.1-a.1)
theorem crs_nrm {a b:Pt} (h:a≠b):0<crs a b (nrm a b):=by
 have e:crs a b (nrm a b)=(b.1-a.1)*(b.1-a.1)+(b.2-a.2)*(b.2-a.2):=by unfold crs nrm;grind
 have sq:∀ x:Rat,0≤x*x:=λx=>by
  rcases q09 x 0 with h | h
  ·have:=Rat.mul_nonneg (show 0≤-x by grind) (show 0≤-x by grind);grind
  ·exact Rat.mul_nonneg h h
 have sq0:∀ x:Rat,x≠0→0<x*x:=λx hx=>by
  rcases q09 x 0 with h | h
  ·have:=Rat.mul_pos (show 0 < -x by grind) (show 0 < -x by grind);grind
  ·exact Rat.mul_pos (by grind) (by grind)
 rw [e];have g1:=sq (b.1-a.1);have g2:=sq (b.2-a.2);by_cases h1:b.1-a.1=0
 ·by_cases h2:b.2-a.2=0
  ·exact absurd (Prod.ext (by grind) (by grind)) h
  ·have:=sq0 _ h2;grind
 ·have:=sq0 _ h1;grind
section
variable {n:Nat} {v:Nat→Pt} (hv:Ring n v)
include hv
theorem Ring.ne (i:Nat):v i≠v (i+1):=λh=>hv.q4g i (by rw [← h];unfold turn;grind)
theorem Ring.left (i:Nat):0<crs (v i) (v (i+1)) (nrm (v i) (v (i+1))):=crs_nrm (hv.ne i)
theorem Ring.next (i:Nat) {s t:Rat} {u w:Pt} (s0:0<s) (s1:s<1) (t0:0<t) (t1:t<1) (hu:0<crs (v i) (v (i+1)) u) (hw:0<crs (v (i+1)) (v (i+2)) w) :
  Ev λe=>Linked n v (mv (at_ (v i) (v (i+1)) s) e u) (mv (at_ (v (i+1)) (v (i+2)) t) e w):=by
 have:∃ c,0<crs (v i) (v (i+1)) c∧0<crs (v (i+1)) (v (i+2)) c:=by
  have hc:=hv.q4g i;have e:turn (v i) (v (i+1)) (v (i+2))=((v (i+1)).1-(v i).1)*((v (i+2)).2-(v (i+1)).2)-((v (i+1)).2-(v i).2)*((v (i+2)).1-(v (i+1)).1):=by unfold turn;grind
  rw [e] at hc;rcases q09 0 (((v (i+1)).1-(v i).1)*((v (i+2)).2-(v (i+1)).2)-((v (i+1)).2-(v i).2)*((v (i+2)).1-(v (i+1)).1)) with h | h
  ·exact ⟨((v (i+2)).1-(v (i+1)).1-((v (i+1)).1-(v i).1),(v (i+2)).2-(v (i+1)).2-((v (i+1)).2-(v i).2)),by unfold crs;grind,by unfold crs;grind⟩
  ·exact ⟨(((v (i+1)).1-(v i).1)-((v (i+2)).1-(v (i+1)).1),((v (i+1)).2-(v i).2)-((v (i+2)).2-(v (i+1)).2)),by unfold crs;grind,by unfold crs;grind⟩
 obtain ⟨c,c1,c2⟩:=this;exact (Linked.ofEv (hv.toCorner i s0 s1 hu c1 c2)).comp (Linked.ofEv (hv.fromCorner i t0 t1 hw c1 c2))
end
theorem Ring.bank {n:Nat} {v:Nat→Pt} (hv:Ring n v) (i:Nat) {s:Rat} {u:Pt} (s0:0<s) (s1:s<1) (hu:0<crs (v i) (v (i+1)) u):∀ (k:Nat) {t:Rat} {w:Pt},0<t→t<1→0<crs (v (i+k)) (v (i+k+1)) w →
  Ev λe=>Linked n v (mv (at_ (v i) (v (i+1)) s) e u) (mv (at_ (v (i+k)) (v (i+k+1)) t) e w)
 | 0,t,w,t0,t1,hw=>Linked.ofEv (hv.slide i s0 s1 t0 t1 hu hw)
 | k+1,t,w,t0,t1,hw=>(hv.bank i s0 s1 hu k half0 half1 (hv.left (i+k))).comp (hv.next (i+k) half0 half1 t0 t1 (hv.left (i+k)) hw)
def mir (p:Pt):Pt:=(-p.1,p.2)
theorem q79 (p:Pt):mir (mir p)=p:=by unfold mir;ext <;> grind
theorem q7d (n p:Pt):dot (mir n) (mir p)=dot n p:=by unfold dot mir;grind
theorem turn_mir (a b p:Pt):turn (mir a) (mir b) (mir p)=- turn a b p:=by unfold turn mir;grind
theorem qhd (a b w:Pt):crs (mir a) (mir b) (mir w)=- crs a b w:=by unfold crs mir;grind
theorem at_mir (a b:Pt) (t:Rat):at_ (mir a) (mir b) t=mir (at_ a b t):=by unfold at_ mir;ext <;> grind
theorem mv_mir (p w:Pt) (e:Rat):mv (mir p) e (mir w)=mir (mv p e w):=by unfold mv mir;ext <;> grind
theorem Sep.mir {a b p q:Pt} (h:Sep a b p q):Sep (mir a) (mir b) (mir p) (mir q):=by
 obtain ⟨n,h1,h2,h3,h4⟩:=h;exact ⟨Geo.mir n,by rw [q7d,q7d];exact h1,by rw [q7d,q7d];exact h2,by rw [q7d,q7d];exact h3,by rw [q7d,q7d];exact h4⟩
theorem Ring.mir {n:Nat} {v:Nat→Pt} (hv:Ring n v):Ring n (λi=>mir (v i)) where
 three:=hv.three
 per i:=by rw [hv.per]
 q4g i:=by have:=hv.q4g i;rw [turn_mir];grind
 apart i k h1 h2:=(hv.apart i k h1 h2).mir
theorem Free.unmir {n:Nat} {v:Nat→Pt} {p q:Pt} (h:Free n (λi=>mir (v i)) (mir p) (mir q)):Free n v p q:=λi hi=>by
 have:=(h i hi).mir
 rwa [q79,q79,q79,q79] at this
theorem Linked.unmir' {n:Nat} {v:Nat→Pt} {p q:Pt} (h:Linked n (λi=>mir (v i)) p q):Linked n v (mir p) (mir q):=by
 induction h with
 | refl=>exact .refl _
 | step f _ ih=>exact .step (Free.unmir (by rw [q79,q79];exact f)) ih
theorem Linked.unmir {n:Nat} {v:Nat→Pt} {p q:Pt} (h:Linked n (λi=>mir (v i)) (mir p) (mir q)):Linked n v p q:=by
 have:=h.unmir';rwa [q79,q79] at this
theorem Ring.bank' {n:Nat} {v:Nat→Pt} (hv:Ring n v) (i k:Nat) {s t:Rat} {u w:Pt} (s0:0<s) (s1:s<1) (hu:crs (v i) (v (i+1)) u<0) (t0:0<t) (t1:t<1) (hw:crs (v (i+k)) (v (i+k+1)) w<0) :
  Ev λe=>Linked n v (mv (at_ (v i) (v (i+1)) s) e u) (mv (at_ (v (i+k)) (v (i+k+1)) t) e w):=by
 have:=hv.mir.bank i (u:=Geo.mir u) s0 s1 (by rw [qhd];grind) k (w:=Geo.mir w) t0 t1 (by rw [qhd];grind)
 refine this.mono λe _ h=>?_
 rw [at_mir,at_mir,mv_mir,mv_mir] at h;exact h.unmir
theorem sumN_one {f g:Nat→Int}:∀ {n i:Nat},i<n→(∀ j,j<n→j≠i→f j=g j)→sumN n f-sumN n g=f i-g i
 | 0,i,hi,_=>absurd hi (Nat.not_lt_zero i)
 | n+1,i,hi,h=>by
  show sumN n f+f n-(sumN n g+g n)=_;by_cases hin:i=n
  ·subst hin
   have:=q8h (n:=i) (f:=f) (g:=g) λj hj=>h j (by omega) (by omega)
   omega
  ·have:=sumN_one (f:=f) (g:=g) (n:=n) (i:=i) (by omega) λj hj hne=>h j (by omega) hne
   have:=h n (by omega) (by omega)
   omega
theorem inn_level {p q v:Pt} (h:p.2=q.2):inn p q v=0:=by
 unfold inn;rw [if_neg];rintro ⟨h1,h2,_⟩;grind
theorem Ring.others {n:Nat} {v:Nat→Pt} (hv:Ring n v) {i:Nat} (hi:i<n) {P:Pt→Pt→Prop} (h:∀ k,i<k→k<i+n→P (v k) (v (k+1))):∀ j,j<n→j≠i→P (v j) (v (j+1)):=λj hj hne=>by
 rcases Nat.lt_or_gt_of_ne hne with hl | hl
 ·have:=h (j+n) (by omega) (by omega)
  rw [show j+n+1=j+1+n by omega,hv.per,hv.per] at this
  exact this
 ·exact h j hl (by omega)
theorem Ring.near {n:Nat} {v:Nat→Pt} (hv:Ring n v) {i k:Nat} (h1:i<k) (h2:k<i+n) {s:Rat} (s0:0<s) (s1:s<1):Sep (v k) (v (k+1)) (at_ (v i) (v (i+1)) s) (at_ (v i) (v (i+1)) s):=by
 by_cases hk2:k=i+1
 ·subst hk2
  exact q3e (show 0<1-s by grind) (show 0<1-s by grind) (hv.q4g i) (q3i ..) (q3i ..)
 ·exact hv.rest (by omega) h2 s0 (Rat.le_of_lt s1) s0 (Rat.le_of_lt s1)
theorem Ring.jump {n:Nat} {v:Nat→Pt} (hv:Ring n v) {i:Nat} (hi:i<n) {s:Rat} (s0:0<s) (s1:s<1) {x:Rat} (hx:0<crs (v i) (v (i+1)) (x,0)) :
  Ev λe=>wind n v (mv (at_ (v i) (v (i+1)) s) e (x,0))-wind n v (mv (at_ (v i) (v (i+1)) s) e (-x,0))=1:=by
 have hs:=Ev.all (n:=n) (P:=λj e=>j≠i→Sep (v j) (v (j+1)) (mv (at_ (v i) (v (i+1)) s) e (x,0)) (mv (at_ (v i) (v (i+1)) s) e (-x,0))) λj hj=>by
  by_cases hne:j=i
  ·exact .of λe _ h=>absurd hne h
  ·have:=hv.others hi (P:=λa b=>Sep a b (at_ (v i) (v (i+1)) s) (at_ (v i) (v (i+1)) s)) (λk h1 h2=>hv.near h1 h2 s0 s1) j hj hne
   exact (this.pert (x,0) (-x,0)).mono λe _ h _=>h
 refine hs.mono λe h0 h=>?_
 have hy:(mv (at_ (v i) (v (i+1)) s) e (x,0)).2=(mv (at_ (v i) (v (i+1)) s) e (-x,0)).2:=by unfold mv;grind
 unfold wind;rw [sumN_one (i:=i) hi]
 ·have t1:=q2g (v i) (v (i+1)) (x,0) s e
  have t2:=q2g (v i) (v (i+1)) (-x,0) s e;have c2:crs (v i) (v (i+1)) (-x,0)=- crs (v i) (v (i+1)) (x,0):=by unfold crs;grind
  have p1:=Rat.mul_pos h0 hx;have y1:(mv (at_ (v i) (v (i+1)) s) e (x,0)).2=(v i).2+s*((v (i+1)).2-(v i).2):=by unfold mv at_;grind
  have y2:=hy.symm.trans y1;unfold cr;rw [y1,y2,t1,t2,c2];rcases q09 0 ((v (i+1)).2-(v i).2) with hl | hl
  ·have m1:=Rat.mul_pos s0 hl
   have m2:=Rat.mul_pos (show 0<1-s by grind) hl
   rw [if_pos ⟨by grind,by grind,p1⟩,if_neg (by grind),if_neg (by grind)];rfl
  ·have hne:(v (i+1)).2-(v i).2≠0:=λh=>by unfold crs at hx;grind
   have m1:=Rat.mul_pos s0 (show 0 < -((v (i+1)).2-(v i).2) by grind)
   have m2:=Rat.mul_pos (show 0<1-s by grind) (show 0 < -((v (i+1)).2-(v i).2) by grind)
   rw [if_neg (by grind),if_neg (by grind),if_neg (by grind),if_pos ⟨by grind,by grind,by grind⟩];rfl
 ·intro j hj hne
  have:=strip (show (mv (at_ (v i) (v (i+1)) s) e (x,0)).2≤(mv (at_ (v i) (v (i+1)) s) e (-x,0)).2 by rw [hy];exact Rat.le_refl) (h j hj hne)
  rw [inn_level hy,inn_level hy] at this;omega
def xAt (a b:Pt) (y:Rat):Rat:=a.1+(y-a.2) / (b.2-a.2)*(b.1-a.1)
def Lev (a b:Pt) (y:Rat):Prop:=(a.2<y∧y<b.2)∨(b.2<y∧y<a.2)
theorem Lev.ne {a b:Pt} {y:Rat} (h:Lev a b y):b.2-a.2≠0:=by unfold Lev at h;grind
theorem q40 {x y:Rat} (h:y≠0):x / y*y=x:=Rat.div_mul_cancel h
theorem turn_x {a b p:Pt} (h:b.2-a.2≠0):turn a b p=(b.2-a.2)*(xAt a b p.2-p.1):=by
 have:=q40 (x:=p.2-a.2) h
 unfold turn xAt;grind
theorem Lev.at {a b:Pt} {y:Rat} (h:Lev a b y):∃ t,0<t∧t<1∧at_ a b t=(xAt a b y,y):=by
 have hd:=h.ne;have e:=q40 (x:=y-a.2) hd;refine ⟨(y-a.2) / (b.2-a.2),?_,?_,?_⟩
 ·rcases h with h | h
  ·rw [Rat.div_def];exact Rat.mul_pos (by grind) (Rat.inv_pos.2 (by grind))
  ·have:(y-a.2) / (b.2-a.2)=(a.2-y) / (a.2-b.2):=by
    have e2:=q40 (x:=a.2-y) (y:=a.2-b.2) (by grind)
    have:((y-a.2) / (b.2-a.2)-(a.2-y) / (a.2-b.2))*(b.2-a.2)=0:=by grind
    rcases Rat.mul_eq_zero.1 this with h | h <;> grind
   rw [this,Rat.div_def];exact Rat.mul_pos (by grind) (Rat.inv_pos.2 (by grind))
 ·rcases q09 ((y-a.2) / (b.2-a.2)) 1 with hl | hl
  ·exact hl
  ·rcases h with h | h
   ·have:=Rat.mul_nonneg (show 0≤(y-a.2) / (b.2-a.2)-1 by grind) (show 0≤b.2-a.2 by grind);grind
   ·have:=Rat.mul_nonneg (show 0≤(y-a.2) / (b.2-a.2)-1 by grind) (show 0≤a.2-b.2 by grind);grind
 ·unfold at_ xAt
  ext
  ·rfl
  ·show a.2+(y-a.2) / (b.2-a.2)*(b.2-a.2)=y
   grind
theorem qf5 {a b p:Pt} (h:Sep a b p p) {t:Rat} (h0:0≤t) (h1:t≤1):p≠at_ a b t:=λe=>by
 obtain ⟨n,g1,_,g2,_⟩:=h;have hd:=dot_at n a b t;rw [← e] at hd;have a1:=Rat.mul_nonneg h0 (show 0≤dot n p-dot n b by grind)
 have a2:=Rat.mul_nonneg (show 0≤1-t by grind) (show 0≤dot n p-dot n a by grind)
 rcases q09 t half with h | h
 ·have:=Rat.mul_pos (show 0<1-t by unfold half at h;grind) (show 0<dot n p-dot n a by grind);grind
 ·have:=Rat.mul_pos (show 0<t by unfold half at h;grind) (show 0<dot n p-dot n b by grind);grind
theorem least {P:Nat→Prop} {X:Nat→Rat}:∀ {n:Nat},(∃ j,j<n∧P j)→∃ i,i<n∧P i∧∀ j,j<n→P j→X i≤X j
 | 0,⟨j,hj,_⟩=>absurd hj (Nat.not_lt_zero j)
 | n+1,⟨j,hj,hp⟩=>by
  by_cases hn:∃ j,j<n∧P j
  ·obtain ⟨i,hi,pi,hm⟩:=least (X:=X) hn
   by_cases hpn:P n∧X n<X i
   ·refine ⟨n,by omega,hpn.1,λk hk pk=>?_⟩
    by_cases hkn:k=n
    ·subst hkn;exact Rat.le_refl
    ·have:=hm k (by omega) pk;grind
   ·refine ⟨i,by omega,pi,λk hk pk=>?_⟩
    by_cases hkn:k=n
    ·subst hkn
     rcases q09 (X k) (X i) with h | h
     ·exact absurd ⟨pk,h⟩ hpn
     ·exact h
    ·exact hm k (by omega) pk
  ·obtain rfl:j=n:=by
    by_cases h:j=n
    ·exact h
    ·exact absurd ⟨j,by omega,hp⟩ hn
   refine ⟨j,by omega,hp,λk hk pk=>?_⟩
   by_cases hkn:k=j
   ·subst hkn;exact Rat.le_refl
   ·exact absurd ⟨k,by omega,pk⟩ hn
structure Gen (n:Nat) (v:Nat→Pt) (q:Pt):Prop where
 lev:∀ i,(v i).2≠q.2
 off:∀ i,Sep (v i) (v (i+1)) q q
theorem sep_level {a b p q:Pt} (ha:a.2≠q.2) (hb:b.2≠q.2) (h:¬ Lev a b q.2) (hpq:p.2=q.2):Sep a b p q:=by
 unfold Lev at h;rcases q09 a.2 q.2 with h1 | h1
 ·refine ⟨(0,1),?_,?_,?_,?_⟩ <;> unfold dot <;> grind
 ·refine ⟨(0,-1),?_,?_,?_,?_⟩ <;> unfold dot <;> grind
theorem Gen.x {n:Nat} {v:Nat→Pt} {q:Pt} (h:Gen n v q) {i:Nat} (hl:Lev (v i) (v (i+1)) q.2):xAt (v i) (v (i+1)) q.2≠q.1:=λe=>by
 obtain ⟨t,t0,t1,ht⟩:=hl.at;exact qf5 (h.off i) (Rat.le_of_lt t0) (Rat.le_of_lt t1) (by rw [ht,e])
section
variable {n:Nat} {v:Nat→Pt} (hv:Ring n v)
include hv
theorem Ring.hit {q:Pt} (hq:Gen n v q) (hex:∃ j,j<n∧Lev (v j) (v (j+1)) q.2∧q.1<xAt (v j) (v (j+1)) q.2) :
  ∃ i t,i<n∧0<t∧t<1∧Lev (v i) (v (i+1)) q.2∧Ev λe=>Free n v q (mv (at_ (v i) (v (i+1)) t) e (-1,0)):=by
 obtain ⟨i,hi,⟨hl,hx⟩,hmin⟩:=least (X:=λj=>xAt (v j) (v (j+1)) q.2) hex
 obtain ⟨t,t0,t1,ht⟩:=hl.at;have hd:=hl.ne;refine ⟨i,t,hi,t0,t1,hl,?_⟩;have q0:∀ e,mv q e (0,0)=q:=λe=>by unfold mv;ext <;> grind
 refine hv.q9a (p:=λ_=>q) i λk h1 h2=>?_
 by_cases hk:k=i
 ·subst hk
  refine .of λe h0=>?_
  have c:crs (v k) (v (k+1)) (-1,0)=(v (k+1)).2-(v k).2:=by unfold crs;grind
  refine q3e (s:=xAt (v k) (v (k+1)) q.2-q.1) (t:=e) (by grind) h0 hd ?_ ?_
  ·rw [turn_x hd];grind
  ·rw [q2g,c]
 ·have hn:=hv.near (i:=i) (k:=k) (by omega) h2 t0 t1
  rw [ht] at hn ⊢;have main:Sep (v k) (v (k+1)) q (xAt (v i) (v (i+1)) q.2,q.2):=by
   by_cases hlk:Lev (v k) (v (k+1)) q.2
   ·have hdk:=hlk.ne
    obtain ⟨s,s0,s1,hs⟩:=hlk.at;have hne:xAt (v k) (v (k+1)) q.2≠xAt (v i) (v (i+1)) q.2:=λe=>qf5 hn (Rat.le_of_lt s0) (Rat.le_of_lt s1) (by rw [hs,e])
    have tq:=turn_x (p:=q) hdk;have th:=turn_x (p:=(xAt (v i) (v (i+1)) q.2,q.2)) hdk;dsimp only at th;rcases q09 q.1 (xAt (v k) (v (k+1)) q.2) with hg | hg
    ·have hle:xAt (v i) (v (i+1)) q.2≤xAt (v k) (v (k+1)) q.2:=by
      by_cases hkn:k<n
      ·exact hmin k hkn ⟨hlk,hg⟩
      ·have e1:v (k-n)=v k:=by have:=hv.per (k-n);rw [show k-n+n=k by omega] at this;exact this.symm
       have e2:v (k-n+1)=v (k+1):=by have:=hv.per (k-n+1);rw [show k-n+1+n=k+1 by omega] at this;exact this.symm
       have:=hmin (k-n) (by omega) (by rw [e1,e2];exact ⟨hlk,hg⟩)
       rwa [e1,e2] at this
     exact q3e (s:=xAt (v k) (v (k+1)) q.2-q.1) (t:=xAt (v k) (v (k+1)) q.2-xAt (v i) (v (i+1)) q.2) (by grind) (by grind) hdk (by rw [tq];grind) (by rw [th];grind)
    ·have:=hq.x hlk
     exact q3e (s:=q.1-xAt (v k) (v (k+1)) q.2) (t:=xAt (v i) (v (i+1)) q.2-xAt (v k) (v (k+1)) q.2) (x:=-((v (k+1)).2-(v k).2)) (by grind) (by grind) (by grind) (by rw [tq];grind) (by rw [th];grind)
   ·exact (sep_level (p:=(xAt (v i) (v (i+1)) q.2,q.2)) (hq.lev k) (hq.lev (k+1)) hlk rfl).comm
  have:=main.pert (0,0) (-1,0)
  exact this.mono λe _ h=>by rwa [q0] at h
omit hv in
theorem Ring.away {q:Pt} (hq:Gen n v q) (hno:∀ j,j<n→Lev (v j) (v (j+1)) q.2→xAt (v j) (v (j+1)) q.2≤q.1) {x:Rat} (hx:q.1≤x):Free n v q (x,q.2):=λj hj=>by
 by_cases hl:Lev (v j) (v (j+1)) q.2
 ·have hd:=hl.ne
  have h1:=hno j hj hl;have h2:=hq.x hl;have tq:=turn_x (p:=q) hd;have th:=turn_x (p:=(x,q.2)) hd;dsimp only at th;exact q3e (s:=q.1-xAt (v j) (v (j+1)) q.2) (t:=x-xAt (v j) (v (j+1)) q.2) (x:=-((v (j+1)).2-(v j).2)) (by grind) (by grind) (by grind) (by rw [tq];grind) (by rw [th];grind)
 ·exact (sep_level (p:=(x,q.2)) (hq.lev j) (hq.lev (j+1)) hl rfl).comm
theorem Ring.gen {q:Pt} (hq:∀ i,Sep (v i) (v (i+1)) q q):∃ r,Free n v q r∧Gen n v r:=by
 have q0:∀ e,mv q e (0,0)=q:=λe=>by unfold mv;ext <;> grind
 have h1:Ev λe=>Free n v q (mv q e (0,1)):=hv.q9a (p:=λ_=>q) 0 λk _ _=>((hq k).pert (0,0) (0,1)).mono λe _ h=>by rwa [q0] at h
 have h2:Ev λe=>∀ i,i<n→(v i).2≠q.2+e:=Ev.all λi _=>by
  rcases q09 q.2 (v i).2 with h | h
  ·exact ⟨(v i).2-q.2,by grind,λe _ _=>by grind⟩
  ·exact .of λe h0=>by grind
 have h3:Ev λe=>Free n v (mv q e (0,1)) (mv q e (0,1)):=hv.q9a 0 λk _ _=>(hq k).pert (0,1) (0,1)
 obtain ⟨e,h0,⟨g1,g2⟩,g3⟩:=((h1.and h2).and h3).get;refine ⟨_,g1,?_,?_⟩
 ·refine hv.from (P:=λa _=>a.2≠(mv q e (0,1)).2) 0 λk _ hk=>?_
  have:=g2 k (by omega)
  unfold mv;grind
 ·exact hv.from (P:=λa b=>Sep a b (mv q e (0,1)) (mv q e (0,1))) 0 λk _ hk=>g3 k (by omega)
end
theorem bound (f:Nat→Rat):∀ n:Nat,∃ M,∀ i,i<n→f i<M
 | 0=>⟨0,λi hi=>absurd hi (Nat.not_lt_zero i)⟩
 | n+1=>by
  obtain ⟨M,hM⟩:=bound f n;rcases q09 M (f n+1) with h | h
  ·refine ⟨f n+1,λi hi=>?_⟩
   by_cases hin:i=n
   ·subst hin;grind
   ·have:=hM i (by omega);grind
  ·refine ⟨M,λi hi=>?_⟩
   by_cases hin:i=n
   ·subst hin;grind
   ·exact hM i (by omega)
theorem qa3 (a b:Pt) (x:Rat):crs a b (x,0)=- x*(b.2-a.2):=by unfold crs;grind
theorem sumN_zero:∀ n,sumN n (λ_=>0)=0
 | 0=>rfl
 | n+1=>by show sumN n (λ_=>0)+0=0;rw [sumN_zero n];rfl
section
variable {n:Nat} {v:Nat→Pt} (hv:Ring n v)
include hv
theorem Ring.bound:∃ M,∀ i,(v i).1<M:=by
 obtain ⟨M,hM⟩:=Geo.bound (λi=>(v i).1) n
 exact ⟨M,hv.from (P:=λa _=>a.1<M) 0 λk _ hk=>hM k (by omega)⟩
theorem Ring.steep:∃ i,i<n∧(v i).2≠(v (i+1)).2:=by
 have h3:=hv.three;by_cases h:∃ i,i<n∧(v i).2≠(v (i+1)).2
 ·exact h
 ·exfalso
  have e:∀ i,i<n→(v i).2=(v (i+1)).2:=λi hi=>by
   by_cases h':(v i).2=(v (i+1)).2
   ·exact h'
   ·exact absurd ⟨i,hi,h'⟩ h
  have e0:=e 0 (by omega)
  have e1:=e 1 (by omega)
  refine hv.q4g 0 ?_;show turn (v 0) (v 1) (v 2)=0;unfold turn;grind
def bankL (v:Nat→Pt) (e:Rat):Pt:=mv (at_ (v 0) (v 1) half) e (nrm (v 0) (v 1))
def bankR (v:Nat→Pt) (e:Rat):Pt:=mv (at_ (v 0) (v 1) half) e (-(nrm (v 0) (v 1)).1,-(nrm (v 0) (v 1)).2)
theorem Ring.toL (i:Nat) {t:Rat} {w:Pt} (t0:0<t) (t1:t<1) (hw:0<crs (v i) (v (i+1)) w):Ev λe=>Linked n v (mv (at_ (v i) (v (i+1)) t) e w) (bankL v e):=by
 have:=hv.bank 0 (u:=nrm (v 0) (v 1)) half0 half1 (hv.left 0) i (t:=t) (w:=w) t0 t1 (by rw [Nat.zero_add];exact hw)
 simp only [Nat.zero_add] at this;exact this.mono λe _ h=>h.comm
theorem Ring.toR (i:Nat) {t:Rat} {w:Pt} (t0:0<t) (t1:t<1) (hw:crs (v i) (v (i+1)) w<0):Ev λe=>Linked n v (mv (at_ (v i) (v (i+1)) t) e w) (bankR v e):=by
 have:=hv.bank' 0 i (u:=(-(nrm (v 0) (v 1)).1,-(nrm (v 0) (v 1)).2)) half0 half1 (by have:=hv.left 0;unfold crs at *;grind) t0 t1 (w:=w) (by rw [Nat.zero_add];exact hw)
 simp only [Nat.zero_add] at this;exact this.mono λe _ h=>h.comm
def Banked (n:Nat) (v:Nat→Pt) (q:Pt):Prop:=(Ev λe=>Linked n v q (bankL v e))∨Ev λe=>Linked n v q (bankR v e)
theorem Ring.banked (i:Nat) {q w:Pt} {t:Rat} (t0:0<t) (t1:t<1) (hw:crs (v i) (v (i+1)) w≠0) (h:Ev λe=>Free n v q (mv (at_ (v i) (v (i+1)) t) e w)):Banked n v q:=by
 rcases q09 0 (crs (v i) (v (i+1)) w) with hl | hl
 ·exact .inl ((Linked.ofEv (p:=λ_=>q) h).comp (hv.toL i t0 t1 hl))
 ·exact .inr ((Linked.ofEv (p:=λ_=>q) h).comp (hv.toR i t0 t1 (by grind)))
theorem Ring.qjb {M:Rat} (hM:∀ i,(v i).1<M) (y y':Rat):Free n v (M,y) (M,y'):=λi _=>by
 have h1:=hM i;have h2:=hM (i+1);refine ⟨(1,0),?_,?_,?_,?_⟩ <;> unfold dot <;> grind
theorem Ring.qbh {M:Rat} (hM:∀ i,(v i).1<M) (y:Rat):wind n v (M,y)=0:=by
 unfold wind;rw [q8h (g:=λ_=>0) λi _=>?_]
 ·exact sumN_zero n
 ·have h1:=hM i
  have h2:=hM (i+1);refine qjh (n:=(1,0)) (by decide) ?_ ?_ <;> unfold dot <;> grind
theorem Ring.far_banked {M:Rat} (hM:∀ i,(v i).1<M) (y:Rat):Banked n v (M,y):=by
 obtain ⟨i,hi,hne⟩:=hv.steep;have hlev:∃ y',Lev (v i) (v (i+1)) y'∧∀ k,(v k).2≠y':=by
  have g:∀ lo hi:Rat,lo<hi→Ev λe=>(lo<lo+e∧lo+e<hi)∧∀ k,(v k).2≠lo+e:=λlo hi hl=>by
   have h1:Ev λe=>lo<lo+e∧lo+e<hi:=⟨hi-lo,by grind,λe h0 h1=>by grind⟩
   have h2:Ev λe=>∀ k,k<n→(v k).2≠lo+e:=Ev.all λk _=>by
    rcases q09 lo (v k).2 with h | h
    ·exact ⟨(v k).2-lo,by grind,λe _ _=>by grind⟩
    ·exact .of λe h0=>by grind
   exact (h1.and h2).mono λe _ ⟨a,b⟩=>⟨a,hv.from (P:=λa _=>a.2≠lo+e) 0 λk _ hk=>b k (by omega)⟩
  rcases q09 (v i).2 (v (i+1)).2 with hl | hl
  ·obtain ⟨e,_,h1,h2⟩:=(g _ _ hl).get
   exact ⟨_,.inl h1,h2⟩
  ·obtain ⟨e,_,h1,h2⟩:=(g (v (i+1)).2 (v i).2 (by grind)).get
   exact ⟨_,.inr h1,h2⟩
 obtain ⟨y',hl,hgen⟩:=hlev;have hoff:∀ k,Sep (v k) (v (k+1)) (M,y') (M,y'):=hv.from (P:=λa b=>Sep a b (M,y') (M,y')) 0 λk _ hk=>hv.qjb hM y' y' k (by omega)
 have hq:Gen n (λi=>Geo.mir (v i)) (Geo.mir (M,y')):=⟨hgen,λk=>(hoff k).mir⟩
 have hx:xAt (v i) (v (i+1)) y'<M:=by
  obtain ⟨t,t0,t1,ht⟩:=hl.at;have h1:=hM i;have h2:=hM (i+1);have e:=congrArg Prod.fst ht;unfold at_ at e;dsimp only at e;rw [← e];have:=Rat.mul_pos (show 0<1-t by grind) (show 0<M-(v i).1 by grind)
  have:=Rat.mul_pos t0 (show 0<M-(v (i+1)).1 by grind)
  grind
 obtain ⟨k,t,hk,t0,t1,hlk,hfree⟩:=hv.mir.hit hq ⟨i,hi,hl,by
  have:xAt (Geo.mir (v i)) (Geo.mir (v (i+1))) y'=- xAt (v i) (v (i+1)) y':=by unfold xAt Geo.mir;grind
  show -M<xAt (Geo.mir (v i)) (Geo.mir (v (i+1))) y';rw [this];grind⟩
 have hfree':Ev λe=>Free n v (M,y') (mv (at_ (v k) (v (k+1)) t) e (1,0)):=hfree.mono λe _ h=>by
  have e1:((-1,0):Pt)=Geo.mir (1,0):=rfl;rw [e1,at_mir,mv_mir] at h;exact h.unmir
 have hb:=hv.banked k t0 t1 (by rw [qa3];have:=hlk.ne;unfold Geo.mir at this;grind) hfree'
 have hf:=Linked.of (hv.qjb hM y y');rcases hb with hb | hb
 ·exact .inl (hb.mono λe _ h=>hf.trans h)
 ·exact .inr (hb.mono λe _ h=>hf.trans h)
theorem Ring.qan {q:Pt} (hq:∀ i,Sep (v i) (v (i+1)) q q):Banked n v q:=by
 obtain ⟨r,hf,hr⟩:=hv.gen hq;have hf:=Linked.of hf;have main:Banked n v r:=by
  by_cases hex:∃ j,j<n∧Lev (v j) (v (j+1)) r.2∧r.1<xAt (v j) (v (j+1)) r.2
  ·obtain ⟨i,t,hi,t0,t1,hl,hfree⟩:=hv.hit hr hex
   exact hv.banked i t0 t1 (by rw [qa3];have:=hl.ne;grind) hfree
  ·obtain ⟨M,hM⟩:=hv.bound
   have hno:∀ j,j<n→Lev (v j) (v (j+1)) r.2→xAt (v j) (v (j+1)) r.2≤r.1:=λj hj hl=>by
    rcases q09 r.1 (xAt (v j) (v (j+1)) r.2) with h | h
    ·exact absurd ⟨j,hj,hl,h⟩ hex
    ·exact h
   have hM':∃ M',(∀ i,(v i).1<M')∧r.1≤M':=by
    rcases q09 M r.1 with h | h
    ·exact ⟨r.1,λi=>by have:=hM i;grind,Rat.le_refl⟩
    ·exact ⟨M,hM,h⟩
   obtain ⟨M',hM',hle⟩:=hM';have hl:=Linked.of (Ring.away hr hno hle);rcases hv.far_banked hM' r.2 with hb | hb
   ·exact .inl (hb.mono λe _ h=>hl.trans h)
   ·exact .inr (hb.mono λe _ h=>hl.trans h)
 rcases main with hb | hb
 ·exact .inl (hb.mono λe _ h=>hf.trans h)
 ·exact .inr (hb.mono λe _ h=>hf.trans h)
theorem Ring.closed:v n=v 0:=by have:=hv.per 0;rwa [Nat.zero_add] at this
theorem Ring.banks:Ev λe=>wind n v (bankL v e)-wind n v (bankR v e)=1:=by
 obtain ⟨i,hi,hne⟩:=hv.steep;have key:∀ x:Rat,0<crs (v i) (v (i+1)) (x,0)→Ev λe=>wind n v (bankL v e)-wind n v (bankR v e)=1:=λx hx=>by
  have hj:=hv.jump hi half0 half1 hx;have hl:=hv.toL i (w:=(x,0)) half0 half1 hx;have hr:=hv.toR i (w:=(-x,0)) half0 half1 (by rw [qa3] at *;grind)
  refine ((hj.and hl).and hr).mono λe _ ⟨⟨h1,h2⟩,h3⟩=>?_
  rw [← h2.wind hv.closed,← h3.wind hv.closed];exact h1
 rcases q09 (v i).2 (v (i+1)).2 with hl | hl
 ·exact key (-1) (by rw [qa3];grind)
 ·exact key 1 (by rw [qa3];grind)
end
section
variable {n:Nat} {v:Nat→Pt} (hv:Ring n v)
include hv
def Off (v:Nat→Pt) (q:Pt):Prop:=∀ i,Sep (v i) (v (i+1)) q q
theorem Ring.qdr {M:Rat} (hM:∀ i,(v i).1<M) (y:Rat):Off v (M,y):=hv.from (P:=λa b=>Sep a b (M,y) (M,y)) 0 λk _ hk=>hv.qjb hM y y k (by omega)
theorem Ring.qfk:∃ L:Int,(L=0∨L=1)∧(∀ q,Off v q→wind n v q=L∨wind n v q=L-1)∧(∀ p q,Off v p→Off v q→wind n v p=wind n v q→Linked n v p q) ∧
  Ev λe=>wind n v (bankL v e)=L∧wind n v (bankR v e)=L-1:=by
 obtain ⟨M,hM⟩:=hv.bound;have hfar:=hv.qbh hM 0;obtain ⟨e0,_,hb⟩:=hv.banks.get;have wl:∀ q,Off v q→(∃ e,0<e∧Linked n v q (bankL v e))∨True:=λ_ _=>.inr trivial
 have hbank:=hv.qan (hv.qdr hM 0);have hL:=hv.toL 0 (w:=nrm (v 0) (v 1)) half0 half1 (hv.left 0);have slideL:∃ L,Ev λe=>wind n v (bankL v e)=L:=by
  rcases hbank with h | h
  ·exact ⟨0,h.mono λe _ h=>by rw [← h.wind hv.closed,hfar]⟩
  ·exact ⟨1,(h.and hv.banks).mono λe _ ⟨h,hd⟩=>by rw [← h.wind hv.closed,hfar] at hd;omega⟩
 obtain ⟨L,hLe⟩:=slideL;have hRe:Ev λe=>wind n v (bankR v e)=L-1:=(hLe.and hv.banks).mono λe _ ⟨h,hd⟩=>by omega
 refine ⟨L,?_,?_,?_,hLe.and hRe⟩
 ·rcases hbank with h | h
  ·obtain ⟨e,_,h1,h2⟩:=(h.and hLe).get
   left;rw [← h2,← h1.wind hv.closed,hfar]
  ·obtain ⟨e,_,h1,h2⟩:=(h.and hRe).get
   right;rw [← h1.wind hv.closed,hfar] at h2;omega
 ·intro q hq
  rcases hv.qan hq with h | h
  ·obtain ⟨e,_,h1,h2⟩:=(h.and hLe).get
   left;rw [h1.wind hv.closed,h2]
  ·obtain ⟨e,_,h1,h2⟩:=(h.and hRe).get
   right;rw [h1.wind hv.closed,h2]
 ·intro p q hp hq hw
  rcases hv.qan hp with h | h <;> rcases hv.qan hq with h' | h'
  ·obtain ⟨e,_,h1,h2⟩:=(h.and h').get
   exact h1.trans h2.comm
  ·obtain ⟨e,_,⟨h1,h2⟩,h3,h4⟩:=((h.and h').and (hLe.and hRe)).get
   have a:=h1.wind hv.closed;have b:=h2.wind hv.closed;omega
  ·obtain ⟨e,_,⟨h1,h2⟩,h3,h4⟩:=((h.and h').and (hRe.and hLe)).get
   have a:=h1.wind hv.closed;have b:=h2.wind hv.closed;omega
  ·obtain ⟨e,_,h1,h2⟩:=(h.and h').get
   exact h1.trans h2.comm
end
theorem turn_at (a b c d:Pt) (t:Rat):turn a b (at_ c d t)=(1-t)*turn a b c+t*turn a b d:=by unfold turn at_;grind
def Meet (a b c d:Pt):Prop:=∃ s t:Rat,0≤s∧s≤1∧0≤t∧t≤1∧at_ a b s=at_ c d t
theorem Meet.turn {a b c d:Pt} (h:Meet a b c d):Meet c d a b:=by
 obtain ⟨s,t,s0,s1,t0,t1,h⟩:=h;exact ⟨t,s,t0,t1,s0,s1,h.symm⟩
theorem Meet.flip {a b c d:Pt} (h:Meet b a c d):Meet a b c d:=by
 obtain ⟨s,t,s0,s1,t0,t1,h⟩:=h;exact ⟨1-s,t,by grind,by grind,t0,t1,by rw [← h];unfold at_;ext <;> grind⟩
theorem Sep.no_meet {a b c d:Pt} (h:Sep a b c d):¬ Meet a b c d:=by
 rintro ⟨s,t,s0,s1,t0,t1,e⟩;obtain ⟨n,h1,h2,h3,h4⟩:=h;have e1:=dot_at n a b s;have e2:=dot_at n c d t;rw [e] at e1;have m1:=q81 (x:=dot n a) (y:=dot n c) (z:=dot n d) t0 t1 h1 h2;have m2:=q81 (x:=dot n b) (y:=dot n c) (z:=dot n d) t0 t1 h3 h4;have:=q81 (x:=-((1-t)*dot n c+t*dot n d)) (y:=- dot n a) (z:=- dot n b) s0 s1 (by grind) (by grind)
 grind
theorem qg9 {x y:Rat} (h0:0≤x) (h1:x≤y) (hy:0<y):0≤x / y∧x / y≤1:=by
 have e:=q40 (x:=x) (y:=y) (by grind)
 have hi:=Rat.inv_pos.2 hy;refine ⟨by rw [Rat.div_def];exact Rat.mul_nonneg h0 (Rat.le_of_lt hi),?_⟩
 rcases q09 1 (x / y) with h | h
 ·have:=Rat.mul_lt_mul_of_pos_right h hy;grind
 ·exact h
theorem q9y {a b:Pt} (h1:a.1=b.1) (h2:a.2=b.2):a=b:=Prod.ext h1 h2
def OnS (a b p:Pt):Prop:=∃ t:Rat,0≤t∧t≤1∧p=at_ a b t
theorem Meet.left {a b c d:Pt} (h:OnS c d a):Meet a b c d:=by
 obtain ⟨t,t0,t1,h⟩:=h;exact ⟨0,t,by grind,by grind,t0,t1,by rw [q39,h]⟩
theorem Meet.right {a b c d:Pt} (h:OnS c d b):Meet a b c d:=by
 obtain ⟨t,t0,t1,h⟩:=h;exact ⟨1,t,by grind,by grind,t0,t1,by rw [at_one,h]⟩
theorem qdt {a b p:Pt} (hab:a≠b) (h:turn a b p=0):∃ t,p=at_ a b t:=by
 by_cases hx:b.1-a.1=0
 ·have hy:b.2-a.2≠0:=λhy=>hab (q9y (by grind) (by grind))
  have e:=q40 (x:=p.2-a.2) hy;refine ⟨(p.2-a.2) / (b.2-a.2),q9y ?_ ?_⟩ <;> unfold at_ <;> unfold turn at h
  ·have:(b.2-a.2)*(p.1-a.1)=0:=by grind
   rcases Rat.mul_eq_zero.1 this with h | h <;> grind
  ·grind
 ·have e:=q40 (x:=p.1-a.1) hx
  refine ⟨(p.1-a.1) / (b.1-a.1),q9y ?_ ?_⟩ <;> unfold at_ <;> unfold turn at h
  ·grind
  ·have:(b.1-a.1)*(p.2-(a.2+(p.1-a.1) / (b.1-a.1)*(b.2-a.2)))=0:=by grind
   rcases Rat.mul_eq_zero.1 this with h | h <;> grind
theorem qa7 {x y:Rat} (h:x≠0∨y≠0):0<x*x+y*y:=by
 have sq:∀ x:Rat,0≤x*x:=λx=>by
  rcases q09 x 0 with h | h
  ·have:=Rat.mul_nonneg (show 0≤-x by grind) (show 0≤-x by grind);grind
  ·exact Rat.mul_nonneg h h
 have sq0:∀ x:Rat,x≠0→0<x*x:=λx hx=>by
  rcases q09 x 0 with h | h
  ·have:=Rat.mul_pos (show 0 < -x by grind) (show 0 < -x by grind);grind
  ·exact Rat.mul_pos (by grind) (by grind)
 have g1:=sq x;have g2:=sq y;rcases h with h | h
 ·have:=sq0 x h;grind
 ·have:=sq0 y h;grind
theorem ne_sq {a b:Pt} (h:a≠b):0<(b.1-a.1)*(b.1-a.1)+(b.2-a.2)*(b.2-a.2):=by
 refine qa7 ?_;by_cases h1:b.1-a.1=0
 ·exact .inr λh2=>h (q9y (by grind) (by grind))
 ·exact .inl h1
theorem qb8 {a b:Pt} (hab:a≠b) {s t:Rat} (hst:s≤t):Sep a b (at_ a b s) (at_ a b t)∨Meet a b (at_ a b s) (at_ a b t):=by
 have hq:=ne_sq hab;have ed:∀ u,dot (b.1-a.1,b.2-a.2) (at_ a b u)=dot (b.1-a.1,b.2-a.2) a+u*((b.1-a.1)*(b.1-a.1)+(b.2-a.2)*(b.2-a.2)):=λu=>by unfold dot at_;grind
 have ed':∀ u,dot (a.1-b.1,a.2-b.2) (at_ a b u)=dot (a.1-b.1,a.2-b.2) a-u*((b.1-a.1)*(b.1-a.1)+(b.2-a.2)*(b.2-a.2)):=λu=>by unfold dot at_;grind
 have e1:=ed 1;rw [at_one] at e1;have e1':=ed' 1;rw [at_one] at e1';have lt:∀ x y:Rat,x<y→x*((b.1-a.1)*(b.1-a.1)+(b.2-a.2)*(b.2-a.2))<y*((b.1-a.1)*(b.1-a.1)+(b.2-a.2)*(b.2-a.2)):=λx y h=>Rat.mul_lt_mul_of_pos_right h hq
 rcases q09 1 s with h1 | h1
 ·left
  have k0:=lt 0 s (by grind)
  have k1:=lt 1 s h1;have k2:=lt 0 t (by grind)
  have k3:=lt 1 t (by grind)
  refine ⟨(b.1-a.1,b.2-a.2),?_,?_,?_,?_⟩
  ·rw [ed s];grind
  ·rw [ed t];grind
  ·rw [ed s,e1];grind
  ·rw [ed t,e1];grind
 rcases q09 t 0 with h2 | h2
 ·left
  have k0:=lt s 0 (by grind)
  have k1:=lt s 1 (by grind)
  have k2:=lt t 0 h2;have k3:=lt t 1 (by grind)
  refine ⟨(a.1-b.1,a.2-b.2),?_,?_,?_,?_⟩
  ·rw [ed' s];grind
  ·rw [ed' t];grind
  ·rw [ed' s,e1'];grind
  ·rw [ed' t,e1'];grind
 right
 rcases q09 s 0 with h3 | h3
 ·
  obtain ⟨r0,r1⟩:=qg9 (x:=0-s) (y:=t-s) (by grind) (by grind) (by grind)
  have e:=q40 (x:=0-s) (y:=t-s) (by grind)
  refine Meet.left ⟨(0-s) / (t-s),r0,r1,q9y ?_ ?_⟩ <;> unfold at_ <;> grind
 ·exact (Meet.left (a:=at_ a b s) ⟨s,h3,h1,rfl⟩).turn
theorem q6g {a b c d:Pt} (hab:a≠b):Sep a b c d∨Meet a b c d:=by
 by_cases hl:turn a b c=0∧turn a b d=0
 ·obtain ⟨s,rfl⟩:=qdt hab hl.1
  obtain ⟨t,rfl⟩:=qdt hab hl.2;rcases q09 t s with h | h
  ·rcases qb8 hab (Rat.le_of_lt h) with h | h
   ·exact .inl h.comm
   ·exact .inr h.turn.flip.turn
  ·exact qb8 hab h
 by_cases hD:turn a b c=turn a b d
 ·have h0:turn a b c≠0:=λh=>hl ⟨h,by rw [← hD];exact h⟩
  exact .inl (q3e (s:=1) (t:=1) (by decide) (by decide) h0 (by grind) (by grind))
 have hD0:turn a b c-turn a b d≠0:=by grind
 have er:=q40 (x:=turn a b c) hD0;have es:=q40 (x:=- turn c d a) hD0;have e2:turn c d b=turn c d a+(turn a b c-turn a b d):=by unfold turn;grind
 generalize hr:turn a b c / (turn a b c-turn a b d)=r at er;generalize hs :-turn c d a / (turn a b c-turn a b d)=s at es;rcases q09 r 0 with r0 | r0
 ·exact .inl (q3e (s:=-r) (t:=1-r) (x:=-(turn a b c-turn a b d)) (by grind) (by grind) (by grind) (by grind) (by grind))
 rcases q09 1 r with r1 | r1
 ·exact .inl (q3e (s:=r) (t:=r-1) (x:=turn a b c-turn a b d) (by grind) (by grind) (by grind) (by grind) (by grind))
 rcases q09 s 0 with s0 | s0
 ·exact .inl (q3e (a:=c) (b:=d) (s:=-s) (t:=1-s) (x:=turn a b c-turn a b d) (by grind) (by grind) (by grind) (by grind) (by grind)).turn
 rcases q09 1 s with s1 | s1
 ·exact .inl (q3e (a:=c) (b:=d) (s:=s) (t:=s-1) (x:=-(turn a b c-turn a b d)) (by grind) (by grind) (by grind) (by grind) (by grind)).turn
 ·right
  refine ⟨s,r,s0,s1,r0,r1,q9y ?_ ?_⟩
  ·have:(turn a b c-turn a b d)*((at_ a b s).1-(at_ c d r).1)=0:=by
    have h1:(turn a b c-turn a b d)*(at_ a b s).1=(turn a b c-turn a b d)*a.1-turn c d a*(b.1-a.1):=by unfold at_;grind
    have h2:(turn a b c-turn a b d)*(at_ c d r).1=(turn a b c-turn a b d)*c.1+turn a b c*(d.1-c.1):=by unfold at_;grind
    have h3:(turn a b c-turn a b d)*a.1-turn c d a*(b.1-a.1)=(turn a b c-turn a b d)*c.1+turn a b c*(d.1-c.1):=by unfold turn;grind
    grind
   rcases Rat.mul_eq_zero.1 this with h | h
   ·exact absurd h hD0
   ·grind
  ·have:(turn a b c-turn a b d)*((at_ a b s).2-(at_ c d r).2)=0:=by
    have h1:(turn a b c-turn a b d)*(at_ a b s).2=(turn a b c-turn a b d)*a.2-turn c d a*(b.2-a.2):=by unfold at_;grind
    have h2:(turn a b c-turn a b d)*(at_ c d r).2=(turn a b c-turn a b d)*c.2+turn a b c*(d.2-c.2):=by unfold at_;grind
    have h3:(turn a b c-turn a b d)*a.2-turn c d a*(b.2-a.2)=(turn a b c-turn a b d)*c.2+turn a b c*(d.2-c.2):=by unfold turn;grind
    grind
   rcases Rat.mul_eq_zero.1 this with h | h
   ·exact absurd h hD0
   ·grind
theorem Sep.weak {a b p q:Pt} (h:Sep a b p q):Sep a b p p:=by
 obtain ⟨n,h1,h2,h3,h4⟩:=h;exact ⟨n,h1,h1,h3,h3⟩
theorem Sep.part {a b p q:Pt} (h:Sep a b p q) {t:Rat} (t0:0≤t) (t1:t≤1):Sep a b p (at_ p q t):=by
 have:=h.sub (s:=0) (t:=t) Rat.le_refl (by decide) t0 t1
 rwa [q39] at this
def OnR (n:Nat) (v:Nat→Pt) (q:Pt):Prop:=∃ i,i<n∧OnS (v i) (v (i+1)) q
theorem OnS.qat {a b p:Pt} (h:OnS a b p):¬ Sep a b p p:=λhs=>by
 obtain ⟨t,t0,t1,e⟩:=h;exact qf5 hs t0 t1 e
def Inside (n:Nat) (v:Nat→Pt) (q:Pt):Prop:=Off v q∧wind n v q≠0
def Outside (n:Nat) (v:Nat→Pt) (q:Pt):Prop:=Off v q∧wind n v q=0
section
variable {n:Nat} {v:Nat→Pt} (hv:Ring n v)
include hv
theorem Ring.qch (q:Pt):OnR n v q∨Off v q:=by
 by_cases h:OnR n v q
 ·exact .inl h
 ·refine .inr (hv.from (P:=λa b=>Sep a b q q) 0 λk _ hk=>?_)
  rcases q6g (a:=v k) (b:=v (k+1)) (c:=q) (d:=q) (hv.ne k) with hs | ⟨s,t,s0,s1,_,_,e⟩
  ·exact hs
  ·exact absurd ⟨k,by omega,s,s0,s1,by rw [e];unfold at_;ext <;> grind⟩ h
theorem Ring.not_off {q:Pt} (h:OnR n v q):¬ Off v q:=λho=>by
 obtain ⟨i,_,h⟩:=h;exact h.qat (ho i)
theorem Ring.qen {p q:Pt} (h:Free n v p q):Off v p:=hv.from (P:=λa b=>Sep a b p p) 0 λk _ hk=>(h k (by omega)).weak
theorem Ring.free_self {p:Pt} (h:Off v p):Free n v p p:=λi _=>h i
theorem Ring.qkp {p q:Pt} (h:Linked n v p q) (hp:Off v p):Off v q:=by
 induction h with
 | refl=>exact hp
 | step f _ ih=>exact ih (hv.qen f.comm)
theorem Ring.open_ {q:Pt} (h:Off v q) (w:Pt):Ev λe=>Free n v q (mv q e w):=by
 have q0:∀ e,mv q e (0,0)=q:=λe=>by unfold mv;ext <;> grind
 exact hv.q9a (p:=λ_=>q) 0 λk _ _=>((h k).pert (0,0) w).mono λe _ h=>by rwa [q0] at h
theorem Ring.q4l {p q:Pt} (h:Linked n v p q) (hp:Off v p):(Inside n v p→Inside n v q)∧(Outside n v p→Outside n v q):=by
 have e:=h.wind hv.closed;have ho:=hv.qkp h hp;exact ⟨λhi=>⟨ho,by rw [← e];exact hi.2⟩,λhi=>⟨ho,by rw [← e];exact hi.2⟩⟩
theorem Ring.qlz {p q:Pt} (hp:Inside n v p) (hq:Inside n v q):Linked n v p q:=by
 obtain ⟨L,hL,h1,h2,_⟩:=hv.qfk;refine h2 p q hp.1 hq.1 ?_;have:=h1 p hp.1;have:=h1 q hq.1;have:=hp.2;have:=hq.2;omega
theorem Ring.ql4 {p q:Pt} (hp:Outside n v p) (hq:Outside n v q):Linked n v p q:=by
 obtain ⟨L,hL,h1,h2,_⟩:=hv.qfk;exact h2 p q hp.1 hq.1 (by rw [hp.2,hq.2])
theorem Ring.beside (i:Nat) {t:Rat} (t0:0<t) (t1:t<1) :
  (∃ w,crs (v i) (v (i+1)) w≠0∧∀ u,0<crs (v i) (v (i+1)) w*crs (v i) (v (i+1)) u→Ev λe=>Inside n v (mv (at_ (v i) (v (i+1)) t) e u)) ∧
  (∃ w,crs (v i) (v (i+1)) w≠0∧∀ u,0<crs (v i) (v (i+1)) w*crs (v i) (v (i+1)) u→Ev λe=>Outside n v (mv (at_ (v i) (v (i+1)) t) e u)):=by
 obtain ⟨L,hL,h1,h2,hb⟩:=hv.qfk;have hl:=hv.left i;have hlw:∀ u,0<crs (v i) (v (i+1)) u→Ev λe=>Off v (mv (at_ (v i) (v (i+1)) t) e u)∧wind n v (mv (at_ (v i) (v (i+1)) t) e u)=L:=λu hu=>by
  have a:=hv.toL i t0 t1 hu;have b:=hv.slide i t0 t1 t0 t1 hu hu;exact ((a.and b).and hb).mono λe _ ⟨⟨a,b⟩,c⟩=>⟨hv.qen b,by rw [a.wind hv.closed];exact c.1⟩
 have hrw:∀ u,crs (v i) (v (i+1)) u<0→Ev λe=>Off v (mv (at_ (v i) (v (i+1)) t) e u)∧wind n v (mv (at_ (v i) (v (i+1)) t) e u)=L-1:=λu hu=>by
  have a:=hv.toR i t0 t1 hu;have b:=hv.mir.slide i t0 t1 t0 t1 (u:=Geo.mir u) (w:=Geo.mir u) (by rw [qhd];grind) (by rw [qhd];grind)
  have b:Ev λe=>Free n v (mv (at_ (v i) (v (i+1)) t) e u) (mv (at_ (v i) (v (i+1)) t) e u):=b.mono λe _ h=>by
   rw [at_mir,mv_mir] at h;exact h.unmir
  exact ((a.and b).and hb).mono λe _ ⟨⟨a,b⟩,c⟩=>⟨hv.qen b,by rw [a.wind hv.closed];exact c.2⟩
 have pl:∀ u,0<crs (v i) (v (i+1)) (nrm (v i) (v (i+1)))*crs (v i) (v (i+1)) u→0<crs (v i) (v (i+1)) u:=λu h=>by
  rcases q09 0 (crs (v i) (v (i+1)) u) with h' | h'
  ·exact h'
  ·have:=Rat.mul_nonneg (Rat.le_of_lt hl) (show 0≤- crs (v i) (v (i+1)) u by grind);grind
 have cneg:crs (v i) (v (i+1)) (-(nrm (v i) (v (i+1))).1,-(nrm (v i) (v (i+1))).2)=- crs (v i) (v (i+1)) (nrm (v i) (v (i+1))):=by unfold crs;grind
 have pr:∀ u,0<crs (v i) (v (i+1)) (-(nrm (v i) (v (i+1))).1,-(nrm (v i) (v (i+1))).2)*crs (v i) (v (i+1)) u→crs (v i) (v (i+1)) u<0:=λu h=>by
  rw [cneg] at h;rcases q09 (crs (v i) (v (i+1)) u) 0 with h' | h'
  ·exact h'
  ·have:=Rat.mul_nonneg (Rat.le_of_lt hl) h';grind
 rcases hL with rfl | rfl
 ·refine ⟨⟨_,by rw [cneg];grind,λu hu=>(hrw u (pr u hu)).mono λe _ ⟨a,b⟩=>⟨a,by omega⟩⟩,⟨_,(show crs (v i) (v (i+1)) (nrm (v i) (v (i+1)))≠0 by grind),λu hu=>(hlw u (pl u hu)).mono λe _ ⟨a,b⟩=>⟨a,by omega⟩⟩⟩
 ·refine ⟨⟨_,(show crs (v i) (v (i+1)) (nrm (v i) (v (i+1)))≠0 by grind),λu hu=>(hlw u (pl u hu)).mono λe _ ⟨a,b⟩=>⟨a,by omega⟩⟩,⟨_,by rw [cneg];grind,λu hu=>(hrw u (pr u hu)).mono λe _ ⟨a,b⟩=>⟨a,by omega⟩⟩⟩
theorem Ring.linked_of {m:Nat} {u:Nat→Pt} (hu:Ring m u) {p q:Pt} (h:Linked m u p q):Off u p→(∀ z,Linked m u p z→Off v z)→Linked n v p q:=by
 induction h with
 | refl=>exact λ_ _=>.refl _
 | @step p q r f t ih =>
  intro hp hz;refine .step (λi hi=>?_) (ih (hu.qkp (.of f) hp) λz hl=>hz z (.step f hl))
  rcases q6g (a:=v i) (b:=v (i+1)) (c:=p) (d:=q) (hv.ne i) with hs | ⟨s,t,s0,s1,t0,t1,e⟩
  ·exact hs
  ·exfalso
   have hf:Free m u p (at_ p q t):=λk hk=>(f k hk).part t0 t1
   exact OnS.qat ⟨s,s0,s1,e.symm⟩ (hz _ (.of hf) i)
end
def q3r (a b c d:Pt):Prop:=turn a b c*turn a b d<0∧turn c d a*turn c d b<0
theorem at_at (a b:Pt) (s t r:Rat):at_ (at_ a b s) (at_ a b t) r=at_ a b ((1-r)*s+r*t):=by unfold at_;ext <;> grind
theorem q6o {a b:Pt} (h:a≠b) {s t:Rat} (e:at_ a b s=at_ a b t):s=t:=by
 have e1:=congrArg Prod.fst e;have e2:=congrArg Prod.snd e;unfold at_ at e1 e2;dsimp only at e1 e2;by_cases h1:b.1-a.1=0
 ·have h2:b.2-a.2≠0:=λh2=>h (q9y (by grind) (by grind))
  have:(s-t)*(b.2-a.2)=0:=by grind
  rcases Rat.mul_eq_zero.1 this with h | h
  ·grind
  ·exact absurd h h2
 ·have:(s-t)*(b.1-a.1)=0:=by grind
  rcases Rat.mul_eq_zero.1 this with h | h
  ·grind
  ·exact absurd h h1
theorem mix_zero {x y k:Rat} (k0:0<k) (k1:k<1) (h:(1-k)*x+k*y=0):(x=0∧y=0)∨x*y<0:=by
 by_cases hx:x=0
 ·left
  have:k*y=0:=by grind
  rcases Rat.mul_eq_zero.1 this with h | h <;> grind
 ·right
  have e:k*(x*y)=- ((1-k)*(x*x)):=by grind
  have:=qa7 (x:=x) (y:=0) (.inl hx)
  have:=Rat.mul_pos (show 0<1-k by grind) (show 0<x*x by grind)
  rcases q09 (x*y) 0 with h | h
  ·exact h
  ·have:=Rat.mul_nonneg (Rat.le_of_lt k0) h;grind
theorem part_sep {a b c d:Pt} (hab:a≠b) (hcd:c≠d) (hx:¬ q3r a b c d) {s t:Rat} (s0:0≤s) (t1:t≤1)
  (hc:∀ r,s<r→r<t→c≠at_ a b r) (hd:∀ r,s<r→r<t→d≠at_ a b r) {r1 r2:Rat} (h1:s<r1) (h1':r1<t) (h2:s<r2) (h2':r2<t) :
  Sep c d (at_ a b r1) (at_ a b r2)∨OnS c d (at_ a b r1):=by
 rcases q6g (a:=c) (b:=d) (c:=at_ a b r1) (d:=at_ a b r2) hcd with h | ⟨k,j,k0,k1,j0,j1,e⟩
 ·exact .inl h
 right
 rw [at_at] at e;have hr:s<(1-j)*r1+j*r2∧(1-j)*r1+j*r2<t:=by
  refine ⟨q81 j0 j1 h1 h2,?_⟩;have:=q81 (x:=-t) (y:=-r1) (z:=-r2) j0 j1 (by grind) (by grind)
  grind
 generalize (1-j)*r1+j*r2=r3 at e hr;have hk0:k≠0:=λh=>hc r3 hr.1 hr.2 (by rw [← e,h,q39])
 have hk1:k≠1:=λh=>hd r3 hr.1 hr.2 (by rw [← e,h,at_one])
 have z1:turn a b (at_ c d k)=0:=by rw [e];unfold turn at_;grind
 have z2:turn c d (at_ a b r3)=0:=by rw [← e];unfold turn at_;grind
 rw [turn_at] at z1 z2;rcases mix_zero (by grind) (by grind) z1 with ⟨hc0,hd0⟩ | hcr
 ·obtain ⟨γ,rfl⟩:=qdt hab hc0
  obtain ⟨δ,rfl⟩:=qdt hab hd0;rw [at_at] at e;have e:=q6o hab e;have gc:γ≤s∨t≤γ:=by
   rcases q09 s γ with h | h
   ·rcases q09 γ t with h' | h'
    ·exact absurd rfl (hc γ h h')
    ·exact .inr h'
   ·exact .inl h
  have gd:δ≤s∨t≤δ:=by
   rcases q09 s δ with h | h
   ·rcases q09 δ t with h' | h'
    ·exact absurd rfl (hd δ h h')
    ·exact .inr h'
   ·exact .inl h
  have m1:=Rat.mul_nonneg k0 (show 0≤1-k by grind)
  have hδγ:(γ≤s∧t≤δ)∨(δ≤s∧t≤γ):=by
   rcases gc with gc | gc <;> rcases gd with gd | gd
   ·exfalso
    have:=Rat.mul_nonneg k0 (show 0≤s-δ by grind)
    have:=Rat.mul_nonneg (show 0≤1-k by grind) (show 0≤s-γ by grind)
    grind
   ·exact .inl ⟨gc,gd⟩
   ·exact .inr ⟨gd,gc⟩
   ·exfalso
    have:=Rat.mul_nonneg k0 (show 0≤δ-t by grind)
    have:=Rat.mul_nonneg (show 0≤1-k by grind) (show 0≤γ-t by grind)
    grind
  rcases hδγ with ⟨g1,g2⟩ | ⟨g1,g2⟩
  ·have er:=q40 (x:=r1-γ) (y:=δ-γ) (by grind)
   obtain ⟨q0,q1⟩:=qg9 (x:=r1-γ) (y:=δ-γ) (by grind) (by grind) (by grind)
   exact ⟨(r1-γ) / (δ-γ),q0,q1,by rw [at_at];congr 1;grind⟩
  ·have er:=q40 (x:=γ-r1) (y:=γ-δ) (by grind)
   obtain ⟨q0,q1⟩:=qg9 (x:=γ-r1) (y:=γ-δ) (by grind) (by grind) (by grind)
   exact ⟨(γ-r1) / (γ-δ),q0,q1,by rw [at_at];congr 1;grind⟩
 ·rcases mix_zero (show 0<r3 by grind) (show r3<1 by grind) z2 with ⟨ha0,hb0⟩ | hcr2
  ·exfalso
   have q1:turn a b c*turn a b d=0:=by
    have hpar:turn a b c-turn a b d=turn c d b-turn c d a:=by unfold turn;grind
    have heq:turn a b c=turn a b d:=by grind
    have:(1-k)*turn a b c+k*turn a b c=turn a b c:=by grind
    grind
   grind
  ·exact absurd ⟨hcr,hcr2⟩ hx
def q46 (n:Nat) (v:Nat→Pt) (m:Nat) (u:Nat→Pt) (p:Pt):Prop :=
 ∃ i s t,i<n∧0≤s∧s<t∧t≤1∧p=at_ (v i) (v (i+1)) ((s+t) / 2)∧(s=0∨∃ j,j<m∧u j=at_ (v i) (v (i+1)) s)∧(t=1∨∃ j,j<m∧u j=at_ (v i) (v (i+1)) t) ∧
  ∀ j r,s<r→r<t→u j≠at_ (v i) (v (i+1)) r
def q3h (n:Nat) (v:Nat→Pt) (m:Nat) (u:Nat→Pt):Prop:=∀ i k,i<n→k<m→¬ q3r (v i) (v (i+1)) (u k) (u (k+1))
theorem q3r.swap {a b c d:Pt} (h:q3r a b c d):q3r c d a b:=⟨h.2,h.1⟩
theorem q3h.turn {n m:Nat} {v u:Nat→Pt} (h:q3h n v m u):q3h m u n v:=λi k hi hk hc=>h k i hk hi hc.swap
theorem cross_eq {a b c d:Pt} {r s:Rat} (hD:turn a b c-turn a b d≠0) (er:r*(turn a b c-turn a b d)=turn a b c) (es:s*(turn a b c-turn a b d)=- turn c d a):at_ a b s=at_ c d r:=by
 have e2:turn c d b=turn c d a+(turn a b c-turn a b d):=by unfold turn;grind
 refine q9y ?_ ?_
 ·have:(turn a b c-turn a b d)*((at_ a b s).1-(at_ c d r).1)=0:=by
   have h1:(turn a b c-turn a b d)*(at_ a b s).1=(turn a b c-turn a b d)*a.1-turn c d a*(b.1-a.1):=by unfold at_;grind
   have h2:(turn a b c-turn a b d)*(at_ c d r).1=(turn a b c-turn a b d)*c.1+turn a b c*(d.1-c.1):=by unfold at_;grind
   have h3:(turn a b c-turn a b d)*a.1-turn c d a*(b.1-a.1)=(turn a b c-turn a b d)*c.1+turn a b c*(d.1-c.1):=by unfold turn;grind
   grind
  rcases Rat.mul_eq_zero.1 this with h | h
  ·exact absurd h hD
  ·grind
 ·have:(turn a b c-turn a b d)*((at_ a b s).2-(at_ c d r).2)=0:=by
   have h1:(turn a b c-turn a b d)*(at_ a b s).2=(turn a b c-turn a b d)*a.2-turn c d a*(b.2-a.2):=by unfold at_;grind
   have h2:(turn a b c-turn a b d)*(at_ c d r).2=(turn a b c-turn a b d)*c.2+turn a b c*(d.2-c.2):=by unfold at_;grind
   have h3:(turn a b c-turn a b d)*a.2-turn c d a*(b.2-a.2)=(turn a b c-turn a b d)*c.2+turn a b c*(d.2-c.2):=by unfold turn;grind
   grind
  rcases Rat.mul_eq_zero.1 this with h | h
  ·exact absurd h hD
  ·grind
theorem unit_of {x y r:Rat} (h:x*y<0) (er:r*(x-y)=x):0<r∧r<1:=by
 have hy:(r-1)*(x-y)=y:=by grind
 have sq:=qa7 (x:=x-y) (y:=0);have hne:x-y≠0:=λh0=>by
  have:x=y:=by grind
  subst this;have:0≤x*x:=by
   by_cases hx:x=0
   ·rw [hx,Rat.zero_mul];exact Rat.le_refl
   ·have:=qa7 (x:=x) (y:=0) (.inl hx);grind
  grind
 have sq:=sq (.inl hne);have e:(r*(r-1))*((x-y)*(x-y)+0*0)=x*y:=by grind
 have hr:r*(r-1)<0:=mul_neg_neg (by rw [e];exact h) (Rat.le_of_lt sq)
 rcases q09 0 r with h0 | h0
 ·refine ⟨h0,?_⟩
  rcases q09 r 1 with h1 | h1
  ·exact h1
  ·have:=Rat.mul_nonneg (Rat.le_of_lt h0) (show 0≤r-1 by grind);grind
 ·exfalso
  have:=Rat.mul_nonneg (show 0≤-r by grind) (show 0≤-(r-1) by grind);grind
theorem q3r.point {a b c d:Pt} (h:q3r a b c d):∃ s r:Rat,0<s∧s<1∧0<r∧r<1∧at_ a b s=at_ c d r:=by
 obtain ⟨h1,h2⟩:=h;have hD:turn a b c-turn a b d≠0:=λh0=>by
  have e:turn a b c=turn a b d:=by grind
  rw [e] at h1;by_cases hx:turn a b d=0
  ·rw [hx,Rat.zero_mul] at h1;exact absurd h1 Rat.lt_irrefl
  ·have:=qa7 (x:=turn a b d) (y:=0) (.inl hx);grind
 have e2:turn c d b=turn c d a+(turn a b c-turn a b d):=by unfold turn;grind
 have er:=q40 (x:=turn a b c) hD;have es:=q40 (x:=- turn c d a) hD;obtain ⟨r0,r1⟩:=unit_of h1 er;obtain ⟨s0,s1⟩:=unit_of (x:=turn c d a) (y:=turn c d b) (r:=- turn c d a / (turn a b c-turn a b d)) h2 (by rw [e2];grind)
 exact ⟨_,_,s0,s1,r0,r1,cross_eq hD er es⟩
theorem stops {m:Nat} {u:Nat→Pt} {a b:Pt} (hab:a≠b) {r:Rat} (r1:r<1):∃ t,r<t∧t≤1∧(t=1∨∃ j,j<m∧u j=at_ a b t)∧∀ j,j<m→∀ q,r<q→q<t→u j≠at_ a b q:=by
 classical
 let X:Nat→Rat:=λj=>if h:∃ τ,u j=at_ a b τ then h.choose else 0
 have hX:∀ j τ,u j=at_ a b τ→X j=τ:=λj τ h=>by
  have hh:∃ τ,u j=at_ a b τ:=⟨τ,h⟩;have e:X j=hh.choose:=dif_pos hh;rw [e];exact q6o hab (hh.choose_spec.symm.trans h)
 by_cases hex:∃ j,j<m∧∃ τ,u j=at_ a b τ∧r<τ∧τ<1
 ·obtain ⟨j,hj,⟨τ,h1,h2,h3⟩,hmin⟩:=least (X:=X) hex
  refine ⟨τ,h2,Rat.le_of_lt h3,.inr ⟨j,hj,h1⟩,λk hk q q0 q1 e=>?_⟩
  have:=hmin k hk ⟨q,e,q0,by grind⟩
  rw [hX j τ h1,hX k q e] at this
  grind
 ·exact ⟨1,r1,Rat.le_refl,.inl rfl,λk hk q q0 q1 e=>hex ⟨k,hk,q,e,q0,q1⟩⟩
theorem at_flip (a b:Pt) (t:Rat):at_ b a t=at_ a b (1-t):=by unfold at_;ext <;> grind
theorem stops' {m:Nat} {u:Nat→Pt} {a b:Pt} (hab:a≠b) {r:Rat} (r0:0<r):∃ t,t<r∧0≤t∧(t=0∨∃ j,j<m∧u j=at_ a b t)∧∀ j,j<m→∀ q,t<q→q<r→u j≠at_ a b q:=by
 obtain ⟨t,h1,h2,h3,h4⟩:=stops (m:=m) (u:=u) (λh=>hab h.symm) (a:=b) (b:=a) (r:=1-r) (by grind)
 refine ⟨1-t,by grind,by grind,?_,λj hj q q0 q1 e=>?_⟩
 ·rcases h3 with h | ⟨j,hj,h⟩
  ·exact .inl (by grind)
  ·exact .inr ⟨j,hj,by rw [h,at_flip]⟩
 ·refine h4 j hj (1-q) (by grind) (by grind) ?_
  rw [at_flip,e];congr 1;grind
section
variable {n m:Nat} {v u:Nat→Pt} (hv:Ring n v) (hu:Ring m u)
include hv hu
theorem Ring.mid {i:Nat} (hi:i<n) (hx:q3h n v m u) {r:Rat} (r0:0<r) (r1:r<1) (ho:Off u (at_ (v i) (v (i+1)) r)):∃ p,q46 n v m u p∧Free m u (at_ (v i) (v (i+1)) r) p:=by
 have hne:=hv.ne i;obtain ⟨t,t1,t2,t3,t4⟩:=stops (m:=m) (u:=u) hne r1;obtain ⟨s,s1,s2,s3,s4⟩:=stops' (m:=m) (u:=u) hne r0;have hr:∀ j,j<m→u j≠at_ (v i) (v (i+1)) r:=λj hj e=>by
  refine OnS.qat (a:=u j) (b:=u (j+1)) ⟨0,by decide,by decide,by rw [q39,e]⟩ (ho j)
 have hall:∀ j q,s<q→q<t→u j≠at_ (v i) (v (i+1)) q:=by
  have:=hu.from (P:=λa _=>∀ q,s<q→q<t→a≠at_ (v i) (v (i+1)) q) 0 λk _ hk q q0 q1=>by
   rcases q09 q r with h | h
   ·exact s4 k (by omega) q q0 h
   ·by_cases hqr:q=r
    ·subst hqr;exact hr k (by omega)
    ·exact t4 k (by omega) q (by grind) q1
  exact this
 refine ⟨at_ (v i) (v (i+1)) ((s+t) / 2),⟨i,s,t,hi,s2,by grind,t2,rfl,s3,t3,hall⟩,λk hk=>?_⟩
 rcases part_sep hne (hu.ne k) (hx i k hi hk) s2 t2 (hall k) (hall (k+1)) s1 t1 (show s<(s+t) / 2 by grind) (show (s+t) / 2<t by grind) with h | h
 ·exact h
 ·exact absurd (ho k) h.qat
theorem Ring.mid_class (hx:q3h n v m u) {z:Pt} (hz:OnR n v z) (ho:Off u z):∃ p,q46 n v m u p∧Linked m u z p:=by
 obtain ⟨i,hi,r,r0,r1,rfl⟩:=hz;have hne:=hv.ne i;have inner:∀ r',0<r'→r'<1→Free m u (at_ (v i) (v (i+1)) r) (at_ (v i) (v (i+1)) r')→∃ p,q46 n v m u p∧Linked m u (at_ (v i) (v (i+1)) r) p:=λr' h0 h1 hf=>by
  obtain ⟨p,hp,hl⟩:=hv.mid hu hi hx h0 h1 (hu.qen hf.comm);exact ⟨p,hp,.step hf (.of hl)⟩
 have mv_at:∀ e x,mv (at_ (v i) (v (i+1)) r) e (x*((v (i+1)).1-(v i).1),x*((v (i+1)).2-(v i).2))=at_ (v i) (v (i+1)) (r+e*x):=λe x=>by unfold mv at_;ext <;> grind
 by_cases h0:r=0
 ·have h:=hu.open_ ho (1*((v (i+1)).1-(v i).1),1*((v (i+1)).2-(v i).2))
  obtain ⟨e,e0,h,hl⟩:=(h.and ⟨1,by decide,λe _ h=>h⟩:Ev λe=>_∧e<1).get
  rw [mv_at] at h;exact inner _ (by grind) (by grind) h
 ·by_cases h1:r=1
  ·have h:=hu.open_ ho ((-1)*((v (i+1)).1-(v i).1),(-1)*((v (i+1)).2-(v i).2))
   obtain ⟨e,e0,h,hl⟩:=(h.and ⟨1,by decide,λe _ h=>h⟩:Ev λe=>_∧e<1).get
   rw [mv_at] at h;exact inner _ (by grind) (by grind) h
  ·exact inner r (by grind) (by grind) (hu.free_self ho)
theorem Ring.apart_inside (hx:q3h n v m u) (h1:∀ p,q46 n v m u p→¬ Inside m u p) (h2:∀ p,q46 m u n v p→¬ Inside n v p) (h3:∃ p,q46 n v m u p∧Outside m u p) {p:Pt} (hp:Inside n v p):¬ Inside m u p:=λhp'=>by
 obtain ⟨q,hm,hq⟩:=h3;obtain ⟨i,s,t,hi,s0,st,t1,rfl,_⟩:=hm;obtain ⟨⟨w,hw,hin⟩,_⟩:=hv.beside i (t:=(s+t) / 2) (by grind) (by grind)
 have hi':=hin w (by have:=qa7 (x:=crs (v i) (v (i+1)) w) (y:=0) (.inl hw);grind)
 obtain ⟨e,e0,ha,hb⟩:=(hi'.and (hu.open_ hq.1 w)).get;have hout:=(hu.q4l (.of hb) hq.1).2 hq;have hl:=hv.qlz hp ha;have hl':=hu.linked_of hv hl hp.1 λz hz=>by
  rcases hu.qch z with h | h
  ·exfalso
   have hzi:=(hv.q4l hz hp.1).1 hp;obtain ⟨p',hp1,hp2⟩:=hu.mid_class hv hx.turn h hzi.1;exact h2 p' hp1 ((hv.q4l hp2 hzi.1).1 hzi)
  ·exact h
 exact hp'.2 (by rw [hl'.wind hu.closed];exact hout.2)
theorem Ring.far_both:∃ f,Outside n v f∧Outside m u f:=by
 obtain ⟨M,hM⟩:=hv.bound;obtain ⟨M',hM'⟩:=hu.bound;rcases q09 M M' with h | h
 ·exact ⟨(M',0),⟨hv.qdr (M:=M') (λi=>by have:=hM i;grind) 0,hv.qbh (M:=M') (λi=>by have:=hM i;grind) 0⟩,⟨hu.qdr hM' 0,hu.qbh hM' 0⟩⟩
 ·exact ⟨(M,0),⟨hv.qdr hM 0,hv.qbh hM 0⟩,⟨hu.qdr (M:=M) (λi=>by have:=hM' i;grind) 0,hu.qbh (M:=M) (λi=>by have:=hM' i;grind) 0⟩⟩
theorem Ring.within (hx:q3h n v m u) (h1:∀ p,q46 n v m u p→¬ Outside m u p) {p:Pt} (hp:¬ Outside n v p):¬ Outside m u p:=λho=>by
 have hon:∀ z,Outside m u z→Off v z:=λz hz=>by
  rcases hv.qch z with h | h
  ·exfalso
   obtain ⟨p',hp1,hp2⟩:=hv.mid_class hu hx h hz.1;exact h1 p' hp1 ((hu.q4l hp2 hz.1).2 hz)
  ·exact h
 obtain ⟨f,hf1,hf2⟩:=hv.far_both hu;have hl:=hu.ql4 ho hf2;have hl':=hv.linked_of hu hl ho.1 λz hz=>hon z ((hu.q4l hz ho.1).2 ho)
 exact hp ⟨hon p ho,by rw [hl'.wind hv.closed];exact hf1.2⟩
end
theorem q46.on {n m:Nat} {v u:Nat→Pt} {p:Pt} (h:q46 n v m u p):OnR n v p:=by
 obtain ⟨i,s,t,hi,s0,st,t1,rfl,_⟩:=h;exact ⟨i,hi,(s+t) / 2,by grind,by grind,rfl⟩
namespace Zn
abbrev P2:=Int×Int
def onB (p:P2):Bool:=decide (0≤min p.1 p.2)&&decide (max p.1 p.2≤32767)
def q0a (a b c:P2):Int:=(b.1-a.1)*(c.2-a.2)-(b.2-a.2)*(c.1-a.1)
def sgn (n:Int):Int:=if 0<n then 1 else if n<0 then -1 else 0
def q18 (a b c:P2):Int:=if onB a&&(onB b&&onB c) then sgn (q0a a b c) else 0
def betI (p a b:P2):Bool:=(onB p&&(onB a&&onB b))&&((p==a||p==b)||(q0a a b p==0&&decide ((a.1-p.1)*(b.1-p.1)+(a.2-p.2)*(b.2-p.2)<0)))
def q2q (a b c d:P2):Bool:=decide (sgn (q0a a b c)*sgn (q0a a b d)<0)
def q0j (a b c d:P2):Int:=if !(onB a&&(onB b&&(onB c&&onB d))) then 0 else if betI a c d||(betI b c d||(betI c a b||betI d a b)) then 1 else if q2q a b c d&&q2q c d a b then 2 else 0
def rAt (r:List P2) (i:Nat):P2:=r.getD (i % r.length) (0,0)
def q5y (r:List P2):Int:=((List.range r.length).map λi=>(rAt r i).1*(rAt r (i+1)).2-(rAt r (i+1)).1*(rAt r i).2).sum
def q1v (r:List P2) (i:Nat):Bool:=q18 (rAt r i) (rAt r (i+1)) (rAt r (i+2)) != 0 &&
 (List.range r.length).all λk=>!(decide (i+2≤k)&&decide (k+1<i+r.length))||!decide (0<q0j (rAt r i) (rAt r (i+1)) (rAt r k) (rAt r (k+1)))
def q48 (r:List P2):Bool:=(List.range r.length).all (q1v r)
def q05 (r:List P2):Bool:=decide (3≤r.length)&&(decide (r.length≤40)&&(r.all onB&&(decide (0<q5y r)&&q48 r)))
end Zn
open Zn
def pt (p:P2):Pt:=((p.1:Rat),(p.2:Rat))
theorem q94 (a b c:P2):turn (pt a) (pt b) (pt c)=((q0a a b c:Int):Rat):=by
 unfold turn pt q0a;simp only [Rat.intCast_sub,Rat.intCast_mul]
theorem cast_pos {x:Int}:(0:Rat)<(x:Rat)↔0<x:=by
 have:=Rat.intCast_lt_intCast (a:=0) (b:=x);simpa using this
theorem qji {x:Int}:(x:Rat)<0↔x<0:=by
 have:=Rat.intCast_lt_intCast (a:=x) (b:=0);simpa using this
theorem qgh {x:Int}:(x:Rat)=0↔x=0:=by
 exact Rat.intCast_inj (a:=x) (b:=0)
theorem q30 {a b:P2} (h:pt a=pt b):a=b:=by
 have h1:=congrArg Prod.fst h;have h2:=congrArg Prod.snd h;exact Prod.ext (Rat.intCast_inj.1 h1) (Rat.intCast_inj.1 h2)
theorem sgn_mul {m n:Int}:sgn m*sgn n<0↔m*n<0:=by
 rcases Int.lt_trichotomy m 0 with h | h | h <;> rcases Int.lt_trichotomy n 0 with h' | h' | h'
 ·have:=Int.mul_pos_of_neg_of_neg h h'
  unfold sgn;rw [if_neg (by omega),if_pos h,if_neg (by omega),if_pos h'];omega
 ·subst h';simp [sgn]
 ·have:=Int.mul_neg_of_neg_of_pos h h'
  unfold sgn;rw [if_neg (by omega),if_pos h,if_pos h'];omega
 ·subst h;simp [sgn]
 ·subst h;simp [sgn]
 ·subst h;simp [sgn]
 ·have:=Int.mul_neg_of_pos_of_neg h h'
  unfold sgn;rw [if_pos h,if_neg (by omega),if_pos h'];omega
 ·subst h';simp [sgn]
 ·have:=Int.mul_pos h h'
  unfold sgn;rw [if_pos h,if_pos h'];omega
theorem onS_iff {a b p:Pt} (hab:a≠b):OnS a b p↔turn a b p=0∧(a.1-p.1)*(b.1-p.1)+(a.2-p.2)*(b.2-p.2)≤0:=by
 have hq:=ne_sq hab;constructor
 ·rintro ⟨t,t0,t1,rfl⟩
  refine ⟨by unfold turn at_;grind,?_⟩
  have e:(a.1-(at_ a b t).1)*(b.1-(at_ a b t).1)+(a.2-(at_ a b t).2)*(b.2-(at_ a b t).2)=- (t*(1-t)*((b.1-a.1)*(b.1-a.1)+(b.2-a.2)*(b.2-a.2))):=by unfold at_;grind
  rw [e];have:=Rat.mul_nonneg (Rat.mul_nonneg t0 (show 0≤1-t by grind)) (Rat.le_of_lt hq)
  grind
 ·rintro ⟨h1,h2⟩
  obtain ⟨t,rfl⟩:=qdt hab h1;have e:(a.1-(at_ a b t).1)*(b.1-(at_ a b t).1)+(a.2-(at_ a b t).2)*(b.2-(at_ a b t).2)=(t*(t-1))*((b.1-a.1)*(b.1-a.1)+(b.2-a.2)*(b.2-a.2)):=by unfold at_;grind
  rw [e] at h2;have h3:t*(t-1)≤0:=by
   rcases q09 0 (t*(t-1)) with h | h
   ·have:=Rat.mul_pos h hq;grind
   ·exact h
  refine ⟨t,?_,?_,rfl⟩
  ·rcases q09 t 0 with h | h
   ·have:=Rat.mul_pos (show 0 < -t by grind) (show 0 < -(t-1) by grind);grind
   ·exact h
  ·rcases q09 1 t with h | h
   ·have:=Rat.mul_pos (show 0<t by grind) (show 0<t-1 by grind);grind
   ·exact h
theorem q27 {p a b:P2} (hp:onB p=true) (ha:onB a=true) (hb:onB b=true) (hab:a≠b):betI p a b=true↔OnS (pt a) (pt b) (pt p):=by
 rw [onS_iff (λh=>hab (q30 h)),q94,qgh]
 have e:((pt a).1-(pt p).1)*((pt b).1-(pt p).1)+((pt a).2-(pt p).2)*((pt b).2-(pt p).2)=(((a.1-p.1)*(b.1-p.1)+(a.2-p.2)*(b.2-p.2):Int):Rat):=by
  unfold pt;simp only [Rat.intCast_sub,Rat.intCast_mul,Rat.intCast_add]
 rw [e];have e2:((((a.1-p.1)*(b.1-p.1)+(a.2-p.2)*(b.2-p.2):Int):Rat)≤0)↔(a.1-p.1)*(b.1-p.1)+(a.2-p.2)*(b.2-p.2)≤0:=by
  have:=Rat.intCast_le_intCast (a:=(a.1-p.1)*(b.1-p.1)+(a.2-p.2)*(b.2-p.2)) (b:=0);simpa using this
 rw [e2];unfold betI;rw [hp,ha,hb];simp only [Bool.true_and,Bool.and_eq_true,Bool.or_eq_true,beq_iff_eq,decide_eq_true_eq];constructor
 ·rintro ((rfl | rfl) | ⟨h1,h2⟩)
  ·exact ⟨by unfold q0a;rw [Int.sub_self,Int.sub_self,Int.mul_zero,Int.mul_zero];rfl,by rw [Int.sub_self,Int.sub_self,Int.zero_mul,Int.zero_mul];decide⟩
  ·exact ⟨by unfold q0a;rw [Int.mul_comm];omega,by rw [Int.sub_self,Int.sub_self,Int.mul_zero,Int.mul_zero];decide⟩
  ·exact ⟨h1,by omega⟩
 ·rintro ⟨h1,h2⟩
  by_cases h:(a.1-p.1)*(b.1-p.1)+(a.2-p.2)*(b.2-p.2)<0
  ·exact .inr ⟨h1,h⟩
  ·left
   have h0:(a.1-p.1)*(b.1-p.1)+(a.2-p.2)*(b.2-p.2)=0:=by omega
   have:OnS (pt a) (pt b) (pt p):=(onS_iff (λh=>hab (q30 h))).2 ⟨by rw [q94,h1];rfl,by rw [e,h0];exact Rat.le_refl⟩
   obtain ⟨t,t0,t1,ht⟩:=this;have hq:=ne_sq (a:=pt a) (b:=pt b) (λh=>hab (q30 h))
   have e3:((pt a).1-(at_ (pt a) (pt b) t).1)*((pt b).1-(at_ (pt a) (pt b) t).1)+((pt a).2-(at_ (pt a) (pt b) t).2)*((pt b).2-(at_ (pt a) (pt b) t).2)=(t*(t-1))*(((pt b).1-(pt a).1)*((pt b).1-(pt a).1)+((pt b).2-(pt a).2)*((pt b).2-(pt a).2)):=by unfold at_;grind
   rw [← ht,e,h0] at e3;have e4:t*(t-1)=0:=by
    rcases Rat.mul_eq_zero.1 (show (t*(t-1))*(((pt b).1-(pt a).1)*((pt b).1-(pt a).1)+((pt b).2-(pt a).2)*((pt b).2-(pt a).2))=0 by rw [← e3];rfl) with h | h
    ·exact h
    ·grind
   rcases Rat.mul_eq_zero.1 e4 with h | h
   ·left;exact q30 (by rw [ht,h,q39])
   ·right;exact q30 (by rw [ht,show t=1 by grind,at_one])
theorem q8g {a b c d:P2}:q3r (pt a) (pt b) (pt c) (pt d)↔q2q a b c d=true∧q2q c d a b=true:=by
 unfold q3r q2q;rw [decide_eq_true_eq,decide_eq_true_eq,sgn_mul,sgn_mul,q94,q94,q94,q94,← Rat.intCast_mul,← Rat.intCast_mul,qji,qji]
theorem cross_sep {a b c d:P2} (ha:onB a=true) (hb:onB b=true) (hc:onB c=true) (hd:onB d=true) (hab:a≠b) (hcd:c≠d):q0j a b c d=0↔Sep (pt a) (pt b) (pt c) (pt d):=by
 have hab':pt a≠pt b:=λh=>hab (q30 h)
 have hcd':pt c≠pt d:=λh=>hcd (q30 h)
 constructor
 ·intro h
  rcases q6g (c:=pt c) (d:=pt d) hab' with hs | hm
  ·exact hs
  exfalso
  unfold q0j at h;rw [ha,hb,hc,hd] at h;simp only [Bool.true_and,Bool.not_true,Bool.false_eq_true,if_false] at h;split at h
  ·cases h
  rename_i hb4;simp only [Bool.or_eq_true,not_or] at hb4;obtain ⟨n1,n2,n3,n4⟩:=hb4;rw [q27 ha hc hd hcd] at n1;rw [q27 hb hc hd hcd] at n2;rw [q27 hc ha hb hab] at n3;rw [q27 hd ha hb hab] at n4;split at h
  ·cases h
  rename_i hx;rw [Bool.and_eq_true,← q8g] at hx;obtain ⟨s,t,s0,s1,t0,t1,e⟩:=hm;have hs0:s≠0:=λh=>n1 ⟨t,t0,t1,by rw [← e,h,q39]⟩
  have hs1:s≠1:=λh=>n2 ⟨t,t0,t1,by rw [← e,h,at_one]⟩
  have ht0:t≠0:=λh=>n3 ⟨s,s0,s1,by rw [e,h,q39]⟩
  have ht1:t≠1:=λh=>n4 ⟨s,s0,s1,by rw [e,h,at_one]⟩
  have hall:∀ r,0<r→r<1→OnS (pt c) (pt d) (at_ (pt a) (pt b) r):=λr r0 r1=>by
   rcases part_sep hab' hcd' hx (s:=0) (t:=1) Rat.le_refl Rat.le_refl (λr r0 r1 h=>n3 ⟨r,Rat.le_of_lt r0,Rat.le_of_lt r1,h⟩) (λr r0 r1 h=>n4 ⟨r,Rat.le_of_lt r0,Rat.le_of_lt r1,h⟩) (r1:=r) (r2:=s) r0 r1 (by grind) (by grind) with hsep | hon
   ·exact absurd hsep.comm.weak (OnS.qat ⟨t,t0,t1,e⟩)
   ·exact hon
  have hs:Sep (pt c) (pt d) (pt a) (pt a):=by
   rcases q6g (a:=pt c) (b:=pt d) (c:=pt a) (d:=pt a) hcd' with h | ⟨s',t',s0',s1',_,_,e'⟩
   ·exact h
   ·exact absurd ⟨s',s0',s1',by rw [e'];unfold at_;ext <;> grind⟩ n1
  obtain ⟨e',e0,h1,h2⟩:=((hs.pert ((pt b).1-(pt a).1,(pt b).2-(pt a).2) ((pt b).1-(pt a).1,(pt b).2-(pt a).2)).and ⟨1,by decide,λe _ h=>h⟩:Ev λe=>_∧e<1).get
  exact OnS.qat (hall e' e0 h2) h1
 ·intro hs
  have hm:=hs.no_meet;unfold q0j;rw [ha,hb,hc,hd];simp only [Bool.true_and,Bool.not_true,Bool.false_eq_true,if_false];rw [if_neg,if_neg]
  ·rw [Bool.and_eq_true,← q8g]
   intro hx;obtain ⟨s,r,s0,s1,r0,r1,e⟩:=hx.point;exact hm ⟨s,r,Rat.le_of_lt s0,Rat.le_of_lt s1,Rat.le_of_lt r0,Rat.le_of_lt r1,e⟩
  ·simp only [Bool.or_eq_true,not_or]
   rw [q27 ha hc hd hcd,q27 hb hc hd hcd,q27 hc ha hb hab,q27 hd ha hb hab];exact ⟨λh=>hm (.left h),λh=>hm (.right h),λh=>hm (Meet.left h).turn,λh=>hm (Meet.right h).turn⟩
namespace Zn
def q0y (r:List P2) (p:P2) (i:Nat):Int :=
 let ax:=2*(rAt r i).1-p.1
 let ay:=2*(rAt r i).2-p.2
 let bx:=2*(rAt r (i+1)).1-p.1
 let b2:=2*(rAt r (i+1)).2-p.2
 if ay≤0∧0<b2∧0<ax*b2-ay*bx then 1 else if 0<ay∧b2≤0∧ax*b2-ay*bx<0 then -1 else 0
def onAt (r:List P2) (p:P2) (i:Nat):Bool :=
 let ax:=2*(rAt r i).1-p.1
 let ay:=2*(rAt r i).2-p.2
 let bx:=2*(rAt r (i+1)).1-p.1
 let b2:=2*(rAt r (i+1)).2-p.2
 ax*b2-ay*bx==0&&decide (ax*bx+ay*b2≤0)
def q5s (r:List P2) (p:P2):Int:=((List.range r.length).map (q0y r p)).sum
def onI (r:List P2) (p:P2):Bool:=(List.range r.length).any (onAt r p)
def q0w (r:List P2) (p:P2):Bool:=q5s r p != 0&&!onI r p
def q0m (r:List P2) (p:P2):Bool:=q5s r p==0&&!onI r p
def dbl (p:P2):P2:=(2*p.1,2*p.2)
def q1i (r:List P2) (p:P2):Int:=if !q05 r||(!onB p||q0m r (dbl p)) then -1 else if q0w r (dbl p) then 1 else 0
def q26 (r:List P2) (p:P2) (i:Nat):Bool:=decide (q0y r p i≠0)
def q1g (r:List P2) (p:P2):Int:=if onI r p then 0 else if ((List.range r.length).filter (q26 r p)).length % 2==1 then 1 else -1
end Zn
open Zn
theorem rAt_per (r:List P2) (i:Nat):rAt r (i+r.length)=rAt r i:=by unfold rAt;rw [Nat.add_mod_right]
theorem rAt_mod (r:List P2) (i:Nat):rAt r (i % r.length)=rAt r i:=by unfold rAt;rw [Nat.mod_mod]
theorem rAt_mod' (r:List P2) (i j:Nat):rAt r (i % r.length+j)=rAt r (i+j):=by unfold rAt;rw [Nat.add_mod,Nat.mod_mod,← Nat.add_mod]
theorem q23 {r:List P2} (hn:0<r.length) (h:r.all onB=true) (i:Nat):onB (rAt r i)=true:=by
 unfold rAt;have hi:=Nat.mod_lt i hn;rw [List.getD_eq_getElem?_getD,List.getElem?_eq_getElem hi];exact List.all_eq_true.1 h _ (List.getElem_mem hi)
theorem qh3 (a b c d:P2):0≤q0j a b c d:=by unfold q0j;split <;> (try split) <;> (try split) <;> decide
structure Val (r:List P2):Prop where
 three:3≤r.length
 on:r.all onB=true
 simple:q48 r=true
theorem q7u {r:List P2} (h:q05 r=true):Val r:=by
 unfold q05 at h;simp only [Bool.and_eq_true,decide_eq_true_eq] at h;exact ⟨h.1,h.2.2.1,h.2.2.2.2⟩
def vr (r:List P2) (i:Nat):Pt:=pt (rAt r i)
theorem Val.q4g {r:List P2} (h:Val r) (i:Nat):q0a (rAt r i) (rAt r (i+1)) (rAt r (i+2))≠0:=by
 have h3:=h.three;have hs:=List.all_eq_true.1 h.simple (i % r.length) (List.mem_range.2 (Nat.mod_lt i (by omega)))
 unfold q1v at hs;rw [Bool.and_eq_true,bne_iff_ne] at hs;have h1:=hs.1;rw [rAt_mod,rAt_mod',rAt_mod'] at h1;intro e;refine h1 ?_;unfold q18;rw [e];split <;> rfl
theorem Val.ne {r:List P2} (h:Val r) (i:Nat):rAt r i≠rAt r (i+1):=λe=>h.q4g i (by rw [← e];unfold q0a;rw [Int.sub_self,Int.sub_self,Int.zero_mul,Int.zero_mul];rfl)
theorem Val.on' {r:List P2} (h:Val r) (i:Nat):onB (rAt r i)=true:=q23 (by have:=h.three;omega) h.on i
theorem Val.apart0 {r:List P2} (h:Val r) {i k:Nat} (hi:i<r.length) (hk:k<r.length) (h1:i+2≤k) (h2:k+1<i+r.length):Sep (vr r i) (vr r (i+1)) (vr r k) (vr r (k+1)):=by
 have hs:=List.all_eq_true.1 h.simple i (List.mem_range.2 hi);unfold q1v at hs;rw [Bool.and_eq_true] at hs;have h4:=List.all_eq_true.1 hs.2 k (List.mem_range.2 hk);rw [decide_eq_true h1,decide_eq_true h2] at h4;have h5:q0j (rAt r i) (rAt r (i+1)) (rAt r k) (rAt r (k+1))=0:=by
  have:=qh3 (rAt r i) (rAt r (i+1)) (rAt r k) (rAt r (k+1))
  simp at h4;omega
 exact (cross_sep (h.on' i) (h.on' (i+1)) (h.on' k) (h.on' (k+1)) (h.ne i) (h.ne k)).1 h5
theorem Val.ring {r:List P2} (h:Val r):Ring r.length (vr r) where
 three:=h.three
 per i:=by unfold vr;rw [rAt_per]
 q4g i:=by
  unfold vr;rw [q94];exact λe=>h.q4g i (qgh.1 e)
 apart i k h1 h2:=by
  have h3:=h.three;have hd:=Nat.div_add_mod i r.length;have hm:=Nat.mod_lt i (show 0<r.length by omega)
  have sh:∀ m j,vr r (j+r.length*m)=vr r j:=λm j=>by
   unfold vr rAt;rw [Nat.add_mul_mod_self_left]
  have ei:∀ j,vr r (i % r.length+j)=vr r (i+j):=λj=>by
   have:=sh (i / r.length) (i % r.length+j)
   rw [← this];congr 1;omega
  have hk:∃ k0,k0+r.length*(i / r.length)=k:=⟨k-r.length*(i / r.length),by omega⟩
  obtain ⟨k0,hk0⟩:=hk;have ek:∀ j,vr r (k0+j)=vr r (k+j):=λj=>by
   have:=sh (i / r.length) (k0+j)
   rw [← this];congr 1;omega
  have e1:=ei 0;have e2:=ei 1;have e3:=ek 0;have e4:=ek 1;simp only [Nat.add_zero] at e1 e3;rw [← e1,← e2,← e3,← e4];by_cases hkn:k0<r.length
  ·exact h.apart0 hm hkn (by omega) (by omega)
  ·have g:=h.apart0 (i:=k0-r.length) (k:=i % r.length) (by omega) hm (by omega) (by omega)
   have s1:=sh 1 (k0-r.length);have s2:=sh 1 (k0-r.length+1);rw [Nat.mul_one] at s1 s2;rw [show k0-r.length+r.length=k0 by omega] at s1
   rw [show k0-r.length+1+r.length=k0+1 by omega] at s2
   rw [s1,s2];exact g.turn
def hp (p:P2):Pt:=((p.1:Rat) / 2,(p.2:Rat) / 2)
theorem cast_le {x y:Int}:(x:Rat)≤(y:Rat)↔x≤y:=Rat.intCast_le_intCast
theorem cast_lt {x y:Int}:(x:Rat)<(y:Rat)↔x<y:=Rat.intCast_lt_intCast
theorem turn_hp (a b p:P2):4*turn (pt a) (pt b) (hp p)=(((2*a.1-p.1)*(2*b.2-p.2)-(2*a.2-p.2)*(2*b.1-p.1):Int):Rat):=by
 unfold turn pt hp;simp only [Rat.intCast_sub,Rat.intCast_mul]
 grind
theorem half_le {a p:Int}:(a:Rat)≤(p:Rat) / 2↔2*a-p≤0:=by
 have:=cast_le (x:=2*a-p) (y:=0)
 simp only [Rat.intCast_sub,Rat.intCast_mul] at this;rw [← this];constructor <;> intro h <;> grind
theorem half_lt {a p:Int}:(p:Rat) / 2<(a:Rat)↔0<2*a-p:=by
 have:=cast_lt (x:=0) (y:=2*a-p)
 simp only [Rat.intCast_sub,Rat.intCast_mul] at this;rw [← this];constructor <;> intro h <;> grind
theorem turn_hp_pos (a b p:P2):0<turn (pt a) (pt b) (hp p)↔0<(2*a.1-p.1)*(2*b.2-p.2)-(2*a.2-p.2)*(2*b.1-p.1):=by
 rw [← cast_pos,← turn_hp];constructor <;> intro h <;> grind
theorem turn_hp_neg (a b p:P2):turn (pt a) (pt b) (hp p)<0↔(2*a.1-p.1)*(2*b.2-p.2)-(2*a.2-p.2)*(2*b.1-p.1)<0:=by
 rw [← qji,← turn_hp];constructor <;> intro h <;> grind
theorem turn_hp_zero (a b p:P2):turn (pt a) (pt b) (hp p)=0↔(2*a.1-p.1)*(2*b.2-p.2)-(2*a.2-p.2)*(2*b.1-p.1)=0:=by
 rw [← qgh,← turn_hp];constructor <;> intro h <;> grind
theorem half_cr (r:List P2) (p:P2) (i:Nat):q0y r p i=cr (vr r i) (vr r (i+1)) (hp p):=by
 unfold q0y cr vr;dsimp only;have e1:((pt (rAt r i)).2≤(hp p).2∧(hp p).2<(pt (rAt r (i+1))).2∧0<turn (pt (rAt r i)) (pt (rAt r (i+1))) (hp p))↔(2*(rAt r i).2-p.2≤0∧0<2*(rAt r (i+1)).2-p.2∧0<(2*(rAt r i).1-p.1)*(2*(rAt r (i+1)).2-p.2)-(2*(rAt r i).2-p.2)*(2*(rAt r (i+1)).1-p.1)):=by
  rw [turn_hp_pos,← half_le,← half_lt];rfl
 have e2:((pt (rAt r (i+1))).2≤(hp p).2∧(hp p).2<(pt (rAt r i)).2∧turn (pt (rAt r i)) (pt (rAt r (i+1))) (hp p)<0)↔(0<2*(rAt r i).2-p.2∧2*(rAt r (i+1)).2-p.2≤0∧(2*(rAt r i).1-p.1)*(2*(rAt r (i+1)).2-p.2)-(2*(rAt r i).2-p.2)*(2*(rAt r (i+1)).1-p.1)<0):=by
  rw [turn_hp_neg,← half_le,← half_lt];constructor
  ·rintro ⟨a,b,c⟩;exact ⟨b,a,c⟩
  ·rintro ⟨a,b,c⟩;exact ⟨b,a,c⟩
 by_cases h1:2*(rAt r i).2-p.2≤0∧0<2*(rAt r (i+1)).2-p.2∧0<(2*(rAt r i).1-p.1)*(2*(rAt r (i+1)).2-p.2)-(2*(rAt r i).2-p.2)*(2*(rAt r (i+1)).1-p.1)
 ·rw [if_pos h1,if_pos (e1.2 h1)]
 ·rw [if_neg h1,if_neg (λh=>h1 (e1.1 h))]
  by_cases h2:0<2*(rAt r i).2-p.2∧2*(rAt r (i+1)).2-p.2≤0∧(2*(rAt r i).1-p.1)*(2*(rAt r (i+1)).2-p.2)-(2*(rAt r i).2-p.2)*(2*(rAt r (i+1)).1-p.1)<0
  ·rw [if_pos h2,if_pos (e2.2 h2)]
  ·rw [if_neg h2,if_neg (λh=>h2 (e2.1 h))]
theorem qg8 (f:Nat→Int):∀ n,((List.range n).map f).sum=sumN n f
 | 0=>rfl
 | n+1=>by
  rw [List.range_succ,List.map_append,List.sum_append,qg8 f n];show sumN n f+(f n+0)=sumN n f+f n;omega
theorem wind_eq (r:List P2) (p:P2):q5s r p=wind r.length (vr r) (hp p):=by
 unfold q5s wind;rw [qg8,q8h λi _=>half_cr r p i]
theorem on_iff {r:List P2} (h:Val r) (p:P2):onI r p=true↔OnR r.length (vr r) (hp p):=by
 unfold onI OnR;rw [List.any_eq_true];have key:∀ i,onAt r p i=true↔OnS (vr r i) (vr r (i+1)) (hp p):=λi=>by
  rw [onS_iff (h.ring.ne i)];unfold vr;rw [turn_hp_zero];unfold onAt;dsimp only;rw [Bool.and_eq_true,beq_iff_eq,decide_eq_true_eq];have e:4*(((pt (rAt r i)).1-(hp p).1)*((pt (rAt r (i+1))).1-(hp p).1)+((pt (rAt r i)).2-(hp p).2)*((pt (rAt r (i+1))).2-(hp p).2))=(((2*(rAt r i).1-p.1)*(2*(rAt r (i+1)).1-p.1)+(2*(rAt r i).2-p.2)*(2*(rAt r (i+1)).2-p.2):Int):Rat):=by
   unfold pt hp;simp only [Rat.intCast_sub,Rat.intCast_mul,Rat.intCast_add]
   grind
  have e2:=cast_le (x:=(2*(rAt r i).1-p.1)*(2*(rAt r (i+1)).1-p.1)+(2*(rAt r i).2-p.2)*(2*(rAt r (i+1)).2-p.2)) (y:=0);rw [← e] at e2;rw [← e2];constructor
  ·rintro ⟨a,b⟩;exact ⟨a,by grind⟩
  ·rintro ⟨a,b⟩;exact ⟨a,by grind⟩
 constructor
 ·rintro ⟨i,hi,h1⟩;exact ⟨i,List.mem_range.1 hi,(key i).1 h1⟩
 ·rintro ⟨i,hi,h1⟩;exact ⟨i,List.mem_range.2 hi,(key i).2 h1⟩
theorem off_iff {r:List P2} (h:Val r) (p:P2):onI r p=false↔Off (vr r) (hp p):=by
 constructor
 ·intro h1
  rcases h.ring.qch (hp p) with h2 | h2
  ·rw [(on_iff h p).2 h2] at h1;cases h1
  ·exact h2
 ·intro h1
  cases h2:onI r p
  ·rfl
  ·exact absurd h1 (h.ring.not_off ((on_iff h p).1 h2))
theorem qkx {r:List P2} (h:Val r) (p:P2):q0w r p=true↔Inside r.length (vr r) (hp p):=by
 unfold q0w Inside;rw [Bool.and_eq_true,bne_iff_ne,Bool.not_eq_true',off_iff h,wind_eq,and_comm]
theorem qcu {r:List P2} (h:Val r) (p:P2):q0m r p=true↔Outside r.length (vr r) (hp p):=by
 unfold q0m Outside;rw [Bool.and_eq_true,beq_iff_eq,Bool.not_eq_true',off_iff h,wind_eq,and_comm]
theorem parity (f:Nat→Int) (hf:∀ i,f i=1∨f i=-1∨f i=0):∀ n,(((List.range n).filter λi=>decide (f i≠0)).length:Int) % 2=sumN n f % 2
 | 0=>rfl
 | n+1=>by
  rw [List.range_succ,List.filter_append,List.length_append];have ih:=parity f hf n;show _=(sumN n f+f n) % 2;rcases hf n with h | h | h
  ·rw [List.filter_cons_of_pos (by simp [h]),List.filter_nil,h,List.length_singleton];omega
  ·rw [List.filter_cons_of_pos (by simp [h]),List.filter_nil,h,List.length_singleton];omega
  ·rw [List.filter_cons_of_neg (by simp [h]),List.filter_nil,h,List.length_nil];omega
theorem half_cases (r:List P2) (p:P2) (i:Nat):q0y r p i=1∨q0y r p i=-1∨q0y r p i=0:=by
 unfold q0y;dsimp only;split
 ·exact .inl rfl
 ·split
  ·exact .inr (.inl rfl)
  ·exact .inr (.inr rfl)
theorem place_eq {r:List P2} (h:Val r) (p:P2):q1g r p=if onI r p then 0 else if q5s r p≠0 then 1 else -1:=by
 unfold q1g;cases ho:onI r p
 ·simp only [Bool.false_eq_true,if_false]
  have hpar:=parity (q0y r p) (half_cases r p) r.length;rw [← qg8] at hpar
  change (((List.range r.length).filter (q26 r p)).length:Int) % 2=q5s r p % 2 at hpar
  obtain ⟨L,hL,h1,_⟩:=h.ring.qfk;have h2:=h1 _ ((off_iff h p).1 ho);rw [← wind_eq] at h2;by_cases hw:q5s r p=0
  ·rw [hw] at hpar
   have:(((List.range r.length).filter (q26 r p)).length % 2==1)=false:=by rw [beq_eq_false_iff_ne];omega
   rw [this,if_neg (by simp),if_neg (λh=>h hw)]
  ·have:(((List.range r.length).filter (q26 r p)).length % 2==1)=true:=by rw [beq_iff_eq];omega
   rw [this,if_pos rfl,if_pos hw]
 ·rw [if_pos rfl,if_pos rfl]
namespace Zn
def q0f (a b:P2):Int:=if onB a&&onB b then (b.1-a.1)*(b.1-a.1)+(b.2-a.2)*(b.2-a.2) else 0
def q2j:List P2→List P2
 | p::q::r=>(p.1+q.1,p.2+q.2)::q2j (q::r)
 | _=>[]
structure Stops (y:List P2) (a b:P2) (l:List P2):Prop where
 up:l.Pairwise (λp q=>q0f a p<q0f a q)
 mem:∀ p,p∈l↔p=a∨p=b∨(p∈y∧betI p a b=true)
theorem qjl {f:P2→Int} {m:P2}:∀ {l:List P2},l.Pairwise (λp q=>f p<f q)→(m∈q2j l↔∃ p q,p∈l∧q∈l∧f p<f q∧(∀ r∈l,¬ (f p<f r∧f r<f q))∧m=(p.1+q.1,p.2+q.2))
 | [],_=>⟨λh=>(by cases h),λ⟨p,_,h,_⟩=>(by cases h)⟩
 | [a],_=>by
  constructor
  ·intro h;cases h
  ·rintro ⟨p,q,h,h',hl,_⟩
   rw [List.mem_singleton] at h h';subst h h';omega
 | a::b::r,h=>by
  obtain ⟨h1,h2⟩:=List.pairwise_cons.1 h;have ih:=qjl (m:=m) h2;have hab:=h1 b (List.mem_cons_self ..);have hb:∀ x∈b::r,f b≤f x:=λx hx=>by
   rcases List.mem_cons.1 hx with rfl | hx
   ·exact Int.le_refl _
   ·have:=(List.pairwise_cons.1 h2).1 x hx;omega
  show m∈(a.1+b.1,a.2+b.2)::q2j (b::r)↔_;rw [List.mem_cons,ih];constructor
  ·rintro (rfl | ⟨p,q,hp,hq,hl,hn,rfl⟩)
   ·refine ⟨a,b,List.mem_cons_self ..,List.mem_cons_of_mem _ (List.mem_cons_self ..),hab,λx hx=>?_,rfl⟩
    rcases List.mem_cons.1 hx with rfl | hx
    ·omega
    ·have:=hb x hx;omega
   ·refine ⟨p,q,List.mem_cons_of_mem _ hp,List.mem_cons_of_mem _ hq,hl,λx hx=>?_,rfl⟩
    rcases List.mem_cons.1 hx with rfl | hx
    ·have:=h1 p hp;omega
    ·exact hn x hx
  ·rintro ⟨p,q,hp,hq,hl,hn,rfl⟩
   rcases List.mem_cons.1 hp with rfl | hp'
   ·left
    rcases List.mem_cons.1 hq with rfl | hq
    ·omega
    ·by_cases hqb:f q=f b
     ·have:q=b:=by
       rcases List.mem_cons.1 hq with h | h
       ·exact h
       ·have:=(List.pairwise_cons.1 h2).1 q h;omega
      subst this;rfl
     ·have:=hb q hq
      exact absurd ⟨hab,by omega⟩ (hn b (List.mem_cons_of_mem _ (List.mem_cons_self ..)))
   ·right
    rcases List.mem_cons.1 hq with rfl | hq'
    ·have:=h1 p hp';omega
    ·exact ⟨p,q,hp',hq',hl,λx hx=>hn x (List.mem_cons_of_mem _ hx),rfl⟩
theorem qgp {f:P2→Int}:∀ {l m:List P2},l.Pairwise (λp q=>f p<f q)→m.Pairwise (λp q=>f p<f q)→(∀ p,p∈l↔p∈m)→l=m
 | [],[],_,_,_=>rfl
 | [],b::m,_,_,h=>absurd ((h b).2 (List.mem_cons_self ..)) (by simp)
 | a::l,[],_,_,h=>absurd ((h a).1 (List.mem_cons_self ..)) (by simp)
 | a::l,b::m,h1,h2,h=>by
  obtain ⟨a1,a2⟩:=List.pairwise_cons.1 h1;obtain ⟨b1,b2⟩:=List.pairwise_cons.1 h2;have hab:a=b:=by
   rcases List.mem_cons.1 ((h a).1 (List.mem_cons_self ..)) with e | ha
   ·exact e
   ·rcases List.mem_cons.1 ((h b).2 (List.mem_cons_self ..)) with e | hb
    ·exact e.symm
    ·have:=a1 b hb;have:=b1 a ha;omega
  subst hab;rw [qgp a2 b2 λp=>?_]
  constructor
  ·intro hp
   rcases List.mem_cons.1 ((h p).1 (List.mem_cons_of_mem _ hp)) with rfl | h'
   ·have:=a1 p hp;omega
   ·exact h'
  ·intro hp
   rcases List.mem_cons.1 ((h p).2 (List.mem_cons_of_mem _ hp)) with rfl | h'
   ·have:=b1 p hp;omega
   ·exact h'
end Zn
open Zn
theorem q6m {p a b:P2} (h:betI p a b=true):onB p=true:=by
 unfold betI at h;simp only [Bool.and_eq_true] at h;exact h.1.1
theorem qhe {a b p:P2} (ha:onB a=true) (hp:onB p=true) {t:Rat} (e:pt p=at_ (pt a) (pt b) t):((q0f a p:Int):Rat)=t*t*(((pt b).1-(pt a).1)*((pt b).1-(pt a).1)+((pt b).2-(pt a).2)*((pt b).2-(pt a).2)):=by
 unfold q0f;rw [ha,hp,Bool.and_self,if_pos rfl];have e1:((p.1:Int):Rat)=(pt a).1+t*((pt b).1-(pt a).1):=congrArg Prod.fst e;have e2:((p.2:Int):Rat)=(pt a).2+t*((pt b).2-(pt a).2):=congrArg Prod.snd e;simp only [Rat.intCast_sub,Rat.intCast_mul,Rat.intCast_add];rw [e1,e2];have e3:((a.1:Int):Rat)=(pt a).1:=rfl;have e4:((a.2:Int):Rat)=(pt a).2:=rfl;rw [e3,e4]
 grind
theorem sq_lt {s t q:Rat} (hs:0≤s) (ht:0≤t) (hq:0<q):s*s*q<t*t*q↔s<t:=by
 constructor
 ·intro h
  rcases q09 s t with h' | h'
  ·exact h'
  ·exfalso
   have a1:=Rat.mul_nonneg ht (show 0≤s-t by grind)
   have a2:=Rat.mul_nonneg hs (show 0≤s-t by grind)
   have:=Rat.mul_nonneg (show 0≤s*s-t*t by grind) (Rat.le_of_lt hq)
   grind
 ·intro h
  have a1:=Rat.mul_nonneg hs (show 0≤t-s by grind)
  have a2:=Rat.mul_pos (show 0<t by grind) (show 0<t-s by grind)
  have:=Rat.mul_pos (show 0<t*t-s*s by grind) hq
  grind
theorem q4s {y l:List P2} {a b:P2} (h:Stops y a b l) (ha:onB a=true) (hb:onB b=true) (hab:a≠b) {p:P2} (hp:p∈l):onB p=true∧OnS (pt a) (pt b) (pt p):=by
 rcases (h.mem p).1 hp with rfl | rfl | ⟨_,h'⟩
 ·exact ⟨ha,0,by decide,by decide,(q39 ..).symm⟩
 ·exact ⟨hb,1,by decide,by decide,(at_one ..).symm⟩
 ·exact ⟨q6m h',(q27 (q6m h') ha hb hab).1 h'⟩
theorem q4v {y l:List P2} {a b:P2} (h:Stops y a b l) (ha:onB a=true) (hb:onB b=true) (hab:a≠b) {p q:P2} (hp:p∈l) (hq:q∈l) {s t:Rat} (es:pt p=at_ (pt a) (pt b) s) (et:pt q=at_ (pt a) (pt b) t):q0f a p<q0f a q↔s<t:=by
 have hne:pt a≠pt b:=λh=>hab (q30 h)
 obtain ⟨op,s',s0,s1,e1⟩:=q4s h ha hb hab hp;obtain ⟨oq,t',t0,t1,e2⟩:=q4s h ha hb hab hq;have q1:s'=s:=q6o hne (e1.symm.trans es);have q2:t'=t:=q6o hne (e2.symm.trans et);subst q1 q2;rw [← cast_lt,qhe ha op es,qhe ha oq et];exact sq_lt s0 t0 (ne_sq hne)
theorem hp_mid (a b p q:P2) (s t:Rat) (es:pt p=at_ (pt a) (pt b) s) (et:pt q=at_ (pt a) (pt b) t):hp (p.1+q.1,p.2+q.2)=at_ (pt a) (pt b) ((s+t) / 2):=by
 have e1:((p.1:Int):Rat)=(at_ (pt a) (pt b) s).1:=congrArg Prod.fst es;have e2:((p.2:Int):Rat)=(at_ (pt a) (pt b) s).2:=congrArg Prod.snd es;have e3:((q.1:Int):Rat)=(at_ (pt a) (pt b) t).1:=congrArg Prod.fst et;have e4:((q.2:Int):Rat)=(at_ (pt a) (pt b) t).2:=congrArg Prod.snd et;unfold hp;simp only [Rat.intCast_add];rw [e1,e2,e3,e4];unfold at_
 ext <;> grind
theorem qjo {r:List P2} (hn:0<r.length) {p:P2}:p∈r↔∃ j,j<r.length∧rAt r j=p:=by
 unfold rAt;constructor
 ·intro h
  obtain ⟨j,hj,e⟩:=List.getElem_of_mem h;exact ⟨j,hj,by rw [Nat.mod_eq_of_lt hj,List.getD_eq_getElem?_getD,List.getElem?_eq_getElem hj];exact e⟩
 ·rintro ⟨j,hj,rfl⟩
  rw [Nat.mod_eq_of_lt hj,List.getD_eq_getElem?_getD,List.getElem?_eq_getElem hj];exact List.getElem_mem hj
theorem rAt_mem {r:List P2} (hn:0<r.length) (i:Nat):rAt r i∈r:=by
 rw [← rAt_mod];exact (qjo hn).2 ⟨_,Nat.mod_lt i hn,rfl⟩
theorem isMid_iff {x y:List P2} (hx:Val x) (hy:Val y) {L:Nat→List P2} (hL:∀ i,i<x.length→Stops y (rAt x i) (rAt x (i+1)) (L i)) (P:Pt) :
  q46 x.length (vr x) y.length (vr y) P↔∃ i,i<x.length∧∃ m∈q2j (L i),P=hp m:=by
 have hyn:0<y.length:=by have:=hy.three;omega
 constructor
 ·rintro ⟨i,s,t,hi,s0,st,t1,rfl,hs,ht,hn⟩
  refine ⟨i,hi,?_⟩;have hne:=hx.ne i;have h:=hL i hi;have ha:=hx.on' i;have hb:=hx.on' (i+1);have stop:∀ r,0≤r→r≤1→(r=0∨r=1∨∃ j,j<y.length∧vr y j=at_ (vr x i) (vr x (i+1)) r)→∃ p,p∈L i∧pt p=at_ (vr x i) (vr x (i+1)) r:=λr r0 r1 hr=>by
   rcases hr with rfl | rfl | ⟨j,hj,e⟩
   ·exact ⟨rAt x i,(h.mem _).2 (.inl rfl),(q39 ..).symm⟩
   ·exact ⟨rAt x (i+1),(h.mem _).2 (.inr (.inl rfl)),(at_one ..).symm⟩
   ·exact ⟨rAt y j,(h.mem _).2 (.inr (.inr ⟨rAt_mem hyn j,(q27 (hy.on' j) ha hb hne).2 ⟨r,r0,r1,e⟩⟩)),e⟩
  obtain ⟨p,hp1,hp2⟩:=stop s s0 (by grind) (by rcases hs with h | h;exact .inl h;exact .inr (.inr h))
  obtain ⟨q,hq1,hq2⟩:=stop t (by grind) t1 (by rcases ht with h | h;exact .inr (.inl h);exact .inr (.inr h))
  refine ⟨(p.1+q.1,p.2+q.2),(qjl h.up).2 ⟨p,q,hp1,hq1,(q4v h ha hb hne hp1 hq1 hp2 hq2).2 st,λz hz ⟨z1,z2⟩=>?_,rfl⟩,?_⟩
  ·obtain ⟨oz,r,r0,r1,er⟩:=q4s h ha hb hne hz
   have g1:=(q4v h ha hb hne hp1 hz hp2 er).1 z1;have g2:=(q4v h ha hb hne hz hq1 er hq2).1 z2;rcases (h.mem z).1 hz with rfl | rfl | ⟨hm,_⟩
   ·have:r=0:=q6o (a:=pt (rAt x i)) (b:=pt (rAt x (i+1))) (λh=>hne (q30 h)) (by rw [← er,q39])
    grind
   ·have:r=1:=q6o (a:=pt (rAt x i)) (b:=pt (rAt x (i+1))) (λh=>hne (q30 h)) (by rw [← er,at_one])
    grind
   ·obtain ⟨j,hj,rfl⟩:=(qjo hyn).1 hm
    exact hn j r g1 g2 er
  ·exact (hp_mid _ _ p q s t hp2 hq2).symm
 ·rintro ⟨i,hi,m,hm,rfl⟩
  have hne:=hx.ne i;have h:=hL i hi;have ha:=hx.on' i;have hb:=hx.on' (i+1);obtain ⟨p,q,hp1,hq1,hlt,hn,rfl⟩:=(qjl h.up).1 hm;obtain ⟨op,s,s0,s1,es⟩:=q4s h ha hb hne hp1;obtain ⟨oq,t,t0,t1,et⟩:=q4s h ha hb hne hq1;have st:=(q4v h ha hb hne hp1 hq1 es et).1 hlt;have kind:∀ z r,z∈L i→pt z=at_ (vr x i) (vr x (i+1)) r→r=0∨r=1∨∃ j,j<y.length∧vr y j=at_ (vr x i) (vr x (i+1)) r:=λz r hz er=>by
   rcases (h.mem z).1 hz with rfl | rfl | ⟨hm,_⟩
   ·exact .inl (q6o (a:=pt (rAt x i)) (b:=pt (rAt x (i+1))) (λh=>hne (q30 h)) (er.symm.trans (q39 ..).symm))
   ·exact .inr (.inl (q6o (a:=pt (rAt x i)) (b:=pt (rAt x (i+1))) (λh=>hne (q30 h)) (er.symm.trans (at_one ..).symm)))
   ·obtain ⟨j,hj,rfl⟩:=(qjo hyn).1 hm
    exact .inr (.inr ⟨j,hj,er⟩)
  refine ⟨i,s,t,hi,s0,st,t1,hp_mid _ _ p q s t es et,?_,?_,λj r r0 r1 e=>?_⟩
  ·rcases kind p s hp1 es with h | h | h
   ·exact .inl h
   ·grind
   ·exact .inr h
  ·rcases kind q t hq1 et with h | h | h
   ·grind
   ·exact .inl h
   ·exact .inr h
  ·have hz:rAt y j∈L i:=(h.mem _).2 (.inr (.inr ⟨rAt_mem hyn j,(q27 (hy.on' j) ha hb hne).2 ⟨r,by grind,by grind,e⟩⟩))
   exact hn _ hz ⟨(q4v h ha hb hne hp1 hz es e).2 r0,(q4v h ha hb hne hz hq1 e et).2 r1⟩
theorem qm0 {x y:List P2} (hx:Val x) (hy:Val y):q3h x.length (vr x) y.length (vr y)↔∀ i k,i<x.length→k<y.length→q0j (rAt x i) (rAt x (i+1)) (rAt y k) (rAt y (k+1))≠2:=by
 unfold q3h;have key:∀ i k,q3r (vr x i) (vr x (i+1)) (vr y k) (vr y (k+1))↔q0j (rAt x i) (rAt x (i+1)) (rAt y k) (rAt y (k+1))=2:=λi k=>by
  have a1:=hx.on' i;have a2:=hx.on' (i+1);have a3:=hy.on' k;have a4:=hy.on' (k+1);unfold vr;rw [q8g];unfold q0j;rw [a1,a2,a3,a4];simp only [Bool.true_and,Bool.not_true,Bool.false_eq_true,if_false];constructor
  ·rintro ⟨p1,p2⟩
   have hc:q3r (pt (rAt x i)) (pt (rAt x (i+1))) (pt (rAt y k)) (pt (rAt y (k+1))):=q8g.2 ⟨p1,p2⟩;have zero:∀ {a b c d:Pt},q3r a b c d→¬ OnS c d a∧¬ OnS c d b∧¬ OnS a b c∧¬ OnS a b d:=by
    intro a b c d ⟨c1,c2⟩;have z:∀ {a b p:Pt},OnS a b p→turn a b p=0:=λ⟨t,_,_,e⟩=>by rw [e];unfold turn at_;grind
    refine ⟨λh=>?_,λh=>?_,λh=>?_,λh=>?_⟩
    ·rw [z h,Rat.zero_mul] at c2;exact absurd c2 Rat.lt_irrefl
    ·rw [z h,Rat.mul_zero] at c2;exact absurd c2 Rat.lt_irrefl
    ·rw [z h,Rat.zero_mul] at c1;exact absurd c1 Rat.lt_irrefl
    ·rw [z h,Rat.mul_zero] at c1;exact absurd c1 Rat.lt_irrefl
   obtain ⟨n1,n2,n3,n4⟩:=zero hc;rw [← q27 a1 a3 a4 (hy.ne k)] at n1;rw [← q27 a2 a3 a4 (hy.ne k)] at n2;rw [← q27 a3 a1 a2 (hx.ne i)] at n3;rw [← q27 a4 a1 a2 (hx.ne i)] at n4;rw [if_neg (by simp only [Bool.or_eq_true,not_or];exact ⟨n1,n2,n3,n4⟩),if_pos (by rw [p1,p2];rfl)]
  ·intro h
   split at h
   ·cases h
   ·split at h
    ·rename_i hh;rw [Bool.and_eq_true] at hh;exact hh
    ·cases h
 constructor
 ·exact λh i k hi hk e=>h i k hi hk ((key i k).2 e)
 ·exact λh i k hi hk e=>h i k hi hk ((key i k).1 e)
namespace Zn
def insD (a p:P2):List P2→List P2
 | []=>[p]
 | q::r=>if q0f a p<q0f a q then p::q::r else if q0f a q<q0f a p then q::insD a p r else q::r
def q0p (y:List P2) (a b:P2):List P2:=(a::b::y.filter λp=>betI p a b).foldr (insD a) []
def q02 (x y:List P2):List P2:=(List.range x.length).flatMap λi=>q2j (q0p y (rAt x i) (rAt x (i+1)))
def q1t (x y:List P2):Bool:=(List.range x.length).any λi=>(List.range y.length).any λk=>q0j (rAt x i) (rAt x (i+1)) (rAt y k) (rAt y (k+1))==2
def q0i (x y:List P2):Bool:=q05 x&&(q05 y&&(!q1t x y&&!(q02 x y).any (q0m y)))
def q1k (x y:List P2):Bool:=q05 x&&(q05 y&&(!q1t x y&&((q02 x y).any (q0m y)&&(!(q02 x y).any (q0w y)&&!(q02 y x).any (q0w x)))))
theorem insD_up {a p:P2}:∀ {l:List P2},l.Pairwise (λp q=>q0f a p<q0f a q)→(insD a p l).Pairwise (λp q=>q0f a p<q0f a q)∧∀ q,q∈insD a p l→q=p∨q∈l
 | [],_=>⟨List.pairwise_singleton ..,λq h=>.inl (List.mem_singleton.1 h)⟩
 | q::r,h=>by
  obtain ⟨h1,h2⟩:=List.pairwise_cons.1 h;unfold insD;split
  ·rename_i hl
   refine ⟨List.pairwise_cons.2 ⟨λz hz=>?_,h⟩,λz hz=>List.mem_cons.1 hz⟩
   rcases List.mem_cons.1 hz with rfl | hz
   ·exact hl
   ·have:=h1 z hz;omega
  ·split
   ·rename_i hl
    obtain ⟨i1,i2⟩:=insD_up (p:=p) h2;refine ⟨List.pairwise_cons.2 ⟨λz hz=>?_,i1⟩,λz hz=>?_⟩
    ·rcases i2 z hz with rfl | hz
     ·exact hl
     ·exact h1 z hz
    ·rcases List.mem_cons.1 hz with rfl | hz
     ·exact .inr (List.mem_cons_self ..)
     ·rcases i2 z hz with e | hz
      ·exact .inl e
      ·exact .inr (List.mem_cons_of_mem _ hz)
   ·exact ⟨h,λz hz=>.inr hz⟩
theorem insD_mem {a p:P2}:∀ {l:List P2},(∀ q∈l,q0f a q=q0f a p→q=p)→(p∈insD a p l∧∀ q∈l,q∈insD a p l)
 | [],_=>⟨List.mem_singleton.2 rfl,λq h=>by cases h⟩
 | q::r,h=>by
  unfold insD;split
  ·exact ⟨List.mem_cons_self ..,λz hz=>List.mem_cons_of_mem _ hz⟩
  ·split
   ·obtain ⟨i1,i2⟩:=insD_mem (a:=a) (p:=p) (l:=r) λz hz=>h z (List.mem_cons_of_mem _ hz)
    refine ⟨List.mem_cons_of_mem _ i1,λz hz=>?_⟩
    rcases List.mem_cons.1 hz with rfl | hz
    ·exact List.mem_cons_self ..
    ·exact List.mem_cons_of_mem _ (i2 z hz)
   ·have:=h q (List.mem_cons_self ..) (by omega)
    subst this;exact ⟨List.mem_cons_self ..,λz hz=>hz⟩
theorem qkv {a:P2}:∀ {l:List P2},(∀ p∈l,∀ q∈l,q0f a p=q0f a q→p=q)→(l.foldr (insD a) []).Pairwise (λp q=>q0f a p<q0f a q)∧∀ p,p∈l.foldr (insD a) []↔p∈l
 | [],_=>⟨List.Pairwise.nil,λp=>Iff.rfl⟩
 | x::l,h=>by
  obtain ⟨i1,i2⟩:=qkv (l:=l) λp hp q hq=>h p (List.mem_cons_of_mem _ hp) q (List.mem_cons_of_mem _ hq)
  obtain ⟨u1,u2⟩:=insD_up (p:=x) i1;obtain ⟨m1,m2⟩:=insD_mem (a:=a) (p:=x) (l:=l.foldr (insD a) []) λq hq e=>h q (List.mem_cons_of_mem _ ((i2 q).1 hq)) x (List.mem_cons_self ..) e
  refine ⟨u1,λp=>⟨λhp=>?_,λhp=>?_⟩⟩
  ·rcases u2 p hp with rfl | hp
   ·exact List.mem_cons_self ..
   ·exact List.mem_cons_of_mem _ ((i2 p).1 hp)
  ·rcases List.mem_cons.1 hp with rfl | hp
   ·exact m1
   ·exact m2 p ((i2 p).2 hp)
end Zn
open Zn
theorem seg_inj {a b p q:P2} (ha:onB a=true) (hab:a≠b) (hp:onB p=true) (hq:onB q=true) (sp:OnS (pt a) (pt b) (pt p)) (sq:OnS (pt a) (pt b) (pt q)) (e:q0f a p=q0f a q):p=q:=by
 obtain ⟨s,s0,s1,es⟩:=sp;obtain ⟨t,t0,t1,et⟩:=sq;have h1:=qhe ha hp es;have h2:=qhe ha hq et;rw [e] at h1;have hne:=ne_sq (a:=pt a) (b:=pt b) (λh=>hab (q30 h))
 have:s=t:=by
  rcases q09 s t with h | h
  ·have:=(sq_lt s0 t0 hne).2 h;grind
  ·rcases q09 t s with h' | h'
   ·have:=(sq_lt t0 s0 hne).2 h';grind
   ·grind
 subst this;exact q30 (es.trans et.symm)
theorem q43 {y:List P2} {a b:P2} (ha:onB a=true) (hb:onB b=true) (hab:a≠b):Stops y a b (q0p y a b):=by
 have hs:∀ p∈a::b::y.filter λp=>betI p a b,onB p=true∧OnS (pt a) (pt b) (pt p):=λp hp=>by
  rcases List.mem_cons.1 hp with rfl | hp
  ·exact ⟨ha,0,by decide,by decide,(q39 ..).symm⟩
  ·rcases List.mem_cons.1 hp with rfl | hp
   ·exact ⟨hb,1,by decide,by decide,(at_one ..).symm⟩
   ·have:=(List.mem_filter.1 hp).2
    exact ⟨q6m this,(q27 (q6m this) ha hb hab).1 this⟩
 obtain ⟨h1,h2⟩:=qkv (a:=a) (l:=a::b::y.filter λp=>betI p a b) λp hp q hq e=>seg_inj ha hab (hs p hp).1 (hs q hq).1 (hs p hp).2 (hs q hq).2 e
 refine ⟨h1,λp=>(h2 p).trans ?_⟩
 rw [List.mem_cons,List.mem_cons,List.mem_filter]
theorem stops_eq {y l:List P2} {a b:P2} (ha:onB a=true) (hb:onB b=true) (hab:a≠b) (h:Stops y a b l):l=q0p y a b :=
 qgp h.up (q43 ha hb hab).up λp=>(h.mem p).trans ((q43 (y:=y) ha hb hab).mem p).symm
section
variable {x y:List P2} (hx:Val x) (hy:Val y)
include hx hy
theorem q6i (P:Pt):q46 x.length (vr x) y.length (vr y) P↔∃ m∈q02 x y,P=hp m:=by
 rw [isMid_iff hx hy (L:=λi=>q0p y (rAt x i) (rAt x (i+1))) λi _=>q43 (hx.on' i) (hx.on' (i+1)) (hx.ne i)]
 unfold q02;constructor
 ·rintro ⟨i,hi,m,hm,e⟩;exact ⟨m,List.mem_flatMap.2 ⟨i,List.mem_range.2 hi,hm⟩,e⟩
 ·rintro ⟨m,hm,e⟩
  obtain ⟨i,hi,hm⟩:=List.mem_flatMap.1 hm;exact ⟨i,List.mem_range.1 hi,m,hm,e⟩
theorem qif:q1t x y=false↔q3h x.length (vr x) y.length (vr y):=by
 rw [qm0 hx hy];unfold q1t;rw [List.any_eq_false];constructor
 ·intro h i k hi hk e
  have:=h i (List.mem_range.2 hi)
  rw [List.any_eq_true] at this;exact this ⟨k,List.mem_range.2 hk,by rw [e];rfl⟩
 ·intro h i hi hc
  obtain ⟨k,hk,e⟩:=List.any_eq_true.1 hc;exact h i k (List.mem_range.1 hi) (List.mem_range.1 hk) (eq_of_beq e)
theorem no_outside:(q02 x y).any (q0m y)=false↔∀ p,q46 x.length (vr x) y.length (vr y) p→¬ Outside y.length (vr y) p:=by
 rw [List.any_eq_false];constructor
 ·intro h p hp ho
  obtain ⟨m,hm,rfl⟩:=(q6i hx hy p).1 hp;exact h m hm ((qcu hy m).2 ho)
 ·intro h m hm ho
  exact h _ ((q6i hx hy _).2 ⟨m,hm,rfl⟩) ((qcu hy m).1 ho)
theorem no_inside:(q02 x y).any (q0w y)=false↔∀ p,q46 x.length (vr x) y.length (vr y) p→¬ Inside y.length (vr y) p:=by
 rw [List.any_eq_false];constructor
 ·intro h p hp ho
  obtain ⟨m,hm,rfl⟩:=(q6i hx hy p).1 hp;exact h m hm ((qkx hy m).2 ho)
 ·intro h m hm ho
  exact h _ ((q6i hx hy _).2 ⟨m,hm,rfl⟩) ((qkx hy m).1 ho)
end
end Geo
end Go.Proofs.YtednmlmllbkhhaaGreatDoor

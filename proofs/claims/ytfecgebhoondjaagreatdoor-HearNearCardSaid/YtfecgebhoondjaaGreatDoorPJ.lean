/-
  Several texts in one: R8L, R11I.
-/
import Derived.Test.YtfecgebhoondjaaGreatDoorPG
import Derived.RangeFuncOwn
import Derived.Test.YtfecgebhoondjaaGreatDoorPI
import Derived.RangeFuncNested
import Derived.OrdersIn
import Derived.TacticsIn
import Derived.Sort.LoopGhostIn
set_option linter.unusedVariables false
namespace Go.Proofs.YtfecgebhoondjaaGreatDoor
open Go.RowKit
namespace R
def Base.ctl (w0:Base) (M0' bzs' js':Nat→Prop) (lam0':Nat→Nat) (rd':Option Nat) (code':Nat→Code×Code):Base:={ w0 with M0:=M0',bzs:=bzs',js:=js',lam0:=lam0',rd:=rd',code:=code' }
def Cx.ctl (κ:Cx) (lam':Nat→Nat) (tau':Nat→Array Value) (M':Nat→Prop):Cx:={ κ with μ:={ κ.μ with lam:=lam',tau:=tau' },M:=M' }
section
variable {w0:Base} {w w':World} {κ:Cx} {st:St} {a:Act} {P:Program}
theorem qep {lam':Nat→Nat} {tau':Nat→Array Value} {M':Nat→Prop} (hk:Keeps w w' κ.S) {c:Cell} {v:Value} (h:c.Rep κ w v) (hc:∀ j,c=.yld j→lam' j=κ.μ.lam j):c.Rep (κ.ctl lam' tau' M') w' v :=
 q00 (κ:=κ) (κ':=κ.ctl lam' tau' M') rfl rfl rfl hk h (by
  cases c with
  | kseq f src=>exact (show (κ.ctl lam' tau' M').src src=κ.src src by cases src <;> rfl)
  | yld j=>exact hc j rfl
  | _=>first | rfl | trivial)
theorem ctl_drop {j l:Nat} {tau':Nat→Array Value} {M':Nat→Prop} (hk:Keeps w w' κ.S) {c:Cell} {v:Value} (h:c.Rep κ w v):(c.q3h j).Rep (κ.ctl (λi=>if i=j then l else κ.μ.lam i) tau' M') w' v:=by
 cases c with
 | yld i =>
  show (bif i.beq j then Cell.any else .yld i).Rep _ _ _
  cases e:i.beq j
  ·have:i≠j:=λe'=>by rw [e',Nat.beq_refl] at e;cases e
   exact qep (c:=.yld i) hk h (λj' hj'=>by injection hj' with hj';rw [← hj',if_neg this])
  ·trivial
 | _=>exact qep hk h (λj' hj'=>by cases hj')
theorem NestRep.moveC {lam':Nat→Nat} {tau':Nat→Array Value} {M':Nat→Prop} {n0:Nat} {maps:List (Nat×MRow)} {y:NRow} (h:NestRep n0 κ maps w y) (hV:∀ k p v,Cell.Rep κ w (.val k p) v→Cell.Rep (κ.ctl lam' tau' M') w' (.val k p) v) (hm:∀ (g:Nat) es c,w.heap[g]? = some (Obj.map es c)→w'.heap[g]? = some (Obj.map es c)):NestRep n0 (κ.ctl lam' tau' M') maps w' y where
 out:=by
  obtain ⟨es,clock,h1,h2,h3,h4,h5⟩:=h.out;exact ⟨es,clock,hm _ _ _ h1,h2,λi x hx=>let ⟨e,he,q1,q2⟩:=h3 i x hx;⟨e,he,q12 hV _ _ q1,q2⟩,h4,h5⟩
 inn:=λi x hx=>by
  obtain ⟨g,es,clock,h1,h2,h3,h4,h5,h6⟩:=h.inn i x hx;exact ⟨g,es,clock,h1,hm _ _ _ h2,h3.mono hV,h4,h5,h6⟩
 miss:=h.miss
 inj:=h.inj
 low:=h.low
 apart:=h.apart
theorem q4k.moveC {lam':Nat→Nat} {tau':Nat→Array Value} {M':Nat→Prop} {n0:Nat} {z:ItP} {g:Nat} (h:q4k n0 κ w z g) (hV:∀ k p v,Cell.Rep κ w (.val k p) v→Cell.Rep (κ.ctl lam' tau' M') w' (.val k p) v)
  (hi:∀ (g:Nat) a b c d,w.heap[g]? = some (Obj.mapIter a b c d)→w'.heap[g]? = some (Obj.mapIter a b c d)) (hm:∀ (g:Nat) es c,w.heap[g]? = some (Obj.map es c)→w'.heap[g]? = some (Obj.map es c)):q4k n0 (κ.ctl lam' tau' M') w' z g:=by
 obtain ⟨h0,h⟩:=h;refine ⟨h0,?_⟩;rcases h with ⟨a,b,s,h1,h2⟩ | ⟨bm,es,clock,seen,c0,h1,h2,h3,h4,h5,h6,h7,h8⟩
 ·exact .inl ⟨a,b,s,hi _ _ _ _ _ h1,h2⟩
 ·exact .inr ⟨bm,es,clock,seen,c0,(show (κ.ctl lam' tau' M').src z.src=κ.src z.src by cases z.src <;> rfl).trans h1,hm _ _ _ h2,hi _ _ _ _ _ h3,h4,h5,h6,h7.mono hV,λx hx=>let ⟨e,s',q1,q2,q3,q4,q5⟩:=h8 x hx;⟨e,s',q1,q2,q3,q12 hV _ _ q4,q12 hV _ _ q5⟩⟩
theorem Rel.ctl {st':St} (h:Rel w0 κ st a w) {row:Option Nat} (hgr:w.grownBy w' row) (hrow:∀ k,row=some k→w0.n0≤k∧∃ o:Obj,o.ctl=true∧w.heap[k]? = some o) (hkeep:Keeps w w' κ.S)
  {M0' bzs' js':Nat→Prop} {lam0':Nat→Nat} {rd':Option Nat} {code':Nat→Code×Code} {lam':Nat→Nat} {tau':Nat→Array Value} {M':Nat→Prop}
  (hn:st'.n=st.n) (hrows:st'.rows=st.rows) (hmaps:st'.maps=st.maps∧st'.nest=st.nest∧st'.iters=st.iters∧st'.fam=st.fam)
  (henv:∀ t v,(st.get t).Rep κ w v→(st'.get t).Rep (κ.ctl lam' tau' M') w' v) (hbox:∀ b bs,st'.box b=some bs→∃ bs0,st.box b=some bs0∧∀ vs,q08 κ w bs0 vs→q08 (κ.ctl lam' tau' M') w' bs vs)
  (hsav:∀ t v,(look (.c (.one .any)) t st.sav).Rep κ w v→(look (.c (.one .any)) t st'.sav).Rep (κ.ctl lam' tau' M') w' v)
  (Ds:List Nat) (hDs:Ds.Nodup∧∀ D∈Ds,M' D) (hmarks:∀ D,M0' D∨M' D→w0.n0≤D∧w'.heap[D]? = some (.deferred (some []))) (hfresh:∀ D,M' D→¬ M0' D)
  (hbusy:∀ l,bzs' l→w0.n0≤l∧∃ r:Loop,w'.heap[l]? = some (.loop r)) (hlps:∀ (i:Nat) L,st'.lps[i]? = some L→LpRep w0.n0 code' (κ.ctl lam' tau' M') w' L)
  (hlpsd:∀ (i k:Nat) L L',st'.lps[i]? = some L→st'.lps[k]? = some L'→lam' L.j=lam' L'.j→i=k) (hscope:∀ j,js' j→lam' j=lam0' j∧∃ (i:Nat) (L:Lp),st'.lps[i]? = some L∧L.j=j) :
  Rel (w0.ctl M0' bzs' js' lam0' rd' code') (κ.ctl lam' tau' M') st' { a with defers:=Ds.map Mark } w':=by
 have hrw:∀ r,st'.row r=st.row r:=λr=>by show look? r st'.rows=look? r st.rows;rw [hrows]
 have hV:∀ k p v,Cell.Rep κ w (.val k p) v→Cell.Rep (κ.ctl lam' tau' M') w' (.val k p) v:=λk p v hv=>qep hkeep hv (λj e=>by cases e)
 have hsame:∀ (g:Nat) (o:Obj),o.ctl=false→w.heap[g]? = some o→w'.heap[g]? = some o:=λg o ho hg=>(hgr.block g (lt_of_some hg) (λe=>by
  obtain ⟨_,o',h1,h2⟩:=hrow g e.symm;rw [hg] at h2;injection h2 with h2;rw [← h2,ho] at h1;cases h1)).trans hg
 have hm:∀ (g:Nat) es c,w.heap[g]? = some (Obj.map es c)→w'.heap[g]? = some (Obj.map es c):=λg es c=>hsame g _ rfl
 have hrow2:∀ k,row=some k→w0.n0≤k∧(∀ b bs,st.box b=some bs→κ.β b≠k)∧∀ r x,st.row r=some x→(κ.ρ r).ownBlock≠some k:=λk hk=>by
  obtain ⟨h1,o,h2,h3⟩:=hrow k hk;refine ⟨h1,λb bs hb e=>?_,λr x hx e=>?_⟩
  ·obtain ⟨us,ty,hbk,_⟩:=h.box b bs hb
   rw [e] at hbk;rw [show w.heap[k]? = _ from hbk] at h3;injection h3 with h3;rw [← h3] at h2;cases h2
  ·obtain ⟨cells,ho,_⟩:=h.row r x hx
   exact q34 ho k e o (q54 h2) h3
 exact {
  defers:=⟨Ds,rfl,hDs⟩
  size:=by rw [hn];exact h.size
  env:=λt=>henv t _ (h.env t)
  box:=λb bs hb=>by
   obtain ⟨bs0,hb0,hc⟩:=hbox b bs hb;obtain ⟨us,ty,hbk,hr,h1,h2⟩:=h.box b bs0 hb0;exact ⟨us,ty,(hgr.block _ hbk.lt (λe=>(hrow2 _ e.symm).2.1 b bs0 hb0 rfl)).trans hbk,hc us hr,h1,h2⟩
  apart:=λb b' bs bs' hb hb' e=>by
   obtain ⟨bs0,hb0,_⟩:=hbox b bs hb;obtain ⟨bs0',hb0',_⟩:=hbox b' bs' hb';exact h.apart b b' _ _ hb0 hb0' e
  row:=λr x hx=>by
   rw [hrw] at hx;obtain ⟨cells,ho,hc,hnn⟩:=h.row r x hx;refine ⟨cells,ho.kept hgr ?_,hc.keeps (κ:=κ) (κ':=κ.ctl lam' tau' M') hkeep (λg hg _=>hg),λg hg=>⟨(hnn g hg).1,λb bs hb e=>?_⟩⟩
   ·show (κ.ρ r).ownBlock=none∨(κ.ρ r).ownBlock≠row
    cases hb:(κ.ρ r).ownBlock with
    | none=>exact .inl rfl
    | some g =>
     refine .inr λe=>?_
     exact (hrow2 g e.symm).2.2 r x hx hb
   ·obtain ⟨bs0,hb0,_⟩:=hbox b bs hb
    exact (hnn g hg).2 b bs0 hb0 e
  rows:=λr r' x x' hx hx' g hg hg'=>by
   rw [hrw] at hx hx';exact h.rows r r' x x' hx hx' g hg hg'
  bound:=λg hg=>Nat.lt_of_lt_of_le (h.bound g hg) hgr.size
  below:=h.below.grown hgr h.low (λk hk=>(hrow k hk).1)
  old:=h.old
  ext:={
   sav:=λt=>hsav t _ (h.ext.sav t)
   map:=λm y hy=>by
    have hy:look? m st'.maps=some y:=hy;rw [hmaps.1] at hy;obtain ⟨es,clock,h1,h2,h3⟩:=h.ext.map m y hy;exact ⟨es,clock,hm _ _ _ h1,h2.mono hV,h3⟩
   maps:=λm m' y y' hy hy' e=>by
    have hy:look? m st'.maps=some y:=hy;have hy':look? m' st'.maps=some y':=hy';rw [hmaps.1] at hy hy';exact h.ext.maps m m' y y' hy hy' e
   nest:=λy hy=>by
    rw [hmaps.2.1] at hy;rw [hmaps.1];exact (h.ext.nest y hy).moveC hV hm
   iter:=λi z hz=>by
    have hz:look? i st'.iters=some z:=hz;rw [hmaps.2.2.1] at hz;exact (h.ext.iter i z hz).moveC hV (λg a b c d=>hsame g _ rfl) hm
   iters:=λi j z z' hz hz' e=>by
    have hz:look? i st'.iters=some z:=hz;have hz':look? j st'.iters=some z':=hz';rw [hmaps.2.2.1] at hz hz';exact h.ext.iters i j z z' hz hz' e
   fam:=λy hy=>by
    rw [hmaps.2.2.2] at hy;have hF:=h.ext.fam y hy;refine hF.move rfl rfl ⟨rfl,rfl⟩ hV (λes c hh=>hm _ _ _ hh) (λg h1 h2 h3=>hgr.block g h2 (λe=>?_)) (λg h1 h2=>⟨h1.1,λb bs hb=>?_,λr x hx=>?_⟩) (λm z hz=>?_)
    ·obtain ⟨_,o,h4,h5⟩:=hrow g e.symm
     exact h3 o (q54 h4) h5
    ·obtain ⟨bs0,hb0,_⟩:=hbox b bs hb
     exact h1.2.1 b bs0 hb0
    ·rw [hrows] at hx;exact h1.2.2 r x hx
    ·rw [hmaps.1] at hz;exact hF.apart m z hz
   excl:=by rw [hmaps.2.2.2,hmaps.2.1];exact h.ext.excl
   marks:=hmarks
   fresh:=hfresh
   busy:=hbusy
   lps:=hlps
   lpsd:=hlpsd
   scope:=hscope } }
theorem qa5 {j:Nat}:∀ {l:List Lp},q5b j l=none→∀ (i:Nat) L,l[i]? = some L→L.j≠j
 | L0::r,h,0,L,hL=>by
  injection hL with hL;subst hL;have h:(bif L0.j.beq j then some L0 else q5b j r)=none:=h
  intro e;rw [e,Nat.beq_refl] at h;cases h
 | L0::r,h,i+1,L,hL=>by
  have h:(bif L0.j.beq j then some L0 else q5b j r)=none:=h
  cases e:L0.j.beq j
  ·rw [e] at h;exact qa5 h i L hL
  ·rw [e] at h;cases h
theorem qa1 {j:Nat} {L:Lp}:∀ {l:List Lp},q5b j l=some L→L.j=j∧∃ i:Nat,l[i]? = some L
 | [],h=>by cases h
 | L0::r,h=>by
  have h:(bif L0.j.beq j then some L0 else q5b j r)=some L:=h
  cases e:L0.j.beq j
  ·rw [e] at h
   obtain ⟨h1,i,h2⟩:=qa1 h;exact ⟨h1,i+1,h2⟩
  ·rw [e] at h;injection h with h;subst h
   exact ⟨Nat.eq_of_beq_eq_true e,0,rfl⟩
theorem q84 {j:Nat}:∀ {l:List Lp} {i:Nat} {L:Lp},(q33 j l)[i]? = some L→L.j≠j∧∃ k:Nat,l[k]? = some L
 | L0::r,i,L,h=>by
  have h:(bif L0.j.beq j then q33 j r else L0::q33 j r)[i]? = some L:=h
  cases e:L0.j.beq j
  ·rw [e] at h
   cases i with
   | zero =>
    injection h with h;subst h;exact ⟨λe'=>(by rw [e',Nat.beq_refl] at e;cases e),0,rfl⟩
   | succ i =>
    obtain ⟨h1,k,h2⟩:=q84 (l:=r) (i:=i) (L:=L) h;exact ⟨h1,k+1,h2⟩
  ·rw [e] at h
   obtain ⟨h1,k,h2⟩:=q84 (l:=r) (i:=i) (L:=L) h;exact ⟨h1,k+1,h2⟩
theorem qka {j:Nat}:∀ {l:List Lp} {k:Nat} {L:Lp},l[k]? = some L→L.j≠j→∃ i:Nat,(q33 j l)[i]? = some L
 | L0::r,0,L,h,hne=>by
  injection h with h;subst h;have e:L0.j.beq j=false:=Bool.eq_false_iff.mpr λe=>hne (Nat.eq_of_beq_eq_true e)
  exact ⟨0,by show (bif L0.j.beq j then q33 j r else L0::q33 j r)[0]? = _;rw [e];rfl⟩
 | L0::r,k+1,L,h,hne=>by
  obtain ⟨i,hi⟩:=qka (l:=r) (k:=k) (L:=L) h hne;cases e:L0.j.beq j
  ·exact ⟨i+1,by show (bif L0.j.beq j then q33 j r else L0::q33 j r)[i+1]? = _;rw [e];exact hi⟩
  ·exact ⟨i,by show (bif L0.j.beq j then q33 j r else L0::q33 j r)[i]? = _;rw [e];exact hi⟩
theorem qjr {j:Nat} (f:Lp→Nat):∀ {l:List Lp},(∀ (i k:Nat) L L',l[i]? = some L→l[k]? = some L'→f L=f L'→i=k)→∀ (i k:Nat) L L',(q33 j l)[i]? = some L→(q33 j l)[k]? = some L'→f L=f L'→i=k
 | [],_,i,k,L,L',h,_,_=>by cases h
 | L0::r,hd,i,k,L,L',h,h',e=>by
  have ih:=qjr (j:=j) f (l:=r) (λi k L L' h h' e=>by have:=hd (i+1) (k+1) L L' h h' e;omega)
  have h:(bif L0.j.beq j then q33 j r else L0::q33 j r)[i]? = some L:=h
  have h':(bif L0.j.beq j then q33 j r else L0::q33 j r)[k]? = some L':=h'
  cases eb:L0.j.beq j
  ·rw [eb] at h h'
   cases i with
   | zero =>
    cases k with
    | zero=>rfl
    | succ k =>
     injection h with h;subst h;obtain ⟨_,k',hk'⟩:=q84 (l:=r) (i:=k) (L:=L') h';have:=hd 0 (k'+1) L0 L' rfl hk' e;omega
   | succ i =>
    cases k with
    | zero =>
     injection h' with h';subst h';obtain ⟨_,k',hk'⟩:=q84 (l:=r) (i:=i) (L:=L) h;have:=hd (k'+1) 0 L L0 hk' rfl e;omega
    | succ k=>rw [ih i k L L' h h' e]
  ·rw [eb] at h h'
   exact ih i k L L' h h' e
theorem qcn {j:Nat} {b:Bool} {x:Option Jmp}:∀ {l:List Lp} {i:Nat} {L:Lp},(qa7 j b x l)[i]? = some L→∃ L0,l[i]? = some L0∧((L0.j=j∧L={ L0 with busy:=b,jump:=x })∨(L0.j≠j∧L=L0))
 | L0::r,0,L,h=>by
  have h:some (bif L0.j.beq j then { L0 with busy:=b,jump:=x } else L0)=some L:=h
  injection h with h;cases e:L0.j.beq j
  ·rw [e] at h;exact ⟨L0,rfl,.inr ⟨λe'=>(by rw [e',Nat.beq_refl] at e;cases e),h.symm⟩⟩
  ·rw [e] at h;exact ⟨L0,rfl,.inl ⟨Nat.eq_of_beq_eq_true e,h.symm⟩⟩
 | L0::r,i+1,L,h=>qcn (l:=r) (i:=i) (L:=L) h
theorem setLp_has {j:Nat} {b:Bool} {x:Option Jmp}:∀ {l:List Lp} {i:Nat} {L0:Lp},l[i]? = some L0→∃ L,(qa7 j b x l)[i]? = some L∧L.j=L0.j
 | L0::r,0,L,h=>by
  injection h with h;subst h;refine ⟨_,rfl,?_⟩;show (bif L0.j.beq j then { L0 with busy:=b,jump:=x } else L0).j=L0.j
  cases L0.j.beq j <;> rfl
 | L0::r,i+1,L,h=>setLp_has (l:=r) (i:=i) (L0:=L) h
theorem LpRep.moveC {κ':Cx} {n0:Nat} {C C':Nat→Code×Code} {L L':Lp} {g:AV→AV} (h:LpRep n0 C κ w L) (e:LpEq g L L') (hl:κ'.μ.lam L.j=κ.μ.lam L.j) (ht:κ'.μ.tau L.j=κ.μ.tau L.j) (hC:C' L.j=C L.j) (H:∀ (c:AV) v,c.Rep κ w v→(g c).Rep κ' w' v)
  (hm:∀ r:Loop,w.heap[κ.μ.lam L.j]? = some (.loop r)→w'.heap[κ.μ.lam L.j]? = some (.loop r)):LpRep n0 C' κ' w' L' where
 low:=by rw [e.j,hl];exact h.low
 size:=by rw [e.j,ht,e.n];exact h.size
 rec_:=by
  obtain ⟨r,h1,h2,h3,h4,h5,h6,h7⟩:=h.rec_;rw [e.j,hl,ht,hC,e.ps,e.busy,e.jump];exact ⟨r,hm _ h1,h2,h3,h4,h5,h6,h7⟩
 env:=λt=>by rw [e.j,ht,e.env];exact H _ _ (h.env t)
theorem Rel.pushAny (h:Rel w0 κ st a w) (hf:q5b st.off st.lps=none) {ps:Array Tmp} {x y:Code} {r:Loop} (hr:r.tmps=a.tmps∧r.params=ps∧r.assign=x∧r.body=y∧r.state=.ready∧r.pending=none)
  (hgr:w.grownBy w' none) (mk:List Nat) (hmk:mk.Nodup∧∀ D∈mk,w.heap.size≤D∧w'.heap[D]? = some (.deferred (some []))) {l:Nat} (hl:w.heap.size≤l) (hrec:w'.heap[l]? = some (.loop r)) :
  ∃ κ',Rel (w0.ctl w0.M0 w0.bzs (λj=>w0.js j∨j=st.off) (λj=>if j=st.off then l else w0.lam0 j) w0.rd (λj=>if j=st.off then (x,y) else w0.code j)) κ' (st.pushLp ps.toList) { a with defers:=mk.map Mark++a.defers } w'∧κ'.μ.lam st.off=l∧κ'.ptr=κ.ptr:=by
 have hkeep:Keeps w w' κ.S:=⟨hgr.size,λg o _ hlt=>World.cell?_of_block (hgr.block g hlt (by simp))⟩
 have hsame:∀ (g:Nat) (o:Obj),w.heap[g]? = some o→w'.heap[g]? = some o:=λg o hg=>(hgr.block g (lt_of_some hg) (by simp)).trans hg
 obtain ⟨Ds,hDs,hnd,hDM⟩:=h.defers
 let lam':Nat→Nat:=λi=>if i=st.off then l else κ.μ.lam i
 let tau':Nat→Array Value:=λi=>if i=st.off then a.tmps else κ.μ.tau i
 have H:∀ {M':Nat→Prop} (c:Cell) v,c.Rep κ w v→(c.q3h st.off).Rep (κ.ctl lam' tau' M') w' v:=λc v hr=>ctl_drop hkeep hr
 have ha:({ a with defers:=mk.map Mark++a.defers }:Act)={ a with defers:=(mk++Ds).map Mark }:=by rw [hDs,List.map_append]
 rw [ha];refine ⟨κ.ctl lam' tau' (λD=>κ.M D∨D∈mk),Rel.ctl (st':=st.pushLp ps.toList) h (row:=none) hgr (λk hk=>by cases hk) hkeep rfl rfl ⟨rfl,rfl,rfl,rfl⟩ (λt v hv=>?_) (λb bs hb=>?_) (λt v hv=>?_) (mk++Ds) ⟨?_,λD hD=>?_⟩ (λD hD=>?_) (λD hD h0=>?_) (λg hg=>?_) (λi L hL=>?_) (λi k L L' hL hL' e=>?_) (λj hj=>?_),by show (if _ then _ else _)=_;rw [if_pos rfl],rfl⟩
 ·have e:(st.pushLp ps.toList).get t=(st.get t).mapC (Cell.q3h st.off):=qjk _ rfl st t
  rw [e];exact q2u H hv
 ·obtain ⟨bs0,h1,rfl⟩:=qiw (Cell.q3h st.off) st hb
  exact ⟨bs0,h1,λvs hv=>q4r H hv⟩
 ·show AV.Rep _ _ (look _ t (st.sav.map λ(t,v)=>(t,v.mapC (Cell.q3h st.off)))) _
  rw [q3c _ rfl];exact q2u H hv
 ·refine List.nodup_append.2 ⟨hmk.1,hnd,λD hD D' hD' e=>?_⟩
  subst e;have h1:=(hmk.2 D hD).1;have h2:=lt_of_some (h.ext.marks D (.inr (hDM D hD'))).2;omega
 ·rcases List.mem_append.1 hD with h1 | h1
  ·exact .inr h1
  ·exact .inl (hDM D h1)
 ·rcases hD with h1 | h1 | h1
  ·exact ⟨(h.ext.marks D (.inl h1)).1,hsame _ _ (h.ext.marks D (.inl h1)).2⟩
  ·exact ⟨(h.ext.marks D (.inr h1)).1,hsame _ _ (h.ext.marks D (.inr h1)).2⟩
  ·exact ⟨Nat.le_trans h.low (hmk.2 D h1).1,(hmk.2 D h1).2⟩
 ·rcases hD with h1 | h1
  ·exact h.ext.fresh D h1 h0
  ·have h2:=lt_of_some (h.ext.marks D (.inl h0)).2
   have:=(hmk.2 D h1).1
   omega
 ·obtain ⟨h1,r,h2⟩:=h.ext.busy g hg
  exact ⟨h1,r,hsame _ _ h2⟩
 ·cases i with
  | zero =>
   injection hL with hL;subst hL;refine ⟨?_,?_,⟨r,?_,?_,?_,?_,?_,?_,?_⟩,λt=>?_⟩
   ·show _≤(if st.off=st.off then l else _);rw [if_pos rfl];exact Nat.le_trans h.low hl
   ·show (if st.off=st.off then a.tmps else _).size=st.n;rw [if_pos rfl];exact h.size
   ·show w'.heap[if st.off=st.off then l else _]? = _;rw [if_pos rfl];exact hrec
   ·show r.tmps=if st.off=st.off then a.tmps else _;rw [if_pos rfl];exact hr.1
   ·rw [hr.2.1]
   ·show r.assign=(if st.off=st.off then (x,y) else _).1;rw [if_pos rfl];exact hr.2.2.1
   ·show r.body=(if st.off=st.off then (x,y) else _).2;rw [if_pos rfl];exact hr.2.2.2.1
   ·exact hr.2.2.2.2.1
   ·exact hr.2.2.2.2.2
   ·show AV.Rep _ _ (look _ t (st.env.map λ(t,v)=>(t,v.mapC (Cell.q3h st.off)))) ((if st.off=st.off then a.tmps else _).getD t Go.undef)
    rw [if_pos rfl,q3c _ rfl];exact q2u H (h.env t)
  | succ i =>
   have hL:(st.lps.map (Lp.mapA (AV.mapC (Cell.q3h st.off))))[i]? = some L:=hL;obtain ⟨L0,h1,e⟩:=q4i (AV.mapC (Cell.q3h st.off)) rfl st.lps i L hL;have hne:=qa5 hf i L0 h1;exact (h.ext.lps i L0 h1).moveC e (if_neg hne) (if_neg hne) (if_neg hne) (λc v hr=>q2u H hr) (λr hr=>hsame _ _ hr)
 ·have old:∀ (i:Nat) L,(st.lps.map (Lp.mapA (AV.mapC (Cell.q3h st.off))))[i]? = some L→∃ L0,st.lps[i]? = some L0∧L.j=L0.j∧lam' L.j=κ.μ.lam L0.j∧κ.μ.lam L0.j<w.heap.size:=λi L hL=>by
   obtain ⟨L0,h1,e⟩:=q4i (AV.mapC (Cell.q3h st.off)) rfl st.lps i L hL;have hne:=qa5 hf i L0 h1;obtain ⟨r,h2,_⟩:=(h.ext.lps i L0 h1).rec_;refine ⟨L0,h1,e.j,?_,lt_of_some h2⟩;show (if L.j=st.off then l else κ.μ.lam L.j)=_
   rw [e.j,if_neg hne]
  have new:lam' st.off=l:=if_pos rfl;cases i with
  | zero =>
   cases k with
   | zero=>rfl
   | succ k =>
    injection hL with hL;subst hL;obtain ⟨L0,h1,h2,h3,h4⟩:=old k L' hL';rw [h3,show lam' (⟨st.off,_,_,_,_,_⟩:Lp).j=l from new] at e;omega
  | succ i =>
   cases k with
   | zero =>
    injection hL' with hL';subst hL';obtain ⟨L0,h1,h2,h3,h4⟩:=old i L hL;rw [h3,show lam' (⟨st.off,_,_,_,_,_⟩:Lp).j=l from new] at e;omega
   | succ k =>
    obtain ⟨L0,h1,h2,h3,h4⟩:=old i L hL;obtain ⟨L0',h1',h2',h3',h4'⟩:=old k L' hL';rw [h3,h3'] at e;rw [h.ext.lpsd i k L0 L0' h1 h1' e]
 ·rcases Classical.em (j=st.off) with e | e
  ·subst e
   exact ⟨by show (if _ then _ else _)=(if _ then _ else _);rw [if_pos rfl,if_pos rfl],0,_,rfl,rfl⟩
  ·obtain ⟨h1,i,L,h2,h3⟩:=h.ext.scope j (hj.resolve_right e)
   refine ⟨by show (if _ then _ else _)=(if _ then _ else _);rw [if_neg e,if_neg e];exact h1,i+1,Lp.mapA (AV.mapC (Cell.q3h st.off)) L,?_,h3⟩
   show (st.lps.map (Lp.mapA (AV.mapC (Cell.q3h st.off))))[i]? = _;rw [List.getElem?_map,h2];rfl
theorem qaq {l:Nat} {o:Obj}:w.grownBy (w.putObj l o) (some l):=grownBy_putObj' w l o
theorem q7e {l:Nat} {o o':Obj} (hl:w.heap[l]? = some o) (ho:o.ctl=true) (ho':o'.ctl=true) (S:Nat→Prop):Keeps w (w.putObj l o') S:=q5m (q54 ho) (q54 ho') hl S
theorem q8z (hk:Keeps w w' κ.S) {M':Nat→Prop} {c:Cell} {v:Value} (h:c.Rep κ w v):c.Rep (κ.ctl κ.μ.lam κ.μ.tau M') w' v:=qep hk h (λ_ _=>rfl)
theorem Rel.qa7 (h:Rel w0 κ st a w) {j i0:Nat} {L0:Lp} (hi:st.lps[i0]? = some L0) (hj:L0.j=j) {r r':Loop} (hr:w.heap[κ.μ.lam j]? = some (.loop r)) (b:Bool) (x:Option Jmp)
  (hr':r'.tmps=r.tmps∧r'.params=r.params∧r'.assign=r.assign∧r'.body=r.body∧r'.state=(bif b then .busy else match x with | none=>.ready | some _=>.done)∧r'.pending=x.map Jmp.code) :
  Rel w0 κ { st with lps:=R.qa7 j b x st.lps } a (w.putObj (κ.μ.lam j) (.loop r')):=by
 have hkeep:=q7e (o':=.loop r') hr rfl rfl κ.S;have H:∀ (c:Cell) v,c.Rep κ w v→c.Rep (κ.ctl κ.μ.lam κ.μ.tau κ.M) (w.putObj (κ.μ.lam j) (.loop r')) v:=λc v hv=>q8z hkeep hv
 have hlow:w0.n0≤κ.μ.lam j:=by have:=(h.ext.lps i0 L0 hi).low;rwa [hj] at this
 have hoth:∀ (g:Nat) (o:Obj),g≠κ.μ.lam j→w.heap[g]? = some o→(w.putObj (κ.μ.lam j) (.loop r')).heap[g]? = some o:=λg o hne hg=>(World.putObj_heap_other hne).trans hg
 obtain ⟨tm,dfs⟩:=a;obtain ⟨Ds,hDs,hnd,hDM⟩:=h.defers;have hDs:dfs=Ds.map Mark:=hDs;subst hDs;refine Rel.ctl (st':={ st with lps:=R.qa7 j b x st.lps }) (M0':=w0.M0) (bzs':=w0.bzs) (js':=w0.js) (lam0':=w0.lam0) (rd':=w0.rd) (code':=w0.code) (lam':=κ.μ.lam) (tau':=κ.μ.tau) (M':=κ.M) (a:=⟨tm,Ds.map Mark⟩) h (row:=some (κ.μ.lam j)) qaq (λk hk=>by injection hk with hk;subst hk;exact ⟨hlow,_,rfl,hr⟩) hkeep rfl rfl ⟨rfl,rfl,rfl,rfl⟩
  (λt v hv=>AV.Rep.mono H hv) (λb bs hb=>⟨bs,hb,λvs hv=>hv.mono H⟩) (λt v hv=>AV.Rep.mono H hv) Ds ⟨hnd,hDM⟩ (λD hD=>?_) h.ext.fresh (λg hg=>?_) (λi L hL=>?_) (λi k L L' hL hL' e=>?_) (λj' hj'=>?_)
 ·have:=h.ext.marks D hD
  exact ⟨this.1,hoth _ _ (λe=>by rw [e,hr] at this;cases this.2) this.2⟩
 ·obtain ⟨h1,r1,h2⟩:=h.ext.busy g hg
  refine ⟨h1,?_⟩;rcases Classical.em (g=κ.μ.lam j) with e | e
  ·exact ⟨r',by rw [e];exact World.putObj_heap_same (lt_of_some hr)⟩
  ·exact ⟨r1,hoth _ _ e h2⟩
 ·obtain ⟨L1,h1,h2⟩:=qcn hL
  rcases h2 with ⟨hj1,rfl⟩ | ⟨hj1,rfl⟩
  ·have h3:=h.ext.lps i L1 h1
   obtain ⟨r1,q1,q2,q3,q4,q5,q6,q7⟩:=h3.rec_;rw [hj1] at q1 q2 q4 q5;rw [hr] at q1;injection q1 with q1;injection q1 with q1;subst q1;refine ⟨h3.low,h3.size,⟨r',?_,?_,?_,?_,?_,?_,?_⟩,λt=>AV.Rep.mono H (h3.env t)⟩
   ·show (w.putObj (κ.μ.lam j) (.loop r')).heap[κ.μ.lam L1.j]? = _
    rw [hj1];exact World.putObj_heap_same (lt_of_some hr)
   ·show r'.tmps=κ.μ.tau L1.j;rw [hj1,hr'.1];exact q2
   ·rw [hr'.2.1];exact q3
   ·show r'.assign=(w0.code L1.j).1;rw [hj1,hr'.2.2.1];exact q4
   ·show r'.body=(w0.code L1.j).2;rw [hj1,hr'.2.2.2.1];exact q5
   ·exact hr'.2.2.2.2.1
   ·exact hr'.2.2.2.2.2
  ·refine (h.ext.lps i L h1).moveC (κ':=κ.ctl κ.μ.lam κ.μ.tau κ.M) (LpEq.refl L) rfl rfl rfl (λc v hv=>AV.Rep.mono H hv) (λr1 hr1=>hoth _ _ (λe=>?_) hr1)
   have:=h.ext.lpsd i i0 L L0 h1 hi (by rw [e,hj])
   subst this;rw [hi] at h1;injection h1 with h1;subst h1;exact hj1 hj
 ·obtain ⟨L1,h1,h2⟩:=qcn hL
  obtain ⟨L2,h3,h4⟩:=qcn hL';have e1:L.j=L1.j:=by rcases h2 with ⟨_,rfl⟩ | ⟨_,rfl⟩ <;> rfl
  have e2:L'.j=L2.j:=by rcases h4 with ⟨_,rfl⟩ | ⟨_,rfl⟩ <;> rfl
  rw [e1,e2] at e;exact h.ext.lpsd i k L1 L2 h1 h3 e
 ·obtain ⟨h1,i,L,h2,h3⟩:=h.ext.scope j' hj'
  obtain ⟨L',h4,h5⟩:=setLp_has (j:=j) (b:=b) (x:=x) h2;exact ⟨h1,i,L',h4,h5.trans h3⟩
theorem Rel.endLp {j l:Nat} {c:Code×Code} (h:Rel (w0.ctl w0.M0 w0.bzs (λi=>w0.js i∨i=j) (λi=>if i=j then l else w0.lam0 i) w0.rd (λi=>if i=j then c else w0.code i)) κ st a w) (hnj:¬ w0.js j) {r r':Loop} (hr:w.heap[l]? = some (.loop r)) :
  κ.μ.lam j=l∧Rel w0 κ (st.popLp j) a (w.putObj l (.loop r')):=by
 obtain ⟨hl,i0,L0,hi,hj⟩:=h.ext.scope j (.inr rfl);have hl:κ.μ.lam j=l:=by rw [hl];exact if_pos rfl
 refine ⟨hl,?_⟩;have hkeep:=q7e (o':=.loop r') hr rfl rfl κ.S;have H:∀ (c:Cell) v,c.Rep κ w v→c.Rep (κ.ctl κ.μ.lam κ.μ.tau κ.M) (w.putObj l (.loop r')) v:=λc v hv=>q8z hkeep hv
 have hlow:w0.n0≤l:=by have:=(h.ext.lps i0 L0 hi).low;rw [hj,hl] at this;exact this
 have hoth:∀ (g:Nat) (o:Obj),g≠l→w.heap[g]? = some o→(w.putObj l (.loop r')).heap[g]? = some o:=λg o hne hg=>(World.putObj_heap_other hne).trans hg
 obtain ⟨tm,dfs⟩:=a;obtain ⟨Ds,hDs,hnd,hDM⟩:=h.defers;have hDs:dfs=Ds.map Mark:=hDs;subst hDs;refine Rel.ctl (st':=st.popLp j) (M0':=w0.M0) (bzs':=w0.bzs) (js':=w0.js) (lam0':=w0.lam0) (rd':=w0.rd) (code':=w0.code) (lam':=κ.μ.lam) (tau':=κ.μ.tau) (M':=κ.M) (a:=⟨tm,Ds.map Mark⟩) h (row:=some l) qaq (λk hk=>by injection hk with hk;subst hk;exact ⟨hlow,_,rfl,hr⟩) hkeep rfl rfl ⟨rfl,rfl,rfl,rfl⟩
  (λt v hv=>AV.Rep.mono H hv) (λb bs hb=>⟨bs,hb,λvs hv=>hv.mono H⟩) (λt v hv=>AV.Rep.mono H hv) Ds ⟨hnd,hDM⟩ (λD hD=>?_) h.ext.fresh (λg hg=>?_) (λi L hL=>?_) (qjr (λL=>κ.μ.lam L.j) h.ext.lpsd) (λj' hj'=>?_)
 ·have:=h.ext.marks D hD
  exact ⟨this.1,hoth _ _ (λe=>by rw [e,hr] at this;cases this.2) this.2⟩
 ·obtain ⟨h1,r1,h2⟩:=h.ext.busy g hg
  refine ⟨h1,?_⟩;rcases Classical.em (g=l) with e | e
  ·exact ⟨r',by rw [e];exact World.putObj_heap_same (lt_of_some hr)⟩
  ·exact ⟨r1,hoth _ _ e h2⟩
 ·obtain ⟨hne,k,hk⟩:=q84 hL
  refine (h.ext.lps k L hk).moveC (κ':=κ.ctl κ.μ.lam κ.μ.tau κ.M) (LpEq.refl L) rfl rfl (if_neg hne).symm (λc v hv=>AV.Rep.mono H hv) (λr1 hr1=>hoth _ _ (λe=>?_) hr1)
  have:=h.ext.lpsd k i0 L L0 hk hi (by rw [e,hj,hl])
  subst this;rw [hi] at hk;injection hk with hk;subst hk;exact hne hj
 ·obtain ⟨h1,i,L,h2,h3⟩:=h.ext.scope j' (.inl hj')
  have hne:j'≠j:=λe=>hnj (e▸hj')
  obtain ⟨k,hk⟩:=qka (j:=j) h2 (by rw [h3];exact hne)
  exact ⟨by rw [h1];exact if_neg hne,k,L,hk,h3⟩
theorem Rel.remark (h:Rel w0 κ st a w) {M0' bzs' M':Nat→Prop} (rd':Option Nat) (Ds:List Nat) (hDs:Ds.Nodup∧∀ D∈Ds,M' D) (hM:∀ D,M0' D∨M' D→w0.M0 D∨κ.M D) (hf:∀ D,M' D→¬ M0' D) (hb:∀ l,bzs' l→w0.n0≤l∧∃ r:Loop,w.heap[l]? = some (.loop r)) :
  Rel (w0.ctl M0' bzs' w0.js w0.lam0 rd' w0.code) (κ.ctl κ.μ.lam κ.μ.tau M') st { a with defers:=Ds.map Mark } w:=by
 have hkeep:Keeps w w κ.S:=Keeps.refl w κ.S;have H:∀ (c:Cell) v,c.Rep κ w v→c.Rep (κ.ctl κ.μ.lam κ.μ.tau M') w v:=λc v hv=>q8z hkeep hv
 exact Rel.ctl (st':=st) h (row:=none) ⟨rfl,rfl,rfl,Nat.le_refl _,λ_ _ _=>rfl⟩ (λk hk=>by cases hk) hkeep rfl rfl ⟨rfl,rfl,rfl,rfl⟩
  (λt v hv=>AV.Rep.mono H hv) (λb bs hb=>⟨bs,hb,λvs hv=>hv.mono H⟩) (λt v hv=>AV.Rep.mono H hv) Ds hDs (λD hD=>h.ext.marks D (hM D hD)) hf hb
  (λi L hL=>(h.ext.lps i L hL).moveC (κ':=κ.ctl κ.μ.lam κ.μ.tau M') (LpEq.refl L) rfl rfl rfl (λc v hv=>AV.Rep.mono H hv) (λr hr=>hr)) h.ext.lpsd h.ext.scope
theorem Rel.shut1 {D:Nat} {Ds:List Nat} {tm:Array Value} (h:Rel w0 κ st ⟨tm,(D::Ds).map Mark⟩ w) :
  Rel w0 (κ.ctl κ.μ.lam κ.μ.tau (λD'=>κ.M D'∧D'≠D)) st ⟨tm,Ds.map Mark⟩ (w.putObj D (.deferred none))∧w.heap[D]? = some (.deferred (some [])):=by
 obtain ⟨Ds',hDs,hnd,hDM⟩:=h.defers;have hinj:∀ a b:Nat,Mark a=Mark b→a=b:=λa b e=>by unfold Mark at e;injection e with e _;injection e
 have hDs:Ds'=D::Ds:=by
  have:∀ l l':List Nat,l.map Mark=l'.map Mark→l=l':=λl=>by
   induction l with
   | nil=>intro l' e;cases l' with | nil=>rfl | cons _ _=>cases e
   | cons x l ih=>intro l' e;cases l' with | nil=>cases e | cons y l'=>injection e with e1 e2;rw [hinj _ _ e1,ih l' e2]
  exact this _ _ hDs.symm
 subst hDs;have hD:=h.ext.marks D (.inr (hDM D (List.mem_cons_self ..)));have hkeep:=q7e (o':=.deferred none) hD.2 rfl rfl κ.S;have H:∀ (c:Cell) v,c.Rep κ w v→c.Rep (κ.ctl κ.μ.lam κ.μ.tau (λD'=>κ.M D'∧D'≠D)) (w.putObj D (.deferred none)) v:=λc v hv=>q8z hkeep hv
 have hoth:∀ (g:Nat) (o:Obj),g≠D→w.heap[g]? = some o→(w.putObj D (.deferred none)).heap[g]? = some o:=λg o hne hg=>(World.putObj_heap_other hne).trans hg
 have hlp:∀ (g:Nat) (r:Loop),w.heap[g]? = some (.loop r)→(w.putObj D (.deferred none)).heap[g]? = some (.loop r):=λg r hg=>hoth g _ (λe=>by rw [e,hD.2] at hg;cases hg) hg
 refine ⟨Rel.ctl (st':=st) (M0':=w0.M0) (bzs':=w0.bzs) (js':=w0.js) (lam0':=w0.lam0) (rd':=w0.rd) (code':=w0.code) (a:=⟨tm,(D::Ds).map Mark⟩) h (row:=some D) qaq (λk hk=>by injection hk with hk;subst hk;exact ⟨hD.1,_,rfl,hD.2⟩) hkeep rfl rfl ⟨rfl,rfl,rfl,rfl⟩
  (λt v hv=>AV.Rep.mono H hv) (λb bs hb=>⟨bs,hb,λvs hv=>hv.mono H⟩) (λt v hv=>AV.Rep.mono H hv) Ds ⟨(List.nodup_cons.1 hnd).2,λD' hD'=>⟨hDM D' (List.mem_cons_of_mem _ hD'),λe=>(List.nodup_cons.1 hnd).1 (e▸hD')⟩⟩ (λD' hD'=>?_) (λD' hD'=>h.ext.fresh D' hD'.1) (λg hg=>?_)
  (λi L hL=>(h.ext.lps i L hL).moveC (κ':=κ.ctl κ.μ.lam κ.μ.tau (λD'=>κ.M D'∧D'≠D)) (LpEq.refl L) rfl rfl rfl (λc v hv=>AV.Rep.mono H hv) (λr hr=>hlp _ r hr)) h.ext.lpsd h.ext.scope,hD.2⟩
 ·have hne:D'≠D:=by
   rcases hD' with h1 | h1
   ·exact λe=>h.ext.fresh D (hDM D (List.mem_cons_self ..)) (e▸h1)
   ·exact h1.2
  have:=h.ext.marks D' (hD'.imp id (λh=>h.1))
  exact ⟨this.1,hoth _ _ hne this.2⟩
 ·obtain ⟨h1,r,h2⟩:=h.ext.busy g hg
  exact ⟨h1,r,hlp _ _ h2⟩
theorem Rel.shut {tm:Array Value}:∀ (Ds:List Nat) (κ:Cx) (w:World),Rel w0 κ st ⟨tm,Ds.map Mark⟩ w →
  ∃ M' w',Rel w0 (κ.ctl κ.μ.lam κ.μ.tau M') st ⟨tm,[]⟩ w'∧(∀ (c:Cell) v,c.Rep κ w v→c.Rep (κ.ctl κ.μ.lam κ.μ.tau M') w' v) ∧
   ∀ (F:Fence) (n:Nat) (fn:Func) (tmps:Array Value) (X:Ending→World→Prop) (u:FrameMode),u≠.run→LeavesIn F n P fn tmps X [] u w'→LeavesInM F n P fn tmps X (Ds.map Mark) u w
 | [],κ,w,h=>⟨κ.M,w,h,λc v hv=>hv,λF n fn tmps X u hu hl=>hl⟩
 | D::Ds,κ,w,h=>by
  obtain ⟨h1,hD⟩:=h.shut1;obtain ⟨M',w',h2,h3,h4⟩:=Rel.shut Ds _ _ h1;refine ⟨M',w',h2,λc v hv=>h3 c v (q8z (q7e (o':=.deferred none) hD rfl rfl κ.S) hv),λF n fn tmps X u hu hl=>?_⟩
  exact ⟨hu,.inl ⟨D,_,rfl,run_takeDeferred hD,h4 F n fn tmps X u hu hl⟩⟩
end
end R
namespace R
def FW (ρ:Option Nat):Fence:={ Fence.wide with round:=ρ }
section
variable {w0:Base} {w w':World} {κ:Cx} {st:St} {a:Act} {P:Program} {cons:List Con} {ρ:Option Nat} {n:Nat}
theorem qke {f:FuncId} {args:Array Value} {R:Ending→World→Prop} (h:Calls P f args w R):CallsIn (FW ρ) n P f args w R :=
 show CallsIn Fence.wide n P f args w R from callsIn_wide.2 h
theorem roundIn_FW {l:Nat} {f:FuncId} {tmps:Array Value} {x y:Code} {R:Ending→World→Prop} (h:RoundIn Fence.wide n P l f tmps x y w R):RoundIn (FW ρ) n P l f tmps x y w R:=h
theorem rowsIn_FW {row:String} {args:Array Value} {R:Value→World→Prop} (h:Rows P row args w R):RowsIn (FW ρ) n P row args w R:=λc cs _=>by
 obtain ⟨v,w',r,s⟩:=h c cs;exact ⟨v,w',r,show StepsIn (Machine.fenced P Fence.wide) P _ _ from stepsIn_wide.2 s⟩
theorem oper_in {o:Oper} (hd:q5n o=true) {next:Act→World→Prop} {Q:Exit→Act→World→Prop} (h:o.wp P a w next Q):o.wpIn (FW ρ) n P a w next Q:=by
 refine ⟨λ_ _=>trivial,?_⟩
 rw [Oper.semAt_eq _ _ _ (λc e=>by unfold q5n at hd;rw [e] at hd;cases hd)]
 unfold Oper.wp at h;generalize (execOp a.eval o).run P w=r at *
 cases r with
 | ok x w' =>
  cases x with
  | enter f args=>exact ⟨λh=>(by cases h),qke h⟩
  | row row args=>exact ⟨λh=>(by cases h),rowsIn_FW h⟩
  | round=>exact h.elim
  | _=>exact h
 | halt x w'=>cases x <;> exact h
theorem q96 {ops:Array Oper} (hnd:∀ (i:Nat) o,ops[i]? = some o→q5n o=true) {Q:Exit→Act→World→Prop} (hQ:∀ a w,¬ Q .outgrown a w):∀ (f:Nat) (listed:Array Bool) (a:Act) (w:World),wpAny P .any ops Q f listed a w→wpAnyIn (FW ρ) n P .any ops Q f listed a w
 | 0,listed,a,w,h=>h
 | f+1,listed,a,w,h=>⟨h.1,λi hi=>by
  have h:=h.2 i hi;unfold wpOp at h;unfold wpOpIn;cases ho:ops[i]? with
  | none=>simp only [ho] at h;exact q96 hnd hQ f _ a w h
  | some o =>
   simp only [ho] at h ⊢;cases hw:Region.wanted o (yielded ops a.tmps)
   ·rw [hw] at h
    rw [if_neg (by decide)] at h ⊢
    exact ⟨λ_ _=>trivial,q96 hnd hQ f _ _ w h⟩
   ·rw [hw] at h
    rw [if_pos rfl] at h ⊢;rcases h with h | ⟨_,a',w',h⟩
    ·exact Oper.wpIn_mono (λa w h=>q96 hnd hQ f _ a w h) (oper_in (hnd i o ho) h)
    ·exact (hQ a' w' h).elim⟩
theorem vopY_sound (hcons:∀ c∈cons,c.Holds P) {C:Nat→Option (Code×Code)} {H:Inl} (hH:q2p P C H) (hY:q59 P C H) (hag:Agree w0 C) {KP:Cell→St→Prop} {Q:Exit→Act→World→Prop} (hP:FitsP w0 KP Q) (o:Oper) (hd:q5n o=true) (κ:Cx) (st:St) (a:Act) (w:World) (K:St→Prop) (next:Act→World→Prop) (h:vopY P cons H KP o st K) (hR:Rel w0 κ st a w) (hF:Fits w0 K next):o.wpIn (FW ρ) n P a w next Q:=by
 unfold vopY at h;split at h
 ·rename_i x args ts ho
  have hx:=hR.ev x;split at h
  ·rename_i j hj
   rw [hj] at hx;have hx:a.eval x=.func (.yield (κ.μ.lam j)) #[] #[]:=hx;unfold vin at h;split at h
   ·rename_i xs hxs
    cases hd:q0b st o.dst
    ·rw [hd] at h;exact h.elim
    ·rw [hd] at h
     have hargs:q0f κ w (q89 []++xs++q89 []) (args.toList.map a.eval):=by
      have:=((q7s (κ:=κ) (w:=w) []).append (qap hR _ _ hxs)).append (q7s [])
      simpa using this
     obtain ⟨r,h1,h2,h3⟩:=hY w0 hag j _ _ st _ _ κ a w _ h hR hargs;have hrun:(execOp a.eval o).run P w=.ok (.round (κ.μ.lam j) r.fn ((r.params.zip (args.map a.eval)).foldl (λtmps (t,a)=>tmps.setIfInBounds t a) r.tmps) r.assign r.body) w:=by
      have hy:=run_yield (P:=P) (args:=args.map a.eval) h1 (by rw [Array.size_map,← h2,List.length_map];rfl)
      simp [execOp,ho,resolve,hx,Deferred.ofValue,invoke,hy]
     refine ⟨λ_ _=>trivial,?_⟩
     rw [Oper.semAt_eq _ _ _ (λc e=>by rw [ho] at e;cases e),hrun,Oper.uponIn_round]
     refine ⟨λh=>(by cases h),RoundIn.mono (roundIn_FW (by
      have e:(args.toList.map a.eval).toArray=args.map a.eval:=by rw [← Array.toList_map,Array.toArray_toList]
      have:=h3 (n-1)
      rw [e] at this;exact this)) ?_⟩
     rintro e w' ⟨v,rs,κ',st',rfl,hK,hR',hr⟩;have hn:st'.n=st.n:=hR'.size.symm.trans hR.size;exact hF κ' _ _ _ hK (hR'.put (by unfold q0b at hd ⊢;rw [hn];exact hd) hr)
   ·exact h.elim
  ·exact oper_in hd (qev hcons hH hag hP o κ st a w K next h hR hF)
 ·exact oper_in hd (qev hcons hH hag hP o κ st a w K next h hR hF)
theorem qih {V:Oper→St→(St→Prop)→Prop} {Q:Exit→Act→World→Prop} (hV:∀ (o:Oper),q5n o=true→∀ (κ:Cx) (st:St) (a:Act) (w:World) (K:St→Prop) (next:Act→World→Prop),V o st K→Rel w0 κ st a w→Fits w0 K next→o.wpIn (FW ρ) n P a w next Q)
  (ops:List Oper) {K:St→Prop} (hK:Fits w0 K (Q .normal)):∀ (l:List Oper) (hnd:∀ o∈l,q5n o=true) (κ:Cx) (st:St) (a:Act) (w:World),vops V ops l st K→Rel w0 κ st a w→wpListIn (FW ρ) n P ops.toArray Q l a w
 | [],hnd,κ,st,a,w,h,hR=>hK κ st a w h hR
 | o::r,hnd,κ,st,a,w,h,hR=>by
  have ih:Fits w0 (λst'=>vops V ops r st' K) (wpListIn (FW ρ) n P ops.toArray Q r):=λκ st a w h hR=>qih hV ops hK r (λo ho=>hnd o (List.mem_cons_of_mem _ ho)) κ st a w h hR
  have hw:=q4n hR ops o;have h:vgo V o st (q1p ops st o) (λst'=>vops V ops r st' K):=h
  have hdo:=hnd o (List.mem_cons_self ..);unfold wpListIn;cases hway:q1p ops st o with
  | run =>
   rw [hway] at hw h;have hw:Region.wanted o (yielded ops.toArray a.tmps)=true:=hw;rw [if_pos hw];exact hV o hdo κ st a w (λst'=>vops V ops r st' K) _ h hR ih
  | skip =>
   rw [hway] at hw h;have hw:Region.wanted o (yielded ops.toArray a.tmps)=false:=hw;rw [if_neg (by rw [hw];decide)]
   have h:(bif q0b st o.dst then vops V ops r (st.put o.dst (.c (.one .undef))) K else False):=h
   refine ⟨λ_ _=>trivial,?_⟩
   cases hd:q0b st o.dst
   ·rw [hd] at h;exact h.elim
   ·rw [hd] at h
    exact ih κ _ _ _ h (hR.put hd rfl)
  | part t b want =>
   rw [hway] at hw h;obtain ⟨hw,hb⟩:=hw;have h:(bif q0b st o.dst then
    bif b then (bif want then V o (st.set t (bool true)) (λst'=>vops V ops r st' K) else vops V ops r ((st.set t (bool true)).put o.dst (.c (.one .undef))) K)
    else (bif want then vops V ops r ((st.set t (bool false)).put o.dst (.c (.one .undef))) K else V o (st.set t (bool false)) (λst'=>vops V ops r st' K))
    else False):=h
   cases hd:q0b st o.dst
   ·rw [hd] at h;exact h.elim
   ·rw [hd] at h
    have hR':Rel w0 κ (st.set t (bool b)) a w:=hR.know (by rw [hb];rfl)
    have hd':q0b (st.set t (bool b)) o.dst=true:=hd;cases b <;> cases want
    ·have hw:Region.wanted o (yielded ops.toArray a.tmps)=true:=hw
     rw [if_pos hw];exact hV o hdo κ _ a w (λst'=>vops V ops r st' K) _ h hR' ih
    ·have hw:Region.wanted o (yielded ops.toArray a.tmps)=false:=hw
     rw [if_neg (by rw [hw];decide)];exact ⟨λ_ _=>trivial,ih κ _ _ _ h (hR'.put hd' rfl)⟩
    ·have hw:Region.wanted o (yielded ops.toArray a.tmps)=false:=hw
     rw [if_neg (by rw [hw];decide)];exact ⟨λ_ _=>trivial,ih κ _ _ _ h (hR'.put hd' rfl)⟩
    ·have hw:Region.wanted o (yielded ops.toArray a.tmps)=true:=hw
     rw [if_pos hw];exact hV o hdo κ _ a w (λst'=>vops V ops r st' K) _ h hR' ih
  | no=>rw [hway] at h;exact h.elim
theorem qci {id:Nat} (hm:P.follows .mixedOrders=true) (hcons:∀ c∈cons,c.Holds P) {C:Nat→Option (Code×Code)} {H:Inl} (hH:q2p P C H) (hY:q59 P C H) (hag:Agree w0 C) {KP:Cell→St→Prop} {l:List Oper} {draw:Bool} {K:St→Prop} {Q:Exit→Act→World→Prop} (hP:FitsP w0 KP Q) (hQ:∀ a w,¬ Q .outgrown a w)
  (h:qbc P cons H KP l draw st K) (hR:Rel w0 κ st a w) (hK:Fits w0 K (Q .normal)):(Code.region id l.toArray draw).wpIn (FW ρ) n P Q a w:=by
 unfold qbc at h;cases hnd:qfc l
 ·rw [hnd] at h;exact h.elim
 rw [hnd] at h;have h:(bif draw&&hasInl cons l then (bif Region.noSelect l.toArray&&Nat.ble l.length 40 then q9y cons (vopJ P cons H) l l.length (Array.replicate l.length false) st K else False)
  else qby P cons H KP l draw st K):=h
 have hnd:∀ o∈l,q5n o=true:=List.all_eq_true.1 hnd;cases hin:draw&&hasInl cons l
 rotate_left
 ·rw [hin] at h
  obtain rfl:draw=true:=by rw [Bool.and_eq_true] at hin;exact hin.1
  exact wpIn_region_any hm (q96 (λi o ho=>hnd o (List.mem_of_getElem? (by simpa using ho))) hQ _ _ _ _ (by simpa using vregionI_any (Q:=Q) hcons hH hag h hR hK))
 rw [hin] at h;have h:qby P cons H KP l draw st K:=h;cases draw
 ·refine wpIn_region_lit (qih (λo hd κ st a w K next h hR hF=>vopY_sound hcons hH hY hag hP o hd κ st a w K next h hR hF) l hK l hnd κ st a w h hR)
 ·exact wpIn_region_any hm (q96 (λi o ho=>hnd o (List.mem_of_getElem? (by simpa using ho))) hQ _ _ _ _ (by simpa using vregion_any (Q:=Q) hcons h hR hK))
theorem qjp {id:Nat} (hm:P.follows .mixedOrders=true) (hcons:∀ c∈cons,c.Holds P) {C:Nat→Option (Code×Code)} {H:Inl} (hH:q2p P C H) (hag:Agree w0 C) {l:List Oper} {draw:Bool} {K:St→Prop} {Q:Exit→Act→World→Prop} (hQ:∀ a w,¬ Q .outgrown a w)
  (h:qf9 P cons H l draw st K) (hR:Rel w0 κ st a w) (hK:Fits w0 K (Q .normal)):(Code.region id l.toArray draw).wpIn (FW ρ) n P Q a w:=by
 unfold qf9 at h;cases hb:qfc l&&(draw&&(Region.noSelect l.toArray&&Nat.ble l.length 40))
 ·rw [hb] at h;exact h.elim
 rw [hb] at h;have h:qa4 P cons (vopJ P cons H) l l.length (Array.replicate l.length false) st K:=h;simp only [Bool.and_eq_true] at hb;obtain ⟨hnd,rfl,hsel,_⟩:=hb;have hnd:∀ o∈l,q5n o=true:=List.all_eq_true.1 hnd;exact wpIn_region_any hm (q96 (λi o ho=>hnd o (List.mem_of_getElem? (by simpa using ho))) hQ _ _ _ _ (by simpa using vregionJ_any (Q:=Q) hcons hH hag hsel h hR hK))
end
end R
end Go.Proofs.YtfecgebhoondjaaGreatDoor

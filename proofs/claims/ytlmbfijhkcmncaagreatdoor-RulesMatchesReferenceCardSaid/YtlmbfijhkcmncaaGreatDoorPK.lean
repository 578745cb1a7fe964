/-
  Branches, blocks, loops, whole functions: what 'vc' asks is enough.
-/
import Derived.Test.YtlmbfijhkcmncaaGreatDoorPJ
open Nat renaming eq_of_beq_eq_true→Q0,blt→Q9,blt_eq→Qf,le_refl→Qk,le_of_ble_eq_true→Qq,ble→Qs
open Go renaming undef→Q3
open Bool renaming and_eq_true→Q7,eq_false_iff→Ql
open List renaming length_cons→Q8,length_eq_one_iff→Qd,nodup_nil→Qe,getElem?_eq_some_iff→Qm,getElem?_eq_getElem→Qo
open Array renaming getD_eq_getD_getElem?→Qa,replicate→Qb,toArray_toList→Qc,mapM_eq_mapM_toList→Qn,size_setIfInBounds→Qp,size_replicate→Qr,size_append→Qt
open Go.Fence renaming wide→Qg
open Go.World renaming alloc_heap_new→Qh,grownBy_alloc→Qj
open Go.Sem renaming run_bind→Qi
open Go.Instr renaming enterLoop→Qu
open Go.Value renaming func→Qv
open Prod renaming ext→Qw
set_option linter.unusedVariables false
namespace Go.Proofs.YtlmbfijhkcmncaaGreatDoor
open Go.RowKit
namespace R
section
variable {w0:Base} {w w':World} {κ:Cx} {st:St} {a:Act} {P:Program} {cons:List Con} {anns:List (Nat×Ann)}
theorem deq_cast {k k':Kd} {h:k=k'} {p:k.Pay} {q:k'.Pay} (e:h▸p=q) {v:Value} {S:Nat→Prop} (hr:k.Rep w S p v):k'.Rep w S q v:=by
 subst h;subst e;exact hr
def Cx.nils (κ:Cx) (st:St):Cx:={ κ with ρ:=λr=>match st.row r with | some _=>κ.ρ r | none=>.slice none 0 0 }
theorem qd3:∀ {ps qs:List (Nat×Nat)},qcc ps qs=true→ps=qs
 | [],[],_=>rfl
 | [],_::_,h=>by cases h
 | _::_,[],h=>by cases h
 | p::r,q::l,h=>by
  have h:(p.1.beq q.1&&(p.2.beq q.2&&qcc r l))=true:=h;simp only [Q7] at h;rw [qd3 h.2.2,Qw (Q0 h.1) (Q0 h.2.1)]
theorem qgq:∀ {xs ys:List (FuncId×Nat×List (Nat×Nat))},qdm xs ys=true→xs=ys
 | [],[],_=>rfl
 | [],_::_,h=>by cases h
 | _::_,[],h=>by cases h
 | a::r,b::l,h=>by
  have h:(a.1.beq b.1&&(a.2.1.beq b.2.1&&(qcc a.2.2 b.2.2&&qdm r l)))=true:=h;simp only [Q7] at h;rw [qgq h.2.2.2,Qw (Q0 h.1) (Qw (Q0 h.2.1) (qd3 h.2.2.1))]
theorem qgf {c c':Cell} (h:leCell st c c') {v:Value} (hv:c.Rep κ w v):c'.Rep (κ.nils st) w v:=by
 unfold leCell at h;split at h
 ·trivial
 ·exact hv
 ·exact hv
 ·rename_i fs xs
  obtain rfl:v=.slice none 0 0:=hv;subst h;exact ⟨none,0,rfl,Qk _,λh=>absurd h (Nat.lt_irrefl _)⟩
 ·rename_i r
  obtain rfl:v=.slice none 0 0:=hv;split at h
  ·rename_i hr
   refine ⟨?_,rfl⟩;show _=match st.row r with | some _=>κ.ρ r | none=>.slice none 0 0
   rw [hr]
  ·exact h.elim
 ·rename_i r r'
  cases hb:r.beq r'
  ·rw [hb] at h;exact h.elim
  ·rw [hb] at h
   obtain rfl:=Q0 hb;obtain ⟨h1,h2⟩:=hv;refine ⟨?_,h2⟩;show _=match st.row r with | some _=>κ.ρ r | none=>.slice none 0 0
   cases hr:st.row r with
   | none=>rw [hr] at h;exact h.elim
   | some x=>exact h1
 ·rename_i k p k' p'
  split at h
  ·rename_i e _
   exact deq_cast h hv
  ·exact h.elim
 ·rename_i b o b' o'
  cases hb:b.beq b'&&o.beq o'
  ·rw [hb] at h;exact h.elim
  ·rw [Q7] at hb
   rw [← Q0 hb.1,← Q0 hb.2];exact hv
 ·rename_i f f'
  cases hb:f.beq f'
  ·rw [hb] at h;exact h.elim
  ·rw [← Q0 hb];exact hv
 ·exact hv
 ·rename_i m m'
  cases hb:m.beq m'
  ·rw [hb] at h;exact h.elim
  ·rw [← Q0 hb];exact hv
 ·exact hv
 ·rename_i kk k kk' k'
  split at h
  ·rename_i e _
   subst e;have h:k=k':=h;subst h;exact hv
  ·exact h.elim
 ·rename_i i i'
  cases hb:i.beq i'
  ·rw [hb] at h;exact h.elim
  ·rw [← Q0 hb];exact hv
 ·exact hv
 ·rename_i i i'
  cases hb:i.beq i'
  ·rw [hb] at h;exact h.elim
  ·rw [← Q0 hb];exact hv
 ·rename_i kk k kk' k'
  split at h
  ·rename_i e _
   subst e;have h:k=k':=h;subst h;exact hv
  ·exact h.elim
 ·rename_i f k ps f' k' ps'
  cases hb:f.beq f'&&(k.beq k'&&qcc ps ps')
  ·rw [hb] at h;exact h.elim
  ·simp only [Q7] at hb
   rw [← Q0 hb.1,← Q0 hb.2.1,← qd3 hb.2.2];exact hv
 ·rename_i cls cls'
  cases hb:qdm cls cls'
  ·rw [hb] at h;exact h.elim
  ·rw [← qgq hb];exact hv
 ·rename_i r sz i r' sz' i'
  cases hb:r.beq r'&&sz.beq sz'
  ·rw [hb] at h;exact h.elim
  ·rw [hb] at h
   rw [Q7] at hb;obtain rfl:=Q0 hb.1;obtain rfl:=Q0 hb.2;dsimp only [cond_true] at h;split at h
   ·rename_i y hr
    subst h;obtain ⟨g,n,c,h1,h2,h3⟩:=hv;refine ⟨g,n,c,?_,h2,h3⟩;show (match st.row r with | some _=>κ.ρ r | none=>.slice none 0 0)=_
    rw [hr];exact h1
   ·exact h.elim
 ·rename_i f x p f' x' p'
  cases hb:f.beq f'
  ·rw [hb] at h;exact h.elim
  ·rw [hb] at h
   obtain rfl:=Q0 hb;dsimp only [cond_true] at h;split at h
   ·rename_i e _
    subst e;subst h;exact hv
   ·exact h.elim
 ·exact h.elim
theorem qap:∀ {cs cs':List Cell},q9x st cs cs'→∀ {vs:List Value},q06 κ w cs vs.toArray→q06 (κ.nils st) w cs' vs.toArray
 | [],[],h,vs,hv=>by
  refine ⟨hv.1,λi c hc=>?_,hv.2.2⟩
  cases hc
 | [],_::_,h,vs,hv=>h.elim
 | _::_,[],h,vs,hv=>h.elim
 | c::r,c'::r',h,vs,hv=>by
  obtain ⟨h1,h2⟩:leCell st c c'∧q9x st r r':=h;cases vs with
  | nil=>have:=hv.1;simp at this
  | cons v vs =>
   have hv':q06 κ w r vs.toArray:=⟨by have:=hv.1;simpa using this,λi c hc=>by
    obtain ⟨y,hy,hr⟩:=hv.2.1 (i+1) c hc;exact ⟨y,by simpa using hy,hr⟩,λi y hy=>hv.2.2 (i+1) y (by simpa using hy)⟩
   have ih:=qap h2 hv';refine ⟨?_,λi x hc=>?_,hv.2.2⟩
   ·have:=ih.1
    show (v::vs).toArray.size=r'.length+1;rw [← this];simp
   ·cases i with
    | zero =>
     injection hc with hc;subst hc;obtain ⟨u,hu,hr⟩:=hv.2.1 0 _ rfl;exact ⟨u,hu,qgf h1 hr⟩
    | succ i =>
     obtain ⟨y,hy,hr⟩:=ih.2.1 i x hc;exact ⟨y,by simpa using hy,hr⟩
theorem qek {x y:AV} (h:leAV st x y) {v:Value} (hv:x.Rep κ w v):y.Rep (κ.nils st) w v:=by
 unfold leAV at h;split at h
 ·exact qgf h hv
 ·obtain ⟨vs,rfl,hv⟩:=hv
  exact ⟨vs,rfl,by simpa using qap h (vs:=vs.toList) (by simpa using hv)⟩
 ·trivial
 ·exact h.elim
theorem qhv (hR:Rel w0 κ st a w):∀ (env:List (Nat×AV)),leEnv st env→∀ t,(look (.c (.one .any)) t env).Rep (κ.nils st) w (a.tmps.getD t Q3)
 | [],h,t=>trivial
 | (u,v)::r,h,t=>by
  obtain ⟨h1,h2⟩:leAV st (st.get u) v∧leEnv st r:=h;rw [q0v];split
  ·rename_i e;subst e;exact qek h1 (hR.env u)
  ·exact qhv hR r h2 t
theorem q5p:∀ (boxes:List (Nat×List Cell)),qhh st boxes→∀ b cs,look? b boxes=some cs→∃ bs,st.box b=some bs∧q9x st bs cs
 | [],h,b,cs,hb=>by cases hb
 | (u,us)::r,h,b,cs,hb=>by
  obtain ⟨h1,h2⟩:(match st.box u with | some bs=>q9x st bs us | none=>False)∧qhh st r:=h
  rw [look?_cons] at hb;split at hb
  ·rename_i e;subst e
   injection hb with hb;subst hb;split at h1
   ·rename_i bs hbs;exact ⟨bs,hbs,h1⟩
   ·exact h1.elim
  ·exact q5p r h2 b cs hb
theorem qiu:∀ (rows:List (Nat×Row)),leRows st rows→∀ r y,look? r rows=some y→leRow st r y
 | [],h,b,cs,hb=>by cases hb
 | (u,z)::l,h,r,y,hb=>by
  obtain ⟨h1,h2⟩:leRow st u z∧leRows st l:=h;rw [look?_cons] at hb;split at hb
  ·rename_i e;subst e
   injection hb with hb;subst hb;exact h1
  ·exact qiu l h2 r y hb
theorem qhz:∀ (maps:List (Nat×MRow)),leMaps st maps→∀ m y,look? m maps=some y→leMap st m y
 | [],h,b,cs,hb=>by cases hb
 | (u,z)::l,h,r,y,hb=>by
  obtain ⟨h1,h2⟩:leMap st u z∧leMaps st l:=h;rw [look?_cons] at hb;split at hb
  ·rename_i e;subst e
   injection hb with hb;subst hb;exact h1
  ·exact qhz l h2 r y hb
theorem qi8 (hE:Ext w0 κ st w):∀ (sav:List (Nat×AV)),leSav st sav→∀ t,(look (.c (.one .any)) t sav).Rep (κ.nils st) w (w0.sv t)
 | [],h,t=>trivial
 | (u,v)::r,h,t=>by
  obtain ⟨h1,h2⟩:leAV st (look (.c (.one .any)) u st.sav) v∧leSav st r:=h;rw [q0v];split
  ·rename_i e;subst e;exact qek h1 (hE.sav u)
  ·exact qi8 hE r h2 t
theorem leMap_spec {m:Nat} {y:MRow} (h:leMap st m y):∃ x,st.map m=some x∧x.t=y.t∧∃ (h1:x.kk=y.kk) (h2:x.vk=y.vk),q4x h1 h2 x.xs=y.xs:=by
 unfold leMap at h;split at h
 ·rename_i x hx
  split at h
  ·rename_i h1 h2 _ _
   cases e:x.t.beq y.t
   ·rw [e] at h;exact h.elim
   ·rw [e] at h;exact ⟨x,hx,Q0 e,h1,h2,h⟩
  ·exact h.elim
 ·exact h.elim
theorem qi2 {o:Option NRow} (h:leNest st o):∀ y,o=some y→st.nest=some y:=λy hy=>by
 subst hy;have h:(match st.nest with
  | some x=>match x.kk.deq y.kk,x.ik.deq y.ik,x.iv.deq y.iv with
   | some ⟨h⟩,some ⟨h'⟩,some ⟨h''⟩=>bif x.t.beq y.t&&x.it.beq y.it then castNest h h' h'' x.xs=y.xs else False
   | _,_,_=>False
  | none=>False):=h
 split at h
 ·rename_i x hx
  split at h
  ·rename_i h1 h2 h3 _ _ _
   cases e:x.t.beq y.t&&x.it.beq y.it
   ·rw [e] at h;exact h.elim
   ·rw [e] at h
    rw [Q7] at e;obtain ⟨xt,xk,xi,xik,xiv,xx⟩:=x;obtain ⟨yt,yk,yi,yik,yiv,yx⟩:=y;dsimp only at h1 h2 h3 e;subst h1;subst h2;subst h3;obtain rfl:=Q0 e.1;obtain rfl:=Q0 e.2;have h:xx=yx:=h;rw [hx,h]
  ·exact h.elim
 ·exact h.elim
theorem leSrc_spec {x y:Src} (h:leSrc x y):x=y:=by
 unfold leSrc at h;split at h
 ·rename_i m m'
  cases e:m.beq m'
  ·rw [e] at h;exact h.elim
  ·rw [Q0 e]
 ·split at h
  ·rename_i e _
   subst e;have h:=h;exact congrArg _ h
  ·exact h.elim
 ·rfl
 ·exact h.elim
theorem q8y:∀ (l:List (Nat×ItP)),qhl st l→∀ i y,look? i l=some y→∃ x,st.iter i=some x∧(y=x∨y=⟨x.src,x.kk,x.vk,x.left,none⟩)
 | [],h,i,y,hy=>by cases hy
 | (j,z)::l,h,i,y,hy=>by
  obtain ⟨h1,h2⟩:leIter st j z∧qhl st l:=h;rw [look?_cons] at hy;split at hy
  ·rename_i e;subst e
   injection hy with hy;subst hy;unfold leIter at h1;split at h1
   ·rename_i x hx
    refine ⟨x,hx,?_⟩;split at h1
    ·rename_i e1 e2 _ _
     obtain ⟨p1,p2,p3⟩:=h1;obtain ⟨xs,xk,xv,xl,xc⟩:=x;obtain ⟨zs,zk,zv,zl,zc⟩:=z;dsimp only at e1 e2 p1;subst e1;subst e2;obtain rfl:=leSrc_spec p1;have p2:xl=zl:=p2;subst p2;cases zc with
     | none=>exact .inr rfl
     | some e' =>
      cases xc with
      | none=>exact p3.elim
      | some e =>
       have p3:[e]=[e']:=p3;injection p3 with p3 _;subst p3;exact .inl rfl
    ·exact h1.elim
   ·exact h1.elim
  ·exact q8y l h2 i y hy
theorem qei {o:Option FRow} (h:leFam st o):∀ y,o=some y→st.fam=some y:=λy hy=>by
 subst hy;have h:(match st.fam with
  | some x=>match x.kk.deq y.kk,x.fs.deq y.fs with
   | some ⟨h⟩,some ⟨h'⟩=>bif x.t.beq y.t&&(x.e.beq y.e&&(x.pend.isNone&&(y.pend.isNone&&(x.mark.isNone&&y.mark.isNone)))) then castFam h h' x.xs=y.xs else False
   | _,_=>False
  | none=>False):=h
 split at h
 ·rename_i x hx
  split at h
  ·rename_i h1 h2 _ _
   cases hb:x.t.beq y.t&&(x.e.beq y.e&&(x.pend.isNone&&(y.pend.isNone&&(x.mark.isNone&&y.mark.isNone))))
   ·rw [hb] at h;exact h.elim
   ·rw [hb] at h
    simp only [Q7,Option.isNone_iff_eq_none] at hb;obtain ⟨b1,b2,b3,b4,b5,b6⟩:=hb;obtain ⟨xt,xk,xe,xf,xx,xp,xm⟩:=x;obtain ⟨yt,yk,ye,yf,yx,yp,ym⟩:=y;dsimp only at h1 h2 b1 b2 b3 b4 b5 b6;have b1:=Q0 b1;have b2:=Q0 b2;subst h1;subst h2;subst b1;subst b2;subst b3;subst b4;subst b5;subst b6;have h:xx=yx:=h;subst h;exact hx
  ·exact h.elim
 ·exact h.elim
theorem eqJmp_spec {x y:Option Jmp} (h:eqJmp x y=true):x=y:=by
 cases x with
 | none=>cases y with
  | none=>rfl
  | some y=>cases y <;> cases h
 | some x=>cases y with
  | none=>cases x <;> cases h
  | some y=>cases x <;> cases y <;> first | rfl | cases h | (rename_i a b;rw [Q0 (show a.beq b=true from h)])
theorem qip:∀ {l r:List Nat},sameNs l r=true→l=r
 | [],[],_=>rfl
 | [],_::_,h=>by cases h
 | _::_,[],h=>by cases h
 | a::l,b::r,h=>by
  have h:(a.beq b&&sameNs l r)=true:=h;rw [Q7] at h;rw [Q0 h.1,qip h.2]
theorem qjr:∀ {l l':List Lp},leLps st l l'→l'.length=l.length∧∀ (i:Nat) L',l'[i]? = some L'→∃ L,l[i]? = some L∧L'.j=L.j∧L'.n=L.n∧L'.ps=L.ps∧L'.busy=L.busy∧L'.jump=L.jump∧qdk st L.env L'.env
 | [],[],_=>⟨rfl,λi L' h=>by cases h⟩
 | [],_::_,h=>h.elim
 | _::_,[],h=>h.elim
 | L::l,L'::l',h=>by
  obtain ⟨h1,h2,h3⟩:=(show _∧qdk st L.env L'.env∧leLps st l l' from h);cases hb:(L.j.beq L'.j&&(L.n.beq L'.n&&(sameNs L.ps L'.ps&&((L.busy==L'.busy)&&eqJmp L.jump L'.jump))))
  ·rw [hb] at h1;exact h1.elim
  simp only [Q7,beq_iff_eq] at hb;obtain ⟨b1,b2,b3,b4,b5⟩:=hb;obtain ⟨i1,i2⟩:=qjr h3;refine ⟨by rw [Q8,Q8,i1],λi X hX=>?_⟩
  cases i with
  | zero =>
   injection hX with hX;subst hX;exact ⟨L,rfl,(Q0 b1).symm,(Q0 b2).symm,(qip b3).symm,b4.symm,(eqJmp_spec b5).symm,h2⟩
  | succ i=>exact i2 i X hX
theorem qfg {env:List (Nat×AV)} {vs:Array Value} (hv:∀ t,(look (.c (.one .any)) t env).Rep κ w (vs.getD t Q3)):∀ (env':List (Nat×AV)),qdk st env env'→∀ t,(look (.c (.one .any)) t env').Rep (κ.nils st) w (vs.getD t Q3)
 | [],_,t=>trivial
 | (u,x)::r,h,t=>by
  rw [q0v];split
  ·rename_i e;subst e;exact qek h.1 (hv u)
  ·exact qfg hv r h.2 t
theorem Rel.le {st':St} (hR:Rel w0 κ st a w) (h:st.le st'):Rel w0 (κ.nils st) st' a w:=by
 obtain ⟨he,hb,hr,hn,hm,hs,hne,hit,hfm,hlp⟩:=h;obtain ⟨hlen,hlp⟩:=qjr hlp;have hmap:∀ m y,st'.map m=some y→∃ x,st.map m=some x∧x=y:=λm y hy=>by
  obtain ⟨x,hx,h0,h1,h2,h3⟩:=leMap_spec (qhz st'.maps hm m y hy);obtain ⟨xt,xk,xv,xx⟩:=x;obtain ⟨yt,yk,yv,yx⟩:=y;dsimp only at h0 h1 h2;subst h0;subst h1;subst h2;have h3:xx=yx:=h3;exact ⟨_,hx,by rw [h3]⟩
 have hn:st.n=st'.n:=by
  cases e:st.n.beq st'.n
  ·rw [e] at hn;exact hn.elim
  ·exact Q0 e
 have hrow:∀ r y,st'.row r=some y→(∃ x,st.row r=some x∧x.e=y.e∧∃ hfs:x.fs=y.fs,q4n hfs x.xs=y.xs)∨(st.row r=none∧y.xs=[]):=λr y hy=>by
  have h:=qiu st'.rows hr r y hy;unfold leRow at h;split at h
  ·rename_i x hx
   split at h
   ·rename_i hfs _
    cases e:x.e.beq y.e
    ·rw [e] at h;exact h.elim
    ·rw [e] at h;exact .inl ⟨x,hx,Q0 e,hfs,h⟩
   ·exact h.elim
  ·rename_i hx;exact .inr ⟨hx,h⟩
 have hρ:∀ r x,st.row r=some x→(κ.nils st).ρ r=κ.ρ r:=λr x hx=>by
  show (match st.row r with | some _=>κ.ρ r | none=>.slice none 0 0)=_
  rw [hx]
 have hρn:∀ r,st.row r=none→(κ.nils st).ρ r=.slice none 0 0:=λr hx=>by
  show (match st.row r with | some _=>κ.ρ r | none=>.slice none 0 0)=_
  rw [hx]
 exact {
  defers:=hR.defers
  size:=by rw [← hn];exact hR.size
  env:=qhv hR st'.env he
  box:=λb cs hb'=>by
   obtain ⟨bs,hbs,hle⟩:=q5p st'.boxes hb b cs hb';obtain ⟨vs,ty,hblk,hr,h1,h2⟩:=hR.box b bs hbs;exact ⟨vs,ty,hblk,by simpa using qap hle (vs:=vs.toList) (by simpa using hr),h1,h2⟩
  apart:=λb b' cs cs' hb1 hb2 e=>by
   obtain ⟨bs,hbs,_⟩:=q5p st'.boxes hb b cs hb1;obtain ⟨bs',hbs',_⟩:=q5p st'.boxes hb b' cs' hb2;exact hR.apart b b' bs bs' hbs hbs' e
  row:=λr y hy=>by
   rcases hrow r y hy with ⟨x,hx,h1,h2,h3⟩ | ⟨hx,h1⟩
   ·obtain ⟨cells,ho,hc,hn'⟩:=hR.row r x hx
    obtain ⟨xe,xfs,xxs⟩:=x;obtain ⟨ye,yfs,yxs⟩:=y;dsimp only at h1 h2 h3;subst h1;subst h2;have h3:xxs=yxs:=h3;subst h3;rw [hρ r _ hx];refine ⟨cells,ho,hc,λg hg=>⟨(hn' g hg).1,λb cs hb' e=>?_⟩⟩
    obtain ⟨bs,hbs,_⟩:=q5p st'.boxes hb b cs hb';exact (hn' g hg).2 b bs hbs e
   ·rw [hρn r hx]
    refine ⟨[],?_,λi x hi=>?_,λg hg=>?_⟩
    ·rw [h1];exact World.ownsRow_nil _ _ _ _
    ·rw [h1] at hi;simp at hi
    ·cases hg
  rows:=λr r' y y' hy hy' g hg hg'=>by
   rcases hrow r y hy with ⟨x,hx,_⟩ | ⟨hx,_⟩
   ·rcases hrow r' y' hy' with ⟨x',hx',_⟩ | ⟨hx',_⟩
    ·rw [hρ r x hx] at hg
     rw [hρ r' x' hx'] at hg';exact hR.rows r r' x x' hx hx' g hg hg'
    ·rw [hρn r' hx'] at hg';cases hg'
   ·rw [hρn r hx] at hg;cases hg
  bound:=hR.bound
  below:=hR.below
  old:=hR.old
  ext:={
   sav:=qi8 hR.ext st'.sav hs
   map:=λm y hy=>by
    obtain ⟨x,hx,rfl⟩:=hmap m y hy;obtain ⟨es,clock,h1,h2,h3⟩:=hR.ext.map m x hx;exact ⟨es,clock,h1,h2.mono (λk p v h=>h),h3⟩
   maps:=λm m' y y' hy hy' e=>by
    obtain ⟨x,hx,rfl⟩:=hmap m y hy;obtain ⟨x',hx',rfl⟩:=hmap m' y' hy';exact hR.ext.maps m m' x x' hx hx' e
   nest:=λy hy=>by
    have hN:=hR.ext.nest y (qi2 hne y hy);have hN':NestRep w0.n0 (κ.nils st) st.maps w y:=hN.move (κ':=κ.nils st) rfl (λk p v h=>h) (λg o _ h=>h)
    exact {
     out:=hN'.out
     inn:=λi x hx=>by
      obtain ⟨g,es,clock,h1,h2,h3,h4,h5,h6⟩:=hN'.inn i x hx;exact ⟨g,es,clock,h1,h2,h3,h4,h5,λm z hz=>by obtain ⟨x0,hx0,rfl⟩:=hmap m z hz;exact h6 m x0 hx0⟩
     miss:=hN'.miss
     inj:=hN'.inj
     low:=hN'.low
     apart:=λm z hz=>by obtain ⟨x0,hx0,rfl⟩:=hmap m z hz;exact hN'.apart m x0 hx0 }
   iter:=λi z hz=>by
    obtain ⟨x,hx,hc⟩:=q8y st'.iters hit i z hz;have hI:=(hR.ext.iter i x hx).move (κ':=κ.nils st) (w':=w) (src_eq rfl _) (λk p v h=>h) (λo _ h=>h) (λbm es c _ h=>h)
    rcases hc with rfl | rfl
    ·exact hI
    ·obtain ⟨h0,hI⟩:=hI
     refine ⟨h0,?_⟩;rcases hI with ⟨a',b',s',q1,q2,_⟩ | ⟨bm,es,clock,seen,c0,q1,q2,q3,q4,q5,q6,q7,q8⟩
     ·exact .inl ⟨a',b',s',q1,q2,rfl⟩
     ·exact .inr ⟨bm,es,clock,seen,c0,q1,q2,q3,q4,q5,q6,q7,λx hx=>nomatch hx⟩
   iters:=λi j z z' hz hz' e=>by
    obtain ⟨x,hx,_⟩:=q8y st'.iters hit i z hz;obtain ⟨x',hx',_⟩:=q8y st'.iters hit j z' hz';exact hR.ext.iters i j x x' hx hx' e
   fam:=λy hy=>(hR.ext.fam y (qei hfm y hy)).move (κ':=κ.nils st) rfl rfl ⟨rfl,rfl⟩ (λk p v h=>h) (λes c h=>h) (λ_ _ _ _=>rfl) (λg hs _=>⟨hs.1,λb cs hb'=>by
    obtain ⟨bs,hbs,_⟩:=q5p st'.boxes hb b cs hb';exact hs.2.1 b bs hbs,λr x hx=>by
    rcases hrow r x hx with ⟨x0,hx0,_⟩ | ⟨hx0,_⟩
    ·rw [hρ r x0 hx0];exact hs.2.2 r x0 hx0
    ·rw [hρn r hx0];exact λe=>nomatch e⟩) (λm z hz=>by
    obtain ⟨x0,hx0,rfl⟩:=hmap m z hz;exact (hR.ext.fam y (qei hfm y hy)).apart m x0 hx0)
   excl:=by
    rcases hR.ext.excl with e | e
    ·left
     cases hf:st'.fam with
     | none=>rfl
     | some y=>have:=qei hfm y hf;rw [e] at this;cases this
    ·right
     cases hf:st'.nest with
     | none=>rfl
     | some y=>have:=qi2 hne y hf;rw [e] at this;cases this
   marks:=hR.ext.marks
   fresh:=hR.ext.fresh
   busy:=hR.ext.busy
   lps:=λi L' hL'=>by
    obtain ⟨L,h1,h2,h3,h4,h5,h6,h7⟩:=hlp i L' hL';have h8:=hR.ext.lps i L h1;obtain ⟨r,q1,q2,q3,q4,q5,q6,q7⟩:=h8.rec_;refine ⟨by rw [h2];exact h8.low,by rw [h2,h3];exact h8.size,⟨r,by rw [h2];exact q1,by rw [h2];exact q2,by rw [h4];exact q3,by rw [h2];exact q4,by rw [h2];exact q5,by rw [h5,h6];exact q6,by rw [h6];exact q7⟩,λt=>?_⟩
    rw [h2];exact qfg h8.env L'.env h7 t
   lpsd:=λi k L L' h1 h2 e=>by
    obtain ⟨X,h3,h4,_⟩:=hlp i L h1;obtain ⟨X',h5,h6,_⟩:=hlp k L' h2;rw [h4,h6] at e;exact hR.ext.lpsd i k X X' h3 h5 e
   scope:=λj hj=>by
    obtain ⟨h1,i,L,h2,h3⟩:=hR.ext.scope j hj;have hi:i<st'.lps.length:=by rw [hlen];exact (Qm.1 h2).1
    obtain ⟨X,h4,h5,_⟩:=hlp i st'.lps[i] (Qo hi);rw [h2] at h4;injection h4 with h4;subst h4;exact ⟨h1,i,st'.lps[i],Qo hi,h5.trans h3⟩ } }
structure PostFits (w0:Base) (Q:Post) (QX:Exit→Act→World→Prop):Prop where
 normal:Fits w0 Q.normal (QX .normal)
 exit:∀ id,Fits w0 (Q.exit id) (QX (.exit id))
 ret:Fits w0 Q.ret (QX .ret)
 panic:FitsP w0 Q.panic QX
 out:∀ a w,¬ QX .outgrown a w
theorem Rel.knowOp (hR:Rel w0 κ st a w) {c:Operand} {b:Bool} (h:a.eval c=.bool b):Rel w0 κ (R.know st c b) a w:=by
 cases c with
 | tmp t=>exact hR.know (v:=bool b) (by rw [show a.tmps.getD t Q3=_ from h];rfl)
 | const v=>exact hR
 | global g=>exact hR
 | func f=>exact hR
def HOk (P:Program) (HH:Inl→Inl):Prop:=∀ (C:Nat→Option (Code×Code)) (B:Inl),q34 P C B→q50 P C B→q34 P C (HH B)∧q50 P C (HH B)
theorem HOk.id:HOk P (λB=>B):=λ_ _ h h'=>⟨h,h'⟩
theorem Rel.frame (h:Rel w0 κ st a w) {sv':Nat→Value} {st':St} {a':Act} (hd:∃ Ds:List Nat,a'.defers=Ds.map Mark∧Ds.Nodup∧∀ D∈Ds,κ.M D) (hs:a'.tmps.size=st'.n) (henv:∀ t,(st'.get t).Rep κ w (a'.tmps.getD t Q3)) (hsav:∀ t,(look (.c (.one .any)) t st'.sav).Rep κ w (sv' t))
  (hb:st'.boxes=st.boxes) (hr:st'.rows=st.rows) (hm:st'.maps=st.maps) (hn:st'.nest=st.nest) (hi:st'.iters=st.iters) (hf:st'.fam=st.fam) (hl:st'.lps=st.lps):Rel { w0 with sv:=sv' } κ st' a' w where
 defers:=hd
 size:=hs
 env:=henv
 box:=λb cs hx=>h.box b cs (by unfold St.box at hx ⊢;rw [← hb];exact hx)
 apart:=λb b' cs cs' hx hx'=>h.apart b b' cs cs' (by unfold St.box at hx ⊢;rw [← hb];exact hx) (by unfold St.box at hx' ⊢;rw [← hb];exact hx')
 row:=λr x hx=>by
  obtain ⟨cells,h1,h2,h3⟩:=h.row r x (by unfold St.row at hx ⊢;rw [← hr];exact hx)
  exact ⟨cells,h1,h2,λg hg=>⟨(h3 g hg).1,λb cs hb'=>(h3 g hg).2 b cs (by unfold St.box at hb' ⊢;rw [← hb];exact hb')⟩⟩
 rows:=λr r' x x' hx hx'=>h.rows r r' x x' (by unfold St.row at hx ⊢;rw [← hr];exact hx) (by unfold St.row at hx' ⊢;rw [← hr];exact hx')
 bound:=h.bound
 below:=h.below
 old:=h.old
 ext:={
  sav:=hsav
  map:=λm y hy=>h.ext.map m y (by unfold St.map at hy ⊢;rw [← hm];exact hy)
  maps:=λm m' y y' hy hy'=>h.ext.maps m m' y y' (by unfold St.map at hy ⊢;rw [← hm];exact hy) (by unfold St.map at hy' ⊢;rw [← hm];exact hy')
  nest:=λy hy=>by rw [hn] at hy;rw [hm];exact h.ext.nest y hy
  iter:=λi z hz=>h.ext.iter i z (by unfold St.iter at hz ⊢;rw [← hi];exact hz)
  iters:=λi j z z' hz hz'=>h.ext.iters i j z z' (by unfold St.iter at hz ⊢;rw [← hi];exact hz) (by unfold St.iter at hz' ⊢;rw [← hi];exact hz')
  fam:=λy hy=>by rw [hf] at hy;rw [hb,hr,hm];exact h.ext.fam y hy
  excl:=by rw [hf,hn];exact h.ext.excl
  marks:=h.ext.marks
  fresh:=h.ext.fresh
  busy:=h.ext.busy
  lps:=λi L hL=>h.ext.lps i L (by rw [← hl];exact hL)
  lpsd:=λi k L L' hL hL'=>h.ext.lpsd i k L L' (by rw [← hl];exact hL) (by rw [← hl];exact hL')
  scope:=λj hj=>by rw [hl];exact h.ext.scope j hj }
theorem not_blt {u n:Nat} (hb:Q9 u n=false):¬ u<n:=λh=>by
 have:Q9 u n=true:=by rw [Qf];exact h
 rw [this] at hb;cases hb
theorem qi0 (n t:Nat):∀ l:List (Nat×AV),look (.c (.one .any)) t (q41 n l)=if t<n then look (.c (.one .any)) t l else .c (.one .any)
 | []=>by show AV.c (.one .any)=_;split <;> rfl
 | (u,v)::r=>by
  have ih:=qi0 n t r;show look _ t (bif Q9 u n then (u,v)::q41 n r else q41 n r)=_
  cases hb:Q9 u n
  ·have hb:¬ u<n:=not_blt hb
   show look _ t (q41 n r)=_;rw [ih,q0v];split
   ·rw [if_neg (by omega)]
   ·rfl
  ·have hb:u<n:=by rw [Qf] at hb;exact hb
   show look _ t ((u,v)::q41 n r)=_;rw [q0v,q0v,ih];by_cases e:u=t
   ·rw [if_pos e,if_pos e,if_pos (by omega)]
   ·rw [if_neg e,if_neg e]
theorem qgl (n t:Nat):∀ l:List (Nat×AV),look (.c (.one .any)) t (shiftUp n l)=if n≤t then look (.c (.one .any)) (t-n) l else .c (.one .any)
 | []=>by show AV.c (.one .any)=_;split <;> rfl
 | (u,v)::r=>by
  have ih:=qgl n t r;show look _ t ((u+n,v)::shiftUp n r)=_;rw [q0v,q0v,ih];by_cases e:u+n=t
  ·rw [if_pos e,if_pos (by omega),if_pos (by omega)]
  ·rw [if_neg e]
   split
   ·rw [if_neg (by omega)]
   ·rfl
theorem qgs (n t:Nat):∀ l:List (Nat×AV),look (.c (.one .any)) t (q6e n l)=look (.c (.one .any)) (t+n) l
 | []=>rfl
 | (u,v)::r=>by
  have ih:=qgs n t r;show look _ t (bif Q9 u n then q6e n r else (u-n,v)::q6e n r)=_
  cases hb:Q9 u n
  ·have hb:¬ u<n:=not_blt hb
   show look _ t ((u-n,v)::q6e n r)=_;rw [q0v,q0v,ih];by_cases e:u=t+n
   ·rw [if_pos e,if_pos (by omega)]
   ·rw [if_neg e,if_neg (by omega)]
  ·have hb:u<n:=by rw [Qf] at hb;exact hb
   show look _ t (q6e n r)=_;rw [q0v,ih,if_neg (by omega)]
theorem look_push (n t:Nat) (sav:List (Nat×AV)):∀ env:List (Nat×AV),look (.c (.one .any)) t (q41 n env++shiftUp n sav)=if t<n then look (.c (.one .any)) t env else look (.c (.one .any)) (t-n) sav
 | []=>by
  show look _ t (shiftUp n sav)=_;rw [qgl];by_cases e:t<n
  ·rw [if_neg (by omega),if_pos e];rfl
  ·rw [if_pos (by omega),if_neg e]
 | (u,v)::r=>by
  have ih:=look_push n t sav r;show look _ t ((bif Q9 u n then (u,v)::q41 n r else q41 n r)++shiftUp n sav)=_
  cases hb:Q9 u n
  ·have hb:¬ u<n:=not_blt hb
   show look _ t (q41 n r++shiftUp n sav)=_;rw [ih,q0v];split
   ·rw [if_neg (by omega)]
   ·rfl
  ·have hb:u<n:=by rw [Qf] at hb;exact hb
   show look _ t ((u,v)::(q41 n r++shiftUp n sav))=_;rw [q0v,q0v,ih];by_cases e:u=t
   ·rw [if_pos e,if_pos e,if_pos (by omega)]
   ·rw [if_neg e,if_neg e]
def svOf (a:Act) (n:Nat) (sv:Nat→Value):Nat→Value:=λt=>if t<n then a.tmps.getD t Q3 else sv (t-n)
theorem qez {α:Type} (d:α) (t:Nat):∀ (l:List (Nat×α)) (seen:List Nat),memN t seen=false→look d t (q8f seen l)=look d t l
 | [],_,_=>rfl
 | (u,v)::r,seen,h=>by
  show look d t (bif memN u seen then q8f seen r else (u,v)::q8f (u::seen) r)=_
  by_cases e:u=t
  ·subst e
   rw [h];show look d u ((u,v)::q8f (u::seen) r)=_;rw [q0v,if_pos rfl,q0v,if_pos rfl]
  ·rw [q0v,if_neg e]
   cases hm:memN u seen
   ·show look d t ((u,v)::q8f (u::seen) r)=_
    rw [q0v,if_neg e];refine qez d t r (u::seen) ?_;show (bif u.beq t then true else memN t seen)=false
    have hb:u.beq t=false:=Ql.mpr λh=>e (Q0 h)
    rw [hb];exact h
   ·exact qez d t r seen h
theorem svOf_push (hR:Rel w0 κ st a w) (t:Nat):(look (.c (.one .any)) t (q41 st.n (q8f [] st.env)++shiftUp st.n st.sav)).Rep κ w (svOf a st.n w0.sv t):=by
 unfold svOf;rw [look_push];split
 ·rw [qez _ _ _ _ rfl];exact hR.env t
 ·exact hR.ext.sav _
theorem svOf_env {κ':Cx} {w':World} {a0:Act} {st':St} {n:Nat} {sv:Nat→Value} (h:∀ t,(look (.c (.one .any)) t st'.sav).Rep κ' w' (svOf a0 n sv t)) (t:Nat):(look (.c (.one .any)) t (q41 n st'.sav)).Rep κ' w' (a0.tmps.getD t Q3):=by
 rw [qi0];split
 ·rename_i e
  have:=h t
  unfold svOf at this
  rwa [if_pos e] at this
 ·trivial
theorem svOf_sav {κ':Cx} {w':World} {a0:Act} {st':St} {n:Nat} {sv:Nat→Value} (h:∀ t,(look (.c (.one .any)) t st'.sav).Rep κ' w' (svOf a0 n sv t)) (t:Nat):(look (.c (.one .any)) t (q6e n st'.sav)).Rep κ' w' (sv t):=by
 rw [qgs];have:=h (t+n);unfold svOf at this
 rwa [if_neg (by omega),Nat.add_sub_cancel] at this
theorem round_env {vs:List Value}:∀ (ps:List Nat) (xs:List Comp) (us:List Value) (env:List (Nat×AV)) (tm:Array Value),xs.length=ps.length→q0f κ w xs us→(∀ p∈ps,p<tm.size)→(∀ t,(look (.c (.one .any)) t env).Rep κ w (tm.getD t Q3)) →
  ∀ t,(look (.c (.one .any)) t (zipPs ps xs++env)).Rep κ w (((ps.zip us).foldl (λ(tmps:Array Value) (q:Nat×Value)=>tmps.setIfInBounds q.1 q.2) tm).getD t Q3)
 | [],xs,us,env,tm,hl,hr,hp,he=>by
  cases xs with
  | cons _ _=>cases hl
  | nil=>exact he
 | p::ps,[],us,env,tm,hl,hr,hp,he=>by cases hl
 | p::ps,x::xs,us,env,tm,hl,hr,hp,he=>by
  cases us with
  | nil=>have:=hr.1;cases this
  | cons u us =>
   have hu:x.Rep κ w u:=by
    obtain ⟨u',hu',hx⟩:=hr.2 0 _ rfl;injection hu' with hu';subst hu';exact hx
   have hr':q0f κ w xs us:=⟨by have:=hr.1;simpa using this,λi c hc=>hr.2 (i+1) c hc⟩
   have ih:=round_env (vs:=vs) ps xs us ((p,.c x)::env) (tm.setIfInBounds p u) (by simpa using hl) hr' (λq hq=>by rw [Qp];exact hp q (List.mem_cons_of_mem _ hq)) (λt=>by
    rw [q0v];by_cases e:p=t
    ·subst e
     rw [if_pos rfl,Qa,Array.getElem?_setIfInBounds_self_of_lt (hp p (List.mem_cons_self ..))];exact hu
    ·rw [if_neg e,Qa,Array.getElem?_setIfInBounds_ne e,← Qa]
     exact he t)
   intro t;have e:zipPs (p::ps) (x::xs)++env=zipPs ps xs++((p,.c x)::env):=by
    show (zipPs ps xs++[(p,.c x)])++env=_;rw [List.append_assoc];rfl
   rw [e];exact ih t
theorem round_size (l:List (Nat×Value)):∀ tm:Array Value,(l.foldl (λ(tmps:Array Value) (q:Nat×Value)=>tmps.setIfInBounds q.1 q.2) tm).size=tm.size:=by
 induction l with
 | nil=>intro tm;rfl
 | cons x r ih=>intro tm;rw [List.foldl_cons,ih,Qp]
theorem Agree.less {C C':Nat→Option (Code×Code)} (h:Agree w0 C') (hC:∀ j c,C j=some c→C' j=some c):Agree w0 C:=⟨λj c hc=>h.code j c (hC j c hc),h.rd⟩
theorem q34.less {C C':Nat→Option (Code×Code)} {H:Inl} (h:q34 P C H) (hC:∀ j c,C j=some c→C' j=some c):q34 P C' H:=λw0 hag=>h w0 (hag.less hC)
theorem q50.less {C C':Nat→Option (Code×Code)} {H:Inl} (h:q50 P C H) (hC:∀ j c,C j=some c→C' j=some c):q50 P C' H:=λw0 hag=>h w0 (hag.less hC)
def CodeOk (P:Program) (C:Nat→Option (Code×Code)) (c:Code) (V:St→Post→Prop):Prop :=
 ∀ (w0:Base),Agree w0 C→∀ (n:Nat) (st:St) (Q:Post) (QX:Exit→Act→World→Prop) (κ:Cx) (a:Act) (w:World),V st Q→Rel w0 κ st a w→PostFits w0 Q QX→c.wpIn (FW w0.rd) n P QX a w
def q83 (w0:Base) (κ:Cx) (sv':Nat→Value) (l:Nat):Base:={ w0.ctl (λD=>w0.M0 D∨κ.M D) (λg=>w0.bzs g∨g=l) w0.js w0.lam0 (some l) w0.code with sv:=sv' }
theorem yield_ok {C:Nat→Option (Code×Code)} {j:Nat} {x y:Code} {V W:St→Post→Prop} (hj:C j=some (x,y)) (hx:CodeOk P C x V) (hy:CodeOk P C y W) {B:Inl} (hB:q50 P C B) :
  q50 P C (yieldOf j (λst1 Q1=>V st1 { normal:=λst2=>q9a j st2 (λst3=>W st3 Q1),exit:=λ_ _=>False,ret:=λ_=>False }) B):=by
 intro w0 hag i xs off st K KP κ a w vs h hR hvs;have h:(bif (1000000000+i).beq (1000000000+j) then
  match q5u j st.lps with
  | some L=>match L.jump with
   | some _=>False
   | none=>bif !L.busy&&(xs.length.beq L.ps.length&&L.ps.all (Q9 · L.n)) then
     V (qhp st L xs ((j+1)*1000+700)) { normal:=λst2=>q9a j st2 (λst3=>W st3 { normal:=λst2=>K [.one (.val .bool true)] (q48 st.n st.off j none st2),exit:=λid st2=>K [.one (.val .bool false)] (q48 st.n st.off j (some (.exit id)) st2),ret:=λst2=>K [.one (.val .bool false)] (q48 st.n st.off j (some .ret) st2) }),exit:=λ_ _=>False,ret:=λ_=>False }
    else False
  | none=>False
  else B (1000000000+i) xs off st K KP):=h
 cases hij:(1000000000+i).beq (1000000000+j)
 ·rw [hij] at h
  exact hB w0 hag i xs off st K KP κ a w vs h hR hvs
 rw [hij] at h;obtain rfl:i=j:=by have:=Q0 hij;omega
 split at h <;> rename_i L hL
 rotate_left
 ·exact h.elim
 split at h <;> rename_i hjm
 ·exact h.elim
 cases hb:(!L.busy&&(xs.length.beq L.ps.length&&L.ps.all (Q9 · L.n)))
 ·rw [hb] at h;exact h.elim
 rw [hb] at h;simp only [Q7] at hb;obtain ⟨hb1,hb2,hb3⟩:=hb;have hb1:L.busy=false:=by simpa using hb1
 have hb2:=Q0 hb2;have hb3:∀ p∈L.ps,p<L.n:=λp hp=>by
  have:=List.all_eq_true.1 hb3 p hp
  rwa [Qf] at this
 obtain ⟨hLj,i0,hi0⟩:=qa5 hL;have hLp:=hR.ext.lps i0 L hi0;obtain ⟨r,q1,q2,q3,q4,q5,q6,q7⟩:=hLp.rec_;rw [hLj] at q1 q2 q4 q5;obtain ⟨hco,hjs⟩:=hag.code _ _ hj;rw [hco] at q4 q5;rw [hb1,hjm] at q6;rw [hjm] at q7;have q6:r.state=.ready:=q6;have q7:r.pending=none:=q7;have hlen:vs.length=r.params.size:=by rw [hvs.1,hb2,← q3];simp
 refine ⟨r,q1,hlen,λn=>?_⟩
 rw [q4,q5];refine roundIn_of_wpIn trivial ?_;have hlam:∀ {κ':Cx} {st':St} {a':Act} {w':World},Rel (q83 w0 κ (svOf a st.n w0.sv) (κ.μ.lam i)) κ' st' a' w'→κ'.μ.lam i=κ.μ.lam i:=λh'=>(h'.ext.scope i hjs).1.trans (hR.ext.scope i hjs).1.symm
 have hag':Agree (q83 w0 κ (svOf a st.n w0.sv) (κ.μ.lam i)) C:=⟨λj c hc=>hag.code j c hc,λl hl=>.inr (by injection hl with hl;exact hl.symm)⟩
 have hR0:Rel (w0.ctl (λD=>w0.M0 D∨κ.M D) (λg=>w0.bzs g∨g=κ.μ.lam i) w0.js w0.lam0 (some (κ.μ.lam i)) w0.code) (κ.ctl κ.μ.lam κ.μ.tau (λ_=>False)) st { a with defers:=([]:List Nat).map Mark } w :=
  hR.remark (some (κ.μ.lam i)) [] ⟨Qe,λD hD=>by cases hD⟩ (λD hD=>hD.elim id False.elim) (λD hD=>hD.elim) (λg hg=>by
   rcases hg with hg | hg
   ·exact hR.ext.busy g hg
   ·subst hg
    have:=hLp.low
    rw [hLj] at this;exact ⟨this,r,q1⟩)
 have hcc:∀ (c:Cell) v,c.Rep κ w v→c.Rep (κ.ctl κ.μ.lam κ.μ.tau (λ_=>False)) w v:=λc v hv=>q8h (Keeps.refl w _) hv
 have hR1:Rel (q83 w0 κ (svOf a st.n w0.sv) (κ.μ.lam i)) (κ.ctl κ.μ.lam κ.μ.tau (λ_=>False)) (qhp st L xs ((i+1)*1000+700)) { tmps:=(r.params.zip vs.toArray).foldl (λtmps (t,a)=>tmps.setIfInBounds t a) r.tmps,defers:=[] } w:=by
  have ez:(r.params.zip vs.toArray).foldl (λtmps (t,a)=>tmps.setIfInBounds t a) r.tmps=(L.ps.zip vs).foldl (λ(tmps:Array Value) (q:Nat×Value)=>tmps.setIfInBounds q.1 q.2) (κ.μ.tau i):=by
   rw [q2,← q3,← Array.foldl_toList,Array.toList_zip]
  have htz:(κ.μ.tau i).size=L.n:=by have:=hLp.size;rwa [hLj] at this
  rw [ez];refine Rel.frame (w0:=w0.ctl (λD=>w0.M0 D∨κ.M D) (λg=>w0.bzs g∨g=κ.μ.lam i) w0.js w0.lam0 (some (κ.μ.lam i)) w0.code) (sv':=svOf a st.n w0.sv) hR0 ⟨[],rfl,Qe,λD hD=>by cases hD⟩ ?_ (λt=>?_) (λt=>?_) rfl rfl rfl rfl rfl rfl rfl
  ·show (List.foldl _ _ _:Array Value).size=L.n
   rw [round_size,htz]
  ·refine AV.Rep.mono hcc (round_env (vs:=vs) L.ps xs vs L.env (κ.μ.tau i) hb2 hvs (λp hp=>by rw [htz];exact hb3 p hp) (λt=>?_) t)
   have:=hLp.env t
   rwa [hLj] at this
  ·exact AV.Rep.mono hcc (svOf_push hR t)
 have back:∀ (x:Option Jmp) (b:Bool) (κ2:Cx) (st2:St) (a2:Act) (w2:World) (hb:b=(x.map Jmp.code).isNone),Rel (q83 w0 κ (svOf a st.n w0.sv) (κ.μ.lam i)) κ2 st2 a2 w2 →
   ∃ w3,(Instr.endRound (κ.μ.lam i) (x.map Jmp.code)).run P w2=.ok (.bool b) w3∧∃ κ3,Rel w0 κ3 (q48 st.n st.off i x st2) a w3:=λx b κ2 st2 a2 w2 hb h2=>by
  have hl2:=hlam h2;obtain ⟨_,k0,L2,hk0,hL2⟩:=h2.ext.scope i hjs;obtain ⟨r2,s1,s2,s3,s4,s5,s6,s7⟩:=(h2.ext.lps k0 L2 hk0).rec_;rw [hL2,hl2] at s1;have hend:=run_endRound (P:=P) (x.map Jmp.code) s1;rw [← hb] at hend;refine ⟨_,hend,?_⟩;have h3:=h2.qa1 (j:=i) hk0 hL2 (r:=r2) (r':={ r2 with state:=if (x.map Jmp.code).isNone then .ready else .done,pending:=x.map Jmp.code }) (by rw [hl2];exact s1) false x ⟨rfl,rfl,rfl,rfl,by cases x <;> rfl,rfl⟩
  rw [hl2,← hb] at h3;obtain ⟨Ds,hDs,hnd,hDM⟩:=hR.defers;have h4:=h3.remark (M0':=w0.M0) (bzs':=w0.bzs) (M':=κ.M) w0.rd Ds ⟨hnd,hDM⟩ (λD hD=>.inl hD) hR.ext.fresh (λg hg=>h3.ext.busy g (.inl hg))
  have h5:=Rel.frame (sv':=w0.sv) (a':=a) (st':=q48 st.n st.off i x st2) h4 ⟨Ds,hDs,hnd,hDM⟩ hR.size (svOf_env (a0:=a) h4.ext.sav) (svOf_sav (a0:=a) h4.ext.sav) rfl rfl rfl rfl rfl rfl rfl;exact ⟨_,h5⟩
 refine wpIn_mono (hx (q83 w0 κ (svOf a st.n w0.sv) (κ.μ.lam i)) hag' n (qhp st L xs ((i+1)*1000+700)) _ (Exit.then (λa₁ w₁=>∃ w₂,(Instr.beginRound (κ.μ.lam i)).run P w₁=.ok () w₂∧y.wpIn (Qg.inRound (κ.μ.lam i)) n P (roundPost P (κ.μ.lam i) _) a₁ w₂) (λ_ _ _=>False)) _ _ w h hR1 ⟨?_,λid κ' st' a' w' h' hR'=>h'.elim,λκ' st' a' w' h' hR'=>h'.elim,λκ' st' a' w' c v h' hR'=>h'.elim,λ_ _ h=>h⟩) (λe a w h=>h)
 intro κ1 st1 a1 w1 h1 hR1;have h1:q9a i st1 (λst3=>W st3 { normal:=λst2=>K [.one (.val .bool true)] (q48 st.n st.off i none st2),exit:=λid st2=>K [.one (.val .bool false)] (q48 st.n st.off i (some (.exit id)) st2),ret:=λst2=>K [.one (.val .bool false)] (q48 st.n st.off i (some .ret) st2) }):=h1
 unfold q9a at h1;split at h1 <;> rename_i L1 hL1
 rotate_left
 ·exact h1.elim
 split at h1 <;> rename_i hjm1
 rotate_left
 ·exact h1.elim
 cases hb4:L1.busy
 rotate_left
 ·rw [hb4] at h1;exact h1.elim
 rw [hb4] at h1;obtain ⟨hLj1,i1,hi1⟩:=qa5 hL1;have hl1:=hlam hR1;obtain ⟨r1,s1,s2,s3,s4,s5,s6,s7⟩:=(hR1.ext.lps i1 L1 hi1).rec_;rw [hLj1,hl1] at s1;rw [hb4,hjm1] at s6;rw [hjm1] at s7;have s6:r1.state=.ready:=s6;have s7:r1.pending=none:=s7;refine ⟨_,run_beginRound s1 s6,?_⟩;have hR2:=hR1.qa1 (j:=i) hi1 hLj1 (r:=r1) (r':={ r1 with state:=.busy }) (by rw [hl1];exact s1) true none ⟨rfl,rfl,rfl,rfl,rfl,s7⟩
 rw [hl1] at hR2;refine hy (q83 w0 κ (svOf a st.n w0.sv) (κ.μ.lam i)) hag' n (st1.busyLp i) _ (roundPost P (κ.μ.lam i) _) _ _ _ h1 hR2 ⟨?_,λid=>?_,?_,λκ' st' a' w' c v h' hR'=>h'.elim,λ_ _ h=>h⟩
 ·intro κ2 st2 a2 w2 h2 hR2
  obtain ⟨w3,e1,κ3,e2⟩:=back none true κ2 st2 a2 w2 rfl hR2;exact ⟨_,w3,e1,_,_,κ3,_,rfl,h2,e2,rfl⟩
 ·intro κ2 st2 a2 w2 h2 hR2
  obtain ⟨w3,e1,κ3,e2⟩:=back (some (.exit id)) false κ2 st2 a2 w2 rfl hR2;exact ⟨_,w3,e1,_,_,κ3,_,rfl,h2,e2,rfl⟩
 ·intro κ2 st2 a2 w2 h2 hR2
  obtain ⟨w3,e1,κ3,e2⟩:=back (some .ret) false κ2 st2 a2 w2 rfl hR2;exact ⟨_,w3,e1,_,_,κ3,_,rfl,h2,e2,rfl⟩
theorem inl_yield {C:Nat→Option (Code×Code)} {j:Nat} {run:St→Post→Prop} {B:Inl} (hB:q34 P C B):q34 P C (yieldOf j run B):=by
 intro w0 hag f hf xs off st K KP κ a w vs h;have e:Nat.beq f (1000000000+j)=false:=Ql.mpr λe=>by have e1:f=1000000000+j:=Q0 e;rw [e1] at hf;exact absurd hf (Nat.not_lt.2 (Nat.le_add_right _ _))
 have h:(bif Nat.beq f (1000000000+j) then _ else B f xs off st K KP):=h
 rw [e] at h;exact hB w0 hag f hf xs off st K KP κ a w vs h
theorem qjm (hm:P.follows .mixedOrders=true) (hcons:∀ c∈cons,c.Holds P) {HH:Inl→Inl} (hHH:HOk P HH):∀ (c:Code) (B:Inl) (C:Nat→Option (Code×Code)),q34 P C B→q50 P C B→∀ (l:Nat),CodeOk P C c (vc P cons anns HH B c l):=by
 intro c
 induction c with
 | skip=>exact λB C hB hY l w0 hag n st Q QX κ a w h hR hF=>wpIn_skip (hF.normal κ st a w h hR)
 | region id ops draw =>
  intro B C hB hY l w0 hag n st Q QX κ a w h hR hF;obtain ⟨hH,hHY⟩:=hHH C B hB hY;have h:(match q7q (1000000+id) anns with
   | none=>match q7q (6000000+id) anns with
    | some A=>q84 P cons (HH B) Q.panic ops.toList draw st (λst'=>∃ p,A.inv st p∧(st'.q08 A.live).le (A.at_ st p))∧∀ p,A.inv st p→(A.at_ st p).force λst2=>Q.normal st2
    | none=>match q7q (4000000+id) anns with
     | none=>match q7q (5000000+id) anns with
      | none=>q84 P cons (HH B) Q.panic ops.toList draw st Q.normal
      | some _=>qe7 P cons (HH B) Q.panic ops.toList draw st Q.normal
     | some _=>qe8 P cons (HH B) ops.toList draw st Q.normal
   | some A=>match simAny P cons ops.toList ops.size (Qb ops.size false) st with
    | some st1=>q84 P cons (HH B) Q.panic ops.toList draw st (λst2=>st2.le (st1.keepJ A.live))∧Q.normal (st1.keepJ A.live)
    | none=>False):=h
  split at h
  ·split at h
   ·rename_i A _
    have:=q8q (id:=id) (ρ:=w0.rd) (n:=n) (Q:=QX) hm hcons hH hHY hag (l:=ops.toList) (draw:=draw) hF.panic hF.out h.1 hR (λκ' st' a' w' h' hR'=>by
     obtain ⟨p,hp,hle⟩:=h';obtain ⟨κ1,hR1⟩:=Rel.q08 _ hR';exact hF.normal _ _ a' w' (by have:=h.2 p hp;rwa [St.force_eq] at this) (hR1.le hle))
    rwa [Qc] at this
   split at h
   ·split at h
    ·have:=q8q (id:=id) (ρ:=w0.rd) (n:=n) hm hcons hH hHY hag (l:=ops.toList) (draw:=draw) hF.panic hF.out h hR hF.normal
     rwa [Qc] at this
    ·have:=qjf (id:=id) (ρ:=w0.rd) (n:=n) hm hcons hH hHY hag (l:=ops.toList) (draw:=draw) hF.panic h hR hF.normal
     rwa [Qc] at this
   ·have:=qj2 (id:=id) (ρ:=w0.rd) (n:=n) hm hcons hH hag (l:=ops.toList) (draw:=draw) hF.out h hR hF.normal
    rwa [Qc] at this
  ·rename_i A _
   split at h
   ·rename_i st1 _
    have:=q8q (id:=id) (ρ:=w0.rd) (n:=n) (Q:=QX) hm hcons hH hHY hag (l:=ops.toList) (draw:=draw) hF.panic hF.out h.1 hR (λκ' st' a' w' h' hR'=>hF.normal _ (st1.keepJ A.live) a' w' h.2 (hR'.le h'))
    rwa [Qc] at this
   ·exact h.elim
 | seq x y ihx ihy =>
  intro B C hB hY l w0 hag n st Q QX κ a w h hR hF;have h:(match cutOf anns y with
   | none=>vc P cons anns HH B x l st (Q.then λst'=>vc P cons anns HH B y l st' Q)
   | some A=>vc P cons anns HH B x l st (Q.then λst'=>∃ p,A.inv st p∧(st'.q08 A.live).le (A.at_ st p))∧∀ p,A.inv st p→(A.at_ st p).force λst2=>vc P cons anns HH B y l st2 Q):=h
  split at h
  ·exact wpIn_seq (ihx B C hB hY l w0 hag n st _ _ κ a w h hR ⟨λκ' st' a' w' h' hR'=>ihy B C hB hY l w0 hag n st' Q QX κ' a' w' h' hR' hF,λid=>hF.exit id,hF.ret,hF.panic,hF.out⟩)
  ·refine wpIn_seq (ihx B C hB hY l w0 hag n st _ _ κ a w h.1 hR ⟨λκ' st' a' w' h' hR'=>?_,λid=>hF.exit id,hF.ret,hF.panic,hF.out⟩)
   obtain ⟨p,hp,hle⟩:=h';obtain ⟨κ1,hR1⟩:=Rel.q08 _ hR';exact ihy B C hB hY l w0 hag n _ Q QX _ a' w' (by have:=h.2 p hp;rwa [St.force_eq] at this) (hR1.le hle) hF
 | cond c x y ihx ihy =>
  intro B C hB hY l w0 hag n st Q QX κ a w h hR hF;have h:(match st.ev c with
   | .c (.one (.val .bool b))=>bif b then vc P cons anns HH B x l (know st c true) Q else vc P cons anns HH B y l (know st c false) Q
   | _=>False):=h
  split at h
  ·rename_i b hb
   have hc:=hR.ev c;rw [hb] at hc;have hc:a.eval c=.bool b:=hc;refine wpIn_cond hc ?_;cases b
   ·exact ihy B C hB hY l w0 hag n _ Q QX κ a w h (hR.knowOp hc) hF
   ·exact ihx B C hB hY l w0 hag n _ Q QX κ a w h (hR.knowOp hc) hF
  ·exact h.elim
 | block id c ih =>
  intro B C hB hY l w0 hag n st Q QX κ a w h hR hF;refine wpIn_block (ih B C hB hY id w0 hag n st (Q.block id) _ κ a w h hR ⟨hF.normal,λi κ' st' a' w' h' hR'=>?_,hF.ret,hF.panic,hF.out⟩)
  have h':bif i.beq id then Q.normal st' else Q.exit i st':=h'
  show if i=id then _ else _
  cases e:i.beq id
  ·rw [e] at h'
   have:i≠id:=λe2=>by rw [e2,Nat.beq_refl] at e;cases e
   rw [if_neg this];exact hF.exit i κ' st' a' w' h' hR'
  ·rw [e] at h'
   rw [if_pos (Q0 e)];exact hF.normal κ' st' a' w' h' hR'
 | loop c ih =>
  intro B C hB hY l w0 hag n st Q QX κ a w h hR hF;have h:(match q7q l anns with
   | some A=>(∃ p,A.inv st p∧st.le (A.at_ st p)) ∧
    ∀ p,A.inv st p→(A.at_ st p).force λst2=>vc P cons anns HH B c l st2 (Q.then λst'=>∃ p',A.inv st p'∧A.mu st p'<A.mu st p∧st'.le (A.at_ st p'))
   | none=>False):=h
  split at h
  ·rename_i A hA
   obtain ⟨⟨p0,hp0,hle0⟩,hround⟩:=h;refine wpIn_loop_ghost (λn a w=>∃ κ p,A.mu st p=n∧A.inv st p∧Rel w0 κ (A.at_ st p) a w) (A.mu st p0) ⟨_,p0,rfl,hp0,hR.le hle0⟩ ?_
   rintro k a w ⟨κ,p,rfl,hp,hR⟩;have hr:=hround p hp;rw [St.force_eq] at hr;refine ih B C hB hY l w0 hag n (A.at_ st p) _ _ κ a w hr hR ⟨λκ' st' a' w' h' hR'=>?_,λid=>hF.exit id,hF.ret,hF.panic,hF.out⟩
   obtain ⟨p',hp',hmu,hle⟩:=h';exact ⟨A.mu st p',hmu,_,p',rfl,hp',hR'.le hle⟩
  ·exact h.elim
 | exit id=>exact λB C hB hY l w0 hag n st Q QX κ a w h hR hF=>wpIn_exit (hF.exit id κ st a w h hR)
 | ret=>exact λB C hB hY l w0 hag n st Q QX κ a w h hR hF=>wpIn_ret (hF.ret κ st a w h hR)
 | rangeFunc g ps x y ihx ihy =>
  intro B C hB hY l w0 hag n st Q QX κ a w h hR hF;have h:(match st.ev g with
   | .c (.one (.clo f k caps))=>match q5u st.off st.lps with
    | some _=>False
    | none=>bif Q9 f 1000000000 then HH (yieldOf st.off (λst1 Q1=>vc P cons anns HH B x l st1 { normal:=λst2=>q9a st.off st2 (λst3=>vc P cons anns HH B y l st3 Q1),exit:=λ_ _=>False,ret:=λ_=>False }) B)
      f (q8i (caps.take k)++[.one (.yld st.off)]++q8i (caps.drop k)) ((st.off+1)*1000+500) (st.pushLp ps.toList) (λ_ st'=>qha Q st.off st') (λ_ _=>False) else False
   | _=>False):=h
  have hg:=hR.ev g;split at h
  ·rename_i f k caps hcl
   rw [hcl] at hg;have hg:a.eval g=.func (.func f) ((caps.take k).map κ.ptr).toArray ((caps.drop k).map κ.ptr).toArray:=hg;split at h
   ·exact h.elim
   rename_i hnone;cases hf0:Q9 f 1000000000
   ·rw [hf0] at h;exact h.elim
   rw [hf0] at h;have hf0:f<1000000000:=by rwa [Qf] at hf0
   have hnj:¬ w0.js st.off:=λhj=>by
    obtain ⟨_,i,L,h1,h2⟩:=hR.ext.scope _ hj;exact qa0 hnone i L h1 h2
   have hCn:C st.off=none:=by
    cases hc:C st.off with
    | none=>rfl
    | some c=>exact (hnj (hag.code _ _ hc).2).elim
   obtain ⟨C',hC'⟩:∃ C':Nat→Option (Code×Code),C'=λi=>if i=st.off then some (x,y) else C i:=⟨_,rfl⟩
   have hless:∀ j c,C j=some c→C' j=some c:=λj c hc=>by
    rw [hC'];show (if j=st.off then _ else _)=_
    rw [if_neg (λe=>by rw [e,hCn] at hc;cases hc)];exact hc
   have hself:C' st.off=some (x,y):=by rw [hC'];exact if_pos rfl
   have hB':=hB.less hless;have hY':=hY.less hless;obtain ⟨hH,_⟩:=hHH C' _ (inl_yield (j:=st.off) (run:=λst1 Q1=>vc P cons anns HH B x l st1 { normal:=λst2=>q9a st.off st2 (λst3=>vc P cons anns HH B y l st3 Q1),exit:=λ_ _=>False,ret:=λ_=>False }) hB')
    (yield_ok (x:=x) (y:=y) (V:=vc P cons anns HH B x l) (W:=vc P cons anns HH B y l) hself (ihx B C' hB' hY' l) (ihy B C' hB' hY' l) hY')
   refine wpIn_rangeFunc (λfn hfn=>?_)
   have core:∀ (lk:Nat) (mk:List Nat) (w1:World) (r:Loop),(r.tmps=a.tmps∧r.params=ps∧r.assign=x∧r.body=y∧r.state=.ready∧r.pending=none)→w.grownBy w1 none→(mk.Nodup∧∀ D∈mk,w.heap.size≤D∧w1.heap[D]? = some (.deferred (some [])))→w.heap.size≤lk→w1.heap[lk]? = some (.loop r) →
     (Qu fn a.tmps ps x y (FW w0.rd).round).run P w=.ok (lk,mk.map Mark) w1→∃ (l:Nat) (mark:List Deferred) (w₁:World) (d:Deferred) (w₁':World) (f:FuncId) (args:Array Value) (w₂:World),
   (Qu fn a.tmps ps x y (FW w0.rd).round).run P w=.ok (l,mark) w₁ ∧
   (resolve a.eval (rangeCall g l) 0).run P w₁=.ok d w₁' ∧
   (∀ f',Target.leads P w₁' d.target d.args=some f'→(FW w0.rd).fn f') ∧
   (invoke d.target d.args).run P w₁'=.ok (.enter f args) w₂ ∧
   ((FW w0.rd).depth.isSome=true→1≤n) ∧
   CallsIn (FW w0.rd) (n-1) P f args w₂ (rangePost (FW w0.rd) n P l QX { a with defers:=mark++a.defers }):=λlk mk w1 r hr hgr hmk hlk hrec hent=>by
    obtain ⟨κ',hR',hlam,hptr⟩:=hR.pushAny hnone (ps:=ps) (x:=x) (y:=y) hr hgr mk hmk hlk hrec;have hag':Agree (w0.ctl w0.M0 w0.bzs (λj=>w0.js j∨j=st.off) (λj=>if j=st.off then lk else w0.lam0 j) w0.rd (λj=>if j=st.off then (x,y) else w0.code j)) C':=⟨λj c hc=>by
     rw [hC'] at hc;have hc:(if j=st.off then some (x,y) else C j)=some c:=hc
     by_cases e:j=st.off
     ·rw [if_pos e] at hc;injection hc with hc
      exact ⟨(if_pos e).trans hc,.inr e⟩
     ·rw [if_neg e] at hc
      obtain ⟨h1,h2⟩:=hag.code j c hc;exact ⟨(if_neg e).trans h1,.inl h2⟩,hag.rd⟩
    have hargs:q0f κ' w1 (q8i (caps.take k)++[.one (.yld st.off)]++q8i (caps.drop k)) ((caps.take k).map κ.ptr++[Qv (.yield lk) #[] #[]]++(caps.drop k).map κ.ptr):=by
     rw [← hptr];refine ((q81 (κ:=κ') (w:=w1) _).append ⟨rfl,λi c hc=>?_⟩).append (q81 _)
     cases i with
     | zero=>injection hc with hc;subst hc;exact ⟨_,rfl,by show _=Qv (.yield (κ'.μ.lam st.off)) _ _;rw [hlam]⟩
     | succ i=>cases hc
    obtain ⟨⟨fn',hf,hn,hb⟩,hcall⟩:=hH _ hag' f hf0 _ _ _ _ _ κ' _ w1 _ h hR' hargs;have hn' : ¬ fn'.name = "runtime.NumGoroutine" := by simpa using hn
    have hb':¬ fn'.body=none:=λh=>by rw [h] at hb;cases hb
    refine ⟨lk,mk.map Mark,w1,{ target:=.fn (.func f) ((caps.drop k).map κ.ptr).toArray,args:=((caps.take k).map κ.ptr).toArray++#[.func (.yield lk) #[] #[]] },w1,f,((caps.take k).map κ.ptr++[Qv (.yield lk) #[] #[]]++(caps.drop k).map κ.ptr).toArray,w1,hent,?_,λ_ _=>trivial,?_,λh=>(by cases h),?_⟩
    ·simp only [resolve,hg]
     simp [Deferred.ofValue,Act.eval]
    ·simp [invoke,callFunc,hf,hn',hb']
    ·refine qem (hcall.mono ?_)
     rintro e w' (⟨v,rs,κ2,st2,rfl,hK,hR2,hrv⟩ | ⟨c,v,κ2,st2,rfl,hK,_⟩)
     rotate_left
     ·exact hK.elim
     have hK:qha Q st.off st2:=hK;unfold qha at hK;split at hK <;> rename_i L hL
     rotate_left
     ·exact hK.elim
     cases hbz:L.busy
     rotate_left
     ·rw [hbz] at hK;exact hK.elim
     rw [hbz] at hK;obtain ⟨hLj,i0,hi0⟩:=qa5 hL;obtain ⟨r2,s1,s2,s3,s4,s5,s6,s7⟩:=(hR2.ext.lps i0 L hi0).rec_;obtain ⟨hl2,_⟩:=hR2.ext.scope st.off (.inr rfl);have hl2:κ2.μ.lam st.off=lk:=hl2.trans (if_pos rfl);rw [hLj,hl2] at s1;rw [hbz] at s6;have hnb:r2.state≠.busy:=by rw [s6];cases L.jump <;> exact λe=>by cases e
     obtain ⟨_,hR3⟩:=Rel.endLp (j:=st.off) (l:=lk) (c:=(x,y)) (r:=r2) (r':={ r2 with state:=.exhausted }) hR2 hnj s1;refine ⟨_,_,run_endLoop s1 hnb,?_⟩;generalize w'.putObj lk (.loop { r2 with state:=.exhausted })=w4 at hR3 ⊢;rw [s7];have hK:(match L.jump with
      | none=>Q.normal (st2.popLp st.off)
      | some .ret=>Q.ret (st2.popLp st.off)
      | some (.exit id)=>Q.exit id (st2.popLp st.off)):=hK
     split at hK <;> rename_i hjm <;> rw [hjm]
     ·exact hF.normal κ2 _ _ _ hK hR3
     ·exact wpIn_ret (hF.ret κ2 _ _ _ hK hR3)
     ·exact wpIn_exit (hF.exit _ κ2 _ _ _ hK hR3)
   cases hrd:w0.rd with
   | none =>
    rw [hrd] at core;refine core (w.heap.size+1) [w.heap.size] _ { state:=.ready,pending:=none,fn,tmps:=a.tmps,params:=ps,assign:=x,body:=y,defers:=w.heap.size } ⟨rfl,rfl,rfl,rfl,rfl,rfl⟩ ((Qj w _ none).trans (Qj _ _ none)) ⟨by simp,λD hD=>?_⟩ (Nat.le_succ _) ?_ (run_enterLoop_outer _ _ _ _ _)
    ·obtain rfl:D=w.heap.size:=by simpa using hD
     exact ⟨Qk _,(Below.heap_alloc _ _ _ (by simp)).trans (Qh w _)⟩
    ·have:=Qh (w.alloc (.deferred (some []))) (.loop { state:=.ready,pending:=none,fn,tmps:=a.tmps,params:=ps,assign:=x,body:=y,defers:=w.heap.size });rwa [World.size_alloc] at this
   | some l0 =>
    obtain ⟨_,r0,hr0⟩:=hR.ext.busy l0 (hag.rd l0 hrd);rw [hrd] at core;exact core w.heap.size [] _ { state:=.ready,pending:=none,fn,tmps:=a.tmps,params:=ps,assign:=x,body:=y,defers:=r0.defers } ⟨rfl,rfl,rfl,rfl,rfl,rfl⟩ (Qj w _ none) ⟨Qe,λD hD=>by cases hD⟩ (Qk _) (Qh w _) (run_enterLoop_inner hr0 _ _ _ _ _)
  ·exact h.elim
 | scope c ih=>intro B C hB hY l w0 hag n st Q QX κ a w h;exact h.elim
 | label l=>intro B C hB hY l w0 hag n st Q QX κ a w h;exact h.elim
 | goto l=>intro B C hB hY l w0 hag n st Q QX κ a w h;exact h.elim
 | refuse why=>intro B C hB hY l w0 hag n st Q QX κ a w h;exact h.elim
def resOne (P:Program) (st:St):ResultVar→Option Comp
 | .tmp t=>match st.get t with
  | .c x=>some x
  | .tup _=>none
 | .cell b ty=>match st.get b with
  | .c (.one (.ptr b' off))=>match st.box b' with
   | some cs=>match partOf P ty cs off with
    | .ok _ (.c x)=>some x
    | _=>none
   | none=>none
  | _=>none
def qdc (P:Program) (st:St):List ResultVar→Option (List AV)
 | []=>some []
 | x::r=>match resOne P st x,qdc P st r with
  | some y,some ys=>some (.c y::ys)
  | _,_=>none
def q9s (P:Program) (fn:Func) (c:Con) (p:Pays c.args) (st:St):Prop :=
 match qdc P (st.q08 (keysOf st.rows)) fn.results.toList with
 | some xs=>match q1r c.res xs with
  | some r=>c.post p r
  | none=>False
 | none=>False
def envOf:Nat→List Comp→List (Nat×AV)
 | _,[]=>[]
 | n,x::r=>(n,.c x)::envOf (n+1) r
def startOf (fn:Func) (xs:List Comp):St:={ n:=fn.ntmps,env:=envOf 0 xs,boxes:=[],rows:=[] }
theorem resOne_run {st:St} {a:Act} {w:World} {κ:Cx} (hR:Rel w0 κ st a w) {x:ResultVar} {y:Comp} (h:resOne P st x=some y) :
  ∃ u,y.Rep κ w u∧(match x with
   | .tmp t=>(pure (a.tmps.getD t Q3):Sem Value)
   | .cell b t=>do loadVar t (← asAddr (a.tmps.getD b Q3))).run P w=.ok u w:=by
 cases x with
 | tmp t =>
  have h:(match st.get t with
   | .c x=>some x
   | .tup _=>none)=some y:=h
  have ht:=hR.env t;split at h
  ·rename_i x hx
   injection h with h;subst h;rw [hx] at ht;exact ⟨_,ht,rfl⟩
  ·cases h
 | cell b ty =>
  have h:(match st.get b with
   | .c (.one (.ptr b' off))=>match st.box b' with
    | some cs=>match partOf P ty cs off with
     | .ok _ (.c x)=>some x
     | _=>none
    | none=>none
   | _=>none)=some y:=h
  have hb:=hR.env b;split at h
  ·rename_i b' off hx
   rw [hx] at hb;have hb:a.tmps.getD b Q3=.pointer (some ⟨κ.β b',off,none⟩):=hb;split at h
   ·rename_i cs hcs
    split at h
    ·rename_i c0 x0 hp
     injection h with h;subst h;obtain ⟨vs,t0,hblk,hv,_,_⟩:=hR.box b' cs hcs;obtain ⟨u,hu,hw⟩:=qio hp hblk hv;refine ⟨u,hu,?_⟩;dsimp only;rw [Qi,hb];exact hw w (q03 w)
    ·cases h
   ·cases h
  ·cases h
theorem qb3 {st:St} {a:Act} {w:World} {κ:Cx} (hR:Rel w0 κ st a w):∀ (l:List ResultVar) (xs:List AV),qdc P st l=some xs →
  ∃ us:List Value,us.length=xs.length∧(∀ (i:Nat) x,xs[i]? = some x→∃ u,us[i]? = some u∧x.Rep κ w u) ∧
   (l.mapM (m:=Sem) λx=>match x with
    | .tmp t=>(pure (a.tmps.getD t Q3):Sem Value)
    | .cell b t=>do loadVar t (← asAddr (a.tmps.getD b Q3))).run P w=.ok us w
 | [],xs,h=>by
  injection h with h;subst h;refine ⟨[],rfl,λi x h=>?_,rfl⟩
  cases h
 | y::r,xs,h=>by
  have h:(match resOne P st y,qdc P st r with
   | some y,some ys=>some (.c y::ys)
   | _,_=>none)=some xs:=h
  split at h
  ·rename_i y' ys h1 h2
   injection h with h;subst h;obtain ⟨u,hu,hrun⟩:=resOne_run (P:=P) hR h1;obtain ⟨us,h3,h4,h5⟩:=qb3 hR r ys h2;refine ⟨u::us,by simp [h3],λi x hx=>?_,?_⟩
   ·cases i with
    | zero=>injection hx with hx;subst hx;exact ⟨u,rfl,hu⟩
    | succ i=>exact h4 i x hx
   ·rw [List.mapM_cons,Qi,hrun,Result.andThen_ok,Qi,h5]
    rfl
  ·cases h
theorem qb1:∀ (l:List CK) (xs:List AV) (p:Pays l),q1r l xs=some p→∀ us:List Value,us.length=xs.length→(∀ (i:Nat) x,xs[i]? = some x→∃ u,us[i]? = some u∧x.Rep κ w u)→q0f κ w (q0u l p) us
 | [],[],p,h,us,hl,hr=>⟨by rw [hl];rfl,λi c hc=>by cases hc⟩
 | [],x::xs,p,h,us,hl,hr=>by simp [q1r] at h
 | [x],[],p,h,us,hl,hr=>by simp [q1r] at h
 | [x],y::z::r,p,h,us,hl,hr=>by simp [q1r] at h
 | x::y::r,[],p,h,us,hl,hr=>by simp [q1r] at h
 | [x],[y],p,h,us,hl,hr=>by
  cases y with
  | tup vs=>simp [q1r] at h
  | c z =>
   have h:q25 x z=some p:=h;refine ⟨hl,λi c hc=>?_⟩
   cases i with
   | zero =>
    injection hc with hc;subst hc;obtain ⟨u,hu,hx⟩:=hr 0 _ rfl;exact ⟨u,hu,q79 h hx⟩
   | succ i=>cases hc
 | x::y::r,z::zs,p,h,us,hl,hr=>by
  cases z with
  | tup vs=>simp [q1r] at h
  | c c0 =>
   have h:(match q25 x c0,q1r (y::r) zs with
    | some p,some q=>some (p,q)
    | _,_=>none)=some p:=h
   split at h
   ·rename_i p1 p2 h1 h2
    injection h with h;subst h;cases us with
    | nil=>simp at hl
    | cons u us =>
     have ih:=qb1 (y::r) zs p2 h2 us (by simpa using hl) (λi x hx=>hr (i+1) x hx)
     refine ⟨?_,λi c hc=>?_⟩
     ·have:=ih.1
      show us.length+1=(q0u (y::r) p2).length+1;rw [this]
     ·cases i with
      | zero =>
       injection hc with hc;subst hc;obtain ⟨u',hu,hx⟩:=hr 0 _ rfl;exact ⟨u',hu,q79 h1 hx⟩
      | succ i=>exact ih.2 i c hc
   ·cases h
theorem ret_sound {fn:Func} {c:Con} {p:Pays c.args} {st:St} {a:Act} {w:World} (hR:Rel w0 κ st a w) (h:q9s P fn c p st) :
  ∃ κ' st' r v,Rel w0 κ' st' a w∧(results fn a.tmps).run P w=.ok v w∧c.post p r∧(q1s c.res r).Rep κ' w v:=by
 unfold q9s at h;obtain ⟨κ1,hR⟩:=Rel.q08 (keysOf st.rows) hR;split at h
 ·rename_i xs hxs
  split at h
  ·rename_i r hr
   obtain ⟨us,h1,h2,h3⟩:=qb3 hR fn.results.toList xs hxs;have hrep:=qb1 (κ:=κ1) (w:=w) c.res xs r hr us h1 h2;have hrun:(results fn a.tmps).run P w=.ok (if h:us.toArray.size=1 then us.toArray[0] else .tuple us.toArray) w:=by
    unfold results;rw [Qi,Qn,Sem.run_map]
    erw [h3]
    rfl
   refine ⟨κ1,_,r,_,hR,hrun,h,?_⟩;unfold q1s;split
   ·rename_i x hx
    rw [hx] at hrep;have hl:us.length=1:=hrep.1;obtain ⟨u,rfl⟩:=Qd.1 hl;obtain ⟨u',hu,hxr⟩:=hrep.2 0 x rfl;injection hu with hu;subst hu;exact hxr
   ·rename_i ys hne
    have hl:us.length=(q0u c.res r).length:=hrep.1;have hn:us.toArray.size≠1:=λe=>by
     have e:us.length=1:=by simpa using e
     rw [hl] at e;obtain ⟨y,hy⟩:=Qd.1 e;exact hne y hy
    rw [dif_neg hn];exact ⟨us.toArray,rfl,by simpa using hl,λi x hx=>by
     obtain ⟨u,hu,hxr⟩:=hrep.2 i x hx;exact ⟨u,by simpa using hu,hxr⟩⟩
  ·exact h.elim
 ·exact h.elim
theorem qij:∀ (ys:List AV) (rs:List Comp) (us:List Value),q5n ys=some rs→us.length=ys.length→(∀ (i:Nat) x,ys[i]? = some x→∃ u,us[i]? = some u∧x.Rep κ w u)→q0f κ w rs us
 | [],rs,us,h,hl,hr=>by
  injection h with h;subst h;exact ⟨hl,λi c h=>by cases h⟩
 | .c y::r,rs,us,h,hl,hr=>by
  have h:(q5n r).map (y::·)=some rs:=h;cases hq:q5n r with
  | none=>rw [hq] at h;cases h
  | some qs =>
   rw [hq] at h;injection h with h;subst h;cases us with
   | nil=>cases hl
   | cons u us =>
    have ih:=qij r qs us hq (by simpa using hl) (λi x hx=>hr (i+1) x hx)
    refine ⟨by rw [Q8,Q8,ih.1],λi c hc=>?_⟩
    cases i with
    | zero =>
     injection hc with hc;subst hc;obtain ⟨u',hu,hx⟩:=hr 0 _ rfl;exact ⟨u',hu,hx⟩
    | succ i=>exact ih.2 i c hc
 | .tup _::_,rs,us,h,hl,hr=>by cases h
theorem envOf_look (xs:List Comp):∀ (n t:Nat),look (.c (.one .any)) t (envOf n xs)=if n≤t∧t<n+xs.length then (match xs[t-n]? with | some x=>.c x | none=>.c (.one .any)) else .c (.one .any):=by
 induction xs with
 | nil=>intro n t;show AV.c (.one .any)=_;rw [if_neg (by simp only [List.length_nil];omega)]
 | cons x r ih =>
  intro n t;show look _ t ((n,.c x)::envOf (n+1) r)=_;rw [q0v,ih];by_cases e:n=t
  ·subst e
   rw [if_pos rfl,if_pos ⟨Qk _,by simp⟩,Nat.sub_self]
   rfl
  ·rw [if_neg e]
   by_cases e2:n≤t∧t<n+(x::r).length
   ·rw [Q8] at e2
    rw [if_pos (by omega),if_pos (by rw [Q8];omega),show t-n=(t-(n+1))+1 by omega]
    rfl
   ·rw [Q8] at e2
    rw [if_neg (by omega),if_neg (by rw [Q8];omega)]
noncomputable def codeOf (fn:Func):Code:=fn.body.getD .skip
theorem qgw {xs:List Comp} {vs:List Value} (hvs:q0f κ w xs vs) (m t:Nat):(look (.c (.one .any)) t (envOf 0 xs)).Rep κ w ((vs.toArray++Qb m Q3).getD t Q3):=by
 rw [envOf_look];split
 ·rename_i e
  rw [Nat.sub_zero];split
  ·rename_i x hx
   obtain ⟨u,hu,hr⟩:=hvs.2 t x hx;have:(vs.toArray++Qb m Q3).getD t Q3=u:=by
    have hlt:t<vs.length:=(Qm.1 hu).1;rw [Qa,Array.getElem?_append_left (by simpa using hlt)]
    simp [hu]
   rw [this];exact hr
  ·trivial
 ·trivial
def qds (fn:Func) (xs:List Comp) (off:Nat) (st:St):St:={ n:=fn.ntmps,env:=envOf 0 xs,boxes:=st.boxes,rows:=st.rows,sav:=q41 st.n (q8f [] st.env)++shiftUp st.n st.sav,maps:=st.maps,off:=off,nest:=st.nest,iters:=st.iters,fam:=st.fam,lps:=st.lps }
def qbg (n off:Nat) (st:St):St:={ n:=n,env:=q41 n st.sav,boxes:=st.boxes,rows:=st.rows,sav:=q6e n st.sav,maps:=st.maps,off:=off,nest:=st.nest,iters:=st.iters,fam:=st.fam,lps:=st.lps }
def qam (P:Program) (fn:Func) (n off:Nat) (K:List Comp→St→Prop) (st:St):Prop :=
 match qdc P st fn.results.toList with
 | some ys=>match q5n ys with
  | some rs=>K rs (qbg n off st)
  | none=>False
 | none=>False
noncomputable def inlOf (P:Program) (cons:List Con) (inls:List (Nat×Func)) (anns:Nat→List (Nat×Ann)):Nat→Inl→Inl
 | 0=>λB=>B
 | k+1=>λB f xs off st K KP=>bif Q9 f 1000000000 then (match look? f inls with
  | some fn=>bif Qs xs.length fn.ntmps then
    vc P cons (anns f) (inlOf P cons inls anns k) B (codeOf fn) 0 (qds fn xs off st)
     {normal:=qam P fn st.n st.off K,exit:=λ_ _=>False,ret:=qam P fn st.n st.off K,panic:=λc st'=>KP c (qbg st.n st.off st') }
   else False
  | none=>B f xs off st K KP) else B f xs off st K KP
def q2b (P : Program) (inls : List (Nat × Func)) : Prop := ∀ f fn, look? f inls = some fn → P.funcs[f]? = some fn ∧ (fn.name == "runtime.NumGoroutine") = false ∧ fn.body.isSome = true
theorem q2b.nil:q2b P []:=λ_ _ h=>by cases h
theorem q2b.more {f : Nat} {fn : Func} {l : List (Nat × Func)} (h : P.funcs[f]? = some fn) (hn : (fn.name == "runtime.NumGoroutine") = false) (hb : fn.body.isSome = true) (hl : q2b P l) : q2b P ((f, fn) :: l) := fun g gn hg => by
 rw [look?_cons] at hg;split at hg
 ·rename_i e;subst e
  injection hg with hg;subst hg;exact ⟨h,hn,hb⟩
 ·exact hl g gn hg
theorem q7i {fn:Func} {n:Nat} {R:Ending→World→Prop} {u:FrameMode} (hu:u≠.run) (hR:Rel w0 κ st a w)
  (h:∀ M' w',Rel w0 (κ.ctl κ.μ.lam κ.μ.tau M') st { a with defers:=[] } w'→(∀ (c:Cell) v,c.Rep κ w v→c.Rep (κ.ctl κ.μ.lam κ.μ.tau M') w' v)→LeavesIn Qg n P fn a.tmps R [] u w'):LeavesInM Qg n P fn a.tmps R a.defers u w:=by
 obtain ⟨tm,dfs⟩:=a;obtain ⟨Ds,hDs,hnd,hDM⟩:=hR.defers;have hDs:dfs=Ds.map Mark:=hDs;subst hDs;obtain ⟨M',w',h1,h2,h3⟩:=Rel.shut (P:=P) Ds κ w hR;exact h3 Qg n fn tm R u hu (h M' w' h1 h2)
def qer (w0:Base) (κ:Cx) (sv':Nat→Value):Base:={ w0.ctl (λD=>w0.M0 D∨κ.M D) w0.bzs w0.js w0.lam0 none w0.code with sv:=sv' }
theorem Rel.call {fn:Func} {xs:List Comp} {vs:List Value} (hR:Rel w0 κ st a w) (hle:xs.length≤fn.ntmps) (hvs:q0f κ w xs vs) (off:Nat) :
  Rel (qer w0 κ (svOf a st.n w0.sv)) (κ.ctl κ.μ.lam κ.μ.tau (λ_=>False)) (qds fn xs off st) { tmps:=vs.toArray++Qb (fn.ntmps-vs.toArray.size) Q3,defers:=[] } w:=by
 have hcc:∀ (c:Cell) v,c.Rep κ w v→c.Rep (κ.ctl κ.μ.lam κ.μ.tau (λ_=>False)) w v:=λc v hv=>q8h (Keeps.refl w _) hv
 have hR0:Rel (w0.ctl (λD=>w0.M0 D∨κ.M D) w0.bzs w0.js w0.lam0 none w0.code) (κ.ctl κ.μ.lam κ.μ.tau (λ_=>False)) st { a with defers:=([]:List Nat).map Mark } w :=
  hR.remark none [] ⟨Qe,λD hD=>by cases hD⟩ (λD hD=>hD.elim id False.elim) (λD hD=>hD.elim) hR.ext.busy
 refine Rel.frame (w0:=w0.ctl (λD=>w0.M0 D∨κ.M D) w0.bzs w0.js w0.lam0 none w0.code) (sv':=svOf a st.n w0.sv) hR0 ⟨[],rfl,Qe,λD hD=>by cases hD⟩ ?_ (λt=>AV.Rep.mono hcc (qgw hvs _ t)) (λt=>AV.Rep.mono hcc (svOf_push hR t)) rfl rfl rfl rfl rfl rfl rfl
 show (vs.toArray++Qb (fn.ntmps-vs.toArray.size) Q3).size=fn.ntmps;have:=hvs.1;rw [Qt,Qr];simp;omega
theorem Rel.leave {κ2:Cx} {st2:St} {a2:Act} {w2:World} (h:Rel (qer w0 κ (svOf a st.n w0.sv)) κ2 st2 a2 w2) (hR:Rel w0 κ st a w):Rel w0 (κ2.ctl κ2.μ.lam κ2.μ.tau κ.M) (qbg st.n st.off st2) a w2:=by
 obtain ⟨Ds,hDs,hnd,hDM⟩:=hR.defers;have h4:=h.remark (M0':=w0.M0) (bzs':=w0.bzs) (M':=κ.M) w0.rd Ds ⟨hnd,hDM⟩ (λD hD=>.inl hD) hR.ext.fresh h.ext.busy
 exact Rel.frame (sv':=w0.sv) (a':=a) (st':=qbg st.n st.off st2) h4 ⟨Ds,hDs,hnd,hDM⟩ hR.size (svOf_env (a0:=a) h4.ext.sav) (svOf_sav (a0:=a) h4.ext.sav) rfl rfl rfl rfl rfl rfl rfl
theorem qj5 (hm:P.follows .mixedOrders=true) (hcons:∀ c∈cons,c.Holds P) {inls:List (Nat×Func)} (hin:q2b P inls) (anns:Nat→List (Nat×Ann)):∀ k,HOk P (inlOf P cons inls anns k)
 | 0=>HOk.id
 | k+1=>by
  intro C B hB hY;refine ⟨?_,?_⟩
  rotate_left
  ·intro w0 hag j xs off st K KP κ a w vs h
   have hj:Q9 (1000000000+j) 1000000000=false:=Ql.mpr λe=>by rw [Qf] at e;omega
   have h:(bif Q9 (1000000000+j) 1000000000 then _ else B (1000000000+j) xs off st K KP):=h
   rw [hj] at h;exact hY w0 hag j xs off st K KP κ a w vs h
  intro w0 hag f hf0 xs off st K KP κ a w vs h hR hvs;have hlt:Q9 f 1000000000=true:=by rw [Qf];exact hf0
  have h:(bif Q9 f 1000000000 then (match look? f inls with
   | some fn=>bif Qs xs.length fn.ntmps then
     vc P cons (anns f) (inlOf P cons inls anns k) B (codeOf fn) 0 (qds fn xs off st)
      {normal:=qam P fn st.n st.off K,exit:=λ_ _=>False,ret:=qam P fn st.n st.off K,panic:=λc st'=>KP c (qbg st.n st.off st') }
    else False
   | none=>B f xs off st K KP) else B f xs off st K KP):=h
  rw [hlt] at h;have h:(match look? f inls with
   | some fn=>bif Qs xs.length fn.ntmps then
     vc P cons (anns f) (inlOf P cons inls anns k) B (codeOf fn) 0 (qds fn xs off st)
      {normal:=qam P fn st.n st.off K,exit:=λ_ _=>False,ret:=qam P fn st.n st.off K,panic:=λc st'=>KP c (qbg st.n st.off st') }
    else False
   | none=>B f xs off st K KP):=h
  split at h
  ·rename_i fn hfn
   obtain ⟨hf,hn,hb⟩:=hin f fn hfn;cases hle:Qs xs.length fn.ntmps
   ·rw [hle] at h;exact h.elim
   rw [hle] at h;have hle:=Qq hle;refine ⟨⟨fn,hf,hn,by cases hx:fn.body with | none=>rw [hx] at hb;cases hb | some _=>rfl⟩,?_⟩
   obtain ⟨code,hcode⟩:=Option.isSome_iff_exists.1 hb;have hco:codeOf fn=code:=by unfold codeOf;rw [hcode];rfl
   refine (callsIn_wide (n:=0)).1 (callsIn_of_wp_marks hf hcode trivial ?_);rw [← hco];have hR':=hR.call hle hvs off;have hag':Agree (qer w0 κ (svOf a st.n w0.sv)) C:=⟨λj c hc=>hag.code j c hc,λl hl=>by cases hl⟩
   have hfin:∀ (κ':Cx) (st':St) (a':Act) (w':World),qam P fn st.n st.off K st'→Rel (qer w0 κ (svOf a st.n w0.sv)) κ' st' a' w'→LeavesInM Qg 0 P fn a'.tmps (λe w'=>(∃ (v:Value) (rs:List Comp) (κ':Cx) (st':St),e=.returned v∧K rs st'∧Rel w0 κ' st' a w'∧(retAV rs).Rep κ' w' v) ∨
     ∃ (c:Cell) (v:Value) (κ':Cx) (st':St),e=.panicked [{ v:=v,recovered:=false }]∧KP c st'∧Rel w0 κ' st' a w'∧c.Rep κ' w' v) a'.defers .returning w':=λκ' st' a' w' hr hR2=>by
    refine q7i (by simp) hR2 (λM' w'' hR2 _=>?_)
    unfold qam at hr;split at hr
    ·rename_i ys hys
     split at hr
     ·rename_i rs hrs
      obtain ⟨us,h1,h2,h3⟩:=qb3 hR2 fn.results.toList ys hys;have hrun:(results fn a'.tmps).run P w''=.ok (if h:us.toArray.size=1 then us.toArray[0] else .tuple us.toArray) w'':=by
       unfold results;rw [Qi,Qn,Sem.run_map]
       erw [h3]
       rfl
      have hrep:=qij ys rs us hrs h1 h2;refine ⟨_,hrun,.inl ⟨_,rs,_,_,rfl,hr,hR2.leave hR,?_⟩⟩;refine AV.Rep.mono (κ:=κ'.ctl κ'.μ.lam κ'.μ.tau M') (λc v hv=>q8h (Keeps.refl w'' _) hv) ?_
      unfold retAV;split
      ·rename_i x
       have hl:us.length=1:=hrep.1;obtain ⟨u,rfl⟩:=Qd.1 hl;obtain ⟨u',hu,hxr⟩:=hrep.2 0 x rfl;injection hu with hu;subst hu;exact hxr
      ·rename_i hne
       have hl:us.length=rs.length:=hrep.1;have hn:us.toArray.size≠1:=λe=>by
        have e:us.length=1:=by simpa using e
        rw [hl] at e;obtain ⟨y,hy⟩:=Qd.1 e;exact hne y hy
       rw [dif_neg hn];exact ⟨us.toArray,rfl,by simpa using hl,λi x hx=>by
        obtain ⟨u,hu,hxr⟩:=hrep.2 i x hx;exact ⟨u,by simpa using hu,hxr⟩⟩
     ·exact hr.elim
    ·exact hr.elim
   refine qjm (anns:=anns f) hm hcons (qj5 hm hcons hin anns k) (codeOf fn) B C hB hY 0 _ hag' 0 (qds fn xs off st) _ _ _ _ w h hR' ⟨λκ' st' a' w' h' hR2=>hfin κ' st' a' w' h' hR2,λid κ' st' a' w' h' hR2=>h'.elim,λκ' st' a' w' h' hR2=>hfin κ' st' a' w' h' hR2,
    λκ' st' a' w' c v h' hR2 hc=>?_,λa w h=>?_⟩
   ·refine q7i (by simp) hR2 (λM' w'' hR3 hmono=>.inr ⟨c,v,_,_,rfl,h',hR3.leave hR,?_⟩)
    exact q8h (Keeps.refl w'' _) (hmono c v hc)
   ·rcases h with ⟨v,rs,κ',st',h,_⟩ | ⟨c,v,κ',st',h,_⟩ <;> cases h
  ·exact hB w0 hag f hf0 xs off st K KP κ a w vs h hR hvs
def conBase (w:World) (S:Nat→Prop):Base:={ toWorld:=w,S0:=S,sv:=λ_=>Q3,n0:=w.heap.size,low:=Qk _,X:=λ_=>False }
theorem holds_of_vc (c : Con) {fn : Func} {code : Code} (hf : P.funcs[c.f]? = some fn) (hb : fn.body = some code) (hname : (fn.name == "runtime.NumGoroutine") = false) (hm : P.follows .mixedOrders = true)
  (hargs:Qs c.args.length fn.ntmps=true) (hcons:∀ c∈cons,c.Holds P) {HH:Pays c.args→Inl→Inl} (hHH:∀ p,HOk P (HH p)) {B:Inl} (hB:q34 P (λ_=>none) B) (hY:q50 P (λ_=>none) B) (anns:Pays c.args→List (Nat×Ann)) (hfn:∀ F,c.fn=some F→∀ p r,c.post p r→r=F p)
  (hvc:∀ p,c.pre p→vc P cons (anns p) (HH p) B code 0 (startOf fn (q0u c.args p)) { normal:=q9s P fn c p,exit:=λ_ _=>False,ret:=q9s P fn c p }):c.Holds P:=by
 refine ⟨⟨⟨fn,hf,hname,by rw [hb];rfl⟩,hfn⟩,λp vs w S hS hpre hvs=>?_⟩
 refine (callsIn_wide (n:=0)).1 (callsIn_of_wp_marks hf hb trivial ?_);have hlen:∀ (l:List CK) (p:Pays l),(q0u l p).length=l.length:=by
  intro l
  induction l with
  | nil=>intro p;rfl
  | cons x l ih =>
   cases l with
   | nil=>intro p;rfl
   | cons y r=>intro p;show (q0u (y::r) p.2).length+1=_;rw [ih p.2];rfl
 have hle:vs.length≤fn.ntmps:=by
  rw [hvs.1,hlen];exact Qq hargs
 have hR:Rel (conBase w S) (Cx.of S) (startOf fn (q0u c.args p)) { tmps:=vs.toArray++Qb (fn.ntmps-vs.toArray.size) Q3,defers:=[] } w:={
  defers:=⟨[],rfl,Qe,λD hD=>by cases hD⟩
  size:=by
   show (vs.toArray++Qb (fn.ntmps-vs.toArray.size) Q3).size=fn.ntmps;rw [Qt,Qr];simp;omega
  env:=λt=>qgw hvs _ t
  box:=λb cs h=>by cases h
  apart:=λb b' cs cs' h=>by cases h
  row:=λr x h=>by cases h
  rows:=λr r' x x' h=>by cases h
  bound:=hS
  below:=.of_below (q03 w)
  old:=λg hg=>.inl hg
  ext:=⟨λt=>trivial,(λm y h=>by cases h),(λm m' y y' h=>by cases h),(λy h=>by cases h),(λi z h=>by cases h),(λi j z z' h=>by cases h),(λy h=>by cases h),.inl rfl,λD hD=>(hD.elim id id).elim,λD hD=>hD.elim,λl hl=>hl.elim,λi L h=>(by cases h),λi k L L' h=>(by cases h),λj hj=>hj.elim⟩ }
 have hfin:∀ (κ:Cx) (st:St) (a:Act) (w':World),q9s P fn c p st→Rel (conBase w S) κ st a w'→LeavesInM Qg 0 P fn a.tmps (λe w'=>∃ (r:Pays c.res) (v':Value),e=.returned v'∧c.post p r∧(q1s c.res r).Rep (Cx.of λg=>S g∨(w.heap.size≤g∧g<w'.heap.size)) w' v'∧Below w.heap.size w w') a.defers .returning w':=λκ st a w' h hR=>by
  refine q7i (by simp) hR (λM' w' hR _=>?_)
  obtain ⟨κ,st,r,v,hR,hrun,hpost,hrep⟩:=ret_sound hR h;refine ⟨v,hrun,r,v,rfl,hpost,?_,hR.below.below (λ_ h=>h)⟩
  have h1:(q1s c.res r).Rep (Cx.of κ.S) w' v:=qa7 (κ:=κ) (κ':=Cx.of κ.S) c.res r rfl hrep;exact AV.Rep.keeps (κ:=Cx.of κ.S) (κ':=Cx.of λg=>S g∨(w.heap.size≤g∧g<w'.heap.size)) rfl rfl rfl (Keeps.refl w' κ.S) (λg hg hlt=>(hR.old g hg).imp id (λh=>⟨h,hlt⟩)) h1
 refine qjm (anns:=anns p) hm hcons (hHH p) code B (λ_=>none) hB hY 0 (conBase w S) ⟨λj c h=>(by cases h),λl h=>(by cases h)⟩ 0 _ _ _ (Cx.of S) _ w (hvc p hpre) hR ⟨?_,?_,?_,?_,?_⟩
 ·exact λκ st a w' h hR=>hfin κ st a w' h hR
 ·exact λid κ st a w' h hR=>h.elim
 ·exact λκ st a w' h hR=>hfin κ st a w' h hR
 ·exact λκ st a w' c v h hR hc=>h.elim
 ·intro a w h
  obtain ⟨r,v,h,_⟩:=h;cases h
end
end R
end Go.Proofs.YtlmbfijhkcmncaaGreatDoor

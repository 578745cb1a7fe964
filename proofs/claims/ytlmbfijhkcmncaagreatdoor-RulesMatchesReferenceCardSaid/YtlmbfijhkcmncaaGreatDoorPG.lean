/-
  A map of slices of the call's own: what is known behind its operations.
-/
import Derived.Test.YtlmbfijhkcmncaaGreatDoorPF
open Go.MapKept renaming run_getObj_map→Q0,run_setObj_map→Q3
open Array renaming getElem?_modify→Q7,getElem?_eq_some_iff→Q9,getElem?_toList→Qc,length_toList→Qi,getElem?_push→Qj,ext_getElem?→Qq,toList_push→Qr
open Go.Instr renaming mapUpdate→Q8,mapEntry→Qk,entryStore→Qn
open Go.Result renaming andThen_ok→Qa
open Option renaming map_some→Qb,bind_some→Qf,getD_some→Qg,bind_none→Qm
open Go.Sem renaming run_bind→Qd
open List renaming getElem?_set→Qe,getElem?_append_right→Ql,mem_singleton→Qo,mem_map→Qp,getElem?_map→Qs
open Nat renaming sub_zero→Qh
set_option linter.unusedVariables false
namespace Go.Proofs.YtlmbfijhkcmncaaGreatDoor
open Go.RowKit
namespace R
section
variable {w0:Base} {w w':World} {κ:Cx} {st:St} {a:Act} {P:Program}
theorem Rel.newFam (h:Rel w0 κ st a w) (hnn:st.nest=none) (t:TypeId) (kk:CK) (e:TypeId) (fs:Kds):∃ κ',Rel w0 κ' (st.newFam { t:=t,kk:=kk,e:=e,fs:=fs,xs:=[] }) a (w.alloc (.map #[] 0))∧κ'.μ.φ=w.heap.size:=by
 have hbel:Below w.heap.size w (w.alloc (.map #[] 0)):=q02 (q03 w) _;have hkeep:Keeps w (w.alloc (.map #[] 0)) κ.S:=Keeps.below hbel κ.S
 let κ':Cx:={ κ with μ:={ κ.μ with φ:=w.heap.size,fin:=λ_=>.slice none 0 0,fnw:=.slice none 0 0 } }
 have hsrc:∀ s:Src,κ'.src s=κ.src s:=λs=>by cases s <;> rfl
 have H:∀ (c:Cell) v,c.Rep κ w v→(c.dropFam).Rep κ' (w.alloc (.map #[] 0)) v:=λc v hr=>by
  cases c with
  | fref=>trivial
  | yld j=>exact q00 (κ':=κ') rfl rfl rfl hkeep hr rfl
  | fstamp=>trivial
  | fent kk k=>trivial
  | fp kk k sz i f=>trivial
  | fnew=>trivial
  | kseq f src=>exact q00 (κ':=κ') rfl rfl rfl hkeep hr (hsrc src)
  | mref m=>exact q00 (κ':=κ') rfl rfl rfl hkeep hr rfl
  | iref kk k=>exact q00 (κ':=κ') rfl rfl rfl hkeep hr rfl
  | nref=>exact q00 (κ':=κ') rfl rfl rfl hkeep hr rfl
  | iter i=>exact q00 (κ':=κ') rfl rfl rfl hkeep hr rfl
  | any=>exact q00 (κ':=κ') rfl rfl rfl hkeep hr trivial
  | undef=>exact q00 (κ':=κ') rfl rfl rfl hkeep hr trivial
  | nil=>exact q00 (κ':=κ') rfl rfl rfl hkeep hr trivial
  | val k p=>exact q00 (κ':=κ') rfl rfl rfl hkeep hr trivial
  | ptr b off=>exact q00 (κ':=κ') rfl rfl rfl hkeep hr trivial
  | ep fs p f=>exact q00 (κ':=κ') rfl rfl rfl hkeep hr trivial
  | own r=>exact q00 (κ':=κ') rfl rfl rfl hkeep hr trivial
  | rp r sz i f=>exact q00 (κ':=κ') rfl rfl rfl hkeep hr trivial
  | sfx r sz i=>exact q00 (κ':=κ') rfl rfl rfl hkeep hr trivial
  | fn f=>exact q00 (κ':=κ') rfl rfl rfl hkeep hr trivial
  | clo f k ps=>exact q00 (κ':=κ') rfl rfl rfl hkeep hr trivial
  | fsl cls=>exact q00 (κ':=κ') rfl rfl rfl hkeep hr trivial
  | fel cls n=>exact q00 (κ':=κ') rfl rfl rfl hkeep hr trivial
  | nilm=>exact q00 (κ':=κ') rfl rfl rfl hkeep hr trivial
  | bnd f x p=>exact q00 (κ':=κ') rfl rfl rfl hkeep hr trivial
  | dyn t ks p=>exact q00 (κ':=κ') rfl rfl rfl hkeep hr trivial
 have HV:∀ k p v,Cell.Rep κ w (.val k p) v→Cell.Rep κ' (w.alloc (.map #[] 0)) (.val k p) v:=λk p v hr=>q3f (κ':=κ') rfl hkeep hr
 refine ⟨κ',h.q8a (g:=Cell.dropFam) (κ':=κ') (row:=none) rfl rfl rfl rfl rfl (World.grownBy_alloc w _ none) (λk e=>nomatch e) hkeep H rfl rfl rfl rfl rfl ?_ h.ext.maps (λy hy=>by have hy:st.nest=some y:=hy;rw [hnn] at hy;cases hy) (λi z e=>nomatch e) (λi j z z' e=>nomatch e) ?_ (.inr hnn) (λg o ho=>q1h hbel g o (q5j ho)) rfl rfl rfl,rfl⟩
 ·intro m y hy
  obtain ⟨es,clock,h1,h2,h3⟩:=h.ext.map m y hy;exact ⟨es,clock,q1h hbel _ _ rfl h1,h2.mono HV,h3⟩
 ·intro y hy
  injection hy with hy;subst hy;exact {
   out:=⟨#[],0,World.alloc_heap_new w _,rfl,(λi x hx=>nomatch hx),(λe he=>by cases he),by simp⟩
   low:=h.low
   inn:=λi x hx=>nomatch hx
   miss:=λk _=>rfl
   sep:=λi x hx=>nomatch hx
   inj:=λi j x x' hx=>nomatch hx
   new:=λk l e=>nomatch e
   once:=λi j x x' hx=>nomatch hx
   stamp:=λk e=>nomatch e
   apart:=λm z hz=>by
    obtain ⟨es,clock,h1,_⟩:=h.ext.map m z hz;have:=lt_of_some h1;show κ.μ m≠w.heap.size;omega }
theorem q5h {y:FRow} (hp:y.pend=none) (k:y.kk.Pay):y.off k:=λl e=>by rw [hp] at e;cases e
theorem FamRep.there {n0:Nat} {boxes:List (Nat×List Cell)} {rows:List (Nat×Row)} {maps:List (Nat×MRow)} {y:FRow} (h:FamRep n0 κ boxes rows maps w y) {k:y.kk.Pay} {g:Nat} (hg:(κ.μ.fin (y.kk.kv k)).ownBlock=some g):∃ (i:Nat) (x:y.kk.Pay×List y.fs.Pay),y.xs[i]? = some x∧x.1=k:=by
 cases hk:y.at_ k with
 | none=>rw [h.miss k hk] at hg;cases hg
 | some l =>
  obtain ⟨i,x,h1,h2,_⟩:=get_mem _ _ _ _ hk;exact ⟨i,x,h1,(q4r h2).symm⟩
theorem Rel.qbk (h:Rel w0 κ st a w) {y:FRow} (hy:st.fam=some y) (hpn:y.pend=none) {k:y.kk.Pay} {l:List y.fs.Pay} {v':Value} {cells:List Value} {row:Option Nat} (hg:w.grownBy w' row)
  (hrow:∀ g,row=some g→(κ.μ.fin (y.kk.kv k)).ownBlock=some g) (hown:w'.ownsRow w0.n0 y.e y.fs.size v' l.length cells) (hcells:q0k κ w y.fs l cells) (hnew:∀ g,v'.ownBlock=some g→row=some g∨w.heap.size≤g) :
  Rel w0 { κ with μ:={ κ.μ with fnw:=v' } } (st.qbk y k l) a w':=by
 have hF:=h.ext.fam y hy;have hnest:=h.noNest hy;have hat:∀ g,row=some g→∃ (i:Nat) (x:y.kk.Pay×List y.fs.Pay),y.xs[i]? = some x∧x.1=k∧(κ.μ.fin (y.kk.kv x.1)).ownBlock=some g∧κ.sep st.boxes st.rows g∧w0.n0≤g∧∀ o:Obj,o.q2q=true→w.heap[g]? ≠ some o:=λg e=>by
  have hg':=hrow g e;obtain ⟨i,x,hx,hk⟩:=hF.there hg';have hgx:(κ.μ.fin (y.kk.kv x.1)).ownBlock=some g:=by rw [hk];exact hg'
  obtain ⟨cs,ho,_⟩:=hF.inn i x hx (q5h hpn _);exact ⟨i,x,hx,hk,hgx,hF.sep i x hx (q5h hpn _) g hgx,q2r ho g hgx,q45 ho g hgx⟩
 have hkeep:Keeps w w' κ.S:=⟨hg.size,λg o hs hlt=>World.cell?_of_block (hg.block g hlt (λe=>by
  obtain ⟨_,_,_,_,_,h5,_⟩:=hat g e.symm;exact h5.1 hs))⟩
 have hm:∀ (g:Nat) (o:Obj),o.q2q=true→w.heap[g]? = some o→w'.heap[g]? = some o:=λg o ho hh=>(hg.block g (Q9.1 hh).1 (λe=>by
  obtain ⟨_,_,_,_,_,_,_,h7⟩:=hat g e.symm;exact h7 o ho hh)).trans hh
 let κ':Cx:={ κ with μ:={ κ.μ with fnw:=v' } }
 have hsrc:∀ s:Src,κ'.src s=κ.src s:=λs=>by cases s <;> rfl
 have H:∀ (c:Cell) v,c.Rep κ w v→(c.qdn).Rep κ' w' v:=λc v hr=>by
  cases c with
  | fnew=>trivial
  | fref=>exact q00 (κ':=κ') rfl rfl rfl hkeep hr rfl
  | yld j=>exact q00 (κ':=κ') rfl rfl rfl hkeep hr rfl
  | fstamp=>exact q00 (κ':=κ') rfl rfl rfl hkeep hr rfl
  | fent kk k=>exact q00 (κ':=κ') rfl rfl rfl hkeep hr rfl
  | fp kk k sz i f=>exact q00 (κ':=κ') rfl rfl rfl hkeep hr rfl
  | kseq f src=>exact q00 (κ':=κ') rfl rfl rfl hkeep hr (hsrc src)
  | mref m=>exact q00 (κ':=κ') rfl rfl rfl hkeep hr rfl
  | iref kk k=>exact q00 (κ':=κ') rfl rfl rfl hkeep hr rfl
  | nref=>exact q00 (κ':=κ') rfl rfl rfl hkeep hr rfl
  | iter i=>exact q00 (κ':=κ') rfl rfl rfl hkeep hr rfl
  | any=>exact q00 (κ':=κ') rfl rfl rfl hkeep hr trivial
  | undef=>exact q00 (κ':=κ') rfl rfl rfl hkeep hr trivial
  | nil=>exact q00 (κ':=κ') rfl rfl rfl hkeep hr trivial
  | val k p=>exact q00 (κ':=κ') rfl rfl rfl hkeep hr trivial
  | ptr b off=>exact q00 (κ':=κ') rfl rfl rfl hkeep hr trivial
  | ep fs p f=>exact q00 (κ':=κ') rfl rfl rfl hkeep hr trivial
  | own r=>exact q00 (κ':=κ') rfl rfl rfl hkeep hr trivial
  | rp r sz i f=>exact q00 (κ':=κ') rfl rfl rfl hkeep hr trivial
  | sfx r sz i=>exact q00 (κ':=κ') rfl rfl rfl hkeep hr trivial
  | fn f=>exact q00 (κ':=κ') rfl rfl rfl hkeep hr trivial
  | clo f k ps=>exact q00 (κ':=κ') rfl rfl rfl hkeep hr trivial
  | fsl cls=>exact q00 (κ':=κ') rfl rfl rfl hkeep hr trivial
  | fel cls n=>exact q00 (κ':=κ') rfl rfl rfl hkeep hr trivial
  | nilm=>exact q00 (κ':=κ') rfl rfl rfl hkeep hr trivial
  | bnd f x p=>exact q00 (κ':=κ') rfl rfl rfl hkeep hr trivial
  | dyn t ks p=>exact q00 (κ':=κ') rfl rfl rfl hkeep hr trivial
 have HV:∀ k p v,Cell.Rep κ w (.val k p) v→Cell.Rep κ' w' (.val k p) v:=λk p v hr=>q3f (κ':=κ') rfl hkeep hr
 have hoth:∀ (i:Nat) (x:y.kk.Pay×List y.fs.Pay),y.xs[i]? = some x→x.1≠k→∀ g,(κ.μ.fin (y.kk.kv x.1)).ownBlock=some g→row≠some g:=λi x hx hne g hgx e=>by
  obtain ⟨j,x',hx',hk,hgx',_⟩:=hat g e;have:=hF.inj i j x x' hx hx' (q5h hpn _) (q5h hpn _) g hgx hgx';subst this;rw [hx] at hx';injection hx' with hx';exact hne (by rw [hx'];exact hk)
 have hoff:∀ q:y.kk.Pay,FRow.off { y with pend:=some (k,l) } q→q≠k:=λq ho e=>ho l (by rw [e])
 refine h.privWriteC (g:=Cell.qdn) (κ':=κ') (row:=row) rfl rfl rfl rfl rfl hg (λg e=>by
  obtain ⟨_,_,_,_,_,h5,h6,_⟩:=hat g e;exact ⟨h6,h5.2.1,h5.2.2⟩) hkeep H rfl rfl rfl rfl rfl ?_ h.ext.maps (λy hy=>by have hy:st.nest=some y:=hy;rw [hnest] at hy;cases hy) ?_ h.ext.iters ?_ (.inr hnest) (λg o ho=>hm g o (q5j ho)) rfl rfl rfl
 ·intro m z hz
  obtain ⟨es,clock,h1,h2,h3⟩:=h.ext.map m z hz;exact ⟨es,clock,hm _ _ rfl h1,h2.mono HV,h3⟩
 ·intro i z hz
  exact (h.ext.iter i z hz).move (κ':=κ') (hsrc _) HV (hm _) (λbm es c _=>hm bm _ rfl)
 ·intro y' hy'
  injection hy' with hy';subst hy';exact {
   out:=by
    obtain ⟨es,clock,h1,h2,h3,h4⟩:=hF.out;exact ⟨es,clock,hm _ _ rfl h1,h2,λi x hx=>let ⟨e,he,q1,q2⟩:=h3 i x hx;⟨e,he,q1l HV _ _ q1,q2⟩,h4⟩
   low:=hF.low
   inn:=λi x hx ho=>by
    obtain ⟨cs,h1,h2⟩:=hF.inn i x hx (q5h hpn _);exact ⟨cs,qae h1 (λg hgx=>hg.block g (q3v h1 g hgx) (λe=>hoth i x hx (hoff _ ho) g hgx e.symm)),h2.mono HV⟩
   miss:=hF.miss
   sep:=λi x hx ho g hgx=>(hF.sep i x hx (q5h hpn _) g hgx).mapB (κ':=κ') rfl rfl rfl Cell.qdn
   inj:=λi j x x' hx hx' _ _ g=>hF.inj i j x x' hx hx' (q5h hpn _) (q5h hpn _) g
   new:=λk' l' e=>by
    injection e with e;injection e with e1 e2;subst e1;subst e2;refine ⟨cells,hown,hcells.mono HV,λg hgv=>⟨?_,λi x hx ho e=>?_⟩⟩
    ·refine Cx.sep.mapB (κ:=κ) (κ':=κ') ?_ rfl rfl rfl Cell.qdn
     rcases hnew g hgv with e | e
     ·obtain ⟨_,_,_,_,_,h5,_⟩:=hat g e
      exact h5
     ·refine ⟨λhs=>absurd (h.bound g hs) (Nat.not_lt.2 e),λb cs hb e'=>?_,λr z hz e'=>?_⟩
      ·obtain ⟨us,ty,hbk,_⟩:=h.box b cs hb
       have:=hbk.lt
       omega
      ·obtain ⟨cs,ho,_⟩:=h.row r z hz
       have:=q3v ho g e'
       omega
    ·rcases hnew g hgv with e' | e'
     ·exact hoth i x hx (hoff _ ho) g e e'
     ·obtain ⟨cs,h1,_⟩:=hF.inn i x hx (q5h hpn _)
      have:=q3v h1 g e
      omega
   once:=hF.once
   stamp:=λk hk=>by
    obtain ⟨i,x,e,es,clock,h1,h2,h3,h4,h5⟩:=hF.stamp k hk;exact ⟨i,x,e,es,clock,hm _ _ rfl h1,h2,h3,h4,h5⟩
   apart:=hF.apart }
open Classical in
theorem qau {kk:CK} {β:Type} {xs:List (kk.Pay×β)} {F:Value→Value} {es:Array MapEntry} {clock g:Nat} {t kt et:TypeId} (ht:P.underlying t=some (.map kt et)) (hk:q26 P kt kk=true) (hsz:es.size=xs.length)
  (hat:∀ (i:Nat) x,xs[i]? = some x→∃ e,es[i]? = some e∧(kk.comp x.1).Rep κ w e.key∧e.val=F (kk.kv x.1)) (hborn:∀ e∈es.toList,e.born<clock) (hap:(es.toList.map (·.born)).Nodup) (honce:∀ (i j:Nat) x x',xs[i]? = some x→xs[j]? = some x'→x.1=x'.1→i=j)
  (hg:w.heap[g]? = some (.map es clock)) (k:kk.Pay) (u:Value) (l:β) :
  ∃ es' clock',(Q8 t (.map (some g)) (kk.kv k) u).run P w=.ok () (setB w g (.map es' clock'))∧es'.size=(Mp.put kk.eqB k l xs).length ∧
   (∀ (i:Nat) x,(Mp.put kk.eqB k l xs)[i]? = some x→((x=(k,l))∨(x.1≠k∧xs[i]? = some x))∧∃ e,es'[i]? = some e∧(kk.comp x.1).Rep κ w e.key∧e.val=if kk.kv x.1=kk.kv k then u else F (kk.kv x.1)) ∧
   (∀ e∈es'.toList,e.born<clock')∧(es'.toList.map (·.born)).Nodup∧(∀ (i j:Nat) x x',(Mp.put kk.eqB k l xs)[i]? = some x→(Mp.put kk.eqB k l xs)[j]? = some x'→x.1=x'.1→i=j)∧∀ q,Mp.get kk.eqB q (Mp.put kk.eqB k l xs)=none→q≠k∧Mp.get kk.eqB q xs=none:=by
 have hp:=q23 hk;have hkeys:q5q kk es.toList xs:=⟨by rw [Qi];exact hsz,λi x hx=>by
  obtain ⟨e,he,q1,_⟩:=hat i x hx;exact ⟨e,by rw [Qc];exact he,q2i hp q1⟩⟩
 have hf:=q3i hk k w es.toList xs hkeys;have hkr:(kk.comp k).Rep κ w (kk.kv k):=ck_rep hp;cases hi:Mp.idx kk.eqB k xs 0 with
 | none =>
  rw [hi] at hf;have hnone:Mp.get kk.eqB k xs=none:=by
   have:=Mp.q4t kk.eqB k xs 0
   rw [hi] at this;exact this.symm
  have hne:∀ (i:Nat) x,xs[i]? = some x→x.1≠k:=λi x hx e=>by
   have:=q6w _ _ _ hnone i x hx
   rw [e,q6f hp] at this;cases this
  have hput:Mp.put kk.eqB k l xs=xs++[(k,l)]:=Mp.qe6 _ _ _ _ _ hi;rw [hput];have hcase:∀ (i:Nat) x,(xs++[(k,l)])[i]? = some x→(i=xs.length∧x=(k,l))∨(x.1≠k∧xs[i]? = some x):=λi x hx=>by
   rcases Nat.lt_trichotomy i xs.length with hlt | heq | hgt
   ·rw [List.getElem?_append_left hlt] at hx
    exact .inr ⟨hne i x hx,hx⟩
   ·subst heq
    rw [Ql (Nat.le_refl _),Nat.sub_self] at hx;injection hx with hx;exact .inl ⟨rfl,hx.symm⟩
   ·rw [List.getElem?_eq_none (by simp;omega)] at hx;cases hx
  refine ⟨es.push { key:=kk.kv k,val:=u,born:=clock },clock+1,?_,by rw [Array.size_push,hsz];simp,λi x hx=>⟨(hcase i x hx).imp (λh=>h.2) id,?_⟩,λe he=>?_,?_,λi j x x' hx hx' e=>?_,λq hq=>?_⟩
  ·simp only [Q8,Qd,run_underlying ht,Qa,Q0 hg,q33 hk,hf,Qm,Q3 _ hg]
   rfl
  ·rcases hcase i x hx with ⟨rfl,rfl⟩ | ⟨hn,hx⟩
   ·exact ⟨{ key:=kk.kv k,val:=u,born:=clock },by rw [Qj,if_pos hsz.symm],hkr,by rw [if_pos rfl]⟩
   ·obtain ⟨e,he,h1,h2⟩:=hat i x hx
    refine ⟨e,?_,h1,by rw [if_neg (λe=>hn (qcq hp e))];exact h2⟩
    have:=(List.getElem?_eq_some_iff.1 hx).1
    rw [Qj,if_neg (by omega)]
    exact he
  ·rw [Qr,List.mem_append] at he
   rcases he with he | he
   ·exact Nat.lt_succ_of_lt (hborn e he)
   ·obtain rfl:=Qo.1 he
    exact Nat.lt_succ_self _
  ·rw [Qr,List.map_append,List.nodup_append]
   refine ⟨hap,by simp,λa ha b hb e=>?_⟩
   simp only [List.map_cons,List.map_nil,Qo] at hb;obtain ⟨x,hx,rfl⟩:=Qp.1 ha;have:=hborn x hx;omega
  ·rcases hcase i x hx with ⟨h1,rfl⟩ | ⟨hn,h1⟩ <;> rcases hcase j x' hx' with ⟨h2,rfl⟩ | ⟨hn',h2⟩
   ·rw [h1,h2]
   ·exact absurd e.symm hn'
   ·exact absurd e hn
   ·exact honce i j x x' h1 h2 e
  ·obtain ⟨h1,h2⟩:=qas kk.eqB q k l xs hq
   exact ⟨λe=>(by rw [e,q6f hp] at h2;cases h2),h1⟩
 | some r =>
  obtain ⟨q,_,hq,hqe,hq2⟩:=Mp.q52 _ _ _ _ _ _ hi;rw [Qh] at hq;have hqk:q.1=k:=(q4r hqe).symm;obtain ⟨e,he,he1,he2⟩:=hat r.1 q hq;have he':es.toList[r.1]? = some e:=by simpa using he
  have hlt:r.1<es.size:=(Q9.1 he).1;have hek:e.key=kk.kv k:=by rw [q2i hp he1,hqk]
  rw [hi] at hf;have hput:Mp.put kk.eqB k l xs=xs.set r.1 (k,l):=by rw [Mp.qbo _ _ _ _ _ _ _ hi,Qh]
  rw [hput];have hlt2:r.1<xs.length:=by rw [← hsz];exact hlt
  have hcase:∀ (i:Nat) x,(xs.set r.1 (k,l))[i]? = some x→(i=r.1∧x=(k,l))∨(i≠r.1∧x.1≠k∧xs[i]? = some x):=λi x hx=>by
   rw [Qe] at hx;by_cases ei:r.1=i
   ·rw [if_pos ei,if_pos (by omega)] at hx
    injection hx with hx;exact .inl ⟨ei.symm,hx.symm⟩
   ·rw [if_neg ei] at hx
    exact .inr ⟨λh=>ei h.symm,λex=>ei (honce r.1 i q x hq hx (by rw [hqk,ex])),hx⟩
  have hb:(es.modify r.1 λe=>{ e with key:=kk.kv k,val:=u }).toList.map (·.born)=es.toList.map (·.born):=by
   apply List.ext_getElem?
   intro i;rw [Qs,Qs,Qc,Qc,Q7];split
   ·rw [Option.map_map];rfl
   ·rfl
  refine ⟨es.modify r.1 λe=>{ e with key:=kk.kv k,val:=u },clock,?_,by rw [Array.size_modify,hsz];simp,λi x hx=>⟨(hcase i x hx).imp (λh=>h.2) (λh=>h.2),?_⟩,λe' he'=>?_,by rw [hb];exact hap,λi j x x' hx hx' e=>?_,λq' hq'=>?_⟩
  ·simp only [Q8,Qd,run_underlying ht,Qa,Q0 hg,q33 hk,hf,Qf,he',Qb,he,Qg,hek,qad hp,Q3 _ hg]
   rfl
  ·rcases hcase i x hx with ⟨rfl,rfl⟩ | ⟨hn,hxk,hx⟩
   ·exact ⟨{ e with key:=kk.kv k,val:=u },by rw [Q7,if_pos rfl,he];rfl,hkr,by rw [if_pos rfl]⟩
   ·obtain ⟨e',h1,h2,h3⟩:=hat i x hx
    exact ⟨e',by rw [Q7,if_neg (λh=>hn h.symm)];exact h1,h2,by rw [if_neg (λe=>hxk (qcq hp e))];exact h3⟩
  ·have:e'.born∈es.toList.map (·.born):=by rw [← hb];exact Qp.2 ⟨e',he',rfl⟩
   obtain ⟨x,hx,hxe⟩:=Qp.1 this;rw [← hxe];exact hborn x hx
  ·rcases hcase i x hx with ⟨h1,rfl⟩ | ⟨hn,hxk,h1⟩ <;> rcases hcase j x' hx' with ⟨h2,rfl⟩ | ⟨hn',hxk',h2⟩
   ·rw [h1,h2]
   ·exact absurd e.symm hxk'
   ·exact absurd e hxk
   ·exact honce i j x x' h1 h2 e
  ·have hqk':q'≠k:=λe=>by
    have:=q6w _ _ _ hq' r.1 (k,l) (by rw [Qe,if_pos rfl,if_pos hlt2])
    rw [e] at this;have h2:kk.eqB k k=false:=this;rw [q6f hp] at h2;cases h2
   refine ⟨hqk',?_⟩;cases hh:Mp.get kk.eqB q' xs with
   | none=>rfl
   | some l0 =>
    obtain ⟨i,x,x1,x2,x3⟩:=get_mem _ _ _ _ hh;by_cases ei:i=r.1
    ·subst ei
     rw [hq] at x1;injection x1 with x1;exact absurd (by rw [q4r x2,← x1,hqk]) hqk'
    ·have:=q6w _ _ _ hq' i x (by rw [Qe,if_neg (λh=>ei h.symm)];exact x1)
     rw [x2] at this;cases this
open Classical in
theorem Rel.q88 (h:Rel w0 κ st a w) {y:FRow} (hy:st.fam=some y) {k:y.kk.Pay} {l:List y.fs.Pay} (hpd:y.pend=some (k,l)) {t kt et:TypeId} (ht:P.underlying t=some (.map kt et)) (hk:q26 P kt y.kk=true) :
  ∃ κ' w',(Q8 t (.map (some κ.μ.φ)) (y.kk.kv k) κ.μ.fnw).run P w=.ok () w'∧Rel w0 κ' (st.q88 y k l) a w':=by
 have hp:=q23 hk;have hF:=h.ext.fam y hy;have hnest:=h.noNest hy;obtain ⟨es,clock,g1,g2,g3,g4,g5⟩:=hF.out;obtain ⟨es',clock',hrun,r1,r2,r3,r4,r5,r6⟩:=qau (P:=P) ht hk g2 g3 g4 g5 hF.once g1 k κ.μ.fnw l;have hkeep:Keeps w (setB w κ.μ.φ (.map es' clock')) κ.S:=q5x rfl rfl g1 κ.S
 let κ':Cx:={ κ with μ:={ κ.μ with fin:=λv=>if v=y.kk.kv k then κ.μ.fnw else κ.μ.fin v } }
 have hsrc:∀ s:Src,κ'.src s=κ.src s:=λs=>by cases s <;> rfl
 generalize hw':setB w κ.μ.φ (.map es' clock')=w' at hkeep;have H:∀ (c:Cell) v,c.Rep κ w v→(c.qhc).Rep κ' w' v:=λc v hr=>by
  cases c with
  | fnew=>trivial
  | fent kk k=>trivial
  | fp kk k sz i f=>trivial
  | fref=>exact q00 (κ':=κ') rfl rfl rfl hkeep hr rfl
  | yld j=>exact q00 (κ':=κ') rfl rfl rfl hkeep hr rfl
  | fstamp=>exact q00 (κ':=κ') rfl rfl rfl hkeep hr rfl
  | kseq f src=>exact q00 (κ':=κ') rfl rfl rfl hkeep hr (hsrc src)
  | mref m=>exact q00 (κ':=κ') rfl rfl rfl hkeep hr rfl
  | iref kk k=>exact q00 (κ':=κ') rfl rfl rfl hkeep hr rfl
  | nref=>exact q00 (κ':=κ') rfl rfl rfl hkeep hr rfl
  | iter i=>exact q00 (κ':=κ') rfl rfl rfl hkeep hr rfl
  | any=>exact q00 (κ':=κ') rfl rfl rfl hkeep hr trivial
  | undef=>exact q00 (κ':=κ') rfl rfl rfl hkeep hr trivial
  | nil=>exact q00 (κ':=κ') rfl rfl rfl hkeep hr trivial
  | val k p=>exact q00 (κ':=κ') rfl rfl rfl hkeep hr trivial
  | ptr b off=>exact q00 (κ':=κ') rfl rfl rfl hkeep hr trivial
  | ep fs p f=>exact q00 (κ':=κ') rfl rfl rfl hkeep hr trivial
  | own r=>exact q00 (κ':=κ') rfl rfl rfl hkeep hr trivial
  | rp r sz i f=>exact q00 (κ':=κ') rfl rfl rfl hkeep hr trivial
  | sfx r sz i=>exact q00 (κ':=κ') rfl rfl rfl hkeep hr trivial
  | fn f=>exact q00 (κ':=κ') rfl rfl rfl hkeep hr trivial
  | clo f k ps=>exact q00 (κ':=κ') rfl rfl rfl hkeep hr trivial
  | fsl cls=>exact q00 (κ':=κ') rfl rfl rfl hkeep hr trivial
  | fel cls n=>exact q00 (κ':=κ') rfl rfl rfl hkeep hr trivial
  | nilm=>exact q00 (κ':=κ') rfl rfl rfl hkeep hr trivial
  | bnd f x p=>exact q00 (κ':=κ') rfl rfl rfl hkeep hr trivial
  | dyn t ks p=>exact q00 (κ':=κ') rfl rfl rfl hkeep hr trivial
 have HV:∀ k p v,Cell.Rep κ w (.val k p) v→Cell.Rep κ' w' (.val k p) v:=λk p v hr=>q3f (κ':=κ') rfl hkeep hr
 have hgrown:w.grownBy w' (some κ.μ.φ):=by rw [← hw'];exact q90
 have hoth:∀ (g:Nat),g≠κ.μ.φ→w'.heap[g]? = w.heap[g]? := λg hgn=>by rw [← hw',q3q hgn]
 have hfin:∀ q:y.kk.Pay,q≠k→κ'.μ.fin (y.kk.kv q)=κ.μ.fin (y.kk.kv q):=λq hq=>by
  show (if y.kk.kv q=y.kk.kv k then _ else _)=_
  rw [if_neg (λe=>hq (qcq hp e))]
 have hfink:κ'.μ.fin (y.kk.kv k)=κ.μ.fnw:=if_pos rfl;have hoff:∀ q:y.kk.Pay,q≠k→y.off q:=λq hq l' e=>by
  rw [hpd] at e;injection e with e;injection e with e1 _;exact hq e1.symm
 have hnm:∀ {base:Nat} {e:TypeId} {size n:Nat} {v:Value} {xs:List Value},w.ownsRow base e size v n xs→w'.ownsRow base e size v n xs:=λho=>qae ho (λg hg=>hoth g (λe=>q45 ho g hg (.map es clock) rfl (by subst e;exact g1)))
 obtain ⟨ncells,n1,n2,n3⟩:=hF.new k l hpd;refine ⟨κ',w',by rw [← hw'];exact hrun,h.q8a (g:=Cell.qhc) (κ':=κ') (row:=some κ.μ.φ) rfl rfl rfl rfl rfl hgrown (λg e=>by injection e with e;subst e;exact ⟨hF.low,_,rfl,g1⟩) hkeep H rfl rfl rfl rfl rfl ?_ h.ext.maps (λy hy=>by have hy:st.nest=some y:=hy;rw [hnest] at hy;cases hy) (λi z e=>nomatch e) (λi j z z' e=>nomatch e) ?_ (.inr hnest) (λg o ho hh=>(hoth g (λe=>by rw [e,g1] at hh;injection hh with hh;rw [← hh] at ho;cases ho)).trans hh) rfl rfl rfl⟩
 ·intro m z hz
  obtain ⟨es1,c1,h1,h2,h3⟩:=h.ext.map m z hz;exact ⟨es1,c1,(hoth _ (hF.apart m z hz)).trans h1,h2.mono HV,h3⟩
 ·intro y' hy'
  injection hy' with hy';subst hy';exact {
   out:=by
    refine ⟨es',clock',by rw [← hw'];exact q4l (lt_of_some g1),r1,λi x hx=>?_,r3,r4⟩
    obtain ⟨_,e,q1,q2,q3⟩:=r2 i x hx;exact ⟨e,q1,q1l HV _ _ q2,q3⟩
   low:=hF.low
   inn:=λi x hx _=>by
    rcases (r2 i x hx).1 with rfl | ⟨hne,hx0⟩
    ·show ∃ cells,w'.ownsRow _ _ _ (κ'.μ.fin (y.kk.kv k)) _ cells∧_
     rw [hfink];exact ⟨ncells,hnm n1,n2.mono HV⟩
    ·obtain ⟨cs,h1,h2⟩:=hF.inn i x hx0 (hoff _ hne)
     show ∃ cells,w'.ownsRow _ _ _ (κ'.μ.fin (y.kk.kv x.1)) _ cells∧_;rw [hfin _ hne];exact ⟨cs,hnm h1,h2.mono HV⟩
   miss:=λq hq=>by
    obtain ⟨h1,h2⟩:=r6 q hq;show κ'.μ.fin (y.kk.kv q)=_;rw [hfin q h1];exact hF.miss q h2
   sep:=λi x hx _ g hg=>by
    have hg:(κ'.μ.fin (y.kk.kv x.1)).ownBlock=some g:=hg;refine Cx.sep.mapB (κ:=κ) (κ':=κ') ?_ rfl rfl rfl Cell.qhc;rcases (r2 i x hx).1 with rfl | ⟨hne,hx0⟩
    ·have hg:(κ'.μ.fin (y.kk.kv k)).ownBlock=some g:=hg
     rw [hfink] at hg;exact (n3 g hg).1
    ·rw [hfin _ hne] at hg
     exact hF.sep i x hx0 (hoff _ hne) g hg
   inj:=λi j x x' hx hx' _ _ g hg hg'=>by
    have hg:(κ'.μ.fin (y.kk.kv x.1)).ownBlock=some g:=hg;have hg':(κ'.μ.fin (y.kk.kv x'.1)).ownBlock=some g:=hg';rcases (r2 i x hx).1 with rfl | ⟨hne,hx0⟩ <;> rcases (r2 j x' hx').1 with rfl | ⟨hne',hx0'⟩
    ·exact r5 i j _ _ hx hx' rfl
    ·have hg:(κ'.μ.fin (y.kk.kv k)).ownBlock=some g:=hg
     rw [hfink] at hg;rw [hfin _ hne'] at hg';exact absurd hg' ((n3 g hg).2 j x' hx0' (hoff _ hne'))
    ·have hg':(κ'.μ.fin (y.kk.kv k)).ownBlock=some g:=hg'
     rw [hfink] at hg';rw [hfin _ hne] at hg;exact absurd hg ((n3 g hg').2 i x hx0 (hoff _ hne))
    ·rw [hfin _ hne] at hg
     rw [hfin _ hne'] at hg';exact hF.inj i j x x' hx0 hx0' (hoff _ hne) (hoff _ hne') g hg hg'
   new:=λk l e=>nomatch e
   once:=r5
   stamp:=λk e=>nomatch e
   apart:=hF.apart }
open Classical in
theorem Rel.entFam (h:Rel w0 κ st a w) {y:FRow} (hy:st.fam=some y) (hpd:y.pend=none) {t kt et:TypeId} (ht:P.underlying t=some (.map kt et)) (hk:q26 P kt y.kk=true) (hz:q5g P et=true) (k:y.kk.Pay) :
  ∃ (κ':Cx) (w':World) (n:Nat),(Qk t (.map (some κ.μ.φ)) (y.kk.kv k)).run P w=.ok (.tuple #[κ.μ.fin (y.kk.kv k),goInt n]) w'∧κ'.μ.stp=n∧κ'.μ.fin=κ.μ.fin∧Rel w0 κ' (st.entFam y k) a w':=by
 have hp:=q23 hk;have hF:=h.ext.fam y hy;have hnest:=h.noNest hy;obtain ⟨es,clock,g1,g2,g3,g4,g5⟩:=hF.out;obtain ⟨es',clock',hrun,r1,r2,r3,r4,r5,r6⟩:=qau (P:=P) ht hk g2 g3 g4 g5 hF.once g1 k (κ.μ.fin (y.kk.kv k)) ((y.at_ k).getD []);have hkeys:q5q y.kk es.toList y.xs:=⟨by rw [Qi];exact g2,λi x hx=>by
  obtain ⟨e,he,q1,_⟩:=g3 i x hx;exact ⟨e,by rw [Qc];exact he,q2i hp q1⟩⟩
 have hf:=q3i hk k w es.toList y.xs hkeys;obtain ⟨n,hent,i0,x0,e0,s1,s2,s3,s4⟩:∃ n:Nat,(Qk t (.map (some κ.μ.φ)) (y.kk.kv k)).run P w=.ok (.tuple #[κ.μ.fin (y.kk.kv k),goInt n]) (setB w κ.μ.φ (.map es' clock')) ∧
   ∃ (i:Nat) (x:y.kk.Pay×List y.fs.Pay) (e:MapEntry),(Mp.put y.kk.eqB k ((y.at_ k).getD []) y.xs)[i]? = some x∧x.1=k∧es'[i]? = some e∧e.born=n:=by
  cases hi:Mp.idx y.kk.eqB k y.xs 0 with
  | none =>
   rw [hi] at hf;have hnone:y.at_ k=none:=by
    have:=Mp.q4t y.kk.eqB k y.xs 0
    rw [hi] at this;exact this.symm
   have hfz:κ.μ.fin (y.kk.kv k)=.slice none 0 0:=hF.miss k hnone;have hzero:(zeroValue et).run P w=.ok (.slice none 0 0) w:=by
    unfold q5g at hz;split at hz
    ·rename_i inf hinf
     split at hz
     ·rename_i hzz
      simp [zeroValue,typeInfo,hinf,hzz]
     ·cases hz
    ·cases hz
   have e1:(Q8 t (.map (some κ.μ.φ)) (y.kk.kv k) (κ.μ.fin (y.kk.kv k))).run P w=.ok () (setB w κ.μ.φ (.map (es.push { key:=y.kk.kv k,val:=κ.μ.fin (y.kk.kv k),born:=clock }) (clock+1))):=by
    simp only [Q8,Qd,run_underlying ht,Qa,Q0 g1,q33 hk,hf,Qm,Q3 _ g1];rfl
   have e2:=e1.symm.trans hrun;injection e2 with _ e2;have hput:Mp.put y.kk.eqB k ((y.at_ k).getD []) y.xs=y.xs++[(k,(y.at_ k).getD [])]:=Mp.qe6 _ _ _ _ _ hi;have e3:(Obj.map (es.push { key:=y.kk.kv k,val:=κ.μ.fin (y.kk.kv k),born:=clock }) (clock+1))=.map es' clock':=by
    have h3:(setB w κ.μ.φ (.map (es.push { key:=y.kk.kv k,val:=κ.μ.fin (y.kk.kv k),born:=clock }) (clock+1))).heap[κ.μ.φ]? = _:=q4l (lt_of_some g1);rw [e2,q4l (lt_of_some g1)] at h3;injection h3 with h3;exact h3.symm
   injection e3 with e3 e4;refine ⟨clock,?_,y.xs.length,(k,(y.at_ k).getD []),{ key:=y.kk.kv k,val:=κ.μ.fin (y.kk.kv k),born:=clock },by rw [hput,Ql (Nat.le_refl _),Nat.sub_self];rfl,rfl,?_,rfl⟩
   ·rw [← e3,← e4]
    simp only [Qk,Qd,run_underlying ht,Qa,Q0 g1,q33 hk,hf,Qm,hzero,Q3 _ g1,hfz];rfl
   ·rw [← e3,Qj,if_pos g2.symm]
  | some r =>
   obtain ⟨q,_,hq,hqe,hq2⟩:=Mp.q52 _ _ _ _ _ _ hi;rw [Qh] at hq;have hqk:q.1=k:=(q4r hqe).symm;obtain ⟨e,he,he1,he2⟩:=g3 r.1 q hq;have he':es.toList[r.1]? = some e:=by simpa using he
   have hlt:r.1<es.size:=(Q9.1 he).1;have hek:e.key=y.kk.kv k:=by rw [q2i hp he1,hqk]
   have hev:e.val=κ.μ.fin (y.kk.kv k):=by rw [he2,hqk]
   rw [hi] at hf;have e1:(Q8 t (.map (some κ.μ.φ)) (y.kk.kv k) (κ.μ.fin (y.kk.kv k))).run P w=.ok () (setB w κ.μ.φ (.map (es.modify r.1 λe=>{ e with key:=y.kk.kv k,val:=κ.μ.fin (y.kk.kv k) }) clock)):=by
    simp only [Q8,Qd,run_underlying ht,Qa,Q0 g1,q33 hk,hf,Qf,he',Qb,he,Qg,hek,qad hp,Q3 _ g1];rfl
   have e2:=e1.symm.trans hrun;injection e2 with _ e2;have hput:Mp.put y.kk.eqB k ((y.at_ k).getD []) y.xs=y.xs.set r.1 (k,(y.at_ k).getD []):=by rw [Mp.qbo _ _ _ _ _ _ _ hi,Qh]
   have e3:(Obj.map (es.modify r.1 λe=>{ e with key:=y.kk.kv k,val:=κ.μ.fin (y.kk.kv k) }) clock)=.map es' clock':=by
    have h3:(setB w κ.μ.φ (.map (es.modify r.1 λe=>{ e with key:=y.kk.kv k,val:=κ.μ.fin (y.kk.kv k) }) clock)).heap[κ.μ.φ]? = _:=q4l (lt_of_some g1)
    rw [e2,q4l (lt_of_some g1)] at h3;injection h3 with h3;exact h3.symm
   injection e3 with e3 e4;have e5:(es.modify r.1 λe=>{ e with key:=y.kk.kv k })=es':=by
    rw [← e3];apply Qq;intro i;rw [Q7,Q7];split
    ·rename_i hri
     rw [← hri,he,Qb,Qb,← hev]
    ·rfl
   refine ⟨e.born,?_,r.1,(k,(y.at_ k).getD []),{ e with key:=y.kk.kv k },by rw [hput,Qe,if_pos rfl,if_pos (by rw [← g2];exact hlt)],rfl,?_,rfl⟩
   ·rw [← e5,← e4]
    simp only [Qk,Qd,run_underlying ht,Qa,Q0 g1,q33 hk,hf,Qf,he',Qb,he,Qg,hek,hev,qad hp,Q3 _ g1];rfl
   ·rw [← e5,Q7,if_pos rfl,he];rfl
 have hkeep:Keeps w (setB w κ.μ.φ (.map es' clock')) κ.S:=q5x rfl rfl g1 κ.S
 let κ':Cx:={ κ with μ:={ κ.μ with stp:=(n:Nat) } }
 have hsrc:∀ s:Src,κ'.src s=κ.src s:=λs=>by cases s <;> rfl
 generalize hw':setB w κ.μ.φ (.map es' clock')=w' at hkeep;have H:∀ (c:Cell) v,c.Rep κ w v→(c.qcp).Rep κ' w' v:=λc v hr=>by
  cases c with
  | fstamp=>trivial
  | fnew=>exact q00 (κ':=κ') rfl rfl rfl hkeep hr rfl
  | fent kk k=>exact q00 (κ':=κ') rfl rfl rfl hkeep hr rfl
  | fp kk k sz i f=>exact q00 (κ':=κ') rfl rfl rfl hkeep hr rfl
  | fref=>exact q00 (κ':=κ') rfl rfl rfl hkeep hr rfl
  | yld j=>exact q00 (κ':=κ') rfl rfl rfl hkeep hr rfl
  | kseq f src=>exact q00 (κ':=κ') rfl rfl rfl hkeep hr (hsrc src)
  | mref m=>exact q00 (κ':=κ') rfl rfl rfl hkeep hr rfl
  | iref kk k=>exact q00 (κ':=κ') rfl rfl rfl hkeep hr rfl
  | nref=>exact q00 (κ':=κ') rfl rfl rfl hkeep hr rfl
  | iter i=>exact q00 (κ':=κ') rfl rfl rfl hkeep hr rfl
  | any=>exact q00 (κ':=κ') rfl rfl rfl hkeep hr trivial
  | undef=>exact q00 (κ':=κ') rfl rfl rfl hkeep hr trivial
  | nil=>exact q00 (κ':=κ') rfl rfl rfl hkeep hr trivial
  | val k p=>exact q00 (κ':=κ') rfl rfl rfl hkeep hr trivial
  | ptr b off=>exact q00 (κ':=κ') rfl rfl rfl hkeep hr trivial
  | ep fs p f=>exact q00 (κ':=κ') rfl rfl rfl hkeep hr trivial
  | own r=>exact q00 (κ':=κ') rfl rfl rfl hkeep hr trivial
  | rp r sz i f=>exact q00 (κ':=κ') rfl rfl rfl hkeep hr trivial
  | sfx r sz i=>exact q00 (κ':=κ') rfl rfl rfl hkeep hr trivial
  | fn f=>exact q00 (κ':=κ') rfl rfl rfl hkeep hr trivial
  | clo f k ps=>exact q00 (κ':=κ') rfl rfl rfl hkeep hr trivial
  | fsl cls=>exact q00 (κ':=κ') rfl rfl rfl hkeep hr trivial
  | fel cls n=>exact q00 (κ':=κ') rfl rfl rfl hkeep hr trivial
  | nilm=>exact q00 (κ':=κ') rfl rfl rfl hkeep hr trivial
  | bnd f x p=>exact q00 (κ':=κ') rfl rfl rfl hkeep hr trivial
  | dyn t ks p=>exact q00 (κ':=κ') rfl rfl rfl hkeep hr trivial
 have HV:∀ k p v,Cell.Rep κ w (.val k p) v→Cell.Rep κ' w' (.val k p) v:=λk p v hr=>q3f (κ':=κ') rfl hkeep hr
 have hgrown:w.grownBy w' (some κ.μ.φ):=by rw [← hw'];exact q90
 have hoth:∀ (g:Nat),g≠κ.μ.φ→w'.heap[g]? = w.heap[g]? := λg hgn=>by rw [← hw',q3q hgn]
 have hoff:∀ q:y.kk.Pay,y.off q:=λq l' e=>by rw [hpd] at e;cases e
 have hnm:∀ {base:Nat} {e:TypeId} {size n:Nat} {v:Value} {xs:List Value},w.ownsRow base e size v n xs→w'.ownsRow base e size v n xs:=λho=>qae ho (λg hg=>hoth g (λe=>q45 ho g hg (.map es clock) rfl (by subst e;exact g1)))
 have hatk:∃ cells,w.ownsRow w0.n0 y.e y.fs.size (κ.μ.fin (y.kk.kv k)) ((y.at_ k).getD []).length cells∧q0k κ w y.fs ((y.at_ k).getD []) cells:=by
  cases hk0:y.at_ k with
  | none=>exact ⟨[],by rw [hF.miss k hk0];exact World.ownsRow_nil _ _ _ _,λi x hi=>by cases hi⟩
  | some l =>
   obtain ⟨i,x,x1,x2,x3⟩:=get_mem _ _ _ _ hk0;obtain ⟨cs,h1,h2⟩:=hF.inn i x x1 (hoff _);rw [← show x.1=k from (q4r x2).symm];refine ⟨cs,?_,?_⟩
   ·rw [show (some l).getD []=x.2 from x3.symm];exact h1
   ·rw [show (some l).getD []=x.2 from x3.symm];exact h2
 have hatk2:∀ g,(κ.μ.fin (y.kk.kv k)).ownBlock=some g→∃ (i:Nat) (x:y.kk.Pay×List y.fs.Pay),y.xs[i]? = some x∧x.1=k:=λg hg=>by
  cases hk0:y.at_ k with
  | none=>rw [hF.miss k hk0] at hg;cases hg
  | some l =>
   obtain ⟨i,x,x1,x2,x3⟩:=get_mem _ _ _ _ hk0;exact ⟨i,x,x1,(q4r x2).symm⟩
 refine ⟨κ',w',n,by rw [← hw'];exact hent,rfl,rfl,h.q8a (g:=Cell.qcp) (κ':=κ') (row:=some κ.μ.φ) rfl rfl rfl rfl rfl hgrown (λg e=>by injection e with e;subst e;exact ⟨hF.low,_,rfl,g1⟩) hkeep H rfl rfl rfl rfl rfl ?_ h.ext.maps (λy hy=>by have hy:st.nest=some y:=hy;rw [hnest] at hy;cases hy) (λi z e=>nomatch e) (λi j z z' e=>nomatch e) ?_ (.inr hnest) (λg o ho hg=>(hoth g (λe=>by subst e;rw [g1] at hg;injection hg with hg;rw [← hg] at ho;cases ho)).trans hg) rfl rfl rfl⟩
 ·intro m z hz
  obtain ⟨es1,c1,h1,h2,h3⟩:=h.ext.map m z hz;exact ⟨es1,c1,(hoth _ (hF.apart m z hz)).trans h1,h2.mono HV,h3⟩
 ·intro y' hy'
  injection hy' with hy';subst hy';have hheap:w'.heap[κ.μ.φ]? = some (.map es' clock'):=by rw [← hw'];exact q4l (lt_of_some g1)
  exact {
   out:=by
    refine ⟨es',clock',hheap,r1,λi x hx=>?_,r3,r4⟩
    obtain ⟨_,e,q1,q2,q3⟩:=r2 i x hx;refine ⟨e,q1,q1l HV _ _ q2,?_⟩;show e.val=κ.μ.fin (y.kk.kv x.1);rw [q3];split
    ·rename_i hh;rw [hh]
    ·rfl
   low:=hF.low
   inn:=λi x hx _=>by
    rcases (r2 i x hx).1 with rfl | ⟨hne,hx0⟩
    ·obtain ⟨cs,h1,h2⟩:=hatk
     exact ⟨cs,hnm h1,h2.mono HV⟩
    ·obtain ⟨cs,h1,h2⟩:=hF.inn i x hx0 (hoff _)
     exact ⟨cs,hnm h1,h2.mono HV⟩
   miss:=λq hq=>hF.miss q (r6 q hq).2
   sep:=λi x hx _ g hg=>by
    refine Cx.sep.mapB (κ:=κ) (κ':=κ') ?_ rfl rfl rfl Cell.qcp;rcases (r2 i x hx).1 with rfl | ⟨hne,hx0⟩
    ·obtain ⟨i1,x1,hx1,hk1⟩:=hatk2 g hg
     exact hF.sep i1 x1 hx1 (hoff _) g (by rw [hk1];exact hg)
    ·exact hF.sep i x hx0 (hoff _) g hg
   inj:=λi j x x' hx hx' _ _ g hg hg'=>by
    rcases (r2 i x hx).1 with rfl | ⟨hne,hx0⟩ <;> rcases (r2 j x' hx').1 with rfl | ⟨hne',hx0'⟩
    ·exact r5 i j _ _ hx hx' rfl
    ·obtain ⟨i1,x1,hx1,hk1⟩:=hatk2 g hg
     have:=hF.inj i1 j x1 x' hx1 hx0' (hoff _) (hoff _) g (by rw [hk1];exact hg) hg'
     subst this;rw [hx1] at hx0';injection hx0' with e;subst e;exact absurd hk1 hne'
    ·obtain ⟨i1,x1,hx1,hk1⟩:=hatk2 g hg'
     have:=hF.inj i1 i x1 x hx1 hx0 (hoff _) (hoff _) g (by rw [hk1];exact hg') hg
     subst this;rw [hx1] at hx0;injection hx0 with e;subst e;exact absurd hk1 hne
    ·have:=hF.inj i j x x' hx0 hx0'
     have e:=hF.inj i j x x' hx0 hx0' (hoff _) (hoff _) g hg hg';exact e
   new:=λk l e=>by have e:y.pend=some (k,l):=e;rw [hpd] at e;cases e
   once:=r5
   stamp:=λq hq=>by
    injection hq with hq;subst hq;exact ⟨i0,x0,e0,es',clock',hheap,s1,s2,s3,s4⟩
   apart:=hF.apart }
theorem Rel.entryStore (h:Rel w0 κ st a w) {y:FRow} (hy:st.fam=some y) {t kt et:TypeId} (ht:P.underlying t=some (.map kt et)) (hk:q26 P kt y.kk=true) {k:y.kk.Pay} (hm:y.mark=some k) (u:Value) :
  (Qn t (.map (some κ.μ.φ)) (.int .i64 κ.μ.stp) u).run P w=(Q8 t (.map (some κ.μ.φ)) (y.kk.kv k) u).run P w:=by
 have hp:=q23 hk;have hF:=h.ext.fam y hy;obtain ⟨es,clock,g1,g2,g3,g4,g5⟩:=hF.out;obtain ⟨i,x,e,es1,clock1,q1,q2,q3,q4,q5⟩:=hF.stamp k hm;rw [g1] at q1;injection q1 with q1;injection q1 with q1 q1';subst q1;subst q1';have hkeys:q5q y.kk es.toList y.xs:=⟨by rw [Qi];exact g2,λi x hx=>by
  obtain ⟨e,he,q1,_⟩:=g3 i x hx;exact ⟨e,by rw [Qc];exact he,q2i hp q1⟩⟩
 have hf:=q3i hk k w es.toList y.xs hkeys;cases hi:Mp.idx y.kk.eqB k y.xs 0 with
 | none =>
  have hnone:Mp.get y.kk.eqB k y.xs=none:=by
   have:=Mp.q4t y.kk.eqB k y.xs 0
   rw [hi] at this;exact this.symm
  have:=q6w _ _ _ hnone i x q2
  rw [q3,q6f hp] at this;cases this
 | some r =>
  obtain ⟨q,_,hq,hqe,hq2⟩:=Mp.q52 _ _ _ _ _ _ hi;rw [Qh] at hq;have hqk:q.1=k:=(q4r hqe).symm;have hir:i=r.1:=hF.once i r.1 x q q2 hq (by rw [q3,hqk])
  subst hir;obtain ⟨e',he,he1,he2⟩:=g3 r.1 x q2;obtain rfl:e'=e:=Option.some.inj (he.symm.trans q4);have hek:e'.key=y.kk.kv k:=by rw [q2i hp he1,q3]
  have he':es.toList[r.1]? = some e':=by simpa using he
  rw [hi] at hf;have hfi:es.findIdx? (λe=>(e.born:Int)==(κ.μ.stp:Int))=some r.1:=by
   rw [Array.findIdx?_eq_some_iff_getElem];have hlt:=(Q9.1 he).1;refine ⟨hlt,?_,λj hj=>?_⟩
   ·have:es[r.1]=e':=(Q9.1 he).2
    rw [this,q5];simp
   ·simp only [beq_iff_eq]
    intro hb;have hjl:j<es.size:=Nat.lt_trans hj hlt;have hb':es[j].born=κ.μ.stp:=by exact_mod_cast hb
    have hn:=List.pairwise_iff_getElem.1 g5 j r.1 (by simpa using hjl) (by simpa using hlt) hj
    apply hn
    simp only [List.getElem_map,Array.getElem_toList];rw [hb',(Q9.1 he).2,q5]
  have hmod:(es.modify r.1 λe=>{ e with val:=u })=es.modify r.1 λe=>{ e with key:=y.kk.kv k,val:=u }:=by
   apply Qq
   intro i;rw [Q7,Q7];split
   ·rename_i hri
    rw [← hri,he,Qb,Qb,← hek]
   ·rfl
  have hai:(asInt (.int .i64 (κ.μ.stp:Int))).run P w=.ok (κ.μ.stp:Int) w:=by simp [asInt,asIntOf]
  have e1:(Qn t (.map (some κ.μ.φ)) (.int .i64 κ.μ.stp) u).run P w=.ok () (setB w κ.μ.φ (.map (es.modify r.1 λe=>{ e with val:=u }) clock)):=by
   simp only [Qn,Qd,Qa,Q0 g1,hai,hfi,Q3 _ g1];rfl
  have e2:(Q8 t (.map (some κ.μ.φ)) (y.kk.kv k) u).run P w=.ok () (setB w κ.μ.φ (.map (es.modify r.1 λe=>{ e with key:=y.kk.kv k,val:=u }) clock)):=by
   simp only [Q8,Qd,run_underlying ht,Qa,Q0 g1,q33 hk,hf,Qf,he',Qb,he,Qg,hek,qad hp,Q3 _ g1];rfl
  rw [e1,e2,hmod]
end
end R
end Go.Proofs.YtlmbfijhkcmncaaGreatDoor

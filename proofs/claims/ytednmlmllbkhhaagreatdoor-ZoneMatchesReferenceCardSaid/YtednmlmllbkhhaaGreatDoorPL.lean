/-
  Several texts in one: R16, R12X, R13X, R14X.
-/
import Derived.Test.YtednmlmllbkhhaaGreatDoorPK
set_option linter.unusedVariables false
namespace Go.Proofs.YtednmlmllbkhhaaGreatDoor
open Go.RowKit
namespace R
theorem compsRep_nil {κ:Cx} {w:World}:q0b κ w [] []:=⟨rfl,λi c h=>by cases h⟩
theorem q6w {κ:Cx} {w:World} {a:Comp} {v:Value} {xs:List Comp} {vs:List Value} (h:a.Rep κ w v) (hs:q0b κ w xs vs):q0b κ w (a::xs) (v::vs):=by
 refine ⟨by rw [List.length_cons,List.length_cons,hs.1],λi c hc=>?_⟩
 cases i with
 | zero=>injection hc with hc;subst hc;exact ⟨v,rfl,h⟩
 | succ i=>exact hs.2 i c hc
theorem law_any {P:Program} {f:FuncId} {args:List CK} {pre:Pays args→Prop} (h:(Con.of f args [.one .bool] pre (λ_=>true)).Holds P) (p:Pays args) (vs:List Value) (w:World) (hp:pre p) (hr:q0b (Cx.of (Here w)) w (q0s args p) vs) :
  Calls P f vs.toArray w λe w'=>e=.returned (.bool true)∧Below w.heap.size w w':=by
 have h:=h.2 p vs w (Here w) (λ_ h=>h) hp hr
 refine Calls.mono h ?_;rintro e w' ⟨r,v,rfl,hr,hv,hbl⟩;have hr:r=true:=hr;subst hr;have hv:v=.bool true:=hv;exact ⟨by rw [hv],hbl⟩
end R
namespace R
inductive FA where
 | no
 | fn (g:FuncId)
 | clo (g:FuncId) (ks:Kds)
@[reducible] def FA.Pay:FA→Type
 | .no=>Unit
 | .fn _=>Unit
 | .clo _ ks=>ks.Pay
def FA.Rep (S:Nat→Prop) (w:World):(x:FA)→x.Pay→List Value→Prop
 | .no,_,vs=>vs=[]
 | .fn g,_,vs=>vs=[.func (.func g) #[] #[]]
 | .clo g ks,b,vs=>∃ B ty us,vs=[.func (.func g) #[] #[.pointer (some ⟨B,0,none⟩)]]∧Blk w B ty us∧q04 (Cx.of S) w (ks.cells b) us∧¬ S B
def q8l (st:St):(x:FA)→List Comp→Option x.Pay
 | .no,[]=>some ()
 | .fn g,[.one (.fn g')]=>bif g.beq g' then some () else none
 | .fn g,[.one (.clo g' _ [])]=>bif g.beq g' then some () else none
 | .clo g ks,[.one (.clo g' 0 [(b,0)])]=>bif g.beq g' then (match st.box b with
  | some cs=>q10 ks cs
  | none=>none) else none
 | _,_=>none
def q59:List Comp→List Nat
 | []=>[]
 | .one c::l=>ownsC [c]++q59 l
 | .agg cs::l=>ownsC cs++q59 l
def qhf:St→List Nat→List Comp→List Comp
 | _,[],xs=>xs
 | st,r::l,xs=>qhf (st.freeze r) l (xs.map λc=>c.mapC (st.thawR r))
structure NCon where
 f:FuncId
 args:List CK
 fa:FA:=.no
 e:TypeId
 fs:Kds
 pre:Pays args→fa.Pay→Prop
 F:Pays args→fa.Pay→List fs.Pay
structure OCon where
 f:FuncId
 e:TypeId
 fs:Kds
 args:List CK
 fa:FA:=.no
 ret:Bool
 pre:List fs.Pay→Pays args→fa.Pay→Prop
 F:List fs.Pay→Pays args→fa.Pay→List fs.Pay
structure FCon where
 f:FuncId
 args:List CK
 fa:FA
 res:List CK
 pre:Pays args→fa.Pay→Prop
 F:Pays args→fa.Pay→Pays res
def nOf (f:FuncId):List NCon→Option NCon
 | []=>none
 | c::r=>bif c.f.beq f then some c else nOf f r
def oOf (f:FuncId):List OCon→Option OCon
 | []=>none
 | c::r=>bif c.f.beq f then some c else oOf f r
def fOf (f:FuncId):List FCon→Option FCon
 | []=>none
 | c::r=>bif c.f.beq f then some c else fOf f r
def vNew (c:NCon) (xs:List Comp) (off:Nat) (st:St) (K:List Comp→St→Prop):Prop :=
 match q1b c.args (asAVs (qhf st (q59 xs) (xs.take c.args.length))),q8l st c.fa (xs.drop c.args.length) with
 | some p,some b=>c.pre p b∧bif c.fs.flat then K [.one (.own off)] (st.setRow off ⟨c.e,c.fs,c.F p b⟩)
   else K [.one (.own off)] ((st.q07 (q59 xs)).setRow off ⟨c.e,c.fs,c.F p b⟩)
 | _,_=>False
def vOwn (c:OCon) (xs:List Comp) (st:St) (K:List Comp→St→Prop):Prop :=
 match xs with
 | .one (.own r)::rest=>match st.row r,q1b c.args (asAVs (rest.take c.args.length)),q8l st c.fa (rest.drop c.args.length) with
  | some x,some p,some b=>match x.fs.deq c.fs with
   | some ⟨h⟩=>bif x.e.beq c.e then c.pre (q42 h x.xs) p b∧bif c.ret then K [.one (.own r)] (st.setRow r ⟨c.e,c.fs,c.F (q42 h x.xs) p b⟩) else K [] (st.putRow r ⟨c.e,c.fs,c.F (q42 h x.xs) p b⟩) else False
   | none=>False
  | _,_,_=>False
 | _=>False
def vFn (c:FCon) (xs:List Comp) (st:St) (K:List Comp→St→Prop):Prop :=
 match q1b c.args (asAVs (qhf st (q59 xs) (xs.take c.args.length))),q8l st c.fa (xs.drop c.args.length) with
 | some p,some b=>c.pre p b∧bif c.res.all CK.q7r then K (q0s c.res (c.F p b)) st else K (q0s c.res (c.F p b)) (st.q07 (q59 xs))
 | _,_=>False
def xInl (ns:List NCon) (os:List OCon) (fs:List FCon) (B:Inl):Inl:=λf xs off st K KP =>
 bif Nat.blt f 1000000000 then (match nOf f ns with
  | some c=>vNew c xs off st K
  | none=>match oOf f os with
   | some c=>vOwn c xs st K
   | none=>match fOf f fs with
    | some c=>vFn c xs st K
    | none=>B f xs off st K KP) else B f xs off st K KP
section
variable {w0:Base} {w w':World} {κ:Cx} {st:St} {a:Act} {P:Program} {cons:List Con}
def FnOk (P : Program) (f : FuncId) : Prop := ∃ fn, P.funcs[f]? = some fn ∧ (fn.name == "runtime.NumGoroutine") = false ∧ fn.body.isNone = false
def NCon.Holds (P:Program) (c:NCon):Prop:=FnOk P c.f ∧
 ∀ (p:Pays c.args) (b:c.fa.Pay) (vs fvs:List Value) (w:World) (S:Nat→Prop),(∀ g,S g→g<w.heap.size)→c.pre p b→q0b (Cx.of S) w (q0s c.args p) vs→c.fa.Rep S w b fvs →
  Calls P c.f (vs++fvs).toArray w λe w'=>Below w.heap.size w w'∧∃ u cells,e=.returned u∧w'.ownsRow w.heap.size c.e c.fs.size u (c.F p b).length cells∧q0c (Cx.of S) w c.fs (c.F p b) cells
def OCon.Holds (P:Program) (c:OCon):Prop:=FnOk P c.f ∧
 ∀ (xs:List c.fs.Pay) (p:Pays c.args) (b:c.fa.Pay) (v:Value) (cells vs fvs:List Value) (w:World) (n0:Nat) (S:Nat→Prop),n0≤w.heap.size→(∀ g,S g→g<w.heap.size)→(∀ g,v.ownBlock=some g→¬ S g)→w.ownsRow n0 c.e c.fs.size v xs.length cells→q0c (Cx.of S) w c.fs xs cells →
  c.pre xs p b→q0b (Cx.of S) w (q0s c.args p) vs→c.fa.Rep S w b fvs→(∀ g u,v.ownBlock=some g→fvs≠[.func u #[] #[.pointer (some ⟨g,0,none⟩)]]) →
  Calls P c.f (v::(vs++fvs)).toArray w λe w'=>w.grownBy w' v.ownBlock∧∃ u cells',e=.returned u ∧
   w'.ownsRow n0 c.e c.fs.size (if c.ret then u else v) (c.F xs p b).length cells'∧q0c (Cx.of S) w c.fs (c.F xs p b) cells'∧(c.ret=true→∀ g,u.ownBlock=some g→v.ownBlock=some g∨w.heap.size≤g)∧(c.ret=false→u=.tuple #[])
def FCon.Holds (P:Program) (c:FCon):Prop:=FnOk P c.f ∧
 ∀ (p:Pays c.args) (b:c.fa.Pay) (vs fvs:List Value) (w:World) (S:Nat→Prop),(∀ g,S g→g<w.heap.size)→c.pre p b→q0b (Cx.of S) w (q0s c.args p) vs→c.fa.Rep S w b fvs →
  Calls P c.f (vs++fvs).toArray w λe w'=>Below w.heap.size w w'∧∃ u,e=.returned u∧(q1e c.res (c.F p b)).Rep (Cx.of λg=>S g∨(w.heap.size≤g∧g<w'.heap.size)) w' u
theorem nOf_spec {f:FuncId} {c:NCon}:∀ {l:List NCon},nOf f l=some c→c∈l∧c.f=f
 | [],h=>by cases h
 | x::r,h=>by
  have h:(bif x.f.beq f then some x else nOf f r)=some c:=h
  cases e:x.f.beq f
  ·rw [e] at h
   obtain ⟨h1,h2⟩:=nOf_spec (l:=r) h;exact ⟨List.mem_cons_of_mem _ h1,h2⟩
  ·rw [e] at h;injection h with h;subst h
   exact ⟨List.mem_cons_self,Nat.eq_of_beq_eq_true e⟩
theorem oOf_spec {f:FuncId} {c:OCon}:∀ {l:List OCon},oOf f l=some c→c∈l∧c.f=f
 | [],h=>by cases h
 | x::r,h=>by
  have h:(bif x.f.beq f then some x else oOf f r)=some c:=h
  cases e:x.f.beq f
  ·rw [e] at h
   obtain ⟨h1,h2⟩:=oOf_spec (l:=r) h;exact ⟨List.mem_cons_of_mem _ h1,h2⟩
  ·rw [e] at h;injection h with h;subst h
   exact ⟨List.mem_cons_self,Nat.eq_of_beq_eq_true e⟩
theorem fOf_spec {f:FuncId} {c:FCon}:∀ {l:List FCon},fOf f l=some c→c∈l∧c.f=f
 | [],h=>by cases h
 | x::r,h=>by
  have h:(bif x.f.beq f then some x else fOf f r)=some c:=h
  cases e:x.f.beq f
  ·rw [e] at h
   obtain ⟨h1,h2⟩:=fOf_spec (l:=r) h;exact ⟨List.mem_cons_of_mem _ h1,h2⟩
  ·rw [e] at h;injection h with h;subst h
   exact ⟨List.mem_cons_self,Nat.eq_of_beq_eq_true e⟩
theorem q0b.mapC {κ':Cx} {g:Cell→Cell} (H:∀ (c:Cell) v,c.Rep κ w v→(g c).Rep κ' w v) {xs:List Comp} {vs:List Value} (h:q0b κ w xs vs):q0b κ' w (xs.map λc=>c.mapC g) vs:=by
 refine ⟨by rw [h.1,List.length_map],λi c hc=>?_⟩
 rw [List.getElem?_map] at hc;cases hx:xs[i]? with
 | none=>rw [hx] at hc;cases hc
 | some x =>
  rw [hx] at hc;injection hc with hc;subst hc;obtain ⟨u,hu,hr⟩:=h.2 i x hx;refine ⟨u,hu,?_⟩;cases x with
  | one c=>exact H c u hr
  | agg cs=>obtain ⟨us,rfl,hr⟩:=hr;exact ⟨us,rfl,q4e H hr⟩
theorem Rel.lendAll:∀ (l:List Nat) {κ:Cx} {st:St} {xs:List Comp} {vs:List Value},Rel w0 κ st a w→q0b κ w xs vs→∃ κ',Rel w0 κ' (st.q07 l) a w∧(∀ g,κ.S g→κ'.S g)∧κ'.β=κ.β∧q0b κ' w (qhf st l xs) vs
 | [],κ,st,xs,vs,h,hx=>⟨κ,h,λg hg=>hg,rfl,hx⟩
 | r::l,κ,st,xs,vs,h,hx=>by
  obtain ⟨κ1,h1,e1,_,h2,h3⟩:=h.freezeH r;obtain ⟨κ2,q1,q2,q3,q4⟩:=Rel.lendAll l h1 (hx.mapC h3);exact ⟨κ2,q1,λg hg=>q2 g (h2 g hg),q3.trans e1,q4⟩
theorem q0b.takeN {xs:List Comp} {vs:List Value} (h:q0b κ w xs vs) (n:Nat):q0b κ w (xs.take n) (vs.take n) :=
 ⟨by rw [List.length_take,List.length_take,h.1],λi c hc=>by
  rw [List.getElem?_take] at hc ⊢;split at hc
  ·rename_i hi;rw [if_pos hi];exact h.2 i c hc
  ·cases hc⟩
theorem q0b.dropN {xs:List Comp} {vs:List Value} (h:q0b κ w xs vs) (n:Nat):q0b κ w (xs.drop n) (vs.drop n) :=
 ⟨by rw [List.length_drop,List.length_drop,h.1],λi c hc=>by
  rw [List.getElem?_drop] at hc ⊢;exact h.2 _ c hc⟩
theorem q38 {c:Comp} {vs:List Value} (h:q0b κ w [c] vs):∃ v,vs=[v]∧c.Rep κ w v:=by
 obtain ⟨v,rfl⟩:=List.length_eq_one_iff.1 h.1;obtain ⟨u,hu,hr⟩:=h.2 0 _ rfl;injection hu with hu;subst hu;exact ⟨v,rfl,hr⟩
theorem q7q (hR:Rel w0 κ st a w) {fa:FA} {xs:List Comp} {b:fa.Pay} (h:q8l st fa xs=some b) {vs:List Value} (hv:q0b κ w xs vs):fa.Rep κ.S w b vs:=by
 unfold q8l at h;split at h
 ·exact List.length_eq_zero_iff.1 hv.1
 ·rename_i g g'
  cases hb:Nat.beq g g'
  ·rw [hb] at h;cases h
  ·obtain ⟨v,rfl,hr⟩:=q38 hv
   have hr:v=.func (.func g') #[] #[]:=hr;show _=_;rw [hr,Nat.eq_of_beq_eq_true hb]
 ·rename_i g g' k
  cases hb:Nat.beq g g'
  ·rw [hb] at h;cases h
  ·obtain ⟨v,rfl,hr⟩:=q38 hv
   have hr:v=.func (.func g') ((([]:List (Nat×Nat)).take k).map κ.ptr).toArray ((([]:List (Nat×Nat)).drop k).map κ.ptr).toArray:=hr;show _=_;rw [hr,Nat.eq_of_beq_eq_true hb];simp
 ·rename_i g ks g' bx
  cases hb:Nat.beq g g'
  ·rw [hb] at h;cases h
  ·rw [hb] at h
   have h:(match st.box bx with
    | some cs=>q10 ks cs
    | none=>none)=some b:=h
   split at h
   ·rename_i cs hcs
    obtain ⟨v,rfl,hr⟩:=q38 hv;have hr:v=.func (.func g') (([(bx,0)].take 0).map κ.ptr).toArray (([(bx,0)].drop 0).map κ.ptr).toArray:=hr;obtain ⟨us,ty,hblk,hus,_,hS⟩:=hR.box bx cs hcs;refine ⟨κ.β bx,ty,us,by rw [hr,Nat.eq_of_beq_eq_true hb];rfl,hblk,?_,hS⟩
    have:=q3k ks cs b us.toList h (by simpa using hus)
    exact qcx (κ:=κ) (κ':=Cx.of κ.S) ks b rfl (by simpa using this)
   ·cases h
 ·cases h
theorem freeze_box (st:St) (r:Nat) {b:Nat} {cs:List Cell} (h:st.box b=some cs):∃ cs',(st.freeze r).box b=some cs':=by
 unfold St.freeze;cases hx:st.row r with
 | none=>exact ⟨cs,h⟩
 | some x =>
  refine ⟨cs.map (Cell.thaw r x),?_⟩;show look? b (st.boxes.map λ(b,cs)=>(b,cs.map (Cell.thaw r x)))=_
  rw [look?_map,show look? b st.boxes=some cs from h];rfl
theorem qfs:∀ (l:List Nat) (st:St) {b:Nat} {cs:List Cell},st.box b=some cs→∃ cs',(st.q07 l).box b=some cs'
 | [],st,b,cs,h=>⟨cs,h⟩
 | r::l,st,b,cs,h=>by
  obtain ⟨cs1,h1⟩:=freeze_box st r h;exact qfs l (st.freeze r) h1
theorem qi3 (hR:Rel w0 κ st a w) {fa:FA} {xs:List Comp} {b:fa.Pay} (h:q8l st fa xs=some b) {vs:List Value} (hv:q0b κ w xs vs) {κ1:Cx} {l:List Nat} (hR1:Rel w0 κ1 (st.q07 l) a w) (hS:∀ g,κ.S g→κ1.S g) (hβ:κ1.β=κ.β):fa.Rep κ1.S w b vs:=by
 have h0:=q7q hR h hv;unfold q8l at h;split at h
 ·exact h0
 ·exact h0
 ·exact h0
 ·rename_i g ks g' bx
  cases hb:Nat.beq g g'
  ·rw [hb] at h;cases h
  ·rw [hb] at h
   have h:(match st.box bx with
    | some cs=>q10 ks cs
    | none=>none)=some b:=h
   split at h
   ·rename_i cs hcs
    obtain ⟨v,rfl,hr⟩:=q38 hv;have hr:v=.func (.func g') (([(bx,0)].take 0).map κ.ptr).toArray (([(bx,0)].drop 0).map κ.ptr).toArray:=hr;obtain ⟨B,ty,us,q1,q2,q3,q4⟩:=h0;obtain ⟨cs',hcs'⟩:=qfs l st hcs;obtain ⟨_,_,_,_,_,hS1⟩:=hR1.box bx cs' hcs';have hB:κ1.β bx=B:=by
     rw [hβ];rw [hr] at q1;injection q1 with q1 _;injection q1 with _ _ q1;have q1:(#[Value.pointer (some ⟨κ.β bx,0,none⟩)]:Array Value)=#[.pointer (some ⟨B,0,none⟩)]:=q1;injection q1 with q1;injection q1 with q1 _;injection q1 with q1;injection q1 with q1;injection q1 with q1
    refine ⟨B,ty,us,q1,q2,q04.mono (κ:=Cx.of κ.S) (κ':=Cx.of κ1.S) (λc v hc=>Cell.Rep.keeps (κ:=Cx.of κ.S) (κ':=Cx.of κ1.S) rfl rfl rfl (Keeps.refl w _) (λg hg _=>hS g hg) hc) q3,by rw [← hB];exact hS1⟩
   ·cases h
 ·cases h
theorem takeFA_apart {fa:FA} {xs:List Comp} {b:fa.Pay} (h:q8l st fa xs=some b) {vs:List Value} (hv:q0b κ w xs vs) {g:Nat} (hg:∀ bx cs,st.box bx=some cs→κ.β bx≠g) (u:Fn):vs≠[.func u #[] #[.pointer (some ⟨g,0,none⟩)]]:=by
 intro e;unfold q8l at h;split at h
 ·have:=hv.1;rw [e] at this;cases this
 ·obtain ⟨v,rfl,hr⟩:=q38 hv
  have hr:v=.func _ #[] #[]:=hr;rw [hr] at e;injection e with e _;injection e with _ _ e;cases e
 ·rename_i k
  obtain ⟨v,rfl,hr⟩:=q38 hv;have hr:v=.func _ ((([]:List (Nat×Nat)).take k).map κ.ptr).toArray ((([]:List (Nat×Nat)).drop k).map κ.ptr).toArray:=hr;rw [hr] at e;injection e with e _;injection e with _ _ e;simp at e
 ·rename_i g1 ks g' bx
  cases hb:Nat.beq g1 g'
  ·rw [hb] at h;cases h
  ·rw [hb] at h
   have h:(match st.box bx with
    | some cs=>q10 ks cs
    | none=>none)=some b:=h
   split at h
   ·rename_i cs hcs
    obtain ⟨v,rfl,hr⟩:=q38 hv;have hr:v=.func (.func g') (([(bx,0)].take 0).map κ.ptr).toArray (([(bx,0)].drop 0).map κ.ptr).toArray:=hr;rw [hr] at e;injection e with q1 _;injection q1 with _ _ q1;have q1:(#[Value.pointer (some ⟨κ.β bx,0,none⟩)]:Array Value)=#[.pointer (some ⟨g,0,none⟩)]:=q1;injection q1 with q1;injection q1 with q1 _;injection q1 with q1;injection q1 with q1;injection q1 with q1;exact hg bx cs hcs q1
   ·cases h
 ·cases h
theorem qgf:∀ (fs:Kds) (p:fs.Pay) (f:Nat) (z:(k:Kd)×k.Pay),fs.flat=true→fs.fld p f=some z→z.1.flat=true
 | .one k,p,0,z,hf,h=>by injection h with h;subst h;exact hf
 | .one k,p,f+1,z,hf,h=>by cases h
 | .cons k ks,p,0,z,hf,h=>by
  have hf:(k.flat&&ks.flat)=true:=hf;rw [Bool.and_eq_true] at hf;injection h with h;subst h;exact hf.1
 | .cons k ks,p,f+1,z,hf,h=>by
  have hf:(k.flat&&ks.flat)=true:=hf;rw [Bool.and_eq_true] at hf;exact qgf ks p.2 f z hf.2 h
theorem qlw {κ':Cx} {fs:Kds} (hf:fs.flat=true) {xs:List fs.Pay} {cells:List Value} (h:q0c κ w fs xs cells):q0c κ' w' fs xs cells:=λi x hx f z hz=>by
 obtain ⟨u,hu,hr⟩:=h i x hx f z hz;exact ⟨u,hu,kd_flat (qgf fs x f z hf hz) (κ:=κ) (κ':=κ') hr⟩
theorem Rel.keepRow (h:Rel w0 κ st a w) {r:Nat} {x y:Row} (hx:st.row r=some x) (ho:w.grownBy w' (κ.ρ r).ownBlock) {cells:List Value} (hown:w'.ownsRow w0.n0 y.e y.fs.size (κ.ρ r) y.xs.length cells) (hcells:q0c κ w y.fs y.xs cells) :
  Rel w0 κ (st.putRow r y) a w':=by
 obtain ⟨cs0,hown0,_,hn0⟩:=h.row r x hx;have hkeep:Keeps w w' κ.S:=⟨ho.size,λg o hs hlt=>World.cell?_of_block (ho.block g hlt (λe=>(hn0 g e.symm).1 hs))⟩
 have H:∀ (c:Cell) v,c.Rep κ w v→c.Rep κ w' v:=λc v hr=>hr.keeps rfl rfl rfl hkeep (λg hg _=>hg)
 have hrows:∀ k z,(st.putRow r y).row k=some z→(k=r∧z=y)∨(k≠r∧st.row k=some z):=λk z hz=>by
  have hz:look? k ((r,y)::q13 r st.rows)=some z:=hz;rw [look?_cons,look?_dropKey] at hz;by_cases e:r=k
  ·rw [if_pos e] at hz;injection hz with hz;exact .inl ⟨e.symm,hz.symm⟩
  ·rw [if_neg e,if_neg (λh=>e h.symm)] at hz;exact .inr ⟨λh=>e h.symm,hz⟩
 exact {
  defers:=h.defers
  size:=h.size
  env:=λt=>AV.Rep.mono H (h.env t)
  box:=λb bs hb=>by
   obtain ⟨us,ty,hblk,hr,h1,h2⟩:=h.box b bs hb;exact ⟨us,ty,(ho.block _ hblk.lt (λe=>(hn0 _ e.symm).2 b bs hb rfl)).trans hblk,hr.mono H,h1,h2⟩
  apart:=h.apart
  row:=λk z hz=>by
   rcases hrows k z hz with ⟨rfl,rfl⟩ | ⟨hne,hz⟩
   ·exact ⟨cells,hown,hcells.keeps hkeep (λg hg _=>hg),hn0⟩
   ·obtain ⟨cs,ho2,hc,hn⟩:=h.row k z hz
    refine ⟨cs,ho2.kept ho ?_,hc.keeps hkeep (λg hg _=>hg),hn⟩
    cases hb:(κ.ρ k).ownBlock with
    | none=>exact .inl rfl
    | some g=>exact .inr λe=>hne (h.rows k r z x hz hx g hb e.symm)
  rows:=λk k' z z' hz hz' g' hk hk'=>by
   have q:∀ k z,(st.putRow r y).row k=some z→∃ z0,st.row k=some z0:=λk z hz=>by
    rcases hrows k z hz with ⟨rfl,_⟩ | ⟨_,hz⟩
    ·exact ⟨x,hx⟩
    ·exact ⟨z,hz⟩
   obtain ⟨z0,hz0⟩:=q k z hz;obtain ⟨z1,hz1⟩:=q k' z' hz';exact h.rows k k' z0 z1 hz0 hz1 g' hk hk'
  bound:=λg hg=>Nat.lt_of_lt_of_le (h.bound g hg) ho.size
  below:=h.below.grown ho h.low (λk hk=>q2p hown0 k hk)
  old:=h.old
  ext:=h.ext.move (g:=id) (λc v hr=>AV.Rep.mono H hr) (λt=>rfl) ⟨rfl,rfl,rfl,rfl⟩ rfl (λk p v hr=>H (.val k p) v hr) (λg1 o ho' hh=>(ho.block g1 (lt_of_some hh) (λe=>q31 hown0 g1 e.symm o ho' hh)).trans hh)
   (λg1 hs hl=>ho.block g1 hl (λe=>hs.2.2 r x hx e.symm))
   (λg1 hs _=>⟨hs.1,hs.2.1,λk z hz=>by
    rcases hrows k z hz with ⟨rfl,_⟩ | ⟨_,hz⟩
    ·exact hs.2.2 _ x hx
    ·exact hs.2.2 k z hz⟩) rfl (q7j _) }
theorem qey {xs:List Comp} {vs:List Value} (h:q0b κ w xs vs) (n:Nat):vs=vs.take n++vs.drop n:=(List.take_append_drop n vs).symm
theorem xInl_ok {C:Nat→Option (Code×Code)} {ns:List NCon} {os:List OCon} {fs:List FCon} {B:Inl} (hns:∀ c∈ns,c.Holds P) (hos:∀ c∈os,c.Holds P) (hfs:∀ c∈fs,c.Holds P) (hB:q2h P C B):q2h P C (xInl ns os fs B):=by
 intro w0 hag f hf0 xs off st K KP κ a w vs h hR hvs;have hlt:Nat.blt f 1000000000=true:=by rw [Nat.blt_eq];exact hf0
 unfold xInl at h;rw [hlt,cond_true] at h;split at h
 ·
  rename_i c hc;obtain ⟨hmem,rfl⟩:=nOf_spec hc;unfold vNew at h;split at h
  ·rename_i p b hp hb
   obtain ⟨hpre,hK⟩:=h;obtain ⟨hfn,hcall⟩:=hns c hmem;refine ⟨hfn,?_⟩;have hfa:=q7q hR hb (hvs.dropN c.args.length);obtain ⟨κ1,hR1,hS1,hβ1,hx1⟩:=Rel.lendAll (q59 xs) hR (hvs.takeN c.args.length);obtain ⟨e1,e2⟩:=q83 _ _ hx1;have hargs:=q6c (κ:=κ1) (w:=w) c.args _ p hp _ e1 e2;have hfa1:c.fa.Rep κ1.S w b (vs.drop c.args.length):=qi3 hR hb (hvs.dropN c.args.length) hR1 hS1 hβ1;have hcl:=hcall p b (vs.take c.args.length) (vs.drop c.args.length) w κ1.S hR1.bound hpre (q4t (κ:=κ1) (κ':=Cx.of κ1.S) c.args p rfl hargs) hfa1;rw [← qey hvs c.args.length] at hcl;refine hcl.mono ?_;rintro en w' ⟨hbel,u,cells,rfl,hown,hcells⟩;left;have hown':w'.ownsRow w0.n0 c.e c.fs.size u (c.F p b).length cells:=⟨hown.1,hown.2.imp id (λ⟨g,cap,cur,q1,q2,q⟩=>⟨g,cap,cur,q1,Nat.le_trans hR.low q2,q⟩)⟩
   have hnew:∀ g,u.ownBlock=some g→w.heap.size≤g:=λg hg=>q2p hown g hg
   have hgr:w.grownBy w' none:=⟨hbel.os,hbel.tape,hbel.output,hbel.size,λk hk _=>hbel.block k hk⟩
   cases hfl:c.fs.flat
   ·rw [hfl] at hK
    have hR2:=Rel.setRow (r:=off) (x:=⟨c.e,c.fs,c.F p b⟩) hR1 (row:=none) hgr (λg hg=>by cases hg) hown' (q0c.keeps (κ:=Cx.of κ1.S) (κ':=κ1) (Keeps.refl w _) (λg hg _=>hg) hcells) (λg hg=>.inr (hnew g hg))
    exact ⟨u,_,_,_,rfl,hK,hR2,by show u=(if off=off then u else _)∧_;rw [if_pos rfl];exact ⟨rfl,q5i hown⟩⟩
   ·rw [hfl] at hK
    have hR2:=Rel.setRow (r:=off) (x:=⟨c.e,c.fs,c.F p b⟩) hR (row:=none) hgr (λg hg=>by cases hg) hown' (qlw (κ:=Cx.of κ1.S) (κ':=κ) hfl hcells) (λg hg=>.inr (hnew g hg))
    exact ⟨u,_,_,_,rfl,hK,hR2,by show u=(if off=off then u else _)∧_;rw [if_pos rfl];exact ⟨rfl,q5i hown⟩⟩
  ·exact h.elim
 ·split at h
  ·
   rename_i c hc;obtain ⟨hmem,rfl⟩:=oOf_spec hc;unfold vOwn at h;split at h
   ·rename_i r rest
    split at h
    ·rename_i x p b hx hp hb
     split at h
     ·rename_i hfs _
      cases he:x.e.beq c.e
      ·rw [he] at h;exact h.elim
      ·rw [he] at h
       obtain ⟨hpre,hK⟩:=h;have hee:x.e=c.e:=Nat.eq_of_beq_eq_true he;clear he;obtain ⟨hfn,hcall⟩:=hos c hmem;refine ⟨hfn,?_⟩;cases vs with
       | nil=>have:=hvs.1;cases this
       | cons v vs =>
        obtain ⟨v',hv',hv⟩:=hvs.2 0 _ rfl;injection hv' with hv';subst hv';obtain ⟨hv,_⟩:=hv;subst hv;have hrest:q0b κ w rest vs:=⟨by have:=hvs.1;simpa using this,λi c hc=>hvs.2 (i+1) c hc⟩
        have hfa:=q7q hR hb (hrest.dropN c.args.length);obtain ⟨e1,e2⟩:=q83 _ _ (hrest.takeN c.args.length);have hargs:=q6c (κ:=κ) (w:=w) c.args _ p hp _ e1 e2;obtain ⟨xe,xfs,xxs⟩:=x;dsimp only at hfs hee;subst hfs;subst hee;have hpre:c.pre xxs p b:=hpre;obtain ⟨cells,hown,hcells,hn⟩:=hR.row r _ hx;have hcl:=hcall xxs p b (κ.ρ r) cells (vs.take c.args.length) (vs.drop c.args.length) w w0.n0 κ.S hR.low hR.bound (λg hg=>(hn g hg).1) hown (q0c.keeps (κ:=κ) (κ':=Cx.of κ.S) (Keeps.refl w _) (λg hg _=>hg) hcells) hpre (q4t (κ:=κ) (κ':=Cx.of κ.S) c.args p rfl hargs) hfa (λg u hg e=>takeFA_apart hb (hrest.dropN c.args.length) (λbx cs hbx=>(hn g hg).2 bx cs hbx) u e)
        rw [← qey hrest c.args.length] at hcl;refine hcl.mono ?_;rintro en w' ⟨hgr,u,cells',rfl,hown',hcells',hret,hnr⟩;left;have hcells2:q0c κ w c.fs (c.F xxs p b) cells':=q0c.keeps (κ:=Cx.of κ.S) (κ':=κ) (Keeps.refl w _) (λg hg _=>hg) hcells'
        cases hrt:c.ret
        ·rw [hrt] at hK hown'
         obtain rfl:=hnr hrt;have hR2:=hR.keepRow (y:=⟨c.e,c.fs,c.F xxs p b⟩) hx hgr hown' hcells2;exact ⟨_,_,κ,_,rfl,hK,hR2,⟨#[],rfl,rfl,λi c h=>by cases h⟩⟩
        ·rw [hrt] at hK hown'
         have hR2:=Rel.setRow (r:=r) (x:=⟨c.e,c.fs,c.F xxs p b⟩) hR (row:=(κ.ρ r).ownBlock) hgr (λg hg=>⟨hg,by rw [hx];rfl⟩) hown' hcells2 (λg hg=>(hret hrt g hg).imp (λe=>⟨e,e⟩) id)
         exact ⟨u,_,_,_,rfl,hK,hR2,by show u=(if r=r then u else _)∧_;rw [if_pos rfl];exact ⟨rfl,q5i hown'⟩⟩
     ·exact h.elim
    ·exact h.elim
   ·exact h.elim
  ·split at h
   ·
    rename_i c hc;obtain ⟨hmem,rfl⟩:=fOf_spec hc;unfold vFn at h;split at h
    ·rename_i p b hp hb
     obtain ⟨hpre,hK⟩:=h;obtain ⟨hfn,hcall⟩:=hfs c hmem;refine ⟨hfn,?_⟩;have hfa:=q7q hR hb (hvs.dropN c.args.length);obtain ⟨κ1,hR1,hS1,hβ1,hx1⟩:=Rel.lendAll (q59 xs) hR (hvs.takeN c.args.length);obtain ⟨e1,e2⟩:=q83 _ _ hx1;have hargs:=q6c (κ:=κ1) (w:=w) c.args _ p hp _ e1 e2;have hfa1:c.fa.Rep κ1.S w b (vs.drop c.args.length):=qi3 hR hb (hvs.dropN c.args.length) hR1 hS1 hβ1;have hcl:=hcall p b (vs.take c.args.length) (vs.drop c.args.length) w κ1.S hR1.bound hpre (q4t (κ:=κ1) (κ':=Cx.of κ1.S) c.args p rfl hargs) hfa1;rw [← qey hvs c.args.length] at hcl;refine hcl.mono ?_;rintro en w' ⟨hbel,u,rfl,hres⟩;left;have hret:retAV (q0s c.res (c.F p b))=q1e c.res (c.F p b):=rfl;cases hfl:c.res.all CK.q7r
     ·rw [hfl] at hK
      refine ⟨u,_,{ κ1 with S:=λg=>κ1.S g∨(w.heap.size≤g∧g<w'.heap.size) },_,rfl,hK,hR1.later hbel,?_⟩
      rw [hret];exact q9o (κ:=Cx.of λg=>κ1.S g∨(w.heap.size≤g∧g<w'.heap.size)) (κ':={ κ1 with S:=λg=>κ1.S g∨(w.heap.size≤g∧g<w'.heap.size) }) c.res _ rfl hres
     ·rw [hfl] at hK
      refine ⟨u,_,_,_,rfl,hK,hR.later hbel,?_⟩;rw [hret];exact qid hfl hres
    ·exact h.elim
   ·exact hB w0 hag f hf0 xs off st K KP κ a w vs h hR hvs
theorem xInl_yld {C:Nat→Option (Code×Code)} {ns:List NCon} {os:List OCon} {fs:List FCon} {B:Inl} (hB:q4c P C B):q4c P C (xInl ns os fs B):=by
 intro w0 hag j xs off st K KP κ a w vs h;have hj:Nat.blt (1000000000+j) 1000000000=false:=Bool.eq_false_iff.mpr λe=>by rw [Nat.blt_eq] at e;omega
 have h:(bif Nat.blt (1000000000+j) 1000000000 then _ else B (1000000000+j) xs off st K KP):=h
 rw [hj] at h;exact hB w0 hag j xs off st K KP κ a w vs h
end
end R
namespace R
structure Kit where
 cons:List Con:=[]
 ns:List NCon:=[]
 os:List OCon:=[]
 fcs:List FCon:=[]
 rcs:List RCon:=[]
 inls:List (Nat×Func):=[]
structure Kit.Ok (P:Program) (T:Kit):Prop where
 cons:∀ c∈T.cons,c.Holds P
 ns:∀ c∈T.ns,c.Holds P
 os:∀ c∈T.os,c.Holds P
 fcs:∀ c∈T.fcs,c.Holds P
 rcs:∀ c∈T.rcs,c.Holds P
 inls:q0g P T.inls
def Kit.base (T:Kit):Inl:=xInl T.ns T.os T.fcs (refInl T.rcs)
noncomputable def vcOfX (P:Program) (T:Kit) (annsI:Nat→List (Nat×Ann)) (anns:List (Nat×Ann)) (c:Con) (fn:Func) (p:Pays c.args):Prop:=vcOfH P T.cons (inlOf P T.cons T.inls annsI 8) T.base anns c fn p
theorem q5u {P : Program} {T : Kit} {f : FuncId} {args res : List CK} {pre : Pays args → Prop} {F : Pays args → Pays res} {fn : Func} (annsI : Pays args → Nat → List (Nat × Ann)) (hf : P.funcs[f]? = some fn) (hb : fn.body.isSome = true) (hname : (fn.name == "runtime.NumGoroutine") = false) (hm : P.follows .mixedOrders = true)
  (hargs:Nat.ble args.length fn.ntmps=true) (hT:T.Ok P) (anns:Pays args→List (Nat×Ann)) (H:∀ p,pre p→vcOfX P T (annsI p) (anns p) (Con.of f args res pre F) fn p):(Con.of f args res pre F).Holds P :=
 holdsH (Con.of f args res pre F) (HH:=λp=>inlOf P T.cons T.inls (annsI p) 8) hf hb hname hm hargs hT.cons (λp=>inlOf_ok hm hT.cons hT.inls (annsI p) 8) (xInl_ok hT.ns hT.os hT.fcs (refInl_ok hT.rcs)) (xInl_yld refInl_yld) anns (λF' h p r hr=>by injection h with h;subst h;exact hr) H
theorem all_nil {α:Type} {p:α→Prop}:∀ c∈([]:List α),p c:=λc h=>by cases h
theorem all_cons {α:Type} {p:α→Prop} {x:α} {l:List α} (h:p x) (hl:∀ c∈l,p c):∀ c∈x::l,p c:=λc hc=>by
 rcases List.mem_cons.1 hc with rfl | hc
 ·exact h
 ·exact hl c hc
end R
namespace R
def keepE (ks:List Nat) (l:List (Nat×AV)):List (Nat×AV):=ks.map λt=>(t,look (.c (.one .any)) t l)
def keepB:List Nat→List (Nat×List Cell)→List (Nat×List Cell)
 | [],_=>[]
 | b::r,l=>match look? b l with
  | some cs=>(b,cs)::keepB r l
  | none=>keepB r l
structure Keep where
 live:List Nat
 sav:List Nat
 box:List Nat
 lp:List Nat:=[]
def St.hd (st:St) (K:Keep) (over:List (Nat×AV)) (bover:List (Nat×List Cell)) (rows:List (Nat×Row)) (maps:List (Nat×MRow)) (fam:Option FRow):St :=
 {n:=st.n,env:=over++keepE K.live st.env,boxes:=bover++keepB K.box st.boxes,rows:=rows,sav:=keepE K.sav st.sav,maps:=maps,off:=st.off,nest:=none,iters:=[],fam:=fam,lps:=st.lps.map λL=>{ L with env:=keepE K.lp L.env } }
end R
end Go.Proofs.YtednmlmllbkhhaaGreatDoor

/-
  Several texts in one: R15, R16, R12X, R13X, CoA, LexLaw, AlName, SoB, CoB, CoC, SoC, LexScan, LexGap.
-/
import Derived.Test.YtlfaaoalgcbcoaaGreatDoorPK
import Derived.ProofKit
import Derived.Deep.Slices
import Derived.Test.YtlfaaoalgcbcoaaGreatDoorPA
import Derived.Laws.CopyOwn
import Derived.Laws.RangeAny
import Derived.Test.YtlfaaoalgcbcoaaGreatDoorPB
import Derived.WalkSmall
open Go.Lib renaming indexByte→Q0,hid→Q5,indexByte_ge→Qq,cell?_alloc_some→QE
open List renaming length_drop→Q4,length→Q7,length_cons→Q9,take→Qa,drop_drop→Qe,drop_zero→Qi,take_of_length_le→Qo,drop_eq_nil_of_le→Qp,mem_cons_of_mem→Qr,mem_cons_self→Qu,length_take→Qx,length_eq_one_iff→Qy,map→QC,mem_cons→QF,drop_succ_cons→QG,all_eq_true→QH,length_map→QI
open Bool renaming and_eq_true→Q6,and_false→Qc,true_and→Qd,false_eq_true→Qg,and_true→Qj,false_and→QA
open Nat renaming eq_of_beq_eq_true→Q8,le_refl→Qb,add_zero→Qf,zero_le→Qh,zero_add→Ql,beq→Qz,blt→QJ
open UInt8 renaming ofNat→Qk,toNat_lt→Qs
open Int renaming eq_ofNat_of_zero_le→Qm,toNat_natCast→Qn,toNat→QK
open Go.Utf8 renaming decode→Qt
open Go.Value renaming int→Qv,pointer→QL
open Go.RowKit.Below renaming refl→Qw
open Go.World renaming alloc_heap_new→QD
set_option linter.unusedVariables false
namespace Go.Proofs.YtlfaaoalgcbcoaaGreatDoor
open Go.RowKit Go.ChangeShapes Go.WideShapes
namespace R
mutual
def Kd.Big:(k:Kd)→k.Pay→Prop
 | .int k,n=>(Lit.int k n).wf=true
 | .bool,_=>True
 | .str,s=>Q7 (α:=UInt8) s≤9223372036854775807
 | .sl fs,xs=>(xs:List fs.Pay).length≤9223372036854775807∧∀ x∈(xs:List fs.Pay),fs.Big x
def Kds.Big:(fs:Kds)→fs.Pay→Prop
 | .one k,p=>k.Big p
 | .cons k ks,p=>k.Big p.1∧ks.Big p.2
end
theorem add_pl' (g off j:Nat):(⟨g,off,none⟩:Addr).add j=⟨g,off+j,none⟩:=by unfold Addr.add;split <;> simp_all
theorem cell_plain' {w:World} {a:Addr} {v:Value} (h:w.cell? (a.add 0)=some v):∃ g o,a=⟨g,o,none⟩∧g<w.heap.size:=by
 obtain ⟨g,o,sp⟩:=a;unfold World.cell? Addr.add at h;simp only [if_true] at h;split at h
 ·rename_i hg
  cases sp with
  | none=>exact ⟨g,o,rfl,(Array.getElem?_eq_some_iff.1 hg).1⟩
  | some x=>simp at h
 ·cases h
section
variable {H:Type} {enc:TypeId×Value→H} {P:Program} {w:World} {base:Nat} {spare:Nat→Bool} {held:Bool}
abbrev Here (w:World) (g:Nat):Prop:=g<w.heap.size
def q2w (w:World):(fs:Kds)→fs.Pay→List Value→Prop
 | .one k,p,cs=>∃ v,cs=[v]∧k.Rep w (Here w) p v
 | .cons k ks,p,cs=>∃ v r,cs=v::r∧k.Rep w (Here w) p.1 v∧q2w w ks p.2 r
theorem q2w.row:∀ (fs:Kds) (p:fs.Pay) (cs:List Value) (g o:Nat),q2w w fs p cs→(∀ i,i<cs.length→w.cell? ⟨g,o+i,none⟩=cs[i]?)→fs.Rep w (Here w) p g o
 | .one k,p,cs,g,o,h,hc=>by
  obtain ⟨v,rfl,hv⟩:=h;exact ⟨v,hc 0 (by simp),hv⟩
 | .cons k ks,p,cs,g,o,h,hc=>by
  obtain ⟨v,r,rfl,hv,hr⟩:=h;refine ⟨⟨v,hc 0 (by simp),hv⟩,q2w.row ks p.2 r g (o+1) hr λi hi=>?_⟩
  have:=hc (i+1) (by simp;omega)
  rw [show o+1+i=o+(i+1) by omega]
  exact this
theorem q2w.len:∀ (fs:Kds) (p:fs.Pay) (cs:List Value),q2w w fs p cs→cs.length=fs.size
 | .one k,p,cs,h=>by obtain ⟨v,rfl,_⟩:=h;rfl
 | .cons k ks,p,cs,h=>by
  obtain ⟨v,r,rfl,_,hr⟩:=h;have:=q2w.len ks p.2 r hr;show r.length+1=ks.size+1;omega
def CK.Big:(x:CK)→x.Pay→Prop
 | .one k,p=>k.Big p
 | .agg ks,p=>ks.Big p
theorem Kd.Rep.oneCell {S:Nat→Prop}:∀ (k:Kd) (p:k.Pay) (v:Value),k.Rep w S p v→v.oneCell'=true
 | .int k,p,v,h=>by cases h;rfl
 | .bool,p,v,h=>by cases h;rfl
 | .str,p,v,h=>by cases h;rfl
 | .sl fs,p,v,h=>by obtain ⟨A,c,rfl,_⟩:=h;rfl
theorem q2w.reps:∀ (fs:Kds) (p:fs.Pay) (cs:List Value),q2w w fs p cs →
  (∀ (i:Nat) c,(fs.cells p)[i]? = some c→∃ v,cs[i]? = some v∧c.Rep (Cx.of (Here w)) w v)∧(∀ (i:Nat) v,cs[i]? = some v→v.oneCell'=true)∧cs.length=(fs.cells p).length
 | .one k,p,cs,h=>by
  obtain ⟨v,rfl,hv⟩:=h;refine ⟨λi c hi=>?_,λi u hi=>?_,rfl⟩
  ·cases i with
   | zero=>injection hi with hi;subst hi;exact ⟨v,rfl,hv⟩
   | succ i=>cases hi
  ·cases i with
   | zero=>injection hi with hi;subst hi;exact Kd.Rep.oneCell k p v hv
   | succ i=>cases hi
 | .cons k ks,p,cs,h=>by
  obtain ⟨v,r,rfl,hv,hr⟩:=h;obtain ⟨h1,h2,h3⟩:=q2w.reps ks p.2 r hr;refine ⟨λi c hi=>?_,λi u hi=>?_,by rw [Q9,h3];rfl⟩
  ·cases i with
   | zero=>injection hi with hi;subst hi;exact ⟨v,rfl,hv⟩
   | succ i=>exact h1 i c hi
  ·cases i with
   | zero=>injection hi with hi;subst hi;exact Kd.Rep.oneCell k p.1 v hv
   | succ i=>exact h2 i u hi
end
end R
end Go.Proofs.YtlfaaoalgcbcoaaGreatDoor
namespace Go.Proofs.YtlfaaoalgcbcoaaGreatDoor
open Go.RowKit
namespace R
theorem compsRep_nil {κ:Cx} {w:World}:q0e κ w [] []:=⟨rfl,λi c h=>by cases h⟩
theorem q50 {κ:Cx} {w:World} {a:Comp} {v:Value} {xs:List Comp} {vs:List Value} (h:a.Rep κ w v) (hs:q0e κ w xs vs):q0e κ w (a::xs) (v::vs):=by
 refine ⟨by rw [Q9,Q9,hs.1],λi c hc=>?_⟩
 cases i with
 | zero=>injection hc with hc;subst hc;exact ⟨v,rfl,h⟩
 | succ i=>exact hs.2 i c hc
theorem law_any {P:Program} {f:FuncId} {args:List CK} {pre:Pays args→Prop} (h:(Con.of f args [.one .bool] pre (λ_=>true)).Holds P) (p:Pays args) (vs:List Value) (w:World) (hp:pre p) (hr:q0e (Cx.of (Here w)) w (q12 args p) vs) :
  Calls P f vs.toArray w λe w'=>e=.returned (.bool true)∧Below w.heap.size w w':=by
 have h:=h.2 p vs w (Here w) (λ_ h=>h) hp hr
 refine Calls.mono h ?_;rintro e w' ⟨r,v,rfl,hr,hv,hbl⟩;have hr:r=true:=hr;subst hr;have hv:v=.bool true:=hv;exact ⟨by rw [hv],hbl⟩
end R
namespace R
inductive FA where
 | no
 | fn (g:FuncId)
 | clo (g:FuncId) (ks:Kds)
@[reducible] def FA.Pay:FA→Type
 | .no=>Unit
 | .fn _=>Unit
 | .clo _ ks=>ks.Pay
def FA.Rep (S:Nat→Prop) (w:World):(x:FA)→x.Pay→List Value→Prop
 | .no,_,vs=>vs=[]
 | .fn g,_,vs=>vs=[.func (.func g) #[] #[]]
 | .clo g ks,b,vs=>∃ B ty us,vs=[.func (.func g) #[] #[.pointer (some ⟨B,0,none⟩)]]∧Blk w B ty us∧q07 (Cx.of S) w (ks.cells b) us∧¬ S B
def q94 (st:St):(x:FA)→List Comp→Option x.Pay
 | .no,[]=>some ()
 | .fn g,[.one (.fn g')]=>bif g.beq g' then some () else none
 | .fn g,[.one (.clo g' _ [])]=>bif g.beq g' then some () else none
 | .clo g ks,[.one (.clo g' 0 [(b,0)])]=>bif g.beq g' then (match st.box b with
  | some cs=>q14 ks cs
  | none=>none) else none
 | _,_=>none
def q64:List Comp→List Nat
 | []=>[]
 | .one c::l=>ownsC [c]++q64 l
 | .agg cs::l=>ownsC cs++q64 l
def qj5:St→List Nat→List Comp→List Comp
 | _,[],xs=>xs
 | st,r::l,xs=>qj5 (st.freeze r) l (xs.map λc=>c.mapC (st.thawR r))
structure NCon where
 f:FuncId
 args:List CK
 fa:FA:=.no
 e:TypeId
 fs:Kds
 pre:Pays args→fa.Pay→Prop
 F:Pays args→fa.Pay→List fs.Pay
structure OCon where
 f:FuncId
 e:TypeId
 fs:Kds
 args:List CK
 fa:FA:=.no
 ret:Bool
 pre:List fs.Pay→Pays args→fa.Pay→Prop
 F:List fs.Pay→Pays args→fa.Pay→List fs.Pay
structure FCon where
 f:FuncId
 args:List CK
 fa:FA
 res:List CK
 pre:Pays args→fa.Pay→Prop
 F:Pays args→fa.Pay→Pays res
def nOf (f:FuncId):List NCon→Option NCon
 | []=>none
 | c::r=>bif c.f.beq f then some c else nOf f r
def oOf (f:FuncId):List OCon→Option OCon
 | []=>none
 | c::r=>bif c.f.beq f then some c else oOf f r
def fOf (f:FuncId):List FCon→Option FCon
 | []=>none
 | c::r=>bif c.f.beq f then some c else fOf f r
def vNew (c:NCon) (xs:List Comp) (off:Nat) (st:St) (K:List Comp→St→Prop):Prop :=
 match q1i c.args (asAVs (qj5 st (q64 xs) (xs.take c.args.length))),q94 st c.fa (xs.drop c.args.length) with
 | some p,some b=>c.pre p b∧bif c.fs.flat then K [.one (.own off)] (st.setRow off ⟨c.e,c.fs,c.F p b⟩)
   else K [.one (.own off)] ((st.q08 (q64 xs)).setRow off ⟨c.e,c.fs,c.F p b⟩)
 | _,_=>False
def vOwn (c:OCon) (xs:List Comp) (st:St) (K:List Comp→St→Prop):Prop :=
 match xs with
 | .one (.own r)::rest=>match st.row r,q1i c.args (asAVs (rest.take c.args.length)),q94 st c.fa (rest.drop c.args.length) with
  | some x,some p,some b=>match x.fs.deq c.fs with
   | some ⟨h⟩=>bif x.e.beq c.e then c.pre (q3r h x.xs) p b∧bif c.ret then K [.one (.own r)] (st.setRow r ⟨c.e,c.fs,c.F (q3r h x.xs) p b⟩) else K [] (st.putRow r ⟨c.e,c.fs,c.F (q3r h x.xs) p b⟩) else False
   | none=>False
  | _,_,_=>False
 | _=>False
def vFn (c:FCon) (xs:List Comp) (st:St) (K:List Comp→St→Prop):Prop :=
 match q1i c.args (asAVs (qj5 st (q64 xs) (xs.take c.args.length))),q94 st c.fa (xs.drop c.args.length) with
 | some p,some b=>c.pre p b∧bif c.res.all CK.q99 then K (q12 c.res (c.F p b)) st else K (q12 c.res (c.F p b)) (st.q08 (q64 xs))
 | _,_=>False
def xInl (ns:List NCon) (os:List OCon) (fs:List FCon) (B:Inl):Inl:=λf xs off st K KP =>
 bif QJ f 1000000000 then (match nOf f ns with
  | some c=>vNew c xs off st K
  | none=>match oOf f os with
   | some c=>vOwn c xs st K
   | none=>match fOf f fs with
    | some c=>vFn c xs st K
    | none=>B f xs off st K KP) else B f xs off st K KP
section
variable {w0:Base} {w w':World} {κ:Cx} {st:St} {a:Act} {P:Program} {cons:List Con}
def FnOk (P : Program) (f : FuncId) : Prop := ∃ fn, P.funcs[f]? = some fn ∧ (fn.name == "runtime.NumGoroutine") = false ∧ fn.body.isNone = false
def NCon.Holds (P:Program) (c:NCon):Prop:=FnOk P c.f ∧
 ∀ (p:Pays c.args) (b:c.fa.Pay) (vs fvs:List Value) (w:World) (S:Nat→Prop),(∀ g,S g→g<w.heap.size)→c.pre p b→q0e (Cx.of S) w (q12 c.args p) vs→c.fa.Rep S w b fvs →
  Calls P c.f (vs++fvs).toArray w λe w'=>Below w.heap.size w w'∧∃ u cells,e=.returned u∧w'.ownsRow w.heap.size c.e c.fs.size u (c.F p b).length cells∧q0d (Cx.of S) w c.fs (c.F p b) cells
def OCon.Holds (P:Program) (c:OCon):Prop:=FnOk P c.f ∧
 ∀ (xs:List c.fs.Pay) (p:Pays c.args) (b:c.fa.Pay) (v:Value) (cells vs fvs:List Value) (w:World) (n0:Nat) (S:Nat→Prop),n0≤w.heap.size→(∀ g,S g→g<w.heap.size)→(∀ g,v.ownBlock=some g→¬ S g)→w.ownsRow n0 c.e c.fs.size v xs.length cells→q0d (Cx.of S) w c.fs xs cells →
  c.pre xs p b→q0e (Cx.of S) w (q12 c.args p) vs→c.fa.Rep S w b fvs→(∀ g u,v.ownBlock=some g→fvs≠[.func u #[] #[.pointer (some ⟨g,0,none⟩)]]) →
  Calls P c.f (v::(vs++fvs)).toArray w λe w'=>w.grownBy w' v.ownBlock∧∃ u cells',e=.returned u ∧
   w'.ownsRow n0 c.e c.fs.size (if c.ret then u else v) (c.F xs p b).length cells'∧q0d (Cx.of S) w c.fs (c.F xs p b) cells'∧(c.ret=true→∀ g,u.ownBlock=some g→v.ownBlock=some g∨w.heap.size≤g)∧(c.ret=false→u=.tuple #[])
def FCon.Holds (P:Program) (c:FCon):Prop:=FnOk P c.f ∧
 ∀ (p:Pays c.args) (b:c.fa.Pay) (vs fvs:List Value) (w:World) (S:Nat→Prop),(∀ g,S g→g<w.heap.size)→c.pre p b→q0e (Cx.of S) w (q12 c.args p) vs→c.fa.Rep S w b fvs →
  Calls P c.f (vs++fvs).toArray w λe w'=>Below w.heap.size w w'∧∃ u,e=.returned u∧(q1m c.res (c.F p b)).Rep (Cx.of λg=>S g∨(w.heap.size≤g∧g<w'.heap.size)) w' u
theorem nOf_spec {f:FuncId} {c:NCon}:∀ {l:List NCon},nOf f l=some c→c∈l∧c.f=f
 | [],h=>by cases h
 | x::r,h=>by
  have h:(bif x.f.beq f then some x else nOf f r)=some c:=h
  cases e:x.f.beq f
  ·rw [e] at h
   obtain ⟨h1,h2⟩:=nOf_spec (l:=r) h;exact ⟨Qr _ h1,h2⟩
  ·rw [e] at h;injection h with h;subst h
   exact ⟨Qu,Q8 e⟩
theorem oOf_spec {f:FuncId} {c:OCon}:∀ {l:List OCon},oOf f l=some c→c∈l∧c.f=f
 | [],h=>by cases h
 | x::r,h=>by
  have h:(bif x.f.beq f then some x else oOf f r)=some c:=h
  cases e:x.f.beq f
  ·rw [e] at h
   obtain ⟨h1,h2⟩:=oOf_spec (l:=r) h;exact ⟨Qr _ h1,h2⟩
  ·rw [e] at h;injection h with h;subst h
   exact ⟨Qu,Q8 e⟩
theorem fOf_spec {f:FuncId} {c:FCon}:∀ {l:List FCon},fOf f l=some c→c∈l∧c.f=f
 | [],h=>by cases h
 | x::r,h=>by
  have h:(bif x.f.beq f then some x else fOf f r)=some c:=h
  cases e:x.f.beq f
  ·rw [e] at h
   obtain ⟨h1,h2⟩:=fOf_spec (l:=r) h;exact ⟨Qr _ h1,h2⟩
  ·rw [e] at h;injection h with h;subst h
   exact ⟨Qu,Q8 e⟩
theorem q0e.mapC {κ':Cx} {g:Cell→Cell} (H:∀ (c:Cell) v,c.Rep κ w v→(g c).Rep κ' w v) {xs:List Comp} {vs:List Value} (h:q0e κ w xs vs):q0e κ' w (xs.map λc=>c.mapC g) vs:=by
 refine ⟨by rw [h.1,QI],λi c hc=>?_⟩
 rw [List.getElem?_map] at hc;cases hx:xs[i]? with
 | none=>rw [hx] at hc;cases hc
 | some x =>
  rw [hx] at hc;injection hc with hc;subst hc;obtain ⟨u,hu,hr⟩:=h.2 i x hx;refine ⟨u,hu,?_⟩;cases x with
  | one c=>exact H c u hr
  | agg cs=>obtain ⟨us,rfl,hr⟩:=hr;exact ⟨us,rfl,q5d H hr⟩
theorem Rel.lendAll:∀ (l:List Nat) {κ:Cx} {st:St} {xs:List Comp} {vs:List Value},Rel w0 κ st a w→q0e κ w xs vs→∃ κ',Rel w0 κ' (st.q08 l) a w∧(∀ g,κ.S g→κ'.S g)∧κ'.β=κ.β∧q0e κ' w (qj5 st l xs) vs
 | [],κ,st,xs,vs,h,hx=>⟨κ,h,λg hg=>hg,rfl,hx⟩
 | r::l,κ,st,xs,vs,h,hx=>by
  obtain ⟨κ1,h1,e1,_,h2,h3⟩:=h.freezeH r;obtain ⟨κ2,q1,q2,q3,q4⟩:=Rel.lendAll l h1 (hx.mapC h3);exact ⟨κ2,q1,λg hg=>q2 g (h2 g hg),q3.trans e1,q4⟩
theorem q0e.takeN {xs:List Comp} {vs:List Value} (h:q0e κ w xs vs) (n:Nat):q0e κ w (xs.take n) (vs.take n) :=
 ⟨by rw [Qx,Qx,h.1],λi c hc=>by
  rw [List.getElem?_take] at hc ⊢;split at hc
  ·rename_i hi;rw [if_pos hi];exact h.2 i c hc
  ·cases hc⟩
theorem q0e.dropN {xs:List Comp} {vs:List Value} (h:q0e κ w xs vs) (n:Nat):q0e κ w (xs.drop n) (vs.drop n) :=
 ⟨by rw [Q4,Q4,h.1],λi c hc=>by
  rw [List.getElem?_drop] at hc ⊢;exact h.2 _ c hc⟩
theorem q2b {c:Comp} {vs:List Value} (h:q0e κ w [c] vs):∃ v,vs=[v]∧c.Rep κ w v:=by
 obtain ⟨v,rfl⟩:=Qy.1 h.1;obtain ⟨u,hu,hr⟩:=h.2 0 _ rfl;injection hu with hu;subst hu;exact ⟨v,rfl,hr⟩
theorem q9t (hR:Rel w0 κ st a w) {fa:FA} {xs:List Comp} {b:fa.Pay} (h:q94 st fa xs=some b) {vs:List Value} (hv:q0e κ w xs vs):fa.Rep κ.S w b vs:=by
 unfold q94 at h;split at h
 ·exact List.length_eq_zero_iff.1 hv.1
 ·rename_i g g'
  cases hb:Qz g g'
  ·rw [hb] at h;cases h
  ·obtain ⟨v,rfl,hr⟩:=q2b hv
   have hr:v=.func (.func g') #[] #[]:=hr;show _=_;rw [hr,Q8 hb]
 ·rename_i g g' k
  cases hb:Qz g g'
  ·rw [hb] at h;cases h
  ·obtain ⟨v,rfl,hr⟩:=q2b hv
   have hr:v=.func (.func g') ((([]:List (Nat×Nat)).take k).map κ.ptr).toArray ((([]:List (Nat×Nat)).drop k).map κ.ptr).toArray:=hr;show _=_;rw [hr,Q8 hb];simp
 ·rename_i g ks g' bx
  cases hb:Qz g g'
  ·rw [hb] at h;cases h
  ·rw [hb] at h
   have h:(match st.box bx with
    | some cs=>q14 ks cs
    | none=>none)=some b:=h
   split at h
   ·rename_i cs hcs
    obtain ⟨v,rfl,hr⟩:=q2b hv;have hr:v=.func (.func g') (([(bx,0)].take 0).map κ.ptr).toArray (([(bx,0)].drop 0).map κ.ptr).toArray:=hr;obtain ⟨us,ty,hblk,hus,_,hS⟩:=hR.box bx cs hcs;refine ⟨κ.β bx,ty,us,by rw [hr,Q8 hb];rfl,hblk,?_,hS⟩
    have:=q4e ks cs b us.toList h (by simpa using hus)
    exact qdt (κ:=κ) (κ':=Cx.of κ.S) ks b rfl (by simpa using this)
   ·cases h
 ·cases h
theorem freeze_box (st:St) (r:Nat) {b:Nat} {cs:List Cell} (h:st.box b=some cs):∃ cs',(st.freeze r).box b=some cs':=by
 unfold St.freeze;cases hx:st.row r with
 | none=>exact ⟨cs,h⟩
 | some x =>
  refine ⟨cs.map (Cell.thaw r x),?_⟩;show look? b (st.boxes.map λ(b,cs)=>(b,cs.map (Cell.thaw r x)))=_
  rw [look?_map,show look? b st.boxes=some cs from h];rfl
theorem qgf:∀ (l:List Nat) (st:St) {b:Nat} {cs:List Cell},st.box b=some cs→∃ cs',(st.q08 l).box b=some cs'
 | [],st,b,cs,h=>⟨cs,h⟩
 | r::l,st,b,cs,h=>by
  obtain ⟨cs1,h1⟩:=freeze_box st r h;exact qgf l (st.freeze r) h1
theorem qjj (hR:Rel w0 κ st a w) {fa:FA} {xs:List Comp} {b:fa.Pay} (h:q94 st fa xs=some b) {vs:List Value} (hv:q0e κ w xs vs) {κ1:Cx} {l:List Nat} (hR1:Rel w0 κ1 (st.q08 l) a w) (hS:∀ g,κ.S g→κ1.S g) (hβ:κ1.β=κ.β):fa.Rep κ1.S w b vs:=by
 have h0:=q9t hR h hv;unfold q94 at h;split at h
 ·exact h0
 ·exact h0
 ·exact h0
 ·rename_i g ks g' bx
  cases hb:Qz g g'
  ·rw [hb] at h;cases h
  ·rw [hb] at h
   have h:(match st.box bx with
    | some cs=>q14 ks cs
    | none=>none)=some b:=h
   split at h
   ·rename_i cs hcs
    obtain ⟨v,rfl,hr⟩:=q2b hv;have hr:v=.func (.func g') (([(bx,0)].take 0).map κ.ptr).toArray (([(bx,0)].drop 0).map κ.ptr).toArray:=hr;obtain ⟨B,ty,us,q1,q2,q3,q4⟩:=h0;obtain ⟨cs',hcs'⟩:=qgf l st hcs;obtain ⟨_,_,_,_,_,hS1⟩:=hR1.box bx cs' hcs';have hB:κ1.β bx=B:=by
     rw [hβ];rw [hr] at q1;injection q1 with q1 _;injection q1 with _ _ q1;have q1:(#[QL (some ⟨κ.β bx,0,none⟩)]:Array Value)=#[.pointer (some ⟨B,0,none⟩)]:=q1;injection q1 with q1;injection q1 with q1 _;injection q1 with q1;injection q1 with q1;injection q1 with q1
    refine ⟨B,ty,us,q1,q2,q07.mono (κ:=Cx.of κ.S) (κ':=Cx.of κ1.S) (λc v hc=>Cell.Rep.keeps (κ:=Cx.of κ.S) (κ':=Cx.of κ1.S) rfl rfl rfl (Keeps.refl w _) (λg hg _=>hS g hg) hc) q3,by rw [← hB];exact hS1⟩
   ·cases h
 ·cases h
theorem takeFA_apart {fa:FA} {xs:List Comp} {b:fa.Pay} (h:q94 st fa xs=some b) {vs:List Value} (hv:q0e κ w xs vs) {g:Nat} (hg:∀ bx cs,st.box bx=some cs→κ.β bx≠g) (u:Fn):vs≠[.func u #[] #[.pointer (some ⟨g,0,none⟩)]]:=by
 intro e;unfold q94 at h;split at h
 ·have:=hv.1;rw [e] at this;cases this
 ·obtain ⟨v,rfl,hr⟩:=q2b hv
  have hr:v=.func _ #[] #[]:=hr;rw [hr] at e;injection e with e _;injection e with _ _ e;cases e
 ·rename_i k
  obtain ⟨v,rfl,hr⟩:=q2b hv;have hr:v=.func _ ((([]:List (Nat×Nat)).take k).map κ.ptr).toArray ((([]:List (Nat×Nat)).drop k).map κ.ptr).toArray:=hr;rw [hr] at e;injection e with e _;injection e with _ _ e;simp at e
 ·rename_i g1 ks g' bx
  cases hb:Qz g1 g'
  ·rw [hb] at h;cases h
  ·rw [hb] at h
   have h:(match st.box bx with
    | some cs=>q14 ks cs
    | none=>none)=some b:=h
   split at h
   ·rename_i cs hcs
    obtain ⟨v,rfl,hr⟩:=q2b hv;have hr:v=.func (.func g') (([(bx,0)].take 0).map κ.ptr).toArray (([(bx,0)].drop 0).map κ.ptr).toArray:=hr;rw [hr] at e;injection e with q1 _;injection q1 with _ _ q1;have q1:(#[QL (some ⟨κ.β bx,0,none⟩)]:Array Value)=#[.pointer (some ⟨g,0,none⟩)]:=q1;injection q1 with q1;injection q1 with q1 _;injection q1 with q1;injection q1 with q1;injection q1 with q1;exact hg bx cs hcs q1
   ·cases h
 ·cases h
theorem qhk:∀ (fs:Kds) (p:fs.Pay) (f:Nat) (z:(k:Kd)×k.Pay),fs.flat=true→fs.fld p f=some z→z.1.flat=true
 | .one k,p,0,z,hf,h=>by injection h with h;subst h;exact hf
 | .one k,p,f+1,z,hf,h=>by cases h
 | .cons k ks,p,0,z,hf,h=>by
  have hf:(k.flat&&ks.flat)=true:=hf;rw [Q6] at hf;injection h with h;subst h;exact hf.1
 | .cons k ks,p,f+1,z,hf,h=>by
  have hf:(k.flat&&ks.flat)=true:=hf;rw [Q6] at hf;exact qhk ks p.2 f z hf.2 h
theorem qn7 {κ':Cx} {fs:Kds} (hf:fs.flat=true) {xs:List fs.Pay} {cells:List Value} (h:q0d κ w fs xs cells):q0d κ' w' fs xs cells:=λi x hx f z hz=>by
 obtain ⟨u,hu,hr⟩:=h i x hx f z hz;exact ⟨u,hu,kd_flat (qhk fs x f z hf hz) (κ:=κ) (κ':=κ') hr⟩
theorem Rel.keepRow (h:Rel w0 κ st a w) {r:Nat} {x y:Row} (hx:st.row r=some x) (ho:w.grownBy w' (κ.ρ r).ownBlock) {cells:List Value} (hown:w'.ownsRow w0.n0 y.e y.fs.size (κ.ρ r) y.xs.length cells) (hcells:q0d κ w y.fs y.xs cells) :
  Rel w0 κ (st.putRow r y) a w':=by
 obtain ⟨cs0,hown0,_,hn0⟩:=h.row r x hx;have hkeep:Keeps w w' κ.S:=⟨ho.size,λg o hs hlt=>World.cell?_of_block (ho.block g hlt (λe=>(hn0 g e.symm).1 hs))⟩
 have H:∀ (c:Cell) v,c.Rep κ w v→c.Rep κ w' v:=λc v hr=>hr.keeps rfl rfl rfl hkeep (λg hg _=>hg)
 have hrows:∀ k z,(st.putRow r y).row k=some z→(k=r∧z=y)∨(k≠r∧st.row k=some z):=λk z hz=>by
  have hz:look? k ((r,y)::q1c r st.rows)=some z:=hz;rw [look?_cons,look?_dropKey] at hz;by_cases e:r=k
  ·rw [if_pos e] at hz;injection hz with hz;exact .inl ⟨e.symm,hz.symm⟩
  ·rw [if_neg e,if_neg (λh=>e h.symm)] at hz;exact .inr ⟨λh=>e h.symm,hz⟩
 exact {
  defers:=h.defers
  size:=h.size
  env:=λt=>AV.Rep.mono H (h.env t)
  box:=λb bs hb=>by
   obtain ⟨us,ty,hblk,hr,h1,h2⟩:=h.box b bs hb;exact ⟨us,ty,(ho.block _ hblk.lt (λe=>(hn0 _ e.symm).2 b bs hb rfl)).trans hblk,hr.mono H,h1,h2⟩
  apart:=h.apart
  row:=λk z hz=>by
   rcases hrows k z hz with ⟨rfl,rfl⟩ | ⟨hne,hz⟩
   ·exact ⟨cells,hown,hcells.keeps hkeep (λg hg _=>hg),hn0⟩
   ·obtain ⟨cs,ho2,hc,hn⟩:=h.row k z hz
    refine ⟨cs,ho2.kept ho ?_,hc.keeps hkeep (λg hg _=>hg),hn⟩
    cases hb:(κ.ρ k).ownBlock with
    | none=>exact .inl rfl
    | some g=>exact .inr λe=>hne (h.rows k r z x hz hx g hb e.symm)
  rows:=λk k' z z' hz hz' g' hk hk'=>by
   have q:∀ k z,(st.putRow r y).row k=some z→∃ z0,st.row k=some z0:=λk z hz=>by
    rcases hrows k z hz with ⟨rfl,_⟩ | ⟨_,hz⟩
    ·exact ⟨x,hx⟩
    ·exact ⟨z,hz⟩
   obtain ⟨z0,hz0⟩:=q k z hz;obtain ⟨z1,hz1⟩:=q k' z' hz';exact h.rows k k' z0 z1 hz0 hz1 g' hk hk'
  bound:=λg hg=>Nat.lt_of_lt_of_le (h.bound g hg) ho.size
  below:=h.below.grown ho h.low (λk hk=>q1u hown0 k hk)
  old:=h.old
  ext:=h.ext.move (g:=id) (λc v hr=>AV.Rep.mono H hr) (λt=>rfl) ⟨rfl,rfl,rfl,rfl⟩ rfl (λk p v hr=>H (.val k p) v hr) (λg1 o ho' hh=>(ho.block g1 (lt_of_some hh) (λe=>q3j hown0 g1 e.symm o ho' hh)).trans hh)
   (λg1 hs hl=>ho.block g1 hl (λe=>hs.2.2 r x hx e.symm))
   (λg1 hs _=>⟨hs.1,hs.2.1,λk z hz=>by
    rcases hrows k z hz with ⟨rfl,_⟩ | ⟨_,hz⟩
    ·exact hs.2.2 _ x hx
    ·exact hs.2.2 k z hz⟩) rfl (q8q _) }
theorem qf1 {xs:List Comp} {vs:List Value} (h:q0e κ w xs vs) (n:Nat):vs=vs.take n++vs.drop n:=(List.take_append_drop n vs).symm
theorem xInl_ok {C:Nat→Option (Code×Code)} {ns:List NCon} {os:List OCon} {fs:List FCon} {B:Inl} (hns:∀ c∈ns,c.Holds P) (hos:∀ c∈os,c.Holds P) (hfs:∀ c∈fs,c.Holds P) (hB:q2s P C B):q2s P C (xInl ns os fs B):=by
 intro w0 hag f hf0 xs off st K KP κ a w vs h hR hvs;have hlt:QJ f 1000000000=true:=by rw [Nat.blt_eq];exact hf0
 unfold xInl at h;rw [hlt,cond_true] at h;split at h
 ·
  rename_i c hc;obtain ⟨hmem,rfl⟩:=nOf_spec hc;unfold vNew at h;split at h
  ·rename_i p b hp hb
   obtain ⟨hpre,hK⟩:=h;obtain ⟨hfn,hcall⟩:=hns c hmem;refine ⟨hfn,?_⟩;have hfa:=q9t hR hb (hvs.dropN c.args.length);obtain ⟨κ1,hR1,hS1,hβ1,hx1⟩:=Rel.lendAll (q64 xs) hR (hvs.takeN c.args.length);obtain ⟨e1,e2⟩:=q98 _ _ hx1;have hargs:=q7e (κ:=κ1) (w:=w) c.args _ p hp _ e1 e2;have hfa1:c.fa.Rep κ1.S w b (vs.drop c.args.length):=qjj hR hb (hvs.dropN c.args.length) hR1 hS1 hβ1;have hcl:=hcall p b (vs.take c.args.length) (vs.drop c.args.length) w κ1.S hR1.bound hpre (q5o (κ:=κ1) (κ':=Cx.of κ1.S) c.args p rfl hargs) hfa1;rw [← qf1 hvs c.args.length] at hcl;refine hcl.mono ?_;rintro en w' ⟨hbel,u,cells,rfl,hown,hcells⟩;left;have hown':w'.ownsRow w0.n0 c.e c.fs.size u (c.F p b).length cells:=⟨hown.1,hown.2.imp id (λ⟨g,cap,cur,q1,q2,q⟩=>⟨g,cap,cur,q1,Nat.le_trans hR.low q2,q⟩)⟩
   have hnew:∀ g,u.ownBlock=some g→w.heap.size≤g:=λg hg=>q1u hown g hg
   have hgr:w.grownBy w' none:=⟨hbel.os,hbel.tape,hbel.output,hbel.size,λk hk _=>hbel.block k hk⟩
   cases hfl:c.fs.flat
   ·rw [hfl] at hK
    have hR2:=Rel.setRow (r:=off) (x:=⟨c.e,c.fs,c.F p b⟩) hR1 (row:=none) hgr (λg hg=>by cases hg) hown' (q0d.keeps (κ:=Cx.of κ1.S) (κ':=κ1) (Keeps.refl w _) (λg hg _=>hg) hcells) (λg hg=>.inr (hnew g hg))
    exact ⟨u,_,_,_,rfl,hK,hR2,by show u=(if off=off then u else _)∧_;rw [if_pos rfl];exact ⟨rfl,q65 hown⟩⟩
   ·rw [hfl] at hK
    have hR2:=Rel.setRow (r:=off) (x:=⟨c.e,c.fs,c.F p b⟩) hR (row:=none) hgr (λg hg=>by cases hg) hown' (qn7 (κ:=Cx.of κ1.S) (κ':=κ) hfl hcells) (λg hg=>.inr (hnew g hg))
    exact ⟨u,_,_,_,rfl,hK,hR2,by show u=(if off=off then u else _)∧_;rw [if_pos rfl];exact ⟨rfl,q65 hown⟩⟩
  ·exact h.elim
 ·split at h
  ·
   rename_i c hc;obtain ⟨hmem,rfl⟩:=oOf_spec hc;unfold vOwn at h;split at h
   ·rename_i r rest
    split at h
    ·rename_i x p b hx hp hb
     split at h
     ·rename_i hfs _
      cases he:x.e.beq c.e
      ·rw [he] at h;exact h.elim
      ·rw [he] at h
       obtain ⟨hpre,hK⟩:=h;have hee:x.e=c.e:=Q8 he;clear he;obtain ⟨hfn,hcall⟩:=hos c hmem;refine ⟨hfn,?_⟩;cases vs with
       | nil=>have:=hvs.1;cases this
       | cons v vs =>
        obtain ⟨v',hv',hv⟩:=hvs.2 0 _ rfl;injection hv' with hv';subst hv';obtain ⟨hv,_⟩:=hv;subst hv;have hrest:q0e κ w rest vs:=⟨by have:=hvs.1;simpa using this,λi c hc=>hvs.2 (i+1) c hc⟩
        have hfa:=q9t hR hb (hrest.dropN c.args.length);obtain ⟨e1,e2⟩:=q98 _ _ (hrest.takeN c.args.length);have hargs:=q7e (κ:=κ) (w:=w) c.args _ p hp _ e1 e2;obtain ⟨xe,xfs,xxs⟩:=x;dsimp only at hfs hee;subst hfs;subst hee;have hpre:c.pre xxs p b:=hpre;obtain ⟨cells,hown,hcells,hn⟩:=hR.row r _ hx;have hcl:=hcall xxs p b (κ.ρ r) cells (vs.take c.args.length) (vs.drop c.args.length) w w0.n0 κ.S hR.low hR.bound (λg hg=>(hn g hg).1) hown (q0d.keeps (κ:=κ) (κ':=Cx.of κ.S) (Keeps.refl w _) (λg hg _=>hg) hcells) hpre (q5o (κ:=κ) (κ':=Cx.of κ.S) c.args p rfl hargs) hfa (λg u hg e=>takeFA_apart hb (hrest.dropN c.args.length) (λbx cs hbx=>(hn g hg).2 bx cs hbx) u e)
        rw [← qf1 hrest c.args.length] at hcl;refine hcl.mono ?_;rintro en w' ⟨hgr,u,cells',rfl,hown',hcells',hret,hnr⟩;left;have hcells2:q0d κ w c.fs (c.F xxs p b) cells':=q0d.keeps (κ:=Cx.of κ.S) (κ':=κ) (Keeps.refl w _) (λg hg _=>hg) hcells'
        cases hrt:c.ret
        ·rw [hrt] at hK hown'
         obtain rfl:=hnr hrt;have hR2:=hR.keepRow (y:=⟨c.e,c.fs,c.F xxs p b⟩) hx hgr hown' hcells2;exact ⟨_,_,κ,_,rfl,hK,hR2,⟨#[],rfl,rfl,λi c h=>by cases h⟩⟩
        ·rw [hrt] at hK hown'
         have hR2:=Rel.setRow (r:=r) (x:=⟨c.e,c.fs,c.F xxs p b⟩) hR (row:=(κ.ρ r).ownBlock) hgr (λg hg=>⟨hg,by rw [hx];rfl⟩) hown' hcells2 (λg hg=>(hret hrt g hg).imp (λe=>⟨e,e⟩) id)
         exact ⟨u,_,_,_,rfl,hK,hR2,by show u=(if r=r then u else _)∧_;rw [if_pos rfl];exact ⟨rfl,q65 hown'⟩⟩
     ·exact h.elim
    ·exact h.elim
   ·exact h.elim
  ·split at h
   ·
    rename_i c hc;obtain ⟨hmem,rfl⟩:=fOf_spec hc;unfold vFn at h;split at h
    ·rename_i p b hp hb
     obtain ⟨hpre,hK⟩:=h;obtain ⟨hfn,hcall⟩:=hfs c hmem;refine ⟨hfn,?_⟩;have hfa:=q9t hR hb (hvs.dropN c.args.length);obtain ⟨κ1,hR1,hS1,hβ1,hx1⟩:=Rel.lendAll (q64 xs) hR (hvs.takeN c.args.length);obtain ⟨e1,e2⟩:=q98 _ _ hx1;have hargs:=q7e (κ:=κ1) (w:=w) c.args _ p hp _ e1 e2;have hfa1:c.fa.Rep κ1.S w b (vs.drop c.args.length):=qjj hR hb (hvs.dropN c.args.length) hR1 hS1 hβ1;have hcl:=hcall p b (vs.take c.args.length) (vs.drop c.args.length) w κ1.S hR1.bound hpre (q5o (κ:=κ1) (κ':=Cx.of κ1.S) c.args p rfl hargs) hfa1;rw [← qf1 hvs c.args.length] at hcl;refine hcl.mono ?_;rintro en w' ⟨hbel,u,rfl,hres⟩;left;have hret:retAV (q12 c.res (c.F p b))=q1m c.res (c.F p b):=rfl;cases hfl:c.res.all CK.q99
     ·rw [hfl] at hK
      refine ⟨u,_,{ κ1 with S:=λg=>κ1.S g∨(w.heap.size≤g∧g<w'.heap.size) },_,rfl,hK,hR1.later hbel,?_⟩
      rw [hret];exact qao (κ:=Cx.of λg=>κ1.S g∨(w.heap.size≤g∧g<w'.heap.size)) (κ':={ κ1 with S:=λg=>κ1.S g∨(w.heap.size≤g∧g<w'.heap.size) }) c.res _ rfl hres
     ·rw [hfl] at hK
      refine ⟨u,_,_,_,rfl,hK,hR.later hbel,?_⟩;rw [hret];exact qk6 hfl hres
    ·exact h.elim
   ·exact hB w0 hag f hf0 xs off st K KP κ a w vs h hR hvs
theorem xInl_yld {C:Nat→Option (Code×Code)} {ns:List NCon} {os:List OCon} {fs:List FCon} {B:Inl} (hB:q53 P C B):q53 P C (xInl ns os fs B):=by
 intro w0 hag j xs off st K KP κ a w vs h;have hj:QJ (1000000000+j) 1000000000=false:=Bool.eq_false_iff.mpr λe=>by rw [Nat.blt_eq] at e;omega
 have h:(bif QJ (1000000000+j) 1000000000 then _ else B (1000000000+j) xs off st K KP):=h
 rw [hj] at h;exact hB w0 hag j xs off st K KP κ a w vs h
end
end R
namespace R
structure Kit where
 cons:List Con:=[]
 ns:List NCon:=[]
 os:List OCon:=[]
 fcs:List FCon:=[]
 rcs:List RCon:=[]
 inls:List (Nat×Func):=[]
structure Kit.Ok (P:Program) (T:Kit):Prop where
 cons:∀ c∈T.cons,c.Holds P
 ns:∀ c∈T.ns,c.Holds P
 os:∀ c∈T.os,c.Holds P
 fcs:∀ c∈T.fcs,c.Holds P
 rcs:∀ c∈T.rcs,c.Holds P
 inls:q0l P T.inls
def Kit.base (T:Kit):Inl:=xInl T.ns T.os T.fcs (refInl T.rcs)
noncomputable def vcOfX (P:Program) (T:Kit) (annsI:Nat→List (Nat×Ann)) (anns:List (Nat×Ann)) (c:Con) (fn:Func) (p:Pays c.args):Prop:=vcOfH P T.cons (inlOf P T.cons T.inls annsI 8) T.base anns c fn p
theorem holdsX {P : Program} {T : Kit} {f : FuncId} {args res : List CK} {pre : Pays args → Prop} {F : Pays args → Pays res} {fn : Func} (annsI : Pays args → Nat → List (Nat × Ann)) (hf : P.funcs[f]? = some fn) (hb : fn.body.isSome = true) (hname : (fn.name == "runtime.NumGoroutine") = false) (hm : P.follows .mixedOrders = true)
  (hargs:Nat.ble args.length fn.ntmps=true) (hT:T.Ok P) (anns:Pays args→List (Nat×Ann)) (H:∀ p,pre p→vcOfX P T (annsI p) (anns p) (Con.of f args res pre F) fn p):(Con.of f args res pre F).Holds P :=
 holdsH (Con.of f args res pre F) (HH:=λp=>inlOf P T.cons T.inls (annsI p) 8) hf hb hname hm hargs hT.cons (λp=>inlOf_ok hm hT.cons hT.inls (annsI p) 8) (xInl_ok hT.ns hT.os hT.fcs (refInl_ok hT.rcs)) (xInl_yld refInl_yld) anns (λF' h p r hr=>by injection h with h;subst h;exact hr) H
theorem all_nil {α:Type} {p:α→Prop}:∀ c∈([]:List α),p c:=λc h=>by cases h
theorem all_cons {α:Type} {p:α→Prop} {x:α} {l:List α} (h:p x) (hl:∀ c∈l,p c):∀ c∈x::l,p c:=λc hc=>by
 rcases QF.1 hc with rfl | hc
 ·exact h
 ·exact hl c hc
end R
open R
abbrev kPt:Kds:=.cons (.int .i64) (.one (.int .i64))
abbrev ckPt:CK:=.agg kPt
abbrev kGiv:Kds:=.cons .str (.cons (.sl (.one (.int .i64))) (.cons .bool (.cons (.int .i64) (.one (.int .i64)))))
abbrev q5i:CK:=.agg kGiv
abbrev q7s:CK:=.one (.sl kGiv)
abbrev q6u:CK:=.agg (.cons (.int .i64) (.cons (.int .i64) (.cons (.int .i64) (.cons (.int .i64) (.cons (.int .i64) (.one (.int .i64)))))))
abbrev q2p:CK:=.one .bool
abbrev q57:CK:=.one (.int .i64)
abbrev ckStr1:CK:=.one .str
def cOn:Con:=.of 30 [ckPt] [q2p] (λ_=>True) Cod.onB
def cOnL:Con:=.of 81 [.one (.sl kPt)] [q2p] (λl=>Q7 l≤1000) (λl=>List.all l Cod.onB)
def anOnL (l:List (Int×Int)):List (Nat×Ann) :=
 [ann 0 Nat [0,5,6] (λk=>[(7,R.int .i64 k)]) (λk=>k≤l.length∧(l.take k).all Cod.onB=true) (λk=>l.length-k)]
def cFrom:Con:=.of 82 [ckPt,ckPt] [ckPt] (λp=>Cod.onB p.1=true∧Cod.onB p.2=true) (λp=>(p.2.1-p.1.1,p.2.2-p.1.2))
def cAlong:Con:=.of 83 [ckPt,ckPt] [q57] (λp=>(-32767≤p.1.1∧p.1.1≤32767)∧(-32767≤p.1.2∧p.1.2≤32767)∧(-32767≤p.2.1∧p.2.1≤32767)∧(-32767≤p.2.2∧p.2.2≤32767)) (λp=>p.1.1*p.2.1+p.1.2*p.2.2)
def cDist:Con:=.of 32 [ckPt,ckPt] [q57] (λ_=>True) (λp=>Cod.q5g p.1 p.2)
def cNearG:Con:=.of 105 [q5i,q5i] [q2p] (λ_=>True) (λp=>Cod.q0o p.1 p.2)
def cPlaced:Con:=.of 51 [q5i] [q2p] (λ_=>True) Cod.q1g
def qil:Con:=.of 50 [ckStr1] [q2p] (λs=>Q7 s≤1000) Lx.q0v
def q8l:Con:=.of 20 [ckWl,q2h] [q2p] (λp=>q0j p.1∧Q7 p.2≤1000000) (λp=>Cod.q0q p.1.1 p.1.2 p.2)
def cKey:Con:=.of 103 [q2h] [q6u] (λ_=>True) Cod.key
noncomputable def kitCV:Kit:={ cons:=[qeh],inls:=[(63,Tryz.f63),(111,Tryz.f111),(61,Tryz.f61)] }
def anIdx (n:Nat) (code:List Int):Nat→List (Nat×Ann):=λf=>bif Qz f 111 then
 [ann 0 Nat [0,1,7] (λk=>[(8,R.int .i64 k)]) (λk=>k≤code.length∧Cod.inB n (code.take k)=true) (λk=>code.length-k)] else []
end Go.Proofs.YtlfaaoalgcbcoaaGreatDoor
namespace Go.Proofs.YtlfaaoalgcbcoaaGreatDoor
namespace Lx
theorem qmk {p:UInt8→Bool} {c:UInt8} {l:List UInt8} (h:p c=true):span p (c::l)=span p l+1:=by simp [span,h]
theorem span_stop' {p:UInt8→Bool} {c:UInt8} {l:List UInt8} (h:p c=false):span p (c::l)=0:=by simp [span,h]
inductive LexOk:Nat→List UInt8→List Tok→Prop
 | done (off:Nat) (l:List UInt8) (h:l.drop (gap l)=[]):LexOk off l []
 | tok (off:Nat) (l:List UInt8) (ts:List Tok) (h:l.drop (gap l)≠[]) (he:(scan (l.drop (gap l))).err=0)
   (hr:LexOk (off+gap l+(scan (l.drop (gap l))).width) (l.drop (gap l+(scan (l.drop (gap l))).width)) ts):LexOk off l ((scan (l.drop (gap l))).tok (off+gap l)::ts)
inductive LexErr:Nat→List UInt8→Int→Nat→Prop
 | here (off:Nat) (l:List UInt8) (h:l.drop (gap l)≠[]) (he:(scan (l.drop (gap l))).err≠0):LexErr off l (scan (l.drop (gap l))).err (off+gap l)
 | later (off:Nat) (l:List UInt8) (e:Int) (a:Nat) (h:l.drop (gap l)≠[]) (he:(scan (l.drop (gap l))).err=0)
   (hr:LexErr (off+gap l+(scan (l.drop (gap l))).width) (l.drop (gap l+(scan (l.drop (gap l))).width)) e a):LexErr off l e a
theorem LexOk.det {off:Nat} {l:List UInt8} {ts ts':List Tok} (h:LexOk off l ts) (h':LexOk off l ts'):ts=ts':=by
 induction h generalizing ts' with
 | done off l h=>cases h' with
  | done=>rfl
  | tok _ _ _ h2=>exact absurd h h2
 | tok off l ts h he hr ih=>cases h' with
  | done _ _ h2=>exact absurd h2 h
  | tok _ _ ts2 h2 he2 hr2=>rw [ih hr2]
theorem LexOk.not_err {off:Nat} {l:List UInt8} {ts:List Tok} (h:LexOk off l ts) {e:Int} {a:Nat} (h':LexErr off l e a):False:=by
 induction h with
 | done off l h=>cases h' with
  | here _ _ h2=>exact h2 h
  | later _ _ _ _ h2=>exact h2 h
 | tok off l ts h he hr ih=>cases h' with
  | here _ _ h2 he2=>exact he2 he
  | later _ _ _ _ h2 he2 hr2=>exact ih hr2
theorem qd0 (l:List UInt8):gap (l.drop (gap l))=0:=by
 have H:∀ (l:List UInt8) (b:Bool),gap (l.drop (gapc b l))=0:=by
  intro l
  induction l with
  | nil=>intro b;cases b <;> rfl
  | cons c r ih =>
   intro b;cases b
   ·simp only [gapc]
    split
    ·exact ih false
    ·split
     ·exact ih true
     ·rename_i h1 h2
      have h1':q2x c=false:=by simpa using h1
      have h2':(c==35)=false:=by simpa using h2
      simp only [Qi,gap,gapc,h1',h2',Qg,if_false]
   ·simp only [gapc]
    split
    ·exact ih false
    ·exact ih true
 exact H l false
theorem width_pos {l:List UInt8} (h:(scan l).err=0):1≤(scan l).width:=(qg5 l h).1
theorem width_le {l:List UInt8} (h:(scan l).err=0):(scan l).width≤l.length:=(qg5 l h).2
theorem lexAt_spec (f:Nat):∀ (out:List Tok) (off:Nat) (l:List UInt8),gap l=0→l.length<f→out.length+l.length≤5000 →
  (∃ ts,LexOk off l ts∧q6s f out off l=(out++ts,0,0))∨(∃ e a,LexErr off l e a∧q6s f out off l=([],e,(a:Int))):=by
 induction f with
 | zero=>intro out off l _ h;omega
 | succ f ih =>
  intro out off l hg hf ho;cases l with
  | nil=>exact .inl ⟨[],.done _ _ (by simp),by rw [lexAt_nil];simp⟩
  | cons c r =>
   have hd:(c::r).drop (gap (c::r))=c::r:=by rw [hg];rfl
   by_cases he:(scan (c::r)).err=0
   ·have hlen:(c::r).length=r.length+1:=rfl
    have hne:out.length≠5000:=by omega
    rw [lexAt_tok f out off c r he hne];have hw:=width_pos he;have hw2:=width_le he;have hg2:=gap_le ((c::r).drop (scan (c::r)).width);rw [Q4] at hg2;have key:=ih (out++[(scan (c::r)).tok off]) (off+(scan (c::r)).width+gap ((c::r).drop (scan (c::r)).width)) (((c::r).drop (scan (c::r)).width).drop (gap ((c::r).drop (scan (c::r)).width)))
     (qd0 _) (by rw [Q4,Q4];omega) (by rw [List.length_append,Q4,Q4];simp only [List.length_singleton];omega)
    have back:∀ (o:Nat) (m:List UInt8),(∀ ts,LexOk (o+gap m) (m.drop (gap m)) ts→LexOk o m ts)∧(∀ e a,LexErr (o+gap m) (m.drop (gap m)) e a→LexErr o m e a):=by
     intro o m;have hz:=qd0 m;have hdd:(m.drop (gap m)).drop (gap (m.drop (gap m)))=m.drop (gap m):=by rw [hz];rfl
     refine ⟨λts h=>?_,λe a h=>?_⟩
     ·cases h with
      | done _ _ h=>exact .done _ _ (by rwa [hdd] at h)
      | tok _ _ ts h he hr =>
       rw [hdd] at h he;rw [hdd,hz,Ql,Qf,Qe] at hr;rw [hdd,hz,Qf];exact .tok _ _ _ h he hr
     ·cases h with
      | here _ _ h he =>
       rw [hdd] at h he;rw [hdd,hz,Qf];exact .here _ _ h he
      | later _ _ _ _ h he hr =>
       rw [hdd] at h he;rw [hdd,hz,Ql,Qf,Qe] at hr;exact .later _ _ _ _ h he hr
    have hb:=back (off+(scan (c::r)).width) ((c::r).drop (scan (c::r)).width);have hne0:(c::r).drop (gap (c::r))≠[]:=by rw [hd];simp
    have he0:(scan ((c::r).drop (gap (c::r)))).err=0:=by rw [hd];exact he
    rcases key with ⟨ts,h1,h2⟩ | ⟨e,a,h1,h2⟩
    ·left
     refine ⟨(scan (c::r)).tok off::ts,?_,by rw [h2];simp⟩
     have h3:=LexOk.tok off (c::r) ts hne0 he0 (by rw [hd,hg];simpa using hb.1 ts h1)
     rw [hd,hg] at h3;exact h3
    ·right
     exact ⟨e,a,LexErr.later off (c::r) e a hne0 he0 (by rw [hd,hg];simpa using hb.2 e a h1),h2⟩
   ·right
    rw [lexAt_err f out off c r he];refine ⟨_,_,?_,rfl⟩;have h3:=LexErr.here off (c::r) (by rw [hd];simp) (by rw [hd];exact he)
    rw [hd,hg] at h3;exact h3
theorem LexOk.back {o:Nat} {m:List UInt8} {ts:List Tok} (h:LexOk (o+gap m) (m.drop (gap m)) ts):LexOk o m ts:=by
 have hz:=qd0 m;have hdd:(m.drop (gap m)).drop (gap (m.drop (gap m)))=m.drop (gap m):=by rw [hz];rfl
 cases h with
 | done _ _ h=>exact .done _ _ (by rwa [hdd] at h)
 | tok _ _ ts h he hr =>
  rw [hdd] at h he;rw [hdd,hz,Ql,Qf,Qe] at hr;rw [hdd,hz,Qf];exact .tok _ _ _ h he hr
theorem LexErr.back {o:Nat} {m:List UInt8} {e:Int} {a:Nat} (h:LexErr (o+gap m) (m.drop (gap m)) e a):LexErr o m e a:=by
 have hz:=qd0 m;have hdd:(m.drop (gap m)).drop (gap (m.drop (gap m)))=m.drop (gap m):=by rw [hz];rfl
 cases h with
 | here _ _ h he =>
  rw [hdd] at h he;rw [hdd,hz,Qf];exact .here _ _ h he
 | later _ _ _ _ h he hr =>
  rw [hdd] at h he;rw [hdd,hz,Ql,Qf,Qe] at hr;exact .later _ _ _ _ h he hr
theorem lex_small (l:List UInt8) (h:l.length≤5000):(∃ ts,LexOk 0 l ts∧lex l=(ts,0,0))∨(∃ e a,LexErr 0 l e a∧lex l=([],e,(a:Int))):=by
 unfold lex;rw [if_neg (by omega)]
 have hg:=gap_le l;rcases lexAt_spec (l.length+1) [] (gap l) (l.drop (gap l)) (qd0 l) (by rw [Q4];omega) (by rw [Q4];simp;omega) with ⟨ts,h1,h2⟩ | ⟨e,a,h1,h2⟩
 ·exact .inl ⟨ts,LexOk.back (by rw [Ql];exact h1),by rw [h2];rfl⟩
 ·exact .inr ⟨e,a,LexErr.back (by rw [Ql];exact h1),h2⟩
theorem lex_ok {l:List UInt8} (h:l.length≤5000) {ts:List Tok} (hl:LexOk 0 l ts):lex l=(ts,0,0):=by
 rcases lex_small l h with ⟨ts',h1,h2⟩ | ⟨e,a,h1,_⟩
 ·rw [h2,hl.det h1]
 ·exact (hl.not_err h1).elim
end Lx
namespace Lx
theorem letter_gap (c:UInt8) (r:List UInt8) (h:q1h c=true):gap (c::r)=0:=by
 have H:∀ c:Fin 256,q1h (Qk c.val)=true→q2x (Qk c.val)=false∧(Qk c.val==35)=false:=by decide +kernel
 have h1:=H ⟨c.toNat,Qs c⟩;simp only [UInt8.ofNat_toNat] at h1;obtain ⟨h1,h2⟩:=h1 h;simp only [gap,gapc,h1,h2,Qg,if_false]
theorem span_whole (p:UInt8→Bool) (q:List UInt8) (hq:∀ b∈q,p b=true):span p q=q.length:=by
 induction q with
 | nil=>rfl
 | cons a q ih=>rw [qmk (hq a (by simp)),ih (λb hb=>hq b (by simp [hb]))];rfl
theorem qmw (p:UInt8→Bool) (q:List UInt8) (h:span p q=q.length):∀ b∈q,p b=true:=by
 induction q with
 | nil=>simp
 | cons a q ih =>
  intro b hb;cases ha:p a
  ·rw [span_stop' ha] at h;simp at h
  ·rw [qmk ha] at h
   rcases QF.1 hb with rfl | hb
   ·exact ha
   ·exact ih (by simpa using h) b hb
theorem scan_kind1 (l:List UInt8) (he:(scan l).err=0) (hk:(scan l).kind=1):∃ c r,l=c::r∧q1h c=true∧span isWord r+1≤24∧(scan l).text=(c::r).take (span isWord r+1)∧(scan l).width=span isWord r+1:=by
 cases l with
 | nil=>cases he
 | cons c r =>
  cases h1:q1h c
  ·exfalso
   rw [scan,if_neg (by rw [h1];decide)] at he hk
   split at hk
   ·simp only [] at hk
    split at hk <;> cases hk
   ·split at hk
    ·simp only [] at hk
     split at hk
     ·split at hk <;> cases hk
     ·cases hk
    ·split at hk
     ·cases hk
     ·split at hk <;> cases hk
  ·rw [scan,if_pos h1] at he ⊢
   simp only [] at he ⊢;by_cases h24:24<span isWord r+1
   ·rw [if_pos h24] at he;cases he
   ·rw [if_neg h24] at he ⊢
    exact ⟨c,r,rfl,h1,by omega,rfl,rfl⟩
theorem lex_name (s:List UInt8) (hs:s.length≤5000) (hn:q0v s=true):lex s=([⟨1,0,0,s⟩],0,0):=by
 unfold q0v at hn;rw [Q6,Q6,Q6,decide_eq_true_eq,decide_eq_true_eq,QH] at hn;obtain ⟨⟨h1,h2,h3⟩,h4⟩:=hn;cases s with
 | nil=>cases h4
 | cons c r =>
  simp only [] at h4;have hg:=letter_gap c r h4;have hsp:=span_whole isWord r (λb hb=>h1 b (by simp [hb]))
  have hsc:scan (c::r)=⟨0,1,0,c::r,(c::r).length⟩:=by
   rw [scan,if_pos h4];simp only [];rw [hsp,if_neg (by rw [Q9] at h3;omega),Q9,show r.length+1=(c::r).length from rfl,List.take_length]
  have hok:LexOk 0 (c::r) [⟨1,(0:Nat),0,c::r⟩]:=by
   have h:=LexOk.tok 0 (c::r) [] (by rw [hg];simp) (by rw [hg,Qi,hsc]) (by
    rw [hg,Qi,hsc];exact LexOk.done _ _ (by simp))
   rw [hg,Qi,hsc] at h;exact h
  exact lex_ok hs hok
theorem name_lex (s:List UInt8) (hs:s.length≤5000) {t:Tok} {e a:Int} (h:lex s=([t],e,a)) (he:e=0) (hk:t.kind=1) (ht:t.text=s):q0v s=true:=by
 rcases lex_small s hs with ⟨ts,h1,h2⟩ | ⟨e',a',h1,h2⟩
 ·rw [h2] at h
  simp only [Prod.mk.injEq] at h;obtain ⟨rfl,_,_⟩:=h;cases h1 with
  | tok _ _ _ hne he' hr =>
   have hk':(scan (s.drop (gap s))).kind=1:=hk;have ht':(scan (s.drop (gap s))).text=s:=ht;obtain ⟨c,r,hd,hl,h24,h5,h6⟩:=scan_kind1 _ he' hk';rw [h5] at ht';have hlen:=congrArg Q7 ht';rw [Qx] at hlen;have hdl:=congrArg Q7 hd;rw [Q4] at hdl;have hg:gap s=0:=by
    have:=gap_le s
    have:(c::r).length≤s.length:=by omega
    omega
   rw [hg,Qi] at hd;have hsl:=qfp isWord r;have hsp:span isWord r=r.length:=by
    rw [hd,Q9] at hlen;omega
   have hall:=qmw isWord r hsp;have hlw:isWord c=true:=by unfold isWord;rw [hl];rfl
   rw [hd];unfold q0v;rw [Q6,Q6,Q6,decide_eq_true_eq,decide_eq_true_eq,QH];refine ⟨⟨?_,by simp,?_⟩,hl⟩
   ·intro b hb
    rcases QF.1 hb with rfl | hb
    ·exact hlw
    ·exact hall b hb
   ·rw [Q9];omega
 ·rw [h2] at h
  simp at h
end Lx
open Go.RowKit R
set_option maxRecDepth 100000 in
theorem fewC_vc (c:CfP) (h:cFewC.pre c) :
    (∃ (p':Nat),(p'≤(30:Nat)∧p'≤Q7 c∧((Qa p' c).all λ(x:List UInt8×List UInt8)=>decide (x.fst.length≤(100:Nat))&&decide (x.snd.length≤(100:Nat)))
    = true)∧((0:Int)=(p':Int)∧c=c∧True)∧True∧True∧True∧True∧True∧True∧True∧True∧True)∧∀ (p:Nat),p≤(30:Nat)∧p≤Q7 c∧((Qa p c).all
    λ(x:List UInt8×List UInt8)=>decide (x.fst.length≤(100:Nat))&&decide (x.snd.length≤(100:Nat)))=true→bif decide ((p:Int)<(↑(Q7 c):Int)) then bif decide
    ((p:Int)<(30:Int)) then ((0:Int)≤(p:Int)∧(p:Int)<(↑(Q7 c):Int))∧bif decide ((100:Int)<(↑(List.getD c (p:Int).toNat ([],[])).fst.length:Int)) then
    false=q7c c else ((0:Int)≤(p:Int)∧(p:Int)<(↑(Q7 c):Int))∧bif decide ((100:Int)<(↑(List.getD c (p:Int).toNat ([],[])).snd.length:Int)) then false =
    q7c c else ((-9223372036854775808:Int)≤(p:Int)+(1:Int)∧(p:Int)+(1:Int)≤(9223372036854775807:Int))∧∃ (p':Nat),(p'≤(30:Nat)∧p'≤Q7 c ∧
    ((Qa p' c).all λ(x:List UInt8×List UInt8)=>decide (x.fst.length≤(100:Nat))&&decide (x.snd.length≤(100:Nat)))=true)∧Q7 c-p'<Q7 c-p∧((↑p
    : Int)+(1:Int)=(p':Int)∧c=c∧True)∧True∧True∧True∧True∧True∧True∧True∧True∧True else decide ((↑(Q7 c):Int)≤(30:Int))=q7c c else decide
    ((↑(Q7 c):Int)≤(30:Int))=q7c c
     := by
  simp only [and_true];refine ⟨⟨0,⟨Qh _,Qh _,rfl⟩,rfl⟩,?_⟩;rintro p ⟨h30,hp,ha⟩;have hti:((p:Int).toNat)=p:=rfl;simp only [hti];have no:p<c.length→(decide ((c.getD p ([],[])).1.length≤100)&&decide ((c.getD p ([],[])).2.length≤100))=false→false=q7c c:=λhl hf=>by
    unfold q7c;rw [Snd.q6h c ([],[]) _ p hl hf,Qc]
  refine bifP (λhb=>?_) λhb=>?_
  · have hlt:p<c.length:=by have:=of_decide_eq_true hb;omega
    refine bifP (λhb=>?_) λhb=>?_
    · have h3:p<30:=by have:=of_decide_eq_true hb;omega
      refine ⟨⟨by omega,by omega⟩,bifP (λhb=>no hlt ?_) λh1=>⟨⟨by omega,by omega⟩,bifP (λhb=>no hlt ?_) λh2=>⟨⟨by omega,by omega⟩,p+1,⟨by omega,by omega,?_⟩,by omega,by omega⟩⟩⟩
      · rw [decide_eq_false (by have:=of_decide_eq_true hb;omega)];rfl
      · rw [decide_eq_false (p:=(c.getD p ([],[])).2.length≤100) (by have:=of_decide_eq_true hb;omega),Qc]
      · rw [Snd.q4t c ([],[]) _ p hlt,ha,decide_eq_true (by have:=of_decide_eq_false h1;omega),decide_eq_true (by have:=of_decide_eq_false h2;omega)];rfl
    · have h3:¬ c.length≤30:=by have:=of_decide_eq_false hb;omega
      unfold q7c;rw [decide_eq_false h3,decide_eq_false (by omega)];rfl
  · have hle:c.length≤p:=by have:=of_decide_eq_false hb;omega
    rw [Snd.q7f c _ p hle] at ha;unfold q7c;rw [ha,Qj];exact decide_eq_decide.2 (by omega)
set_option maxRecDepth 100000 in
theorem fewW_vc (lang:List UInt8) (ws:List (List UInt8)) (h:cFewW.pre (lang,ws)) :
    (∃ (p':Nat),(p'≤(40:Nat)∧p'≤ws.length∧((Qa p' ws).all λ(s:List UInt8)=>decide (s.length≤(100:Nat)))=true)∧((0:Int)=(p':Int)∧True∧True)∧((lang
    = lang∧ws=ws∧True)∧True)∧True∧True∧True∧True∧True∧True∧True∧True)∧∀ (p:Nat),p≤(40:Nat)∧p≤ws.length∧((Qa p ws).all λ(s:List UInt8)=>decide
    (s.length≤(100:Nat)))=true→bif decide ((p:Int)<(ws.length:Int)) then bif decide ((p:Int)<(40:Int)) then ((0:Int)≤(p:Int)∧(p:Int)<(ws.length:Int)) ∧
    bif decide ((100:Int)<(↑(ws.getD (p:Int).toNat []).length:Int)) then false=q82 (lang,ws) else ((-9223372036854775808:Int)≤(p:Int)+(1:Int)∧(p:Int)+(1:Int) ≤
    (9223372036854775807:Int))∧∃ (p':Nat),(p'≤(40:Nat)∧p'≤ws.length∧((Qa p' ws).all λ(s:List UInt8)=>decide (s.length≤(100:Nat)))=true)∧ws.length-p' <
    ws.length-p∧((p:Int)+(1:Int)=(p':Int)∧True∧True)∧((lang=lang∧ws=ws∧True)∧True)∧True∧True∧True∧True∧True∧True∧True∧True else bif decide
    ((ws.length:Int)≤(40:Int)) then decide ((lang.length:Int)≤(100:Int))=q82 (lang,ws) else false=q82 (lang,ws) else bif decide ((ws.length:Int)≤(40:Int)) then
    decide ((lang.length:Int)≤(100:Int))=q82 (lang,ws) else false=q82 (lang,ws)
     := by
  simp only [and_true];refine ⟨⟨0,⟨Qh _,Qh _,rfl⟩,rfl⟩,?_⟩;rintro p ⟨h40,hp,ha⟩;have hti:((p:Int).toNat)=p:=rfl;simp only [hti];have fin:∀ (hle:ws.length≤p∨40<ws.length),bif decide ((ws.length:Int)≤40) then decide ((lang.length:Int)≤100)=q82 (lang,ws) else false=q82 (lang,ws):=λhle=>by
    refine bifP (λhb=>?_) λhb=>?_
    · have h1:ws.length≤40:=by have:=of_decide_eq_true hb;omega
      have hle:ws.length≤p:=by omega
      rw [Snd.q7f ws _ p hle] at ha;show _=(decide (ws.length≤40)&&(decide (lang.length≤100)&&ws.all _));rw [ha,decide_eq_true h1,Qj,Qd];exact decide_eq_decide.2 (by omega)
    · have h1:¬ ws.length≤40:=by have:=of_decide_eq_false hb;omega
      show _=(decide (ws.length≤40)&&(decide (lang.length≤100)&&ws.all _));rw [decide_eq_false h1];rfl
  refine bifP (λhb=>?_) λhb=>fin (.inl (by have:=of_decide_eq_false hb;omega))
  have hlt:p<ws.length:=by have:=of_decide_eq_true hb;omega
  refine bifP (λhb=>?_) λhb=>fin (.inr (by have:=of_decide_eq_false hb;omega))
  have h4:p<40:=by have:=of_decide_eq_true hb;omega
  refine ⟨⟨by omega,by omega⟩,bifP (λhb=>?_) λh1=>⟨⟨by omega,by omega⟩,p+1,⟨by omega,by omega,?_⟩,by omega,by omega⟩⟩
  · show _=(decide (ws.length≤40)&&(decide (lang.length≤100)&&ws.all _))
    rw [Snd.q6h ws [] _ p hlt (decide_eq_false (by have:=of_decide_eq_true hb;omega)),Qc,Qc]
  · rw [Snd.q4t ws [] _ p hlt,ha,decide_eq_true (by have:=of_decide_eq_false h1;omega)];rfl
abbrev qiv (p':Nat) (ws:List (List UInt8)):Prop :=
 (p'≤ws.length∧((Qa p' ws).all λ(s:List UInt8)=>Snd.q0b s (3:Int) (8:Int))=true∧Snd.rising (Qa p' ws)=true)
set_option maxRecDepth 100000 in
theorem valid_vc (lang:List UInt8) (ws:List (List UInt8)) (h:qeh.pre (lang,ws)) :
  lang.length≤(1000:Nat)∧bif (Lx.lex lang).snd.fst != (0:Int) then false=Snd.q0c lang ws else bif (↑(QC tokP (Lx.lex lang).fst).length:Int) != (1:Int) then false=Snd.q0c lang ws else ((0:Int)≤0∧(0:Int)<(↑(QC tokP (Lx.lex lang).fst).length:Int))∧bif ((QC tokP (Lx.lex lang).fst).getD (QK (0:Int)) ((0:Int),(0:Int),(0:Int),[])).fst != (1:Int) then false=Snd.q0c lang ws else ((0:Int)≤0∧(0:Int)<(↑(QC tokP (Lx.lex lang).fst).length:Int))∧bif !((QC tokP (Lx.lex lang).fst).getD (QK (0:Int)) ((0:Int),(0:Int),(0:Int),[])).snd.snd.snd==lang then false=Snd.q0c lang ws else (∃ (p':Nat),(qiv p' ws)∧((0:Int)=(p':Int)∧True∧ws=ws∧zE (ws.length:Int)∧True)∧((zE lang∧ws=ws∧True)∧True)∧zT8)∧∀ (p:Nat),p≤ws.length∧((Qa p ws).all λ(s:List UInt8)=>Snd.q0b s (3:Int) (8:Int))=true∧Snd.rising (Qa p ws)=true→bif decide ((p:Int)<(ws.length:Int)) then (0≤(p:Int)∧(p:Int)<(ws.length:Int))∧(ws.getD (p:Int).toNat []).length≤(1000000:Nat)∧bif !Snd.q0b (ws.getD (p:Int).toNat []) (3:Int) (8:Int) then false=Snd.q0c lang ws else bif decide (0<(p:Int)) then (zFit ((p:Int)-1))∧(0≤(p:Int)-1∧(p:Int)-1<(ws.length:Int))∧bif !Op.bytesLess (ws.getD ((p:Int)-1).toNat []) (ws.getD (p:Int).toNat []) then false=Snd.q0c lang ws else (zFit ((p:Int)+1))∧∃ (p':Nat),(qiv p' ws)∧ws.length-p'<ws.length-p∧((p:Int)+1=(p':Int)∧True∧ws=ws∧zE (ws.length:Int)∧True)∧((zE lang∧ws=ws∧True)∧True)∧zT8 else (zFit ((p:Int)+1))∧∃ (p':Nat),(qiv p' ws)∧ws.length-p'<ws.length-p∧((p:Int)+1=(p':Int)∧True∧ws=ws∧zE (ws.length:Int)∧True)∧((zE lang∧ws=ws∧True)∧True)∧zT8 else bif decide (1≤(ws.length:Int)) then decide ((ws.length:Int)≤4096)=Snd.q0c lang ws else false=Snd.q0c lang ws:=by
 delta qiv zFit zE zT8
 obtain ⟨h1000,hn,hws⟩:=h;have h1000:lang.length≤1000:=h1000;have hn:ws.length≤1000000:=hn;have hyes:=Lx.lex_name lang (by omega)
 have hno:∀ (t:Lx.Tok) (e a:Int),Lx.lex lang=([t],e,a)→e=0→t.kind=1→t.text=lang→Lx.q0v lang=true:=λt e a=>Lx.name_lex lang (by omega)
 have bad:Lx.q0v lang=false→false=Snd.q0c lang ws:=λh=>by unfold Snd.q0c;rw [h];rfl
 have nam:(Lx.q0v lang=true→False)→Lx.q0v lang=false:=λh=>by cases hh:Lx.q0v lang;rfl;exact absurd hh (λe=>h e)
 simp only [and_true];generalize Lx.lex lang=L at *
 obtain ⟨l,er,a⟩:=L;refine ⟨h1000,bifP (λhb=>bad (nam λhh=>?_)) λhe=>bifP (λhb=>bad (nam λhh=>?_)) λhl=>?_⟩
 ·have:=hyes hh
  simp at this;exact (bne_iff_ne.1 hb) this.2.1
 ·have:=hyes hh
  simp at this;rw [this.1] at hb;simp at hb
 obtain ⟨t,rfl⟩:∃ t,l=[t]:=by
  have:((l.map tokP).length:Int)=1:=bne_eq_false_iff_eq.1 hl
  rw [QI] at this;exact Qy.1 (by omega)
 have he:er=0:=bne_eq_false_iff_eq.1 he;refine ⟨⟨by omega,by show (0:Int)<1;omega⟩,bifP (λhb=>bad (nam λhh=>?_)) λhk=>⟨⟨by omega,by show (0:Int)<1;omega⟩,bifP (λhb=>bad (nam λhh=>?_)) λht=>?_⟩⟩
 ·have:=hyes hh
  simp at this;have hb:t.kind≠1:=bne_iff_ne.1 hb;exact hb (by rw [this.1])
 ·have:=hyes hh
  simp at this;have hb:(!(t.text==lang))=true:=hb;have hb:(t.text==lang)=false:=by simpa using hb
  exact (beq_eq_false_iff_ne.1 hb) (by rw [this.1])
 have hk:t.kind=1:=bne_eq_false_iff_eq.1 hk;have ht:t.text=lang:=by
  have:(!(t.text==lang))=false:=ht
  simpa using this
 have hname:=hno t er a rfl he hk ht;have vno:(1≤ws.length→ws.length≤4096→(ws.all λs=>Snd.q0b s 3 8)=true→Snd.rising ws=true→False)→false=Snd.q0c lang ws:=λh=>by
  symm
  unfold Snd.q0c;rw [← Bool.not_eq_true];intro hh;simp only [Q6,decide_eq_true_eq] at hh;exact h hh.2.1 hh.2.2.1 hh.2.2.2.1 hh.2.2.2.2
 refine ⟨⟨0,⟨Qh _,rfl,rfl⟩,rfl⟩,?_⟩;rintro p ⟨hp,ha,hr⟩;have hti:((p:Int).toNat)=p:=rfl;simp only [hti];refine bifP (λhb=>?_) λhb=>?_
 ·have hlt:p<ws.length:=by have:=of_decide_eq_true hb;omega
  refine ⟨⟨by omega,by omega⟩,hws _ (Snd.q1n ws [] p hlt),bifP (λhb=>vno λ_ _ h3 _=>?_) λh1=>?_⟩
  ·rw [Snd.q6h ws [] _ p hlt (by simpa using hb)] at h3;cases h3
  have h1:Snd.q0b (ws.getD p []) 3 8=true:=by simpa using h1
  have hall:(ws.take (p+1)).all (λs=>Snd.q0b s 3 8)=true:=by rw [Snd.q4t ws [] _ p hlt,ha,h1];rfl
  refine bifP (λhb=>?_) λhb=>?_
  ·have h0:0<p:=by have:=of_decide_eq_true hb;omega
   have hpm:((p:Int)-1).toNat=p-1:=by omega
   rw [hpm];refine ⟨⟨by omega,by omega⟩,⟨by omega,by omega⟩,bifP (λhb=>vno λ_ _ _ h4=>?_) λh2=>⟨⟨by omega,by omega⟩,p+1,⟨by omega,hall,?_⟩,by omega,by omega⟩⟩
   ·rw [Snd.rising_no ws p hlt h0 (by simpa using hb)] at h4;cases h4
   ·rw [Snd.q5k ws p hlt,hr,show Op.bytesLess (ws.getD (p-1) []) (ws.getD p [])=true by simpa using h2];simp
  ·have h0:p=0:=by have:=of_decide_eq_false hb;omega
   refine ⟨⟨by omega,by omega⟩,p+1,⟨by omega,hall,?_⟩,by omega,by omega⟩
   rw [Snd.q5k ws p hlt,hr,h0];rfl
 ·have hle:ws.length≤p:=by have:=of_decide_eq_false hb;omega
  rw [Snd.q7f ws _ p hle] at ha;rw [Qo hle] at hr;refine bifP (λhb=>?_) λhb=>vno λh1 _ _ _=>by have:=of_decide_eq_false hb;omega
  have h1:1≤ws.length:=by have:=of_decide_eq_true hb;omega
  unfold Snd.q0c;rw [hname,ha,hr,decide_eq_true h1,Qj,Qd,Qd,Qj];exact decide_eq_decide.2 (by omega)
set_option maxRecDepth 100000 in
theorem on_vc (x y:Int) :
    True∧bif decide ((0:Int)≤min x y) then True∧decide (max x y≤(32767:Int))=Cod.onB (x,y) else false=Cod.onB (x,y)
     := by
  refine ⟨trivial,bifP (λhb=>⟨trivial,?_⟩) λhb=>?_⟩
  · show _=(decide (0≤min x y)&&_)
    rw [hb,Qd]
  · show _=(decide (0≤min x y)&&_)
    rw [hb,QA]
set_option maxRecDepth 100000 in
theorem onL_vc (l:List (Int×Int)) (h:cOnL.pre l) :
    (∃ (p':Nat),(p'≤l.length∧(Qa p' l).all Cod.onB=true)∧((0:Int)=(p':Int)∧l=l∧l=l∧(l.length:Int)=(l.length:Int)∧True)∧True∧True∧True∧True ∧
    True∧True∧True∧True∧True)∧∀ (p:Nat),p≤l.length∧(Qa p l).all Cod.onB=true→bif decide ((p:Int)<(l.length:Int)) then ((0:Int)≤(p:Int)∧(p:Int) <
    (l.length:Int))∧True∧bif !Cod.onB ((l.getD (p:Int).toNat ((0:Int),(0:Int))).fst,(l.getD (p:Int).toNat ((0:Int),(0:Int))).snd) then false=l.all Cod.onB else
    ((-9223372036854775808:Int)≤(p:Int)+(1:Int)∧(p:Int)+(1:Int)≤(9223372036854775807:Int))∧∃ (p':Nat),(p'≤l.length∧(Qa p' l).all Cod.onB=true) ∧
    l.length-p'<l.length-p∧((p:Int)+(1:Int)=(p':Int)∧l=l∧l=l∧(l.length:Int)=(l.length:Int)∧True)∧True∧True∧True∧True∧True∧True∧True∧True ∧
    True else true=l.all Cod.onB
     := by
  simp only [true_and,and_true];have hl:l.length≤1000:=h;refine ⟨⟨0,⟨Qh _,rfl⟩,rfl⟩,?_⟩;rintro p ⟨hp,ha⟩;have hti:((p:Int).toNat)=p:=rfl;simp only [hti];refine bifP (λhb=>?_) λhb=>?_
  · have hlt:p<l.length:=by have:=of_decide_eq_true hb;omega
    refine ⟨⟨by omega,by omega⟩,bifP (λhb=>?_) λhb=>⟨⟨by omega,by omega⟩,p+1,⟨by omega,?_⟩,by omega,rfl⟩⟩
    · rw [Snd.q6h l ((0:Int),(0:Int)) _ p hlt (by simpa using hb)]
    · rw [Snd.q4t l ((0:Int),(0:Int)) _ p hlt,ha,Qd];simpa using hb
  · have hle:l.length≤p:=by have:=of_decide_eq_false hb;omega
    rw [Snd.q7f l _ p hle] at ha;exact ha.symm
set_option maxRecDepth 100000 in
theorem from_vc (a b c d:Int) (h:cFrom.pre ((a,b),(c,d))) :
    ((-9223372036854775808:Int)≤c-a∧c-a≤(9223372036854775807:Int))∧((-9223372036854775808:Int)≤d-b∧d-b≤(9223372036854775807:Int))∧(c-a,d-b)=(c-a,d-b)
     := by
  have h:Cod.onB (a,b)=true∧Cod.onB (c,d)=true:=h;obtain ⟨h1,h2⟩:=h;have h1:=Cod.qe8 h1;have h2:=Cod.qe8 h2;dsimp only at h1 h2;exact ⟨⟨by omega,by omega⟩,⟨by omega,by omega⟩,rfl⟩
set_option maxRecDepth 100000 in
theorem along_vc (a b c d:Int) (h:cAlong.pre ((a,b),(c,d))) :
    ((-9223372036854775808:Int)≤a*c∧a*c≤(9223372036854775807:Int))∧((-9223372036854775808:Int)≤b*d∧b*d≤(9223372036854775807:Int))∧((-9223372036854775808:Int) ≤
    a*c+b*d∧a*c+b*d≤(9223372036854775807:Int))∧a*c+b*d=a*c+b*d
     := by
  have h:(-32767≤a∧a≤32767)∧(-32767≤b∧b≤32767)∧(-32767≤c∧c≤32767)∧(-32767≤d∧d≤32767):=h;have h1:=Cod.qdl (a:=a) (b:=c) (by omega) (by omega) (by omega) (by omega)
  have h2:=Cod.qdl (a:=b) (b:=d) (by omega) (by omega) (by omega) (by omega)
  exact ⟨⟨by omega,by omega⟩,⟨by omega,by omega⟩,⟨by omega,by omega⟩,rfl⟩
set_option maxRecDepth 100000 in
theorem dist_vc (a b c d:Int) :
    [(a,b),(c,d)].length≤(1000:Nat)∧bif ![(a,b),(c,d)].all Cod.onB then (0:Int)=Cod.q5g (a,b) (c,d) else (Cod.onB (a,b)=true∧Cod.onB (c,d)=true)∧(((-32767:Int) ≤
    c-a∧c-a≤(32767:Int))∧((-32767:Int)≤d-b∧d-b≤(32767:Int))∧((-32767:Int)≤c-a∧c-a≤(32767:Int))∧(-32767:Int)≤d-b∧d-b≤(32767:Int))∧(c -
    a)*(c-a)+(d-b)*(d-b)=Cod.q5g (a,b) (c,d)
     := by
  have e:[(a,b),(c,d)].all Cod.onB=(Cod.onB (a,b)&&Cod.onB (c,d)):=by rw [List.all_cons,List.all_cons,List.all_nil,Qj]
  rw [e];unfold Cod.q5g Cod.sq;refine ⟨by simp,bifP (λhb=>?_) λhb=>?_⟩
  · rw [if_neg (by rw [Bool.not_eq_true'] at hb;rw [hb];decide)]
  · have hb:(Cod.onB (a,b)&&Cod.onB (c,d))=true:=by simpa using hb
    rw [if_pos hb];rw [Q6] at hb;have h1:=Cod.qe8 hb.1;have h2:=Cod.qe8 hb.2;dsimp only at h1 h2;refine ⟨hb,⟨⟨by omega,by omega⟩,⟨by omega,by omega⟩,⟨by omega,by omega⟩,⟨by omega,by omega⟩⟩,rfl⟩
set_option maxRecDepth 100000 in
theorem nearG_vc (d1 d2:List UInt8) (c1 c2:List Int) (p1 p2:Bool) (x1 y1 x2 y2:Int) :
    bif p1 then bif p2 then True∧decide (Cod.q5g (x1,y1) (x2,y2)≤(1000000:Int))=Cod.q0o (d1,c1,p1,x1,y1) (d2,c2,p2,x2,y2) else false=Cod.q0o (d1,c1,p1,x1,y1) (d2,
    c2,p2,x2,y2) else false=Cod.q0o (d1,c1,p1,x1,y1) (d2,c2,p2,x2,y2)
     := by
  unfold Cod.q0o Cod.ptOf;cases p1 <;> cases p2 <;> first | rfl | exact ⟨trivial,rfl⟩
set_option maxRecDepth 100000 in
theorem placed_vc (d1:List UInt8) (c1:List Int) (p1:Bool) (x1 y1:Int) :
    bif p1 then True∧bif Cod.onB (x1,y1) then true=Cod.q1g (d1,c1,p1,x1,y1) else bif !p1 then (x1==(0:Int)&&(y1==(0:Int)&&true))=Cod.q1g (d1,c1,p1,x1,y1) else
    false=Cod.q1g (d1,c1,p1,x1,y1) else bif !p1 then (x1==(0:Int)&&(y1==(0:Int)&&true))=Cod.q1g (d1,c1,p1,x1,y1) else false=Cod.q1g (d1,c1,p1,x1,y1)
     := by
  unfold Cod.q1g Cod.ptOf;cases p1
  · show ((x1==0)&&((y1==0)&&true))=((x1==0)&&(y1==0))
    rw [Qj]
  · refine ⟨trivial,bifP (λhb=>?_) λhb=>?_⟩
    · exact hb.symm
    · exact hb.symm
abbrev zCoB0_0 (code:List Int) (lang:List UInt8) (ws:List (List UInt8)):Prop :=
 (True∧zE code∧zE false∧zE code∧True∧zE true∧True∧zE code∧zE (decide ((code.length:Int)≤5))∧zE (decide ((code.length:Int)≤5))∧zE true∧zE (code.length:Int)∧zE code∧zE (decide (3≤(code.length:Int)))∧zE (decide (3≤(code.length:Int)))∧zE true∧zE (code.length:Int)∧zE code∧zE (Snd.q0c lang ws)∧(zE lang∧ws=ws∧True)∧True∧True∧zE false∧True∧(zE lang∧ws=ws∧True)∧zE code∧True)
set_option maxRecDepth 100000 in
theorem cvalid_vc (lang:List UInt8) (ws:List (List UInt8)) (code:List Int) (h:q8l.pre ((lang,ws),code)) :
  q0j (lang,ws)∧bif Snd.q0c lang ws then bif decide (3≤(code.length:Int)) then bif decide ((code.length:Int)≤5) then (∃ (p':Nat),(p'≤code.length∧Cod.inB ws.length (Qa p' code)=true)∧((0:Int)=(p':Int)∧zE code∧True∧zE (code.length:Int)∧True)∧((zE lang∧ws=ws∧True)∧True)∧True∧True∧True∧(zCoB0_0 code lang ws)∧zT4)∧∀ (p:Nat),p≤code.length∧Cod.inB ws.length (Qa p code)=true→bif decide ((p:Int)<(code.length:Int)) then (0≤(p:Int)∧(p:Int)<(code.length:Int))∧bif decide (code.getD (p:Int).toNat (0:Int)<0) then (!decide (0≤(p:Int)))=Cod.q0q lang ws code else bif decide ((ws.length:Int)≤code.getD (p:Int).toNat (0:Int)) then (!decide (0≤(p:Int)))=Cod.q0q lang ws code else (zFit ((p:Int)+1))∧∃ (p':Nat),(p'≤code.length∧Cod.inB ws.length (Qa p' code)=true)∧code.length-p'<code.length-p∧((p:Int)+1=(p':Int)∧zE code∧True∧zE (code.length:Int)∧True)∧((zE lang∧ws=ws∧True)∧True)∧True∧True∧True∧(zCoB0_0 code lang ws)∧zT4 else (!decide (0≤(-1:Int)))=Cod.q0q lang ws code else false=Cod.q0q lang ws code else false=Cod.q0q lang ws code else false=Cod.q0q lang ws code:=by
 delta zCoB0_0 zFit zE zT4
 simp only [and_true,eq_self];have h:q0j (lang,ws)∧code.length≤1000000:=h;have hlen:code.length≤1000000:=h.2;refine ⟨h.1,bifP (λhv=>?_) λhv=>?_⟩
 rotate_left
 ·unfold Cod.q0q;rw [hv];rfl
 refine bifP (λh3=>?_) λh3=>?_
 rotate_left
 ·unfold Cod.q0q;rw [h3,QA,Qc]
 refine bifP (λh5=>?_) λh5=>?_
 rotate_left
 ·unfold Cod.q0q;rw [h5,QA,Qc,Qc]
 have hc:Cod.q0q lang ws code=Cod.inB ws.length code:=by unfold Cod.q0q;rw [hv,h3,h5,Qd,Qd,Qd]
 rw [hc];refine ⟨⟨0,⟨Qh _,rfl⟩,rfl⟩,?_⟩;rintro p ⟨hp,ha⟩;have hti:((p:Int).toNat)=p:=rfl;simp only [hti];have hpos:(!decide ((0:Int)≤(p:Int)))=false:=by rw [decide_eq_true (by omega)];rfl
 have no:p<code.length→(decide (0≤code.getD p 0)&&decide (code.getD p 0<(ws.length:Int)))=false→false=Cod.inB ws.length code:=λhl hf=>(Snd.q6h code 0 _ p hl hf).symm
 refine bifP (λhb=>?_) λhb=>?_
 ·have hlt:p<code.length:=by have:=of_decide_eq_true hb;omega
  refine ⟨⟨by omega,by omega⟩,bifP (λhb=>?_) λh1=>bifP (λhb=>?_) λh2=>⟨⟨by omega,by omega⟩,p+1,⟨by omega,?_⟩,by omega,rfl⟩⟩
  ·rw [hpos];exact no hlt (by rw [decide_eq_false (by have:=of_decide_eq_true hb;omega)];rfl)
  ·rw [hpos];exact no hlt (by rw [decide_eq_false (p:=code.getD p 0<(ws.length:Int)) (by have:=of_decide_eq_true hb;omega),Qc])
  ·show (code.take (p+1)).all _=true
   rw [Snd.q4t code 0 _ p hlt];have ha:(code.take p).all _=true:=ha;rw [ha,decide_eq_true (by have:=of_decide_eq_false h1;omega),decide_eq_true (by have:=of_decide_eq_false h2;omega)];rfl
 ·have hle:code.length≤p:=by have:=of_decide_eq_false hb;omega
  have ha:(code.take p).all _=true:=ha;rw [Snd.q7f code _ p hle] at ha;show (!decide ((0:Int)≤-1))=_;exact ha.symm
theorem key_splice (l:List Int) (v:Value):splice [v,.int .i64 0,.int .i64 0,.int .i64 0,.int .i64 0,.int .i64 0] 1 ((l.take 5).map (Qv .i64)) =
  [v,.int .i64 (l.getD 0 0),.int .i64 (l.getD 1 0),.int .i64 (l.getD 2 0),.int .i64 (l.getD 3 0),.int .i64 (l.getD 4 0)]:=by
 unfold splice
 match l with
 | []=>rfl
 | [a]=>rfl
 | [a,b]=>rfl
 | [a,b,c]=>rfl
 | [a,b,c,d]=>rfl
 | a::b::c::d::e::r=>simp
theorem copy_key (l:List Int) (c:Nat) (A:Option Addr) (W:World) (g:Nat) (v:Value) (ty:TypeId) (hb:Blk W g 156 #[v,.int .i64 0,.int .i64 0,.int .i64 0,.int .i64 0,.int .i64 0])
  (hA:0<l.length→∃ ad,A=some ad∧∀ j v,((l.take 5).map (Qv .i64))[j]? = some v→W.cell? (ad.add j)=some v) (w:World) (hbel:Below w.heap.size w W) (hg:w.heap.size≤g) :
  ∃ n W',(Builtin.copy_ #[36,36] ty #[.slice (some ⟨g,1,none⟩) 5 5,.slice A l.length c]).run Tryz.prog W=.ok (goInt n) W' ∧
   Blk W' g 156 #[v,.int .i64 (l.getD 0 0),.int .i64 (l.getD 1 0),.int .i64 (l.getD 2 0),.int .i64 (l.getD 3 0),.int .i64 (l.getD 4 0)]∧Below w.heap.size w W'∧W'.heap.size=W.heap.size∧∀ k,k≠g→W'.heap[k]? = W.heap[k]? := by
 have hsz:((Tryz.prog.info? 3).map (·.size))=some 1:=by kernel_rfl
 have hu:Tryz.prog.underlying 36=some (.slice 3):=by kernel_rfl
 by_cases h0:l.length=0
 ·obtain rfl:=List.eq_nil_of_length_eq_zero h0
  exact ⟨0,W,run_copy_none W _ _ _ _ _ _ _ _ _ _ hu hsz (by simp),hb,hbel,rfl,λ_ _=>rfl⟩
 ·obtain ⟨ad,rfl,hsrc⟩:=hA (by omega)
  have hrun:=run_copy_row (P:=Tryz.prog) W 36 36 ty 3 g 1 5 5 ad l.length c _ 156 ((l.take 5).map (Qv .i64)) hu hsz hb (by simp [Nat.min_comm]) hsrc (by simp;omega) (λv hv=>by obtain ⟨x,_,rfl⟩:=List.mem_map.1 hv;rfl)
  have hrun:_=Result.ok (goInt ((l.take 5).map (Qv .i64)).length) (W.setRow g (splice [v,.int .i64 0,.int .i64 0,.int .i64 0,.int .i64 0,.int .i64 0] 1 ((l.take 5).map (Qv .i64))).toArray):=hrun;rw [key_splice] at hrun;exact ⟨_,_,hrun,setRow_heap W g _ _ _ _ hb,hbel.trans ⟨rfl,rfl,rfl,by simp [World.setRow],λk hk=>setRow_other W g k _ (by omega)⟩,by simp [World.setRow],λk hk=>setRow_other W g k _ hk⟩
set_option maxRecDepth 100000 in
theorem key_walk (l:List Int) (c:Nat) (A:Option Addr) (w:World) (hA:0<l.length→∃ ad,A=some ad∧ad.block<w.heap.size∧∀ j v,((l.take 5).map (Qv .i64))[j]? = some v→w.cell? (ad.add j)=some v) :
  Calls Tryz.prog 103 #[.slice A l.length c] w λe w'=>e=.returned (.agg #[.int .i64 l.length,.int .i64 (l.getD 0 0),.int .i64 (l.getD 1 0),.int .i64 (l.getD 2 0),.int .i64 (l.getD 3 0),.int .i64 (l.getD 4 0)])∧Below w.heap.size w w':=by
 have hA':=Q5 hA;clear hA
 go_enter Tryz.func103,Tryz.ntmps103
 go_wp2
 have hA:=hA'.out;obtain ⟨n,W',hrun,hb,hbel,hs,ho⟩:=copy_key l c A ((w.alloc (.cells #[.int .i64 0,.int .i64 0,.int .i64 0,.int .i64 0,.int .i64 0,.int .i64 0] 156)).alloc (.cells #[.int .i64 l.length,.int .i64 0,.int .i64 0,.int .i64 0,.int .i64 0,.int .i64 0] 156)) (w.heap.size+1) (.int .i64 l.length) 3 (by
   have:=QD (w.alloc (.cells #[.int .i64 0,.int .i64 0,.int .i64 0,.int .i64 0,.int .i64 0,.int .i64 0] 156)) (.cells #[.int .i64 l.length,.int .i64 0,.int .i64 0,.int .i64 0,.int .i64 0,.int .i64 0] 156)
   rwa [World.size_alloc] at this) (λh=>by
   obtain ⟨ad,e,hlt,h1⟩:=hA h;refine ⟨ad,e,λj v hj=>?_⟩
   exact QE _ (QE _ (h1 j v hj))) w (((Qw _ w).alloc (Qb _) _).alloc (by simp) _) (Nat.le_succ _)
 rw [hrun];clear hrun hA' hA;have hB0:Blk W' w.heap.size 156 #[.int .i64 0,.int .i64 0,.int .i64 0,.int .i64 0,.int .i64 0,.int .i64 0]:=(ho _ (by omega)).trans ((Below.heap_alloc _ _ _ (by simp)).trans (QD w _))
 clear ho;have k0:=hb.cell 0;have k1:=hb.cell 1;have k2:=hb.cell 2;have k3:=hb.cell 3;have k4:=hb.cell 4;have k5:=hb.cell 5;have j0:=hB0.cell 0;have j1:=hB0.cell 1;have j2:=hB0.cell 2;have j3:=hB0.cell 3;have j4:=hB0.cell 4;have j5:=hB0.cell 5;have f0:=hB0.frozen 0;have f1:=hB0.frozen 1;have f2:=hB0.frozen 2;have f3:=hB0.frozen 3;have f4:=hB0.frozen 4;have f5:=hB0.frozen 5;simp only [List.getElem?_toArray,List.getElem?_cons_zero,List.getElem?_cons_succ] at k0 k1 k2 k3 k4 k5 j0 j1 j2 j3 j4 j5;have HB:=Q5 hB0;have HL:=Q5 hbel;clear hb hB0 hbel
 go_wp2
 refine bodyPost_ret (qj9 rfl _ _ w.heap.size 156 _ _ rfl ((((((HB.out.set_ 0 _).set_ 1 _).set_ 2 _).set_ 3 _).set_ 4 _).set_ 5 _) Tryz.underlying156 rfl (by kernel_rfl)) rfl ?_
 refine ⟨rfl,?_⟩;exact q1k (q1k (q1k (q1k (q1k (q1k HL.out (Qb _) _) (Qb _) _) (Qb _) _) (Qb _) _) (Qb _) _) (Qb _) _
end Go.Proofs.YtlfaaoalgcbcoaaGreatDoor
namespace Go.Proofs.YtlfaaoalgcbcoaaGreatDoor
open Go.RowKit
open R
attribute [local go_sem] q28 q1o q1v
theorem get_bs (s:List UInt8) (i:Nat) (h:i<(bs s).size):(bs s)[i]'h=s.getD i 0:=by
 rw [List.getD_eq_getElem?_getD,List.getElem?_eq_getElem (show i<s.length from h)];rfl
theorem rune_is (s:List UInt8) (i:Nat) (h:i<(bs s).size):1≤(Qt (bs s) i).2 ∧
  (Snd.letB (s.getD i 0)=true→Qt (bs s) i=((s.getD i 0).toNat,1)∧97≤(s.getD i 0).toNat∧(s.getD i 0).toNat≤122) ∧
  (Snd.letB (s.getD i 0)=false→(Qt (bs s) i).1<97∨122<(Qt (bs s) i).1):=by
 have hg:=get_bs s i h;by_cases ha:((bs s)[i]'h).toNat<128
 ·have hd:=decode_ascii (bs s) i h ha
  rw [hg] at hd ha;rw [hd];refine ⟨Qb _,λhl=>?_,λhl=>?_⟩
  ·unfold Snd.letB at hl
   simp only [Q6,decide_eq_true_eq] at hl;exact ⟨rfl,hl.1,hl.2⟩
  ·unfold Snd.letB at hl
   simp only [Bool.and_eq_false_iff,decide_eq_false_iff_not] at hl;show (s.getD i 0).toNat<97∨122<(s.getD i 0).toNat;omega
 ·have hd:=decode_high (bs s) i h (by omega)
  rw [hg] at ha;refine ⟨hd.2,λhl=>?_,λ_=>by omega⟩
  unfold Snd.letB at hl;simp only [Q6,decide_eq_true_eq] at hl;omega
set_option maxRecDepth 100000 in
set_option maxHeartbeats 1000000 in
theorem qfz (s:List UInt8) (lo hi:Int) (w:World) (hs:s.length≤1000000) :
  Calls Tryz.prog 110 #[.string (bs s),.int .i64 lo,.int .i64 hi] w λe w'=>e=.returned (.bool (Snd.q0b s lo hi))∧Below w.heap.size w w':=by
 have hsz:(bs s).size=s.length:=rfl;have bel:∀ pos,Below w.heap.size w (w.iter (bs s) pos):=λpos=>q0g (q06 w) _
 have HB:=Q5 bel;clear bel
 go_enter Tryz.func110,Tryz.ntmps110
 go_wp2
 go_loopw [8] (λv wr=>∃ pos,wr=w.iter (bs s) pos∧(s.take pos).all Snd.letB=true) (λ_ wr=>s.length-wr.iterPos w.heap.size)
 case atStart=>exact ⟨0,rfl,rfl⟩
 case round =>
  obtain ⟨pos,rfl,ha⟩:=hrel;have HA:=Q5 ha;clear ha;by_cases hlt:pos<s.length
  ·have hlt':pos<(bs s).size:=hlt
   have hnx:∀ ty,(Instr.next (.pointer (some ⟨w.heap.size,0,none⟩)) true ty).run Tryz.prog (w.iter (bs s) pos)=_:=λty=>run_next_any w (bs s) pos ty hlt'
   obtain ⟨r1,r2,r3⟩:=rune_is s pos hlt';cases hl:Snd.letB (s.getD pos 0)
   ·have hf:Snd.q0b s lo hi=false:=by
     unfold Snd.q0b;rw [Snd.q6h s 0 Snd.letB pos hlt hl];rfl
    have HF:=Q5 hf;have h3:=r3 hl;clear hf hl r1 r2 r3;generalize Qt (bs s) pos=D at *
    by_cases h97:(D.1:Int)<97
    ·go_wp2
     go_ret
     exact ⟨q3o HF.out.symm,HB.out _⟩
    ·have h122:(122:Int)<D.1:=by omega
     go_wp2
     go_ret
     exact ⟨q3o HF.out.symm,HB.out _⟩
   ·obtain ⟨hd,h1,h2⟩:=r2 hl
    have hst:(s.take (pos+1)).all Snd.letB=true:=by rw [Snd.q4t s 0 Snd.letB pos hlt,HA.out,hl];rfl
    have HST:=Q5 hst;rw [hd] at hnx;clear hst hl r1 r2 r3 hd;generalize (s.getD pos 0).toNat=b at *
    have h97:¬ (b:Int)<97:=by omega
    have h122:¬ (122:Int)<b:=by omega
    go_wp2
    go_roundw
    case rel=>exact ⟨pos+1,rfl,HST.out⟩
    case measure=>simp;omega
  ·have hnx:∀ ty,(Instr.next (.pointer (some ⟨w.heap.size,0,none⟩)) true ty).run Tryz.prog (w.iter (bs s) pos)=_:=λty=>run_next_end w (bs s) pos ty hlt
   have hv:Snd.q0b s lo hi=(decide (lo≤(s.length:Int))&&decide ((s.length:Int)≤hi)):=by
    unfold Snd.q0b;rw [← Snd.q7f s Snd.letB pos (by omega),HA.out];rfl
   have HV:=Q5 hv;clear hv;by_cases h1:lo≤(s.length:Int)
   ·by_cases h2:(s.length:Int)≤hi
    ·have hf:=HV.out
     rw [decide_eq_true h1,decide_eq_true h2] at hf;have HF:=Q5 hf;clear hf
     go_wp2
     go_ret
     exact ⟨q3o (by rw [HF.out];first | rfl | simp [h1,h2]),HB.out _⟩
    ·have hf:=HV.out
     rw [decide_eq_true h1,decide_eq_false h2] at hf;have HF:=Q5 hf;clear hf
     go_wp2
     go_ret
     exact ⟨q3o (by rw [HF.out];first | rfl | simp [h1,h2]),HB.out _⟩
   ·have hf:=HV.out
    rw [decide_eq_false h1] at hf;have HF:=Q5 hf;clear hf
    go_wp2
    go_ret
    exact ⟨q3o (by rw [HF.out];first | rfl | simp [h1]),HB.out _⟩
end Go.Proofs.YtlfaaoalgcbcoaaGreatDoor
namespace Go.Proofs.YtlfaaoalgcbcoaaGreatDoor
open Go.RowKit
structure Scan (w:World) (b:Nat) (s:ByteArray):Prop where
 text:w.cell? ⟨b,0,none⟩=some (.string s)
 cls:∀ c:UInt8,w.cell? ⟨b,1+c.toNat,none⟩=some (.int .i64 (Lx.cls c:Nat))
theorem Scan.drewN {w:World} {b:Nat} {s:ByteArray} (h:Scan w b s) (n:Nat):Scan (w.drewN n) b s:=⟨h.text,h.cls⟩
theorem Scan.below {B:Nat} {w w':World} {b:Nat} {s:ByteArray} (h:Scan w b s) (hb:Below B w w') (hB:b<B):Scan w' b s :=
 ⟨(hb.cell (p:=⟨b,0,none⟩) hB).trans h.text,λc=>(hb.cell (p:=⟨b,1+c.toNat,none⟩) hB).trans (h.cls c)⟩
theorem Scan.alloc {w:World} {b:Nat} {s:ByteArray} (h:Scan w b s) (hB:b<w.heap.size) (o:Obj):Scan (w.alloc o) b s :=
 h.below ((Qw w.heap.size w).alloc (Qb _) o) hB
set_option maxHeartbeats 400000 in
theorem at_ge (b:Nat) (s:ByteArray) (i:Int) (w:World) (hs:s.size≤9223372036854775807) (hi:(s.size:Int)≤i)
   (h0:w.cell? ⟨b,0,none⟩=some (.string s)) :
    Calls Tryz.prog 156 #[.pointer (some ⟨b,0,none⟩),.int .i64 i] w λe w'=>e=.returned (.int .i64 0)∧w=w':=by
  go_enter Tryz.func156,Tryz.ntmps156
  go_wp2
  go_ret
  exact ⟨rfl,rfl⟩
set_option maxHeartbeats 400000 in
theorem at_lt (b:Nat) (s:ByteArray) (i:Nat) (w:World) (hs:s.size≤9223372036854775807) (hi:i<s.size)
   (h0:w.cell? ⟨b,0,none⟩=some (.string s)) (hc:w.cell? ⟨b,1+s[i].toNat,none⟩=some (.int .i64 (Lx.cls s[i]:Nat))) :
    Calls Tryz.prog 156 #[.pointer (some ⟨b,0,none⟩),.int .i64 i] w λe w'=>e=.returned (.int .i64 (Lx.cls s[i]:Nat))∧∃ n,w'=w.drewN n:=by
  have hb:s[i].toNat<256:=Qs s[i]
  go_enter Tryz.func156,Tryz.ntmps156
  go_wp2
  go_quiet (fail)
  go_wp2
  go_ret
  exact ⟨rfl,_,rfl⟩
theorem q6f (b:Nat) (s:ByteArray) (i:Int) (w:World) (hs:s.size≤9223372036854775807) (hi:0≤i) (h:Scan w b s) :
  Calls Tryz.prog 156 #[.pointer (some ⟨b,0,none⟩),.int .i64 i] w λe w' =>
   e=.returned (.int .i64 (Lx.q2a (s.data.toList.drop i.toNat):Nat))∧∃ n,w'=w.drewN n:=by
 obtain ⟨k,rfl⟩:=Qm hi;rw [Qn];by_cases hlt:k<s.size
 ·rw [q3n s k hlt]
  exact at_lt b s k w hs hlt h.text (h.cls _)
 ·have hd:s.data.toList.drop k=[]:=Qp (by rw [← q0r];omega)
  rw [hd];exact (at_ge b s k w hs (by omega) h.text).mono λe w' ⟨he,hw⟩=>⟨he,0,hw.symm⟩
def among (zs:List Int) (c:UInt8):Bool:=zs.contains (Lx.cls c:Nat)
theorem q5f {p:UInt8→Bool} {c:UInt8} {l:List UInt8} (h:p c=true):Lx.span p (c::l)=Lx.span p l+1:=by
 simp [Lx.span,h]
theorem q8t {p:UInt8→Bool} {c:UInt8} {l:List UInt8} (h:p c=false):Lx.span p (c::l)=0:=by
 simp [Lx.span,h]
theorem qir (p:UInt8→Bool) (l:List UInt8):Lx.span p l≤l.length:=by
 induction l with
 | nil=>simp [Lx.span]
 | cons c r ih =>
  cases h:p c
  ·rw [q8t h];omega
  ·rw [q5f h,Q9];omega
set_option maxHeartbeats 1000000 in
theorem qdd (b:Nat) (s:ByteArray) (i:Nat) (bk n c:Nat) (zs:List Int) (w:World) (hs:s.size≤4611686018427387904) (hi:i≤s.size) (h:Scan w b s)
  (hn:n=zs.length) (hn1:0<n) (hn2:n≤100) (hz:∀ j,j<zs.length→w.cell? ⟨bk,0+j,none⟩=some (.int .i64 (zs.getD j 0))) :
  Calls Tryz.prog 155 #[.pointer (some ⟨b,0,none⟩),.int .i64 i,.slice (some ⟨bk,0,none⟩) n c] w λe w' =>
   e=.returned (.int .i64 (i+Lx.span (among zs) (s.data.toList.drop i):Nat))∧∃ m,w'=w.drewN m:=by
 have htake:zs.take n=zs:=Qo (by omega)
 have HT:=Q5 htake;clear htake;have HZ:=Q5 hz;clear hz;have HN:=Q5 hn;have hnz:n≤zs.length:=by omega
 clear hn
 go_enter Tryz.func155,Tryz.ntmps155
 go_wp2
 go_loopw [1] (λv wr=>∃ k m:Nat,k≤s.size∧v=.int .i64 k∧wr=w.drewN m∧i+Lx.span (among zs) (s.data.toList.drop i)=k+Lx.span (among zs) (s.data.toList.drop k)) (λv _=>s.size-(intOf v).toNat)
 case atStart=>exact ⟨i,0,hi,rfl,rfl,rfl⟩
 case round =>
  obtain ⟨k,m,hk,rfl,rfl,hrest⟩:=hrel;have HR:=Q5 hrest;clear hrest;have h0:=h.text;by_cases hlt:k<s.size
  ·have hc:=q3n s k hlt
   have HC:=Q5 hc;clear hc
   go_wp2_with fail
   refine (q6f b s k _ (by omega) (by omega) (h.drewN m)).mono ?_
   rintro e w' ⟨rfl,m1,rfl⟩;rw [Qn,HC.out]
   go_wp2_with fail
   refine (Tryz.slices_Contains_int bk 0 n c zs _ _ hnz (by omega) (by exact HZ.out)).mono ?_
   rintro e w' ⟨rfl,rfl⟩;rw [HT.out];have hx:zs.contains ((Lx.q2a (s[k]::List.drop (k+1) s.data.toList):Nat):Int)=among zs s[k]:=rfl;rw [hx];clear hx;cases hq:among zs s[k]
   ·go_wp2
    go_ret
    refine ⟨?_,_,rfl⟩;rw [HR.out,HC.out,q8t hq];rfl
   ·go_wp2
    go_roundw
    case rel=>
     refine ⟨k+1,_,by omega,by go_num,rfl,?_⟩
     rw [HR.out,HC.out,q5f hq];omega
    case measure=>simp [intOf];omega
  ·go_wp2
   go_ret
   refine ⟨?_,_,rfl⟩;rw [HR.out];have hd:s.data.toList.drop k=[]:=Qp (by rw [← q0r];omega)
   rw [hd];rfl
namespace Lx
theorem qia (c:UInt8):(cls c==1)=q2x c:=by
 have H:∀ c:Fin 256,(cls (Qk c.val)==1)=q2x (Qk c.val):=by decide +kernel
 have h:=H ⟨c.toNat,Qs c⟩
 simpa using h
theorem ql0 (c:UInt8):(cls c==2)=(c==35):=by
 have H:∀ c:Fin 256,(cls (Qk c.val)==2)=(Qk c.val==35):=by decide +kernel
 have h:=H ⟨c.toNat,Qs c⟩
 simpa using h
theorem gap_blank (l:List UInt8):gap l=span q2x l+gap (l.drop (span q2x l)):=by
 induction l with
 | nil=>simp [span,gap,gapc]
 | cons c r ih =>
  cases h:q2x c
  ·rw [q8t h];simp
  ·rw [q5f h]
   have:gap (c::r)=gap r+1:=by simp [gap,gapc,h]
   rw [this,ih];simp only [QG];omega
theorem qm7 (l:List UInt8):q2a (l.drop (span q2x l))≠1:=by
 induction l with
 | nil=>simp [span,q2a]
 | cons c r ih =>
  cases h:q2x c
  ·rw [q8t h]
   intro e;have:=qia c;simp only [Qi,q2a] at e;rw [e,h] at this;cases this
  ·rw [q5f h]
   exact ih
theorem gap_not (l:List UInt8) (h1:q2a l≠1) (h2:q2a l≠2):gap l=0:=by
 cases l with
 | nil=>rfl
 | cons c r =>
  have hb:q2x c=false:=by rw [← qia];simpa [q2a] using h1
  have hh:(c==35)=false:=by rw [← ql0];simpa [q2a] using h2
  simp only [gap,gapc,hb,hh,Qg,if_false]
theorem gap_hash (l:List UInt8) (h2:q2a l=2):gap l=gapc true l:=by
 cases l with
 | nil=>cases h2
 | cons c r =>
  have hh:(c==35)=true:=by rw [← ql0];simpa [q2a] using h2
  obtain rfl:c=35:=by simpa using hh
  show gapc false (35::r)=gapc true (35::r);rfl
theorem gapc_none (l:List UInt8) (h:Q0 l 10<0):gapc true l=l.length:=by
 induction l with
 | nil=>rfl
 | cons c r ih =>
  unfold Q0 at h;have hge:=Qq r 10;by_cases hc:(c==10)=true
  ·rw [if_pos hc] at h;omega
  ·rw [if_neg hc] at h
   by_cases hr:(Q0 r 10==-1)=true
   ·have hr':Q0 r 10=-1:=by simpa using hr
    have:=ih (by omega)
    simp only [gapc,hc,Qg,if_false,this,Q9]
   ·rw [if_neg hr] at h
    have hr':Q0 r 10≠-1:=by simpa using hr
    omega
theorem gapc_some (l:List UInt8) (h:0≤Q0 l 10):(Q0 l 10).toNat≤l.length∧gapc true l=(Q0 l 10).toNat+gap (l.drop (Q0 l 10).toNat):=by
 induction l with
 | nil=>exact absurd h (by decide)
 | cons c r ih =>
  unfold Q0 at h ⊢;have hge:=Qq r 10;by_cases hc:(c==10)=true
  ·rw [if_pos hc]
   obtain rfl:c=10:=by simpa using hc
   refine ⟨Qh _,?_⟩;show gapc true (10::r)=0+gapc false (10::r);simp [gapc,q2x]
  ·rw [if_neg hc] at h ⊢
   by_cases hr:(Q0 r 10==-1)=true
   ·rw [if_pos hr] at h;omega
   ·rw [if_neg hr] at h ⊢
    have hr':Q0 r 10≠-1:=by simpa using hr
    have h0:0≤Q0 r 10:=by omega
    obtain ⟨ih1,ih2⟩:=ih h0;have e:(Q0 r 10+1).toNat=(Q0 r 10).toNat+1:=by omega
    rw [e];refine ⟨by simpa using ih1,?_⟩
    simp only [gapc,hc,Qg,if_false,QG];omega
theorem hash_pos (l:List UInt8) (h:q2a l=2):Q0 l 10≠0:=by
 cases l with
 | nil=>cases h
 | cons c r =>
  have hh:(c==35)=true:=by rw [← ql0];simpa [q2a] using h
  obtain rfl:c=35:=by simpa using hh
  have hge:=Qq r 10;unfold Q0;rw [if_neg (by decide)]
  split
  ·omega
  ·rename_i h2
   have h2':Q0 r 10≠-1:=by simpa using h2
   omega
end Lx
theorem qk3:among [1]=Lx.q2x:=by
 funext c
 rw [← Lx.qia];have h:∀ n:Nat,([1]:List Int).contains (n:Int)=(n==1):=by
  intro n;rw [Bool.eq_iff_iff];simp;omega
 exact h _
theorem qgu (w:World) (bk:Nat) (hbk:bk=w.heap.size) (x:Int) (t:TypeId):∀ j,j<[x].length→(w.alloc (.cells #[.int .i64 x] t)).cell? ⟨bk,0+j,none⟩=some (.int .i64 ([x].getD j 0)):=by
 intro j hj;subst hbk;obtain rfl:j=0:=by simpa using hj
 simp [World.cell?_alloc_at]
set_option maxHeartbeats 1000000 in
theorem gap_any (b:Nat) (s:ByteArray) (i:Int) (w:World) (hs:s.size≤4611686018427387904) (hi0:0≤i) (hi:i≤s.size) (hb:b<w.heap.size) (h:Scan w b s) :
  Calls Tryz.prog 131 #[.pointer (some ⟨b,0,none⟩),.int .i64 i] w λe w' =>
   e=.returned (.int .i64 (i.toNat+Lx.gap (s.data.toList.drop i.toNat):Nat))∧Below w.heap.size w w':=by
 obtain ⟨i,rfl⟩:=Qm hi0;rw [Qn];have hi':i≤s.size:=by omega
 clear hi hi0
 go_enter Tryz.func131,Tryz.ntmps131
 go_wp2_with fail
 refine (qdd b s i _ 1 1 [1] _ hs hi' (by exact h.below ((Qw w.heap.size w).alloc (Qb _) _) hb) rfl (by omega) (by omega) (by exact qgu w _ rfl 1 _)).mono ?_
 rintro e w' ⟨rfl,m,rfl⟩;rw [qk3];have hg:=Lx.gap_blank (s.data.toList.drop i);have hst:=Lx.qm7 (s.data.toList.drop i);have hle:=qir Lx.q2x (s.data.toList.drop i);rw [Qe] at hg hst;rw [Q4,← q0r] at hle;have HG:=Q5 hg;have HST:=Q5 hst;clear hg hst;generalize Lx.span Lx.q2x (s.data.toList.drop i)=n0 at *
 have hb0:Below w.heap.size w ((w.alloc (.cells #[.int .i64 1] 3)).drewN m):=belN ((Qw w.heap.size w).alloc (Qb _) _) m
 go_wp2
 go_loopw [1,5] (λv _ wr=>∃ k:Nat,k≤s.size∧v=.int .i64 k∧Below w.heap.size w wr∧i+Lx.gap (s.data.toList.drop i)=k+Lx.gap (s.data.toList.drop k)∧Lx.q2a (s.data.toList.drop k)≠1) (λv _ _=>s.size-(intOf v).toNat)
 case atStart=>exact ⟨i+n0,by omega,by go_num,hb0,by rw [HG.out];omega,HST.out⟩
 case round =>
  obtain ⟨k,hk,rfl,hbr,hrest,hst⟩:=hrel;clear HG HST hb0;have HR:=Q5 hrest;clear hrest;have HST:=Q5 hst;clear hst;have hSr:=h.below hbr hb;have hsz:=hbr.size
  go_wp2_with fail
  refine (q6f b s k _ (by omega) (by omega) hSr).mono ?_
  rintro e w' ⟨rfl,m1,rfl⟩;rw [Qn];by_cases hc:Lx.q2a (s.data.toList.drop k)=2
  ·rw [hc]
   have hlt:k<s.size:=by
    rcases Nat.lt_or_ge k s.size with hlt | hge
    ·exact hlt
    ·rw [Qp (by rw [← q0r];exact hge)] at hc;cases hc
   have h0:=hSr.text;have HGH:=Q5 (Lx.gap_hash _ hc);have hpos:=Lx.hash_pos _ hc;have HC:=Q5 hc;clear hc
   go_wp2_with fail
   refine (Tryz.strings_IndexByte _ _ _).mono ?_;rintro e w' ⟨rfl,rfl⟩;have hdl:(s.extract k s.size).data.toList=s.data.toList.drop k:=by
    rw [q3h,q2r];exact Qo (by rw [Q4,← q0r];omega)
   rw [hdl];clear hdl;have h10:(QK 10).toUInt8=10:=rfl;rw [h10];clear h10;have hge:=Qq (s.data.toList.drop k) 10;by_cases hneg:Q0 (s.data.toList.drop k) 10<0
   ·have hnone:=Q5 (Lx.gapc_none _ hneg)
    generalize Q0 (s.data.toList.drop k) 10=o at *
    go_wp2
    go_ret
    refine ⟨?_,belN hbr _⟩;rw [HR.out,HGH.out,hnone.out,Q4,← q0r];exact ret_int (by omega)
   ·have hs2:=Lx.gapc_some (s.data.toList.drop k) (by omega)
    obtain ⟨hs2,hs3⟩:=hs2;rw [Q4,← q0r] at hs2;rw [Qe] at hs3;have HS3:=Q5 hs3;clear hs3;generalize Q0 (s.data.toList.drop k) 10=o at *
    obtain ⟨q,rfl⟩:=Qm (show 0≤o by omega)
    have hq:q≤s.size-k:=by simpa using hs2
    have hq1:1≤q:=by omega
    have hq2:Lx.gapc true (s.data.toList.drop k)=q+Lx.gap (s.data.toList.drop (k+q)):=HS3.out;have HQ2:=Q5 hq2;clear HS3 hq2 hs2 hge hneg hpos
    go_wp2_with fail
    have hkq:(k:Int)+q=((k+q:Nat):Int):=by omega
    rw [hkq];clear hkq;refine (qdd b s (k+q) _ 1 1 [1] _ hs (by omega) (by exact (hSr.drewN _).below ((Qw _ _).alloc (Qb _) _) (by simp;omega)) rfl (by omega) (by omega) (by exact qgu (wr.drewN m1) _ rfl 1 _)).mono ?_
    rintro e w' ⟨rfl,m2,rfl⟩;rw [qk3];have hg:=Lx.gap_blank (s.data.toList.drop (k+q));have hst:=Lx.qm7 (s.data.toList.drop (k+q));have hle:=qir Lx.q2x (s.data.toList.drop (k+q));rw [Qe] at hg hst;rw [Q4,← q0r] at hle;have HG:=Q5 hg;have HST:=Q5 hst;clear hg hst;generalize Lx.span Lx.q2x (s.data.toList.drop (k+q))=n1 at *
    go_wp2
    go_roundw
    case rel =>
     refine ⟨k+q+n1,by omega,by go_num,?_,?_,HST.out⟩
     ·exact belN ((belN hbr m1).alloc (by simpa using hsz) _) m2
     ·rw [HR.out,HGH.out,HQ2.out,HG.out]
      omega
    case measure=>simp [intOf];omega
  ·have hg0:=Q5 (Lx.gap_not _ HST.out hc)
   have hcn:((Lx.q2a (s.data.toList.drop k):Int)==2)=false:=by
    rw [beq_eq_false_iff_ne];omega
   clear hc;generalize Lx.q2a (s.data.toList.drop k)=cc at *
   go_wp2
   go_ret
   refine ⟨?_,belN hbr _⟩;rw [HR.out,hg0.out];rfl
end Go.Proofs.YtlfaaoalgcbcoaaGreatDoor

/-
  Several texts in one: R8, R8M, R9.
-/
import Derived.Test.YtlmbfijhkcmncaaGreatDoorPD
import Derived.RangeFuncRecord
open Array renaming getElem?_eq_some_iff→Q0,getD_eq_getD_getElem?→Qc,getElem?_setIfInBounds_self_of_lt→Qe,size_setIfInBounds→Qh,getElem?_modify→Qi,getElem?_setIfInBounds_ne→Qj,getElem?_toList→Qs,getElem?_push→Qz,toList_push→QH
open Nat renaming lt_of_lt_of_le→Q3,beq_refl→Q8,eq_of_beq_eq_true→Qb,not_lt→Qx,lt_irrefl→Qy,le_of_eq→QA
open List renaming mem_singleton→Q7,getElem?_map→Q9,mem_of_getElem?→Qd,map_congr_left→Qf,length_map→Qg,map_cons→Qk,mem_cons→Ql,getElem?_eq_some_iff→Qn,getElem?_eq_getElem→Qo,mem_cons_of_mem→Qu,mem_of_mem_take→Qv,mem_of_mem_drop→Qw,mem_cons_self→QD,mem_map→QE,length_cons→QJ,any_eq_true→QK,map→QO
open Option renaming isSome_iff_exists→Qa
open Go.Result renaming andThen_ok→Qm
open Go.Instr renaming mapUpdate→Qp
open Go.MapKept renaming run_getObj_map→Qq,run_setObj_map→Qr
open Go.World renaming cell?_of_block→Qt
open Go.Sem renaming run_bind→QC
open Go.Obj renaming map→QF
open Bool renaming eq_false_iff→QG
open Go.Value renaming ownBlock→QL,pointer→QN
set_option linter.unusedVariables false
namespace Go.Proofs.YtlmbfijhkcmncaaGreatDoor
open Go.RowKit
namespace R
section
variable {w0:Base} {w w':World} {κ:Cx} {st:St} {a:Act} {P:Program}
structure Only (g:Nat) (w w':World):Prop where
 os:w'.os=w.os
 tape:w'.tape=w.tape
 output:w'.output=w.output
 size:w'.heap.size=w.heap.size
 block:∀ k,k≠g→w'.heap[k]? = w.heap[k]?
theorem Only.refl (g:Nat) (w:World):Only g w w:=⟨rfl,rfl,rfl,rfl,λ_ _=>rfl⟩
theorem Only.set {g:Nat} (h:Only g w w') (i:Nat) (v:Value):Only g w (w'.setCell ⟨g,i,none⟩ v) :=
 ⟨h.os,h.tape,h.output,by rw [World.size_setCell];exact h.size,λk hk=>(Below.heap_setCell w' ⟨g,i,none⟩ v k hk).trans (h.block k hk)⟩
theorem Only.keeps {g:Nat} (h:Only g w w') {S:Nat→Prop} (hS:¬ S g):Keeps w w' S :=
 ⟨QA h.size.symm,λk o hk _=>Qt (h.block k (λe=>hS (e▸hk)))⟩
theorem Only.below {g B:Nat} (h:Only g w w') {w0:World} (hb:Below B w0 w) (hg:B≤g):Below B w0 w' :=
 ⟨h.os.trans hb.os,h.tape.trans hb.tape,h.output.trans hb.output,by rw [h.size];exact hb.size,λk hk=>(h.block k (by omega)).trans (hb.block k hk)⟩
theorem Only.belowX {g n0:Nat} {X:Nat→Prop} (h:Only g w w') {w0:World} (hb:BelowX X n0 w0 w) (hg:n0≤g∨X g):BelowX X n0 w0 w' where
 os:=h.os.trans hb.os
 tape:=h.tape.trans hb.tape
 output:=h.output.trans hb.output
 size:=by rw [h.size];exact hb.size
 block:=λk hk hx=>by
  have hne:k≠g:=λe=>by
   subst e;rcases hg with hg | hg
   ·omega
   ·exact hx hg
  exact (h.block k hne).trans (hb.block k hk hx)
theorem Only.blk {g k:Nat} (h:Only g w w') (hk:k≠g) {t:TypeId} {cs:Array Value} (hb:Blk w k t cs):Blk w' k t cs:=(h.block k hk).trans hb
theorem Only.owns {g base:Nat} (h:Only g w w') {e:TypeId} {size n:Nat} {v:Value} {xs:List Value} (ho:w.ownsRow base e size v n xs) (hg:v.ownBlock≠some g):w'.ownsRow base e size v n xs:=by
 refine ⟨ho.1,?_⟩;rcases ho.2 with h1 | ⟨g2,cap,cur,h1,h2,h3,h4⟩
 ·exact .inl h1
 ·refine .inr ⟨g2,cap,cur,h1,h2,(h.block g2 (λe=>hg ?_)).trans h3,h4⟩
  subst h1;subst e;rfl
theorem q7b {g:Nat} {ty:TypeId}:∀ (vs:List Value) (off i:Nat) (us:Array Value) (w:World),Blk w g ty us→(∀ v∈vs,v.oneCell'=true)→(0<vs.length→off+i+vs.length≤us.size) →
  ∃ w',(Go.storeCells ⟨g,off,none⟩ vs i).run P w=.ok () w'∧Only g w w'∧Blk w' g ty ((vs.zipIdx i).foldl (λcs (c,j)=>cs.setIfInBounds (off+j) c) us)
 | [],off,i,us,w,hb,ho,hs=>⟨w,rfl,Only.refl g w,hb⟩
 | v::vs,off,i,us,w,hb,ho,hs=>by
  have hs:=hs (by simp)
  rw [QJ] at hs;have hlt:off+i<us.size:=by omega
  have hc:w.cell? ⟨g,off+i,none⟩=some us[off+i]:=(hb.cell (off+i)).trans (Array.getElem?_eq_getElem hlt);have hf:w.frozen? ⟨g,off+i,none⟩=false:=hb.frozen (off+i);obtain ⟨w',h1,h2,h3⟩:=q7b vs off (i+1) (us.setIfInBounds (off+i) v) (w.setCell ⟨g,off+i,none⟩ v) (hb.set_ (off+i) v) (λu hu=>ho u (Qu _ hu)) (λ_=>by rw [Qh];omega)
  refine ⟨w',?_,?_,?_⟩
  ·unfold Go.storeCells
   rw [add_plain2,QC,run_store P w _ v _ (ho v QD),hc];simp only [hf,Bool.false_eq_true,if_false,Qm];exact h1
  ·have:=Only.set (Only.refl g w) (off+i) v
   exact ⟨h2.os.trans this.os,h2.tape.trans this.tape,h2.output.trans this.output,h2.size.trans this.size,λk hk=>(h2.block k hk).trans (this.block k hk)⟩
  ·rw [List.zipIdx_cons,List.foldl_cons]
   exact h3
theorem qiv:∀ (l bs r:List Cell) (off:Nat),setCells bs off l=some r→0<l.length→off+l.length≤bs.length
 | [],bs,r,off,h,h0=>absurd h0 (Qy _)
 | x::l,bs,r,off,h,h0=>by
  have h:(bif Nat.blt off bs.length then setCells (bs.set off x) (off+1) l else none)=some r:=h
  cases hb:Nat.blt off bs.length
  ·rw [hb] at h;cases h
  ·rw [hb] at h
   rw [Nat.blt_eq] at hb;rw [QJ];rcases Nat.eq_zero_or_pos l.length with e | e
   ·omega
   ·have:=qiv l _ r (off+1) h e
    rw [List.length_set] at this;omega
theorem qkr {κ':Cx} {d:Nat} (hβ:∀ b,b≠d→κ'.β b=κ.β b) {cls:List (FuncId×Nat×List (Nat×Nat))} (hb:cls.any (λcl=>cl.2.2.any λp=>p.1.beq d)=false):∀ cl∈cls,κ'.clo cl=κ.clo cl:=λcl hcl=>by
 rw [List.any_eq_false] at hb;have h1:=hb cl hcl;have e:∀ p∈cl.2.2,κ'.ptr p=κ.ptr p:=λp hp=>by
  have hne:p.1≠d:=λe=>h1 (QK.2 ⟨p,hp,by rw [e,Q8]⟩)
  unfold Cx.ptr;rw [hβ _ hne]
 unfold Cx.clo;rw [Qf (λp hp=>e p (Qv hp)),Qf (λp hp=>e p (Qw hp))]
theorem forget_rep {κ':Cx} {d:Nat} (hβ:∀ b,b≠d→κ'.β b=κ.β b) (hρ:κ'.ρ=κ.ρ) (hμ:κ'.μ=κ.μ) (hk:Keeps w w' κ.S) (hS:∀ g,κ.S g→g<w.heap.size→κ'.S g) {c:Cell} {v:Value} (h:c.Rep κ w v):(c.forget d).Rep κ' w' v:=by
 cases c with
 | ptr b off =>
  show Cell.Rep κ' w' (bif b.beq d then .any else .ptr b off) v
  cases hb:b.beq d
  ·have hne:b≠d:=λe=>by rw [e,Q8] at hb;cases hb
   show v=_;rw [hβ b hne];exact h
  ·trivial
 | any=>trivial
 | undef=>exact h
 | nil=>exact h
 | val k p=>exact Kd.Rep.keeps hk hS k p v h
 | ep fs p f =>
  obtain ⟨g,o,rfl,hg,hs,hr⟩:=h;exact ⟨g,o,rfl,Q3 hg hk.size,hS g hs hg,Kds.Rep.keeps hk hS fs p g o hs hg hr⟩
 | own r=>show v=_∧_;rw [hρ];exact h
 | rp r sz i f=>show ∃ g n c,_∧_;rw [hρ];exact h
 | sfx r sz i=>show ∃ g n c,_∧_;rw [hρ];exact h
 | fn f=>exact h
 | clo f k ps =>
  show Cell.Rep κ' w' (bif ps.any (λp=>p.1.beq d) then .any else .clo f k ps) v
  cases hb:ps.any (λp=>p.1.beq d)
  ·have e:∀ p∈ps,κ'.ptr p=κ.ptr p:=λp hp=>by
    have hne:p.1≠d:=λe=>by
     have:ps.any (λp=>p.1.beq d)=true:=QK.2 ⟨p,hp,by rw [e,Q8]⟩
     rw [hb] at this;cases this
    unfold Cx.ptr;rw [hβ _ hne]
   show v=.func _ (QO κ'.ptr _).toArray (QO κ'.ptr _).toArray;rw [Qf (λp hp=>e p (Qv hp)),Qf (λp hp=>e p (Qw hp))]
   exact h
  ·trivial
 | fsl cls =>
  show Cell.Rep κ' w' (bif cls.any (λcl=>cl.2.2.any λp=>p.1.beq d) then .any else .fsl cls) v
  cases hb:cls.any (λcl=>cl.2.2.any λp=>p.1.beq d)
  ·exact qac (qkr hβ hb) hk hS h
  ·trivial
 | fel cls n =>
  show Cell.Rep κ' w' (bif cls.any (λcl=>cl.2.2.any λp=>p.1.beq d) then .any else .fel cls n) v
  cases hb:cls.any (λcl=>cl.2.2.any λp=>p.1.beq d)
  ·exact qah (qkr hβ hb) hk hS h
  ·trivial
 | nilm=>exact h
 | mref m=>show v=.map (some (κ'.μ m));rw [hμ];exact h
 | nref=>show v=.map (some κ'.μ.ν);rw [hμ];exact h
 | iref kk k=>show v=.map (κ'.μ.inn (kk.kv k));rw [hμ];exact h
 | iter i=>show v=.pointer (some ⟨κ'.μ.θ i,0,none⟩);rw [hμ];exact h
 | fref=>show v=.map (some κ'.μ.φ);rw [hμ];exact h
 | fent kk k=>show v=κ'.μ.fin (kk.kv k)∧_;rw [hμ];exact h
 | fp kk k sz i f=>show ∃ g n c,κ'.μ.fin (kk.kv k)=_∧_;rw [hμ];exact h
 | fnew=>show v=κ'.μ.fnw∧_;rw [hμ];exact h
 | yld j=>show v=.func (.yield (κ'.μ.lam j)) _ _;rw [hμ];exact h
 | fstamp=>show v=.int .i64 κ'.μ.stp;rw [hμ];exact h
 | kseq f src =>
  obtain ⟨g,rfl,hg,hs,hc⟩:=h;have e:κ'.src src=κ.src src:=by cases src <;> simp only [Cx.src,hμ]
  exact ⟨g,rfl,Q3 hg hk.size,hS g hs hg,by rw [e];exact (hk.cell g 0 hs hg).trans hc⟩
 | bnd f x p=>exact qab hk hS h
 | dyn t ks p =>
  obtain ⟨us,rfl,hl,hu⟩:=h;exact ⟨us,rfl,hl,λf z hz=>let ⟨u,h1,h2⟩:=hu f z hz;⟨u,h1,Kd.Rep.keeps hk hS z.1 z.2 u h2⟩⟩
theorem qbn {κ':Cx} {d:Nat} (H:∀ (c:Cell) v,c.Rep κ w v→(c.forget d).Rep κ' w' v) {cs:List Cell} {vs:Array Value} (h:q06 κ w cs vs):q06 κ' w' (cs.map (Cell.forget d)) vs :=
 ⟨by rw [Qg];exact h.1,λi c hc=>by
  rw [Q9] at hc;cases hx:cs[i]? with
  | none=>rw [hx] at hc;cases hc
  | some x =>
   rw [hx] at hc;injection hc with hc;subst hc;obtain ⟨v,hv,hr⟩:=h.2.1 i x hx;exact ⟨v,hv,H x v hr⟩,h.2.2⟩
theorem qix {κ':Cx} {d:Nat} (H:∀ (c:Cell) v,c.Rep κ w v→(c.forget d).Rep κ' w' v) {x:Comp} {v:Value} (h:x.Rep κ w v):(x.forget d).Rep κ' w' v:=by
 cases x with
 | one c=>exact H c v h
 | agg cs=>obtain ⟨vs,rfl,h⟩:=h;exact ⟨vs,rfl,qbn H h⟩
theorem forget_av {κ':Cx} {d:Nat} (H:∀ (c:Cell) v,c.Rep κ w v→(c.forget d).Rep κ' w' v) {x:AV} {v:Value} (h:x.Rep κ w v):(x.forget d).Rep κ' w' v:=by
 cases x with
 | c x=>exact qix H h
 | tup xs =>
  obtain ⟨vs,rfl,h1,h2⟩:=h;exact ⟨vs,rfl,by rw [Qg];exact h1,λi c hc=>by
   rw [Q9] at hc;cases hx:xs[i]? with
   | none=>rw [hx] at hc;cases hc
   | some y =>
    rw [hx] at hc;injection hc with hc;subst hc;obtain ⟨u,hu,hr⟩:=h2 i y hx;exact ⟨u,hu,qix H hr⟩⟩
theorem qct (d t:Nat):∀ env:List (Nat×AV),look (.c (.one .any)) t (env.map λ(t,v)=>(t,v.forget d))=(look (.c (.one .any)) t env).forget d
 | []=>rfl
 | (u,v)::r=>by
  rw [Qk,q0v,q0v,qct d t r];split <;> rfl
theorem qh7 (d b:Nat):∀ boxes:List (Nat×List Cell),look? b (q7c d boxes)=if b=d then none else (look? b boxes).map (QO (Cell.forget d))
 | []=>by show none=_;split <;> rfl
 | (u,cs)::r=>by
  have ih:=qh7 d b r;show look? b (bif u.beq d then q7c d r else (u,cs.map (Cell.forget d))::q7c d r)=_
  by_cases e:u=d
  ·subst e
   rw [Q8];show look? b (q7c u r)=_;rw [ih,look?_cons];by_cases e2:b=u
   ·rw [if_pos e2,if_pos e2]
   ·rw [if_neg e2,if_neg e2,if_neg (λh=>e2 h.symm)]
  ·have:u.beq d=false:=QG.mpr λh=>e (Qb h)
   rw [this];show look? b ((u,cs.map (Cell.forget d))::q7c d r)=_;rw [look?_cons,look?_cons,ih];by_cases e2:u=b
   ·subst e2
    rw [if_pos rfl,if_pos rfl,if_neg e];rfl
   ·rw [if_neg e2,if_neg e2]
theorem q3v {base:Nat} {e:TypeId} {size n:Nat} {v:Value} {xs:List Value} (ho:w.ownsRow base e size v n xs):∀ g,v.ownBlock=some g→g<w.heap.size:=by
 intro g hg;rcases ho.2 with ⟨rfl,_⟩ | ⟨g2,cap,cur,rfl,h2,h3,h4⟩
 ·cases hg
 ·have:g2=g:=by simpa [QL] using hg
  subst this;exact Blk.lt (t:=e) (cs:=cur) h3
theorem cells_val {κ':Cx} (hV:∀ k p v,Cell.Rep κ w (.val k p) v→Cell.Rep κ' w' (.val k p) v):∀ (ks:Kds) (p:ks.Pay) (c:Cell),c∈ks.cells p→∀ v,c.Rep κ w v→c.Rep κ' w' v
 | .one k,p,c,h,v,hv=>by
  obtain rfl:c=.val k p:=Q7.1 h;exact hV _ _ _ hv
 | .cons k ks,p,c,h,v,hv=>by
  rcases Ql.1 h with rfl | h
  ·exact hV _ _ _ hv
  ·exact cells_val hV ks p.2 c h v hv
theorem q1l {κ':Cx} (hV:∀ k p v,Cell.Rep κ w (.val k p) v→Cell.Rep κ' w' (.val k p) v) (x:CK) (p:x.Pay) {v:Value} (h:(x.comp p).Rep κ w v):(x.comp p).Rep κ' w' v:=by
 cases x with
 | one k=>exact hV _ _ _ h
 | agg ks =>
  obtain ⟨vs,rfl,h⟩:=h;exact ⟨vs,rfl,h.1,λi c hc=>let ⟨v,hv,hx⟩:=h.2.1 i c hc;⟨v,hv,cells_val hV ks p c (Qd hc) v hx⟩,h.2.2⟩
def _root_.Go.Obj.q2q:Obj→Bool
 | .cells _ _ _=>false
 | _=>true
theorem q45 {base:Nat} {e:TypeId} {size n:Nat} {v:Value} {xs:List Value} (ho:w.ownsRow base e size v n xs):∀ g,v.ownBlock=some g→∀ o:Obj,o.q2q=true→w.heap[g]? ≠ some o:=by
 intro g hg o hml hh;rcases ho.2 with ⟨rfl,_⟩ | ⟨g2,cap,cur,rfl,h2,h3,h4⟩
 ·cases hg
 ·have:g2=g:=by simpa [QL] using hg
  subst this;rw [h3] at hh;injection hh with hh;rw [← hh] at hml;cases hml
theorem EntRep.mono {κ':Cx} {y:MRow} {es:Array MapEntry} {clock:Nat} (h:EntRep κ w y es clock) (hV:∀ k p v,Cell.Rep κ w (.val k p) v→Cell.Rep κ' w' (.val k p) v):EntRep κ' w' y es clock where
 size:=h.size
 at_:=λi x hx=>by
  obtain ⟨e,he,h1,h2⟩:=h.at_ i x hx;exact ⟨e,he,q1l hV _ _ h1,q1l hV _ _ h2⟩
 born:=h.born
 apart:=h.apart
theorem src_eq {κ':Cx} (hμ:κ'.μ=κ.μ) (src:Src):κ'.src src=κ.src src:=by cases src <;> simp only [Cx.src,hμ]
theorem q9h.mono {κ':Cx} {kk vk:CK} {xs:List (kk.Pay×vk.Pay)} {es:List MapEntry} (h:q9h κ w kk vk xs es) (hV:∀ k p v,Cell.Rep κ w (.val k p) v→Cell.Rep κ' w' (.val k p) v):q9h κ' w' kk vk xs es :=
 ⟨h.1,λi x hx=>let ⟨e,he,h1,h2⟩:=h.2 i x hx;⟨e,he,q1l hV _ _ h1,q1l hV _ _ h2⟩⟩
theorem NestRep.move {κ':Cx} {n0:Nat} {maps:List (Nat×MRow)} {y:NRow} (h:NestRep n0 κ maps w y) (hμ:κ'.μ=κ.μ) (hV:∀ k p v,Cell.Rep κ w (.val k p) v→Cell.Rep κ' w' (.val k p) v) (hm:∀ (g:Nat) (o:Obj),o.q2q=true→w.heap[g]? = some o→w'.heap[g]? = some o):NestRep n0 κ' maps w' y where
 out:=by
  obtain ⟨es,clock,h1,h2,h3,h4,h5⟩:=h.out;rw [hμ];exact ⟨es,clock,hm _ _ rfl h1,h2,λi x hx=>let ⟨e,he,q1,q2⟩:=h3 i x hx;⟨e,he,q1l hV _ _ q1,q2⟩,h4,h5⟩
 inn:=λi x hx=>by
  obtain ⟨g,es,clock,h1,h2,h3,h4,h5,h6⟩:=h.inn i x hx;rw [hμ];exact ⟨g,es,clock,h1,hm _ _ rfl h2,h3.mono hV,h4,h5,h6⟩
 miss:=λk hk=>by rw [hμ];exact h.miss k hk
 inj:=λi j x x' hx hx' e=>by rw [hμ] at e;exact h.inj i j x x' hx hx' e
 low:=by rw [hμ];exact h.low
 apart:=λm z hz=>by rw [hμ];exact h.apart m z hz
theorem q59.move {κ':Cx} {n0:Nat} {z:ItP} {g:Nat} (h:q59 n0 κ w z g) (hμ:κ'.src z.src=κ.src z.src) (hV:∀ k p v,Cell.Rep κ w (.val k p) v→Cell.Rep κ' w' (.val k p) v) (hm:∀ o:Obj,o.q2q=true→w.heap[g]? = some o→w'.heap[g]? = some o)
  (hb:∀ (bm:Nat) es c,κ.src z.src=some bm→w.heap[bm]? = some (QF es c)→w'.heap[bm]? = some (QF es c)):q59 n0 κ' w' z g:=by
 obtain ⟨h0,h⟩:=h;refine ⟨h0,?_⟩;rcases h with ⟨a,b,s,h1,h2⟩ | ⟨bm,es,clock,seen,c0,h1,h2,h3,h4,h5,h6,h7,h8⟩
 ·exact .inl ⟨a,b,s,hm _ rfl h1,h2⟩
 ·exact .inr ⟨bm,es,clock,seen,c0,hμ.trans h1,hb _ _ _ h1 h2,hm _ rfl h3,h4,h5,h6,h7.mono hV,λx hx=>let ⟨e,s',q1,q2,q3,q4,q5⟩:=h8 x hx;⟨e,s',q1,q2,q3,q1l hV _ _ q4,q1l hV _ _ q5⟩⟩
theorem qae {base:Nat} {e:TypeId} {size n:Nat} {v:Value} {xs:List Value} (ho:w.ownsRow base e size v n xs) (hk:∀ g,v.ownBlock=some g→w'.heap[g]? = w.heap[g]?):w'.ownsRow base e size v n xs :=
 ⟨ho.1,ho.2.imp id (λ⟨g,cap,cur,h1,h2,h3,h4⟩=>⟨g,cap,cur,h1,h2,(hk g (by rw [h1];rfl)).trans h3,h4⟩)⟩
theorem q0k.mono {κ':Cx} {fs:Kds} {xs:List fs.Pay} {cells:List Value} (h:q0k κ w fs xs cells) (hV:∀ k p v,Cell.Rep κ w (.val k p) v→Cell.Rep κ' w' (.val k p) v):q0k κ' w' fs xs cells :=
 λi x hx f z hz=>let ⟨u,hu,hr⟩:=h i x hx f z hz;⟨u,hu,hV z.1 z.2 u hr⟩
theorem FamRep.move {κ':Cx} {n0:Nat} {boxes boxes':List (Nat×List Cell)} {rows rows':List (Nat×Row)} {maps maps':List (Nat×MRow)} {y:FRow} (h:FamRep n0 κ boxes rows maps w y) (hφ:κ'.μ.φ=κ.μ.φ) (hfin:κ'.μ.fin=κ.μ.fin) (hfnw:κ'.μ.fnw=κ.μ.fnw∧κ'.μ.stp=κ.μ.stp)
  (hV:∀ k p v,Cell.Rep κ w (.val k p) v→Cell.Rep κ' w' (.val k p) v) (hm:∀ es c,w.heap[κ.μ.φ]? = some (QF es c)→w'.heap[κ.μ.φ]? = some (QF es c))
  (hk:∀ g,κ.sep boxes rows g→g<w.heap.size→(∀ o:Obj,o.q2q=true→w.heap[g]? ≠ some o)→w'.heap[g]? = w.heap[g]?) (hs:∀ g,κ.sep boxes rows g→g<w.heap.size→κ'.sep boxes' rows' g) (ha:∀ m z,look? m maps'=some z→κ'.μ m≠κ.μ.φ):FamRep n0 κ' boxes' rows' maps' w' y where
 out:=by
  obtain ⟨es,clock,h1,h2,h3,h4⟩:=h.out;rw [hφ,hfin];exact ⟨es,clock,hm _ _ h1,h2,λi x hx=>let ⟨e,he,q1,q2⟩:=h3 i x hx;⟨e,he,q1l hV _ _ q1,q2⟩,h4⟩
 low:=by rw [hφ];exact h.low
 inn:=λi x hx ho=>by
  obtain ⟨cells,h1,h2⟩:=h.inn i x hx ho;rw [hfin];exact ⟨cells,qae h1 (λg hg=>hk g (h.sep i x hx ho g hg) (q3v h1 g hg) (q45 h1 g hg)),h2.mono hV⟩
 miss:=λk hk=>by rw [hfin];exact h.miss k hk
 sep:=λi x hx ho g hg=>by
  rw [hfin] at hg;obtain ⟨cells,h1,_⟩:=h.inn i x hx ho;exact hs g (h.sep i x hx ho g hg) (q3v h1 g hg)
 inj:=λi j x x' hx hx' ho ho' g hg hg'=>by
  rw [hfin] at hg hg';exact h.inj i j x x' hx hx' ho ho' g hg hg'
 new:=λk l hp=>by
  obtain ⟨cells,h1,h2,h3⟩:=h.new k l hp;rw [hfnw.1,hfin];exact ⟨cells,qae h1 (λg hg=>hk g (h3 g hg).1 (q3v h1 g hg) (q45 h1 g hg)),h2.mono hV,λg hg=>⟨hs g (h3 g hg).1 (q3v h1 g hg),(h3 g hg).2⟩⟩
 once:=h.once
 stamp:=λk hk=>by
  obtain ⟨i,x,e,es,clock,h1,h2,h3,h4,h5⟩:=h.stamp k hk;rw [hφ,hfnw.2];exact ⟨i,x,e,es,clock,hm _ _ h1,h2,h3,h4,h5⟩
 apart:=λm z hz=>by rw [hφ];exact ha m z hz
def _root_.Go.Obj.ctl:Obj→Bool
 | .loop _ | .deferred _=>true
 | _=>false
theorem q5j {o:Obj} (h:o.ctl=true):o.q2q=true:=by cases o <;> first | rfl | cases h
structure LpEq (g:AV→AV) (L L':Lp):Prop where
 j:L'.j=L.j
 n:L'.n=L.n
 ps:L'.ps=L.ps
 busy:L'.busy=L.busy
 jump:L'.jump=L.jump
 env:∀ t,look (.c (.one .any)) t L'.env=g (look (.c (.one .any)) t L.env)
theorem LpEq.refl (L:Lp):LpEq id L L:=⟨rfl,rfl,rfl,rfl,rfl,λ_=>rfl⟩
theorem LpRep.move {κ':Cx} {n0:Nat} {C:Nat→Code×Code} {L L':Lp} {g:AV→AV} (h:LpRep n0 C κ w L) (e:LpEq g L L') (hl:κ'.μ.lam=κ.μ.lam) (ht:κ'.μ.tau=κ.μ.tau) (H:∀ (c:AV) v,c.Rep κ w v→(g c).Rep κ' w' v)
  (hm:∀ (g:Nat) (o:Obj),o.ctl=true→w.heap[g]? = some o→w'.heap[g]? = some o):LpRep n0 C κ' w' L' where
 low:=by rw [hl,e.j];exact h.low
 size:=by rw [ht,e.j,e.n];exact h.size
 rec_:=by
  obtain ⟨r,h1,h2,h3,h4,h5,h6,h7⟩:=h.rec_;rw [hl,ht,e.j,e.ps,e.busy,e.jump];exact ⟨r,hm _ _ rfl h1,h2,h3,h4,h5,h6,h7⟩
 env:=λt=>by rw [ht,e.j,e.env];exact H _ _ (h.env t)
def LpsTo (g:AV→AV) (l l':List Lp):Prop:=l'.length=l.length∧∀ (i:Nat) L',l'[i]? = some L'→∃ L,l[i]? = some L∧LpEq g L L'
theorem LpsTo.scope {g:AV→AV} {l l':List Lp} (h:LpsTo g l l') {lam lam' lam0:Nat→Nat} (hl:lam'=lam) {js:Nat→Prop} (hs:∀ j,js j→lam j=lam0 j∧∃ (i:Nat) (L:Lp),l[i]? = some L∧L.j=j):∀ j,js j→lam' j=lam0 j∧∃ (i:Nat) (L:Lp),l'[i]? = some L∧L.j=j:=λj hj=>by
 obtain ⟨h0,i,L,hL,e⟩:=hs j hj;have hi:i<l'.length:=by rw [h.1];exact (Qn.1 hL).1
 obtain ⟨L',h1,h2⟩:=h.2 i l'[i] (Qo hi);rw [hL] at h1;injection h1 with h1;subst h1;exact ⟨by rw [hl];exact h0,i,l'[i],Qo hi,h2.j.trans e⟩
theorem Ext.move {κ':Cx} {st':St} {g:AV→AV} (h:Ext w0 κ st w) (H:∀ (c:AV) v,c.Rep κ w v→(g c).Rep κ' w' v) (hsav:∀ t,look (.c (.one .any)) t st'.sav=g (look (.c (.one .any)) t st.sav)) (hmaps:st'.maps=st.maps∧st'.nest=st.nest∧st'.iters=st.iters∧st'.fam=st.fam) (hμ:κ'.μ=κ.μ)
  (hV:∀ k p v,Cell.Rep κ w (.val k p) v→Cell.Rep κ' w' (.val k p) v) (hm:∀ (g:Nat) (o:Obj),o.q2q=true→w.heap[g]? = some o→w'.heap[g]? = some o)
  (hfk:∀ g,κ.sep st.boxes st.rows g→g<w.heap.size→w'.heap[g]? = w.heap[g]?) (hfs:∀ g,κ.sep st.boxes st.rows g→g<w.heap.size→κ'.sep st'.boxes st'.rows g)
  (hM:κ'.M=κ.M) (hlps0:LpsTo g st.lps st'.lps):Ext w0 κ' st' w' where
 scope:=hlps0.scope (by rw [hμ]) h.scope
 marks:=λD hD=>by rw [hM] at hD;exact ⟨(h.marks D hD).1,hm _ _ rfl (h.marks D hD).2⟩
 fresh:=by rw [hM];exact h.fresh
 busy:=λl hl=>by
  obtain ⟨h1,r,h2⟩:=h.busy l hl;exact ⟨h1,r,hm _ _ rfl h2⟩
 lps:=λi L' hL'=>by
  obtain ⟨L,hL,e⟩:=hlps0.2 i L' hL';exact (h.lps i L hL).move e (by rw [hμ]) (by rw [hμ]) H (λg o ho=>hm g o (q5j ho))
 lpsd:=λi k L1 L2 h1 h2 e=>by
  obtain ⟨L1',g1,e1⟩:=hlps0.2 i L1 h1;obtain ⟨L2',g2,e2⟩:=hlps0.2 k L2 h2;rw [hμ,e1.j,e2.j] at e;exact h.lpsd i k L1' L2' g1 g2 e
 fam:=λy hy=>by
  rw [hmaps.2.2.2] at hy;have hF:=h.fam y hy;refine hF.move (by rw [hμ]) (by rw [hμ]) ⟨by rw [hμ],by rw [hμ]⟩ hV (λes c hh=>hm _ _ rfl hh) (λg h1 h2 _=>hfk g h1 h2) hfs (λm z hz=>?_)
  rw [hmaps.1] at hz;rw [hμ];exact hF.apart m z hz
 excl:=by rw [hmaps.2.2.2,hmaps.2.1];exact h.excl
 sav:=λt=>by rw [hsav];exact H _ _ (h.sav t)
 map:=λm y hy=>by
  have hy:look? m st'.maps=some y:=hy;rw [hmaps.1] at hy;obtain ⟨es,clock,h1,h2,h3⟩:=h.map m y hy;rw [hμ];exact ⟨es,clock,hm _ _ rfl h1,h2.mono hV,h3⟩
 maps:=λm m' y y' hy hy' e=>by
  have hy:look? m st'.maps=some y:=hy;have hy':look? m' st'.maps=some y':=hy';rw [hmaps.1] at hy hy';rw [hμ] at e;exact h.maps m m' y y' hy hy' e
 nest:=λy hy=>by
  rw [hmaps.2.1] at hy;rw [hmaps.1];exact (h.nest y hy).move hμ hV hm
 iter:=λi z hz=>by
  have hz:look? i st'.iters=some z:=hz;rw [hmaps.2.2.1] at hz;rw [hμ];exact (h.iter i z hz).move (src_eq hμ _) hV (hm _) (λbm es c _=>hm bm _ rfl)
 iters:=λi j z z' hz hz' e=>by
  have hz:look? i st'.iters=some z:=hz;have hz':look? j st'.iters=some z':=hz';rw [hmaps.2.2.1] at hz hz';rw [hμ] at e;exact h.iters i j z z' hz hz' e
theorem q4v (g:AV→AV) (hg:g (.c (.one .any))=.c (.one .any)) (l:List Lp):∀ (i:Nat) L',(l.map (Lp.mapA g))[i]? = some L'→∃ L,l[i]? = some L∧LpEq g L L':=λi L' h=>by
 rw [Q9] at h;cases hx:l[i]? with
 | none=>rw [hx] at h;cases h
 | some L =>
  rw [hx] at h;injection h with h;subst h;refine ⟨L,rfl,rfl,rfl,rfl,rfl,rfl,λt=>?_⟩
  show look _ t (L.env.map λ(t,v)=>(t,g v))=_
  induction L.env with
  | nil=>exact hg.symm
  | cons x r ih =>
   obtain ⟨u,v⟩:=x;show look _ t ((u,g v)::r.map _)=_;rw [q0v,q0v,ih];split <;> rfl
theorem lps_same (l:List Lp):∀ (i:Nat) L',l[i]? = some L'→∃ L,l[i]? = some L∧LpEq id L L':=λi L' h=>⟨L',h,LpEq.refl L'⟩
theorem q9d (g:AV→AV) (hg:g (.c (.one .any))=.c (.one .any)) (l:List Lp):LpsTo g l (l.map (Lp.mapA g)):=⟨Qg ..,q4v g hg l⟩
theorem qa9 (l:List Lp):LpsTo id l l:=⟨rfl,lps_same l⟩
theorem q1h (hb:Below w.heap.size w w'):∀ (g:Nat) (o:Obj),o.q2q=true→w.heap[g]? = some o→w'.heap[g]? = some o:=λg o _ h=>(hb.block g (Q0.1 h).1).trans h
theorem maps_only {g0:Nat} (h:Only g0 w w') {t:TypeId} {vs:Array Value} (hb:Blk w g0 t vs):∀ (g:Nat) (o:Obj),o.q2q=true→w.heap[g]? = some o→w'.heap[g]? = some o:=λg o ho hg=>(h.block g (λe=>by subst e;rw [show w.heap[g]? = _ from hb] at hg;injection hg with hg;rw [← hg] at ho;cases ho)).trans hg
theorem Rel.q8o (h:Rel w0 κ st a w) {d i:Nat} (hd:d<st.n) {cs:List Cell} {vs:Array Value} (hv:q06 κ w cs vs) (ty:TypeId) :
  ∃ κ',Rel w0 κ' (st.q8o d i cs) (a.put (some d) (.pointer (some ⟨w.heap.size,0,none⟩))) (w.alloc (.cells vs ty)):=by
 have hbel:Below w.heap.size w (w.alloc (.cells vs ty)):=q02 (q03 w) _;have hkeep:Keeps w (w.alloc (.cells vs ty)) κ.S:=Keeps.below hbel κ.S
 let κ':Cx:={ κ with β:=λb=>if b=i then w.heap.size else κ.β b }
 have H:∀ (c:Cell) v,c.Rep κ w v→(c.forget i).Rep κ' (w.alloc (.cells vs ty)) v:=λc v hr =>
  forget_rep (κ':=κ') (λb hb=>if_neg hb) rfl rfl hkeep (λg hg _=>hg) hr
 have hbox:∀ b bs,(st.q8o d i cs).box b=some bs→(b=i∧bs=cs.map (Cell.forget i))∨(b≠i∧∃ bs0,st.box b=some bs0∧bs=bs0.map (Cell.forget i)):=λb bs hb=>by
  have hb:look? b ((i,cs.map (Cell.forget i))::q7c i st.boxes)=some bs:=hb;rw [look?_cons,qh7] at hb;by_cases e:i=b
  ·rw [if_pos e] at hb;injection hb with hb;exact .inl ⟨e.symm,hb.symm⟩
  ·rw [if_neg e,if_neg (λh=>e h.symm)] at hb
   refine .inr ⟨λh=>e h.symm,?_⟩
   cases hx:look? b st.boxes with
   | none=>rw [hx] at hb;cases hb
   | some bs0=>rw [hx] at hb;injection hb with hb;exact ⟨bs0,hx,hb.symm⟩
 have hlt:∀ b bs,st.box b=some bs→κ.β b<w.heap.size:=λb bs hb=>by
  obtain ⟨vs,ty,hblk,_⟩:=h.box b bs hb;exact hblk.lt
 refine ⟨κ',?_⟩;exact {
  defers:=h.defers
  size:=by show (a.tmps.setIfInBounds d _).size=_;rw [Qh];exact h.size
  env:=λt=>by
   show AV.Rep κ' _ (look (.c (.one .any)) t ((d,.c (.one (.ptr i 0)))::st.env.map λ(t,v)=>(t,v.forget i))) ((a.tmps.setIfInBounds d _).getD t Go.undef)
   rw [q0v];by_cases e:d=t
   ·subst e
    rw [if_pos rfl];have hs:d<a.tmps.size:=by rw [h.size];exact hd
    rw [Qc,Qe hs];show QN _=QN (some ⟨if i=i then w.heap.size else κ.β i,0,none⟩)
    rw [if_pos rfl]
   ·rw [if_neg e,qct,Qc,Qj e,← Qc]
    exact forget_av H (h.env t)
  box:=λb bs hb=>by
   rcases hbox b bs hb with ⟨rfl,rfl⟩ | ⟨hne,bs0,hb0,rfl⟩
   ·refine ⟨vs,ty,?_,qbn H hv,?_,?_⟩
    ·show Blk _ (if b=b then w.heap.size else κ.β b) ty vs
     rw [if_pos rfl];exact Blk.new w ty vs
    ·show _≤(if b=b then w.heap.size else κ.β b)∨_
     rw [if_pos rfl];exact .inl h.low
    ·show ¬ κ.S (if b=b then w.heap.size else κ.β b)
     rw [if_pos rfl];exact λhS=>absurd (h.bound _ hS) (Qy _)
   ·obtain ⟨us,ty',hblk,hr,h1,h2⟩:=h.box b bs0 hb0
    refine ⟨us,ty',?_,qbn H hr,?_,?_⟩
    ·show Blk _ (if b=i then w.heap.size else κ.β b) ty' us
     rw [if_neg hne];exact hblk.bel hbel
    ·show _≤(if b=i then w.heap.size else κ.β b)∨w0.X (if b=i then w.heap.size else κ.β b)
     rw [if_neg hne];exact h1
    ·show ¬ κ.S (if b=i then w.heap.size else κ.β b)
     rw [if_neg hne];exact h2
  apart:=λb b' bs bs' hb hb' e=>by
   have e:(if b=i then w.heap.size else κ.β b)=(if b'=i then w.heap.size else κ.β b'):=e
   rcases hbox b bs hb with ⟨rfl,_⟩ | ⟨hne,bs0,hb0,_⟩ <;> rcases hbox b' bs' hb' with ⟨rfl,_⟩ | ⟨hne',bs0',hb0',_⟩
   ·rfl
   ·rw [if_pos rfl,if_neg hne'] at e
    exact absurd (hlt _ _ hb0') (by omega)
   ·rw [if_neg hne,if_pos rfl] at e
    exact absurd (hlt _ _ hb0) (by omega)
   ·rw [if_neg hne,if_neg hne'] at e
    exact h.apart b b' _ _ hb0 hb0' e
  row:=λr x hx=>by
   obtain ⟨cells,ho,hc,hn⟩:=h.row r x hx;refine ⟨cells,q31 ho hbel,hc.keeps hkeep (λg hg _=>hg),λg hg=>⟨(hn g hg).1,λb bs hb e=>?_⟩⟩
   have e:(if b=i then w.heap.size else κ.β b)=g:=e
   rcases hbox b bs hb with ⟨rfl,_⟩ | ⟨hne,bs0,hb0,_⟩
   ·rw [if_pos rfl] at e
    have:g<w.heap.size:=q3v ho g hg
    omega
   ·rw [if_neg hne] at e
    exact (hn g hg).2 b bs0 hb0 e
  rows:=h.rows
  bound:=λg hg=>Q3 (h.bound g hg) hbel.size
  below:=h.below.alloc h.low _
  old:=h.old
  ext:=h.ext.move (g:=λv=>v.forget i) (λc v hr=>forget_av H hr) (λt=>qct i t st.sav) ⟨rfl,rfl,rfl,rfl⟩ rfl (λk p v hr=>H (.val k p) v hr) (q1h hbel) (λg _ hl=>hbel.block g hl)
   (λg hs hl=>⟨hs.1,λb bs hb e=>by
    have e:(if b=i then w.heap.size else κ.β b)=g:=e
    rcases hbox b bs hb with ⟨rfl,_⟩ | ⟨hne,bs0,hb0,_⟩
    ·rw [if_pos rfl] at e;omega
    ·rw [if_neg hne] at e
     exact hs.2.1 b bs0 hb0 e,hs.2.2⟩) rfl (q9d _ rfl _) }
theorem Rel.store (h:Rel w0 κ st a w) {b:Nat} {bs:List Cell} (hb:st.box b=some bs) (ho:Only (κ.β b) w w') {cs:List Cell} {vs:Array Value} {ty:TypeId} (hblk:Blk w' (κ.β b) ty vs) (hv:q06 κ w cs vs):Rel w0 κ (st.q7n b cs) a w':=by
 obtain ⟨us,ty0,hblk0,hr0,hge,hS⟩:=h.box b bs hb;have hkeep:Keeps w w' κ.S:=ho.keeps hS;have H:∀ (c:Cell) v,c.Rep κ w v→c.Rep κ w' v:=λc v hr=>hr.keeps rfl rfl rfl hkeep (λg hg _=>hg)
 have hbox:∀ b' bs',(st.q7n b cs).box b'=some bs'→(b'=b∧bs'=cs)∨(b'≠b∧st.box b'=some bs'):=λb' bs' hx=>by
  have hx:look? b' ((b,cs)::st.boxes)=some bs':=hx;rw [look?_cons] at hx;by_cases e:b=b'
  ·rw [if_pos e] at hx;injection hx with hx;exact .inl ⟨e.symm,hx.symm⟩
  ·rw [if_neg e] at hx;exact .inr ⟨λh=>e h.symm,hx⟩
 have hold:∀ b' bs',(st.q7n b cs).box b'=some bs'→∃ bs0,st.box b'=some bs0:=λb' bs' hx=>by
  rcases hbox b' bs' hx with ⟨rfl,_⟩ | ⟨_,h1⟩
  ·exact ⟨bs,hb⟩
  ·exact ⟨bs',h1⟩
 exact {
  defers:=h.defers
  size:=h.size
  env:=λt=>AV.Rep.mono H (h.env t)
  box:=λb' bs' hx=>by
   rcases hbox b' bs' hx with ⟨rfl,rfl⟩ | ⟨hne,hx⟩
   ·exact ⟨vs,ty,hblk,hv.mono H,hge,hS⟩
   ·obtain ⟨us',ty',hblk',hr',h1,h2⟩:=h.box b' bs' hx
    exact ⟨us',ty',ho.blk (λe=>hne (h.apart b' b bs' bs hx hb e)) hblk',hr'.mono H,h1,h2⟩
  apart:=λb1 b2 c1 c2 h1 h2 e=>by
   obtain ⟨x1,y1⟩:=hold b1 c1 h1;obtain ⟨x2,y2⟩:=hold b2 c2 h2;exact h.apart b1 b2 x1 x2 y1 y2 e
  row:=λr x hx=>by
   obtain ⟨cells,hown,hc,hn⟩:=h.row r x hx;refine ⟨cells,ho.owns hown (λe=>(hn _ e).2 b bs hb rfl),hc.keeps hkeep (λg hg _=>hg),λg hg=>⟨(hn g hg).1,λb' bs' hb' e=>?_⟩⟩
   obtain ⟨x1,y1⟩:=hold b' bs' hb';exact (hn g hg).2 b' x1 y1 e
  rows:=h.rows
  bound:=λg hg=>by rw [ho.size];exact h.bound g hg
  below:=ho.belowX h.below hge
  old:=h.old
  ext:=h.ext.move (g:=id) (λc v hr=>AV.Rep.mono H hr) (λt=>rfl) ⟨rfl,rfl,rfl,rfl⟩ rfl (λk p v hr=>H (.val k p) v hr) (maps_only ho hblk0) (λg hs _=>ho.block g (λe=>hs.2.1 b bs hb e.symm))
   (λg hs _=>⟨hs.1,λb' bs' hx=>let ⟨x,y⟩:=hold b' bs' hx;hs.2.1 b' x y,hs.2.2⟩) rfl (qa9 _) }
theorem Rel.later (h:Rel w0 κ st a w) (hb:Below w.heap.size w w'):Rel w0 { κ with S:=λg=>κ.S g∨(w.heap.size≤g∧g<w'.heap.size) } st a w':=by
 have H:∀ (c:Cell) v,c.Rep κ w v→c.Rep { κ with S:=λg=>κ.S g∨(w.heap.size≤g∧g<w'.heap.size) } w' v:=λc v hr =>
  Cell.Rep.keeps (κ:=κ) (κ':={ κ with S:=λg=>κ.S g∨(w.heap.size≤g∧g<w'.heap.size) }) rfl rfl rfl (Keeps.below hb κ.S) (λg hg _=>.inl hg) hr
 exact {
  defers:=h.defers
  size:=h.size
  env:=λt=>AV.Rep.mono H (h.env t)
  box:=λb bs hx=>by
   obtain ⟨us,ty,hblk,hr,h1,h2⟩:=h.box b bs hx;refine ⟨us,ty,hblk.bel hb,hr.mono H,h1,λhh=>?_⟩
   have hlt:=hblk.lt;rcases hh with hh | ⟨hh,_⟩
   ·exact h2 hh
   ·exact absurd hlt (Qx.2 hh)
  apart:=h.apart
  row:=λr x hx=>by
   obtain ⟨cells,ho,hc,hn⟩:=h.row r x hx;refine ⟨cells,q31 ho hb,q0k.keeps (κ:=κ) (κ':={ κ with S:=λg=>κ.S g∨(w.heap.size≤g∧g<w'.heap.size) }) (Keeps.below hb κ.S) (λg hg _=>.inl hg) hc,λg hg=>⟨λhh=>?_,(hn g hg).2⟩⟩
   have hlt:=q3v ho g hg;rcases hh with hh | ⟨hh,_⟩
   ·exact (hn g hg).1 hh
   ·exact absurd hlt (Qx.2 hh)
  rows:=h.rows
  bound:=λg hg=>by
   rcases hg with hg | ⟨_,hg⟩
   ·exact Q3 (h.bound g hg) hb.size
   ·exact hg
  below:=h.below.trans (hb.mono h.low)
  old:=λg hg=>by
   rcases hg with hg | ⟨hg,_⟩
   ·exact h.old g hg
   ·exact .inr (Nat.le_trans h.low hg)
  ext:=h.ext.move (g:=id) (λc v hr=>AV.Rep.mono H hr) (λt=>rfl) ⟨rfl,rfl,rfl,rfl⟩ rfl (λk p v hr=>H (.val k p) v hr) (q1h hb) (λg _ hl=>hb.block g hl)
   (λg hs hl=>⟨λhh=>hh.elim hs.1 (λh=>absurd hl (Qx.2 h.1)),hs.2.1,hs.2.2⟩) rfl (qa9 _) }
theorem Rel.drew (h:Rel w0 κ st a w):Rel w0 κ st a { w with drawn:=w.drawn+1 } :=
 {defers:=h.defers,size:=h.size
  env:=λt=>AV.Rep.mono (λc v hr=>hr.keeps rfl rfl rfl (Keeps.below (q7z (q03 w)) κ.S) (λg hg _=>hg)) (h.env t)
  box:=λb bs hx=>by
   obtain ⟨us,ty,hblk,hr,h1,h2⟩:=h.box b bs hx;exact ⟨us,ty,hblk,hr.mono (λc v hr=>hr.keeps rfl rfl rfl (Keeps.below (q7z (q03 w)) κ.S) (λg hg _=>hg)),h1,h2⟩
  apart:=h.apart
  row:=λr x hx=>by
   obtain ⟨cells,ho,hc,hn⟩:=h.row r x hx;exact ⟨cells,ho,hc.keeps (Keeps.below (q7z (q03 w)) κ.S) (λg hg _=>hg),hn⟩
  rows:=h.rows
  bound:=h.bound
  below:=h.below.drew
  old:=h.old
  ext:=h.ext.move (g:=id) (λc v hr=>AV.Rep.mono (λc v hr=>hr.keeps rfl rfl rfl (Keeps.below (q7z (q03 w)) κ.S) (λg hg _=>hg)) hr) (λt=>rfl) ⟨rfl,rfl,rfl,rfl⟩ rfl (λk p v hr=>Cell.Rep.keeps (κ:=κ) (κ':=κ) (c:=.val k p) rfl rfl rfl (Keeps.below (q7z (q03 w)) κ.S) (λg hg _=>hg) hr) (λg o _ h=>h) (λ_ _ _=>rfl) (λ_ hs _=>hs) rfl (qa9 _) }
theorem Rel.know (h:Rel w0 κ st a w) {t:Nat} {v:AV} (hv:v.Rep κ w (a.tmps.getD t Go.undef)):Rel w0 κ (st.set t v) a w :=
 {defers:=h.defers,size:=h.size
  env:=λu=>by
   rw [St.get_set];split
   ·rename_i e;subst e;exact hv
   ·exact h.env u
  box:=h.box
  apart:=h.apart
  row:=h.row
  rows:=h.rows
  bound:=h.bound
  below:=h.below
  old:=h.old
  ext:=⟨h.ext.sav,h.ext.map,h.ext.maps,h.ext.nest,h.ext.iter,h.ext.iters,h.ext.fam,h.ext.excl,h.ext.marks,h.ext.fresh,h.ext.busy,h.ext.lps,h.ext.lpsd,h.ext.scope⟩ }
theorem Rel.put (h:Rel w0 κ st a w) {d:Option Nat} (hd:q0a st d=true) {v:AV} {u:Value} (hv:v.Rep κ w u):Rel w0 κ (st.put d v) (a.put d u) w:=by
 cases d with
 | none=>exact h
 | some d=>exact h.set (by unfold q0a at hd;rw [Nat.blt_eq] at hd;exact hd) hv
theorem q4y {κ':Cx} {g:Cell→Cell} (H:∀ (c:Cell) v,c.Rep κ w v→(g c).Rep κ' w' v) {cs:List Cell} {vs:Array Value} (h:q06 κ w cs vs):q06 κ' w' (cs.map g) vs :=
 ⟨by rw [Qg];exact h.1,λi c hc=>by
  rw [Q9] at hc;cases hx:cs[i]? with
  | none=>rw [hx] at hc;cases hc
  | some x =>
   rw [hx] at hc;injection hc with hc;subst hc;obtain ⟨v,hv,hr⟩:=h.2.1 i x hx;exact ⟨v,hv,H x v hr⟩,h.2.2⟩
theorem mapC_comp {κ':Cx} {g:Cell→Cell} (H:∀ (c:Cell) v,c.Rep κ w v→(g c).Rep κ' w' v) {x:Comp} {v:Value} (h:x.Rep κ w v):(x.mapC g).Rep κ' w' v:=by
 cases x with
 | one c=>exact H c v h
 | agg cs=>obtain ⟨vs,rfl,h⟩:=h;exact ⟨vs,rfl,q4y H h⟩
theorem q3h {κ':Cx} {g:Cell→Cell} (H:∀ (c:Cell) v,c.Rep κ w v→(g c).Rep κ' w' v) {x:AV} {v:Value} (h:x.Rep κ w v):(x.mapC g).Rep κ' w' v:=by
 cases x with
 | c x=>exact mapC_comp H h
 | tup xs =>
  obtain ⟨vs,rfl,h1,h2⟩:=h;exact ⟨vs,rfl,by rw [Qg];exact h1,λi c hc=>by
   rw [Q9] at hc;cases hx:xs[i]? with
   | none=>rw [hx] at hc;cases hc
   | some y =>
    rw [hx] at hc;injection hc with hc;subst hc;obtain ⟨u,hu,hr⟩:=h2 i y hx;exact ⟨u,hu,mapC_comp H hr⟩⟩
theorem q3w (g:Cell→Cell) (hg:g .any=.any) (t:Nat):∀ env:List (Nat×AV),look (.c (.one .any)) t (env.map λ(t,v)=>(t,v.mapC g))=(look (.c (.one .any)) t env).mapC g
 | []=>by show AV.c (.one .any)=AV.c (.one (g .any));rw [hg]
 | (u,v)::r=>by
  rw [Qk,q0v,q0v,q3w g hg t r];split <;> rfl
theorem look?_map {α:Type} (g:α→α) (b:Nat):∀ l:List (Nat×α),look? b (l.map λ(b,cs)=>(b,g cs))=(look? b l).map g
 | []=>rfl
 | (u,v)::r=>by
  rw [Qk,look?_cons,look?_cons,look?_map g b r];split <;> rfl
theorem look?_dropKey {α:Type} (r b:Nat):∀ l:List (Nat×α),look? b (q1q r l)=if b=r then none else look? b l
 | []=>by show none=_;split <;> rfl
 | (u,v)::l=>by
  have ih:=look?_dropKey r b l;show look? b (bif u.beq r then q1q r l else (u,v)::q1q r l)=_
  by_cases e:u=r
  ·subst e
   rw [Q8];show look? b (q1q u l)=_;rw [ih,look?_cons];by_cases e2:b=u
   ·rw [if_pos e2,if_pos e2]
   ·rw [if_neg e2,if_neg e2,if_neg (λh=>e2 h.symm)]
  ·have:u.beq r=false:=QG.mpr λh=>e (Qb h)
   rw [this];show look? b ((u,v)::q1q r l)=_;rw [look?_cons,look?_cons,ih];by_cases e2:u=b
   ·subst e2
    rw [if_pos rfl,if_pos rfl,if_neg e]
   ·rw [if_neg e2,if_neg e2]
theorem Rel.setRow (h:Rel w0 κ st a w) {r:Nat} {v':Value} {x:Row} {cells:List Value} {row:Option Nat} (hg:w.grownBy w' row) (hrow:∀ g,row=some g→(κ.ρ r).ownBlock=some g∧(st.row r).isSome=true)
  (hown:w'.ownsRow w0.n0 x.e x.fs.size v' x.xs.length cells) (hcells:q0k κ w x.fs x.xs cells)
  (hnew:∀ g,v'.ownBlock=some g→(row=some g∧(κ.ρ r).ownBlock=some g)∨w.heap.size≤g) :
  Rel w0 { κ with ρ:=λk=>if k=r then v' else κ.ρ k } (st.setRow r x) a w':=by
 have hnot:∀ g,row=some g→¬ κ.S g∧(∀ b cs,st.box b=some cs→κ.β b≠g)∧w0.n0≤g∧∀ k y,st.row k=some y→(κ.ρ k).ownBlock=some g→k=r:=λg hg'=>by
  obtain ⟨h1,h2⟩:=hrow g hg';obtain ⟨y,hy⟩:=Qa.1 h2;obtain ⟨cs,ho,_,hn⟩:=h.row r y hy;exact ⟨(hn g h1).1,(hn g h1).2,q2r ho g h1,λk z hz hk=>h.rows k r z y hz hy g hk h1⟩
 have hkeep:Keeps w w' κ.S:=⟨hg.size,λg o hs hlt=>Qt (hg.block g hlt (λe=>by
  cases hr:row with
  | none=>rw [hr] at e;cases e
  | some k=>rw [hr] at e;injection e with e;subst e;exact (hnot g hr).1 hs))⟩
 have hnmap:∀ g,row=some g→∀ o:Obj,o.q2q=true→w.heap[g]? ≠ some o:=λg hg' o hml hh=>by
  obtain ⟨h1,h2⟩:=hrow g hg';obtain ⟨y,hy⟩:=Qa.1 h2;obtain ⟨cs,ho,_,_⟩:=h.row r y hy;exact q45 ho g h1 o hml hh
 let κ':Cx:={ κ with ρ:=λk=>if k=r then v' else κ.ρ k }
 have H:∀ (c:Cell) v,c.Rep κ w v→(c.qbi r).Rep κ' w' v:=λc v hr=>by
  cases c with
  | own k =>
   show Cell.Rep κ' w' (bif k.beq r then .any else .own k) v
   cases hb:k.beq r
   ·have hne:k≠r:=λe=>by rw [e,Q8] at hb;cases hb
    show v=(if k=r then v' else κ.ρ k)∧_
    rw [if_neg hne];exact hr
   ·trivial
  | rp k sz i f =>
   show Cell.Rep κ' w' (bif k.beq r then .any else .rp k sz i f) v
   cases hb:k.beq r
   ·have hne:k≠r:=λe=>by rw [e,Q8] at hb;cases hb
    show ∃ g n c,(if k=r then v' else κ.ρ k)=_∧_
    rw [if_neg hne];exact hr
   ·trivial
  | sfx k sz i =>
   show Cell.Rep κ' w' (bif k.beq r then .any else .sfx k sz i) v
   cases hb:k.beq r
   ·have hne:k≠r:=λe=>by rw [e,Q8] at hb;cases hb
    show ∃ g n c,(if k=r then v' else κ.ρ k)=_∧_
    rw [if_neg hne];exact hr
   ·trivial
  | any=>trivial
  | undef=>exact hr
  | nil=>exact hr
  | val k p=>exact Kd.Rep.keeps hkeep (λg hg _=>hg) k p v hr
  | ptr b off=>exact hr
  | ep fs p f =>
   obtain ⟨g,o,rfl,hlt,hs,hr⟩:=hr;exact ⟨g,o,rfl,Q3 hlt hkeep.size,hs,Kds.Rep.keeps hkeep (λg hg _=>hg) fs p g o hs hlt hr⟩
  | fn f=>exact hr
  | clo f k ps=>exact hr
  | fsl cls=>exact qac (κ':=κ') (λcl _=>q6t rfl cl) hkeep (λg hg _=>hg) hr
  | fel cls n=>exact qah (κ':=κ') (λcl _=>q6t rfl cl) hkeep (λg hg _=>hg) hr
  | nilm=>exact hr
  | mref m=>exact hr
  | nref=>exact hr
  | iref kk k=>exact hr
  | iter i=>exact hr
  | fref=>exact hr
  | fent kk k=>exact hr
  | fp kk k sz i f=>exact hr
  | fnew=>exact hr
  | yld j=>exact hr
  | fstamp=>exact hr
  | kseq f src =>
   obtain ⟨g,rfl,hg,hs,hc⟩:=hr;exact ⟨g,rfl,Q3 hg hkeep.size,hs,by rw [src_eq (κ:=κ) (κ':=κ') rfl];exact (hkeep.cell g 0 hs hg).trans hc⟩
  | bnd f x p=>exact qab (κ':=κ') hkeep (λg hg _=>hg) hr
  | dyn t ks p =>
   obtain ⟨us,rfl,hl,hu⟩:=hr;exact ⟨us,rfl,hl,λf z hz=>let ⟨u,h1,h2⟩:=hu f z hz;⟨u,h1,Kd.Rep.keeps hkeep (λg hg _=>hg) z.1 z.2 u h2⟩⟩
 have hbox:∀ b bs,(st.setRow r x).box b=some bs→∃ bs0,st.box b=some bs0∧bs=bs0.map (Cell.qbi r):=λb bs hb=>by
  have hb:look? b (st.boxes.map λ(b,cs)=>(b,cs.map (Cell.qbi r)))=some bs:=hb
  rw [look?_map] at hb;cases hx:look? b st.boxes with
  | none=>rw [hx] at hb;cases hb
  | some bs0=>rw [hx] at hb;injection hb with hb;exact ⟨bs0,hx,hb.symm⟩
 have hrows:∀ k y,(st.setRow r x).row k=some y→(k=r∧y=x)∨(k≠r∧st.row k=some y):=λk y hy=>by
  have hy:look? k ((r,x)::q1q r st.rows)=some y:=hy;rw [look?_cons,look?_dropKey] at hy;by_cases e:r=k
  ·rw [if_pos e] at hy;injection hy with hy;exact .inl ⟨e.symm,hy.symm⟩
  ·rw [if_neg e,if_neg (λh=>e h.symm)] at hy;exact .inr ⟨λh=>e h.symm,hy⟩
 have hblk:∀ {k:Nat} {t:TypeId} {cs:Array Value},Blk w k t cs→some k≠row→Blk w' k t cs:=λhb hne=>(hg.block _ hb.lt hne).trans hb
 have hv'b:∀ g,v'.ownBlock=some g→¬ κ.S g∧(∀ b cs,st.box b=some cs→κ.β b≠g)∧∀ k y,k≠r→st.row k=some y→(κ.ρ k).ownBlock≠some g:=λg hg'=>by
  rcases hnew g hg' with ⟨h1,_⟩ | h1
  ·obtain ⟨q1,q2,_,q4⟩:=hnot g h1
   exact ⟨q1,q2,λk y hk hy e=>hk (q4 k y hy e)⟩
  ·refine ⟨λhs=>absurd (h.bound g hs) (Qx.2 h1),λb cs hb e=>?_,λk y _ hy e=>?_⟩
   ·obtain ⟨us,ty,hbk,_⟩:=h.box b cs hb
    have:=hbk.lt
    omega
   ·obtain ⟨cs,ho,_⟩:=h.row k y hy
    have:=q3v ho g e
    omega
 exact {
  defers:=h.defers
  size:=h.size
  env:=λt=>by
   show AV.Rep _ _ (look _ t (st.env.map λ(t,v)=>(t,v.mapC (Cell.qbi r)))) _
   rw [q3w _ rfl];exact q3h H (h.env t)
  box:=λb bs hb=>by
   obtain ⟨bs0,hb0,rfl⟩:=hbox b bs hb;obtain ⟨us,ty,hbk,hr,h1,h2⟩:=h.box b bs0 hb0;refine ⟨us,ty,hblk hbk (λe=>?_),q4y H hr,h1,h2⟩
   cases hr':row with
   | none=>rw [hr'] at e;cases e
   | some k=>rw [hr'] at e;injection e with e;exact (hnot k hr').2.1 b bs0 hb0 e
  apart:=λb b' bs bs' hb hb' e=>by
   obtain ⟨bs0,hb0,_⟩:=hbox b bs hb;obtain ⟨bs0',hb0',_⟩:=hbox b' bs' hb';exact h.apart b b' _ _ hb0 hb0' e
  row:=λk y hy=>by
   rcases hrows k y hy with ⟨rfl,rfl⟩ | ⟨hne,hy⟩
   ·refine ⟨cells,?_,hcells.keeps hkeep (λg hg _=>hg),λg hg'=>?_⟩
    ·show w'.ownsRow _ _ _ (if k=k then v' else κ.ρ k) _ _
     rw [if_pos rfl];exact hown
    ·have hg':(if k=k then v' else κ.ρ k).ownBlock=some g:=hg'
     rw [if_pos rfl] at hg';obtain ⟨q1,q2,_⟩:=hv'b g hg';refine ⟨q1,λb bs hb e=>?_⟩
     obtain ⟨bs0,hb0,_⟩:=hbox b bs hb;exact q2 b bs0 hb0 e
   ·obtain ⟨cs,ho,hc,hn⟩:=h.row k y hy
    refine ⟨cs,?_,hc.keeps hkeep (λg hg _=>hg),λg hg'=>?_⟩
    ·show w'.ownsRow _ _ _ (if k=r then v' else κ.ρ k) _ _
     rw [if_neg hne];refine ho.kept hg ?_;cases hb:(κ.ρ k).ownBlock with
     | none=>exact .inl rfl
     | some g =>
      refine .inr λe=>?_
      exact hne ((hnot g e.symm).2.2.2 k y hy hb)
    ·have hg':(if k=r then v' else κ.ρ k).ownBlock=some g:=hg'
     rw [if_neg hne] at hg';refine ⟨(hn g hg').1,λb bs hb e=>?_⟩
     obtain ⟨bs0,hb0,_⟩:=hbox b bs hb;exact (hn g hg').2 b bs0 hb0 e
  rows:=λk k' y y' hy hy' g hk hk'=>by
   have hk:(if k=r then v' else κ.ρ k).ownBlock=some g:=hk
   have hk':(if k'=r then v' else κ.ρ k').ownBlock=some g:=hk'
   rcases hrows k y hy with ⟨rfl,_⟩ | ⟨hne,hy2⟩ <;> rcases hrows k' y' hy' with ⟨rfl,_⟩ | ⟨hne',hy2'⟩
   ·rfl
   ·rw [if_pos rfl] at hk
    rw [if_neg hne'] at hk';exact absurd hk' ((hv'b g hk).2.2 k' y' hne' hy2')
   ·rw [if_pos rfl] at hk'
    rw [if_neg hne] at hk;exact absurd hk ((hv'b g hk').2.2 k y hne hy2)
   ·rw [if_neg hne] at hk
    rw [if_neg hne'] at hk';exact h.rows k k' y y' hy2 hy2' g hk hk'
  bound:=λg hs=>Q3 (h.bound g hs) hg.size
  below:=h.below.grown hg h.low (λk hk=>(hnot k hk).2.2.1)
  old:=h.old
  ext:=h.ext.move (g:=λv=>v.mapC (Cell.qbi r)) (λc v hr=>q3h H hr) (λt=>q3w _ rfl t st.sav) ⟨rfl,rfl,rfl,rfl⟩ rfl (λk p v hr=>H (.val k p) v hr) (λg o ho hh=>(hg.block g (Q0.1 hh).1 (λe=>hnmap g e.symm o ho hh)).trans hh)
   (λg hs hl=>hg.block g hl (λe=>by
    obtain ⟨h1,h2⟩:=hrow g e.symm;obtain ⟨y,hy⟩:=Qa.1 h2;exact hs.2.2 r y hy h1))
   (λg hs hl=>⟨hs.1,λb bs hb=>by
    obtain ⟨bs0,hb0,_⟩:=hbox b bs hb;exact hs.2.1 b bs0 hb0,λk y hy e=>by
    have e:(if k=r then v' else κ.ρ k).ownBlock=some g:=e
    rcases hrows k y hy with ⟨rfl,_⟩ | ⟨hne,hy⟩
    ·rw [if_pos rfl] at e
     rcases hnew g e with ⟨h1,h2⟩ | h1
     ·obtain ⟨_,h3⟩:=hrow g h1
      obtain ⟨z,hz⟩:=Qa.1 h3;exact hs.2.2 _ z hz h2
     ·omega
    ·rw [if_neg hne] at e
     exact hs.2.2 k y hy e⟩) rfl (q9d _ rfl _) }
theorem owned_data (h:Rel w0 κ st a w) {r:Nat} {x:Row} (hx:st.row r=some x) {S':Nat→Prop} (hS:∀ g,κ.S g→S' g) (hS':∀ g,(κ.ρ r).ownBlock=some g→S' g):(Kd.sl x.fs).Rep w S' x.xs (κ.ρ r):=by
 obtain ⟨cells,ho,hc,_⟩:=h.row r x hx;obtain ⟨A,c,he⟩:=q2k ho;have hcap:x.xs.length≤c:=by
  rcases ho.2 with ⟨hv,h0⟩ | ⟨g,cap,cur,hv,_,_,h4,_⟩
  ·rw [h0];exact Nat.zero_le _
  ·rw [he] at hv;injection hv with _ _ hcc;omega
 refine ⟨A,c,he,hcap,λhpos=>?_⟩
 have hpos:0<x.xs.length:=hpos;have hA:∃ g,A=some ⟨g,0,none⟩:=by
  rcases ho.2 with ⟨_,h0⟩ | ⟨g,cap,cur,hv,_⟩
  ·omega
  ·rw [hv] at he;injection he with he;exact ⟨g,he.symm⟩
 obtain ⟨g,rfl⟩:=hA;have hbl:(κ.ρ r).ownBlock=some g:=by rw [he];rfl
 refine ⟨g,0,rfl,q3v ho g hbl,hS' g hbl,λi y hy=>?_⟩
 have hi:i<x.xs.length:=(Qn.1 hy).1;obtain ⟨_,hr⟩:=row_elem h hx he hi;have hge:x.xs.getD i x.fs.dflt=y:=by
  have hy:x.xs[i]? = some y:=hy;rw [List.getD_eq_getElem?_getD,hy];rfl
 rw [hge] at hr;rw [Nat.zero_add];exact Kds.Rep.qh9 x.fs y g _ λf z hz=>by
  obtain ⟨u,hu,hzr⟩:=Kds.Rep.fld x.fs y g _ f z hr hz;exact ⟨u,hu,Kd.Rep.keeps (Keeps.refl w κ.S) (λg hg _=>hS g hg) z.1 z.2 u hzr⟩
def St.thawR (st:St) (r:Nat) (c:Cell):Cell:=match st.row r with
 | some x=>c.thaw r x
 | none=>c
theorem Rel.freezeH (h:Rel w0 κ st a w) (r:Nat):∃ κ',Rel w0 κ' (st.freeze r) a w∧κ'.β=κ.β∧κ'.μ=κ.μ∧(∀ g,κ.S g→κ'.S g)∧∀ c v,Cell.Rep κ w c v→Cell.Rep κ' w (st.thawR r c) v:=by
 unfold St.freeze St.thawR;cases hx:st.row r with
 | none=>exact ⟨κ,h,rfl,rfl,λg hg=>hg,λc v h=>h⟩
 | some x =>
  let κ':Cx:={ κ with S:=λg=>κ.S g∨(κ.ρ r).ownBlock=some g }
  have hdata:=owned_data h hx (S':=κ'.S) (λg hg=>.inl hg) (λg hg=>.inr hg)
  have hkeep:∀ {c:Cell} {v:Value},c.Rep κ w v→c.Rep κ' w v:=λhr=>Cell.Rep.keeps (κ:=κ) (κ':=κ') rfl rfl rfl (Keeps.refl w κ.S) (λg hg _=>.inl hg) hr
  have H:∀ (c:Cell) v,c.Rep κ w v→(c.thaw r x).Rep κ' w v:=λc v hr=>by
   cases c with
   | own k =>
    show Cell.Rep κ' w (bif k.beq r then .val (.sl x.fs) x.xs else .own k) v
    cases hb:k.beq r
    ·exact hkeep (c:=.own k) hr
    ·obtain rfl:=Qb hb
     obtain ⟨rfl,_⟩:=hr;exact hdata
   | rp k sz i f =>
    show Cell.Rep κ' w (bif k.beq r then .any else .rp k sz i f) v
    cases hb:k.beq r
    ·exact hkeep (c:=.rp k sz i f) hr
    ·trivial
   | sfx k sz i =>
    show Cell.Rep κ' w (bif k.beq r then .any else .sfx k sz i) v
    cases hb:k.beq r
    ·exact hkeep (c:=.sfx k sz i) hr
    ·trivial
   | any=>trivial
   | undef=>exact hr
   | nil=>exact hr
   | val k p=>exact hkeep (c:=.val k p) hr
   | ptr b off=>exact hr
   | ep fs p f=>exact hkeep (c:=.ep fs p f) hr
   | fn f=>exact hr
   | clo f k ps=>exact hr
   | fsl cls=>exact hkeep (c:=.fsl cls) hr
   | fel cls n=>exact hkeep (c:=.fel cls n) hr
   | nilm=>exact hr
   | mref m=>exact hr
   | nref=>exact hr
   | iref kk k=>exact hr
   | iter i=>exact hr
   | fref=>exact hr
   | fent kk k=>exact hr
   | fp kk k sz i f=>exact hr
   | fnew=>exact hr
   | yld j=>exact hr
   | fstamp=>exact hr
   | kseq f src=>exact hkeep (c:=.kseq f src) hr
   | bnd f x p=>exact hkeep (c:=.bnd f x p) hr
   | dyn t ks p=>exact hkeep (c:=.dyn t ks p) hr
  have hbox:∀ b bs,look? b (st.boxes.map λ(b,cs)=>(b,cs.map (Cell.thaw r x)))=some bs→∃ bs0,st.box b=some bs0∧bs=bs0.map (Cell.thaw r x):=λb bs hb=>by
   rw [look?_map] at hb;cases hx:look? b st.boxes with
   | none=>rw [hx] at hb;cases hb
   | some bs0=>rw [hx] at hb;injection hb with hb;exact ⟨bs0,hx,hb.symm⟩
  have hrow:∀ k y,look? k (q1q r st.rows)=some y→k≠r∧st.row k=some y:=λk y hy=>by
   rw [look?_dropKey] at hy;split at hy
   ·cases hy
   ·rename_i hne;exact ⟨hne,hy⟩
  obtain ⟨cells0,ho0,_,hn0⟩:=h.row r x hx;refine ⟨κ',?_,rfl,rfl,λg hg=>.inl hg,H⟩
  exact {
   defers:=h.defers
   size:=h.size
   env:=λt=>by
    show AV.Rep _ _ (look _ t (st.env.map λ(t,v)=>(t,v.mapC (Cell.thaw r x)))) _
    rw [q3w _ rfl];exact q3h H (h.env t)
   box:=λb bs hb=>by
    obtain ⟨bs0,hb0,rfl⟩:=hbox b bs hb;obtain ⟨us,ty,hbk,hr,h1,h2⟩:=h.box b bs0 hb0;refine ⟨us,ty,hbk,q4y H hr,h1,λhh=>?_⟩
    rcases hh with hh | hh
    ·exact h2 hh
    ·exact (hn0 _ hh).2 b bs0 hb0 rfl
   apart:=λb b' bs bs' hb hb' e=>by
    obtain ⟨bs0,hb0,_⟩:=hbox b bs hb;obtain ⟨bs0',hb0',_⟩:=hbox b' bs' hb';exact h.apart b b' _ _ hb0 hb0' e
   row:=λk y hy=>by
    obtain ⟨hne,hy⟩:=hrow k y hy;obtain ⟨cs,ho,hc,hn⟩:=h.row k y hy;refine ⟨cs,ho,q0k.keeps (κ:=κ) (κ':=κ') (Keeps.refl w κ.S) (λg hg _=>.inl hg) hc,λg hg=>⟨λhh=>?_,λb bs hb e=>?_⟩⟩
    ·rcases hh with hh | hh
     ·exact (hn g hg).1 hh
     ·exact hne (h.rows k r y x hy hx g hg hh)
    ·obtain ⟨bs0,hb0,_⟩:=hbox b bs hb
     exact (hn g hg).2 b bs0 hb0 e
   rows:=λk k' y y' hy hy'=>h.rows k k' y y' (hrow k y hy).2 (hrow k' y' hy').2
   bound:=λg hg=>by
    rcases hg with hg | hg
    ·exact h.bound g hg
    ·exact q3v ho0 g hg
   below:=h.below
   old:=λg hg=>by
    rcases hg with hg | hg
    ·exact h.old g hg
    ·exact .inr (q2r ho0 g hg)
   ext:=h.ext.move (g:=λv=>v.mapC (Cell.thaw r x)) (λc v hr=>q3h H hr) (λt=>q3w _ rfl t st.sav) ⟨rfl,rfl,rfl,rfl⟩ rfl (λk p v hr=>H (.val k p) v hr) (λg o _ hh=>hh) (λ_ _ _=>rfl)
    (λg hs hl=>⟨λhh=>hh.elim hs.1 (λh=>hs.2.2 r x hx h),λb bs hb=>by
     obtain ⟨bs0,hb0,_⟩:=hbox b bs hb;exact hs.2.1 b bs0 hb0,λk y hy=>hs.2.2 k y (hrow k y hy).2⟩) rfl (q9d _ rfl _) }
theorem Rel.freeze (h:Rel w0 κ st a w) (r:Nat):∃ κ',Rel w0 κ' (st.freeze r) a w∧κ'.β=κ.β∧κ'.μ=κ.μ:=by
 obtain ⟨κ',h1,h2,h3,_⟩:=h.freezeH r;exact ⟨κ',h1,h2,h3⟩
theorem Rel.qhy:∀ (l:List Nat) {κ:Cx} {st:St},Rel w0 κ st a w→∃ κ',Rel w0 κ' (st.q08 l) a w∧κ'.μ=κ.μ
 | [],κ,st,h=>⟨κ,h,rfl⟩
 | r::l,κ,st,h=>by
  obtain ⟨κ1,h1,_,e⟩:=h.freeze r;obtain ⟨κ2,h2,e2⟩:=Rel.qhy l h1;exact ⟨κ2,h2,e2.trans e⟩
theorem Rel.q08:∀ (l:List Nat) {κ:Cx} {st:St},Rel w0 κ st a w→∃ κ',Rel w0 κ' (st.q08 l) a w
 | [],κ,st,h=>⟨κ,h⟩
 | r::l,κ,st,h=>by
  obtain ⟨κ1,h1,_⟩:=h.freeze r;exact Rel.q08 l h1
theorem q7f:∀ (l:List Nat) (st:St),(st.q08 l).n=st.n
 | [],st=>rfl
 | r::l,st=>by
  show ((st.freeze r).q08 l).n=_;rw [q7f l];unfold St.freeze;split <;> rfl
end
end R
namespace R
section
variable {w0:Base} {w w':World} {κ:Cx} {st:St} {a:Act} {P:Program}
theorem Rel.qdw (h:Rel w0 κ st a w) (m:Nat) (t:TypeId) (kk vk:CK):∃ κ',Rel w0 κ' (st.qdw m ⟨t,kk,vk,[]⟩) a (w.alloc (.map #[] 0))∧κ'.μ m=w.heap.size:=by
 have hbel:Below w.heap.size w (w.alloc (.map #[] 0)):=q02 (q03 w) _;have hkeep:Keeps w (w.alloc (.map #[] 0)) κ.S:=Keeps.below hbel κ.S
 let κ':Cx:={ κ with μ:={ κ.μ with at_:=λk=>if k=m then w.heap.size else κ.μ k } }
 have H:∀ (c:Cell) v,c.Rep κ w v→(c.q4m m).Rep κ' (w.alloc (.map #[] 0)) v:=λc v hr=>by
  cases c with
  | mref k =>
   show Cell.Rep κ' _ (bif k.beq m then .any else .mref k) v
   cases hb:k.beq m
   ·have hne:k≠m:=λe=>by rw [e,Q8] at hb;cases hb
    show v=.map (some (if k=m then w.heap.size else κ.μ k))
    rw [if_neg hne];exact hr
   ·trivial
  | any=>trivial
  | undef=>exact hr
  | nil=>exact hr
  | val k p=>exact Kd.Rep.keeps hkeep (λg hg _=>hg) k p v hr
  | ptr b off=>exact hr
  | ep fs p f =>
   obtain ⟨g,o,rfl,hlt,hs,hr⟩:=hr;exact ⟨g,o,rfl,Q3 hlt hkeep.size,hs,Kds.Rep.keeps hkeep (λg hg _=>hg) fs p g o hs hlt hr⟩
  | own r=>exact hr
  | rp r sz i f=>exact hr
  | sfx r sz i=>exact hr
  | fn f=>exact hr
  | clo f k ps=>exact hr
  | fsl cls=>exact qac (κ':=κ') (λcl _=>q6t rfl cl) hkeep (λg hg _=>hg) hr
  | fel cls n=>exact qah (κ':=κ') (λcl _=>q6t rfl cl) hkeep (λg hg _=>hg) hr
  | nilm=>exact hr
  | nref=>exact hr
  | iref kk k=>exact hr
  | iter i=>exact hr
  | fref=>exact hr
  | fent kk k=>exact hr
  | fp kk k sz i f=>exact hr
  | fnew=>exact hr
  | yld j=>exact hr
  | fstamp=>exact hr
  | kseq f src =>
   cases src with
   | map k =>
    show Cell.Rep κ' _ (bif k.beq m then .any else .kseq f (.map k)) v
    cases hb:k.beq m
    ·have hne:k≠m:=λe=>by rw [e,Q8] at hb;cases hb
     obtain ⟨g,rfl,hg,hs,hc⟩:=hr;refine ⟨g,rfl,Q3 hg hkeep.size,hs,(hkeep.cell g 0 hs hg).trans ?_⟩;rw [hc];show _=some (Value.map (some (if k=m then w.heap.size else κ.μ k)))
     rw [if_neg hne];rfl
    ·trivial
   | inner kk k =>
    obtain ⟨g,rfl,hg,hs,hc⟩:=hr;exact ⟨g,rfl,Q3 hg hkeep.size,hs,(hkeep.cell g 0 hs hg).trans hc⟩
   | none =>
    obtain ⟨g,rfl,hg,hs,hc⟩:=hr;exact ⟨g,rfl,Q3 hg hkeep.size,hs,(hkeep.cell g 0 hs hg).trans hc⟩
  | bnd f x p=>exact qab (κ':=κ') hkeep (λg hg _=>hg) hr
  | dyn t ks p =>
   obtain ⟨us,rfl,hl,hu⟩:=hr;exact ⟨us,rfl,hl,λf z hz=>let ⟨u,h1,h2⟩:=hu f z hz;⟨u,h1,Kd.Rep.keeps hkeep (λg hg _=>hg) z.1 z.2 u h2⟩⟩
 have HV:∀ k p v,Cell.Rep κ w (.val k p) v→Cell.Rep κ' (w.alloc (.map #[] 0)) (.val k p) v:=λk p v hr=>H (.val k p) v hr
 have hbox:∀ b bs,(st.qdw m ⟨t,kk,vk,[]⟩).box b=some bs→∃ bs0,st.box b=some bs0∧bs=bs0.map (Cell.q4m m):=λb bs hb=>by
  have hb:look? b (st.boxes.map λ(b,cs)=>(b,cs.map (Cell.q4m m)))=some bs:=hb
  rw [look?_map] at hb;cases hx:look? b st.boxes with
  | none=>rw [hx] at hb;cases hb
  | some bs0=>rw [hx] at hb;injection hb with hb;exact ⟨bs0,hx,hb.symm⟩
 have hmaps:∀ k y,(st.qdw m ⟨t,kk,vk,[]⟩).map k=some y→(k=m∧y=⟨t,kk,vk,[]⟩)∨(k≠m∧st.map k=some y):=λk y hy=>by
  have hy:look? k ((m,⟨t,kk,vk,[]⟩)::q1q m st.maps)=some y:=hy;rw [look?_cons,look?_dropKey] at hy;by_cases e:m=k
  ·rw [if_pos e] at hy;injection hy with hy;exact .inl ⟨e.symm,hy.symm⟩
  ·rw [if_neg e,if_neg (λh=>e h.symm)] at hy;exact .inr ⟨λh=>e h.symm,hy⟩
 have hlt:∀ k y,st.map k=some y→κ.μ k<w.heap.size:=λk y hy=>by
  obtain ⟨es,clock,h1,_⟩:=h.ext.map k y hy;exact (Q0.1 h1).1
 refine ⟨κ',?_,if_pos rfl⟩;exact {
  defers:=h.defers
  size:=h.size
  env:=λt=>by
   show AV.Rep _ _ (look _ t (st.env.map λ(t,v)=>(t,v.mapC (Cell.q4m m)))) _
   rw [q3w _ rfl];exact q3h H (h.env t)
  box:=λb bs hb=>by
   obtain ⟨bs0,hb0,rfl⟩:=hbox b bs hb;obtain ⟨us,ty,hbk,hr,h1,h2⟩:=h.box b bs0 hb0;exact ⟨us,ty,hbk.bel hbel,q4y H hr,h1,h2⟩
  apart:=λb b' bs bs' hb hb' e=>by
   obtain ⟨bs0,hb0,_⟩:=hbox b bs hb;obtain ⟨bs0',hb0',_⟩:=hbox b' bs' hb';exact h.apart b b' _ _ hb0 hb0' e
  row:=λr x hx=>by
   obtain ⟨cells,ho,hc,hn⟩:=h.row r x hx;refine ⟨cells,q31 ho hbel,q0k.keeps (κ:=κ) (κ':=κ') hkeep (λg hg _=>hg) hc,λg hg=>⟨(hn g hg).1,λb bs hb e=>?_⟩⟩
   obtain ⟨bs0,hb0,_⟩:=hbox b bs hb;exact (hn g hg).2 b bs0 hb0 e
  rows:=h.rows
  bound:=λg hg=>Q3 (h.bound g hg) hbel.size
  below:=h.below.alloc h.low _
  old:=h.old
  ext:={
   sav:=λt=>by
    show AV.Rep _ _ (look _ t (st.sav.map λ(t,v)=>(t,v.mapC (Cell.q4m m)))) _
    rw [q3w _ rfl];exact q3h H (h.ext.sav t)
   map:=λk y hy=>by
    rcases hmaps k y hy with ⟨rfl,rfl⟩ | ⟨hne,hy⟩
    ·refine ⟨#[],0,?_,⟨rfl,(λi x hx=>by cases hx),(λe he=>by cases he),by simp⟩,?_⟩
     ·show (w.alloc (.map #[] 0)).heap[if k=k then w.heap.size else κ.μ k]? = _
      rw [if_pos rfl];exact World.alloc_heap_new w _
     ·show _≤(if k=k then w.heap.size else κ.μ k)
      rw [if_pos rfl];exact h.low
    ·obtain ⟨es,clock,h1,h2,h3⟩:=h.ext.map k y hy
     refine ⟨es,clock,?_,h2.mono HV,?_⟩
     ·show (w.alloc (.map #[] 0)).heap[if k=m then w.heap.size else κ.μ k]? = _
      rw [if_neg hne];exact q1h hbel _ _ rfl h1
     ·show _≤(if k=m then w.heap.size else κ.μ k)
      rw [if_neg hne];exact h3
   maps:=λk k' y y' hy hy' e=>by
    have e:(if k=m then w.heap.size else κ.μ k)=(if k'=m then w.heap.size else κ.μ k'):=e
    rcases hmaps k y hy with ⟨e1,_⟩ | ⟨hne,hy2⟩ <;> rcases hmaps k' y' hy' with ⟨e2,_⟩ | ⟨hne',hy2'⟩
    ·rw [e1,e2]
    ·rw [if_pos e1,if_neg hne'] at e
     have:=hlt k' y' hy2'
     omega
    ·rw [if_pos e2,if_neg hne] at e
     have:=hlt k y hy2
     omega
    ·rw [if_neg hne,if_neg hne'] at e
     exact h.ext.maps k k' y y' hy2 hy2' e
   nest:=λy hy=>by
    have hN:=h.ext.nest y hy;have hN':NestRep w0.n0 κ' st.maps (w.alloc (.map #[] 0)) y:={
     out:=by
      obtain ⟨es,clock,h1,h2,h3,h4⟩:=hN.out;exact ⟨es,clock,q1h hbel _ _ rfl h1,h2,λi x hx=>let ⟨e,he,q1,q2⟩:=h3 i x hx;⟨e,he,q1l HV _ _ q1,q2⟩,h4⟩
     inn:=λi x hx=>by
      obtain ⟨g,es,clock,h1,h2,h3,h4,h5,h6⟩:=hN.inn i x hx;refine ⟨g,es,clock,h1,q1h hbel _ _ rfl h2,h3.mono HV,h4,h5,λk z hz=>?_⟩
      show (if k=m then w.heap.size else κ.μ k)≠g
      split
      ·have:=(Q0.1 h2).1;omega
      ·exact h6 k z hz
     miss:=hN.miss
     inj:=hN.inj
     low:=hN.low
     apart:=λk z hz=>by
      show (if k=m then w.heap.size else κ.μ k)≠κ.μ.ν
      obtain ⟨es,clock,h1,_⟩:=hN.out;split
      ·have:=(Q0.1 h1).1;omega
      ·exact hN.apart k z hz }
    have hsub:∀ k z,look? k ((m,(⟨t,kk,vk,[]⟩:MRow))::q1q m st.maps)=some z→k=m∨∃ z0,look? k st.maps=some z0:=λk z hz=>by
     rcases hmaps k z hz with ⟨e,_⟩ | ⟨_,hz⟩
     ·exact .inl e
     ·exact .inr ⟨z,hz⟩
    exact {
     out:=hN'.out
     inn:=λi x hx=>by
      obtain ⟨g,es,clock,h1,h2,h3,h4,h5,h6⟩:=hN'.inn i x hx;refine ⟨g,es,clock,h1,h2,h3,h4,h5,λk z hz=>?_⟩
      rcases hsub k z hz with rfl | ⟨z0,hz0⟩
      ·show (if k=k then w.heap.size else κ.μ k)≠g
       rw [if_pos rfl];obtain ⟨g2,es2,c2,q1,q2,_⟩:=hN.inn i x hx;have h1:κ.μ.inn (y.kk.kv x.1)=some g:=h1;rw [h1] at q1;injection q1 with q1;subst q1;have:=(Q0.1 q2).1;omega
      ·exact h6 k z0 hz0
     miss:=hN'.miss
     inj:=hN'.inj
     low:=hN'.low
     apart:=λk z hz=>by
      rcases hsub k z hz with rfl | ⟨z0,hz0⟩
      ·show (if k=k then w.heap.size else κ.μ k)≠κ.μ.ν
       rw [if_pos rfl];obtain ⟨es,clock,h1,_⟩:=hN.out;have:=(Q0.1 h1).1;omega
      ·exact hN'.apart k z0 hz0 }
   fam:=λy hy=>(h.ext.fam y hy).move (κ':=κ') rfl rfl ⟨rfl,rfl⟩ HV (λes c hh=>q1h hbel _ _ rfl hh) (λg _ hl _=>hbel.block g hl) (λg hs _=>⟨hs.1,λb bs hb=>by
    obtain ⟨bs0,hb0,_⟩:=hbox b bs hb;exact hs.2.1 b bs0 hb0,hs.2.2⟩) (λk z hz=>by
    show (if k=m then w.heap.size else κ.μ k)≠κ.μ.φ
    obtain ⟨es,clock,h1,_⟩:=(h.ext.fam y hy).out;have hl:=(Q0.1 h1).1;rcases hmaps k z hz with ⟨e,_⟩ | ⟨hne,hz⟩
    ·rw [if_pos e];omega
    ·rw [if_neg hne];exact (h.ext.fam y hy).apart k z hz)
   excl:=h.ext.excl
   marks:=λD hD=>⟨(h.ext.marks D hD).1,q1h hbel _ _ rfl (h.ext.marks D hD).2⟩
   fresh:=h.ext.fresh
   busy:=λl hl=>by
    obtain ⟨h1,r,h2⟩:=h.ext.busy l hl;exact ⟨h1,r,q1h hbel _ _ rfl h2⟩
   lps:=λi L' hL'=>by
    obtain ⟨L,hL,e⟩:=q4v (AV.mapC (Cell.q4m m)) rfl st.lps i L' hL';exact (h.ext.lps i L hL).move e rfl rfl (λc v hr=>q3h H hr) (λg o ho=>q1h hbel g o (q5j ho))
   scope:=(q9d (AV.mapC (Cell.q4m m)) rfl st.lps).scope rfl h.ext.scope
   lpsd:=λi k L1 L2 h1 h2 e=>by
    obtain ⟨L1',g1,e1⟩:=q4v (AV.mapC (Cell.q4m m)) rfl st.lps i L1 h1;obtain ⟨L2',g2,e2⟩:=q4v (AV.mapC (Cell.q4m m)) rfl st.lps k L2 h2;rw [e1.j,e2.j] at e;exact h.ext.lpsd i k L1' L2' g1 g2 e
   iter:=λi z hz=>by cases hz
   iters:=λi j z z' hz=>by cases hz } }
def World.q6g (w:World) (g:Nat) (es:Array MapEntry) (clock:Nat):World:={ w with heap:=w.heap.setIfInBounds g (.map es clock) }
theorem q2o {g k:Nat} {es:Array MapEntry} {clock:Nat} (h:k≠g):(World.q6g w g es clock).heap[k]? = w.heap[k]? := by
 show (w.heap.setIfInBounds g _)[k]? = _;rw [Qj (Ne.symm h)]
theorem qgt {g:Nat} {es:Array MapEntry} {clock:Nat} (h:g<w.heap.size):(World.q6g w g es clock).heap[g]? = some (.map es clock):=by
 show (w.heap.setIfInBounds g _)[g]? = _;rw [Qe h]
theorem setMapB_cell {g:Nat} {es es0:Array MapEntry} {clock c0:Nat} (h:w.heap[g]? = some (.map es0 c0)) (p:Addr):(World.q6g w g es clock).cell? p=w.cell? p:=by
 unfold World.cell?;by_cases e:p.block=g
 ·rw [e,qgt (Q0.1 h).1,h]
 ·rw [q2o e]
theorem qh3 (g:Nat) (es:Array MapEntry) (clock:Nat):(World.q6g w g es clock).heap.size=w.heap.size:=by
 show (w.heap.setIfInBounds g _).size=_;rw [Qh]
theorem qff {g:Nat} {es:Array MapEntry} {clock:Nat}:w.grownBy (World.q6g w g es clock) (some g):=⟨rfl,rfl,rfl,QA (qh3 g es clock).symm,λk _ hk=>q2o (λe=>hk (by rw [e]))⟩
theorem Rel.qdq (h:Rel w0 κ st a w) {m:Nat} {y y':MRow} (hy:st.map m=some y) {es:Array MapEntry} {clock:Nat} (hE:EntRep κ w y' es clock):Rel w0 κ (st.qdq m y') a (World.q6g w (κ.μ m) es clock):=by
 obtain ⟨es0,c0,hg,hE0,hn⟩:=h.ext.map m y hy;have hcell:=setMapB_cell (es:=es) (clock:=clock) hg;have hsize:=qh3 (w:=w) (κ.μ m) es clock;have hkeep:∀ S,Keeps w (World.q6g w (κ.μ m) es clock) S:=λS=>⟨QA hsize.symm,λg o _ _=>hcell _⟩
 have H:∀ (c:Cell) v,c.Rep κ w v→c.Rep κ (World.q6g w (κ.μ m) es clock) v:=λc v hr=>hr.keeps rfl rfl rfl (hkeep _) (λg hg _=>hg)
 have hblk:∀ {k:Nat} {t:TypeId} {cs:Array Value},Blk w k t cs→Blk (World.q6g w (κ.μ m) es clock) k t cs:=λ{k t cs} hb=>(q2o (λe=>by subst e;rw [show w.heap[κ.μ m]? = _ from hb] at hg;cases hg)).trans hb
 have hmaps:∀ k z,(st.qdq m y').map k=some z→(k=m∧z=y')∨(k≠m∧st.map k=some z):=λk z hz=>by
  have hz:look? k ((m,y')::q1q m st.maps)=some z:=hz;rw [look?_cons,look?_dropKey] at hz;by_cases e:m=k
  ·rw [if_pos e] at hz;injection hz with hz;exact .inl ⟨e.symm,hz.symm⟩
  ·rw [if_neg e,if_neg (λh=>e h.symm)] at hz;exact .inr ⟨λh=>e h.symm,hz⟩
 exact {
  defers:=h.defers
  size:=h.size
  env:=λt=>AV.Rep.mono H (h.env t)
  box:=λb bs hb=>by
   obtain ⟨us,ty,hbk,hr,h1,h2⟩:=h.box b bs hb;exact ⟨us,ty,hblk hbk,hr.mono H,h1,h2⟩
  apart:=h.apart
  row:=λr x hx=>by
   obtain ⟨cells,ho,hc,hn⟩:=h.row r x hx;refine ⟨cells,ho.kept qff ?_,hc.keeps (hkeep _) (λg hg _=>hg),hn⟩
   cases hb:(κ.ρ r).ownBlock with
   | none=>exact .inl rfl
   | some g =>
    refine .inr λe=>?_
    injection e with e;exact q45 ho g hb _ rfl (by rw [e];exact hg)
  rows:=h.rows
  bound:=λg hg=>by rw [hsize];exact h.bound g hg
  below:=h.below.grown qff h.low (λk hk=>by injection hk with hk;rw [← hk];exact hn)
  old:=h.old
  ext:={
   sav:=λt=>AV.Rep.mono H (h.ext.sav t)
   map:=λk z hz=>by
    rcases hmaps k z hz with ⟨rfl,rfl⟩ | ⟨hne,hz⟩
    ·exact ⟨es,clock,qgt (Q0.1 hg).1,hE.mono (λk p v hr=>H (.val k p) v hr),hn⟩
    ·obtain ⟨es1,c1,h1,h2,h3⟩:=h.ext.map k z hz
     exact ⟨es1,c1,(q2o (λe=>hne (h.ext.maps k m z y hz hy e))).trans h1,h2.mono (λk p v hr=>H (.val k p) v hr),h3⟩
   maps:=λk k' z z' hz hz' e=>by
    have hold:∀ k z,(st.qdq m y').map k=some z→∃ z0,st.map k=some z0:=λk z hz=>by
     rcases hmaps k z hz with ⟨rfl,_⟩ | ⟨_,hz⟩
     ·exact ⟨y,hy⟩
     ·exact ⟨z,hz⟩
    obtain ⟨z1,h1⟩:=hold k z hz;obtain ⟨z2,h2⟩:=hold k' z' hz';exact h.ext.maps k k' z1 z2 h1 h2 e
   nest:=λz hz=>by
    have hN:=h.ext.nest z hz;have hsub:∀ k x,look? k ((m,y')::q1q m st.maps)=some x→∃ x0,look? k st.maps=some x0:=λk x hx=>by
     rcases hmaps k x hx with ⟨rfl,_⟩ | ⟨_,hx⟩
     ·exact ⟨y,hy⟩
     ·exact ⟨x,hx⟩
    exact {
     out:=by
      obtain ⟨es1,c1,h1,h2,h3,h4⟩:=hN.out;exact ⟨es1,c1,(q2o (λe=>hN.apart m y hy e.symm)).trans h1,h2,λi x hx=>let ⟨e,he,q1,q2⟩:=h3 i x hx;⟨e,he,q1l (λk p v hr=>H (.val k p) v hr) _ _ q1,q2⟩,h4⟩
     inn:=λi x hx=>by
      obtain ⟨g,es1,c1,h1,h2,h3,h4,h5,h6⟩:=hN.inn i x hx;exact ⟨g,es1,c1,h1,(q2o (λe=>h6 m y hy e.symm)).trans h2,h3.mono (λk p v hr=>H (.val k p) v hr),h4,h5,λk x hx=>let ⟨x0,hx0⟩:=hsub k x hx;h6 k x0 hx0⟩
     miss:=hN.miss
     inj:=hN.inj
     low:=hN.low
     apart:=λk x hx=>let ⟨x0,hx0⟩:=hsub k x hx;hN.apart k x0 hx0 }
   fam:=λx hx=>(h.ext.fam x hx).move rfl rfl ⟨rfl,rfl⟩ (λk p v hr=>H (.val k p) v hr) (λes1 c hh=>(q2o (λe=>(h.ext.fam x hx).apart m y hy e.symm)).trans hh) (λg _ _ hno=>q2o (λe=>hno (QF es0 c0) rfl (by subst e;exact hg))) (λg hs _=>hs) (λk z hz=>by
    rcases hmaps k z hz with ⟨rfl,_⟩ | ⟨_,hz⟩
    ·exact (h.ext.fam x hx).apart _ y hy
    ·exact (h.ext.fam x hx).apart k z hz)
   excl:=h.ext.excl
   marks:=λD hD=>⟨(h.ext.marks D hD).1,(q2o (λe=>by have:=(h.ext.marks D hD).2;rw [e,hg] at this;cases this)).trans (h.ext.marks D hD).2⟩
   fresh:=h.ext.fresh
   busy:=λl hl=>by
    obtain ⟨h1,r,h2⟩:=h.ext.busy l hl;exact ⟨h1,r,(q2o (λe=>by rw [e,hg] at h2;cases h2)).trans h2⟩
   lps:=λi L hL=>by
    have hL0:=h.ext.lps i L hL;obtain ⟨r,h1,h2,h3,h4,h5,h6,h7⟩:=hL0.rec_;exact ⟨hL0.low,hL0.size,⟨r,(q2o (λe=>by rw [e,hg] at h1;cases h1)).trans h1,h2,h3,h4,h5,h6,h7⟩,λt=>AV.Rep.mono H (hL0.env t)⟩
   lpsd:=h.ext.lpsd
   scope:=h.ext.scope
   iter:=λi z hz=>by cases hz
   iters:=λi j z z' hz=>by cases hz } }
theorem qc7 {y:MRow} {es:Array MapEntry} {clock g:Nat} {t kt et:TypeId} (ht:P.underlying t=some (.map kt et)) (hk:q26 P kt y.kk=true) (hE:EntRep κ w y es clock) (hg:w.heap[g]? = some (.map es clock)) (k:y.kk.Pay) (v:y.vk.Pay) {u:Value} (hu:(y.vk.comp v).Rep κ w u) :
  ∃ es' clock',(Qp t (.map (some g)) (y.kk.kv k) u).run P w=.ok () (World.q6g w g es' clock')∧EntRep κ w ⟨y.t,y.kk,y.vk,Mp.put y.kk.eqB k v y.xs⟩ es' clock':=by
 have hp:=q23 hk;have hkeys:=hE.keys hp;have hf:=q3i hk k w es.toList y.xs hkeys;have hkr:(y.kk.comp k).Rep κ w (y.kk.kv k):=ck_rep hp;cases hi:Mp.idx y.kk.eqB k y.xs 0 with
 | none =>
  rw [hi] at hf;refine ⟨es.push { key:=y.kk.kv k,val:=u,born:=clock },clock+1,?_,?_⟩
  ·simp only [Qp,QC,run_underlying ht,Qm,Qq hg,q33 hk,hf,Option.bind_none,Qr _ hg]
   rfl
  ·show EntRep κ w ⟨y.t,y.kk,y.vk,Mp.put y.kk.eqB k v y.xs⟩ _ _
   rw [Mp.qe6 _ _ _ _ _ hi];exact {
    size:=by rw [Array.size_push,hE.size];simp
    at_:=λi x hx=>by
     have hx:(y.xs++[(k,v)])[i]? = some x:=hx;rcases Nat.lt_trichotomy i y.xs.length with hlt | heq | hgt
     ·rw [List.getElem?_append_left hlt] at hx
      obtain ⟨e,he,h1,h2⟩:=hE.at_ i x hx;refine ⟨e,?_,h1,h2⟩;rw [Qz,if_neg (by rw [hE.size];omega)]
      exact he
     ·subst heq
      rw [List.getElem?_append_right (Nat.le_refl _),Nat.sub_self] at hx;injection hx with hx;subst hx;exact ⟨{ key:=y.kk.kv k,val:=u,born:=clock },by rw [Qz,if_pos hE.size.symm],hkr,hu⟩
     ·rw [List.getElem?_eq_none (by simp;omega)] at hx;cases hx
    born:=λe he=>by
     rw [QH,List.mem_append] at he;rcases he with he | he
     ·exact Nat.lt_succ_of_lt (hE.born e he)
     ·obtain rfl:=Q7.1 he
      exact Nat.lt_succ_self _
    apart:=by
     rw [QH,List.map_append,List.nodup_append];refine ⟨hE.apart,by simp,λa ha b hb e=>?_⟩
     simp only [Qk,List.map_nil,Q7] at hb;obtain ⟨x,hx,rfl⟩:=QE.1 ha;have:=hE.born x hx;omega }
 | some r =>
  obtain ⟨q,_,hq,hqe,hq2⟩:=Mp.q52 _ _ _ _ _ _ hi;rw [Nat.sub_zero] at hq;obtain ⟨e,he,he1,he2⟩:=hE.at_ r.1 q hq;have he':es.toList[r.1]? = some e:=by simpa using he
  have hlt:r.1<es.size:=(Q0.1 he).1;have hek:e.key=y.kk.kv k:=by rw [q2i hp he1,q4r hqe]
  rw [hi] at hf;refine ⟨es.modify r.1 λe=>{ e with key:=y.kk.kv k,val:=u },clock,?_,?_⟩
  ·simp only [Qp,QC,run_underlying ht,Qm,Qq hg,q33 hk,hf,Option.bind_some,he',Option.map_some,he,Option.getD_some,hek,qad hp,Qr _ hg]
   rfl
  ·show EntRep κ w ⟨y.t,y.kk,y.vk,Mp.put y.kk.eqB k v y.xs⟩ _ _
   rw [Mp.qbo _ _ _ _ _ _ _ hi,Nat.sub_zero];have hb:(es.modify r.1 λe=>{ e with key:=y.kk.kv k,val:=u }).toList.map (·.born)=es.toList.map (·.born):=by
    apply List.ext_getElem?
    intro i;rw [Q9,Q9,Qs,Qs,Qi];split
    ·rw [Option.map_map];rfl
    ·rfl
   exact {
    size:=by rw [Array.size_modify,hE.size];simp
    at_:=λi x hx=>by
     have hx:(y.xs.set r.1 (k,v))[i]? = some x:=hx;rw [List.getElem?_set] at hx;by_cases ei:r.1=i
     ·subst ei
      rw [if_pos rfl,if_pos (by rw [← hE.size];exact hlt)] at hx
      injection hx with hx;subst hx;exact ⟨{ e with key:=y.kk.kv k,val:=u },by rw [Qi,if_pos rfl,he];rfl,hkr,hu⟩
     ·rw [if_neg ei] at hx
      obtain ⟨e',h1,h2,h3⟩:=hE.at_ i x hx;exact ⟨e',by rw [Qi,if_neg ei];exact h1,h2,h3⟩
    born:=λe' he'=>by
     have:e'.born∈es.toList.map (·.born):=by rw [← hb];exact QE.2 ⟨e',he',rfl⟩
     obtain ⟨x,hx,hxe⟩:=QE.1 this;rw [← hxe];exact hE.born x hx
    apart:=by rw [hb];exact hE.apart }
end
end R
namespace R
section
variable {w0:Base} {w w':World} {κ:Cx} {st:St} {a:Act} {P:Program}
def Cx.of (S:Nat→Prop):Cx:={ β:=λ_=>0,ρ:=λ_=>Go.undef,S:=S }
def q0f (κ:Cx) (w:World) (xs:List Comp) (vs:List Value):Prop :=
 vs.length=xs.length∧∀ (i:Nat) c,xs[i]? = some c→∃ u,vs[i]? = some u∧c.Rep κ w u
def Con.Holds (P:Program) (c:Con):Prop :=
 ((∃ fn, P.funcs[c.f]? = some fn ∧ (fn.name == "runtime.NumGoroutine") = false ∧ fn.body.isNone = false) ∧ ∀ F, c.fn = some F → ∀ p r, c.post p r → r = F p) ∧
 ∀ (p:Pays c.args) (vs:List Value) (w:World) (S:Nat→Prop),(∀ g,S g→g<w.heap.size)→c.pre p→q0f (Cx.of S) w (q0u c.args p) vs →
  Calls P c.f vs.toArray w λe w'=>∃ (r:Pays c.res) (v:Value),e=.returned v∧c.post p r ∧
   (q1s c.res r).Rep (Cx.of λg=>S g∨(w.heap.size≤g∧g<w'.heap.size)) w' v∧Below w.heap.size w w'
theorem q5o {k:Kd} {c:Cell} {p:k.Pay} {v:Value} (h:q3c k c=some p) (hv:c.Rep κ w v):k.Rep w κ.S p v:=by
 unfold q3c at h;split at h
 ·rename_i k' q
  split at h
  ·rename_i e _
   subst e;injection h with h;subst h;exact hv
  ·cases h
 ·split at h
  ·rename_i fs
   injection h with h;subst h;obtain rfl:v=.slice none 0 0:=hv;exact ⟨none,0,rfl,Nat.le_refl _,λh=>absurd h (Qy _)⟩
  ·cases h
 ·cases h
inductive Plain:Cell→Prop where
 | val (k:Kd) (p:k.Pay):Plain (.val k p)
theorem Plain.rep {c:Cell} (h:Plain c) {κ':Cx} (hS:κ'.S=κ.S) {v:Value} (hv:c.Rep κ w v):c.Rep κ' w v:=by
 cases h with
 | val k p=>show k.Rep w κ'.S p v;rw [hS];exact hv
theorem qd5:∀ (ks:Kds) (p:ks.Pay),∀ c∈ks.cells p,Plain c
 | .one k,p,c,h=>by
  obtain rfl:c=.val k p:=Q7.1 h;exact .val k p
 | .cons k ks,p,c,h=>by
  rcases Ql.1 h with rfl | h
  ·exact .val k p.1
  ·exact qd5 ks p.2 c h
theorem q06.plain {cs:List Cell} {vs:Array Value} (h:∀ c∈cs,Plain c) {κ':Cx} (hS:κ'.S=κ.S) (hr:q06 κ w cs vs):q06 κ' w cs vs :=
 ⟨hr.1,λi c hc=>let ⟨v,hv,hx⟩:=hr.2.1 i c hc;⟨v,hv,(h c (Qd hc)).rep hS hx⟩,hr.2.2⟩
theorem qax (x:CK) (p:x.Pay) {κ':Cx} (hS:κ'.S=κ.S) {v:Value} (h:(x.comp p).Rep κ w v):(x.comp p).Rep κ' w v:=by
 cases x with
 | one k=>exact Plain.rep (.val k p) hS h
 | agg ks=>obtain ⟨vs,rfl,h⟩:=h;exact ⟨vs,rfl,h.plain (qd5 ks p) hS⟩
theorem q4d:∀ (ks:Kds) (cs:List Cell) (p:ks.Pay) (vs:List Value),q1e ks cs=some p→q06 κ w cs vs.toArray→q06 κ w (ks.cells p) vs.toArray
 | .one k,[],p,vs,h,hv=>by simp [q1e] at h
 | .one k,c::c'::r,p,vs,h,hv=>by simp [q1e] at h
 | .one k,[c],p,vs,h,hv=>by
  have h:q3c k c=some p:=h;refine ⟨hv.1,λi c' hc=>?_,hv.2.2⟩
  cases i with
  | zero =>
   injection hc with hc;subst hc;obtain ⟨u,hu,hr⟩:=hv.2.1 0 _ rfl;exact ⟨u,hu,q5o h hr⟩
  | succ i=>cases hc
 | .cons k ks,[],p,vs,h,hv=>by simp [q1e] at h
 | .cons k ks,c::cs',p,vs,h,hv=>by
  have h:(match q3c k c,q1e ks cs' with
   | some p,some q=>some (p,q)
   | _,_=>none)=some p:=h
  split at h
  ·rename_i p1 p2 h1 h2
   injection h with h;subst h;cases vs with
   | nil=>have:=hv.1;simp at this
   | cons v vs =>
    have hv':q06 κ w cs' vs.toArray:=⟨by have:=hv.1;simpa using this,λi c hc=>by
     obtain ⟨y,hy,hr⟩:=hv.2.1 (i+1) c hc;exact ⟨y,by simpa using hy,hr⟩,λi y hy=>hv.2.2 (i+1) y (by simpa using hy)⟩
    have ih:=q4d _ cs' p2 vs h2 hv';refine ⟨?_,λi c' hc=>?_,hv.2.2⟩
    ·have:=ih.1
     show (v::vs).toArray.size=(Kds.cells _ p2).length+1;rw [← this];simp
    ·cases i with
     | zero =>
      injection hc with hc;subst hc;obtain ⟨u,hu,hr⟩:=hv.2.1 0 _ rfl;exact ⟨u,hu,q5o h1 hr⟩
     | succ i =>
      obtain ⟨y,hy,hr⟩:=ih.2.1 i c' hc;exact ⟨y,by simpa using hy,hr⟩
  ·cases h
theorem q79 {x:CK} {c:Comp} {p:x.Pay} {v:Value} (h:q25 x c=some p) (hv:c.Rep κ w v):(x.comp p).Rep κ w v:=by
 unfold q25 at h;split at h
 ·exact q5o h hv
 ·rename_i ks cs
  obtain ⟨vs,rfl,hv⟩:=hv;exact ⟨vs,rfl,by simpa using q4d ks cs p vs.toList h (by simpa using hv)⟩
 ·cases h
theorem av_comp {x:AV} {y:Comp} {v:Value} (e:x=.c y) (h:x.Rep κ w v):y.Rep κ w v:=by subst e;exact h
theorem q7s (hR:Rel w0 κ st a w):∀ (l:List CK) (xs:List Operand) (p:Pays l),q1r l (evs st xs)=some p→q0f κ w (q0u l p) (xs.map a.eval)
 | [],[],p,h=>⟨rfl,λi c hc=>by cases hc⟩
 | [],x::xs,p,h=>by simp [q1r,evs] at h
 | [x],[],p,h=>by simp [q1r,evs] at h
 | [x],y::z::r,p,h=>by simp [q1r,evs] at h
 | x::y::r,[],p,h=>by simp [q1r,evs] at h
 | [x],[y],p,h=>by
  have hy:=hR.ev y;cases e:st.ev y with
  | tup vs=>simp [q1r,evs,e] at h
  | c z =>
   have h:q25 x z=some p:=by simpa [q1r,evs,e] using h
   refine ⟨rfl,λi c hc=>?_⟩
   cases i with
   | zero=>injection hc with hc;subst hc;exact ⟨_,rfl,q79 h (av_comp e hy)⟩
   | succ i=>cases hc
 | x::y::r,z::zs,p,h=>by
  have hz:=hR.ev z;cases e:st.ev z with
  | tup vs=>simp [q1r,evs,e] at h
  | c c0 =>
   have h:(match q25 x c0,q1r (y::r) (evs st zs) with
    | some p,some q=>some (p,q)
    | _,_=>none)=some p:=by
    have h':q1r (x::y::r) (st.ev z::evs st zs)=some p:=h;rw [e] at h';exact h'
   split at h
   ·rename_i p1 p2 h1 h2
    injection h with h;subst h;have ih:=q7s hR (y::r) zs p2 h2;refine ⟨?_,λi c hc=>?_⟩
    ·have:=ih.1
     show (zs.map a.eval).length+1=(q0u (y::r) p2).length+1;rw [this]
    ·cases i with
     | zero=>injection hc with hc;subst hc;exact ⟨_,rfl,q79 h1 (av_comp e hz)⟩
     | succ i=>exact ih.2 i c hc
   ·cases h
theorem q7o:∀ (l:List CK) (p:Pays l) {κ':Cx} (hS:κ'.S=κ.S) {vs:List Value} (h:q0f κ w (q0u l p) vs),q0f κ' w (q0u l p) vs:=by
 intro l p κ' hS vs h;have key:∀ (l:List CK) (p:Pays l),∀ c∈q0u l p,∀ v,c.Rep κ w v→c.Rep κ' w v:=by
  intro l
  induction l with
  | nil=>intro p c hc;cases hc
  | cons x l ih =>
   cases l with
   | nil =>
    intro p c hc v hv;obtain rfl:=Q7.1 hc;exact qax x p hS hv
   | cons y r =>
    intro p c hc v hv;rcases Ql.1 hc with rfl | hc
    ·exact qax x p.1 hS hv
    ·exact ih p.2 c hc v hv
 exact ⟨h.1,λi c hc=>let ⟨u,hu,hr⟩:=h.2 i c hc;⟨u,hu,key l p c (Qd hc) u hr⟩⟩
theorem q95:∀ (l:List CK) (p:Pays l),∀ c∈q0u l p,∃ (x:CK) (q:x.Pay),c=x.comp q
 | [],p,c,h=>by cases h
 | [x],p,c,h=>⟨x,p,Q7.1 h⟩
 | x::y::r,p,c,h=>by
  rcases Ql.1 h with rfl | h
  ·exact ⟨x,p.1,rfl⟩
  ·exact q95 (y::r) p.2 c h
theorem qa7 (l:List CK) (r:Pays l) {κ':Cx} (hS:κ'.S=κ.S) {v:Value} (h:(q1s l r).Rep κ w v):(q1s l r).Rep κ' w v:=by
 unfold q1s at *
 split at h
 ·rename_i x hx
  obtain ⟨y,q,rfl⟩:=q95 l r x (by rw [hx];exact Q7.2 rfl)
  exact qax y q hS h
 ·obtain ⟨vs,rfl,h1,h2⟩:=h
  refine ⟨vs,rfl,h1,λi c hc=>?_⟩
  obtain ⟨u,hu,hr⟩:=h2 i c hc;obtain ⟨y,q,rfl⟩:=q95 l r c (Qd hc);exact ⟨u,hu,qax y q hS hr⟩
theorem qf1 {f:FuncId} {c:Con}:∀ {cons:List Con},q8r f cons=some c→c∈cons∧c.f=f
 | [],h=>by cases h
 | x::r,h=>by
  have h:(bif x.f.beq f then some x else q8r f r)=some c:=h
  cases e:x.f.beq f
  ·rw [e] at h
   obtain ⟨h1,h2⟩:=qf1 (cons:=r) h;exact ⟨Qu _ h1,h2⟩
  ·rw [e] at h
   injection h with h;subst h;exact ⟨QD,Qb e⟩
theorem run_call (c:Con) (hc:c.Holds P) {o:Oper} {args:Array Operand} {ts:Array TypeId} (ho:o.op=.call { callee:=.value (.func c.f),args,argTypes:=ts }) (w:World) :
  (execOp a.eval o).run P w=.ok (.enter c.f (args.toList.map a.eval).toArray) w:=by
 obtain ⟨⟨⟨fn,hf,hn,hb⟩,_⟩,_⟩:=hc;have e:(args.map a.eval)=(args.toList.map a.eval).toArray:=by rw [← Array.toList_map,Array.toArray_toList]
 have hn' : ¬ fn.name = "runtime.NumGoroutine" := by simpa using hn
 have hb':¬ fn.body=none:=λh=>by rw [h] at hb;cases hb
 rw [← e];simp [execOp,ho,resolve,Act.eval,Deferred.ofValue,invoke,callFunc,hf,hn',hb']
end
end R
end Go.Proofs.YtlmbfijhkcmncaaGreatDoor

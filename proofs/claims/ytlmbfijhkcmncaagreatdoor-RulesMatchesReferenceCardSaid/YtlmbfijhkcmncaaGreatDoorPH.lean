/-
  What 'vop' and 'vopQ' ask of an operation is enough.
-/
import Derived.Test.YtlmbfijhkcmncaaGreatDoorPF
import Derived.Test.YtlmbfijhkcmncaaGreatDoorPG
open Nat renaming eq_of_beq_eq_true→Q0,le_mul_of_pos_right→Q8,blt_eq→Q9,blt→Qb,le_refl→Qj,le_of_ble_eq_true→Qk,zero_add→Qw
open Bool renaming and_eq_true→Q3
open Go.Oper renaming wp→Q7
open Go renaming undef→Qa
open Option renaming isNone_iff_eq_none→Qc
open List renaming getElem?_eq_getElem→Qd,mem_singleton→Qf,append_nil→Qi,mem_of_getElem?→Ql,replicate→Qs,length_append→Qt,take_of_length_le→Qx,length_eraseIdx→Qz,mem_cons→QA,filter_eq_self→QD,filter_cons→QF,nil_append→QG
open Array renaming length_toList→Qe,toList_filter→Qg,getElem?_toList→Qp,getD_eq_getD_getElem?→Qu,getElem?_eq_getElem→Qv
open Go.Instr renaming mapUpdate→Qh,sureAddr→QH,storeAt→QK
open Go.World renaming grownBy_alloc→Qm,ownsRow_nil→Qo,alloc_heap_new→Qy,ownsRow→QC
open Go.Builtin renaming append_→Qn
open Go.Sem renaming run_bind→Qq
open Go.Value renaming ownBlock→Qr,map→QJ
open Int renaming le_trans→QE
set_option linter.unusedVariables false
namespace Go.Proofs.YtlmbfijhkcmncaaGreatDoor
open Go.RowKit
namespace R
section
variable {w0:Base} {w w':World} {κ:Cx} {st:St} {a:Act} {P:Program}
def Fits (w0:Base) (K:St→Prop) (next:Act→World→Prop):Prop:=∀ (κ:Cx) (st:St) (a:Act) (w:World),K st→Rel w0 κ st a w→next a w
theorem qif:∀ (ks:Kds) (p:ks.Pay) (c:Cell),ks.flat=true→c∈ks.cells p→∃ (k:Kd) (q:k.Pay),k.flat=true∧c=.val k q
 | .one k,p,c,hf,h=>⟨k,p,hf,Qf.1 h⟩
 | .cons k ks,p,c,hf,h=>by
  have hf:(k.flat&&ks.flat)=true:=hf;rw [Q3] at hf;rcases QA.1 h with rfl | h
  ·exact ⟨k,p.1,hf.1,rfl⟩
  ·exact qif ks p.2 c hf.2 h
theorem kd_flat {k:Kd} (hf:k.flat=true) {p:k.Pay} {κ κ':Cx} {w w':World} {v:Value} (h:Cell.Rep κ w (.val k p) v):Cell.Rep κ' w' (.val k p) v:=by
 cases k <;> first | exact h | cases hf
theorem qig {c:CK} (hf:c.qa8=true) {p:c.Pay} {κ κ':Cx} {w w':World} {v:Value} (h:(c.comp p).Rep κ w v):(c.comp p).Rep κ' w' v:=by
 cases c with
 | one k=>exact kd_flat hf h
 | agg ks =>
  obtain ⟨vs,rfl,h⟩:=h;exact ⟨vs,rfl,h.1,λi c hc=>by
   obtain ⟨v,hv,hx⟩:=h.2.1 i c hc;obtain ⟨k,q,hk,rfl⟩:=qif ks p c hf (Ql hc);exact ⟨v,hv,kd_flat hk hx⟩,h.2.2⟩
theorem qd4:∀ (l:List CK) (r:Pays l),l.all CK.qa8=true→∀ c∈q0u l r,∃ (x:CK) (q:x.Pay),x.qa8=true∧c=x.comp q
 | [],p,hf,c,h=>by cases h
 | [x],p,hf,c,h=>⟨x,p,by simpa using hf,Qf.1 h⟩
 | x::y::r,p,hf,c,h=>by
  have hf':x.qa8=true∧(y::r).all CK.qa8=true:=by rw [List.all_cons,Q3] at hf;exact hf
  rcases QA.1 h with rfl | h
  ·exact ⟨x,p.1,hf'.1,rfl⟩
  ·exact qd4 (y::r) p.2 hf'.2 c h
theorem resAV_flatA {l:List CK} (hf:l.all CK.qa8=true) {r:Pays l} {κ κ':Cx} {w w':World} {v:Value} (h:(q1s l r).Rep κ w v):(q1s l r).Rep κ' w' v:=by
 unfold q1s at *
 split at h
 ·rename_i x hx
  obtain ⟨y,q,hy,rfl⟩:=qd4 l r hf x (by rw [hx];exact Qf.2 rfl)
  exact qig hy h
 ·obtain ⟨vs,rfl,h1,h2⟩:=h
  refine ⟨vs,rfl,h1,λi c hc=>?_⟩
  obtain ⟨u,hu,hr⟩:=h2 i c hc;obtain ⟨y,q,hy,rfl⟩:=qd4 l r hf c (Ql hc);exact ⟨u,hu,qig hy hr⟩
theorem qid {t:TypeId} {cs:List Cell} {off:Nat} {c:Prop} {v:AV} (h:partOf P t cs off=.ok c v):c:=by
 unfold partOf at h;split at h <;> (try split at h) <;> first | (injection h with h1 _;rw [← h1];trivial) | cases h
theorem q9b {t:TypeId} {fs:Kds} {p:fs.Pay} {off:Nat} {c:Prop} {v:AV} (h:q6y P t fs p off=.ok c v):c:=by
 unfold q6y at h;split at h <;> (try split at h) <;> first | (injection h with h1 _;rw [← h1];trivial) | cases h
theorem binGot_free {b:Bool} {op:BinOp} (ho:(match op with | .eql | .neq | .lss | .leq | .gtr | .geq=>true | _=>false)=true) {A B:AV} {c:Prop} {v:AV} (h:binGot b op A B=.ok c v):c:=by
 unfold binGot at h;split at h
 ·rename_i k p k' q
  have hs:qhk op=false:=by cases op <;> first | rfl | exact absurd ho (by decide)
  rw [hs] at h;cases he:IntKind.eqB k k'
  ·rw [he] at h;cases h
  ·rw [he] at h
   have h:intOp op k p q=.ok c v:=h;cases op <;> first | exact absurd ho (by decide) | (injection h with h1 _;rw [← h1];trivial)
 ·cases op <;> first | exact absurd ho (by decide) | (injection h with h1 _;rw [← h1];trivial)
 ·rename_i p q
  cases b
  ·cases h
  ·have h:boolOp op p q=.ok c v:=h
   cases op <;> first | exact absurd ho (by decide) | (injection h with h1 _;rw [← h1];trivial) | cases h
 ·cases h
theorem aggGot_free {op:BinOp} {t:TypeId} {A B:AV} {c:Prop} {v:AV} (h:aggGot P op t A B=.ok c v):c:=by
 unfold aggGot at h;cases hg:P.eqGuardType P.depth t
 ·rw [hg] at h
  dsimp only [cond_false] at h;split at h <;> first | (injection h with h1 _;rw [← h1];trivial) | cases h
 ·rw [hg] at h;cases h
theorem qit {b:Bool} {A:AV} {c:Prop} {v:AV} (h:qde st b A=.ok c v):c:=by
 unfold qde at h;split at h <;> (try split at h) <;> cases b <;> first | (injection h with h1 _;rw [← h1];trivial) | cases h
theorem mapGot_free {y:MRow} {kt et:TypeId} {A:AV} {ok:Bool} {c:Prop} {v:AV} (h:mapGot P y kt et A ok=.ok c v):c:=by
 unfold mapGot at h;split at h
 ·split at h
  ·cases hk:q26 P kt y.kk
   ·rw [hk] at h;cases h
   ·rw [hk] at h;injection h with h1 _;rw [← h1];trivial
  ·cases h
 ·cases h
theorem free_ok {op:Op} {c:Prop} {v:AV} (h:rop P st op=.ok c v) (hf:freeOp op=true):c:=by
 unfold rop at h;split at h
 ·injection h with h1 _;rw [← h1];trivial
 ·injection h with h1 _;rw [← h1];trivial
 ·split at h
  ·injection h with h1 _;rw [← h1];trivial
  ·cases h
 ·split at h
  ·split at h
   ·exact qid h
   ·cases h
  ·exact q9b h
  ·split at h
   ·rename_i y _
    rename_i r sz i f _ _ _;cases hz:sz.beq y.fs.size
    ·rw [hz] at h;cases h
    ·rw [hz] at h;exact q9b h
   ·cases h
  ·split at h
   ·rename_i y _
    rename_i kk k sz i f _ _ _;cases hz:sz.beq y.1.size
    ·rw [hz] at h;cases h
    ·rw [hz] at h;exact q9b h
   ·cases h
  ·cases h
 ·split at h <;> first | (injection h with h1 _;rw [← h1];trivial) | cases h
 ·rename_i op t x y ty
  cases hnil:qdo P t st op (st.ev x) (st.ev y) with
  | some b=>rw [hnil] at h;injection h with h1 _;rw [← h1];trivial
  | none =>
   rw [hnil] at h;by_cases h2:twoOp op x=true
   ·rw [h2] at h
    have h:twoGot (st.ev y)=.ok c v:=h;unfold twoGot at h;split at h
    ·injection h with h1 _;rw [← h1];trivial
    ·cases h
   rw [Bool.not_eq_true] at h2;rw [h2] at h;cases hab:qbl (st.ev x) (st.ev y)
   ·rw [hab] at h;exact binGot_free hf h
   ·rw [hab] at h;exact aggGot_free h
 ·split at h
  ·injection h with h1 _;rw [← h1];trivial
  ·cases hf
  ·cases h
 ·split at h <;> first | (injection h with h1 _;rw [← h1];trivial) | cases h
 ·split at h
  ·split at h
   ·rename_i fd _
    cases hsz:q15 P fd.type with
    | none=>rw [hsz] at h;cases h
    | some n =>
     rw [hsz] at h;dsimp only at h;cases hz:Qb 0 n
     ·rw [hz] at h;cases h
     ·rw [hz] at h
      dsimp only [cond_true] at h;split at h <;> first | (injection h with h1 _;rw [← h1];trivial) | cases h
   ·cases h
  ·cases h
 ·split at h
  ·split at h
   ·exact qid h
   ·cases h
  ·cases h
 ·cases hf
 ·cases hf
 ·cases hf
 ·split at h
  ·split at h <;> first | (injection h with h1 _;rw [← h1];trivial) | cases h
  ·cases h
 ·split at h
  ·split at h
   ·split at h <;> first | (injection h with h1 _;rw [← h1];trivial) | cases h
   ·cases h
  ·cases h
 ·split at h
  ·split at h
   ·exact qit h
   ·exact qit h
   ·split at h
    ·injection h with h1 _;rw [← h1];trivial
    ·split at h
     ·injection h with h1 _;rw [← h1];trivial
     ·cases h
    ·split at h
     ·injection h with h1 _;rw [← h1];trivial
     ·cases h
    ·cases h
   ·cases h
  ·cases h
 ·split at h
  ·injection h with h1 _;rw [← h1];trivial
  ·split at h
   ·split at h
    ·injection h with h1 _;rw [← h1];trivial
    ·cases h
   ·cases h
 ·split at h
  ·cases h
  ·split at h
   ·rename_i y _
    cases hb:Nat.beq y.t _
    ·rw [hb] at h;cases h
    ·rw [hb] at h
     exact mapGot_free h
   ·cases h
  ·split at h
   ·split at h
    ·cases hb:(Nat.beq _ _&&(q26 P _ _&&(qdx P _&&_)))
     ·rw [hb] at h;cases h
     ·rw [hb] at h;injection h with h1 _;rw [← h1];trivial
    ·cases h
   ·cases h
  ·split at h
   ·split at h
    ·cases hb:(Nat.beq _ _&&(q26 P _ _&&(q5g P _&&_)))
     ·rw [hb] at h;cases h
     ·rw [hb] at h;injection h with h1 _;rw [← h1];trivial
    ·cases h
   ·cases h
  ·cases h
 ·split at h
  ·split at h
   ·split at h
    ·injection h with h1 _;rw [← h1];trivial
    ·cases h
   ·cases h
  ·cases h
 ·split at h
  ·split at h
   ·injection h with h1 _;rw [← h1];trivial
   ·cases h
  ·cases h
 ·split at h
  ·split at h
   ·injection h with h1 _;rw [← h1];trivial
   ·cases h
  ·cases h
 ·split at h
  ·split at h
   ·injection h with h1 _;rw [← h1];trivial
   ·cases h
  ·cases h
 ·cases h
theorem q9t {op:Op} {c k:Prop} {v:AV} (h:rop P st op=.ok c v) (ha:asks op c k):c∧k:=by
 unfold asks at ha;cases hf:freeOp op
 ·rw [hf] at ha;exact ha
 ·rw [hf] at ha;exact ⟨free_ok h hf,ha⟩
theorem q19 {b:Bool} {p:Prop} (e:b=false) (h:b=true):p:=by rw [e] at h;cases h
theorem rop_wpG {o:Oper} {c:Prop} {v:AV} {K:St→Prop} {next:Act→World→Prop} {Q:Exit→Act→World→Prop} (hR:Rel w0 κ st a w) (h:rop P st o.op=.ok c v) (hv:(bif q0a st o.dst then asks o.op c (K (st.put o.dst v)) else False)) (hF:Fits w0 K next):o.wp P a w (λa' w'=>(q7p o.op=true→Below w.heap.size w w')∧next a' w') Q:=by
 cases hd:q0a st o.dst
 ·rw [hd] at hv;exact hv.elim
 ·rw [hd] at hv
  obtain ⟨hc,hK⟩:=q9t h hv;obtain ⟨u,hu,hw⟩:=qcg hR h hc;unfold Q7;rw [hw w (q03 w)];exact ⟨λ_=>q03 w,hF κ _ _ _ hK (hR.put hd hu)⟩
theorem vput_sound {t:TypeId} {m k:Operand} {v:Operand} {d:Option Nat} {K:St→Prop} {next:Act→World→Prop} (hR:Rel w0 κ st a w) (h:vput P st t (st.ev m) (st.ev k) v d K) (hF:Fits w0 K next) :
  ∃ w',(Qh t (a.eval m) (a.eval k) (a.eval v)).run P w=.ok () w'∧next (a.put d Qa) w':=by
 unfold vput at h;obtain ⟨κ1,hR1,hμ⟩:∃ κ1,Rel w0 κ1 (st.q08 (q1k [st.ev v])) a w∧κ1.μ=κ.μ:=Rel.qhy (q1k [st.ev v]) hR;split at h
 ·rename_i kt et i kc vc hu hm hk hv
  split at h
  ·rename_i y hy
   split at h
   ·rename_i kp vp h1 h2
    cases hb:y.t.beq t&&q26 P kt y.kk&&q0a st d
    ·rw [hb] at h;exact h.elim
    ·rw [hb] at h
     simp only [Q3] at hb;obtain ⟨⟨_,hko⟩,hpd⟩:=hb;have hme:=hR.ev m;rw [hm] at hme;have hme:a.eval m=.map (some (κ.μ i)):=hme;have hke:=hR.ev k;rw [hk] at hke;have hke:a.eval k=y.kk.kv kp:=q2i (q23 hko) (q2y h1 hke);have hve:=hR1.ev v;rw [hv] at hve;have hvr:=q2y h2 hve;obtain ⟨es,clock,hg,hE,_⟩:=hR1.ext.map i y hy;obtain ⟨es',clock',hrun,hE'⟩:=qc7 (P:=P) hu hko hE hg kp vp hvr;have hR2:=(hR1.qdq hy hE').put (d:=d) (by
      show q0a _ d=true;unfold q0a at hpd ⊢;cases d with
      | none=>rfl
      | some d =>
       show Qb d (st.q08 (q1k [st.ev v])).n=true;rw [q7f];exact hpd) (v:=.c (.one .undef)) (u:=Qa) rfl
     refine ⟨_,?_,hF _ _ _ _ h hR2⟩;rw [hme,hke,← hμ];exact hrun
   ·exact h.elim
  ·exact h.elim
 ·exact h.elim
theorem vputN_sound {t:TypeId} {m k v:Operand} {d:Option Nat} {K:St→Prop} {next:Act→World→Prop} (hR:Rel w0 κ st a w) (hm:st.ev m=.c (.one .nref)) (h:vputN P st t k v d K) (hF:Fits w0 K next) :
  ∃ w',(Qh t (a.eval m) (a.eval k) (a.eval v)).run P w=.ok () w'∧next (a.put d Qa) w':=by
 unfold vputN at h;split at h
 ·rename_i kt et y kc j hu hy hk hv
  split at h
  ·rename_i kp z h1 hz
   split at h
   ·rename_i e1 e2 _ _
    cases hb:y.t.beq t&&(z.t.beq y.it&&(q26 P kt y.kk&&q0a st d))
    ·rw [hb] at h;exact h.elim
    ·rw [hb] at h
     simp only [Q3] at hb;obtain ⟨_,b2,hko,hpd⟩:=hb;obtain ⟨hno,hK⟩:=h;have hp:=q23 hko;have hme:=hR.ev m;rw [hm] at hme;have hme:a.eval m=.map (some κ.μ.ν):=hme;have hke:=hR.ev k;rw [hk] at hke;have hke:a.eval k=y.kk.kv kp:=q2i hp (q2y h1 hke);have hve:=hR.ev v;rw [hv] at hve;have hve:a.eval v=.map (some (κ.μ j)):=hve;obtain ⟨zt,zk,zv,zxs⟩:=z;dsimp only at e1 e2 b2;have e1:zk=y.ik:=e1;have e2:zv=y.iv:=e2;subst e1;subst e2;obtain rfl:=Q0 b2;have hnone:y.at_ kp=none:=by
      cases hh:y.at_ kp with
      | none=>rfl
      | some l=>rw [hh] at hno;cases hno
     have hN:=qdt hR hy;obtain ⟨es,clock,g1,g2,g3,_⟩:=hN.out;have hkeys:q5q y.kk es.toList y.xs:=⟨by rw [Qe];exact g2,λi x hx=>by
      obtain ⟨e,he,q1,_⟩:=g3 i x hx;exact ⟨e,by rw [Qp];exact he,q2i hp q1⟩⟩
     have hf:=q3i hko kp w es.toList y.xs hkeys;have hidx:Mp.idx y.kk.eqB kp y.xs 0=none:=by
      cases hi:Mp.idx y.kk.eqB kp y.xs 0 with
      | none=>rfl
      | some r =>
       have:=Mp.q4t y.kk.eqB kp y.xs 0
       rw [hi,show Mp.get y.kk.eqB kp y.xs=_ from hnone] at this;cases this
     rw [hidx] at hf;obtain ⟨κ',hR'⟩:=hR.qhb hz hy hp hnone g1;have hR2:=hR'.put (d:=d) (by unfold q0a at hpd ⊢;exact hpd) (v:=.c (.one .undef)) (u:=Qa) rfl
     refine ⟨_,?_,hF κ' _ _ _ hK hR2⟩;rw [hme,hke,hve];simp only [Qh,Qq,run_underlying hu,Result.andThen_ok,MapKept.run_getObj_map g1,q33 hko,hf,Option.bind_none,MapKept.run_setObj_map _ g1];rfl
   ·exact h.elim
  ·exact h.elim
 ·exact h.elim
theorem vputI_sound {t:TypeId} {kk:CK} {q:kk.Pay} {m k v:Operand} {d:Option Nat} {K:St→Prop} {next:Act→World→Prop} (hR:Rel w0 κ st a w) (hm:st.ev m=.c (.one (.iref kk q))) (h:vputI P st t kk q k v d K) (hF:Fits w0 K next) :
  ∃ w',(Qh t (a.eval m) (a.eval k) (a.eval v)).run P w=.ok () w'∧next (a.put d Qa) w':=by
 unfold vputI at h;split at h
 ·rename_i kt et y kc vc hu hy hk hv
  split at h
  ·rename_i e1 kp vp _ h1 h2
   cases hb:y.it.beq t&&(q26 P kt y.ik&&(y.kk.plain&&q0a st d))
   ·rw [hb] at h;exact h.elim
   ·rw [hb] at h
    simp only [Q3] at hb;obtain ⟨_,hko,hp,hpd⟩:=hb;subst e1;obtain ⟨⟨hhas,hoff⟩,hK⟩:=h;have hhas:(y.at_ q).isSome=true:=hhas;have hoff:q9c y.kk q st.iters:=hoff;have hme:=hR.ev m;rw [hm] at hme;have hme:a.eval m=.map (κ.μ.inn (y.kk.kv q)):=hme;have hke:=hR.ev k;rw [hk] at hke;have hke:a.eval k=y.ik.kv kp:=q2i (q23 hko) (q2y h1 hke);have hve:=hR.ev v;rw [hv] at hve;have hvr:=q2y h2 hve;have hN:=qdt hR hy;rcases hN.val hp q with ⟨l,g,es,clock,v1,v2,v3,v4,_⟩ | ⟨v1,_⟩
    ·obtain ⟨es',clock',hrun,hE'⟩:=qc7 (P:=P) hu hko v4 v3 kp vp hvr
     have hR':=hR.setInner hy hp v1 hoff v2 v3 hE';have hR2:=hR'.put (d:=d) (by unfold q0a at hpd ⊢;exact hpd) (v:=.c (.one .undef)) (u:=Qa) rfl
     refine ⟨setB w g (.map es' clock'),?_,hF κ _ _ _ hK ?_⟩
     ·rw [hme,hke,v2]
      exact hrun
     ·have e:(y.at_ q).getD []=l:=by rw [v1];rfl
      show Rel w0 κ ((st.setNest ⟨y.t,y.kk,y.it,y.ik,y.iv,Mp.put y.kk.eqB q (Mp.put y.ik.eqB kp vp ((y.at_ q).getD [])) y.xs⟩).put d (.c (.one .undef))) _ _;rw [e];exact hR2
    ·rw [v1] at hhas;cases hhas
  ·exact h.elim
 ·exact h.elim
theorem vputF_sound {t:TypeId} {m k v:Operand} {d:Option Nat} {K:St→Prop} {next:Act→World→Prop} (hR:Rel w0 κ st a w) (hm:st.ev m=.c (.one .fref)) (h:vputF P st t k v d K) (hF:Fits w0 K next) :
  ∃ w',(Qh t (a.eval m) (a.eval k) (a.eval v)).run P w=.ok () w'∧next (a.put d Qa) w':=by
 unfold vputF at h;split at h
 ·rename_i kt et y kc hu hy hk hv
  split at h
  ·rename_i kp k0 l h1 hpd
   cases hb:y.t.beq t&&(q26 P kt y.kk&&q0a st d)
   ·rw [hb] at h;exact h.elim
   ·rw [hb] at h
    simp only [Q3] at hb;obtain ⟨_,hko,hpt⟩:=hb;obtain ⟨rfl,hK⟩:=h;have hme:=hR.ev m;rw [hm] at hme;have hme:a.eval m=.map (some κ.μ.φ):=hme;have hke:=hR.ev k;rw [hk] at hke;have hke:a.eval k=y.kk.kv kp:=q2i (q23 hko) (q2y h1 hke);have hve:=hR.ev v;rw [hv] at hve;obtain ⟨hve,_⟩:=hve;obtain ⟨κ',w',hrun,hR'⟩:=hR.q88 hy hpd hu hko;have hR2:=hR'.put (d:=d) (by unfold q0a at hpt ⊢;exact hpt) (v:=.c (.one .undef)) (u:=Qa) rfl
    refine ⟨w',?_,hF κ' _ _ _ hK hR2⟩;rw [hme,hke,hve];exact hrun
  ·exact h.elim
 ·exact h.elim
theorem ventry_sound {t:TypeId} {m k:Operand} {d:Option Nat} {K:St→Prop} {next:Act→World→Prop} (hR:Rel w0 κ st a w) (h:ventry P st t m k d K) (hF:Fits w0 K next) :
  ∃ d',d=some d'∧∃ w' v',(Instr.mapEntry t (a.eval m) (a.eval k)).run P w=.ok v' w'∧next (a.put (some d') v') w':=by
 unfold ventry at h;split at h
 ·rename_i kt et y kc d hu hy hm hk
  split at h
  ·rename_i kp h1
   cases hb:y.t.beq t&&(q26 P kt y.kk&&(q5g P et&&(y.pend.isNone&&Qb d st.n)))
   ·rw [hb] at h;exact h.elim
   ·rw [hb] at h
    simp only [Q3,Qc] at hb;obtain ⟨_,hko,hz,hpd,hdn⟩:=hb;have hdn:d<st.n:=by rw [Q9] at hdn;exact hdn
    have hme:=hR.ev m;rw [hm] at hme;have hme:a.eval m=.map (some κ.μ.φ):=hme;have hke:=hR.ev k;rw [hk] at hke;have hke:a.eval k=y.kk.kv kp:=q2i (q23 hko) (q2y h1 hke);obtain ⟨κ',w',n,hrun,hst,hfin,hR'⟩:=hR.entFam hy hpd hu hko hz kp;have hsol:(κ.μ.fin (y.kk.kv kp)).oneCell'=true:=(hR.ext.fam y hy).q67 (λq l e=>by rw [hpd] at e;cases e) kp
    have hR2:=hR'.set (d:=d) hdn (v:=.tup [.one (.fent y.kk kp),.one .fstamp]) (u:=.tuple #[κ.μ.fin (y.kk.kv kp),goInt n]) ⟨_,rfl,rfl,λi c hc=>by
     rcases i with _ | _ | i
     ·injection hc with hc;subst hc;exact ⟨κ.μ.fin (y.kk.kv kp),rfl,by rw [hfin],hsol⟩
     ·injection hc with hc;subst hc;exact ⟨_,rfl,by show goInt n=.int .i64 κ'.μ.stp;rw [hst];rfl⟩
     ·cases hc⟩
    refine ⟨d,rfl,w',_,?_,hF κ' _ _ _ h hR2⟩;rw [hme,hke];exact hrun
  ·exact h.elim
 ·exact h.elim
theorem vstamp_sound {t:TypeId} {m s v:Operand} {d:Option Nat} {K:St→Prop} {next:Act→World→Prop} (hR:Rel w0 κ st a w) (h:vstamp P st t m s v d K) (hF:Fits w0 K next) :
  ∃ w',(Instr.entryStore t (a.eval m) (a.eval s) (a.eval v)).run P w=.ok () w'∧next (a.put d Qa) w':=by
 unfold vstamp at h;split at h
 ·rename_i kt et y hu hy hm hs hv
  split at h
  ·rename_i kp k0 l hmk hpd
   cases hb:y.t.beq t&&(q26 P kt y.kk&&q0a st d)
   ·rw [hb] at h;exact h.elim
   ·rw [hb] at h
    simp only [Q3] at hb;obtain ⟨_,hko,hpt⟩:=hb;obtain ⟨rfl,hK⟩:=h;have hme:=hR.ev m;rw [hm] at hme;have hme:a.eval m=.map (some κ.μ.φ):=hme;have hse:=hR.ev s;rw [hs] at hse;have hse:a.eval s=.int .i64 κ.μ.stp:=hse;have hve:=hR.ev v;rw [hv] at hve;obtain ⟨hve,_⟩:=hve;obtain ⟨κ',w',hrun,hR'⟩:=hR.q88 hy hpd hu hko;have hR2:=hR'.put (d:=d) (by unfold q0a at hpt ⊢;exact hpt) (v:=.c (.one .undef)) (u:=Qa) rfl
    refine ⟨w',?_,hF κ' _ _ _ hK hR2⟩;rw [hme,hse,hve,hR.entryStore hy hu hko hmk];exact hrun
  ·exact h.elim
 ·exact h.elim
theorem qih {t:TypeId} {m k:Operand} {v:Operand} {d:Option Nat} {K:St→Prop} {next:Act→World→Prop} (hR:Rel w0 κ st a w) (h:vputX P st t m k v d K) (hF:Fits w0 K next) :
  ∃ w',(Qh t (a.eval m) (a.eval k) (a.eval v)).run P w=.ok () w'∧next (a.put d Qa) w':=by
 unfold vputX at h;split at h
 ·rename_i hm;exact vputN_sound hR hm h hF
 ·rename_i kk q hm;exact vputI_sound hR hm h hF
 ·rename_i hm;exact vputF_sound hR hm h hF
 ·exact vput_sound hR h hF
theorem leftRep_of {y:MRow} {es:Array MapEntry} {clock:Nat} (hE:EntRep κ w y es clock):q9h κ w y.kk y.vk y.xs (leftOf es #[]).toList:=by
 have e:(leftOf es #[]).toList=es.toList:=by
  unfold leftOf;rw [Qg];apply QD.2;intro x _;simp
 rw [e];exact ⟨by rw [Qe];exact hE.size,λi x hx=>let ⟨e,he,h1,h2⟩:=hE.at_ i x hx;⟨e,by rw [Qp];exact he,h1,h2⟩⟩
theorem itOf_sound (hR:Rel w0 κ st a w) {t kt et:TypeId} (hu:P.underlying t=some (.map kt et)) {c:Cell} {z:ItP} (hz:itOf st c=some z) {v:Value} (hv:c.Rep κ w v) :
  ∃ o':Obj,o'.q2q=true∧(Instr.range t v).run P w=.ok (.pointer (some ⟨w.heap.size,0,none⟩)) (w.alloc o') ∧
   ∀ κ':Cx,κ'.src z.src=κ.src z.src→κ'.S=κ.S→q59 w0.n0 κ' (w.alloc o') z w.heap.size:=by
 have hbel:∀ o':Obj,Below w.heap.size w (w.alloc o'):=λo'=>q02 (q03 w) _
 have hmk:∀ (bm:Nat) (es:Array MapEntry) (clock:Nat) (kk vk:CK) (xs:List (kk.Pay×vk.Pay)) (s:Src) (tt:TypeId),κ.src s=some bm→w.heap[bm]? = some (.map es clock)→EntRep κ w ⟨tt,kk,vk,xs⟩ es clock →
   ∀ κ':Cx,κ'.src s=κ.src s→κ'.S=κ.S→q59 w0.n0 κ' (w.alloc (.mapIter (some bm) clock #[] clock)) ⟨s,kk,vk,xs,none⟩ w.heap.size:=λbm es clock kk vk xs s tt h1 h2 h3 κ' h4 h5=>by
  have HV:∀ k p v,Cell.Rep κ w (.val k p) v→Cell.Rep κ' (w.alloc (.mapIter (some bm) clock #[] clock)) (.val k p) v:=λk p v hr=>q3f h5 (Keeps.below (hbel _) κ.S) hr
  exact ⟨hR.low,.inr ⟨bm,es,clock,#[],clock,h4.trans h1,q1h (hbel _) _ _ rfl h2,Qy w _,Qj _,h3.born,h3.apart,(leftRep_of h3).mono HV,λx hx=>nomatch hx⟩⟩
 have hnil:∀ (kk vk:CK) (s:Src) (κ':Cx),q59 w0.n0 κ' (w.alloc (.mapIter none 0 #[] 0)) ⟨s,kk,vk,[],none⟩ w.heap.size:=λkk vk s κ'=>⟨hR.low,.inl ⟨0,0,#[],Qy w _,rfl,rfl⟩⟩
 unfold itOf at hz;split at hz
 ·rename_i m
  split at hz
  ·rename_i y hy
   injection hz with hz;subst hz;obtain ⟨es,clock,h1,h2,_⟩:=hR.ext.map m y hy;obtain rfl:v=.map (some (κ.μ m)):=hv;exact ⟨_,rfl,run_range_map w t kt et _ es clock hu h1,hmk _ es clock _ _ _ _ y.t rfl h1 h2⟩
  ·cases hz
 ·rename_i kk k
  split at hz
  ·rename_i y hy
   split at hz
   ·rename_i e _
    subst e;injection hz with hz;subst hz;obtain rfl:v=.map (κ.μ.inn (y.kk.kv k)):=hv;have hN:=qdt hR hy;cases hk:y.at_ k with
    | none =>
     rw [hN.miss k hk];exact ⟨_,rfl,run_range_nilMap w t kt et hu,λκ' _ _=>hnil _ _ _ κ'⟩
    | some l =>
     obtain ⟨i,x,q1,q2,q3⟩:=get_mem _ _ _ _ hk;obtain ⟨g,es,clock,p1,p2,p3,_⟩:=hN.inn i x q1;have hxk:=q4r q2;rw [← hxk] at p1;rw [p1];exact ⟨_,rfl,run_range_map w t kt et _ es clock hu p2,hmk g es clock _ _ _ _ y.it p1 p2 (by rw [← q3];exact p3)⟩
   ·cases hz
  ·cases hz
 ·injection hz with hz;subst hz
  obtain rfl:v=.map none:=hv;exact ⟨_,rfl,run_range_nilMap w t kt et hu,λκ' _ _=>hnil _ _ _ κ'⟩
 ·cases hz
theorem leftOf_push {es:Array MapEntry} {seen:Array Nat} {j:Nat} {e:MapEntry} (hn:(es.toList.map (·.born)).Nodup) (he:(leftOf es seen).toList[j]? = some e):(leftOf es (seen.push e.born)).toList=(leftOf es seen).toList.eraseIdx j:=by
 have key:∀ (L:List MapEntry) (j:Nat),(L.map (·.born)).Nodup→L[j]? = some e→L.filter (λx=>!(x.born==e.born))=L.eraseIdx j:=by
  intro L
  induction L with
  | nil=>intro j _ h;cases h
  | cons x L ih =>
   intro j hn h;rw [List.map_cons,List.nodup_cons] at hn;cases j with
   | zero =>
    injection h with h;subst h;rw [QF,if_neg (by simp),List.eraseIdx_cons_zero]
    apply QD.2
    intro y hy;have:y.born≠x.born:=λe=>hn.1 (by rw [← e];exact List.mem_map.2 ⟨y,hy,rfl⟩)
    simpa using this
   | succ j =>
    have hm:e∈L:=Ql h;have:x.born≠e.born:=λe'=>hn.1 (by rw [e'];exact List.mem_map.2 ⟨e,hm,rfl⟩)
    rw [QF,if_pos (by simpa using this),List.eraseIdx_cons_succ,ih j hn.2 h]
 have e1:(leftOf es (seen.push e.born)).toList=(leftOf es seen).toList.filter (λx=>!(x.born==e.born)):=by
  unfold leftOf;rw [Qg,Qg,List.filter_filter];apply List.filter_congr;intro x _;rw [Array.contains_push];cases seen.contains x.born <;> cases (x.born==e.born) <;> rfl
 rw [e1];refine key _ j ?_ he;unfold leftOf;rw [Qg];exact List.Nodup.sublist (List.Sublist.map _ List.filter_sublist) hn
theorem qlh {kk vk:CK} {xs:List (kk.Pay×vk.Pay)} {es:List MapEntry} (h:q9h κ w kk vk xs es) (j:Nat):q9h κ w kk vk (xs.eraseIdx j) (es.eraseIdx j):=by
 refine ⟨by rw [Qz,Qz,h.1],λi x hx=>?_⟩
 rw [List.getElem?_eraseIdx] at hx ⊢;split at hx
 ·rename_i hlt;rw [if_pos hlt];exact h.2 i x hx
 ·rename_i hlt;rw [if_neg hlt];exact h.2 (i+1) x hx
theorem vnext_sound {x:Operand} {d:Option Nat} {K:St→Prop} {next:Act→World→Prop} {ty:TypeId} (hR:Rel w0 κ st a w) (h:vnext st (st.ev x) d K) (hF:Fits w0 K next) :
  ∃ u w',(Instr.next (a.eval x) false ty).run P w=.ok u w'∧next (a.put d u) w':=by
 unfold vnext at h;have hx:=hR.ev x;split at h
 ·rename_i i hi
  rw [hi] at hx;have hx:a.eval x=.pointer (some ⟨κ.μ.θ i,0,none⟩):=hx;split at h
  ·rename_i z hz
   cases hd:q0a st d
   ·rw [hd] at h;exact h.elim
   ·rw [hd] at h
    obtain ⟨hend,hstep⟩:=h;obtain ⟨hlow,hI⟩:=hR.ext.iter i z hz;have hover:∀ u,u=Value.tuple #[.bool false]→z.left=[]→next (a.put d u) w:=λu hu hl=>by
     subst hu;exact hF κ _ _ _ (hend hl) (hR.put hd ⟨_,rfl,rfl,λj c hc=>by
      cases j with
      | zero=>injection hc with hc;subst hc;exact ⟨_,rfl,rfl⟩
      | succ j=>cases hc⟩)
    rcases hI with ⟨a',b',s',q1,q2,_⟩ | ⟨bm,es,clock,seen,c0,q1,q2,q3,q4,q5,q6,q7,q8⟩
    ·refine ⟨.tuple #[.bool false],w,?_,hover _ rfl q2⟩
     rw [hx];simp [Instr.next,getObj,Qq,Sem.run,q1]
    ·rcases run_next_at (P:=P) w ty (κ.μ.θ i) bm clock c0 seen es clock q3 q2 q5 q4 with ⟨n0,hrun⟩ | ⟨e,he,w1,hw1,hrun⟩
     ·refine ⟨_,_,by rw [hx];exact hrun,hover _ rfl ?_⟩
      have:=q7.1
      rw [Qe,n0] at this;exact List.eq_nil_of_length_eq_zero this.symm
     ·obtain ⟨j,hj⟩:=List.getElem?_of_mem he
      have hjl:j<z.left.length:=by
       rw [← q7.1];exact (List.getElem?_eq_some_iff.1 hj).1
      obtain ⟨me,hme,r1,r2⟩:=q7.2 j _ (Qd hjl);rw [hj] at hme;injection hme with hme;subst hme;have hR1:Rel w0 κ st a w1:=by
       rcases hw1 with rfl | rfl
       ·exact hR
       ·exact hR.drew
      have hheap:w1.heap=w.heap:=by rcases hw1 with rfl | rfl <;> rfl
      have he2:e∈es.toList:=by
       unfold leftOf at he;rw [Qg] at he;exact (List.mem_filter.1 he).1
      have hbg:bm≠κ.μ.θ i:=λe'=>by rw [e',q3] at q2;cases q2
      have hlt:κ.μ.θ i<w1.heap.size:=by rw [hheap];exact lt_of_some q3
      have hkp:Keeps w1 (setB w1 (κ.μ.θ i) (.mapIter (some bm) clock (seen.push e.born) clock)) κ.S:=q5x (o:=.mapIter (some bm) clock seen c0) rfl rfl (by rw [hheap];exact q3) κ.S
      have hk0:Keeps w w1 κ.S:=⟨Nat.le_of_eq (by rw [hheap]),λg o _ _=>by unfold World.cell?;rw [hheap]⟩
      have HV:∀ k p v,Cell.Rep κ w (.val k p) v→Cell.Rep κ (setB w1 (κ.μ.θ i) (.mapIter (some bm) clock (seen.push e.born) clock)) (.val k p) v:=λk p v hr=>q3f rfl hkp (q3f (w':=w1) rfl hk0 hr)
      have hR2:=hR1.stepIter (z':=⟨z.src,z.kk,z.vk,z.left.eraseIdx j,some z.left[j]⟩) hz (o:=.mapIter (some bm) clock (seen.push e.born) clock) rfl ⟨hlow,.inr ⟨bm,es,clock,seen.push e.born,clock,q1,by rw [q3q hbg,hheap];exact q2,q4l hlt,Qj _,q5,q6,by
       rw [leftOf_push q6 hj];exact (qlh q7 j).mono HV,λx hx=>by
       injection hx with hx;subst hx;exact ⟨e,seen,he2,rfl,rfl,q1l HV _ _ r1,q1l HV _ _ r2⟩⟩⟩ (λes c e=>nomatch e)
      refine ⟨_,_,by rw [hx];exact hrun,hF κ _ _ _ (hstep j _ (Qd hjl)) (hR2.put (by unfold q0a at hd ⊢;exact hd) ⟨_,rfl,rfl,λi c hc=>?_⟩)⟩
      rcases i with _ | _ | _ | i
      ·injection hc with hc;subst hc;exact ⟨_,rfl,rfl⟩
      ·injection hc with hc;subst hc;exact ⟨_,rfl,q1l HV _ _ r1⟩
      ·injection hc with hc;subst hc;exact ⟨_,rfl,q1l HV _ _ r2⟩
      ·cases hc
  ·exact h.elim
 ·exact h.elim
theorem qkn (hR:Rel w0 κ st a w) {e t ty:TypeId} {i:TypeInfo} {zero:Value} (hu:P.underlying t=some (.slice e)) (hi:P.info? e=some i) (hz0:i.zero=some zero) (hzs:zero.cells.size=i.size) (hsz:0<i.size) (hby:0<i.bytes) {d:Nat} (hd:d<st.n) {y:FRow} (hy:st.fam=some y) (hpn:y.pend=none) (he:y.e=e) (hss:y.fs.size=i.size) {k:y.kk.Pay} {zxs:List y.fs.Pay} {vx:Value}
  (hsrc:(∃ c,vx=.slice none 0 c∧zxs=[])∨∃ (ad:Addr) (c:Nat) (news:List Value),vx=.slice (some ad) zxs.length c∧news.length=zxs.length*y.fs.size∧(∀ j u,news[j]? = some u→w.cell? (ad.add j)=some u)∧(∀ u∈news,u.oneCell'=true)∧q0k κ w y.fs zxs news)
  (hlen:(((y.at_ k).getD []).length+zxs.length)*i.bytes≤140737488355328) :
  ∃ v' w' row κ',(Qn #[t,t] ty #[κ.μ.fin (y.kk.kv k),vx]).run P w=.ok v' w'∧w.grownBy w' row∧(∀ g,row=some g→(κ.μ.fin (y.kk.kv k)).ownBlock=some g)∧(∀ g,v'.ownBlock=some g→row=some g∨w.heap.size≤g) ∧
   Rel w0 κ' ((st.qbk y k ((y.at_ k).getD []++zxs)).set d (.c (.one .fnew))) (a.put (some d) v') w':=by
 have hF:=hR.ext.fam y hy;obtain ⟨cells,hown,hcells⟩:=hF.at_rep (q5h hpn k);have hmx:((y.at_ k).getD []).length+zxs.length≤maxLen:=by
  have h1:((y.at_ k).getD []).length+zxs.length≤(((y.at_ k).getD []).length+zxs.length)*i.bytes:=Q8 _ hby;show _≤9223372036854775807;omega
 subst he;rcases hsrc with ⟨c,hvx,hnil⟩ | ⟨ad,c,news,hvx,hl,hnews,h1,hnc⟩
 ·subst hnil
  have hrun:=q54 (P:=P) (ty:=ty) hu hi (size:=i.size) (by rw [← hss];exact hown) c
  refine ⟨_,w,(κ.μ.fin (y.kk.kv k)).ownBlock,_,by rw [hvx];exact hrun,grownBy_refl w _,λg h=>h,λg h=>.inl h,(hR.qbk (v':=κ.μ.fin (y.kk.kv k)) (cells:=cells) hy hpn (grownBy_refl w _) (λg h=>h) (by rw [Qi];exact hown) (by rw [Qi];exact hcells) (λg h=>.inl h)).set hd (v:=.c (.one .fnew)) ⟨rfl,qbc hown⟩⟩
 ·obtain ⟨v',w',row,hrun,ho',hgr,hr1,hr2⟩:=q6c (P:=P) (ty:=ty) hu hi hz0 hzs hsz (by rw [← hss];exact hown) (by rw [← hss];exact hl) hnews h1 hmx hlen hR.low
  refine ⟨v',w',row,_,by rw [hvx];exact hrun,hgr,hr1,λg h=>(hr2 g h).imp (λh=>h.1) id,(hR.qbk (v':=v') (cells:=cells++news) hy hpn hgr hr1 (by
   rw [Qt,hss];exact ho') (q8w hown.1 hcells hnc) (λg h=>(hr2 g h).imp (λh=>h.1) id)).set hd (v:=.c (.one .fnew)) ⟨rfl,qbc ho'⟩⟩
theorem vmake_wp {o:Oper} {K:St→Prop} {next:Act→World→Prop} {Q:Exit→Act→World→Prop} {t kt et:TypeId} {d:Nat} (hR:Rel w0 κ st a w) (ho:o.op=.makeMap t none) (hu:P.underlying t=some (.map kt et)) (hd:o.dst=some d) (h:vmake P st t kt et d K) (hF:Fits w0 K next) :
  o.wp P a w (λa' w'=>(q7p o.op=true→Below w.heap.size w w')∧next a' w') Q:=by
 unfold vmake at h;split at h
 ·rename_i kk vk h1 h2
  cases hb:Qb d st.n
  ·rw [hb] at h;exact h.elim
  ·rw [hb] at h
   have hlt:d<st.n:=by rw [Q9] at hb;exact hb
   obtain ⟨κ',hR',hμ⟩:=hR.qdw (st.off+d) t kk vk;have hR2:=hR'.set (d:=d) hlt (v:=.c (.one (.mref (st.off+d)))) (u:=.map (some w.heap.size)) (by show QJ _=.map (some (κ'.μ _));rw [hμ])
   unfold Q7;have hrun:(execOp a.eval o).run P w=.ok (.value (.map (some w.heap.size))) (w.alloc (.map #[] 0)):=by
    simp [execOp,ho,run_makeMap]
   rw [hrun];show (_→_)∧next (a.put o.dst _) _;rw [hd];exact ⟨λ_=>q02 (q03 w) _,hF κ' _ _ _ h hR2⟩
 ·exact h.elim
theorem qec {cons:List Con} (hcons:∀ c∈cons,c.Holds P) {o:Oper} {K:St→Prop} {next:Act→World→Prop} {Q:Exit→Act→World→Prop} (hR:Rel w0 κ st a w) (h:vop P cons o st K) (hF:Fits w0 K next):o.wp P a w (λa' w'=>(q7p o.op=true→Below w.heap.size w w')∧next a' w') Q:=by
 unfold vop at h;split at h
 ·
  rename_i e ho;split at h
  ·rename_i d cs hd hz
   cases hb:Qb d st.n
   ·rw [hb] at h;exact h.elim
   ·rw [hb] at h
    have hlt:d<st.n:=by rw [Q9] at hb;exact hb
    obtain ⟨it,z,hit,hzz,hcs⟩:=q8j (κ:=κ) (w:=w) hz;obtain ⟨κ',hR'⟩:=hR.q8o (i:=st.off+d) hlt hcs e;unfold Q7;have hrun:(execOp a.eval o).run P w=.ok (.value (.pointer (some ⟨w.heap.size,0,none⟩))) (w.alloc (.cells z.cells e)):=by
     simp [execOp,ho,Instr.alloc,zeroValue,typeInfo,hit,hzz,newVar,newRow]
    rw [hrun];show (_→_)∧next (a.put o.dst _) _;rw [hd];exact ⟨λ_=>q02 (q03 w) _,hF κ' _ _ _ h hR'⟩
  ·exact h.elim
 ·
  rename_i e x ho;split at h
  ·rename_i d cs hd hz
   cases hb:Qb d st.n
   ·rw [hb] at h;exact h.elim
   ·rw [hb] at h
    have hlt:d<st.n:=by rw [Q9] at hb;exact hb
    obtain ⟨κ',hR'⟩:=hR.q8o (i:=st.off+d) hlt (q6s hz (hR.ev x)) e;unfold Q7;have hrun:(execOp a.eval o).run P w=.ok (.value (.pointer (some ⟨w.heap.size,0,none⟩))) (w.alloc (.cells (a.eval x).cells e)):=by
     simp [execOp,ho,Instr.box,newVar,newRow]
    rw [hrun];show (_→_)∧next (a.put o.dst _) _;rw [hd];exact ⟨λ_=>q02 (q03 w) _,hF κ' _ _ _ h hR'⟩
  ·exact h.elim
 ·
  rename_i t ho;split at h
  ·rename_i kt et d hu hd
   split at h
   ·split at h
    ·rename_i kk ik iv h0 h1 h2 h3
     cases hb:Qb d st.n&&st.fam.isNone
     ·rw [hb] at h;exact h.elim
     ·rw [hb] at h
      rw [Q3,Qc] at hb;have hlt:d<st.n:=by have hb:=hb.1;rw [Q9] at hb;exact hb
      obtain ⟨κ',hR',hμ⟩:=hR.qhj hb.2 t kk et ik iv;have hR2:=hR'.set (d:=d) hlt (v:=.c (.one .nref)) (u:=.map (some w.heap.size)) (by show QJ _=.map (some κ'.μ.ν);rw [hμ])
      unfold Q7;have hrun:(execOp a.eval o).run P w=.ok (.value (.map (some w.heap.size))) (w.alloc (.map #[] 0)):=by
       simp [execOp,ho,run_makeMap]
      rw [hrun];show (_→_)∧next (a.put o.dst _) _;rw [hd];exact ⟨λ_=>q02 (q03 w) _,hF κ' _ _ _ h hR2⟩
    ·exact h.elim
   ·have h:=h
    unfold vmakeF at h;rename_i e2 _ _;cases hfo:famOk P st e2
    ·rw [hfo] at h
     exact vmake_wp hR ho hu hd h hF
    ·rw [hfo] at h
     have h:(match ckOf P kt,q8l P 20 e2,q15 P e2 with
      | some kk,some fs,some n=>bif n.beq fs.size&&Qb d st.n then K ((st.newFam { t:=t,kk:=kk,e:=e2,fs:=fs,xs:=[] }).set d (.c (.one .fref))) else False
      | _,_,_=>False):=h
     split at h
     ·rename_i kk fs n _ _ _
      cases hb:n.beq fs.size&&Qb d st.n
      ·rw [hb] at h;exact h.elim
      ·rw [hb] at h
       rw [Q3] at hb;have hlt:d<st.n:=by have hb:=hb.2;rw [Q9] at hb;exact hb
       unfold famOk at hfo;simp only [Q3,Qc] at hfo;obtain ⟨κ',hR',hμ⟩:=hR.newFam hfo.2.2 t kk e2 fs;have hR2:=hR'.set (d:=d) hlt (v:=.c (.one .fref)) (u:=.map (some w.heap.size)) (by show QJ _=.map (some κ'.μ.φ);rw [hμ])
       unfold Q7;have hrun:(execOp a.eval o).run P w=.ok (.value (.map (some w.heap.size))) (w.alloc (.map #[] 0)):=by
        simp [execOp,ho,run_makeMap]
       rw [hrun];show (_→_)∧next (a.put o.dst _) _;rw [hd];exact ⟨λ_=>q02 (q03 w) _,hF κ' _ _ _ h hR2⟩
     ·exact h.elim
   ·exact vmake_wp hR ho hu hd h hF
  ·exact h.elim
 ·
  rename_i t m k v ho;obtain ⟨w',hrun,hK⟩:=qih hR h hF;unfold Q7;have hrun:(execOp a.eval o).run P w=.ok .skip w':=by
   simp [execOp,ho,hrun]
  rw [hrun];exact ⟨λhg=>q19 (by rw [ho];rfl) hg,hK⟩
 ·
  rename_i t m k ho;obtain ⟨d,hd,w',v',hrun,hK⟩:=ventry_sound hR h hF;unfold Q7;have hrun:(execOp a.eval o).run P w=.ok (.value v') w':=by
   simp [execOp,ho,hrun]
  rw [hrun];refine ⟨λhg=>q19 (by rw [ho];rfl) hg,?_⟩
  show next (a.put o.dst v') w';rw [hd];exact hK
 ·
  rename_i t m s v ho;obtain ⟨w',hrun,hK⟩:=vstamp_sound hR h hF;unfold Q7;have hrun:(execOp a.eval o).run P w=.ok .skip w':=by
   simp [execOp,ho,hrun]
  rw [hrun];exact ⟨λhg=>q19 (by rw [ho];rfl) hg,hK⟩
 ·
  rename_i t m k v ho;obtain ⟨w',hrun,hK⟩:=qih hR h hF;unfold Q7;have hrun:(execOp a.eval o).run P w=.ok .skip w':=by
   simp [execOp,ho,hrun]
  rw [hrun];exact ⟨λhg=>q19 (by rw [ho];rfl) hg,hK⟩
 ·
  rename_i t x ho;split at h
  ·rename_i kt et d c hu hd hx
   have hxe:=hR.ev x;rw [hx] at hxe;split at h
   ·rename_i z hz
    cases hb:Qb d st.n
    ·rw [hb] at h;exact h.elim
    ·rw [hb] at h
     have hlt:d<st.n:=by rw [Q9] at hb;exact hb
     obtain ⟨o',ho',hrun,hit⟩:∃ o':Obj,o'.q2q=true∧(Instr.range t (a.eval x)).run P w=.ok (.pointer (some ⟨w.heap.size,0,none⟩)) (w.alloc o') ∧
       ∀ κ':Cx,κ'.src z.src=κ.src z.src→κ'.S=κ.S→q59 w0.n0 κ' (w.alloc o') z w.heap.size:=itOf_sound hR hu hz hxe
     obtain ⟨κ',hR',hθ⟩:=hR.qdy (st.off+d) z ho' (λκ' h1 h2 _=>hit κ' h1 h2)
     have hR2:=hR'.set (d:=d) hlt (v:=.c (.one (.iter (st.off+d)))) (u:=.pointer (some ⟨w.heap.size,0,none⟩)) (by show Value.pointer _=.pointer (some ⟨κ'.μ.θ _,0,none⟩);rw [hθ])
     unfold Q7;have hrun':(execOp a.eval o).run P w=.ok (.value (.pointer (some ⟨w.heap.size,0,none⟩))) (w.alloc o'):=by
      simp [execOp,ho,hrun]
     rw [hrun'];show (_→_)∧next (a.put o.dst _) _;rw [hd];exact ⟨λ_=>q02 (q03 w) _,hF κ' _ _ _ h hR2⟩
   ·exact h.elim
  ·exact h.elim
 ·
  rename_i x ho;obtain ⟨u,w',hrun,hK⟩:=vnext_sound (P:=P) (ty:=o.type) hR h hF;unfold Q7;have hrun':(execOp a.eval o).run P w=.ok (.value u) w':=by
   simp [execOp,ho,hrun]
  rw [hrun'];exact ⟨λhg=>q19 (by rw [ho];rfl) hg,hK⟩
 ·
  rename_i t x y ho;split at h
  ·rename_i b off cs n hx hy hs
   cases hb:n.beq cs.length&&q0a st o.dst
   ·rw [hb] at h;exact h.elim
   ·rw [hb] at h
    rw [Q3] at hb;have hn:n=cs.length:=Q0 hb.1;dsimp only [cond_true] at h;split at h
    ·rename_i bs hbs
     split at h
     ·rename_i bs' hset
      have hpx:a.eval x=.pointer (some ⟨κ.β b,off,none⟩):=by have:=hR.ev x;rw [hx] at this;exact this
      have hcy:=qla hy (hR.ev y);obtain ⟨us,ty,hblk,hr,hge,hS⟩:=hR.box b bs hbs;have hle:0<(a.eval y).cells.toList.length→off+0+(a.eval y).cells.toList.length≤us.size:=λh0=>by
       have e1:(a.eval y).cells.toList.length=cs.length:=by rw [Qe];exact hcy.1
       rw [e1] at h0 ⊢;rw [hr.1];exact qiv cs bs bs' off hset h0
      obtain ⟨w',h1,h2,h3⟩:=q7b (P:=P) (a.eval y).cells.toList off 0 us w hblk (λv hv=>by
       obtain ⟨i,hi,rfl⟩:=List.getElem_of_mem hv;exact hcy.2.2 i _ (by rw [← Qp];exact Qd hi)) hle
      have hcs:=qfl cs bs off bs' (a.eval y).cells.toList us hset (by simpa using hcy) hr
      have hR':=(hR.store hbs h2 h3 hcs).put (d:=o.dst) hb.2 (v:=.c (.one .undef)) (u:=Qa) rfl;unfold Q7;have hrun:(execOp a.eval o).run P w=.ok .skip w':=by
       have hsz:(a.eval y).cells.size=n:=by rw [hn];exact hcy.1
       simp [execOp,ho,QK,QH,hpx,Go.storeVar,q1m hs,hsz,h1]
      rw [hrun];exact ⟨λhg=>q19 (by rw [ho];rfl) hg,hF κ _ _ _ h hR'⟩
     ·exact h.elim
    ·exact h.elim
  ·rename_i r sz i f c0 n hx hc0 hs
   obtain ⟨κ1,hR1⟩:=Rel.q08 (q1k [st.ev y]) hR;split at h
   ·rename_i cs z hy hz
    cases hb:n.beq cs.length&&q0a st o.dst&&sz.beq z.fs.size
    ·rw [hb] at h;exact h.elim
    ·rw [hb] at h
     rw [Q3,Q3] at hb;obtain ⟨⟨hb1,hb2⟩,hb3⟩:=hb;have hn:n=cs.length:=Q0 hb1;have hsz:=Q0 hb3;dsimp only [cond_true] at h;split at h
     ·rename_i xs' hset
      split at h
      ·rename_i r2 sz2 i2 f2 hx2
       cases hb4:eqN r2 r&&(eqN sz2 sz&&(eqN f2 f&&i2.beq i))
       ·rw [hb4] at h;exact h.elim
       ·rw [hb4] at h
        simp only [Q3] at hb4;obtain ⟨q1,q2,q4,q3⟩:=hb4;obtain rfl:=eqN_eq _ _ q1;obtain rfl:=eqN_eq _ _ q2;obtain rfl:=Q0 q3;obtain rfl:=eqN_eq _ _ q4;have hpx:=hR1.ev x;rw [hx2] at hpx;obtain ⟨g,m,cap,hρ,him,hpx⟩:=hpx;have hcy:=q6s hy (hR1.ev y);obtain ⟨cells,hown,hcells,hnn⟩:=hR1.row r2 z hz;obtain ⟨w',h1,h2,h3,h4,hzl⟩:=store_row (P:=P) hR1.bound hρ him hown hcells hnn hset hcy hsz;have hR':=(hR1.storeRow (y:=⟨z.e,z.fs,z.xs.set i2 xs'⟩) hz (by rw [hρ];rfl) h2 h3 h4).put (d:=o.dst) (by
         show q0a _ o.dst=true;unfold q0a at hb2 ⊢;show (match o.dst with | some d=>Qb d (st.q08 _).n | none=>true)=true
         rw [q7f];exact hb2) (v:=.c (.one .undef)) (u:=Qa) rfl
        unfold Q7;have hrun:(execOp a.eval o).run P w=.ok .skip w':=by
         have hszv:(a.eval y).cells.size=n:=by rw [hn];exact hcy.1
         simp [execOp,ho,QK,QH,hpx,Go.storeVar,q1m hs,hszv,h1]
        rw [hrun];exact ⟨λhg=>q19 (by rw [ho];rfl) hg,hF κ1 _ _ _ h hR'⟩
      ·exact h.elim
     ·exact h.elim
   ·exact h.elim
  ·exact h.elim
 ·
  rename_i f args ts ho;split at h
  ·rename_i c hc
   obtain ⟨hmem,rfl⟩:=qf1 hc;unfold vcall at h;obtain ⟨κ1,hR1⟩:=Rel.q08 (q1k (evs st args.toList)) hR;split at h
   ·rename_i p hp
    cases hd:q0a st o.dst
    ·rw [hd] at h;exact h.elim
    ·rw [hd] at h
     have hd1:q0a (st.q08 (q1k (evs st args.toList))) o.dst=true:=by
      unfold q0a at hd ⊢;rw [q7f];exact hd
     obtain ⟨hpre,hK⟩:=h;have hH:=hcons c hmem;unfold Q7;rw [run_call c hH ho w];refine (hH.2 p _ w κ1.S hR1.bound hpre (q7o (κ:=κ1) (κ':=Cx.of κ1.S) c.args p rfl (q7s hR1 _ _ _ hp))).mono ?_;rintro e w' ⟨r,v,rfl,hpost,hres,hb⟩;cases hl:c.lend&&c.res.all CK.qa8
     case true =>
      rw [hl] at hK;have hK:(match c.fn with
       | some F=>K (st.put o.dst (q1s c.res (F p)))
       | none=>∀ r,c.post p r→K (st.put o.dst (q1s c.res r))):=hK
      rw [Q3] at hl;have hR':=(hR.later hb).put hd (resAV_flatA hl.2 hres);have hK':K (st.put o.dst (q1s c.res r)):=by
       cases hfn:c.fn with
       | none=>rw [hfn] at hK;exact hK r hpost
       | some F=>rw [hfn] at hK;rw [hH.1.2 F hfn p r hpost];exact hK
      exact ⟨λ_=>hb,hF _ _ _ _ hK' hR'⟩
     rw [hl] at hK;have hK:(match c.fn with
      | some F=>K ((st.q08 (q1k (evs st args.toList))).put o.dst (q1s c.res (F p)))
      | none=>∀ r,c.post p r→K ((st.q08 (q1k (evs st args.toList))).put o.dst (q1s c.res r))):=hK
     have hR':=(hR1.later hb).put hd1 (qa7 (κ:=Cx.of λg=>κ1.S g∨(w.heap.size≤g∧g<w'.heap.size)) (κ':={ κ1 with S:=λg=>κ1.S g∨(w.heap.size≤g∧g<w'.heap.size) }) c.res r rfl hres)
     have hK':K ((st.q08 (q1k (evs st args.toList))).put o.dst (q1s c.res r)):=by
      cases hfn:c.fn with
      | none=>rw [hfn] at hK;exact hK r hpost
      | some F=>rw [hfn] at hK;rw [hH.1.2 F hfn p r hpost];exact hK
     exact ⟨λ_=>hb,hF _ _ _ _ hK' hR'⟩
   ·exact h.elim
  ·exact h.elim
 ·
  rename_i args ts ho;split at h
  ·rename_i s x t t' d hargs hts hd
   split at h
   ·rename_i e z hu hz
    split at h
    ·rename_i size bytes hinfo
     obtain ⟨i,zero,hi,hz0,hzs,hsz,hby,rfl,rfl,_⟩:=q6v hinfo;have hsrc:=qia hR hz (hR.ev x);have ha:args=#[s,x]:=by cases args;simp_all
     have hT:ts=#[t,t']:=by cases ts;simp_all
     subst ha;subst hT;split at h
     ·
      rename_i r hs;split at h
      ·rename_i y hy
       split at h
       ·rename_i hfs _
        cases hb:t'.beq t&&y.e.beq e&&y.fs.size.beq i.size&&Qb d st.n&&!isOwn r (st.ev x)
        ·rw [hb] at h;exact h.elim
        ·rw [hb] at h
         simp only [Q3] at hb;obtain ⟨⟨⟨⟨b1,b2⟩,b3⟩,b4⟩,b5⟩:=hb;obtain rfl:=Q0 b1;have he:=Q0 b2;have hss:=Q0 b3;have hdn:d<st.n:=by rw [Q9] at b4;exact b4
         obtain ⟨hlen,hK⟩:=h;have hvs:a.eval s=κ.ρ r:=by have:=hR.ev s;rw [hs] at this;exact this.1
         obtain ⟨ye,yfs,yxs⟩:=y;obtain ⟨ze,zfs,zxs⟩:=z;dsimp only at hfs he hss hlen hK hsrc;subst hfs;subst he;obtain ⟨cells,hown,hcells,hn⟩:=hR.row r _ hy;dsimp only at hown hcells;have hmx:yxs.length+zxs.length≤maxLen:=by
          have h1:yxs.length+zxs.length≤(yxs.length+zxs.length)*i.bytes:=Q8 _ hby;show _≤9223372036854775807;omega
         have hrow:∀ g,(κ.ρ r).ownBlock=some g→(κ.ρ r).ownBlock=some g∧(st.row r).isSome=true:=λg hg=>⟨hg,by rw [hy];rfl⟩
         have hfin:∀ v' w',(Qn #[t',t'] o.type #[a.eval s,a.eval x]).run P w=.ok v' w'→(execOp a.eval o).run P w=.ok (.value v') w':=λv' w' hrun=>by
          simp [execOp,ho,resolve,invoke,builtin,hrun]
         unfold Q7;rcases hsrc with ⟨c,hvx,hnil⟩ | ⟨ad,c,news,hvx,hl,hnews,h1,hnc⟩
         ·subst hnil
          have hrun:=q54 (P:=P) (ty:=o.type) hu hi (size:=i.size) (by rw [← hss];exact hown) c
          rw [hfin _ _ (by rw [hvs,hvx];exact hrun)]
          obtain ⟨κ',hR'⟩:=q37 hR (x:=⟨ye,zfs,yxs++q4n rfl []⟩) hdn (grownBy_refl w (κ.ρ r).ownBlock) hrow (by
           show w.ownsRow _ ye zfs.size _ (yxs++[]).length cells;rw [Qi];exact hown) (by
           show q0k κ w zfs (yxs++[]) cells;rw [Qi];exact hcells) (r:=r) (λg hg=>.inl ⟨hg,hg⟩)
          show (_→_)∧next (a.put o.dst _) _;rw [hd];exact ⟨λhg=>q19 (by rw [ho];rfl) hg,hF κ' _ _ _ hK hR'⟩
         ·obtain ⟨v',w',row,hrun,ho',hgr,hr1,hr2⟩:=q6c (P:=P) (ty:=o.type) hu hi hz0 hzs hsz (by rw [← hss];exact hown) (by rw [← hss];exact hl) hnews h1 hmx hlen hR.low
          rw [hfin _ _ (by rw [hvs,hvx];exact hrun)]
          obtain ⟨κ',hR'⟩:=q37 hR (x:=⟨ye,zfs,yxs++q4n rfl zxs⟩) (r:=r) hdn hgr (λg hg=>hrow g (hr1 g hg)) (by
           show w'.ownsRow _ ye zfs.size _ (yxs++zxs).length (cells++news);rw [Qt,hss];exact ho') (q8w hown.1 hcells hnc) hr2
          show (_→_)∧next (a.put o.dst _) _;rw [hd];exact ⟨λhg=>q19 (by rw [ho];rfl) hg,hF κ' _ _ _ hK hR'⟩
       ·exact h.elim
      ·exact h.elim
     ·
      rename_i hs;cases hb:t'.beq t&&z.fs.size.beq i.size&&Qb d st.n
      ·rw [hb] at h;exact h.elim
      ·rw [hb] at h
       simp only [Q3] at hb;obtain ⟨⟨b1,b2⟩,b3⟩:=hb;obtain rfl:=Q0 b1;have hss:=Q0 b2;have hdn:d<st.n:=by rw [Q9] at b3;exact b3
       obtain ⟨hlen,hK⟩:=h;have hvs:a.eval s=.slice none 0 0:=by have:=hR.ev s;rw [hs] at this;exact this
       have hmx:0+z.xs.length≤maxLen:=by
        have h1:z.xs.length≤z.xs.length*i.bytes:=Q8 _ hby;show _≤9223372036854775807;omega
       have hfin:∀ v' w',(Qn #[t',t'] o.type #[a.eval s,a.eval x]).run P w=.ok v' w'→(execOp a.eval o).run P w=.ok (.value v') w':=λv' w' hrun=>by
        simp [execOp,ho,resolve,invoke,builtin,hrun]
       have hnil:=Qo w w.heap.size e i.size;unfold Q7;rcases hsrc with ⟨c,hvx,hnl⟩ | ⟨ad,c,news,hvx,hl,hnews,h1,hnc⟩
       ·have hrun:=q54 (P:=P) (ty:=o.type) hu hi hnil c
        rw [hfin _ _ (by rw [hvs,hvx];exact hrun)]
        obtain ⟨κ',hR'⟩:=q37 hR (r:=st.off+d) (x:=⟨e,z.fs,z.xs⟩) hdn (grownBy_refl w none) (λg hg=>nomatch hg) (by
         show w.ownsRow _ e z.fs.size _ z.xs.length [];rw [hnl,hss];exact Qo _ _ _ _) (λi x hx=>by
          have hx:z.xs[i]? = some x:=hx;rw [hnl] at hx;simp at hx) (λg hg=>by cases hg)
        show (_→_)∧next (a.put o.dst _) _;rw [hd];exact ⟨λhg=>q19 (by rw [ho];rfl) hg,hF κ' _ _ _ hK hR'⟩
       ·obtain ⟨v',w',row,hrun,ho',hgr,hr1,hr2⟩:=q6c (P:=P) (ty:=o.type) hu hi hz0 hzs hsz hnil (by rw [← hss];exact hl) hnews h1 hmx (by rw [Qw];exact hlen) (Qj _)
        rw [hfin _ _ (by rw [hvs,hvx];exact hrun)]
        have hr1':row=none:=by
         cases row with
         | none=>rfl
         | some g=>have:=hr1 g rfl;cases this
        subst hr1';obtain ⟨κ',hR'⟩:=q37 hR (r:=st.off+d) (x:=⟨e,z.fs,z.xs⟩) hdn hgr (λg hg=>nomatch hg) (by
         show w'.ownsRow _ e z.fs.size _ z.xs.length news;rw [hss];rw [Qw,QG] at ho';exact q6u ho' hR.low) hnc (λg hg=>.inr (q2r ho' g hg))
        show (_→_)∧next (a.put o.dst _) _;rw [hd];exact ⟨λhg=>q19 (by rw [ho];rfl) hg,hF κ' _ _ _ hK hR'⟩
     ·
      rename_i kk k0 hs;split at h
      ·rename_i y hy
       split at h
       ·rename_i hkk hfs _ _
        cases hb:t'.beq t&&(y.e.beq e&&(y.fs.size.beq i.size&&(Qb d st.n&&(y.pend.isNone&&y.kk.plain))))
        ·rw [hb] at h;exact h.elim
        ·rw [hb] at h
         simp only [Q3,Qc] at hb;obtain ⟨b1,b2,b3,b4,b5,_⟩:=hb;obtain rfl:=Q0 b1;have he:=Q0 b2;have hss:=Q0 b3;have hdn:d<st.n:=by rw [Q9] at b4;exact b4
         obtain ⟨hlen,hK⟩:=h;subst hkk;have hvs:a.eval s=κ.μ.fin (y.kk.kv k0):=by have:=hR.ev s;rw [hs] at this;exact this.1
         obtain ⟨ze,zfs,zxs⟩:=z;dsimp only at hfs hsrc hlen hK;subst hfs;obtain ⟨v',w',row,κ',hrun,hgr,hr1,hr2,hR'⟩:=qkn (P:=P) (ty:=o.type) (k:=k0) (zxs:=zxs) hR hu hi hz0 hzs hsz hby hdn hy b5 he hss hsrc hlen;have hfin:(execOp a.eval o).run P w=.ok (.value v') w':=by
          rw [← hvs] at hrun;simp [execOp,ho,resolve,invoke,builtin,hrun]
         unfold Q7;rw [hfin];show (_→_)∧next (a.put o.dst _) _;rw [hd];exact ⟨λhg=>q19 (by rw [ho];rfl) hg,hF κ' _ _ _ hK hR'⟩
       ·exact h.elim
      ·exact h.elim
     ·exact h.elim
    ·exact h.elim
   ·exact h.elim
  ·exact h.elim
 ·
  rename_i t len parts ho;obtain ⟨κ1,hR1⟩:=Rel.q08 (q1k (q4u st parts.toList)) hR;split at h
  ·rename_i e d hu hd
   split at h
   ·rename_i size bytes fs hinfo hfs
    split at h
    ·rename_i l hl
     split at h
     ·rename_i xs hxs
      cases hb:fs.size.beq size&&Qb d (st.q08 (q1k (q4u st parts.toList))).n&&Nat.ble (len*size) 16777216
      ·rw [hb] at h;exact h.elim
      ·rw [hb] at h
       simp only [Q3] at hb;obtain ⟨⟨b1,b2⟩,b3⟩:=hb;have hss:=Q0 b1;have hdn:d<(st.q08 (q1k (q4u st parts.toList))).n:=by rw [Q9] at b2;exact b2
       obtain ⟨us,hrun,hus⟩:=run_buildSlice hu hinfo hR1 hl (Qk b3);obtain ⟨e1,e2,e3⟩:=q9m (fs:=fs) len l xs us.toList hxs (by simpa using hus)
       have hlm:len≤maxLen:=by
        have h1:0<size:=by rw [← hss];exact Kds.q80 fs
        have h2:len≤len*size:=Q8 _ h1;have h3:=Qk b3;show _≤9223372036854775807;omega
       obtain ⟨κ',hR'⟩:=q37 hR1 (r:=st.off+d) (x:=⟨e,fs,xs⟩) (w':=w.alloc (.cells us e)) (v':=.slice (some ⟨w.heap.size,0,none⟩) len len) (cells:=us.toList) hdn (Qm w _ none) (λg hg=>nomatch hg) (by
        show QC _ _ e fs.size _ xs.length _;rw [e1];refine ⟨e2,.inr ⟨w.heap.size,len,us,rfl,hR1.low,heap_alloc_new w _,Qj _,hlm,by rw [← e2,Qe],?_⟩⟩
        rw [Qx (by rw [e2];exact Qj _)]) e3 (λg hg=>.inr (by
         have:w.heap.size=g:=by simpa [Qr] using hg
         omega))
       unfold Q7;have hrun':(execOp a.eval o).run P w=.ok (.value (.slice (some ⟨w.heap.size,0,none⟩) len len)) (w.alloc (.cells us e)):=by
        simp only [execOp,ho];rw [Qq,hrun];rfl
       rw [hrun'];show (_→_)∧next (a.put o.dst _) _;rw [hd];exact ⟨λ_=>q02 (q03 w) _,hF κ' _ _ _ h hR'⟩
     ·exact h.elim
    ·exact h.elim
   ·exact h.elim
  ·exact h.elim
 ·
  rename_i t x y ho;split at h
  ·rename_i e d k n k' m hu hd hx hy
   split at h
   ·rename_i size bytes fs zc hinfo hfs hz
    split at h
    ·rename_i z hzr
     cases hb:fs.size.beq size&&Qb d st.n
     ·rw [hb] at h;exact h.elim
     ·rw [hb] at h
      simp only [Q3] at hb;obtain ⟨b1,b2⟩:=hb;have hss:=Q0 b1;have hdn:d<st.n:=by rw [Q9] at b2;exact b2
      obtain ⟨i,zero,hi,hz0,hzs,hsz,hby,rfl,rfl,hone⟩:=q6v hinfo;have h:(0≤n∧n=m∧n*(i.bytes:Int)≤140737488355328)∧K ((st.setRow (st.off+d) ⟨e,fs,Qs n.toNat z⟩).set d (.c (.one (.own (st.off+d))))):=h;obtain ⟨⟨c1,c2,c3⟩,hK⟩:=h;subst c2;have hvx:a.eval x=.int k n:=by have:=hR.ev x;rw [hx] at this;exact this
      have hvy:a.eval y=.int k' n:=by have:=hR.ev y;rw [hy] at this;exact this
      have hby':(i.bytes:Int)*n≤281474976710656:=by rw [Int.mul_comm];exact QE c3 (by omega)
      have hn63:n≤9223372036854775807:=by
       have h1:n*1≤n*(i.bytes:Int):=Int.mul_le_mul_of_nonneg_left (by omega) c1
       rw [Int.mul_one] at h1;exact QE h1 (QE c3 (by omega))
      have hrun:=run_make (P:=P) w t e i zero hu hi hz0 k k' n n c1 (Int.le_refl _) hby' hn63;obtain ⟨κ',hR'⟩:=q37 hR (r:=st.off+d) (x:=⟨e,fs,Qs n.toNat z⟩) (w':=w.alloc (.cells (madeCells zero.cells (n.toNat*i.size)) e)) (v':=.slice (some ⟨w.heap.size,0,none⟩) n.toNat n.toNat) (cells:=(madeCells zero.cells (n.toNat*i.size)).toList) hdn (Qm w _ none) (λg hg=>nomatch hg) (by
       show QC _ _ e fs.size _ (Qs n.toNat z).length _;rw [List.length_replicate,hss];exact World.ownsRow_lit w _ n.toNat hR.low (Int.toNat_le.2 hn63) (size_madeCells _ _)) (by
       show q0k κ w fs (Qs n.toNat z) _;rw [← hss];exact qjz (P:=P) hz hi hz0 hzr (by rw [hzs,hss])) (λg hg=>.inr (by
        have:w.heap.size=g:=by simpa [Qr] using hg
        omega))
      unfold Q7;have hrun':(execOp a.eval o).run P w=.ok (.value (.slice (some ⟨w.heap.size,0,none⟩) n.toNat n.toNat)) (w.alloc (.cells (madeCells zero.cells (n.toNat*i.size)) e)):=by
       simp only [execOp,ho];rw [Qq,hvx,hvy,hrun];rfl
      rw [hrun'];show (_→_)∧next (a.put o.dst _) _;rw [hd];exact ⟨λ_=>q02 (q03 w) _,hF κ' _ _ _ hK hR'⟩
    ·exact h.elim
   ·exact h.elim
  ·exact h.elim
 ·
  split at h
  ·rename_i c v hr
   exact rop_wpG hR hr h hF
  ·exact h.elim
def qb6 (B:Nat) (v:Value):Prop:=∀ g,v.ownBlock=some g→B≤g
def q5m (o:Oper) (a:Act) (w:World) (a':Act) (w':World):Prop :=
 ∀ B,B≤w.heap.size→(∀ t,q82 o=some t→qb6 B (a.eval (.tmp t)))→Below B w w'∧∀ d,o.dst=some d→qb6 B (a'.eval (.tmp d))
theorem qhr (B:Nat):qb6 B Qa:=λg h=>by cases h
theorem fresh_put {B:Nat} {v:Value} (h:qb6 B v) (a:Act) (d:Nat):qb6 B ((a.put (some d) v).eval (.tmp d)):=by
 by_cases hd:d<a.tmps.size
 ·have:(a.put (some d) v).eval (.tmp d)=v:=by
   show (a.tmps.setIfInBounds d v).getD d Qa=v;rw [Qu,Array.getElem?_setIfInBounds_self_of_lt hd];rfl
  rw [this];exact h
 ·have:(a.put (some d) v).eval (.tmp d)=Qa:=by
   show (a.tmps.setIfInBounds d v).getD d Qa=Qa;rw [Qu,Array.getElem?_eq_none (by rw [Array.size_setIfInBounds];omega)];rfl
  rw [this];exact qhr B
theorem q5m.done {o:Oper} {v':Value} {row:Option Nat} {d:Nat} (hd:o.dst=some d) (hg:w.grownBy w' row) (h1:∀ B,B≤w.heap.size→(∀ t,q82 o=some t→qb6 B (a.eval (.tmp t)))→∀ g,row=some g→B≤g)
  (h2:∀ g,v'.ownBlock=some g→row=some g∨w.heap.size≤g):q5m o a w (a.put (some d) v') w':=by
 intro B hB hs;have hr:=h1 B hB hs;refine ⟨⟨hg.os,hg.tape,hg.output,hg.size,λk hk=>hg.block k (by omega) (λe=>?_)⟩,λd' hd'=>?_⟩
 ·have:=hr k (by first | exact e | exact e.symm)
  omega
 ·rw [hd] at hd'
  injection hd' with hd';subst hd';refine fresh_put (λg hgg=>?_) a d
  rcases h2 g hgg with h | h
  ·exact hr g h
  ·omega
theorem vop_soundN {cons:List Con} (hcons:∀ c∈cons,c.Holds P) {o:Oper} (hk:q72 o=true) {K:St→Prop} {next:Act→World→Prop} {Q:Exit→Act→World→Prop} (hR:Rel w0 κ st a w) (h:vop P cons o st K) (hF:Fits w0 K next):o.wp P a w (λa' w'=>((q7p o.op=true→Below w.heap.size w w')∧q5m o a w a' w')∧next a' w') Q:=by
 unfold q72 at hk;split at hk
 ·rename_i t len parts ho
  unfold vop at h;rw [ho] at h;dsimp only at h;obtain ⟨κ1,hR1⟩:=Rel.q08 (q1k (q4u st parts.toList)) hR;split at h
  ·rename_i e d hu hd
   split at h
   ·rename_i size bytes fs hinfo hfs
    split at h
    ·rename_i l hl
     split at h
     ·rename_i xs hxs
      cases hb:fs.size.beq size&&Qb d (st.q08 (q1k (q4u st parts.toList))).n&&Nat.ble (len*size) 16777216
      ·rw [hb] at h;exact h.elim
      ·rw [hb] at h
       simp only [Q3] at hb;obtain ⟨⟨b1,b2⟩,b3⟩:=hb;have hss:=Q0 b1;have hdn:d<(st.q08 (q1k (q4u st parts.toList))).n:=by rw [Q9] at b2;exact b2
       obtain ⟨us,hrun,hus⟩:=run_buildSlice hu hinfo hR1 hl (Qk b3);obtain ⟨e1,e2,e3⟩:=q9m (fs:=fs) len l xs us.toList hxs (by simpa using hus)
       have hlm:len≤maxLen:=by
        have h1:0<size:=by rw [← hss];exact Kds.q80 fs
        have h2:len≤len*size:=Q8 _ h1;have h3:=Qk b3;show _≤9223372036854775807;omega
       obtain ⟨κ',hR'⟩:=q37 hR1 (r:=st.off+d) (x:=⟨e,fs,xs⟩) (w':=w.alloc (.cells us e)) (v':=.slice (some ⟨w.heap.size,0,none⟩) len len) (cells:=us.toList) hdn (Qm w _ none) (λg hg=>nomatch hg) (by
        show QC _ _ e fs.size _ xs.length _;rw [e1];refine ⟨e2,.inr ⟨w.heap.size,len,us,rfl,hR1.low,heap_alloc_new w _,Qj _,hlm,by rw [← e2,Qe],?_⟩⟩
        rw [Qx (by rw [e2];exact Qj _)]) e3 (λg hg=>.inr (by
         have:w.heap.size=g:=by simpa [Qr] using hg
         omega))
       unfold Q7;have hrun':(execOp a.eval o).run P w=.ok (.value (.slice (some ⟨w.heap.size,0,none⟩) len len)) (w.alloc (.cells us e)):=by
        simp only [execOp,ho];rw [Qq,hrun];rfl
       rw [hrun'];show ((_→_)∧q5m o a w (a.put o.dst _) _)∧next (a.put o.dst _) _;rw [hd];exact ⟨⟨λ_=>q02 (q03 w) _,q5m.done hd (Qm w _ none) (λ_ _ _ g hg=>nomatch hg) λg hg=>.inr (Nat.le_of_eq (by simpa [Qr] using hg))⟩,hF κ' _ _ _ h hR'⟩
     ·exact h.elim
    ·exact h.elim
   ·exact h.elim
  ·exact h.elim
 ·rename_i args ts ho
  split at hk
  ·rename_i s0 x0 hargs0
   unfold vop at h;rw [ho] at h;dsimp only at h;have hh0:q82 o=some s0:=by unfold q82;rw [ho];dsimp only;rw [hargs0]
   split at h
   ·rename_i s x t t' d hargs hts hd
    split at h
    ·rename_i e z hu hz
     split at h
     ·rename_i size bytes hinfo
      obtain ⟨i,zero,hi,hz0,hzs,hsz,hby,rfl,rfl,_⟩:=q6v hinfo;have hsrc:=qia hR hz (hR.ev x);have ha:args=#[s,x]:=by cases args;simp_all
      have hT:ts=#[t,t']:=by cases ts;simp_all
      subst ha;subst hT;have hs0:s=.tmp s0:=by
       have h0:[s,x]=[.tmp s0,x0]:=hargs0;injection h0
      have hfr:∀ r,a.eval s=κ.ρ r→∀ B,B≤w.heap.size→(∀ t,q82 o=some t→qb6 B (a.eval (.tmp t)))→∀ g,(κ.ρ r).ownBlock=some g→B≤g:=λr hv B _ hs g hg=>by
       exact hs s0 hh0 g (by rw [← hs0,hv];exact hg)
      split at h
      ·
       rename_i r hs;split at h
       ·rename_i y hy
        split at h
        ·rename_i hfs _
         cases hb:t'.beq t&&y.e.beq e&&y.fs.size.beq i.size&&Qb d st.n&&!isOwn r (st.ev x)
         ·rw [hb] at h;exact h.elim
         ·rw [hb] at h
          simp only [Q3] at hb;obtain ⟨⟨⟨⟨b1,b2⟩,b3⟩,b4⟩,b5⟩:=hb;obtain rfl:=Q0 b1;have he:=Q0 b2;have hss:=Q0 b3;have hdn:d<st.n:=by rw [Q9] at b4;exact b4
          obtain ⟨hlen,hK⟩:=h;have hvs:a.eval s=κ.ρ r:=by have:=hR.ev s;rw [hs] at this;exact this.1
          obtain ⟨ye,yfs,yxs⟩:=y;obtain ⟨ze,zfs,zxs⟩:=z;dsimp only at hfs he hss hlen hK hsrc;subst hfs;subst he;obtain ⟨cells,hown,hcells,hn⟩:=hR.row r _ hy;dsimp only at hown hcells;have hmx:yxs.length+zxs.length≤maxLen:=by
           have h1:yxs.length+zxs.length≤(yxs.length+zxs.length)*i.bytes:=Q8 _ hby;show _≤9223372036854775807;omega
          have hrow:∀ g,(κ.ρ r).ownBlock=some g→(κ.ρ r).ownBlock=some g∧(st.row r).isSome=true:=λg hg=>⟨hg,by rw [hy];rfl⟩
          have hfin:∀ v' w',(Qn #[t',t'] o.type #[a.eval s,a.eval x]).run P w=.ok v' w'→(execOp a.eval o).run P w=.ok (.value v') w':=λv' w' hrun=>by
           simp [execOp,ho,resolve,invoke,builtin,hrun]
          unfold Q7;rcases hsrc with ⟨c,hvx,hnil⟩ | ⟨ad,c,news,hvx,hl,hnews,h1,hnc⟩
          ·subst hnil
           have hrun:=q54 (P:=P) (ty:=o.type) hu hi (size:=i.size) (by rw [← hss];exact hown) c
           rw [hfin _ _ (by rw [hvs,hvx];exact hrun)]
           obtain ⟨κ',hR'⟩:=q37 hR (x:=⟨ye,zfs,yxs++q4n rfl []⟩) hdn (grownBy_refl w (κ.ρ r).ownBlock) hrow (by
            show w.ownsRow _ ye zfs.size _ (yxs++[]).length cells;rw [Qi];exact hown) (by
            show q0k κ w zfs (yxs++[]) cells;rw [Qi];exact hcells) (r:=r) (λg hg=>.inl ⟨hg,hg⟩)
           show ((_→_)∧q5m o a w (a.put o.dst _) _)∧next (a.put o.dst _) _;rw [hd];exact ⟨⟨λhg=>q19 (by rw [ho];rfl) hg,q5m.done hd (grownBy_refl w (κ.ρ r).ownBlock) (hfr r hvs) λg hg=>.inl hg⟩,hF κ' _ _ _ hK hR'⟩
          ·obtain ⟨v',w',row,hrun,ho',hgr,hr1,hr2⟩:=q6c (P:=P) (ty:=o.type) hu hi hz0 hzs hsz (by rw [← hss];exact hown) (by rw [← hss];exact hl) hnews h1 hmx hlen hR.low
           rw [hfin _ _ (by rw [hvs,hvx];exact hrun)]
           obtain ⟨κ',hR'⟩:=q37 hR (x:=⟨ye,zfs,yxs++q4n rfl zxs⟩) (r:=r) hdn hgr (λg hg=>hrow g (hr1 g hg)) (by
            show w'.ownsRow _ ye zfs.size _ (yxs++zxs).length (cells++news);rw [Qt,hss];exact ho') (q8w hown.1 hcells hnc) hr2
           show ((_→_)∧q5m o a w (a.put o.dst _) _)∧next (a.put o.dst _) _;rw [hd];exact ⟨⟨λhg=>q19 (by rw [ho];rfl) hg,q5m.done hd hgr (λB hB hs g hg=>hfr r hvs B hB hs g (hr1 g hg)) λg hg=>(hr2 g hg).imp (λh=>h.1) id⟩,hF κ' _ _ _ hK hR'⟩
        ·exact h.elim
       ·exact h.elim
      ·
       rename_i hs;cases hb:t'.beq t&&z.fs.size.beq i.size&&Qb d st.n
       ·rw [hb] at h;exact h.elim
       ·rw [hb] at h
        simp only [Q3] at hb;obtain ⟨⟨b1,b2⟩,b3⟩:=hb;obtain rfl:=Q0 b1;have hss:=Q0 b2;have hdn:d<st.n:=by rw [Q9] at b3;exact b3
        obtain ⟨hlen,hK⟩:=h;have hvs:a.eval s=.slice none 0 0:=by have:=hR.ev s;rw [hs] at this;exact this
        have hmx:0+z.xs.length≤maxLen:=by
         have h1:z.xs.length≤z.xs.length*i.bytes:=Q8 _ hby;show _≤9223372036854775807;omega
        have hfin:∀ v' w',(Qn #[t',t'] o.type #[a.eval s,a.eval x]).run P w=.ok v' w'→(execOp a.eval o).run P w=.ok (.value v') w':=λv' w' hrun=>by
         simp [execOp,ho,resolve,invoke,builtin,hrun]
        have hnil:=Qo w w.heap.size e i.size;unfold Q7;rcases hsrc with ⟨c,hvx,hnl⟩ | ⟨ad,c,news,hvx,hl,hnews,h1,hnc⟩
        ·have hrun:=q54 (P:=P) (ty:=o.type) hu hi hnil c
         rw [hfin _ _ (by rw [hvs,hvx];exact hrun)]
         obtain ⟨κ',hR'⟩:=q37 hR (r:=st.off+d) (x:=⟨e,z.fs,z.xs⟩) hdn (grownBy_refl w none) (λg hg=>nomatch hg) (by
          show w.ownsRow _ e z.fs.size _ z.xs.length [];rw [hnl,hss];exact Qo _ _ _ _) (λi x hx=>by
           have hx:z.xs[i]? = some x:=hx;rw [hnl] at hx;simp at hx) (λg hg=>by cases hg)
         show ((_→_)∧q5m o a w (a.put o.dst _) _)∧next (a.put o.dst _) _;rw [hd];exact ⟨⟨λhg=>q19 (by rw [ho];rfl) hg,q5m.done hd (grownBy_refl w none) (λ_ _ _ g hg=>nomatch hg) λg hg=>by cases hg⟩,hF κ' _ _ _ hK hR'⟩
        ·obtain ⟨v',w',row,hrun,ho',hgr,hr1,hr2⟩:=q6c (P:=P) (ty:=o.type) hu hi hz0 hzs hsz hnil (by rw [← hss];exact hl) hnews h1 hmx (by rw [Qw];exact hlen) (Qj _)
         rw [hfin _ _ (by rw [hvs,hvx];exact hrun)]
         have hr1':row=none:=by
          cases row with
          | none=>rfl
          | some g=>have:=hr1 g rfl;cases this
         subst hr1';obtain ⟨κ',hR'⟩:=q37 hR (r:=st.off+d) (x:=⟨e,z.fs,z.xs⟩) hdn hgr (λg hg=>nomatch hg) (by
          show w'.ownsRow _ e z.fs.size _ z.xs.length news;rw [hss];rw [Qw,QG] at ho';exact q6u ho' hR.low) hnc (λg hg=>.inr (q2r ho' g hg))
         show ((_→_)∧q5m o a w (a.put o.dst _) _)∧next (a.put o.dst _) _;rw [hd];exact ⟨⟨λhg=>q19 (by rw [ho];rfl) hg,q5m.done hd hgr (λ_ _ _ g hg=>nomatch hg) λg hg=>.inr (q2r ho' g hg)⟩,hF κ' _ _ _ hK hR'⟩
      ·
       rename_i kk k0 hs;split at h
       ·rename_i y hy
        split at h
        ·rename_i hkk hfs _ _
         cases hb:t'.beq t&&(y.e.beq e&&(y.fs.size.beq i.size&&(Qb d st.n&&(y.pend.isNone&&y.kk.plain))))
         ·rw [hb] at h;exact h.elim
         ·rw [hb] at h
          simp only [Q3,Qc] at hb;obtain ⟨b1,b2,b3,b4,b5,_⟩:=hb;obtain rfl:=Q0 b1;have he:=Q0 b2;have hss:=Q0 b3;have hdn:d<st.n:=by rw [Q9] at b4;exact b4
          obtain ⟨hlen,hK⟩:=h;subst hkk;have hvs:a.eval s=κ.μ.fin (y.kk.kv k0):=by have:=hR.ev s;rw [hs] at this;exact this.1
          obtain ⟨ze,zfs,zxs⟩:=z;dsimp only at hfs hsrc hlen hK;subst hfs;obtain ⟨v',w',row,κ',hrun,hgr,hr1,hr2,hR'⟩:=qkn (P:=P) (ty:=o.type) (k:=k0) (zxs:=zxs) hR hu hi hz0 hzs hsz hby hdn hy b5 he hss hsrc hlen;have hfin:(execOp a.eval o).run P w=.ok (.value v') w':=by
           rw [← hvs] at hrun;simp [execOp,ho,resolve,invoke,builtin,hrun]
          unfold Q7;rw [hfin];show ((_→_)∧q5m o a w (a.put o.dst _) _)∧next (a.put o.dst _) _;rw [hd];exact ⟨⟨λhg=>q19 (by rw [ho];rfl) hg,q5m.done hd hgr (λB hB hs g hg=>hs s0 hh0 g (by rw [← hs0,hvs];exact hr1 g hg)) hr2⟩,hF κ' _ _ _ hK hR'⟩
        ·exact h.elim
       ·exact h.elim
      ·exact h.elim
     ·exact h.elim
    ·exact h.elim
   ·exact h.elim
  ·cases hk
 ·cases hk
theorem q5a {cons:List Con} (hcons:∀ c∈cons,c.Holds P) {o:Oper} {K:St→Prop} {next:Act→World→Prop} {Q:Exit→Act→World→Prop} (hR:Rel w0 κ st a w) (h:vop P cons o st K) (hF:Fits w0 K next):o.wp P a w next Q :=
 Oper.wp_mono (λ_ _ h=>h.2) (qec hcons hR h hF)
def qb7 (w0:Base) (w:World) (K:St→Prop) (next:Act→Prop):Prop:=∀ (κ:Cx) (st:St) (a:Act),K st→Rel w0 κ st a w→next a
theorem qk3 {c:CK} (hf:c.flat=true) {p:c.Pay} {κ κ':Cx} {w w':World} {v:Value} (h:(c.comp p).Rep κ w v):(c.comp p).Rep κ' w' v:=by
 cases c with
 | agg ks=>cases hf
 | one k=>cases k <;> first | exact h | cases hf
theorem flat_same {c:CK} (hf:c.flat=true) {p:c.Pay} {κ κ':Cx} {w w':World} {v v':Value} (h:(c.comp p).Rep κ w v) (h':(c.comp p).Rep κ' w' v'):v=v':=by
 cases c with
 | agg ks=>cases hf
 | one k=>cases k <;> first | exact (show v=_ from h).trans (show v'=_ from h').symm | cases hf
theorem q8u:∀ (l:List CK) (r:Pays l),l.all CK.flat=true→∀ c∈q0u l r,∃ (x:CK) (q:x.Pay),x.flat=true∧c=x.comp q
 | [],p,hf,c,h=>by cases h
 | [x],p,hf,c,h=>⟨x,p,by simpa using hf,Qf.1 h⟩
 | x::y::r,p,hf,c,h=>by
  have hf':x.flat=true∧(y::r).all CK.flat=true:=by rw [List.all_cons,Q3] at hf;exact hf
  rcases QA.1 h with rfl | h
  ·exact ⟨x,p.1,hf'.1,rfl⟩
  ·exact q8u (y::r) p.2 hf'.2 c h
theorem resAV_same {l:List CK} (hf:l.all CK.flat=true) {r:Pays l} {κ κ':Cx} {w w':World} {v v':Value} (h:(q1s l r).Rep κ w v) (h':(q1s l r).Rep κ' w' v'):v=v':=by
 unfold q1s at *
 split at h
 ·rename_i x hx
  rw [hx] at h';obtain ⟨y,q,hy,rfl⟩:=q8u l r hf x (by rw [hx];exact Qf.2 rfl)
  exact flat_same hy h h'
 ·rename_i xs hne
  have h':AV.Rep κ' w' (.tup (q0u l r)) v':=by
   split at h'
   ·rename_i x hx;exact absurd hx (hne x)
   ·exact h'
  obtain ⟨vs,rfl,h1,h2⟩:=h;obtain ⟨us,rfl,h3,h4⟩:=h';have:vs=us:=by
   apply Array.ext (by rw [h1,h3])
   intro i hi hi';have hl:i<(q0u l r).length:=by rw [← h1];exact hi
   obtain ⟨u,hu,hr⟩:=h2 i _ (Qd hl);obtain ⟨u',hu',hr'⟩:=h4 i _ (Qd hl);obtain ⟨y,q,hy,e⟩:=q8u l r hf _ (List.getElem_mem hl);rw [e] at hr hr';rw [Qv hi] at hu;rw [Qv hi'] at hu';injection hu with hu;injection hu' with hu';rw [hu,hu'];exact flat_same hy hr hr'
  rw [this]
theorem qjx {l:List CK} (hf:l.all CK.flat=true) {r:Pays l} {κ κ':Cx} {w w':World} {v:Value} (h:(q1s l r).Rep κ w v):(q1s l r).Rep κ' w' v:=by
 unfold q1s at *
 split at h
 ·rename_i x hx
  obtain ⟨y,q,hy,rfl⟩:=q8u l r hf x (by rw [hx];exact Qf.2 rfl)
  exact qk3 hy h
 ·obtain ⟨vs,rfl,h1,h2⟩:=h
  refine ⟨vs,rfl,h1,λi c hc=>?_⟩
  obtain ⟨u,hu,hr⟩:=h2 i c hc;obtain ⟨y,q,hy,rfl⟩:=q8u l r hf c (Ql hc);exact ⟨u,hu,qk3 hy hr⟩
theorem qfb {cons:List Con} (hcons:∀ c∈cons,c.Holds P) {o:Oper} {K:St→Prop} {next:Act→Prop} (hR:Rel w0 κ st a w) (h:vopQ P cons o st K) (hF:qb7 w0 w K next) :
  o.quiet P a (λw'=>Below w.heap.size w w') next:=by
 unfold vopQ at h;split at h
 ·rename_i f args ts ho
  split at h
  ·rename_i c hc
   obtain ⟨hmem,rfl⟩:=qf1 hc;obtain ⟨κ1,hR1⟩:=Rel.q08 (q1k (evs st args.toList)) hR;split at h
   ·rename_i p hp
    cases hd:q0a st o.dst&&c.res.all CK.flat
    ·rw [hd] at h;exact h.elim
    ·rw [hd] at h
     rw [Q3] at hd;obtain ⟨hpre,hK0⟩:=h;have hH:=hcons c hmem;have hargs:=q7o (κ:=κ1) (κ':=Cx.of κ1.S) c.args p rfl (q7s hR1 _ _ _ hp);have hd1:q0a (st.q08 (q1k (evs st args.toList))) o.dst=true:=by
      have:=hd.1
      unfold q0a at this ⊢;rw [q7f];exact this
     obtain ⟨⟨r0,hr0,huniq⟩,hK⟩:(∃ r,c.post p r∧∀ r',c.post p r'→r'=r)∧∀ r,c.post p r→K ((st.q08 (q1k (evs st args.toList))).put o.dst (q1s c.res r)):=by
      cases hfn:c.fn with
      | none=>rw [hfn] at hK0;exact hK0
      | some F =>
       rw [hfn] at hK0;have hu:=hH.1.2 F hfn p;obtain ⟨e,w',fr,⟨r,v,rfl,hpost,hres,hb⟩,_⟩:=hH.2 p _ w κ1.S hR1.bound hpre hargs [];exact ⟨⟨r,hpost,λr' h'=>(hu r' h').trans (hu r hpost).symm⟩,λr' h'=>by rw [hu r' h'];exact hK0⟩
     obtain ⟨v0,hv0⟩:∃ v0,(q1s c.res r0).Rep (Cx.of κ1.S) w v0:=by
      have:=hH.2 p _ w κ1.S hR1.bound hpre hargs
      obtain ⟨e,w',fr,⟨r,v,rfl,hpost,hres,hb⟩,_⟩:=this [];obtain rfl:=huniq r hpost;exact ⟨v,qjx hd.2 hres⟩
     refine ⟨v0,λw' hb=>?_,hF _ _ _ (hK r0 hr0) (hR1.put hd1 (qjx hd.2 hv0))⟩
     unfold Oper.quietAt;rw [run_call c hH ho w'];refine ⟨rfl,?_⟩;have hR':=hR1.later hb;have hargs':q0f (Cx.of λg=>κ1.S g∨(w.heap.size≤g∧g<w'.heap.size)) w' (q0u c.args p) (args.toList.map a.eval) :=
      q7o (κ:={ κ1 with S:=λg=>κ1.S g∨(w.heap.size≤g∧g<w'.heap.size) }) (κ':=Cx.of λg=>κ1.S g∨(w.heap.size≤g∧g<w'.heap.size)) c.args p rfl (q7s hR' _ _ _ hp)
     refine (hH.2 p _ w' _ hR'.bound hpre hargs').mono ?_;rintro e w'' ⟨r,v,rfl,hpost,hres,hb'⟩;obtain rfl:=huniq r hpost;exact ⟨by rw [resAV_same hd.2 hres hv0],q1y hb hb'⟩
   ·exact h.elim
  ·exact h.elim
 ·split at h
  ·rename_i c v hr
   cases hd:q0a st o.dst
   ·rw [hd] at h;exact h.elim
   ·rw [hd] at h
    obtain ⟨hc,hK⟩:=q9t hr h;obtain ⟨u,hu,hw⟩:=qcg hR hr hc;refine ⟨u,λw' hb=>?_,hF _ _ _ hK (hR.put hd hu)⟩
    unfold Oper.quietAt;rw [hw w' hb];exact ⟨rfl,rfl⟩
  ·exact h.elim
end
end R
end Go.Proofs.YtlmbfijhkcmncaaGreatDoor

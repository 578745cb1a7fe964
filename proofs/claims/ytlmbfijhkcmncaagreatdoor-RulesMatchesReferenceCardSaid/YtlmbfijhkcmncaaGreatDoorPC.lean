/-
  Several texts in one: R5M, R6, R6P.
-/
import Derived.Test.YtlmbfijhkcmncaaGreatDoorPB
import Derived.MapKept
import Derived.ChangeKeysEq
import Derived.WideKeyRuns
open Go.Result renaming andThen_ok→Q0,ok→Qu
open Go.Instr renaming indexAt→Q3,fieldAt→Qc,lookup→Qe,checkKey→Qf,sameBits→Qh,loadAt→QC,makeInterface→QH,keyThatStays→QJ,findAsking→QQ,sureAddr→QY,makeFunc→QZ,findNow→W9,findKey→Wd,sliceAt→We,extract→Wh
open Bool renaming and_eq_true→Q7,false_eq_true→Qv,not_eq_true'→Qw,not_eq_true→QR
open Go.Sem renaming run_bind→Q8,run_pure→Qk
open Nat renaming eq_of_beq_eq_true→Q9,add_assoc→Qb,add_zero→Qj,add_comm→Qo,sub_zero→Qs,le_refl→QL,mul_one→QO,add_mul→QP
open Array renaming getElem?_eq_some_iff→Qa,toArray_toList→Qg,getElem?_toList→Qi,length_toList→Qn,toList_map→QS
open Go.MapKept renaming run_getObj_map→Qd,bytes_beq→QK
open Option renaming bind_some→Ql,map_some→Qt,bind_none→QA,getD_some→QE,map_none→QW
open List renaming getD_eq_getElem?_getD→Qm,getElem?_eq_getElem→Qp,range'_succ→Qz,getElem?_cons_succ→QF,forIn_cons→QV
open Go.Builtin renaming len_→Qq
open Go.Op renaming equalIn→Qr,unary→QD,eqFields→QN,eqItems→QU
open PUnit renaming unit→Qx
open Go.Next renaming value→Qy
open Std.Legacy.Range renaming forIn_eq_forIn_range'→QG,size→Wi
set_option linter.unusedVariables false
namespace Go.Proofs.YtlmbfijhkcmncaaGreatDoor
open Go.RowKit
namespace Mp
variable {α β:Type}
def idx (eq:α→α→Bool) (k:α):List (α×β)→Nat→Option (Nat×β)
 | [],_=>none
 | x::r,i=>if eq k x.1 then some (i,x.2) else idx eq k r (i+1)
theorem q4t (eq:α→α→Bool) (k:α):∀ (xs:List (α×β)) (i:Nat),(idx eq k xs i).map (·.2)=get eq k xs
 | [],i=>rfl
 | x::r,i=>by
  unfold idx get;split
  ·rfl
  ·exact q4t eq k r (i+1)
theorem q52 (eq:α→α→Bool) (k:α):∀ (xs:List (α×β)) (i j:Nat) (b:β),idx eq k xs i=some (j,b)→∃ x,i≤j∧xs[j-i]? = some x∧eq k x.1=true∧x.2=b
 | [],i,j,b,h=>by cases h
 | x::r,i,j,b,h=>by
  unfold idx at h;split at h
  ·rename_i he
   injection h with h;injection h with h1 h2;subst h1;exact ⟨x,QL _,by simp,he,h2⟩
  ·obtain ⟨y,h1,h2,h3,h4⟩:=q52 eq k r (i+1) j b h
   refine ⟨y,by omega,?_,h3,h4⟩
   rw [show j-i=(j-(i+1))+1 by omega]
   exact h2
theorem qe6 (eq:α→α→Bool) (k:α) (v:β):∀ (xs:List (α×β)) (i:Nat),idx eq k xs i=none→put eq k v xs=xs++[(k,v)]
 | [],i,h=>rfl
 | x::r,i,h=>by
  unfold idx at h;unfold put;split at h
  ·cases h
  ·rename_i he
   rw [if_neg he,qe6 eq k v r (i+1) h];rfl
theorem qbo (eq:α→α→Bool) (k:α) (v:β):∀ (xs:List (α×β)) (i j:Nat) (b:β),idx eq k xs i=some (j,b)→put eq k v xs=xs.set (j-i) (k,v)
 | [],i,j,b,h=>by cases h
 | x::r,i,j,b,h=>by
  have hh:=q52 eq k (x::r) i j b h;unfold idx at h;unfold put;split at h
  ·rename_i he
   injection h with h;injection h with h1 h2;subst h1;rw [if_pos he,Nat.sub_self];rfl
  ·rename_i he
   rw [if_neg he];obtain ⟨y,h1,_⟩:=q52 eq k r (i+1) j b h;rw [qbo eq k v r (i+1) j b h,show j-i=(j-(i+1))+1 by omega];rfl
end Mp
namespace R
def Kd.plain:Kd→Bool
 | .sl _=>false
 | _=>true
def Kds.plain:Kds→Bool
 | .one k=>k.plain
 | .cons k ks=>k.plain&&ks.plain
def CK.plain:CK→Bool
 | .one k=>k.plain
 | .agg ks=>ks.plain
section
variable {w0:Base} {w w':World} {κ:Cx} {st:St} {a:Act} {P:Program}
theorem qbq {t:TypeId} {k:IntKind} (h:keyK P t (.int k)=true):P.underlying t=some (.int k):=by
 have h:(match P.underlying t with
  | some (.int k')=>IntKind.eqB k k'
  | _=>false)=true:=h
 split at h
 ·rename_i k' hu
  rw [hu,qjd h]
 ·cases h
theorem qag {t:TypeId} (h:keyK P t .bool=true):P.underlying t=some .bool:=by
 have h:(match P.underlying t with
  | some .bool=>true
  | _=>false)=true:=h
 split at h
 ·assumption
 ·cases h
theorem qbx {t:TypeId} (h:keyK P t .str=true):P.underlying t=some .string:=by
 have h:(match P.underlying t with
  | some .string=>true
  | _=>false)=true:=h
 split at h
 ·assumption
 ·cases h
theorem q7d {t:TypeId} {k:Kd} (h:keyK P t k=true):k.plain=true:=by
 cases k with
 | sl fs=>cases h
 | _=>rfl
theorem qfe:∀ (ks:Kds) (l:List Field) (o:Nat),q35 P l o ks=true→ks.plain=true
 | .one k,[],o,h=>by cases h
 | .one k,[f],o,h=>by
  simp only [q35,Q7] at h;exact q7d h.2.2
 | .one k,f::g::r,o,h=>by simp [q35] at h
 | .cons k ks,[],o,h=>by simp [q35] at h
 | .cons k ks,f::r,o,h=>by
  simp only [q35,Q7] at h;show (k.plain&&ks.plain)=true;rw [q7d h.2.2.1,qfe ks r (o+1) h.2.2.2];rfl
theorem q9l {e:TypeId}:∀ (ks:Kds) (n:Nat),q4f P e n ks=true→ks.plain=true
 | .one k,0,h=>by cases h
 | .one k,1,h=>q7d (t:=e) h
 | .one k,n+2,h=>by cases h
 | .cons k ks,0,h=>by cases h
 | .cons k ks,1,h=>by
  have h:(keyK P e k&&q4f P e 0 ks)=true:=h;rw [Q7] at h;show (k.plain&&ks.plain)=true;rw [q7d h.1,q9l ks 0 h.2];rfl
 | .cons k ks,n+2,h=>by
  have h:(keyK P e k&&q4f P e (n+1) ks)=true:=h;rw [Q7] at h;show (k.plain&&ks.plain)=true;rw [q7d h.1,q9l ks (n+1) h.2];rfl
theorem qfs {e:TypeId} {n:Nat} {k:Kd} {ks:Kds} (h:q4f P e (n+1) (.cons k ks)=true):keyK P e k=true∧q4f P e n ks=true:=by
 have h:(keyK P e k&&q4f P e n ks)=true:=by cases n <;> exact h
 rwa [Q7] at h
theorem qck {t:TypeId} {ks:Kds} (h:q26 P t (.agg ks)=true):(∃ fs,P.underlying t=some (.struct fs)∧P.stoodInHeld t=false∧q35 P fs.toList 0 ks=true)∨(∃ n e,P.underlying t=some (.array n e)∧q15 P e=some 1∧q4f P e n ks=true):=by
 have h:(match P.underlying t with
  | some (.struct fs)=>!P.stoodInHeld t&&q35 P fs.toList 0 ks
  | some (.array n e)=>(match q15 P e with | some s=>s.beq 1 | none=>false)&&q4f P e n ks
  | _=>false)=true:=h
 split at h
 ·rename_i fs hu
  rw [Q7,Qw] at h;exact .inl ⟨fs,hu,h.1,h.2⟩
 ·rename_i n e hu
  rw [Q7] at h;obtain ⟨h1,h2⟩:=h;split at h1
  ·rename_i s hs
   rw [Q9 h1] at hs;exact .inr ⟨n,e,hu,hs,h2⟩
  ·cases h1
 ·cases h
theorem q23 {t:TypeId} {x:CK} (h:q26 P t x=true):x.plain=true:=by
 cases x with
 | one k=>exact q7d (t:=t) h
 | agg ks =>
  rcases qck h with ⟨fs,_,_,h⟩ | ⟨n,e,_,_,h⟩
  ·exact qfe ks _ _ h
  ·exact q9l ks _ h
theorem qj7 {k:Kd} (h:k.plain=true) {p:k.Pay} {v:Value} (hr:Cell.Rep κ w (.val k p) v):v=k.kv p:=by
 cases k with
 | sl fs=>cases h
 | _=>exact hr
theorem kds_value:∀ (ks:Kds) (p:ks.Pay) (vs:List Value),ks.plain=true→q06 κ w (ks.cells p) vs.toArray→vs=ks.kvs p
 | .one k,p,vs,h,hr=>by
  have hl:vs.length=1:=hr.1;obtain ⟨v,rfl⟩:=List.length_eq_one_iff.1 hl;obtain ⟨u,hu,hx⟩:=hr.2.1 0 _ rfl;have hu:some v=some u:=hu;injection hu with hu;subst hu;have hx:Cell.Rep κ w (.val k p) v:=hx;rw [qj7 h hx];rfl
 | .cons k ks,p,vs,h,hr=>by
  have h:(k.plain&&ks.plain)=true:=h;rw [Q7] at h;cases vs with
  | nil=>have:=hr.1;simp [Kds.cells] at this
  | cons v vs =>
   have hr':q06 κ w (ks.cells p.2) vs.toArray:=⟨by have:=hr.1;simpa [Kds.cells] using this,λi c hc=>by
    obtain ⟨y,hy,hx⟩:=hr.2.1 (i+1) c hc;exact ⟨y,by simpa using hy,hx⟩,λi y hy=>hr.2.2 (i+1) y (by simpa using hy)⟩
   obtain ⟨u,hu,hx⟩:=hr.2.1 0 _ rfl;injection hu with hu;subst hu;have hx:Cell.Rep κ w (.val k p.1) v:=hx;rw [kds_value ks p.2 vs h.2 hr',qj7 h.1 hx];rfl
theorem q2i {x:CK} (h:x.plain=true) {p:x.Pay} {v:Value} (hr:(x.comp p).Rep κ w v):v=x.kv p:=by
 cases x with
 | one k=>exact qj7 h hr
 | agg ks =>
  obtain ⟨vs,rfl,hr⟩:=hr;show Value.agg vs=.agg (ks.kvs p).toArray;rw [← kds_value ks p vs.toList h (by simpa using hr)]
theorem qgy {k:Kd} (h:k.plain=true) {p:k.Pay}:Cell.Rep κ w (.val k p) (k.kv p):=by
 cases k with
 | sl fs=>cases h
 | _=>rfl
theorem kv_solid {k:Kd} (h:k.plain=true) (p:k.Pay):(k.kv p).oneCell'=true:=by
 cases k with
 | sl fs=>cases h
 | _=>rfl
theorem kvs_rep:∀ (ks:Kds) (p:ks.Pay),ks.plain=true→q06 κ w (ks.cells p) (ks.kvs p).toArray
 | .one k,p,h=>by
  refine ⟨rfl,λi c hc=>?_,λi v hv=>?_⟩
  ·cases i with
   | zero=>injection hc with hc;subst hc;exact ⟨_,rfl,qgy h⟩
   | succ i=>cases hc
  ·cases i with
   | zero=>injection hv with hv;subst hv;exact kv_solid h p
   | succ i=>cases hv
 | .cons k ks,p,h=>by
  have h:(k.plain&&ks.plain)=true:=h;rw [Q7] at h;have ih:=kvs_rep ks p.2 h.2;refine ⟨?_,λi c hc=>?_,λi v hv=>?_⟩
  ·have:=ih.1
   show (k.kv p.1::ks.kvs p.2).toArray.size=(Kds.cells _ p.2).length+1;rw [← this];simp
  ·cases i with
   | zero=>injection hc with hc;subst hc;exact ⟨_,rfl,qgy h.1⟩
   | succ i =>
    obtain ⟨y,hy,hr⟩:=ih.2.1 i c hc;have hy:(ks.kvs p.2)[i]? = some y:=by simpa using hy
    refine ⟨y,?_,hr⟩;show (k.kv p.1::ks.kvs p.2).toArray[i+1]? = some y
    simpa using hy
  ·have hv:(k.kv p.1::ks.kvs p.2).toArray[i]? = some v:=hv
   cases i with
   | zero=>injection hv with hv;subst hv;exact kv_solid h.1 p.1
   | succ i=>exact ih.2.2 i v (by simpa using hv)
theorem ck_rep {x:CK} (h:x.plain=true) {p:x.Pay}:(x.comp p).Rep κ w (x.kv p):=by
 cases x with
 | one k=>exact qgy h
 | agg ks=>exact ⟨_,rfl,kvs_rep ks p h⟩
theorem qc8 {t:TypeId} {k:Kd} (h:keyK P t k=true) (p q:k.Pay) (d:Nat) (w:World):(Qr (d+1) t (k.kv p) (k.kv q)).run P w=.ok (k.eqB p q) w:=by
 cases k with
 | sl fs=>cases h
 | int k=>exact run_equalIn_int w d t k k p q (qbq h)
 | bool=>exact run_equalIn_bool' w d t p q (qag h)
 | str =>
  show (Qr (d+1) t (.string (bs p)) (.string (bs q))).run P w=_;rw [run_equalIn_string w d t _ _ (qbx h),q8d,q8d]
theorem qbv {t:TypeId} {k:Kd} (h:keyK P t k=true) (p:k.Pay) (em:Bool) (d:Nat) (w:World):(Qf em (d+1) t (k.kv p)).run P w=.ok () w:=by
 cases k with
 | sl fs=>cases h
 | int k=>simp [Qf,run_underlying (qbq h),Kd.kv]
 | bool=>simp [Qf,run_underlying (qag h),Kd.kv]
 | str=>simp [Qf,run_underlying (qbx h),Kd.kv]
theorem keyK_agg {t:TypeId} {k:Kd} (h:keyK P t k=true):q7g P t=some false:=by
 unfold q7g;cases k with
 | sl fs=>cases h
 | int k=>rw [qbq h]
 | bool=>rw [qag h]
 | str=>rw [qbx h]
theorem q2n {t:TypeId} {k:Kd} (h:keyK P t k=true) {vs:Array Value} {o:Nat} {v:Value} (hv:vs[o]? = some v) (w:World):(Go.part t vs o).run P w=.ok v w:=by
 simp [Go.part,q46 (keyK_agg h),hv]
theorem qjy (d:Nat) (w:World):∀ (ks:Kds) (l:List Field) (o:Nat) (p q:ks.Pay) (xs ys:Array Value),q35 P l o ks=true→(∀ (i:Nat) v,(ks.kvs p)[i]? = some v→xs[o+i]? = some v)→(∀ (i:Nat) v,(ks.kvs q)[i]? = some v→ys[o+i]? = some v) →
  (QN (d+1) xs ys l).run P w=.ok (ks.eqB p q) w
 | .one k,[],o,p,q,xs,ys,h,hx,hy=>by cases h
 | .one k,[f],o,p,q,xs,ys,h,hx,hy=>by
  simp only [q35,Bool.and_eq_true] at h;have hn : f.name ≠ "_" := by simpa using h.2.1
  have ho:f.offset=o:=Q9 h.1;have h1:=q2n h.2.2 (hx 0 _ rfl) w;have h2:=q2n h.2.2 (hy 0 _ rfl) w;rw [Qj,← ho] at h1 h2;have h3:=qc8 h.2.2 p q d w;unfold QN;rw [if_pos hn];simp only [Q8,h1,h2,Q0,h3];show _=Qu (k.eqB p q) w;cases k.eqB p q <;> rfl
 | .one k,f::g::r,o,p,q,xs,ys,h,hx,hy=>by simp [q35] at h
 | .cons k ks,[],o,p,q,xs,ys,h,hx,hy=>by simp [q35] at h
 | .cons k ks,f::r,o,p,q,xs,ys,h,hx,hy=>by
  simp only [q35,Bool.and_eq_true] at h;have hn : f.name ≠ "_" := by simpa using h.2.1
  have ho:f.offset=o:=Q9 h.1;have h1:=q2n h.2.2.1 (hx 0 _ rfl) w;have h2:=q2n h.2.2.1 (hy 0 _ rfl) w;rw [Qj,← ho] at h1 h2;have h3:=qc8 h.2.2.1 p.1 q.1 d w;have ih:=qjy d w ks r (o+1) p.2 q.2 xs ys h.2.2.2 (λi v hv=>by rw [Qb,Qo 1];exact hx (i+1) v hv) (λi v hv=>by rw [Qb,Qo 1];exact hy (i+1) v hv)
  unfold QN;rw [if_pos hn];simp only [Q8,h1,h2,Q0,h3];show _=Qu (k.eqB p.1 q.1&&ks.eqB p.2 q.2) w;cases k.eqB p.1 q.1
  ·rfl
  ·simpa using ih
theorem qis {e:TypeId} (d:Nat) (w:World):∀ (ks:Kds) (n o:Nat) (p q:ks.Pay) (xs ys:Array Value),q4f P e n ks=true→(∀ (i:Nat) v,(ks.kvs p)[i]? = some v→xs[o+i]? = some v)→(∀ (i:Nat) v,(ks.kvs q)[i]? = some v→ys[o+i]? = some v) →
  (QU (d+1) e 1 xs ys (List.range' o n)).run P w=.ok (ks.eqB p q) w
 | .one k,0,o,p,q,xs,ys,h,hx,hy=>by cases h
 | .one k,1,o,p,q,xs,ys,h,hx,hy=>by
  have h:keyK P e k=true:=h;have h1:=q2n h (hx 0 _ rfl) w;have h2:=q2n h (hy 0 _ rfl) w;rw [Qj,← QO o] at h1 h2;have h3:=qc8 h p q d w;simp only [Qz,List.range'_zero,QU,Q8,h1,h2,Q0,h3];show _=Qu (k.eqB p q) w;cases k.eqB p q <;> rfl
 | .one k,n+2,o,p,q,xs,ys,h,hx,hy=>by cases h
 | .cons k ks,0,o,p,q,xs,ys,h,hx,hy=>by cases h
 | .cons k ks,n+1,o,p,q,xs,ys,h,hx,hy=>by
  have h:=qfs h;have h1:=q2n h.1 (hx 0 _ rfl) w;have h2:=q2n h.1 (hy 0 _ rfl) w;rw [Qj,← QO o] at h1 h2;have h3:=qc8 h.1 p.1 q.1 d w;have ih:=qis d w ks n (o+1) p.2 q.2 xs ys h.2 (λi v hv=>by rw [Qb,Qo 1];exact hx (i+1) v hv) (λi v hv=>by rw [Qb,Qo 1];exact hy (i+1) v hv)
  simp only [Qz,QU,Q8,h1,h2,Q0,h3];show _=Qu (k.eqB p.1 q.1&&ks.eqB p.2 q.2) w;cases k.eqB p.1 q.1
  ·rfl
  ·simpa using ih
theorem key_equal {t:TypeId} {x:CK} (h:q26 P t x=true) (p q:x.Pay) (w:World):(Op.equal t (x.kv p) (x.kv q)).run P w=.ok (x.eqB p q) w:=by
 cases x with
 | one k=>exact qc8 h p q 9999 w
 | agg ks =>
  rcases qck h with ⟨fs,hu,hs,h⟩ | ⟨n,e,hu,hs,h⟩
  ·have hf:P.fieldsOf t=fs:=by unfold Program.fieldsOf;rw [hu]
   show (Qr (9999+1) t (.agg _) (.agg _)).run P w=_;rw [run_equalIn_struct w 9999 t _ _ (by rw [hf];exact hu) hs,hf]
   exact qjy 9998 w ks fs.toList 0 p q _ _ h (λi v hv=>by simpa using hv) (λi v hv=>by simpa using hv)
  ·obtain ⟨i,hi,hsz⟩:∃ i,P.info? e=some i∧i.size=1:=by
    unfold q15 at hs;cases hi:P.info? e with
    | none=>rw [hi] at hs;cases hs
    | some i=>rw [hi] at hs;injection hs with hs;exact ⟨i,rfl,hs⟩
   have hc:P.cellsOf e=1:=by unfold Program.cellsOf;rw [hi];exact hsz
   show (Qr (9999+1) t (.agg _) (.agg _)).run P w=_;rw [run_equalIn_array w 9999 _ _ hu hi,hc,List.range_eq_range'];exact qis 9998 w ks n 0 p q _ _ h (λi v hv=>by simpa using hv) (λi v hv=>by simpa using hv)
theorem qkf (em:Bool) (d:Nat) (w:World):∀ (ks:Kds) (l:List Field) (o:Nat) (p:ks.Pay) (xs:Array Value),q35 P l o ks=true→(∀ (i:Nat) v,(ks.kvs p)[i]? = some v→xs[o+i]? = some v) →
  (forIn l PUnit.unit fun f _ => (if f.name ≠ "_" then do (Instr.checkKey em (d + 1) f.type (← Go.part f.type xs f.offset)); pure (ForInStep.yield PUnit.unit) else pure (ForInStep.yield PUnit.unit) : Sem (ForInStep PUnit)) : Sem PUnit).run P w = .ok PUnit.unit w
 | .one k,[],o,p,xs,h,hx=>by cases h
 | .one k,[f],o,p,xs,h,hx=>by
  simp only [q35,Bool.and_eq_true] at h;have hn : f.name ≠ "_" := by simpa using h.2.1
  have ho:f.offset=o:=Q9 h.1;have h1:=q2n h.2.2 (hx 0 _ rfl) w;rw [Qj,← ho] at h1;have h3:=qbv h.2.2 p em d w;simp [hn,h1,h3,Q8]
 | .one k,f::g::r,o,p,xs,h,hx=>by simp [q35] at h
 | .cons k ks,[],o,p,xs,h,hx=>by simp [q35] at h
 | .cons k ks,f::r,o,p,xs,h,hx=>by
  simp only [q35,Bool.and_eq_true] at h;have hn : f.name ≠ "_" := by simpa using h.2.1
  have ho:f.offset=o:=Q9 h.1;have h1:=q2n h.2.2.1 (hx 0 _ rfl) w;rw [Qj,← ho] at h1;have h3:=qbv h.2.2.1 p.1 em d w;have ih:=qkf em d w ks r (o+1) p.2 xs h.2.2.2 (λi v hv=>by rw [Qb,Qo 1];exact hx (i+1) v hv)
  rw [QV];simp only [hn,ne_eq,not_false_eq_true,if_true,Q8,h1,h3,Q0,Qk];exact ih
theorem qi6 {e:TypeId} (em:Bool) (d:Nat) (w:World) (hs:q15 P e=some 1):∀ (ks:Kds) (n o:Nat) (p:ks.Pay) (xs:Array Value),q4f P e n ks=true→(∀ (i:Nat) v,(ks.kvs p)[i]? = some v→xs[o+i]? = some v) →
  (forIn (List.range' o n) Qx λi _=>(do Qf em (d+1) e (← Go.part e xs (i*(← Go.sizeOf e)));pure (ForInStep.yield Qx):Sem (ForInStep PUnit)):Sem PUnit).run P w=.ok Qx w
 | .one k,0,o,p,xs,h,hx=>by cases h
 | .one k,1,o,p,xs,h,hx=>by
  have h:keyK P e k=true:=h;have h1:=q2n h (hx 0 _ rfl) w;rw [Qj] at h1;have h3:=qbv h p em d w;simp [h1,h3,Q8,q1m hs]
 | .one k,n+2,o,p,xs,h,hx=>by cases h
 | .cons k ks,0,o,p,xs,h,hx=>by cases h
 | .cons k ks,n+1,o,p,xs,h,hx=>by
  have h:=qfs h;have h1:=q2n h.1 (hx 0 _ rfl) w;rw [Qj,← QO o] at h1;have h3:=qbv h.1 p.1 em d w;have ih:=qi6 em d w hs ks n (o+1) p.2 xs h.2 (λi v hv=>by rw [Qb,Qo 1];exact hx (i+1) v hv)
  rw [Qz,QV];simp only [Q8,q1m hs,h1,h3,Q0,Qk];exact ih
theorem q33 {t:TypeId} {x:CK} (h:q26 P t x=true) (p:x.Pay) (em:Bool) (w:World):(Qf em 10000 t (x.kv p)).run P w=.ok () w:=by
 cases x with
 | one k=>exact qbv h p em 9999 w
 | agg ks =>
  rcases qck h with ⟨fs,hu,hs,h⟩ | ⟨n,e,hu,hs,h⟩
  ·have:=qkf em 9998 w ks fs.toList 0 p (ks.kvs p).toArray h (λi v hv=>by simpa using hv)
   show (Qf em (9999+1) t (.agg _)).run P w=_;unfold Qf;simp only [Q8,run_underlying hu,Q0];rw [← Array.forIn_toList];have e:∀ (s:Sem PUnit),s.run P w=.ok Qx w→((s.run P w).andThen λa w'=>Qu () w')=.ok () w:=λs h=>by rw [h];rfl
   exact e _ (by simpa [CK.kv] using this)
  ·have:=qi6 em 9998 w hs ks n 0 p (ks.kvs p).toArray h (λi v hv=>by simpa using hv)
   show (Qf em (9999+1) t (.agg _)).run P w=_;unfold Qf;simp only [Q8,run_underlying hu,Q0];simp only [QG,Wi,Qs,Nat.add_one_sub_one,Nat.div_one];have e:∀ (s:Sem PUnit),s.run P w=.ok Qx w→((s.run P w).andThen λa w'=>Qu () w')=.ok () w:=λs h=>by rw [h];rfl
   exact e _ (by simpa [CK.kv] using this)
theorem kd_same {k:Kd} (h:k.plain=true) (p:k.Pay) (n:Nat):Qh n (k.kv p) (k.kv p)=true:=by
 cases k with
 | sl fs=>cases h
 | int k=>cases n <;> simp [Kd.kv,Qh]
 | bool=>cases n <;> simp [Kd.kv,Qh]
 | str=>cases n <;> simp [Kd.kv,Qh,QK]
theorem kds_same:∀ (ks:Kds) (p:ks.Pay) (n:Nat),ks.plain=true→∀ v∈ks.kvs p,Qh n v v=true
 | .one k,p,n,h,v,hv=>by
  obtain rfl:=List.mem_singleton.1 hv;exact kd_same h p n
 | .cons k ks,p,n,h,v,hv=>by
  have h:(k.plain&&ks.plain)=true:=h;rw [Q7] at h;rcases List.mem_cons.1 hv with rfl | hv
  ·exact kd_same h.1 p.1 n
  ·exact kds_same ks p.2 n h.2 v hv
theorem qad {x:CK} (h:x.plain=true) (p:x.Pay) (w:World):(QJ (x.kv p) (x.kv p)).run P w=.ok (x.kv p) w:=by
 have:Qh 10000 (x.kv p) (x.kv p)=true:=by
  cases x with
  | one k=>exact kd_same h p _
  | agg ks =>
   show Qh (9999+1) (.agg _) (.agg _)=true;simp only [Qh,beq_self_eq_true,Bool.true_and,List.all_eq_true];intro y hy;have e:=List.of_mem_zip hy;have:∀ (l:List Value) y,y∈l.zip l→y.1=y.2:=by
    intro l
    induction l with
    | nil=>intro y hy;cases hy
    | cons a l ih =>
     intro y hy;rcases List.mem_cons.1 hy with rfl | hy
     ·rfl
     ·exact ih y hy
   obtain ⟨y1,y2⟩:=y;have e2:y1=y2:=this _ _ hy;subst e2;exact kds_same ks p 9999 h _ (by simpa using e.1)
 simp [QJ,this]
def q5q (x:CK) {β:Type} (es:List MapEntry) (xs:List (x.Pay×β)):Prop:=es.length=xs.length∧∀ (i:Nat) y,xs[i]? = some y→∃ e,es[i]? = some e∧e.key=x.kv y.1
theorem q5q.tail {x:CK} {β:Type} {e:MapEntry} {es:List MapEntry} {y:x.Pay×β} {xs:List (x.Pay×β)} (h:q5q x (e::es) (y::xs)):e.key=x.kv y.1∧q5q x es xs:=by
 refine ⟨?_,by have:=h.1;simpa using this,λi z hz=>?_⟩
 ·obtain ⟨e',he,hk⟩:=h.2 0 y rfl
  injection he with he;subst he;exact hk
 ·obtain ⟨e',he,hk⟩:=h.2 (i+1) z hz
  exact ⟨e',by simpa using he,hk⟩
theorem sameNow_kv {k:Kd} {t:TypeId} {d:TypeDesc} (h:keyK P t k=true) (hu:P.underlying t=some d) (p q:k.Pay):Instr.sameNow d (k.kv p) (k.kv q)=some (k.eqB p q):=by
 cases k with
 | sl fs=>cases h
 | int k =>
  have:=qbq h
  rw [hu] at this;injection this with this;subst this;show (if k=k then some ((p:Int)==q) else none)=_
  rw [if_pos rfl]
 | bool =>
  have:=qag h
  rw [hu] at this;injection this with this;subst this;rfl
 | str =>
  have:=qbx h
  rw [hu] at this;injection this with this;subst this;show some (bs p==bs q)=some ((p:List UInt8)==q)
  congr 1
  rw [Bool.eq_iff_iff,QK,beq_iff_eq,bs_inj]
theorem qk7 {k:Kd} {β:Type} {t:TypeId} {d:TypeDesc} (h:keyK P t k=true) (hu:P.underlying t=some d) (p:k.Pay):∀ (es:List MapEntry) (xs:List (k.Pay×β)) (i:Nat),q5q (.one k) es xs →
  W9 d (k.kv p) es i=some ((Mp.idx k.eqB p xs i).bind λr=>(es[r.1-i]?).map λe=>(r.1,e.val))
 | [],[],i,hk=>rfl
 | [],y::xs,i,hk=>by have:=hk.1;simp at this
 | e::es,[],i,hk=>by have:=hk.1;simp at this
 | e::es,y::xs,i,hk=>by
  obtain ⟨h1,h2⟩:=hk.tail;have h1:e.key=k.kv y.1:=h1;have ih:=qk7 h hu p es xs (i+1) h2;unfold W9;rw [h1,sameNow_kv h hu];unfold Mp.idx;cases k.eqB p y.1
  ·simp only [Qv,if_false]
   rw [ih]
   congr 1
   cases hj:Mp.idx k.eqB p xs (i+1) with
   | none=>rfl
   | some r =>
    obtain ⟨z,hle,_⟩:=Mp.q52 k.eqB p xs (i+1) r.1 r.2 hj;simp only [Ql];rw [show r.1-i=(r.1-(i+1))+1 by omega,QF]
  ·simp
theorem qfj {x:CK} {β:Type} {t:TypeId} (h:q26 P t x=true) (p:x.Pay) (w:World):∀ (es:List MapEntry) (xs:List (x.Pay×β)) (i:Nat),q5q x es xs →
  (QQ t (x.kv p) es i).run P w=.ok ((Mp.idx x.eqB p xs i).bind λr=>(es[r.1-i]?).map λe=>(r.1,e.val)) w
 | [],[],i,hk=>rfl
 | [],y::xs,i,hk=>by have:=hk.1;simp at this
 | e::es,[],i,hk=>by have:=hk.1;simp at this
 | e::es,y::xs,i,hk=>by
  obtain ⟨h1,h2⟩:=hk.tail;have ih:=qfj h p w es xs (i+1) h2;unfold QQ;rw [Q8,h1,key_equal h,Q0];unfold Mp.idx;cases x.eqB p y.1
  ·simp only [Qv,if_false]
   rw [ih]
   congr 1
   cases hj:Mp.idx x.eqB p xs (i+1) with
   | none=>rfl
   | some r =>
    obtain ⟨z,hle,_⟩:=Mp.q52 x.eqB p xs (i+1) r.1 r.2 hj;simp only [Ql];rw [show r.1-i=(r.1-(i+1))+1 by omega,QF]
  ·simp
theorem q3i {x:CK} {β:Type} {t:TypeId} (h:q26 P t x=true) (p:x.Pay) (w:World) (es:List MapEntry) (xs:List (x.Pay×β)) (hk:q5q x es xs) :
  (Wd t (x.kv p) es).run P w=.ok ((Mp.idx x.eqB p xs 0).bind λr=>(es[r.1]?).map λe=>(r.1,e.val)) w:=by
 cases x with
 | one k =>
  have h':keyK P t k=true:=h;have hd:∃ d,P.underlying t=some d:=by
   cases k with
   | sl fs=>cases h'
   | int k=>exact ⟨_,qbq h'⟩
   | bool=>exact ⟨_,qag h'⟩
   | str=>exact ⟨_,qbx h'⟩
  obtain ⟨d,hu⟩:=hd;exact MapKept.run_findKey hu (qk7 h' hu p es xs 0 hk)
 | agg ks =>
  rw [run_findKey_eq]
  ·exact qfj h p w es xs 0 hk
  ·rcases qck h with ⟨fs,hu,_,_⟩ | ⟨n,e,hu,_,_⟩ <;> rw [hu]
theorem EntRep.keys {y:MRow} {es:Array MapEntry} {clock:Nat} (h:EntRep κ w y es clock) (hp:y.kk.plain=true):q5q y.kk es.toList y.xs :=
 ⟨by rw [Qn];exact h.size,λi x hx=>by
  obtain ⟨e,he,hk,_⟩:=h.at_ i x hx;exact ⟨e,by simpa using he,q2i hp hk⟩⟩
theorem qcb {k:Kd} {c:Cell} {p:k.Pay} {v:Value} (h:q3c k c=some p) (hv:c.Rep κ w v):Cell.Rep κ w (.val k p) v:=by
 unfold q3c at h;split at h
 ·rename_i k' q
  split at h
  ·rename_i e _
   subst e;injection h with h;subst h;exact hv
  ·cases h
 ·split at h
  ·rename_i fs
   injection h with h;subst h;obtain rfl:v=.slice none 0 0:=hv;exact ⟨none,0,rfl,QL _,λh=>absurd h (Nat.lt_irrefl _)⟩
  ·cases h
 ·cases h
theorem qfq:∀ (ks:Kds) (cs:List Cell) (p:ks.Pay) (vs:List Value),q1e ks cs=some p→q06 κ w cs vs.toArray→q06 κ w (ks.cells p) vs.toArray
 | .one k,[],p,vs,h,hv=>by simp [q1e] at h
 | .one k,c::c'::r,p,vs,h,hv=>by simp [q1e] at h
 | .one k,[c],p,vs,h,hv=>by
  have h:q3c k c=some p:=h;refine ⟨hv.1,λi c' hc=>?_,hv.2.2⟩
  cases i with
  | zero =>
   injection hc with hc;subst hc;obtain ⟨u,hu,hr⟩:=hv.2.1 0 _ rfl;exact ⟨u,hu,qcb h hr⟩
  | succ i=>cases hc
 | .cons k ks,[],p,vs,h,hv=>by simp [q1e] at h
 | .cons k ks,c::cs',p,vs,h,hv=>by
  have h:(match q3c k c,q1e ks cs' with
   | some p,some q=>some (p,q)
   | _,_=>none)=some p:=h
  split at h
  ·rename_i p1 p2 h1 h2
   injection h with h;subst h;cases vs with
   | nil=>have:=hv.1;simp at this
   | cons v vs =>
    have hv':q06 κ w cs' vs.toArray:=⟨by have:=hv.1;simpa using this,λi c hc=>by
     obtain ⟨y,hy,hr⟩:=hv.2.1 (i+1) c hc;exact ⟨y,by simpa using hy,hr⟩,λi y hy=>hv.2.2 (i+1) y (by simpa using hy)⟩
    have ih:=qfq _ cs' p2 vs h2 hv';refine ⟨?_,λi c' hc=>?_,hv.2.2⟩
    ·have:=ih.1
     show (v::vs).toArray.size=(Kds.cells _ p2).length+1;rw [← this];simp
    ·cases i with
     | zero =>
      injection hc with hc;subst hc;obtain ⟨u,hu,hr⟩:=hv.2.1 0 _ rfl;exact ⟨u,hu,qcb h1 hr⟩
     | succ i =>
      obtain ⟨y,hy,hr⟩:=ih.2.1 i c' hc;exact ⟨y,by simpa using hy,hr⟩
  ·cases h
theorem q2y {x:CK} {c:Comp} {p:x.Pay} {v:Value} (h:q25 x c=some p) (hv:c.Rep κ w v):(x.comp p).Rep κ w v:=by
 unfold q25 at h;split at h
 ·exact qcb h hv
 ·rename_i ks cs
  obtain ⟨vs,rfl,hv⟩:=hv;exact ⟨vs,rfl,by simpa using qfq ks cs p vs.toList h (by simpa using hv)⟩
 ·cases h
theorem qlg {t:TypeId} {x:CK} {z:x.Pay} (h:zeroPay P t x=some z):∃ v,(∀ w',(zeroValue t).run P w'=.ok v w')∧(x.comp z).Rep κ w v:=by
 unfold zeroPay at h;split at h
 ·rename_i i hi
  split at h
  ·rename_i v hv
   split at h
   ·rename_i c hc
    have hr:=qic κ w v;rw [hc] at hr;exact ⟨v,λw'=>by simp [zeroValue,typeInfo,hi,hv],q2y h hr⟩
   ·cases h
  ·cases h
 ·cases h
theorem mapGot_sound {y:MRow} {es:Array MapEntry} {clock g:Nat} {t kt et:TypeId} (ht:P.underlying t=some (.map kt et)) (hE:EntRep κ w y es clock) (hg:w.heap[g]? = some (.map es clock)) {A:AV} {ok:Bool} {c:Prop} {v:AV} (h:mapGot P y kt et A ok=.ok c v) {x:Value} (hx:A.Rep κ w x) :
  ∃ u,v.Rep κ w u∧∀ w',Below w.heap.size w w'→(Qe t (.map (some g)) x ok).run P w'=.ok u w':=by
 unfold mapGot at h;split at h
 ·rename_i c0
  split at h
  ·rename_i k z h1 h2
   cases hk:q26 P kt y.kk
   ·rw [hk] at h;cases h
   ·rw [hk] at h
    injection h with _ h;subst h;have hp:=q23 hk;obtain rfl:x=y.kk.kv k:=q2i hp (q2y h1 hx);obtain ⟨zv,hz,hzr⟩:=qlg (κ:=κ) (w:=w) h2;have hlt:g<w.heap.size:=(Qa.1 hg).1;have hkeys:=hE.keys hp;have key:∀ (found:Option Value),(∀ w',(Wd kt (y.kk.kv k) es.toList).run P w'=.ok ((Mp.idx y.kk.eqB k y.xs 0).bind λr=>(es.toList[r.1]?).map λe=>(r.1,e.val)) w') →
      ((Mp.idx y.kk.eqB k y.xs 0).bind λr=>(es.toList[r.1]?).map λe=>e.val)=found→∀ w',Below w.heap.size w w' →
      (Qe t (.map (some g)) (y.kk.kv k) ok).run P w'=.ok (if ok then .tuple #[found.getD zv,.bool found.isSome] else found.getD zv) w':=by
     intro found hf hfo w' hb;have hg':w'.heap[g]? = some (.map es clock):=(hb.block g hlt).trans hg;have hf:=hf w';simp only [Qe,Q8,run_underlying ht,Q0,Qd hg',Qk,q33 hk,hf];cases hi:Mp.idx y.kk.eqB k y.xs 0 with
     | none =>
      rw [hi] at hfo;simp only [QA] at hfo ⊢;subst hfo;cases ok <;> simp [hz w']
     | some r =>
      obtain ⟨q,_,hq,_,_⟩:=Mp.q52 _ _ _ _ _ _ hi;rw [Qs] at hq;obtain ⟨e,he,_,_⟩:=hE.at_ r.1 q hq;have he':es.toList[r.1]? = some e:=by simpa using he
      rw [hi] at hfo;simp only [Ql,he',Qt] at hfo ⊢;subst hfo;cases ok <;> simp
    have hfound:=key _ (λw'=>q3i hk k w' es.toList y.xs hkeys) rfl
    have hval:(y.vk.comp ((Mp.get y.kk.eqB k y.xs).getD z)).Rep κ w (((Mp.idx y.kk.eqB k y.xs 0).bind λr=>(es.toList[r.1]?).map λe=>e.val).getD zv) ∧
      ((Mp.idx y.kk.eqB k y.xs 0).bind λr=>(es.toList[r.1]?).map λe=>e.val).isSome=(Mp.get y.kk.eqB k y.xs).isSome:=by
     rw [← Mp.q4t y.kk.eqB k y.xs 0];cases hi:Mp.idx y.kk.eqB k y.xs 0 with
     | none=>exact ⟨hzr,rfl⟩
     | some r =>
      obtain ⟨q,_,hq,_,hq2⟩:=Mp.q52 _ _ _ _ _ _ hi;rw [Qs] at hq;obtain ⟨e,he,_,hv⟩:=hE.at_ r.1 q hq;have he':es.toList[r.1]? = some e:=by simpa using he
      have e1:((some r).bind λr=>(es.toList[r.1]?).map λe=>e.val)=some e.val:=by rw [Ql,he'];rfl
      rw [e1];have hv':(y.vk.comp r.2).Rep κ w e.val:=by rw [← hq2];exact hv
      exact ⟨hv',rfl⟩
    refine ⟨_,?_,hfound⟩;cases ok
    ·exact hval.1
    ·refine ⟨_,rfl,rfl,λi c hc=>?_⟩
     rcases i with _ | _ | i
     ·injection hc with hc;subst hc;exact ⟨_,rfl,hval.1⟩
     ·injection hc with hc;subst hc
      exact ⟨_,rfl,congrArg Value.bool hval.2⟩
     ·cases hc
  ·cases h
 ·cases h
theorem qg3 {k:Kd} (h:k.plain=true) {p q:k.Pay} (e:k.kv p=k.kv q):p=q:=by
 cases k with
 | sl fs=>cases h
 | int k=>injection e
 | bool=>injection e
 | str=>injection e with e;exact bs_inj.1 e
theorem qkk:∀ (ks:Kds) (p q:ks.Pay),ks.plain=true→ks.kvs p=ks.kvs q→p=q
 | .one k,p,q,h,e=>by
  injection e with e _;exact qg3 h e
 | .cons k ks,p,q,h,e=>by
  have h:(k.plain&&ks.plain)=true:=h;rw [Q7] at h;injection e with e1 e2;exact Prod.ext (qg3 h.1 e1) (qkk ks _ _ h.2 e2)
theorem qcq {x:CK} (h:x.plain=true) {p q:x.Pay} (e:x.kv p=x.kv q):p=q:=by
 cases x with
 | one k=>exact qg3 h e
 | agg ks =>
  injection e with e;exact qkk ks p q h (List.toArray_inj e)
theorem qd6 {k:Kd} (h:k.plain=true) (p:k.Pay):k.eqB p p=true:=by
 cases k with
 | sl fs=>cases h
 | int k=>exact beq_self_eq_true (α:=Int) p
 | bool=>exact beq_self_eq_true (α:=Bool) p
 | str=>exact beq_self_eq_true (α:=List UInt8) p
theorem qfu:∀ (ks:Kds) (p:ks.Pay),ks.plain=true→ks.eqB p p=true
 | .one k,p,h=>qd6 h p
 | .cons k ks,p,h=>by
  have h:(k.plain&&ks.plain)=true:=h;rw [Q7] at h;show (k.eqB p.1 p.1&&ks.eqB p.2 p.2)=true;rw [qd6 h.1,qfu ks p.2 h.2];rfl
theorem q6f {x:CK} (h:x.plain=true) (p:x.Pay):x.eqB p p=true:=by
 cases x with
 | one k=>exact qd6 h p
 | agg ks=>exact qfu ks p h
theorem q6w {α β:Type} (eq:α→α→Bool) (k:α):∀ (xs:List (α×β)),Mp.get eq k xs=none→∀ (i:Nat) (x:α×β),xs[i]? = some x→eq k x.1=false
 | [],h,i,x,hx=>by cases hx
 | y::r,h,i,x,hx=>by
  unfold Mp.get at h;split at h
  ·cases h
  ·rename_i he
   cases i with
   | zero=>injection hx with hx;subst hx;simpa using he
   | succ i=>exact q6w eq k r h i x hx
theorem qas {α β:Type} (eq:α→α→Bool) (k k':α) (v:β):∀ (xs:List (α×β)),Mp.get eq k (xs++[(k',v)])=none→Mp.get eq k xs=none∧eq k k'=false
 | [],h=>by
  have h:(if eq k k' then some v else none)=none:=h
  split at h
  ·cases h
  ·rename_i he;exact ⟨rfl,by simpa using he⟩
 | x::r,h=>by
  have h:(if eq k x.1 then some x.2 else Mp.get eq k (r++[(k',v)]))=none:=h
  split at h
  ·cases h
  ·rename_i he
   obtain ⟨h1,h2⟩:=qas eq k k' v r h;exact ⟨by unfold Mp.get;rw [if_neg he];exact h1,h2⟩
theorem NestRep.val {n0:Nat} {maps:List (Nat×MRow)} {y:NRow} (h:NestRep n0 κ maps w y) (hp:y.kk.plain=true) (k:y.kk.Pay) :
  (∃ l g es clock,y.at_ k=some l∧κ.μ.inn (y.kk.kv k)=some g∧w.heap[g]? = some (.map es clock)∧EntRep κ w ⟨y.it,y.ik,y.iv,l⟩ es clock∧n0≤g∧g≠κ.μ.ν∧(∀ m z,look? m maps=some z→κ.μ m≠g)∧∃ (i:Nat) (x:y.kk.Pay×List (y.ik.Pay×y.iv.Pay)),y.xs[i]? = some x∧x.1=k∧x.2=l) ∨
  (y.at_ k=none∧κ.μ.inn (y.kk.kv k)=none):=by
 cases hk:y.at_ k with
 | none=>exact .inr ⟨rfl,h.miss k hk⟩
 | some l =>
  obtain ⟨i,x,h1,h2,h3⟩:=get_mem _ _ _ _ hk;obtain ⟨g,es,clock,q1,q2,q3,q4,q5,q6⟩:=h.inn i x h1;have e:=q4r h2;refine .inl ⟨l,g,es,clock,rfl,by rw [e];exact q1,q2,by rw [← h3];exact q3,q4,q5,q6,i,x,h1,e.symm,h3⟩
theorem qks {n0:Nat} {maps:List (Nat×MRow)} {y:NRow} {t kt et:TypeId} (hu:P.underlying t=some (.map kt et)) (hN:NestRep n0 κ maps w y) (hk:q26 P kt y.kk=true) (hz:qdx P et=true) (k:y.kk.Pay) (w':World) (hb:Below w.heap.size w w') :
  (Qe t (.map (some κ.μ.ν)) (y.kk.kv k) false).run P w'=.ok (.map (κ.μ.inn (y.kk.kv k))) w':=by
 have hp:=q23 hk;obtain ⟨es,clock,h1,h2,h3,_⟩:=hN.out;have hg:w'.heap[κ.μ.ν]? = some (.map es clock):=(hb.block _ (Qa.1 h1).1).trans h1;have hkeys:q5q y.kk es.toList y.xs:=⟨by rw [Qn];exact h2,λi x hx=>by
  obtain ⟨e,he,q1,_⟩:=h3 i x hx;exact ⟨e,by rw [Qi];exact he,q2i hp q1⟩⟩
 have hf:=q3i hk k w' es.toList y.xs hkeys;obtain ⟨i,hi,hzz⟩:∃ i,P.info? et=some i∧i.zero=some (.map none):=by
  unfold qdx at hz;split at hz
  ·rename_i i hi
   split at hz
   ·rename_i hzz;exact ⟨i,hi,hzz⟩
   ·cases hz
  ·cases hz
 have hzv:(zeroValue et).run P w'=.ok (.map none) w':=by simp [zeroValue,typeInfo,hi,hzz]
 cases hx:Mp.idx y.kk.eqB k y.xs 0 with
 | none =>
  rw [hx] at hf;have hmiss:y.at_ k=none:=by
   have:=Mp.q4t y.kk.eqB k y.xs 0
   rw [hx] at this;exact this.symm
  rw [hN.miss k hmiss];simp only [Qe,Q8,run_underlying hu,Q0,Qd hg,Qk,q33 hk,hf,QA,hzv];rfl
 | some r =>
  obtain ⟨q,_,hq,hqe,hq2⟩:=Mp.q52 _ _ _ _ _ _ hx;rw [Qs] at hq;obtain ⟨e,he,_,he2⟩:=h3 r.1 q hq;have he':es.toList[r.1]? = some e:=by rw [Qi];exact he
  rw [hx] at hf;have hke:=q4r hqe;have e2:κ.μ.inn (y.kk.kv k)=κ.μ.inn (y.kk.kv q.1):=by rw [hke]
  rw [e2,← he2];simp only [Qe,Q8,run_underlying hu,Q0,Qd hg,Qk,q33 hk,hf,Ql,he',Qt];rfl
theorem FamRep.at_rep {n0:Nat} {boxes:List (Nat×List Cell)} {rows:List (Nat×Row)} {maps:List (Nat×MRow)} {y:FRow} (h:FamRep n0 κ boxes rows maps w y) {k:y.kk.Pay} (hoff:y.off k) :
  ∃ cells,w.ownsRow n0 y.e y.fs.size (κ.μ.fin (y.kk.kv k)) ((y.at_ k).getD []).length cells∧q0k κ w y.fs ((y.at_ k).getD []) cells:=by
 cases hk:y.at_ k with
 | none =>
  refine ⟨[],?_,λi x hx=>by simp at hx⟩
  rw [h.miss k hk];exact World.ownsRow_nil _ _ _ _
 | some l =>
  obtain ⟨i,q,q1,q2,q3⟩:=get_mem _ _ _ _ hk;have e:=q4r q2;subst q3;subst e;exact h.inn i q q1 hoff
theorem FamRep.q67 {n0:Nat} {boxes:List (Nat×List Cell)} {rows:List (Nat×Row)} {maps:List (Nat×MRow)} {y:FRow} (h:FamRep n0 κ boxes rows maps w y) (hoff:∀ k,y.off k) (k:y.kk.Pay):(κ.μ.fin (y.kk.kv k)).oneCell'=true:=by
 obtain ⟨cells,ho,_⟩:=h.at_rep (hoff k);obtain ⟨A,c,he⟩:=q2k ho;rw [he];rfl
theorem ql9 {n0:Nat} {boxes:List (Nat×List Cell)} {rows:List (Nat×Row)} {maps:List (Nat×MRow)} {y:FRow} {t kt et:TypeId} (hu:P.underlying t=some (.map kt et)) (hN:FamRep n0 κ boxes rows maps w y) (hk:q26 P kt y.kk=true) (hz:q5g P et=true) (k:y.kk.Pay) (w':World) (hb:Below w.heap.size w w') :
  (Qe t (.map (some κ.μ.φ)) (y.kk.kv k) false).run P w'=.ok (κ.μ.fin (y.kk.kv k)) w':=by
 have hp:=q23 hk;obtain ⟨es,clock,h1,h2,h3,_⟩:=hN.out;have hg:w'.heap[κ.μ.φ]? = some (.map es clock):=(hb.block _ (Qa.1 h1).1).trans h1;have hkeys:q5q y.kk es.toList y.xs:=⟨by rw [Qn];exact h2,λi x hx=>by
  obtain ⟨e,he,q1,_⟩:=h3 i x hx;exact ⟨e,by rw [Qi];exact he,q2i hp q1⟩⟩
 have hf:=q3i hk k w' es.toList y.xs hkeys;obtain ⟨i,hi,hzz⟩:∃ i,P.info? et=some i∧i.zero=some (.slice none 0 0):=by
  unfold q5g at hz;split at hz
  ·rename_i i hi
   split at hz
   ·rename_i hzz;exact ⟨i,hi,hzz⟩
   ·cases hz
  ·cases hz
 have hzv:(zeroValue et).run P w'=.ok (.slice none 0 0) w':=by simp [zeroValue,typeInfo,hi,hzz]
 cases hx:Mp.idx y.kk.eqB k y.xs 0 with
 | none =>
  rw [hx] at hf;have hmiss:y.at_ k=none:=by
   have:=Mp.q4t y.kk.eqB k y.xs 0
   rw [hx] at this;exact this.symm
  rw [hN.miss k hmiss];simp only [Qe,Q8,run_underlying hu,Q0,Qd hg,Qk,q33 hk,hf,QA,hzv];rfl
 | some r =>
  obtain ⟨q,_,hq,hqe,hq2⟩:=Mp.q52 _ _ _ _ _ _ hx;rw [Qs] at hq;obtain ⟨e,he,_,he2⟩:=h3 r.1 q hq;have he':es.toList[r.1]? = some e:=by rw [Qi];exact he
  rw [hx] at hf;have hke:=q4r hqe;have e2:κ.μ.fin (y.kk.kv k)=κ.μ.fin (y.kk.kv q.1):=by rw [hke]
  rw [e2,← he2];simp only [Qe,Q8,run_underlying hu,Q0,Qd hg,Qk,q33 hk,hf,Ql,he',Qt];rfl
end
end R
namespace R
section
variable {w0:Base} {w w':World} {κ:Cx} {st:St} {a:Act} {P:Program}
theorem qbz (hR:Rel w0 κ st a w):∀ (l:List Operand) (ps:List (Nat×Nat)),qe2 st l=some ps→l.map a.eval=ps.map κ.ptr
 | [],ps,h=>by injection h with h;subst h;rfl
 | x::r,ps,h=>by
  have hx:=hR.ev x;have h:(match st.ev x with
   | .c (.one (.ptr b off))=>(qe2 st r).map ((b,off)::·)
   | _=>none)=some ps:=h
  split at h
  ·rename_i b off hp
   rw [hp] at hx;have hx:a.eval x=κ.ptr (b,off):=hx;cases hq:qe2 st r with
   | none=>rw [hq] at h;cases h
   | some qs =>
    rw [hq] at h;injection h with h;subst h;rw [List.map_cons,List.map_cons,hx,qbz hR r qs hq]
  ·cases h
theorem qdt (hR:Rel w0 κ st a w) {y:NRow} (hy:st.nest=some y):NestRep w0.n0 κ st.maps w y:=hR.ext.nest y hy
theorem qh1 (hR:Rel w0 κ st a w) {op:BinOp} {t:TypeId} {x y:Operand} {b:Bool} (h:qdo P t st op (st.ev x) (st.ev y)=some b) {w':World} :
  (do eqGuard op t x y (a.eval x) (a.eval y);binOp op t (a.eval x) (a.eval y):Sem Value).run P w'=.ok (.bool b) w':=by
 unfold qdo at h;have hx:=hR.ev x;have hy:=hR.ev y;split at h
 ·rename_i kt et kk k hu h1 h2
  rw [h1] at hx;rw [h2] at hy;have heq:∀ o:Option Nat,(Op.equal t (.map o) (.map none)).run P w'=.ok o.isNone w':=λo=>by
   have:∀ d,(Qr (d+1) t (.map o) (.map none)).run P w'=.ok o.isNone w':=λd=>by
    cases o <;> simp [Qr,run_underlying hu]
   exact this 9999
  have hx:a.eval x=.map (κ.μ.inn (kk.kv k)):=hx;have hy:a.eval y=.map none:=hy;split at h
  ·rename_i c hc
   have hin:(κ.μ.inn (kk.kv k)).isSome=c:=by
    unfold St.innerHas at hc;split at hc
    ·rename_i z hz
     split at hc
     ·rename_i e _
      subst e;injection hc with hc;have hN:=qdt hR hz;rw [← hc];cases hk:z.at_ k with
      | none=>rw [hN.miss k hk];rfl
      | some l =>
       obtain ⟨i,q,q1,q2,_⟩:=get_mem _ _ _ _ hk;obtain ⟨g,_,_,q3,_⟩:=hN.inn i q q1;rw [q4r q2,q3];rfl
     ·cases hc
    ·cases hc
   rw [hx,hy];subst hin;cases op <;> first | (cases h) | skip
   all_goals cases hi:κ.μ.inn (kk.kv k) <;> simp [eqGuard,binOp,heq]
  ·cases h
 ·cases h
theorem qht:∀ (cs:List Cell) (z:(ks:Kds)×ks.Pay),qbr cs=some z→cs.length=z.1.size∧∀ (f:Nat) (y:(k:Kd)×k.Pay),z.1.fld z.2 f=some y→cs[f]? = some (.val y.1 y.2)
 | [],z,h=>by cases h
 | [c],z,h=>by
  cases c with
  | val k p =>
   injection h with h;subst h;refine ⟨rfl,λf y hy=>?_⟩
   cases f with
   | zero=>injection hy with hy;subst hy;rfl
   | succ f=>cases hy
  | _=>cases h
 | c::d::r,z,h=>by
  cases c with
  | val k p =>
   have h:(match qbr (d::r) with | some x=>some (⟨.cons k x.1,(p,x.2)⟩:(ks:Kds)×ks.Pay) | none=>none)=some z:=h
   split at h
   ·rename_i x hx
    injection h with h;subst h;obtain ⟨h1,h2⟩:=qht (d::r) x hx;refine ⟨by rw [List.length_cons,h1];rfl,λf y hy=>?_⟩
    cases f with
    | zero=>injection hy with hy;subst hy;rfl
    | succ f=>exact h2 f y hy
   ·cases h
  | _=>cases h
theorem qh6:∀ (cs:List Cell) (z:(ks:Kds)×ks.Pay) (us:List Value),qbr cs=some z→q06 κ w cs us.toArray→z.1.RepU w κ.S z.2 us
 | [],z,us,h,hv=>by cases h
 | [c],z,us,h,hv=>by
  cases c with
  | val k p =>
   injection h with h;subst h;obtain ⟨u,hu,hr⟩:=hv.2.1 0 _ rfl;have hl:=hv.1
   match us,hl,hu with
   | [v],_,hu=>injection hu with hu;subst hu;exact ⟨_,rfl,hr⟩
  | _=>cases h
 | c::d::r,z,us,h,hv=>by
  cases c with
  | val k p =>
   have h:(match qbr (d::r) with | some x=>some (⟨.cons k x.1,(p,x.2)⟩:(ks:Kds)×ks.Pay) | none=>none)=some z:=h
   split at h
   ·rename_i x hx
    injection h with h;subst h;cases us with
    | nil=>have:=hv.1;simp at this
    | cons v vs =>
     obtain ⟨u,hu,hr⟩:=hv.2.1 0 _ rfl;injection hu with hu;subst hu;exact ⟨_,_,rfl,hr,qh6 (d::r) x vs hx ⟨by have:=hv.1;simpa using this,λi c hc=>by
      obtain ⟨y,hy,hr⟩:=hv.2.1 (i+1) c hc;exact ⟨y,by simpa using hy,hr⟩,λi y hy=>hv.2.2 (i+1) y (by simpa using hy)⟩⟩
   ·cases h
  | _=>cases h
theorem bndOf_sound {x:AV} {z:(x:CK)×x.Pay} {u:Value} (h:bndOf x=some z) (hu:x.Rep κ w u):z.1.RepU w κ.S z.2 u:=by
 unfold bndOf at h;split at h
 ·injection h with h;subst h;exact hu
 ·rename_i cs
  obtain ⟨us,rfl,hus⟩:=hu;split at h
  ·rename_i y hy
   injection h with h;subst h;exact ⟨us.toList,by rw [Qg],qh6 cs y us.toList hy (by rw [Qg];exact hus)⟩
  ·cases h
 ·cases h
theorem toNat_lt {n:Int} {m:Nat} (h0:0≤n) (h1:n<m):n.toNat<m:=by omega
theorem min_if (n m:Int):(if m<n then m else n)=min n m:=by rw [Int.min_def];split <;> split <;> omega
theorem max_if (n m:Int):(if m>n then m else n)=max n m:=by rw [Int.max_def];split <;> split <;> omega
theorem qcg (hR:Rel w0 κ st a w) {o:Oper} {c:Prop} {v:AV} (h:rop P st o.op=.ok c v) (hc:c):Yields P κ w a o v:=by
 unfold rop at h;split at h
 ·rename_i x ho
  injection h with h1 h2;subst h2;exact ⟨_,hR.ev x,λw' _=>by simp [execOp,ho]⟩
 ·rename_i x ho
  injection h with h1 h2;subst h2;exact ⟨_,hR.ev x,λw' _=>by simp [execOp,ho]⟩
 ·
  rename_i q x y ho;split at h
  ·rename_i b hq
   injection h with h1 h2;subst h2;have hb:=hR.ev q;rw [hq] at hb;have hb:a.eval q=.bool b:=hb;refine ⟨_,qgc (hR.ev x) (hR.ev y),λw' _=>?_⟩
   simp [execOp,ho,hb,asBool]
  ·cases h
 ·
  rename_i t x ho;have hx:=hR.ev x;split at h
  ·rename_i b off hp
   rw [hp] at hx;have hx:a.eval x=_:=hx;split at h
   ·rename_i cs hcs
    obtain ⟨vs,ty,hblk,hv,_,_⟩:=hR.box b cs hcs;obtain ⟨u,hu,hw⟩:=qio h hblk hv;refine q0h (s:=QC t (a.eval x)) (by simp only [execOp,ho]) ⟨u,hu,λw' hb=>?_⟩
    rw [hx];exact hw w' hb
   ·cases h
  ·rename_i fs p f hp
   rw [hp] at hx;obtain ⟨g,o',hx,hg,hs,hr⟩:=hx;obtain ⟨u,hu,hw⟩:=qd2 h hg hr;refine q0h (s:=QC t (a.eval x)) (by simp only [execOp,ho]) ⟨u,hu,λw' hb=>?_⟩
   rw [hx];exact hw w' hb
  ·rename_i r sz i f hp
   rw [hp] at hx;obtain ⟨g,n,c',hv,hi,hx⟩:=hx;split at h
   ·rename_i y hy
    cases hz:sz.beq y.fs.size
    ·rw [hz] at h;cases h
    ·rw [hz] at h
     obtain rfl:=Q9 hz;obtain ⟨hg,hr⟩:=row_elem hR hy hv hi;obtain ⟨u,hu,hw⟩:=qd2 h hg hr;refine q0h (s:=QC t (a.eval x)) (by simp only [execOp,ho]) ⟨u,hu,λw' hb=>?_⟩
     rw [hx];exact hw w' hb
   ·cases h
  ·rename_i kk k sz i f hp
   rw [hp] at hx;obtain ⟨g,n,c',hv,hi,hx⟩:=hx;split at h
   ·rename_i y hy
    cases hz:sz.beq y.1.size
    ·rw [hz] at h;cases h
    ·rw [hz] at h
     obtain rfl:=Q9 hz;obtain ⟨hg,hr,_⟩:=fent_elem hR hy hv hi;obtain ⟨u,hu,hw⟩:=qd2 h hg hr;refine q0h (s:=QC t (a.eval x)) (by simp only [execOp,ho]) ⟨u,hu,λw' hb=>?_⟩
     rw [hx];exact hw w' hb
   ·cases h
  ·cases h
 ·
  rename_i x ho;have hx:=hR.ev x;split at h
  ·rename_i b off hp
   rw [hp] at hx;have hx:a.eval x=_:=hx;injection h with h1 h2;subst h2;exact ⟨a.eval x,hx,λw' _=>by simp [execOp,ho,hx]⟩
  ·rename_i fs p f hp
   rw [hp] at hx;injection h with h1 h2;subst h2;obtain ⟨g,o',hxe,hh⟩:=hx;exact ⟨a.eval x,⟨g,o',hxe,hh⟩,λw' _=>by simp [execOp,ho,hxe]⟩
  ·rename_i r sz i f hp
   rw [hp] at hx;injection h with h1 h2;subst h2;obtain ⟨g,n,c',hv,hi,hxe⟩:=hx;exact ⟨a.eval x,⟨g,n,c',hv,hi,hxe⟩,λw' _=>by simp [execOp,ho,hxe]⟩
  ·rename_i kk k sz i f hp
   rw [hp] at hx;injection h with h1 h2;subst h2;obtain ⟨g,n,c',hv,hi,hxe⟩:=hx;exact ⟨a.eval x,⟨g,n,c',hv,hi,hxe⟩,λw' _=>by simp [execOp,ho,hxe]⟩
  ·cases h
 ·
  rename_i op t x y ty ho;cases hnil:qdo P t st op (st.ev x) (st.ev y) with
  | some b =>
   rw [hnil] at h;injection h with h1 h2;subst h2;exact q0h (s:=(do eqGuard op t x y (a.eval x) (a.eval y);binOp op t (a.eval x) (a.eval y):Sem Value)) (by simp only [execOp,ho]) ⟨_,q5i,λw' _=>qh1 hR hnil⟩
  | none =>
  rw [hnil] at h;obtain ⟨u,hu,hw⟩:∃ u,v.Rep κ w u∧∀ w',(do eqGuard op t x y (a.eval x) (a.eval y);binOp op t (a.eval x) (a.eval y):Sem Value).run P w'=.ok u w':=by
   by_cases h2:twoOp op x=true
   ·rw [h2] at h
    exact qgr h2 h (hR.ev y) y
   rw [QR] at h2;rw [h2] at h;cases hab:qbl (st.ev x) (st.ev y)
   ·rw [hab] at h
    exact qh2 (P:=P) (t:=t) (by intro hb;split at hb <;> first | assumption | cases hb) h hc (hR.ev x) (hR.ev y) x y
   ·rw [hab] at h
    exact qfz hab h (hR.ev x) (hR.ev y) x y
  exact q0h (s:=(do eqGuard op t x y (a.eval x) (a.eval y);binOp op t (a.eval x) (a.eval y):Sem Value)) (by simp only [execOp,ho]) ⟨u,hu,λw' _=>hw w'⟩
 ·
  rename_i op t x ho;have hx:=hR.ev x;split at h
  ·rename_i b hp
   rw [hp] at hx;have hx:a.eval x=.bool b:=hx;injection h with h1 h2;subst h2;exact q0h (s:=QD .not (a.eval x)) (by simp only [execOp,ho]) ⟨_,q5i,λw' _=>by rw [hx];rfl⟩
  ·rename_i n hp
   rw [hp] at hx;have hx:a.eval x=.int .i64 n:=hx;injection h with h1 h2;subst h2;subst h1;exact q0h (s:=QD .neg (a.eval x)) (by simp only [execOp,ho]) ⟨_,q29,λw' _=>by
    rw [hx];have:=qcw hc;simp [QD,Op.intArith,this]⟩
  ·cases h
 ·
  rename_i src dst x ho;have hx:=hR.ev x;split at h
  ·rename_i d k k' n hs hd hp
   rw [hp] at hx;have hx:a.eval x=.int k' n:=hx;injection h with h1 h2;subst h2;exact q0h (s:=convert src dst (a.eval x)) (by simp only [execOp,ho]) ⟨_,q29,λw' _=>by
    rw [hx];simp [convert,run_underlying hs,run_underlying hd,Conv.intToInt]⟩
  ·rename_i d s hs hd hp
   rw [hp] at hx;have hx:a.eval x=.string (bs s):=hx;injection h with h1 h2;subst h2;exact q0h (s:=convert src dst (a.eval x)) (by simp only [execOp,ho]) ⟨_,qhg,λw' _=>by
    rw [hx];simp [convert,run_underlying hs,run_underlying hd]⟩
  ·cases h
 ·
  rename_i s x f ho;split at h
  ·rename_i fields hs
   split at h
   ·rename_i fd hf
    have hx:=hR.ev x;cases hsz:q15 P fd.type with
    | none=>rw [hsz] at h;cases h
    | some n =>
     rw [hsz] at h;dsimp only at h;cases hz:Nat.blt 0 n
     ·rw [hz] at h;cases h
     rw [hz] at h;have hn:n≠0:=by rw [Nat.blt_eq] at hz;omega
     have fin:∀ g o,a.eval x=.pointer (some ⟨g,o,none⟩)→∀ w',(Qc s (a.eval x) f).run P w'=.ok (.pointer (some ⟨g,o+fd.offset,none⟩)) w':=λg o he w'=>by
      rw [he];have hpl:(fieldPlace ⟨g,o,none⟩ fd).run P w'=.ok ⟨g,o+fd.offset,none⟩ w':=by
       simp [fieldPlace,q1m hsz,hn,add_plain2]
      simp [Qc,run_underlying hs,hf,QY,hpl]
     dsimp only [cond_true] at h;split at h
     ·rename_i b off hp
      rw [hp] at hx;injection h with h1 h2;subst h2;exact q0h (s:=Qc s (a.eval x) f) (by simp only [execOp,ho]) ⟨_,rfl,λw' _=>fin _ _ hx w'⟩
     ·rename_i fs p g hp
      rw [hp] at hx;injection h with h1 h2;subst h2;obtain ⟨b,o',hxe,hh⟩:=hx;refine q0h (s:=Qc s (a.eval x) f) (by simp only [execOp,ho]) ⟨_,⟨b,o',rfl,hh⟩,λw' _=>?_⟩
      have:=fin _ _ hxe w'
      rwa [Qb] at this
     ·rename_i r sz i g hp
      rw [hp] at hx;injection h with h1 h2;subst h2;obtain ⟨b,n,c',hv,hi,hxe⟩:=hx;refine q0h (s:=Qc s (a.eval x) f) (by simp only [execOp,ho]) ⟨_,⟨b,n,c',hv,hi,rfl⟩,λw' _=>?_⟩
      have:=fin _ _ hxe w'
      rwa [Qb] at this
     ·rename_i kk k sz i g hp
      rw [hp] at hx;injection h with h1 h2;subst h2;obtain ⟨b,n,c',hv,hi,hxe⟩:=hx;refine q0h (s:=Qc s (a.eval x) f) (by simp only [execOp,ho]) ⟨_,⟨b,n,c',hv,hi,rfl⟩,λw' _=>?_⟩
      have:=fin _ _ hxe w'
      rwa [Qb] at this
     ·cases h
   ·cases h
  ·cases h
 ·
  rename_i t x f ho;have hx:=hR.ev x;split at h
  ·rename_i fields cs hs hp
   rw [hp] at hx;obtain ⟨vs,hxe,hv⟩:=hx;split at h
   ·rename_i fd hf
    obtain ⟨u,hu,hw⟩:=q8v h hv;exact q0h (s:=Instr.field t (a.eval x) f) (by simp only [execOp,ho]) ⟨u,hu,λw' _=>by
     rw [hxe];simp [Instr.field,run_underlying hs,hf,asAgg,hw]⟩
   ·cases h
  ·cases h
 ·
  rename_i t x i ho;have hx:=hR.ev x;have hi:=hR.ev i;split at h
  ·rename_i e fs xs k n hs hp hq
   rw [hp] at hx;rw [hq] at hi;have hi:a.eval i=.int k n:=hi;cases hz:(q15 P e==some fs.size)
   ·rw [hz] at h;cases h
   ·rw [hz] at h
    have hz:q15 P e=some fs.size:=by simpa using hz
    injection h with h1 h2;subst h2;subst h1;obtain ⟨c1,c2⟩:=hc;obtain ⟨A,c,hxe,hcap,hrow⟩:=hx;have hlt:n.toNat<(xs:List fs.Pay).length:=toNat_lt c1 c2;obtain ⟨g,off,rfl,hg,hsg,hrow⟩:=hrow (by omega)
    have hge:(xs:List fs.Pay)[n.toNat]? = some ((xs:List fs.Pay).getD n.toNat fs.dflt):=by
     rw [Qm,Qp hlt,QE]
    refine q0h (s:=Q3 t (a.eval x) (a.eval i)) (by simp only [execOp,ho]) ⟨_,⟨g,off+n.toNat*fs.size,rfl,hg,hsg,hrow _ _ hge⟩,λw' _=>?_⟩
    rw [hxe,hi];have hc2:0≤n∧n<((xs:List fs.Pay).length:Int):=⟨c1,c2⟩;simp [Q3,run_underlying hs,asIntOf,hc2,q1m hz,add_plain2]
  ·rename_i e r k n hs hp hq
   rw [hp] at hx;rw [hq] at hi;have hi:a.eval i=.int k n:=hi;split at h
   ·rename_i y hy
    cases hz:(q15 P e==some y.fs.size)
    ·rw [hz] at h;cases h
    ·rw [hz] at h
     have hz:q15 P e=some y.fs.size:=by simpa using hz
     injection h with h1 h2;subst h2;subst h1;obtain ⟨c1,c2⟩:=hc;have hlt:n.toNat<y.xs.length:=toNat_lt c1 c2;obtain ⟨hxe,_⟩:=hx;obtain ⟨cells,hown,_⟩:=hR.row r y hy;obtain ⟨A,c',he⟩:=q2k hown;have hA:∃ g,A=some ⟨g,0,none⟩:=by
      rcases hown.2 with ⟨_,h0⟩ | ⟨g,cap,cur,hv,_⟩
      ·omega
      ·rw [hv] at he;injection he with he;exact ⟨g,he.symm⟩
     obtain ⟨g,rfl⟩:=hA;refine q0h (s:=Q3 t (a.eval x) (a.eval i)) (by simp only [execOp,ho]) ⟨_,⟨g,y.xs.length,c',he,hlt,rfl⟩,λw' _=>?_⟩
     rw [hxe,hi,he];have hc2:0≤n∧n<((y.xs.length:Nat):Int):=⟨c1,c2⟩;simp [Q3,run_underlying hs,asIntOf,hc2,q1m hz,add_plain2]
   ·cases h
  ·rename_i e kk q k n hs hp hq
   rw [hp] at hx;rw [hq] at hi;have hi:a.eval i=.int k n:=hi;split at h
   ·rename_i y hy
    cases hz:(q15 P e==some y.1.size)
    ·rw [hz] at h;cases h
    ·rw [hz] at h
     have hz:q15 P e=some y.1.size:=by simpa using hz
     injection h with h1 h2;subst h2;subst h1;obtain ⟨c1,c2⟩:=hc;have hlt:n.toNat<y.2.length:=toNat_lt c1 c2;obtain ⟨hxe,_⟩:=hx;obtain ⟨et,cells,hown,_⟩:=qeu hR hy;obtain ⟨A,c',he⟩:=q2k hown;have hA:∃ g,A=some ⟨g,0,none⟩:=by
      rcases hown.2 with ⟨_,h0⟩ | ⟨g,cap,cur,hv,_⟩
      ·omega
      ·rw [hv] at he;injection he with he;exact ⟨g,he.symm⟩
     obtain ⟨g,rfl⟩:=hA;refine q0h (s:=Q3 t (a.eval x) (a.eval i)) (by simp only [execOp,ho]) ⟨_,⟨g,y.2.length,c',he,hlt,rfl⟩,λw' _=>?_⟩
     rw [hxe,hi,he];have hc2:0≤n∧n<((y.2.length:Nat):Int):=⟨c1,c2⟩;simp [Q3,run_underlying hs,asIntOf,hc2,q1m hz,add_plain2]
   ·cases h
  ·rename_i e cls k n hs hp hq
   rw [hp] at hx;rw [hq] at hi;have hi:a.eval i=.int k n:=hi;cases hz:(q15 P e==some 1)
   ·rw [hz] at h;cases h
   ·rw [hz] at h
    have hz:q15 P e=some 1:=by simpa using hz
    injection h with h1 h2;subst h2;subst h1;obtain ⟨c1,c2⟩:=hc;have hlt:n.toNat<cls.length:=toNat_lt c1 c2;obtain ⟨g,cap,hxe,hcap,hat⟩:=hx;refine q0h (s:=Q3 t (a.eval x) (a.eval i)) (by simp only [execOp,ho]) ⟨_,⟨g,rfl,⟨c1,hlt⟩,hat⟩,λw' _=>?_⟩
    rw [hxe,hi];have hc2:0≤n∧n<((cls.length:Nat):Int):=⟨c1,c2⟩;simp [Q3,run_underlying hs,asIntOf,hc2,q1m hz,add_plain2]
  ·rename_i e r sz q k n hs hp hq
   rw [hp] at hx;rw [hq] at hi;have hi:a.eval i=.int k n:=hi;split at h
   ·rename_i y hy
    cases hz:(q15 P e==some y.fs.size)&&sz.beq y.fs.size
    ·rw [hz] at h;cases h
    ·rw [hz] at h
     rw [Q7] at hz;obtain ⟨hz,hz2⟩:=hz;obtain rfl:=Q9 hz2;have hz:q15 P e=some y.fs.size:=by simpa using hz
     injection h with h1 h2;subst h2;subst h1;obtain ⟨c1,c2⟩:=hc;have hlt:n.toNat<y.xs.length-q:=toNat_lt c1 c2;obtain ⟨g,m,c',hρ,hqm,hxe⟩:=hx;obtain ⟨cells,hown,_⟩:=hR.row r y hy;obtain ⟨A,c'',he⟩:=q2k hown;have hρ2:=hρ;rw [he] at hρ2;injection hρ2 with e1 e2 e3;subst e2;refine q0h (s:=Q3 t (a.eval x) (a.eval i)) (by simp only [execOp,ho]) ⟨_,⟨g,y.xs.length,c',hρ,by omega,rfl⟩,λw' _=>?_⟩
     rw [hxe,hi];have hc2:0≤n∧n<((y.xs.length-q:Nat):Int):=⟨c1,c2⟩;simp [Q3,run_underlying hs,asIntOf,hc2,q1m hz,add_plain2,QP]
   ·cases h
  ·cases h
 ·
  rename_i t x i ho;have hx:=hR.ev x;have hi:=hR.ev i;split at h
  ·rename_i s k n hs hp hq
   rw [hp] at hx;rw [hq] at hi;have hi:a.eval i=.int k n:=hi;have hx:a.eval x=.string (bs s):=hx;injection h with h1 h2;subst h2;subst h1;obtain ⟨c1,c2⟩:=hc;have hlt:n.toNat<(s:List UInt8).length:=toNat_lt c1 c2;refine q0h (s:=Instr.index t (a.eval x) (a.eval i)) (by simp only [execOp,ho]) ⟨_,q29,λw' _=>?_⟩
   rw [hx,hi,run_index_string w' t (bs s) k n hs];have hcc:0≤n∧n<((bs s).size:Int):=⟨c1,c2⟩;rw [dif_pos hcc];have:(bs s)[n.toNat]'(by rw [q3j];exact hlt)=(s:List UInt8).getD n.toNat 0:=by
    rw [Qm,Qp hlt,QE];rfl
   rw [this]
  ·cases h
 ·
  rename_i t x lo hi ho;have hx:=hR.ev x;split at h
  ·rename_i s l hs hp hl
   rw [hp] at hx;have hx:a.eval x=.string (bs s):=hx;split at h
   ·rename_i hh hhi
    injection h with h1 h2;subst h2;subst h1;refine q0h (s:=We t (a.eval x) (lo.map a.eval) (hi.map a.eval) (Option.map a.eval none)) (by simp only [execOp,ho]) ⟨_,qhg,λw' _=>?_⟩
    rw [hx,run_sliceAt_string _ _ _ _ _ _ hs];have hb:=qf6 (P:=P) hR (isS:=false) (cap:=(bs s).size) hl hhi hc (QL _) w';have e:((bs s).extract l.toNat hh.toNat)=bs ((s.take hh.toNat).drop l.toNat):=by
     rw [q1i,q2h,List.drop_take]
    simp only [Instr.slice,Q8,run_underlying hs,Q0,QW,Option.isSome_none,Qv,if_false,Qk];rw [show (Instr.sliceBounds false (bs s).size (bs s).size (lo.map a.eval) (hi.map a.eval) none).run P w'=.ok (l.toNat,hh.toNat,(bs s).size) w' from hb];simp only [Q0];rw [e]
   ·cases h
  ·rename_i e fs xs l hs hp hl
   rw [hp] at hx;split at h
   ·rename_i hh hhi
    cases hz:(q15 P e==some fs.size)
    ·rw [hz] at h;cases h
    ·rw [hz] at h
     have hz:q15 P e=some fs.size:=by simpa using hz
     injection h with h1 h2;subst h2;subst h1;obtain ⟨A,c,hxe,hcap,hrow⟩:=hx;have hb:=λw'=>qf6 (P:=P) hR (isS:=true) (cap:=c) hl hhi hc hcap w'
     obtain ⟨c1,c2,c3⟩:=hc;have hel:P.elem t=e:=by unfold Program.elem;rw [hs]
     have hs':P.underlying t=some (.slice (P.elem t)):=by rw [hel];exact hs
     have hlen:(((xs:List fs.Pay).take hh.toNat).drop l.toNat).length=hh.toNat-l.toNat:=by
      rw [List.length_drop,List.length_take,Nat.min_eq_left (by omega)]
     refine q0h (s:=We t (a.eval x) (lo.map a.eval) (hi.map a.eval) (Option.map a.eval none)) (by simp only [execOp,ho]) ⟨sliced A l.toNat hh.toNat c fs.size,?_,λw' _=>?_⟩
     ·refine ⟨_,c-l.toNat,by unfold sliced;rw [hlen],by rw [hlen];omega,λhpos=>?_⟩
      have hpos:0<(((xs:List fs.Pay).take hh.toNat).drop l.toNat).length:=hpos;rw [hlen] at hpos;obtain ⟨g,off,hA,hg,hsg,hrow⟩:=hrow (by omega)
      refine ⟨g,off+l.toNat*fs.size,?_,hg,hsg,λi y hy=>?_⟩
      ·rw [if_neg (by omega),hA,Qt,add_plain2]
      ·have hy:(((xs:List fs.Pay).take hh.toNat).drop l.toNat)[i]? = some y:=hy
       rw [List.getElem?_drop,List.getElem?_take] at hy;split at hy
       ·have:=hrow _ _ hy
        rw [QP] at this
        rwa [Qb]
       ·cases hy
     ·rw [hxe,run_sliceAt_slice w' t _ _ _ _ hs',QW,run_slice_any w' t A _ c hs',hb w',Q0,hel,q1m hz,Q0]
   ·cases h
  ·cases h
 ·
  rename_i x i ho;have hx:=hR.ev x;split at h
  ·rename_i vs hp
   rw [hp] at hx;obtain ⟨us,hxe,hsz,hr⟩:=hx;split at h
   ·rename_i y hy
    injection h with h1 h2;subst h2;obtain ⟨u,hu,hru⟩:=hr i y hy;exact q0h (s:=Wh (a.eval x) i) (by simp only [execOp,ho]) ⟨u,hru,λw' _=>by rw [hxe];simp [Wh,hu]⟩
   ·cases h
  ·cases h
 ·
  rename_i t parts ho;split at h
  ·rename_i fields cs hs hz
   split at h
   ·rename_i places hpl
    split at h
    ·rename_i l hl
     injection h with h1 h2;subst h2;obtain ⟨it,z,hit,hzz,hcs⟩:=q8j (κ:=κ) (w:=w) hz;obtain ⟨us,hfill,hus⟩:=q7x hR places (places.toArray[·]?) (λi q hq=>by simpa using hq) parts.toList cs l z.cells hl hcs
     refine q0h (s:=Instr.build t (parts.map λ(i,x)=>(i,a.eval x))) (by simp only [execOp,ho]) ⟨.agg us,⟨us,rfl,hus⟩,λw' _=>?_⟩
     refine run_build w' t _ us ?_;unfold Program.built;rw [hit,hs];unfold placesOf at hpl;simp only [hzz,hpl];rw [← hfill]
     congr 1
     simp
    ·cases h
   ·cases h
  ·cases h
 ·
  rename_i args argTypes ho;split at h
  ·rename_i x t hx ht
   have ha:args=#[x]:=by cases args;simp_all
   have hT:argTypes=#[t]:=by cases argTypes;simp_all
   subst ha;subst hT;have he:execOp a.eval o=(do let x ← Qq #[t] o.type #[a.eval x];pure (Qy x)):=by
    simp [execOp,ho,resolve,invoke,builtin]
   split at h
   ·rename_i hu
    obtain ⟨u,hr,hw⟩:=q96 hR (ty:=o.type) h (hR.ev x) hu (λ_=>rfl) (λh=>by cases h)
    exact q0h he ⟨u,hr,λw' _=>hw w'⟩
   ·rename_i e hu
    obtain ⟨u,hr,hw⟩:=q96 hR (ty:=o.type) h (hR.ev x) hu (λh=>by cases h) (λ_=>⟨e,rfl⟩)
    exact q0h he ⟨u,hr,λw' _=>hw w'⟩
   ·rename_i k e hu
    have hxe:=hR.ev x;split at h
    ·rename_i hp
     rw [hp] at hxe;have hxe:a.eval x=.map none:=hxe;injection h with h1 h2;subst h2;exact q0h he ⟨_,q29,λw' _=>by rw [hxe];simp [Qq,run_underlying hu,goInt]⟩
    ·rename_i m hp
     rw [hp] at hxe;have hxe:a.eval x=.map (some (κ.μ m)):=hxe;split at h
     ·rename_i y hy
      injection h with h1 h2;subst h2;obtain ⟨es,clock,hg,hE,_⟩:=hR.ext.map m y hy;refine q0h he ⟨.int .i64 es.size,?_,λw' hb=>?_⟩
      ·rw [hE.size];exact q29
      ·have hg':w'.heap[κ.μ m]? = some (.map es clock):=(hb.block _ (Qa.1 hg).1).trans hg
       rw [hxe];simp [Qq,run_underlying hu,Qd hg',goInt]
     ·cases h
    ·rename_i kk q hp
     rw [hp] at hxe;have hxe:a.eval x=.map (κ.μ.inn (kk.kv q)):=hxe;split at h
     ·rename_i n hn
      injection h with h1 h2;subst h2;unfold St.innerLen at hn;split at hn
      ·rename_i z hz
       split at hn
       ·rename_i ee _
        subst ee;injection hn with hn;subst hn;have hN:=qdt hR hz;cases hk:z.at_ q with
        | none =>
         refine q0h he ⟨_,q29,λw' _=>?_⟩
         rw [hxe,hN.miss q hk];simp [Qq,run_underlying hu,goInt]
        | some l =>
         obtain ⟨i,x0,q1,q2,q3⟩:=get_mem _ _ _ _ hk;obtain ⟨g,es,clock,q4,hg,hE,_⟩:=hN.inn i x0 q1;refine q0h he ⟨.int .i64 es.size,?_,λw' hb=>?_⟩
         ·rw [hE.size,show x0.2=l from q3];exact q29
         ·have hg':w'.heap[g]? = some (.map es clock):=(hb.block _ (Qa.1 hg).1).trans hg
          rw [hxe,q4r q2,q4];simp [Qq,run_underlying hu,Qd hg',goInt]
       ·cases hn
      ·cases hn
     ·cases h
    ·cases h
   ·cases h
  ·cases h
 ·
  rename_i f first captured ho
  split at h
  ·rename_i ps qs h1 h2
   injection h with _ h;subst h;have e1:=qbz hR _ _ h1;have e2:=qbz hR _ _ h2;refine q0h (s:=QZ (.func f) (first.map a.eval) (captured.map a.eval)) (by simp only [execOp,ho]) ⟨_,?_,λw' _=>rfl⟩
   show Value.func _ _ _=.func _ (((ps++qs).take ps.length).map κ.ptr).toArray (((ps++qs).drop ps.length).map κ.ptr).toArray;rw [List.take_left,List.drop_left,← e1,← e2,← QS,← QS,Qg,Qg]
  ·split at h
   ·rename_i x hf hc
    split at h
    ·rename_i z hz
     injection h with _ h;subst h;have hfa:first=#[x]:=by rw [← Qg (xs:=first),hf]
     have hca:captured=#[]:=by rw [← Qg (xs:=captured),hc]
     subst hfa;subst hca;exact q0h (s:=QZ (.func f) (#[x].map a.eval) ((#[]:Array Operand).map a.eval)) (by simp only [execOp,ho]) ⟨.func (.func f) #[a.eval x] #[],⟨a.eval x,rfl,bndOf_sound hz (hR.ev x)⟩,λw' _=>by rw [show (#[x]:Array Operand).map a.eval=#[a.eval x] by simp,show (#[]:Array Operand).map a.eval=#[] by simp];rfl⟩
    ·cases h
   ·cases h
 ·
  rename_i t x i ok ho;split at h
  ·cases h
  ·rename_i kt et m hu hp
   have hxe:=hR.ev x;rw [hp] at hxe;have hxe:a.eval x=.map (some (κ.μ m)):=hxe;split at h
   ·rename_i y hy
    cases hb:y.t.beq t
    ·rw [hb] at h;cases h
    ·rw [hb] at h
     obtain ⟨es,clock,hg,hE,_⟩:=hR.ext.map m y hy;obtain ⟨u,hu2,hw⟩:=mapGot_sound hu hE hg h (hR.ev i);exact q0h (s:=Qe t (a.eval x) (a.eval i) ok) (by simp only [execOp,ho]) ⟨u,hu2,λw' hb=>by rw [hxe];exact hw w' hb⟩
   ·cases h
  ·rename_i kt et hu hp
   have hxe:=hR.ev x;rw [hp] at hxe;have hxe:a.eval x=.map (some κ.μ.ν):=hxe;split at h
   ·rename_i y c hy hc
    split at h
    ·rename_i k hk
     cases hb:y.t.beq t&&(q26 P kt y.kk&&(qdx P et&&!ok))
     ·rw [hb] at h;cases h
     ·rw [hb] at h
      injection h with h1 h2;subst h2;simp only [Q7,Qw] at hb;obtain ⟨_,b2,b3,rfl⟩:=hb;have hi:=hR.ev i;rw [hc] at hi;have hie:a.eval i=y.kk.kv k:=q2i (q23 b2) (q2y hk hi);exact q0h (s:=Qe t (a.eval x) (a.eval i) false) (by simp only [execOp,ho]) ⟨.map (κ.μ.inn (y.kk.kv k)),rfl,λw' hb=>by
       rw [hxe,hie];exact qks hu (qdt hR hy) b2 b3 k w' hb⟩
    ·cases h
   ·cases h
  ·rename_i kt et hu hp
   have hxe:=hR.ev x;rw [hp] at hxe;have hxe:a.eval x=.map (some κ.μ.φ):=hxe;split at h
   ·rename_i y c hy hc
    split at h
    ·rename_i k hk
     cases hb:y.t.beq t&&(q26 P kt y.kk&&(q5g P et&&(!ok&&y.pend.isNone)))
     ·rw [hb] at h;cases h
     ·rw [hb] at h
      injection h with h1 h2;subst h2;simp only [Q7,Qw,Option.isNone_iff_eq_none] at hb;obtain ⟨_,b2,b3,rfl,b5⟩:=hb;have hi:=hR.ev i;rw [hc] at hi;have hie:a.eval i=y.kk.kv k:=q2i (q23 b2) (q2y hk hi);have hF:=hR.ext.fam y hy;exact q0h (s:=Qe t (a.eval x) (a.eval i) false) (by simp only [execOp,ho]) ⟨κ.μ.fin (y.kk.kv k),⟨rfl,hF.q67 (λq l e=>by rw [b5] at e;cases e) k⟩,λw' hb=>by
       rw [hxe,hie];exact ql9 hu hF b2 b3 k w' hb⟩
    ·cases h
   ·cases h
  ·cases h
 ·
  rename_i x ho;have hxe:=hR.ev x;split at h
  ·rename_i i hp
   rw [hp] at hxe;have hxe:a.eval x=.pointer (some ⟨κ.μ.θ i,0,none⟩):=hxe;split at h
   ·rename_i z hz
    split at h
    ·rename_i e hcur
     injection h with h1 h2;subst h2;obtain ⟨_,hI⟩:=hR.ext.iter i z hz;rcases hI with ⟨a',b',s',q1,q2⟩ | ⟨bm,es,clock,seen,c0,q1,q2,q3,q4,q5,q6,q7,q8⟩
     ·rw [q2.2] at hcur;cases hcur
     ·obtain ⟨me,s',r1,r2,r3,r4,r5⟩:=q8 e hcur
      subst r2;subst r3;refine q0h (s:=Instr.entry (a.eval x)) (by simp only [execOp,ho]) ⟨.tuple #[me.key,me.val],⟨_,rfl,rfl,λj c hc=>?_⟩,λw' hb=>?_⟩
      ·rcases j with _ | _ | j
       ·injection hc with hc;subst hc;exact ⟨_,rfl,r4⟩
       ·injection hc with hc;subst hc;exact ⟨_,rfl,r5⟩
       ·cases hc
      ·rw [hxe]
       exact run_entry_at w' _ bm _ _ es _ me ((hb.block _ (Qa.1 q3).1).trans q3) ((hb.block _ (Qa.1 q2).1).trans q2) r1 q6
    ·cases h
   ·cases h
  ·cases h
 ·
  rename_i args argTypes ho;split at h
  ·rename_i x y hx
   have ha:args=#[x,y]:=by cases args;simp_all
   subst ha;have he:execOp a.eval o=(do let x ← Builtin.min_ argTypes o.type #[a.eval x,a.eval y];pure (Qy x)):=by
    simp [execOp,ho,resolve,invoke,builtin]
   split at h
   ·rename_i k n k' m hxa hyb
    injection h with h1 h2;subst h2;have hxe:=hR.ev x;have hye:=hR.ev y;rw [hxa] at hxe;rw [hyb] at hye;have hxe:a.eval x=.int k n:=hxe;have hye:a.eval y=.int k' m:=hye;refine q0h he ⟨.int k (min n m),q29,λw' _=>?_⟩
    rw [hxe,hye,run_min_int2,min_if]
   ·cases h
  ·cases h
 ·
  rename_i args argTypes ho;split at h
  ·rename_i x y hx
   have ha:args=#[x,y]:=by cases args;simp_all
   subst ha;have he:execOp a.eval o=(do let x ← Builtin.max_ argTypes o.type #[a.eval x,a.eval y];pure (Qy x)):=by
    simp [execOp,ho,resolve,invoke,builtin]
   split at h
   ·rename_i k n k' m hxa hyb
    injection h with h1 h2;subst h2;have hxe:=hR.ev x;have hye:=hR.ev y;rw [hxa] at hxe;rw [hyb] at hye;have hxe:a.eval x=.int k n:=hxe;have hye:a.eval y=.int k' m:=hye;refine q0h he ⟨.int k (max n m),q29,λw' _=>?_⟩
    rw [hxe,hye,run_max_int2,max_if]
   ·cases h
  ·cases h
 ·
  rename_i t x ho;split at h
  ·rename_i fields cs hu hp
   have hxe:=hR.ev x;rw [hp] at hxe;obtain ⟨us,hxe,hus⟩:=hxe;split at h
   ·rename_i z hz
    injection h with h1 h2;subst h2;obtain ⟨e1,e2⟩:=qht cs z hz;exact q0h (s:=QH t (a.eval x)) (by simp only [execOp,ho]) ⟨.iface t (.agg us),⟨us.toList,rfl,by rw [Qn,hus.1];exact e1,λf y hy=>by
     obtain ⟨u,h1,h2⟩:=hus.2.1 f _ (e2 f y hy);exact ⟨u,by rw [Qi];exact h1,h2⟩⟩,λw' _=>by rw [hxe];simp [QH,run_underlying hu]⟩
   ·cases h
  ·cases h
 ·cases h
end
end R
namespace R
section
variable {w0:Base} {w w':World} {κ:Cx} {st:St} {a:Act} {P:Program}
def pureLen (P:Program):List TypeId→Bool
 | [t]=>match P.underlying t with
  | some (.map _ _)=>false
  | _=>true
 | _=>false
def q7m (P:Program):Op→Bool
 | .move _ | .assign _ | .pick _ _ _ | .binOp _ _ _ _ _ | .unOp _ _ _ | .convert _ _ _ | .indexAddr _ _ _=>true
 | .call { callee:=.builtin .len,argTypes,.. }=>pureLen P argTypes.toList
 | _=>false
theorem q58 {P:Program} {p q:Op} {C:Prop} (h:q7m P p=true) (e:p=q) (hq:q7m P q=false):C:=by
 rw [e,hq] at h;cases h
def YieldsP (P:Program) (κ:Cx) (w:World) (a:Act) (o:Oper) (v:AV):Prop:=∃ u,v.Rep κ w u∧∀ w':World,True→(execOp a.eval o).run P w'=.ok (.value u) w'
theorem q3e {o:Oper} {v:AV} {s:Sem Value} (he:execOp a.eval o=(do let x ← s;pure (Qy x))) (h:∃ u,v.Rep κ w u∧∀ w':World,True→s.run P w'=.ok u w'):YieldsP P κ w a o v:=by
 obtain ⟨u,hu,hw⟩:=h;exact ⟨u,hu,λw' hb=>by rw [he];exact vrun (hw w' hb)⟩
theorem rop_pure (hR:Rel w0 κ st a w) {o:Oper} {c:Prop} {v:AV} (hpu:q7m P o.op=true) (h:rop P st o.op=.ok c v) (hc:c):YieldsP P κ w a o v:=by
 unfold rop at h;split at h
 ·rename_i x ho
  injection h with h1 h2;subst h2;exact ⟨_,hR.ev x,λw' _=>by simp [execOp,ho]⟩
 ·rename_i x ho
  injection h with h1 h2;subst h2;exact ⟨_,hR.ev x,λw' _=>by simp [execOp,ho]⟩
 ·
  rename_i q x y ho;split at h
  ·rename_i b hq
   injection h with h1 h2;subst h2;have hb:=hR.ev q;rw [hq] at hb;have hb:a.eval q=.bool b:=hb;refine ⟨_,qgc (hR.ev x) (hR.ev y),λw' _=>?_⟩
   simp [execOp,ho,hb,asBool]
  ·cases h
 ·exact q58 hpu (by assumption) rfl
 ·exact q58 hpu (by assumption) rfl
 ·
  rename_i op t x y ty ho;cases hnil:qdo P t st op (st.ev x) (st.ev y) with
  | some b =>
   rw [hnil] at h;injection h with h1 h2;subst h2;exact q3e (s:=(do eqGuard op t x y (a.eval x) (a.eval y);binOp op t (a.eval x) (a.eval y):Sem Value)) (by simp only [execOp,ho]) ⟨_,q5i,λw' _=>qh1 hR hnil⟩
  | none =>
  rw [hnil] at h;obtain ⟨u,hu,hw⟩:∃ u,v.Rep κ w u∧∀ w',(do eqGuard op t x y (a.eval x) (a.eval y);binOp op t (a.eval x) (a.eval y):Sem Value).run P w'=.ok u w':=by
   by_cases h2:twoOp op x=true
   ·rw [h2] at h
    exact qgr h2 h (hR.ev y) y
   rw [QR] at h2;rw [h2] at h;cases hab:qbl (st.ev x) (st.ev y)
   ·rw [hab] at h
    exact qh2 (P:=P) (t:=t) (by intro hb;split at hb <;> first | assumption | cases hb) h hc (hR.ev x) (hR.ev y) x y
   ·rw [hab] at h
    exact qfz hab h (hR.ev x) (hR.ev y) x y
  exact q3e (s:=(do eqGuard op t x y (a.eval x) (a.eval y);binOp op t (a.eval x) (a.eval y):Sem Value)) (by simp only [execOp,ho]) ⟨u,hu,λw' _=>hw w'⟩
 ·
  rename_i op t x ho;have hx:=hR.ev x;split at h
  ·rename_i b hp
   rw [hp] at hx;have hx:a.eval x=.bool b:=hx;injection h with h1 h2;subst h2;exact q3e (s:=QD .not (a.eval x)) (by simp only [execOp,ho]) ⟨_,q5i,λw' _=>by rw [hx];rfl⟩
  ·rename_i n hp
   rw [hp] at hx;have hx:a.eval x=.int .i64 n:=hx;injection h with h1 h2;subst h2;subst h1;exact q3e (s:=QD .neg (a.eval x)) (by simp only [execOp,ho]) ⟨_,q29,λw' _=>by
    rw [hx];have:=qcw hc;simp [QD,Op.intArith,this]⟩
  ·cases h
 ·
  rename_i src dst x ho;have hx:=hR.ev x;split at h
  ·rename_i d k k' n hs hd hp
   rw [hp] at hx;have hx:a.eval x=.int k' n:=hx;injection h with h1 h2;subst h2;exact q3e (s:=convert src dst (a.eval x)) (by simp only [execOp,ho]) ⟨_,q29,λw' _=>by
    rw [hx];simp [convert,run_underlying hs,run_underlying hd,Conv.intToInt]⟩
  ·rename_i d s hs hd hp
   rw [hp] at hx;have hx:a.eval x=.string (bs s):=hx;injection h with h1 h2;subst h2;exact q3e (s:=convert src dst (a.eval x)) (by simp only [execOp,ho]) ⟨_,qhg,λw' _=>by
    rw [hx];simp [convert,run_underlying hs,run_underlying hd]⟩
  ·cases h
 ·exact q58 hpu (by assumption) rfl
 ·exact q58 hpu (by assumption) rfl
 ·
  rename_i t x i ho;have hx:=hR.ev x;have hi:=hR.ev i;split at h
  ·rename_i e fs xs k n hs hp hq
   rw [hp] at hx;rw [hq] at hi;have hi:a.eval i=.int k n:=hi;cases hz:(q15 P e==some fs.size)
   ·rw [hz] at h;cases h
   ·rw [hz] at h
    have hz:q15 P e=some fs.size:=by simpa using hz
    injection h with h1 h2;subst h2;subst h1;obtain ⟨c1,c2⟩:=hc;obtain ⟨A,c,hxe,hcap,hrow⟩:=hx;have hlt:n.toNat<(xs:List fs.Pay).length:=toNat_lt c1 c2;obtain ⟨g,off,rfl,hg,hsg,hrow⟩:=hrow (by omega)
    have hge:(xs:List fs.Pay)[n.toNat]? = some ((xs:List fs.Pay).getD n.toNat fs.dflt):=by
     rw [Qm,Qp hlt,QE]
    refine q3e (s:=Q3 t (a.eval x) (a.eval i)) (by simp only [execOp,ho]) ⟨_,⟨g,off+n.toNat*fs.size,rfl,hg,hsg,hrow _ _ hge⟩,λw' _=>?_⟩
    rw [hxe,hi];have hc2:0≤n∧n<((xs:List fs.Pay).length:Int):=⟨c1,c2⟩;simp [Q3,run_underlying hs,asIntOf,hc2,q1m hz,add_plain2]
  ·rename_i e r k n hs hp hq
   rw [hp] at hx;rw [hq] at hi;have hi:a.eval i=.int k n:=hi;split at h
   ·rename_i y hy
    cases hz:(q15 P e==some y.fs.size)
    ·rw [hz] at h;cases h
    ·rw [hz] at h
     have hz:q15 P e=some y.fs.size:=by simpa using hz
     injection h with h1 h2;subst h2;subst h1;obtain ⟨c1,c2⟩:=hc;have hlt:n.toNat<y.xs.length:=toNat_lt c1 c2;obtain ⟨hxe,_⟩:=hx;obtain ⟨cells,hown,_⟩:=hR.row r y hy;obtain ⟨A,c',he⟩:=q2k hown;have hA:∃ g,A=some ⟨g,0,none⟩:=by
      rcases hown.2 with ⟨_,h0⟩ | ⟨g,cap,cur,hv,_⟩
      ·omega
      ·rw [hv] at he;injection he with he;exact ⟨g,he.symm⟩
     obtain ⟨g,rfl⟩:=hA;refine q3e (s:=Q3 t (a.eval x) (a.eval i)) (by simp only [execOp,ho]) ⟨_,⟨g,y.xs.length,c',he,hlt,rfl⟩,λw' _=>?_⟩
     rw [hxe,hi,he];have hc2:0≤n∧n<((y.xs.length:Nat):Int):=⟨c1,c2⟩;simp [Q3,run_underlying hs,asIntOf,hc2,q1m hz,add_plain2]
   ·cases h
  ·rename_i e kk q k n hs hp hq
   rw [hp] at hx;rw [hq] at hi;have hi:a.eval i=.int k n:=hi;split at h
   ·rename_i y hy
    cases hz:(q15 P e==some y.1.size)
    ·rw [hz] at h;cases h
    ·rw [hz] at h
     have hz:q15 P e=some y.1.size:=by simpa using hz
     injection h with h1 h2;subst h2;subst h1;obtain ⟨c1,c2⟩:=hc;have hlt:n.toNat<y.2.length:=toNat_lt c1 c2;obtain ⟨hxe,_⟩:=hx;obtain ⟨et,cells,hown,_⟩:=qeu hR hy;obtain ⟨A,c',he⟩:=q2k hown;have hA:∃ g,A=some ⟨g,0,none⟩:=by
      rcases hown.2 with ⟨_,h0⟩ | ⟨g,cap,cur,hv,_⟩
      ·omega
      ·rw [hv] at he;injection he with he;exact ⟨g,he.symm⟩
     obtain ⟨g,rfl⟩:=hA;refine q3e (s:=Q3 t (a.eval x) (a.eval i)) (by simp only [execOp,ho]) ⟨_,⟨g,y.2.length,c',he,hlt,rfl⟩,λw' _=>?_⟩
     rw [hxe,hi,he];have hc2:0≤n∧n<((y.2.length:Nat):Int):=⟨c1,c2⟩;simp [Q3,run_underlying hs,asIntOf,hc2,q1m hz,add_plain2]
   ·cases h
  ·rename_i e cls k n hs hp hq
   rw [hp] at hx;rw [hq] at hi;have hi:a.eval i=.int k n:=hi;cases hz:(q15 P e==some 1)
   ·rw [hz] at h;cases h
   ·rw [hz] at h
    have hz:q15 P e=some 1:=by simpa using hz
    injection h with h1 h2;subst h2;subst h1;obtain ⟨c1,c2⟩:=hc;have hlt:n.toNat<cls.length:=toNat_lt c1 c2;obtain ⟨g,cap,hxe,hcap,hat⟩:=hx;refine q3e (s:=Q3 t (a.eval x) (a.eval i)) (by simp only [execOp,ho]) ⟨_,⟨g,rfl,⟨c1,hlt⟩,hat⟩,λw' _=>?_⟩
    rw [hxe,hi];have hc2:0≤n∧n<((cls.length:Nat):Int):=⟨c1,c2⟩;simp [Q3,run_underlying hs,asIntOf,hc2,q1m hz,add_plain2]
  ·rename_i e r sz q k n hs hp hq
   rw [hp] at hx;rw [hq] at hi;have hi:a.eval i=.int k n:=hi;split at h
   ·rename_i y hy
    cases hz:(q15 P e==some y.fs.size)&&sz.beq y.fs.size
    ·rw [hz] at h;cases h
    ·rw [hz] at h
     rw [Q7] at hz;obtain ⟨hz,hz2⟩:=hz;obtain rfl:=Q9 hz2;have hz:q15 P e=some y.fs.size:=by simpa using hz
     injection h with h1 h2;subst h2;subst h1;obtain ⟨c1,c2⟩:=hc;have hlt:n.toNat<y.xs.length-q:=toNat_lt c1 c2;obtain ⟨g,m,c',hρ,hqm,hxe⟩:=hx;obtain ⟨cells,hown,_⟩:=hR.row r y hy;obtain ⟨A,c'',he⟩:=q2k hown;have hρ2:=hρ;rw [he] at hρ2;injection hρ2 with e1 e2 e3;subst e2;refine q3e (s:=Q3 t (a.eval x) (a.eval i)) (by simp only [execOp,ho]) ⟨_,⟨g,y.xs.length,c',hρ,by omega,rfl⟩,λw' _=>?_⟩
     rw [hxe,hi];have hc2:0≤n∧n<((y.xs.length-q:Nat):Int):=⟨c1,c2⟩;simp [Q3,run_underlying hs,asIntOf,hc2,q1m hz,add_plain2,QP]
   ·cases h
  ·cases h
 ·exact q58 hpu (by assumption) rfl
 ·exact q58 hpu (by assumption) rfl
 ·exact q58 hpu (by assumption) rfl
 ·exact q58 hpu (by assumption) rfl
 ·
  rename_i args argTypes ho;split at h
  ·rename_i x t hx ht
   have ha:args=#[x]:=by cases args;simp_all
   have hT:argTypes=#[t]:=by cases argTypes;simp_all
   subst ha;subst hT;have he:execOp a.eval o=(do let x ← Qq #[t] o.type #[a.eval x];pure (Qy x)):=by
    simp [execOp,ho,resolve,invoke,builtin]
   split at h
   ·rename_i hu
    obtain ⟨u,hr,hw⟩:=q96 hR (ty:=o.type) h (hR.ev x) hu (λ_=>rfl) (λh=>by cases h)
    exact q3e he ⟨u,hr,λw' _=>hw w'⟩
   ·rename_i e hu
    obtain ⟨u,hr,hw⟩:=q96 hR (ty:=o.type) h (hR.ev x) hu (λh=>by cases h) (λ_=>⟨e,rfl⟩)
    exact q3e he ⟨u,hr,λw' _=>hw w'⟩
   ·rename_i k e hu
    rw [ho] at hpu;have hpu:(match P.underlying t with | some (.map _ _)=>false | _=>true)=true:=hpu
    rw [hu] at hpu;cases hpu
   ·cases h
  ·cases h
 ·exact q58 hpu (by assumption) rfl
 ·exact q58 hpu (by assumption) rfl
 ·exact q58 hpu (by assumption) rfl
 ·exact q58 hpu (by assumption) rfl
 ·exact q58 hpu (by assumption) rfl
 ·exact q58 hpu (by assumption) rfl
 ·cases h
def q9n (P:Program) (p:Op):Bool:=q7m P p||(match p with
 | .nilCheck _=>true
 | .fieldAddr _ _ _=>true
 | _=>false)
theorem rop_pure2 (hR:Rel w0 κ st a w) {o:Oper} {c:Prop} {v:AV} (hpu:q9n P o.op=true) (h:rop P st o.op=.ok c v) (hc:c):YieldsP P κ w a o v:=by
 unfold q9n at hpu;rw [Bool.or_eq_true] at hpu;rcases hpu with hpu | hpu
 ·exact rop_pure hR hpu h hc
 split at hpu
 ·
  rename_i x ho;rw [ho] at h;have hx:=hR.ev x;unfold rop at h;dsimp only at h;split at h
  ·rename_i b off hp
   rw [hp] at hx;have hx:a.eval x=_:=hx;injection h with h1 h2;subst h2;exact ⟨a.eval x,hx,λw' _=>by simp [execOp,ho,hx]⟩
  ·rename_i fs p f hp
   rw [hp] at hx;injection h with h1 h2;subst h2;obtain ⟨g,o',hxe,hh⟩:=hx;exact ⟨a.eval x,⟨g,o',hxe,hh⟩,λw' _=>by simp [execOp,ho,hxe]⟩
  ·rename_i r sz i f hp
   rw [hp] at hx;injection h with h1 h2;subst h2;obtain ⟨g,n,c',hv,hi,hxe⟩:=hx;exact ⟨a.eval x,⟨g,n,c',hv,hi,hxe⟩,λw' _=>by simp [execOp,ho,hxe]⟩
  ·rename_i kk k sz i f hp
   rw [hp] at hx;injection h with h1 h2;subst h2;obtain ⟨g,n,c',hv,hi,hxe⟩:=hx;exact ⟨a.eval x,⟨g,n,c',hv,hi,hxe⟩,λw' _=>by simp [execOp,ho,hxe]⟩
  ·cases h
 ·
  rename_i s x f ho;rw [ho] at h;unfold rop at h;dsimp only at h;split at h
  ·rename_i fields hs
   split at h
   ·rename_i fd hf
    have hx:=hR.ev x;cases hsz:q15 P fd.type with
    | none=>rw [hsz] at h;cases h
    | some n =>
     rw [hsz] at h;dsimp only at h;cases hz:Nat.blt 0 n
     ·rw [hz] at h;cases h
     rw [hz] at h;have hn:n≠0:=by rw [Nat.blt_eq] at hz;omega
     have fin:∀ g o,a.eval x=.pointer (some ⟨g,o,none⟩)→∀ w',(Qc s (a.eval x) f).run P w'=.ok (.pointer (some ⟨g,o+fd.offset,none⟩)) w':=λg o he w'=>by
      rw [he];have hpl:(fieldPlace ⟨g,o,none⟩ fd).run P w'=.ok ⟨g,o+fd.offset,none⟩ w':=by
       simp [fieldPlace,q1m hsz,hn,add_plain2]
      simp [Qc,run_underlying hs,hf,QY,hpl]
     dsimp only [cond_true] at h;split at h
     ·rename_i b off hp
      rw [hp] at hx;injection h with h1 h2;subst h2;exact q3e (s:=Qc s (a.eval x) f) (by simp only [execOp,ho]) ⟨_,rfl,λw' _=>fin _ _ hx w'⟩
     ·rename_i fs p g hp
      rw [hp] at hx;injection h with h1 h2;subst h2;obtain ⟨b,o',hxe,hh⟩:=hx;refine q3e (s:=Qc s (a.eval x) f) (by simp only [execOp,ho]) ⟨_,⟨b,o',rfl,hh⟩,λw' _=>?_⟩
      have:=fin _ _ hxe w'
      rwa [Qb] at this
     ·rename_i r sz i g hp
      rw [hp] at hx;injection h with h1 h2;subst h2;obtain ⟨b,n,c',hv,hi,hxe⟩:=hx;refine q3e (s:=Qc s (a.eval x) f) (by simp only [execOp,ho]) ⟨_,⟨b,n,c',hv,hi,rfl⟩,λw' _=>?_⟩
      have:=fin _ _ hxe w'
      rwa [Qb] at this
     ·rename_i kk k sz i g hp
      rw [hp] at hx;injection h with h1 h2;subst h2;obtain ⟨b,n,c',hv,hi,hxe⟩:=hx;refine q3e (s:=Qc s (a.eval x) f) (by simp only [execOp,ho]) ⟨_,⟨b,n,c',hv,hi,rfl⟩,λw' _=>?_⟩
      have:=fin _ _ hxe w'
      rwa [Qb] at this
     ·cases h
   ·cases h
  ·cases h
 ·cases hpu
end
end R
end Go.Proofs.YtlmbfijhkcmncaaGreatDoor

/-
  Regions, branches, loops: what 'vc' asks is enough.
-/
import Derived.Test.YtlmbfijhkcmncaaGreatDoorPH
import Derived.OrdersHeld
open Go.Region renaming wanted→Q0,binds→Q9,ready→Qb,noSelect_spec→Qm,noSelect→Qn,free_spec→Qw,lexB→QV
open Nat renaming eq_of_beq_eq_true→Q3,mul_le_mul_right→Qg,le_refl→Qz,blt_eq→QC,min_eq_left→QG,blt→QO,add_mul→QU
open Bool renaming and_eq_true→Q7,or_eq_true→Qc,false_or→QL
open List renaming length_take→Q8,getElem?_append_right→Qd,getElem?_append_left→Qf,mem_of_find?_eq_some→Qh,length_cons→Qk,all_eq_true→Ql,length_append→Qp,mem_singleton→Qq,getElem?_take→Qr,mem_range→Qu,replicate→Qv,find?_some→Qy,getElem?_map→QA,length_map→QF,mem_cons→QK,foldl_cons→QZ,length_set→W9
open Array renaming getD_eq_getD_getElem?→Qa,getElem?_eq_some_iff→Qe,replicate→Qo,setIfInBounds_comm→Qs,toList_map→QD,toArray_toList→QJ,any_eq_true→QR,getElem_mem→QS
open Go renaming undef→Qi
open Option.some renaming inj→Qj
open Go.Oper renaming wp→Qt,upon→QN,upon_enter→QY
open Go.Act renaming eval_put→Qx
open Go.Sem renaming run_bind→QE
open Go.Builtin renaming clear_→QH,zeroCells→QP
open Go.Result renaming andThen_ok→QQ
open Go.Deferred renaming ofValue→QW
open Option renaming map_some→Wd
open Go.RowKit.Below renaming refl→We
open Ne renaming symm→Wh
set_option linter.unusedVariables false
namespace Go.Proofs.YtlmbfijhkcmncaaGreatDoor
open Go.RowKit
namespace R
section
variable {w0:Base} {w w':World} {κ:Cx} {st:St} {a:Act} {P:Program} {cons:List Con}
theorem q5e (hR:Rel w0 κ st a w) (ops:List Oper) (o:Oper):match q2m ops st o with
  | .run=>Q0 o (yielded ops.toArray a.tmps)=true
  | .skip=>Q0 o (yielded ops.toArray a.tmps)=false
  | .part t b want=>Q0 o (yielded ops.toArray a.tmps)=(b==want)∧a.tmps.getD t Qi=.bool b
  | .no=>True:=by
 unfold q2m;cases hg:o.guard with
 | none=>simp [Q0,hg]
 | some q =>
  obtain ⟨j,want⟩:=q;dsimp only;cases ht:(ops[j]?).bind (·.dst) with
  | none=>trivial
  | some t =>
   have hy:yielded ops.toArray a.tmps j=match a.tmps[t]? with
     | some (.bool b)=>some b
     | _=>none:=by
    unfold yielded;have:((ops.toArray[j]?).bind (·.dst))=some t:=by simpa using ht
    rw [this];rfl
   have henv:=hR.env t;dsimp only;split <;> rename_i heq
   ·split at heq <;> first | cases heq | skip
   ·
    split at heq <;> first | cases heq | skip
    rename_i e;rw [e] at henv;have henv:a.tmps.getD t Qi=Qi:=henv;have hn:yielded ops.toArray a.tmps j=none:=by
     rw [hy];cases hx:a.tmps[t]? with
     | none=>rfl
     | some v =>
      rw [Qa,hx] at henv;have henv:v=Qi:=henv;subst henv;rfl
    simp [Q0,hg,hn]
   ·rename_i t' b want'
    split at heq <;> first | cases heq | skip
    rename_i e;rw [e] at henv;have henv:a.tmps.getD t Qi=.bool b:=henv;have hn:yielded ops.toArray a.tmps j=some b:=by
     rw [hy];cases hx:a.tmps[t]? with
     | none =>
      rw [Qa,hx] at henv;cases henv
     | some v =>
      rw [Qa,hx] at henv;have henv:v=.bool b:=henv;subst henv;rfl
    refine ⟨?_,henv⟩;simp [Q0,hg,hn]
   ·trivial
def FitsP (w0:Base) (KP:Cell→St→Prop) (Q:Exit→Act→World→Prop):Prop:=∀ (κ:Cx) (st:St) (a:Act) (w:World) (c:Cell) (v:Value),KP c st→Rel w0 κ st a w→c.Rep κ w v→Q (.panic [{ v:=v,recovered:=false }]) a w
structure Agree (w0:Base) (C:Nat→Option (Code×Code)):Prop where
 code:∀ j c,C j=some c→w0.code j=c∧w0.js j
 rd:∀ l,w0.rd=some l→w0.bzs l
def q34 (P:Program) (C:Nat→Option (Code×Code)) (H:Inl):Prop:=∀ (w0:Base),Agree w0 C→∀ (f:FuncId),f<1000000000→∀ (xs:List Comp) (off:Nat) (st:St) (K:List Comp→St→Prop) (KP:Cell→St→Prop) (κ:Cx) (a:Act) (w:World) (vs:List Value),H f xs off st K KP→Rel w0 κ st a w→q0f κ w xs vs →
 (∃ fn, P.funcs[f]? = some fn ∧ (fn.name == "runtime.NumGoroutine") = false ∧ fn.body.isNone = false) ∧
 Calls P f vs.toArray w λe w'=>(∃ (v:Value) (rs:List Comp) (κ':Cx) (st':St),e=.returned v∧K rs st'∧Rel w0 κ' st' a w'∧(retAV rs).Rep κ' w' v) ∨
  ∃ (c:Cell) (v:Value) (κ':Cx) (st':St),e=.panicked [{ v:=v,recovered:=false }]∧KP c st'∧Rel w0 κ' st' a w'∧c.Rep κ' w' v
theorem noInl_ok {C:Nat→Option (Code×Code)}:q34 P C noInl:=λ_ _ _ _ _ _ _ _ _ _ _ _ _ h=>h.elim
def q50 (P:Program) (C:Nat→Option (Code×Code)) (H:Inl):Prop:=∀ (w0:Base),Agree w0 C→∀ (j:Nat) (xs:List Comp) (off:Nat) (st:St) (K:List Comp→St→Prop) (KP:Cell→St→Prop) (κ:Cx) (a:Act) (w:World) (vs:List Value),H (1000000000+j) xs off st K KP→Rel w0 κ st a w→q0f κ w xs vs →
 ∃ r:Loop,w.heap[κ.μ.lam j]? = some (.loop r)∧vs.length=r.params.size∧∀ n,RoundIn Fence.wide n P (κ.μ.lam j) r.fn ((r.params.zip vs.toArray).foldl (λtmps (t,a)=>tmps.setIfInBounds t a) r.tmps) r.assign r.body w
  λe w'=>∃ (v:Value) (rs:List Comp) (κ':Cx) (st':St),e=.returned v∧K rs st'∧Rel w0 κ' st' a w'∧(retAV rs).Rep κ' w' v
theorem noInl_yld {C:Nat→Option (Code×Code)}:q50 P C noInl:=λ_ _ _ _ _ _ _ _ _ _ _ _ h=>h.elim
theorem q7t (hR:Rel w0 κ st a w):∀ (l:List Operand) (xs:List Comp),q5n (evs st l)=some xs→q0f κ w xs (l.map a.eval)
 | [],xs,h=>by
  injection h with h;subst h;exact ⟨rfl,λi c h=>by cases h⟩
 | x::r,xs,h=>by
  have hx:=hR.ev x;have h:q5n (st.ev x::evs st r)=some xs:=h;cases e:st.ev x with
  | tup ys=>rw [e] at h;cases h
  | c y =>
   rw [e] at h hx;have h:(q5n (evs st r)).map (y::·)=some xs:=h;cases hr:q5n (evs st r) with
   | none=>rw [hr] at h;cases h
   | some ys =>
    rw [hr] at h;injection h with h;subst h;have ih:=q7t hR r ys hr;refine ⟨by rw [List.map_cons,Qk,Qk,ih.1],λi c hc=>?_⟩
    cases i with
    | zero=>injection hc with hc;subst hc;exact ⟨_,rfl,hx⟩
    | succ i=>exact ih.2 i c hc
theorem q0f.append {xs ys:List Comp} {us vs:List Value} (h:q0f κ w xs us) (h':q0f κ w ys vs):q0f κ w (xs++ys) (us++vs):=by
 refine ⟨by rw [Qp,Qp,h.1,h'.1],λi c hc=>?_⟩
 by_cases hi:i<xs.length
 ·rw [Qf hi] at hc
  rw [Qf (by rw [h.1];exact hi)]
  exact h.2 i c hc
 ·rw [Qd (by omega)] at hc
  rw [Qd (by rw [h.1];omega),h.1]
  exact h'.2 _ c hc
theorem q81 (ps:List (Nat×Nat)):q0f κ w (q8i ps) (ps.map κ.ptr):=by
 refine ⟨by rw [QF];show _=(ps.map _).length;rw [QF],λi c hc=>?_⟩
 have hc:(ps.map λp=>Comp.one (.ptr p.1 p.2))[i]? = some c:=hc
 rw [QA] at hc;cases hp:ps[i]? with
 | none=>rw [hp] at hc;cases hc
 | some p =>
  rw [hp] at hc;injection hc with hc;subst hc;exact ⟨κ.ptr p,by rw [QA,hp];rfl,rfl⟩
theorem vin_sound {C:Nat→Option (Code×Code)} {H:Inl} (hH:q34 P C H) (hag:Agree w0 C) {KP:Cell→St→Prop} {Q:Exit→Act→World→Prop} (hP:FitsP w0 KP Q) {o:Oper} {f:FuncId} (hf0:f<1000000000) {ah be:List (Nat×Nat)} {x:Operand} {args:Array Operand} {ts:Array TypeId} (ho:o.op=.call { callee:=.value x,args,argTypes:=ts })
  (hx:a.eval x=.func (.func f) (ah.map κ.ptr).toArray (be.map κ.ptr).toArray) {K:St→Prop} {next:Act→World→Prop} (hR:Rel w0 κ st a w) (h:vin H KP f ah be o st args.toList K) (hF:Fits w0 K next):o.wp P a w next Q:=by
 unfold vin at h;split at h
 ·rename_i xs hxs
  cases hd:q0a st o.dst
  ·rw [hd] at h;exact h.elim
  ·rw [hd] at h
   have hargs:=((q81 (κ:=κ) (w:=w) ah).append (q7t hR _ _ hxs)).append (q81 be);obtain ⟨⟨fn,hf,hn,hb⟩,hcall⟩:=hH w0 hag f hf0 _ _ st _ KP κ a w _ h hR hargs;have hn' : ¬ fn.name = "runtime.NumGoroutine" := by simpa using hn
   have hb':¬ fn.body=none:=λh=>by rw [h] at hb;cases hb
   have hrun:(execOp a.eval o).run P w=.ok (.enter f (ah.map κ.ptr++args.toList.map a.eval++be.map κ.ptr).toArray) w:=by
    have e:(args.map a.eval)=(args.toList.map a.eval).toArray:=by rw [← QD,QJ]
    have e2:(ah.map κ.ptr).toArray++args.map a.eval++(be.map κ.ptr).toArray=(ah.map κ.ptr++args.toList.map a.eval++be.map κ.ptr).toArray:=by rw [e];simp
    rw [← e2];simp [execOp,ho,resolve,hx,QW,invoke,callFunc,hf,hn',hb']
   unfold Qt;rw [hrun,QY];refine hcall.mono ?_;rintro e w' (⟨v,rs,κ',st',rfl,hK,hR',hr⟩ | ⟨c,v,κ',st',rfl,hK,hR',hr⟩)
   ·have hn:st'.n=st.n:=hR'.size.symm.trans hR.size
    exact hF κ' _ _ _ hK (hR'.put (by unfold q0a at hd ⊢;rw [hn];exact hd) hr)
   ·exact hP κ' st' a w' c v hK hR' hr
 ·exact h.elim
theorem compsRepCons {x:Comp} {u:Value} {xs:List Comp} {vs:List Value} (h:x.Rep κ w u) (hs:q0f κ w xs vs):q0f κ w (x::xs) (u::vs):=by
 refine ⟨by rw [Qk,Qk,hs.1],λi c hc=>?_⟩
 cases i with
 | zero=>injection hc with hc;subst hc;exact ⟨_,rfl,h⟩
 | succ i=>exact hs.2 i c hc
theorem qk9:∀ (ks:Kds) (p:ks.Pay) (us:List Value),ks.RepU w κ.S p us→q06 κ w (ks.cells p) us.toArray
 | .one k,p,us,⟨v,h1,h2⟩=>by
  subst h1;refine ⟨rfl,λi c hc=>?_,λi u hu=>?_⟩
  ·cases i with
   | zero=>injection hc with hc;subst hc;exact ⟨v,rfl,h2⟩
   | succ i=>cases hc
  ·cases i with
   | zero=>injection hu with hu;subst hu;exact Kd.Rep.q67 h2
   | succ i=>cases hu
 | .cons k ks,p,us,⟨v,r,h1,h2,h3⟩=>by
  subst h1;have ih:=qk9 ks p.2 r h3;refine ⟨?_,λi c hc=>?_,λi u hu=>?_⟩
  ·have:=ih.1
   show (v::r).toArray.size=(Kds.cells _ p.2).length+1;rw [← this];simp
  ·cases i with
   | zero=>injection hc with hc;subst hc;exact ⟨v,rfl,h2⟩
   | succ i =>
    obtain ⟨y,hy,hr⟩:=ih.2.1 i c hc;exact ⟨y,by simpa using hy,hr⟩
  ·cases i with
   | zero=>injection hu with hu;subst hu;exact Kd.Rep.q67 h2
   | succ i=>exact ih.2.2 i u (by simpa using hu)
theorem repU_comp (x:CK) (p:x.Pay) (u:Value) (h:x.RepU w κ.S p u):(x.comp p).Rep κ w u:=by
 cases x with
 | one k=>exact h
 | agg ks=>obtain ⟨us,rfl,h⟩:=h;exact ⟨_,rfl,qk9 ks p us h⟩
theorem vinB_sound {C:Nat→Option (Code×Code)} {H:Inl} (hH:q34 P C H) (hag:Agree w0 C) {KP:Cell→St→Prop} {Q:Exit→Act→World→Prop} (hP:FitsP w0 KP Q) {o:Oper} {f:FuncId} (hf0:f<1000000000) {u:Value} {y:Comp} (hy:y.Rep κ w u) {x:Operand} {args:Array Operand} {ts:Array TypeId} (ho:o.op=.call { callee:=.value x,args,argTypes:=ts })
  (hx:a.eval x=.func (.func f) #[u] #[]) {K:St→Prop} {next:Act→World→Prop} (hR:Rel w0 κ st a w) (h:vinB H KP f y o st args.toList K) (hF:Fits w0 K next):o.wp P a w next Q:=by
 unfold vinB at h;split at h
 ·rename_i xs hxs
  cases hd:q0a st o.dst
  ·rw [hd] at h;exact h.elim
  ·rw [hd] at h
   have hargs:=compsRepCons hy (q7t hR _ _ hxs);obtain ⟨⟨fn,hf,hn,hb⟩,hcall⟩:=hH w0 hag f hf0 _ _ st _ KP κ a w _ h hR hargs;have hn' : ¬ fn.name = "runtime.NumGoroutine" := by simpa using hn
   have hb':¬ fn.body=none:=λh=>by rw [h] at hb;cases hb
   have hrun:(execOp a.eval o).run P w=.ok (.enter f (u::args.toList.map a.eval).toArray) w:=by
    have e:(args.map a.eval)=(args.toList.map a.eval).toArray:=by rw [← QD,QJ]
    have e2:#[u]++args.map a.eval++#[]=(u::args.toList.map a.eval).toArray:=by rw [e];simp
    rw [← e2];simp [execOp,ho,resolve,hx,QW,invoke,callFunc,hf,hn',hb']
   unfold Qt;rw [hrun,QY];refine hcall.mono ?_;rintro e w' (⟨v,rs,κ',st',rfl,hK,hR',hr⟩ | ⟨c,v,κ',st',rfl,hK,hR',hr⟩)
   ·have hn:st'.n=st.n:=hR'.size.symm.trans hR.size
    exact hF κ' _ _ _ hK (hR'.put (by unfold q0a at hd ⊢;rw [hn];exact hd) hr)
   ·exact hP κ' st' a w' c v hK hR' hr
 ·exact h.elim
theorem allP_at {p:Nat→Prop}:∀ {l:List Nat},allP l p→∀ i∈l,p i
 | [],_,i,hi=>by cases hi
 | [k],h,i,hi=>by obtain rfl:=Qq.1 hi;exact h
 | k::u::r,h,i,hi=>by
  obtain ⟨h1,h2⟩:p k∧allP (u::r) p:=h;rcases QK.1 hi with rfl | hi
  ·exact h1
  ·exact allP_at h2 i hi
theorem q97:∀ {l:List Cell} {cls:List (FuncId×Nat×List (Nat×Nat))},qb8 l=some cls→l=cls.map λcl=>.clo cl.1 cl.2.1 cl.2.2
 | [],cls,h=>by injection h with h;subst h;rfl
 | .clo f k ps::r,cls,h=>by
  have h:(match qb8 r with
   | some l=>some ((f,k,ps)::l)
   | none=>none)=some cls:=h
  split at h
  ·rename_i l hl
   injection h with h;subst h;rw [q97 hl];rfl
  ·cases h
 | .any::_,_,h | .undef::_,_,h | .nil::_,_,h | .val _ _::_,_,h | .ptr _ _::_,_,h | .ep _ _ _::_,_,h | .own _::_,_,h | .bnd _ _ _::_,_,h | .rp _ _ _ _::_,_,h | .sfx _ _ _::_,_,h | .fn _::_,_,h | .fsl _::_,_,h | .fel _ _::_,_,h | .nilm::_,_,h | .mref _::_,_,h | .dyn _ _ _::_,_,h | .nref::_,_,h | .iref _ _::_,_,h | .iter _::_,_,h | .kseq _ _::_,_,h | .fref::_,_,h | .fent _ _::_,_,h | .fp _ _ _ _ _::_,_,h | .fnew::_,_,h | .yld _::_,_,h | .fstamp::_,_,h=>by cases h
theorem vfsl_sound {o:Oper} {t e:TypeId} {len:Nat} {parts:Array (Nat×Operand)} (ho:o.op=.buildSlice t len parts) (hu:P.underlying t=some (.slice e)) {K:St→Prop} {next:Act→World→Prop} {Q:Exit→Act→World→Prop} (hR:Rel w0 κ st a w) (h:vfsl P e len parts o st K) (hF:Fits w0 K next):o.wp P a w next Q:=by
 unfold vfsl at h;split at h
 ·rename_i size bytes d hinfo hd
  split at h
  ·rename_i l hl
   split at h
   ·rename_i cls hcls
    cases hb:size.beq 1&&(cls.length.beq len&&(QO d st.n&&Nat.ble (len*size) 16777216))
    ·rw [hb] at h;exact h.elim
    ·rw [hb] at h
     simp only [Q7] at hb;obtain ⟨b1,b2,b3,b4⟩:=hb;have hs1:=Q3 b1;have hl1:=Q3 b2;have hdn:d<st.n:=by rw [QC] at b3;exact b3
     obtain ⟨us,hrun,hus⟩:=run_buildSlice hu hinfo hR hl (Nat.le_of_ble_eq_true b4);have hbel:Below w.heap.size w (w.alloc (.cells us e)):=q02 (q03 w) _;have hR1:=hR.later hbel;have hsz:(w.alloc (.cells us e)).heap.size=w.heap.size+1:=Array.size_push _;have hlen:us.size=len:=by
      rw [hus.1,q97 hcls,QF,hl1]
     unfold Qt;have hrun':(execOp a.eval o).run P w=.ok (.value (.slice (some ⟨w.heap.size,0,none⟩) len len)) (w.alloc (.cells us e)):=by
      simp only [execOp,ho];rw [QE,hrun];rfl
     rw [hrun'];show next (a.put o.dst _) _;rw [hd];refine hF _ _ _ _ h (hR1.set hdn (v:=.c (.one (.fsl cls))) ⟨w.heap.size,len,by rw [hl1],by rw [hl1];exact Qz _,by rw [hsz];omega,.inr ⟨Qz _,by rw [hsz];omega⟩,λi cl hi=>?_⟩)
     have hci:l[i]? = some (.clo cl.1 cl.2.1 cl.2.2):=by rw [q97 hcls,QA,hi];rfl
     obtain ⟨u,hu1,hu2⟩:=hus.2.1 i _ hci;have hu2:u=κ.clo cl:=hu2;unfold World.cell?;rw [heap_alloc_new w _];exact hu1.trans (congrArg some hu2)
   ·exact h.elim
  ·exact h.elim
 ·exact h.elim
theorem vfel_sound {o:Oper} {t:TypeId} {x:Operand} {cls:List (FuncId×Nat×List (Nat×Nat))} {n:Int} (ho:o.op=.load t x) (hx:st.ev x=.c (.one (.fel cls n))) {K:St→Prop} {next:Act→World→Prop} {Q:Exit→Act→World→Prop} (hR:Rel w0 κ st a w) (h:vfel P t cls n o st K) (hF:Fits w0 K next):o.wp P a w next Q:=by
 unfold vfel at h;cases hb:(q7g P t==some false)&&q0a st o.dst
 ·rw [hb] at h;exact h.elim
 ·rw [hb] at h
  rw [Q7] at hb;have ha:q7g P t=some false:=by simpa using hb.1
  have hxr:=hR.ev x;rw [hx] at hxr;obtain ⟨g,hxe,⟨hn0,hlt⟩,hg,hS,hat⟩:=hxr;have hcl:=List.getElem?_eq_getElem hlt;have hi:=allP_at h n.toNat (Qu.2 hlt);rw [hcl] at hi;have hK:=hi (by omega)
  have hcell:=hat n.toNat _ hcl;have hld:(Go.loadVar t ⟨g,n.toNat,none⟩).run P w=.ok (κ.clo cls[n.toNat]) w:=by simp [Go.loadVar,q46 ha,hcell]
  have hrun:(execOp a.eval o).run P w=.ok (.value (κ.clo cls[n.toNat])) w:=by
   simp only [execOp,ho];rw [hxe,QE,show (Instr.loadAt t (.pointer (some ⟨g,n.toNat,none⟩))).run P w=_ from hld];rfl
  unfold Qt;rw [hrun];show next (a.put o.dst _) _;exact hF κ _ _ _ hK (hR.put hb.2 (v:=.c (.one (.clo _ _ _))) rfl)
theorem qki:∀ (vs:List Value) (off k:Nat) (cells:List Value),off+k+vs.length=cells.length→(vs.zipIdx k).foldl (λcs (c,j)=>cs.set (off+j) c) cells=cells.take (off+k)++vs
 | [],off,k,cells,h=>by
  rw [List.length_nil] at h;rw [List.zipIdx_nil,List.foldl_nil,List.append_nil,List.take_of_length_le (by omega)]
 | v::vs,off,k,cells,h=>by
  rw [Qk] at h;rw [List.zipIdx_cons,QZ,qki vs off (k+1) (cells.set (off+k) v) (by rw [W9];omega)]
  have hlt:off+k<cells.length:=by omega
  rw [show off+(k+1)=off+k+1 by omega,List.take_succ_eq_append_getElem (by rw [W9];exact hlt),List.getElem_set_self,List.take_set_of_le (Qz _),List.append_assoc]
  rfl
theorem clear_row {base r i:Nat} {g n cap:Nat} {y:Row} {cells:List Value} {t ty:TypeId} {it:TypeInfo} {zero:Value} {zc:List Cell} {z:y.fs.Pay} (hρ:κ.ρ r=.slice (some ⟨g,0,none⟩) n cap) (hin:i<n)
  (hown:w.ownsRow base y.e y.fs.size (κ.ρ r) y.xs.length cells) (hcells:q0k κ w y.fs y.xs cells) (ht:P.underlying t=some (.slice y.e)) (hz:zeroCells P y.e=some zc) (hi:P.info? y.e=some it) (hz0:it.zero=some zero) (hzr:q1e y.fs zc=some z) (hsz:zero.cells.size=y.fs.size) (hone:∀ v∈zero.cells.toList,v.oneCell'=true) :
  ∃ w' cells',(QH #[t] ty #[.slice (some ⟨g,i*y.fs.size,none⟩) (n-i) (cap-i)]).run P w=.ok (.tuple #[]) w'∧Only g w w'∧w'.ownsRow base y.e y.fs.size (κ.ρ r) (y.xs.take i++Qv (y.xs.length-i) z).length cells'∧q0k κ w y.fs (y.xs.take i++Qv (y.xs.length-i) z) cells':=by
 rw [hρ] at hown;obtain ⟨hcl,ho⟩:=hown;rcases ho with ⟨h0,_⟩ | ⟨g',cap',cur,hv,hb,hg,hnc,hcm,hcs,htake⟩
 ·cases h0
 injection hv with e1 e2 e3;injection e1 with e1;injection e1 with e1;subst e1;subst e3;generalize hS:y.fs.size=S at *
 generalize hvs:(madeCells zero.cells ((n-i)*S)).toList=vs;have hvl:vs.length=(n-i)*S:=by rw [← hvs,Array.length_toList,size_madeCells]
 have hni:i*S+(n-i)*S=n*S:=by rw [← QU];congr 1;omega
 have hcl:cells.length=n*S:=by rw [hcl,e2]
 have hmul2:n*S≤cap*S:=Qg _ (by omega)
 have hvone:∀ v∈vs,v.oneCell'=true:=λv hv=>by
  rw [← hvs] at hv;unfold madeCells at hv;rw [QD] at hv;obtain ⟨j,hj,rfl⟩:=List.mem_map.1 hv;have hj':j<(n-i)*S:=by simpa using hj
  have hS0:0<S:=by
   rcases Nat.eq_zero_or_pos S with h | h
   ·rw [h,Nat.mul_zero] at hj';omega
   ·exact h
  have hlt:j % zero.cells.size<zero.cells.size:=Nat.mod_lt _ (by rw [hsz];exact hS0)
  rw [getElem!_pos zero.cells _ hlt];exact hone _ (by simp)
 obtain ⟨w',h1,h2,h3⟩:=q7b (P:=P) vs (i*S) 0 cur w hg hvone (λ_=>by rw [hvl,hcs];omega)
 have hfold:=qki vs (i*S) 0 cells (by rw [hvl,hcl];omega)
 rw [Nat.add_zero] at hfold;refine ⟨w',cells.take (i*S)++vs,?_,h2,?_,?_⟩
 ·have hzv:(zeroValue y.e).run P w=.ok zero w:=by simp [zeroValue,typeInfo,hi,hz0]
  have hmk:(QP zero.cells (n-i)).toList=vs:=by
   rw [← hvs];unfold QP madeCells;rw [hsz]
  obtain ⟨m,hm⟩:∃ m,n-i=m+1:=⟨n-i-1,by omega⟩
  rw [hm] at hmk ⊢;simp [QH,run_underlying ht,hzv,hmk,h1]
 ·have hlen:(y.xs.take i++Qv (y.xs.length-i) z).length=y.xs.length:=by
   rw [Qp,Q8,List.length_replicate];omega
  rw [hlen,hρ];refine ⟨by rw [Qp,Q8,hvl,hcl,← e2];omega,.inr ⟨g,cap,_,by rw [e2],hb,h3,hnc,hcm,by rw [qel];exact hcs,?_⟩⟩
  rw [← hfold];exact qen _ _ _ _ _ htake
 ·have hmade:=qjz (κ:=κ) (w:=w) (n:=n-i) hz hi hz0 hzr (by rw [hS];exact hsz)
  rw [hS,hvs] at hmade;have hil:i≤y.xs.length:=by omega
  intro j x hj f q hq;have hf:f<S:=by rw [← hS];exact Kds.q7w y.fs x f q hq
  rw [hS];by_cases hji:j<i
  ·rw [Qf (by rw [Q8];omega),Qr,if_pos hji] at hj
   obtain ⟨u,hu,hr⟩:=hcells j x hj f q hq;rw [hS] at hu;have hjs:j*S+f<i*S:=by
    have:(j+1)*S≤i*S:=Qg _ hji
    rw [QU,Nat.one_mul] at this;omega
   refine ⟨u,?_,hr⟩;rw [Qf (by rw [Q8,hcl];omega),Qr,if_pos hjs]
   exact hu
  ·rw [Qd (by rw [Q8];omega),Q8,QG hil] at hj
   rw [show y.xs.length-i=n-i by omega] at hj
   obtain ⟨u,hu,hr⟩:=hmade (j-i) x hj f q hq;rw [hS] at hu;refine ⟨u,?_,hr⟩;have hji':i*S≤j*S:=Qg _ (by omega)
   rw [Qd (by rw [Q8,hcl];omega),Q8,hcl,QG (by omega)]
   rw [← hu]
   congr 1
   rw [Nat.sub_mul];omega
theorem vclear_sound {o:Oper} {args:Array Operand} {argTypes:Array TypeId} (ho:o.op=.call { callee:=.builtin .clear,args:=args,argTypes:=argTypes }) {K:St→Prop} {next:Act→World→Prop} {Q:Exit→Act→World→Prop} (hR:Rel w0 κ st a w) (h:vclear P args.toList argTypes.toList o st K) (hF:Fits w0 K next):o.wp P a w next Q:=by
 unfold vclear at h;split at h
 ·rename_i x t hargs htypes hd
  split at h
  ·rename_i r sz i e hx hu
   split at h
   ·rename_i y zc size bytes hy hz hinfo
    split at h
    ·rename_i z hzr
     cases hb:y.e.beq e&&(sz.beq y.fs.size&&size.beq y.fs.size)
     ·rw [hb] at h;exact h.elim
     rw [hb] at h;have hK:K (st.putRow r ⟨y.e,y.fs,y.xs.take i++Qv (y.xs.length-i) z⟩):=h;simp only [Q7] at hb;obtain ⟨b1,b2,b3⟩:=hb;obtain rfl:=Q3 b1;obtain rfl:=Q3 b2;have b3:=Q3 b3;obtain ⟨it,zero,hi,hz0,hzs,hsz,hby,e4,e5,hone⟩:=q6v hinfo;have hxr:=hR.ev x;rw [hx] at hxr;obtain ⟨g,n,c,hρ,hin,hxe⟩:=hxr;obtain ⟨cells,hown,hcells,hnn⟩:=hR.row r y hy;obtain ⟨w',cells',h1,h2,h3,h4⟩:=clear_row (P:=P) (t:=t) (ty:=o.type) hρ hin hown hcells hu hz hi hz0 hzr (by rw [hzs,e4,b3]) (λv hv=>Ql.1 hone v hv)
     have hR':=hR.storeRow (y:=⟨y.e,y.fs,y.xs.take i++Qv (y.xs.length-i) z⟩) hy (g:=g) (by rw [hρ];rfl) h2 h3 h4
     have ha:args=#[x]:=by cases args;simp_all
     have hT:argTypes=#[t]:=by cases argTypes;simp_all
     subst ha;subst hT;have hrun:(execOp a.eval o).run P w=.ok (.value (.tuple #[])) w':=by
      have he:execOp a.eval o=(do let x ← QH #[t] o.type #[a.eval x];pure (Next.value x)):=by
       simp [execOp,ho,resolve,invoke,builtin]
      rw [he,hxe,QE,h1];rfl
     unfold Qt;rw [hrun];show next (a.put o.dst _) _;rw [hd];exact hF κ _ _ _ hK hR'
    ·exact h.elim
   ·exact h.elim
  ·exact h.elim
 ·exact h.elim
theorem vcut_sound {o:Oper} {t:TypeId} {x:Operand} {lo hi:Option Operand} {r:Nat} (ho:o.op=.slice t x lo hi none) (hx:st.ev x=.c (.one (.own r))) {K:St→Prop} {next:Act→World→Prop} {Q:Exit→Act→World→Prop} (hR:Rel w0 κ st a w) (h:vcut P t r lo hi o st K) (hF:Fits w0 K next):o.wp P a w next Q:=by
 unfold vcut at h;split at h
 ·rename_i e y d hu hy hd
  cases hb:y.e.beq e&&((q15 P e==some y.fs.size)&&QO d st.n)
  ·rw [hb] at h;exact h.elim
  rw [hb] at h;simp only [Q7,QC] at hb;obtain ⟨b1,b2,hdn⟩:=hb;obtain rfl:=Q3 b1;have hz:q15 P y.e=some y.fs.size:=by simpa using b2
  have hxr:=hR.ev x;rw [hx] at hxr;obtain ⟨hxe,hsol⟩:=hxr;obtain ⟨cells,hown,hcells,hnn⟩:=hR.row r y hy;obtain ⟨A,c,he⟩:=q2k hown;have hel:P.elem t=y.e:=by unfold Program.elem;rw [hu]
  have hs':P.underlying t=some (.slice (P.elem t)):=by rw [hel];exact hu
  have hcap:y.xs.length≤c:=by
   rcases hown.2 with ⟨hv,h0⟩ | ⟨g,cap,cur,hv,_,_,hnc,_⟩
   ·rw [h0];exact Nat.zero_le _
   ·rw [hv] at he;injection he with _ _ e3;rw [← e3];exact hnc
  have hexec:∀ (l h:Int),lowOf st lo=some l→q8n st y.xs.length hi=some h→0≤l∧l≤h∧h≤(y.xs.length:Int)→(execOp a.eval o).run P w=.ok (.value (sliced A l.toNat h.toNat c y.fs.size)) w:=λl h hl hh hc=>by
   have hbr:=qf6 (P:=P) hR (isS:=true) (cap:=c) hl hh hc hcap w;simp only [execOp,ho];rw [QE,hxe,he,run_sliceAt_slice w t _ _ _ _ hs',Option.map_none,run_slice_any w t A _ c hs',hbr,QQ,hel,q1m hz,QQ];rfl
  rw [cond_true] at h;cases lo with
  | some v0 =>
   cases hi with
   | some v1=>exact h.elim
   | none =>
   have h:(match lowOf st (some v0) with
    | some l=>(0≤l∧l<(y.xs.length:Int))∧K (st.set d (.c (.one (.sfx r y.fs.size l.toNat))))
    | none=>False):=h
   cases hl:lowOf st (some v0) with
   | none=>rw [hl] at h;exact h.elim
   | some l =>
    rw [hl] at h;obtain ⟨⟨c1,c2⟩,hK⟩:=h;have hrun:=hexec l y.xs.length hl rfl ⟨c1,by omega,Int.le_refl _⟩
    obtain ⟨g,cap,rfl,rfl⟩:∃ g cap,A=some ⟨g,0,none⟩∧c=cap:=by
     rcases hown.2 with ⟨hv,h0⟩ | ⟨g,cap,cur,hv,_⟩
     ·omega
     ·rw [hv] at he;injection he with e1 _ _;exact ⟨g,c,e1.symm,rfl⟩
    have hle:l.toNat<y.xs.length:=by omega
    unfold Qt;rw [hrun];show next (a.put o.dst _) _;rw [hd];refine hF κ _ _ _ hK (hR.set hdn (v:=.c (.one (.sfx r y.fs.size l.toNat))) ?_);refine ⟨g,y.xs.length,c,he,hle,?_⟩;unfold sliced;rw [show ((y.xs.length:Int)).toNat=y.xs.length from rfl,if_neg (by omega),Wd,add_plain2,Nat.zero_add]
  | none =>
   cases hi with
   | none=>exact h.elim
   | some v1 =>
   have h:(match q8n st y.xs.length (some v1) with
    | some q=>(0≤q∧q≤(y.xs.length:Int))∧K ((st.setRow r ⟨y.e,y.fs,y.xs.take q.toNat⟩).set d (.c (.one (.own r))))
    | none=>False):=h
   cases hh:q8n st y.xs.length (some v1) with
   | none=>rw [hh] at h;exact h.elim
   | some h0 =>
    rw [hh] at h;obtain ⟨⟨c1,c2⟩,hK⟩:=h;generalize h0=h at *
    have hrun:=hexec 0 h rfl hh ⟨Int.le_refl _,c1,c2⟩;have hht:h.toNat≤y.xs.length:=by omega
    have hval:sliced A (0:Int).toNat h.toNat c y.fs.size=.slice A h.toNat c:=by
     unfold sliced;show Value.slice (if c=0 then A else A.map (·.add (0*y.fs.size))) (h.toNat-0) (c-0)=_
     rw [Nat.zero_mul,Nat.sub_zero,Nat.sub_zero];rcases hown.2 with ⟨hv,h0⟩ | ⟨g,cap,cur,hv,_⟩
     ·rw [hv] at he;injection he with e1 _ _;subst e1;split <;> rfl
     ·rw [hv] at he;injection he with e1 _ _;subst e1
      split
      ·rfl
      ·rw [Wd,add_plain2]
    rw [hval] at hrun;have hown':w.ownsRow w0.n0 y.e y.fs.size (.slice A h.toNat c) (y.xs.take h.toNat).length (cells.take (h.toNat*y.fs.size)):=by
     have hm:h.toNat*y.fs.size≤y.xs.length*y.fs.size:=Qg _ hht;have hlt:(y.xs.take h.toNat).length=h.toNat:=by rw [Q8];omega
     rw [hlt];refine ⟨by rw [Q8,hown.1];omega,?_⟩
     rcases hown.2 with ⟨hv,h0⟩ | ⟨g,cap,cur,hv,q1,q2,q3,q4,q5,q6⟩
     ·rw [hv] at he;injection he with e1 _ e3;subst e1;subst e3
      exact .inl ⟨by rw [show h.toNat=0 by omega],by omega⟩
     ·rw [hv] at he;injection he with e1 _ e3;subst e1;subst e3
      exact .inr ⟨g,cap,cur,rfl,q1,q2,by omega,q4,q5,by rw [← q6,List.take_take,QG hm]⟩
    have hcells':q0k κ w y.fs (y.xs.take h.toNat) (cells.take (h.toNat*y.fs.size)):=λj x hj f q hq=>by
     rw [Qr] at hj;split at hj
     ·rename_i hjl
      obtain ⟨u,hu',hr⟩:=hcells j x hj f q hq;have hf:=Kds.q7w y.fs x f q hq;have hjs:j*y.fs.size+f<h.toNat*y.fs.size:=by
       have:(j+1)*y.fs.size≤h.toNat*y.fs.size:=Qg _ hjl
       rw [QU,Nat.one_mul] at this;omega
      exact ⟨u,by rw [Qr,if_pos hjs];exact hu',hr⟩
     ·cases hj
    have hR2:=Rel.setRow (r:=r) (x:=⟨y.e,y.fs,y.xs.take h.toNat⟩) (v':=.slice A h.toNat c) hR (row:=(κ.ρ r).ownBlock) (w':=w) ⟨rfl,rfl,rfl,Qz _,λ_ _ _=>rfl⟩ (λg hg=>⟨hg,by rw [hy];rfl⟩) hown' hcells' (λg hg=>.inl (by
     have:(κ.ρ r).ownBlock=some g:=by rw [he];cases A <;> exact hg
     exact ⟨this,this⟩))
    unfold Qt;rw [hrun];show next (a.put o.dst _) _;rw [hd];exact hF _ _ _ _ hK (hR2.set hdn (v:=.c (.one (.own r))) (by show _=(if r=r then _ else _)∧_;rw [if_pos rfl];exact ⟨rfl,qbc hown'⟩))
 ·exact h.elim
theorem qeh (hcons:∀ c∈cons,c.Holds P) {C:Nat→Option (Code×Code)} {H:Inl} (hH:q34 P C H) (hag:Agree w0 C) {KP:Cell→St→Prop} {Q:Exit→Act→World→Prop} (hP:FitsP w0 KP Q) (o:Oper) (κ:Cx) (st:St) (a:Act) (w:World) (K:St→Prop) (next:Act→World→Prop) (h:vopI P cons H KP o st K) (hR:Rel w0 κ st a w) (hF:Fits w0 K next):o.wp P a w next Q:=by
 unfold vopI at h;split at h
 ·rename_i x args ts ho
  have hx:=hR.ev x;split at h
  ·rename_i f hf
   rw [hf] at hx;have hx:a.eval x=.func (.func f) #[] #[]:=hx;split at h
   ·exact q5a hcons hR h hF
   ·cases hb:QO f 1000000000
    ·rw [hb] at h;exact h.elim
    ·rw [hb] at h
     exact vin_sound hH hag hP (by rw [QC] at hb;exact hb) ho (ah:=[]) (be:=[]) hx hR h hF
  ·rename_i f k ps hf
   rw [hf] at hx;cases hb:QO f 1000000000
   ·rw [hb] at h;exact h.elim
   ·rw [hb] at h
    exact vin_sound hH hag hP (by rw [QC] at hb;exact hb) ho hx hR h hF
  ·rename_i f y p hf
   rw [hf] at hx;obtain ⟨u,hxe,hu⟩:=hx;cases hb:QO f 1000000000
   ·rw [hb] at h;exact h.elim
   ·rw [hb] at h
    exact vinB_sound hH hag hP (by rw [QC] at hb;exact hb) (repU_comp y p u hu) ho hxe hR h hF
  ·exact h.elim
 ·rename_i x ho
  have hx:=hR.ev x;split at h
  ·rename_i t ks p hd
   rw [hd] at hx;have hx':=hx;obtain ⟨us,hxe,_⟩:=hx';have hrun:(execOp a.eval o).run P w=.halt (.panic (a.eval x)) w:=by
    simp [execOp,ho,hxe,Instr.panic,goPanic]
   unfold Qt;rw [hrun,Oper.upon_panic];exact hP κ st a w _ _ h hR hx
  ·exact h.elim
 ·rename_i t len parts ho
  split at h
  ·rename_i e hu
   split at h
   ·exact vfsl_sound ho hu hR h hF
   ·exact q5a hcons hR h hF
  ·exact q5a hcons hR h hF
 ·rename_i t x ho
  split at h
  ·rename_i cls n hx
   exact vfel_sound ho hx hR h hF
  ·exact q5a hcons hR h hF
 ·rename_i t x lo hi ho
  split at h
  ·rename_i r hx
   exact vcut_sound ho hx hR h hF
  ·exact q5a hcons hR h hF
 ·rename_i args argTypes ho
  exact vclear_sound ho hR h hF
 ·exact q5a hcons hR h hF
theorem vopJ_sound (hcons:∀ c∈cons,c.Holds P) {C:Nat→Option (Code×Code)} {H:Inl} (hH:q34 P C H) (hag:Agree w0 C) {Q:Exit→Act→World→Prop} (o:Oper) (κ:Cx) (st:St) (a:Act) (w:World) (K:St→Prop) (next:Act→World→Prop) (h:vopJ P cons H o st K) (hR:Rel w0 κ st a w) (hF:Fits w0 K next):o.wp P a w next Q:=by
 unfold vopJ at h;split at h
 ·rename_i x args ts ho
  refine qeh hcons hH hag (KP:=λ_ _=>False) (λκ st a w c v h _ _=>h.elim) o κ st a w K next ?_ hR hF
  unfold vopI;rw [ho];exact h
 ·exact h.elim
 ·exact q5a hcons hR h hF
theorem qgh {V:Oper→St→(St→Prop)→Prop} {Q:Exit→Act→World→Prop} (hV:∀ (o:Oper) (κ:Cx) (st:St) (a:Act) (w:World) (K:St→Prop) (next:Act→World→Prop),V o st K→Rel w0 κ st a w→Fits w0 K next→o.wp P a w next Q)
  (ops:List Oper) {K:St→Prop} (hK:Fits w0 K (Q .normal)):∀ (l:List Oper) (κ:Cx) (st:St) (a:Act) (w:World),vops V ops l st K→Rel w0 κ st a w→wpList P ops.toArray Q l a w
 | [],κ,st,a,w,h,hR=>hK κ st a w h hR
 | o::r,κ,st,a,w,h,hR=>by
  have ih:Fits w0 (λst'=>vops V ops r st' K) (wpList P ops.toArray Q r):=λκ st a w h hR=>qgh hV ops hK r κ st a w h hR
  have hw:=q5e hR ops o;have h:vgo V o st (q2m ops st o) (λst'=>vops V ops r st' K):=h
  unfold wpList;cases hway:q2m ops st o with
  | run =>
   rw [hway] at hw h;have hw:Q0 o (yielded ops.toArray a.tmps)=true:=hw;rw [if_pos hw];exact .inl (hV o κ st a w (λst'=>vops V ops r st' K) _ h hR ih)
  | skip =>
   rw [hway] at hw h;have hw:Q0 o (yielded ops.toArray a.tmps)=false:=hw;rw [if_neg (by rw [hw];decide)]
   have h:(bif q0a st o.dst then vops V ops r (st.put o.dst (.c (.one .undef))) K else False):=h
   cases hd:q0a st o.dst
   ·rw [hd] at h;exact h.elim
   ·rw [hd] at h
    exact ih κ _ _ _ h (hR.put hd rfl)
  | part t b want =>
   rw [hway] at hw h;obtain ⟨hw,hb⟩:=hw;have h:(bif q0a st o.dst then
    bif b then (bif want then V o (st.set t (bool true)) (λst'=>vops V ops r st' K) else vops V ops r ((st.set t (bool true)).put o.dst (.c (.one .undef))) K)
    else (bif want then vops V ops r ((st.set t (bool false)).put o.dst (.c (.one .undef))) K else V o (st.set t (bool false)) (λst'=>vops V ops r st' K))
    else False):=h
   cases hd:q0a st o.dst
   ·rw [hd] at h;exact h.elim
   ·rw [hd] at h
    have hR':Rel w0 κ (st.set t (bool b)) a w:=hR.know (by rw [hb];rfl)
    have hd':q0a (st.set t (bool b)) o.dst=true:=hd;cases b <;> cases want
    ·have hw:Q0 o (yielded ops.toArray a.tmps)=true:=hw
     rw [if_pos hw];exact .inl (hV o κ _ a w (λst'=>vops V ops r st' K) _ h hR' ih)
    ·have hw:Q0 o (yielded ops.toArray a.tmps)=false:=hw
     rw [if_neg (by rw [hw];decide)];exact ih κ _ _ _ h (hR'.put hd' rfl)
    ·have hw:Q0 o (yielded ops.toArray a.tmps)=false:=hw
     rw [if_neg (by rw [hw];decide)];exact ih κ _ _ _ h (hR'.put hd' rfl)
    ·have hw:Q0 o (yielded ops.toArray a.tmps)=true:=hw
     rw [if_pos hw];exact .inl (hV o κ _ a w (λst'=>vops V ops r st' K) _ h hR' ih)
  | no=>rw [hway] at h;exact h.elim
theorem q69 (ops:List Oper) {C:World→Prop} {w:World} {V:Oper→St→(St→Prop)→Prop}
  (hV:∀ (o:Oper) (κ:Cx) (st:St) (a:Act) (K:St→Prop) (next:Act→Prop),V o st K→Rel w0 κ st a w→qb7 w0 w K next→o.quiet P a C next)
  {K:St→Prop} {N:Act→Prop} (hK:qb7 w0 w K N):∀ (l:List Oper) (κ:Cx) (st:St) (a:Act),vops V ops l st K→Rel w0 κ st a w→wpQuiet P ops.toArray C N l a
 | [],κ,st,a,h,hR=>hK κ st a h hR
 | o::r,κ,st,a,h,hR=>by
  have ih:qb7 w0 w (λst'=>vops V ops r st' K) (wpQuiet P ops.toArray C N r):=λκ st a h hR=>q69 ops hV hK r κ st a h hR
  have hw:=q5e hR ops o;have h:vgo V o st (q2m ops st o) (λst'=>vops V ops r st' K):=h
  unfold wpQuiet;cases hway:q2m ops st o with
  | run =>
   rw [hway] at hw h;have hw:Q0 o (yielded ops.toArray a.tmps)=true:=hw;rw [if_pos hw];exact hV o κ st a (λst'=>vops V ops r st' K) _ h hR ih
  | skip =>
   rw [hway] at hw h;have hw:Q0 o (yielded ops.toArray a.tmps)=false:=hw;rw [if_neg (by rw [hw];decide)]
   have h:(bif q0a st o.dst then vops V ops r (st.put o.dst (.c (.one .undef))) K else False):=h
   cases hd:q0a st o.dst
   ·rw [hd] at h;exact h.elim
   ·rw [hd] at h
    exact ih κ _ _ h (hR.put hd rfl)
  | part t b want =>
   rw [hway] at hw h;obtain ⟨hw,hb⟩:=hw;have h:(bif q0a st o.dst then
    bif b then (bif want then V o (st.set t (bool true)) (λst'=>vops V ops r st' K) else vops V ops r ((st.set t (bool true)).put o.dst (.c (.one .undef))) K)
    else (bif want then vops V ops r ((st.set t (bool false)).put o.dst (.c (.one .undef))) K else V o (st.set t (bool false)) (λst'=>vops V ops r st' K))
    else False):=h
   cases hd:q0a st o.dst
   ·rw [hd] at h;exact h.elim
   ·rw [hd] at h
    have hR':Rel w0 κ (st.set t (bool b)) a w:=hR.know (by rw [hb];rfl)
    have hd':q0a (st.set t (bool b)) o.dst=true:=hd;cases b <;> cases want
    ·have hw:Q0 o (yielded ops.toArray a.tmps)=true:=hw
     rw [if_pos hw];exact hV o κ _ a _ _ h hR' ih
    ·have hw:Q0 o (yielded ops.toArray a.tmps)=false:=hw
     rw [if_neg (by rw [hw];decide)];exact ih κ _ _ h (hR'.put hd' rfl)
    ·have hw:Q0 o (yielded ops.toArray a.tmps)=false:=hw
     rw [if_neg (by rw [hw];decide)];exact ih κ _ _ h (hR'.put hd' rfl)
    ·have hw:Q0 o (yielded ops.toArray a.tmps)=true:=hw
     rw [if_pos hw];exact hV o κ _ a _ _ h hR' ih
  | no=>rw [hway] at h;exact h.elim
theorem vopQ_none {o:Oper} {st:St} {a:Act} {w:World} {κ:Cx} {K:St→Prop} {next:Act→Prop} (h:vopQ P [] o st K) (hR:Rel w0 κ st a w) (hF:qb7 w0 w K next):o.quiet P a (λx=>x=w) next:=by
 obtain ⟨v,h1,h2⟩:=qfb (cons:=[]) (λc hc=>by cases hc) hR h hF
 unfold vopQ at h;split at h
 ·exact h.elim
 ·split at h
  ·rename_i c v hr
   cases hd:q0a st o.dst
   ·rw [hd] at h;exact h.elim
   ·rw [hd] at h
    obtain ⟨hc,hK⟩:=q9t hr h;obtain ⟨u,hu,hw⟩:=qcg hR hr hc;refine ⟨u,λw' hb=>?_,hF _ _ _ hK (hR.put hd hu)⟩
    subst hb;unfold Oper.quietAt;rw [hw _ (q03 _)];exact ⟨rfl,rfl⟩
  ·exact h.elim
def NewAt (ops:Array Oper) (i:Nat) (a:Act) (w:World) (a':Act) (w':World):Prop:=∀ f o,ops[i]? = some o→q2x ops f i=true→q5m o a w a' w'
theorem q61 {ops:Array Oper} {f k:Nat} {o:Oper} (h:q2x ops f k=true) (ho:ops[k]? = some o):q72 o=true∧qf5 ops k=true∧∀ t,q82 o=some t→∃ e∈o.after,Q9 .any e=true∧q6l ops e.on=some t∧∃ f',q2x ops f' e.on=true:=by
 cases f with
 | zero=>cases h
 | succ f =>
  unfold q2x at h;rw [ho] at h;simp only [Q7] at h;obtain ⟨h1,h2,h3⟩:=h;refine ⟨h1,h2,λt ht=>?_⟩
  rw [ht] at h3;dsimp only at h3;obtain ⟨n,hn,he⟩:=QR.1 h3;simp only [Q7] at he;obtain ⟨e1,e2,e3⟩:=he;refine ⟨_,QS hn,e1,?_,f,e3⟩;cases hd:q6l ops o.after[n].on with
  | none=>rw [hd] at e2;cases e2
  | some d=>rw [hd] at e2;exact congrArg some (Q3 e2)
theorem q9z {ops:Array Oper} {k j d:Nat} {oj:Oper} (h:qf5 ops k=true) (hj:ops[j]? = some oj) (hne:j≠k) (hd:q6l ops k=some d):oj.dst≠some d:=λe=>by
 unfold qf5 at h;have:=Ql.1 h j (Qu.2 (Qe.1 hj).1);have hb:j.beq k=false:=by
  cases hb:j.beq k
  ·rfl
  ·exact absurd (Q3 hb) hne
 have hdj:q6l ops j=some d:=by unfold q6l;rw [hj];exact e
 rw [hb,hdj,hd] at this;simp [sameDst] at this
theorem qb5 {ops:Array Oper} {k:Nat} {o:Oper} (h:ops[k]? = some o):q6l ops k=o.dst:=by unfold q6l;rw [h]
theorem NewAt.back {ops:Array Oper} {i j:Nat} {oi:Oper} {v:Value} {a a':Act} {w w':World} (hi:ops[i]? = some oi) (hji:j≠i) (hnf:∀ f,q2x ops f i=false) (h:NewAt ops j (a.put oi.dst v) w (a'.put oi.dst v) w'):NewAt ops j a w a' w':=by
 intro f o ho hf B hB hs;obtain ⟨_,h2,h3⟩:=q61 hf ho;have h:=h f o ho hf B hB (λt ht=>by
  obtain ⟨e,_,_,e2,f',e3⟩:=h3 t ht;obtain ⟨ok,hok⟩:∃ ok,ops[e.on]? = some ok:=by
   cases hk:ops[e.on]? with
   | none=>unfold q6l at e2;rw [hk] at e2;cases e2
   | some ok=>exact ⟨ok,rfl⟩
  obtain ⟨_,k2,_⟩:=q61 e3 hok;have hne:i≠e.on:=λe'=>by rw [← e',hnf] at e3;cases e3
  rw [Qx (λd hd hx=>by injection hx with hx;subst hx;exact q9z k2 hi hne e2 hd)]
  exact hs t ht)
 refine ⟨h.1,λd hd=>?_⟩
 have:=h.2 d hd
 rwa [Qx (λd' hd' hx=>by injection hx with hx;subst hx;exact q9z h2 hi (Wh hji) (by rw [qb5 ho];exact hd) hd')] at this
theorem oper_keeps {o:Oper} {a:Act} {w:World} {K:Act→World→Prop} {Q:Exit→Act→World→Prop} (hh:o.wp P a w K Q):o.wp P a w (λa' w'=>(∀ t,o.dst≠some t→a'.eval (.tmp t)=a.eval (.tmp t))∧K a' w') Q:=by
 have hput:∀ (b:Act) (v:Value) (t:Nat),o.dst≠some t→(b.put o.dst v).eval (.tmp t)=b.eval (.tmp t):=λb v t ht=>Qx (λd hd hx=>by injection hx with hx;subst hx;exact ht hd)
 unfold Qt at *
 generalize (execOp a.eval o).run P w=r at *
 cases r with
 | ok n w' =>
  cases n <;> simp only [QN] at hh ⊢ <;>
   first
    | exact ⟨λt ht=>hput _ _ t ht,hh⟩
    | exact Calls.mono hh (λe w'' he=>by cases e <;> first | exact ⟨λt ht=>hput _ _ t ht,he⟩ | exact he)
    | exact Rows.mono hh (λ_ _ he=>⟨λt ht=>hput _ _ t ht,he⟩)
 | halt x w'=>cases x <;> simp only [QN] at hh ⊢ <;> exact hh
theorem wpOp_keeps {ops:Array Oper} {i:Nat} {a:Act} {w:World} {K:Act→World→Prop} {Q:Exit→Act→World→Prop} (hh:wpOp P ops Q i K a w):wpOp P ops Q i (λa' w'=>(∀ t,q6l ops i≠some t→a'.eval (.tmp t)=a.eval (.tmp t))∧K a' w') a w:=by
 unfold wpOp at *
 split
 ·rename_i hn
  simp only [hn] at hh;exact ⟨λ_ _=>rfl,hh⟩
 ·rename_i o ho
  simp only [ho] at hh;rw [qb5 ho];split
  ·rename_i hw;simp only [hw,if_true] at hh;exact hh.imp oper_keeps id
  ·rename_i hw
   simp only [hw] at hh;exact ⟨λt ht=>Qx (λd hd hx=>by injection hx with hx;subst hx;exact ht hd),hh⟩
def q5s (P:Program) (ops:Array Oper) (Q:Exit→Act→World→Prop):Nat→Array Bool→Act→World→Prop
 | 0,listed,a,w=>Qb .any ops listed=[]∧Q .normal a w
 | f+1,listed,a,w=>(Qb .any ops listed=[]→Q .normal a w) ∧
  ∀ i∈Qb .any ops listed,wpOp P ops Q i (λa' w'=>((qai ops i=true→Below w.heap.size w w')∧NewAt ops i a w a' w')∧q5s P ops Q f (listed.setIfInBounds i true) a' w') a w
theorem qf2 {ops:Array Oper} {Q:Exit→Act→World→Prop}:∀ (f:Nat) (listed:Array Bool) (a:Act) (w:World),q5s P ops Q f listed a w→wpAny P .any ops Q f listed a w
 | 0,_,_,_,h=>h
 | f+1,_,_,_,h=>⟨h.1,λi hi=>wpOp_mono (λa' w' h'=>qf2 f _ a' w' h'.2) (h.2 i hi)⟩
def Closed (ops:Array Oper) (listed:Array Bool):Prop:=∀ j oj,ops[j]? = some oj→listed.getD j false=true→∀ e∈oj.after,Q9 .any e=true→listed.getD e.on false=true
theorem getD_set_true {l:Array Bool} {i k:Nat} (h:l.getD k false=true):(l.setIfInBounds i true).getD k false=true:=by
 by_cases e:i=k
 ·subst e
  have hlt:i<l.size:=by
   rcases Nat.lt_or_ge i l.size with h' | h'
   ·exact h'
   ·rw [Qa,Array.getElem?_eq_none h'] at h;cases h
  rw [Qa,Array.getElem?_setIfInBounds_self_of_lt hlt];rfl
 ·rw [getD_set_ne false e];exact h
theorem Closed.set {ops:Array Oper} {listed:Array Bool} {i:Nat} (h:Closed ops listed) (hi:i∈Qb .any ops listed):Closed ops (listed.setIfInBounds i true):=by
 intro j oj hoj hl e he hb;refine getD_set_true ?_;by_cases hji:i=j
 ·subst hji
  obtain ⟨_,oi,hoi,hall⟩:=mem_ready.1 hi;obtain rfl:oj=oi:=Qj (hoj.symm.trans hoi);exact hall e he hb
 ·rw [getD_set_ne false hji] at hl
  exact h j oj hoj hl e he hb
theorem qby {ops:Array Oper} {listed:Array Bool} {i:Nat} (hc:Closed ops listed):∀ k∈waiters ops i,∃ ok,ops[k]? = some ok∧((∀ e∈ok.after,Q9 .any e=true→listed.getD e.on false=true)→listed.getD i false=true):=by
 unfold waiters;have key:∀ (l:List Nat) (acc:List Nat),(∀ k∈acc,∃ ok,ops[k]? = some ok∧((∀ e∈ok.after,Q9 .any e=true→listed.getD e.on false=true)→listed.getD i false=true)) →
   ∀ k∈l.foldl (λacc j=>match ops[j]? with
    | some oj=>bif oj.after.any (λe=>Q9 .any e&&(e.on.beq i||acc.contains e.on)) then j::acc else acc
    | none=>acc) acc,∃ ok,ops[k]? = some ok∧((∀ e∈ok.after,Q9 .any e=true→listed.getD e.on false=true)→listed.getD i false=true):=by
  intro l
  induction l with
  | nil=>intro acc h;exact h
  | cons j l ih =>
   intro acc h;rw [QZ];refine ih _ ?_;cases hj:ops[j]? with
   | none=>exact h
   | some oj =>
    dsimp only;cases hb:oj.after.any (λe=>Q9 .any e&&(e.on.beq i||acc.contains e.on))
    ·exact h
    ·intro k hk
     have hk:k∈j::acc:=hk;rcases QK.1 hk with rfl | hk
     ·refine ⟨oj,hj,λhall=>?_⟩
      obtain ⟨n,hn,he⟩:=QR.1 hb;rw [Q7,Qc] at he;have hl:=hall _ (QS hn) he.1;rcases he.2 with h1 | h1
      ·rwa [Q3 h1] at hl
      ·have hm:oj.after[n].on∈acc:=by simpa using h1
       obtain ⟨om,hom,hh⟩:=h _ hm;exact hh (λe he hb=>hc _ om hom hl e he hb)
     ·exact h k hk
 exact key _ _ (λk hk=>by cases hk)
theorem qgm {ops:Array Oper} {Q:Exit→Act→World→Prop} {i:Nat} {oi:Oper} {v:Value} (hi:ops[i]? = some oi) (hsel:∀ (j:Nat) (o:Oper) cs b,ops[j]? = some o→o.op≠.select cs b)
  (hQ:∀ c a w,Q (.panic c) (a.put oi.dst v) w→Q (.panic c) a w) (hnf:∀ f,q2x ops f i=false) :
  ∀ (f:Nat) (listed:Array Bool) (a:Act) (w:World),Closed ops listed →
   (∀ j oj,ops[j]? = some oj→j≠i→listed.getD j true=false→(∀ e∈oj.after,Q9 .any e=true→e.on≠i)→oi.apart ops oj=true) →
   (∀ j,j<ops.size→j≠i→listed.getD j true=false→qai ops j=true∨j∈waiters ops i) →
   i∈Qb .any ops listed→YieldsIf P ops (λw'=>Below w.heap.size w w') oi v a →
   q5s P ops Q f (listed.setIfInBounds i true) (a.put oi.dst v) w→q5s P ops Q (f+1) listed a w:=by
 intro f
 induction f with
 | zero =>
  intro listed a w _ _ _ hr hy H;refine ⟨λh=>(by rw [h] at hr;cases hr),λj hj=>?_⟩
  by_cases hji:j=i
  ·subst hji;exact hy.wpOp hi (q03 w) ⟨⟨λ_=>q03 w,λf o _ hf=>by rw [hnf] at hf;cases hf⟩,H⟩
  ·have:=ready_mono hj hji
   rw [H.1] at this;cases this
 | succ f ih =>
  intro listed a w hc hfree hgr hr hy H;refine ⟨λh=>(by rw [h] at hr;cases hr),λj hj=>?_⟩
  by_cases hji:j=i
  ·subst hji;exact hy.wpOp hi (q03 w) ⟨⟨λ_=>q03 w,λf o _ hf=>by rw [hnf] at hf;cases hf⟩,H⟩
  ·have h1:=H.2 j (ready_mono hj hji)
   obtain ⟨hjun,oj,hoj,hall⟩:=mem_ready.1 hj;have hiun:=(mem_ready.1 hr).1;have hnot:∀ e∈oj.after,Q9 .any e=true→e.on≠i:=λe he hb heq=>by
    have h1:=hall e he hb;rw [heq,getD_both hiun] at h1;cases h1
   have hjlt:j<ops.size:=(Qe.1 hoj).1;have hgj:qai ops j=true:=by
    rcases hgr j hjlt hji hjun with h | h
    ·exact h
    ·obtain ⟨ok,hok,hh⟩:=qby hc j h
     obtain rfl:ok=oj:=Qj (hok.symm.trans hoj);have:=hh hall;rw [getD_both hiun] at this;cases this
   have h2:=wpOp_putIf hoj (hfree j oj hoj hji hjun hnot) (λcs b=>hsel i oi cs b hi) (λcs b=>hsel j oj cs b hoj) hQ hy h1
   have hun:∀ k,(listed.setIfInBounds j true).getD k true=false→listed.getD k true=false:=λk h=>by
    by_cases hjk:j=k
    ·subst hjk;exact hjun
    ·rw [getD_set_ne true hjk] at h;exact h
   refine wpOp_mono (λa' w' h3=>⟨⟨h3.2.1.1,h3.2.1.2.back hi hji hnf⟩,ih (listed.setIfInBounds j true) a' w' (hc.set hj) (λk ok hk hki hu hno=>hfree k ok hk hki (hun k hu) hno) (λk hk hki hu=>hgr k hk hki (hun k hu)) (ready_mono hr (Wh hji)) ?_ ?_⟩) h2
   ·exact h3.1.imp (λ⟨hw,hv⟩=>⟨hw,λw2 hw2=>hv w2 (q1y (h3.2.1.1 hgj) hw2)⟩) id
   ·rw [Qs _ _ hji]
    exact h3.2.2
theorem wpAnyG_pure {ops:Array Oper} {Q:Exit→Act→World→Prop} {i:Nat} {oi:Oper} {v:Value} (hi:ops[i]? = some oi) (hsel:∀ (j:Nat) (o:Oper) cs b,ops[j]? = some o→o.op≠.select cs b)
  (hQ:∀ c a w,Q (.panic c) (a.put oi.dst v) w→Q (.panic c) a w) (hnf:∀ f,q2x ops f i=false) :
  ∀ (f:Nat) (listed:Array Bool) (a:Act) (w:World),Closed ops listed →
   (∀ j oj,ops[j]? = some oj→j≠i→listed.getD j true=false→(∀ e∈oj.after,Q9 .any e=true→e.on≠i)→oi.apart ops oj=true) →
   i∈Qb .any ops listed→YieldsIf P ops (λ_=>True) oi v a →
   q5s P ops Q f (listed.setIfInBounds i true) (a.put oi.dst v) w→q5s P ops Q (f+1) listed a w:=by
 intro f
 induction f with
 | zero =>
  intro listed a w _ _ hr hy H;refine ⟨λh=>(by rw [h] at hr;cases hr),λj hj=>?_⟩
  by_cases hji:j=i
  ·subst hji;exact hy.wpOp hi trivial ⟨⟨λ_=>q03 w,λf o _ hf=>by rw [hnf] at hf;cases hf⟩,H⟩
  ·have:=ready_mono hj hji
   rw [H.1] at this;cases this
 | succ f ih =>
  intro listed a w hc hfree hr hy H;refine ⟨λh=>(by rw [h] at hr;cases hr),λj hj=>?_⟩
  by_cases hji:j=i
  ·subst hji;exact hy.wpOp hi trivial ⟨⟨λ_=>q03 w,λf o _ hf=>by rw [hnf] at hf;cases hf⟩,H⟩
  ·have h1:=H.2 j (ready_mono hj hji)
   obtain ⟨hjun,oj,hoj,hall⟩:=mem_ready.1 hj;have hiun:=(mem_ready.1 hr).1;have hnot:∀ e∈oj.after,Q9 .any e=true→e.on≠i:=λe he hb heq=>by
    have h1:=hall e he hb;rw [heq,getD_both hiun] at h1;cases h1
   have hjlt:j<ops.size:=(Qe.1 hoj).1;have h2:=wpOp_putIf hoj (hfree j oj hoj hji hjun hnot) (λcs b=>hsel i oi cs b hi) (λcs b=>hsel j oj cs b hoj) hQ hy h1
   have hun:∀ k,(listed.setIfInBounds j true).getD k true=false→listed.getD k true=false:=λk h=>by
    by_cases hjk:j=k
    ·subst hjk;exact hjun
    ·rw [getD_set_ne true hjk] at h;exact h
   refine wpOp_mono (λa' w' h3=>⟨⟨h3.2.1.1,h3.2.1.2.back hi hji hnf⟩,ih (listed.setIfInBounds j true) a' w' (hc.set hj) (λk ok hk hki hu hno=>hfree k ok hk hki (hun k hu) hno) (ready_mono hr (Wh hji)) ?_ ?_⟩) h2
   ·exact h3.1
   ·rw [Qs _ _ hji]
    exact h3.2.2
def Jn (ops:Array Oper) (listed:Array Bool) (B:Nat) (a:Act):Prop:=∀ k f,q2x ops f k=true→listed.getD k false=true→∀ d,q6l ops k=some d→qb6 B (a.eval (.tmp d))
theorem qlm {ops:Array Oper} {Q:Exit→Act→World→Prop} {i:Nat} {oi:Oper} {v:Value} {B:Nat} (hi:ops[i]? = some oi) (hsel:∀ (j:Nat) (o:Oper) cs b,ops[j]? = some o→o.op≠.select cs b)
  (hQ:∀ c a w,Q (.panic c) (a.put oi.dst v) w→Q (.panic c) a w) (hnf:∀ f,q2x ops f i=false) :
  ∀ (f:Nat) (listed:Array Bool) (a:Act) (w:World),Closed ops listed→B≤w.heap.size→Jn ops listed B a →
   (∀ j oj,ops[j]? = some oj→j≠i→listed.getD j true=false→(∀ e∈oj.after,Q9 .any e=true→e.on≠i)→oi.apart ops oj=true) →
   (∀ j,j<ops.size→j≠i→listed.getD j true=false→growN ops j=true∨j∈waiters ops i) →
   i∈Qb .any ops listed→YieldsIf P ops (λw'=>Below B w w') oi v a →
   q5s P ops Q f (listed.setIfInBounds i true) (a.put oi.dst v) w→q5s P ops Q (f+1) listed a w:=by
 intro f
 induction f with
 | zero =>
  intro listed a w _ _ _ _ _ hr hy H;refine ⟨λh=>(by rw [h] at hr;cases hr),λj hj=>?_⟩
  by_cases hji:j=i
  ·subst hji;exact hy.wpOp hi (We B w) ⟨⟨λ_=>q03 w,λf o _ hf=>by rw [hnf] at hf;cases hf⟩,H⟩
  ·have:=ready_mono hj hji
   rw [H.1] at this;cases this
 | succ f ih =>
  intro listed a w hc hB hJ hfree hgr hr hy H;refine ⟨λh=>(by rw [h] at hr;cases hr),λj hj=>?_⟩
  by_cases hji:j=i
  ·subst hji;exact hy.wpOp hi (We B w) ⟨⟨λ_=>q03 w,λf o _ hf=>by rw [hnf] at hf;cases hf⟩,H⟩
  ·have h1:=wpOp_keeps (H.2 j (ready_mono hj hji))
   obtain ⟨hjun,oj,hoj,hall⟩:=mem_ready.1 hj;have hiun:=(mem_ready.1 hr).1;have hnot:∀ e∈oj.after,Q9 .any e=true→e.on≠i:=λe he hb heq=>by
    have h1:=hall e he hb;rw [heq,getD_both hiun] at h1;cases h1
   have hjlt:j<ops.size:=(Qe.1 hoj).1;have hgj:growN ops j=true:=by
    rcases hgr j hjlt hji hjun with h | h
    ·exact h
    ·obtain ⟨ok,hok,hh⟩:=qby hc j h
     obtain rfl:ok=oj:=Qj (hok.symm.trans hoj);have:=hh hall;rw [getD_both hiun] at this;cases this
   have h2:=wpOp_putIf hoj (hfree j oj hoj hji hjun hnot) (λcs b=>hsel i oi cs b hi) (λcs b=>hsel j oj cs b hoj) hQ hy h1
   have hun:∀ k,(listed.setIfInBounds j true).getD k true=false→listed.getD k true=false:=λk h=>by
    by_cases hjk:j=k
    ·subst hjk;exact hjun
    ·rw [getD_set_ne true hjk] at h;exact h
   have hhead:∀ f,q2x ops f j=true→∀ t,q82 oj=some t→qb6 B (a.eval (.tmp t)):=λf hf t ht=>by
    obtain ⟨_,_,h3⟩:=q61 hf hoj;obtain ⟨e,he,e1,e2,f',e3⟩:=h3 t ht;exact hJ e.on f' e3 (hall e he e1) t e2
   refine wpOp_mono (λa' w' h3=>?_) h2
   obtain ⟨y1,y2,⟨y3,y4⟩,y5⟩:=h3;have hnew:=y4.back hi hji hnf;have hbel:Below B w w':=by
    unfold growN at hgj;rw [Qc] at hgj;rcases hgj with h | h
    ·exact (y3 h).mono hB
    ·exact (hnew _ oj hoj h B hB (hhead _ h)).1
   refine ⟨⟨y3,hnew⟩,ih (listed.setIfInBounds j true) a' w' (hc.set hj) (Nat.le_trans hB hbel.size) (λk f' hk hl d hd=>?_) (λk ok hk hki hu hno=>hfree k ok hk hki (hun k hu) hno) (λk hk hki hu=>hgr k hk hki (hun k hu)) (ready_mono hr (Wh hji)) ?_ ?_⟩
   ·by_cases hkj:j=k
    ·subst hkj
     exact (hnew _ oj hoj hk B hB (hhead _ hk)).2 d (by rw [← qb5 hoj];exact hd)
    ·rw [getD_set_ne false hkj] at hl
     have h0:=hJ k f' hk hl d hd;obtain ⟨ok,hok⟩:∃ ok,ops[k]? = some ok:=by
      cases hk':ops[k]? with
      | none=>unfold q6l at hd;rw [hk'] at hd;cases hd
      | some ok=>exact ⟨ok,rfl⟩
     obtain ⟨_,k2,_⟩:=q61 hk hok;have hik:i≠k:=λe=>by rw [← e,hnf] at hk;cases hk
     have e1:=y2 d (by rw [qb5 hoj];exact q9z k2 hoj hkj hd)
     have hoi:∀ b:Act,(b.put oi.dst v).eval (.tmp d)=b.eval (.tmp d):=λb=>Qx (λd' hd' hx=>by injection hx with hx;subst hx;exact q9z k2 hi hik hd hd')
     rw [hoi,hoi] at e1;rw [e1];exact h0
   ·exact y1.imp (λ⟨hw,hv⟩=>⟨hw,λw2 hw2=>hv w2 (hbel.trans hw2)⟩) id
   ·rw [Qs _ _ hji]
    exact y5
theorem qaq {ops:Array Oper} {i:Nat} {oi:Oper} (hi:ops[i]? = some oi) (h:q8x oi.op=true) (f:Nat):q2x ops f i=false:=by
 cases hf:q2x ops f i
 ·rfl
 ·have hk:=(q61 hf hi).1
  unfold q72 at hk;split at hk
  ·rename_i ho;rw [ho] at h;cases h
  ·rename_i ho;rw [ho] at h;cases h
  ·cases hk
theorem vop_rop {o:Oper} {K:St→Prop} (h:q8x o.op=true) (hv:vop P cons o st K):∃ c v,rop P st o.op=.ok c v∧(bif q0a st o.dst then asks o.op c (K (st.put o.dst v)) else False):=by
 unfold vop at hv;split at hv
 ·rename_i ho;rw [ho] at h;exact q19 rfl h
 ·rename_i ho;rw [ho] at h;exact q19 rfl h
 ·rename_i ho;rw [ho] at h;exact q19 rfl h
 ·rename_i ho;rw [ho] at h;exact q19 rfl h
 ·rename_i ho;rw [ho] at h;exact q19 rfl h
 ·rename_i ho;rw [ho] at h;exact q19 rfl h
 ·rename_i ho;rw [ho] at h;exact q19 rfl h
 ·rename_i ho;rw [ho] at h;exact q19 rfl h
 ·rename_i ho;rw [ho] at h;exact q19 rfl h
 ·rename_i ho;rw [ho] at h;exact q19 rfl h
 ·rename_i ho;rw [ho] at h;exact q19 rfl h
 ·rename_i ho;rw [ho] at h;exact q19 rfl h
 ·rename_i ho;rw [ho] at h;exact q19 rfl h
 ·rename_i ho;rw [ho] at h;exact q19 rfl h
 ·split at hv
  ·rename_i c v hr;exact ⟨c,v,hr,hv⟩
  ·exact hv.elim
theorem qep {ops:Array Oper} {o:Oper} {K:St→Prop} (h:q8x o.op=true) (hw:Q0 o (yielded ops a.tmps)=true) (hR:Rel w0 κ st a w) (hv:vop P cons o st K) :
  ∃ u st',YieldsIf P ops (λw'=>Below w.heap.size w w') o u a∧Rel w0 κ st' (a.put o.dst u) w∧K st':=by
 obtain ⟨c,v,hr,hv⟩:=vop_rop h hv;cases hd:q0a st o.dst
 ·rw [hd] at hv;exact hv.elim
 ·rw [hd] at hv
  obtain ⟨hc,hK⟩:=q9t hr hv;obtain ⟨u,hu,hy⟩:=qcg hR hr hc;exact ⟨u,_,.inl ⟨hw,λw' hb=>hy w' hb⟩,hR.put hd hu,hK⟩
theorem qb2 {ops:List Oper} {o:Oper} {K:St→Prop} (h:q8x o.op=true) (hR:Rel w0 κ st a w) (hv:vgo (vop P cons) o st (q2m ops st o) K) :
  ∃ u st',YieldsIf P ops.toArray (λw'=>Below w.heap.size w w') o u a∧Rel w0 κ st' (a.put o.dst u) w∧K st':=by
 have hw:=q5e hR ops o;cases hway:q2m ops st o with
 | run=>rw [hway] at hw hv;exact qep h hw hR hv
 | skip =>
  rw [hway] at hw hv;have hv:(bif q0a st o.dst then K (st.put o.dst (.c (.one .undef))) else False):=hv
  cases hd:q0a st o.dst
  ·rw [hd] at hv;exact hv.elim
  ·rw [hd] at hv
   exact ⟨Qi,_,.inr ⟨hw,rfl⟩,hR.put hd (v:=.c (.one .undef)) rfl,hv⟩
 | part t b want =>
  rw [hway] at hw hv;obtain ⟨hw,hb⟩:=hw;have hv:(bif q0a st o.dst then
   bif b then (bif want then vop P cons o (st.set t (bool true)) K else K ((st.set t (bool true)).put o.dst (.c (.one .undef))))
   else (bif want then K ((st.set t (bool false)).put o.dst (.c (.one .undef))) else vop P cons o (st.set t (bool false)) K)
   else False):=hv
  cases hd:q0a st o.dst
  ·rw [hd] at hv;exact hv.elim
  ·rw [hd] at hv
   have hR':Rel w0 κ (st.set t (bool b)) a w:=hR.know (by rw [hb];rfl)
   have hd':q0a (st.set t (bool b)) o.dst=true:=hd;cases b <;> cases want
   ·exact qep h hw hR' hv
   ·exact ⟨Qi,_,.inr ⟨hw,rfl⟩,hR'.put hd' (v:=.c (.one .undef)) rfl,hv⟩
   ·exact ⟨Qi,_,.inr ⟨hw,rfl⟩,hR'.put hd' (v:=.c (.one .undef)) rfl,hv⟩
   ·exact qep h hw hR' hv
 | no=>rw [hway] at hv;exact hv.elim
theorem ql5 {ops:Array Oper} {i:Nat} {oi:Oper} (hi:ops[i]? = some oi) (h:q7m P oi.op=true) (f:Nat):q2x ops f i=false:=by
 cases hf:q2x ops f i
 ·rfl
 ·have hk:=(q61 hf hi).1
  unfold q72 at hk;split at hk
  ·rename_i ho;rw [ho] at h;cases h
  ·rename_i ho;rw [ho] at h;cases h
  ·cases hk
theorem pure_rop {p:Op} (h:q7m P p=true):q8x p=true:=by
 unfold q7m at h;split at h <;> first | rfl | cases h
theorem qjb {ops:Array Oper} {o:Oper} {K:St→Prop} (h:q7m P o.op=true) (hw:Q0 o (yielded ops a.tmps)=true) (hR:Rel w0 κ st a w) (hv:vop P cons o st K) :
  ∃ u st',YieldsIf P ops (λ_=>True) o u a∧Rel w0 κ st' (a.put o.dst u) w∧K st':=by
 obtain ⟨c,v,hr,hv⟩:=vop_rop (pure_rop h) hv;cases hd:q0a st o.dst
 ·rw [hd] at hv;exact hv.elim
 ·rw [hd] at hv
  obtain ⟨hc,hK⟩:=q9t hr hv;obtain ⟨u,hu,hy⟩:=rop_pure hR h hr hc;exact ⟨u,_,.inl ⟨hw,λw' _=>hy w' trivial⟩,hR.put hd hu,hK⟩
theorem vgo_pure {ops:List Oper} {o:Oper} {K:St→Prop} (h:q7m P o.op=true) (hR:Rel w0 κ st a w) (hv:vgo (vop P cons) o st (q2m ops st o) K) :
  ∃ u st',YieldsIf P ops.toArray (λ_=>True) o u a∧Rel w0 κ st' (a.put o.dst u) w∧K st':=by
 have hw:=q5e hR ops o;cases hway:q2m ops st o with
 | run=>rw [hway] at hw hv;exact qjb h hw hR hv
 | skip =>
  rw [hway] at hw hv;have hv:(bif q0a st o.dst then K (st.put o.dst (.c (.one .undef))) else False):=hv
  cases hd:q0a st o.dst
  ·rw [hd] at hv;exact hv.elim
  ·rw [hd] at hv
   exact ⟨Qi,_,.inr ⟨hw,rfl⟩,hR.put hd (v:=.c (.one .undef)) rfl,hv⟩
 | part t b want =>
  rw [hway] at hw hv;obtain ⟨hw,hb⟩:=hw;have hv:(bif q0a st o.dst then
   bif b then (bif want then vop P cons o (st.set t (bool true)) K else K ((st.set t (bool true)).put o.dst (.c (.one .undef))))
   else (bif want then K ((st.set t (bool false)).put o.dst (.c (.one .undef))) else vop P cons o (st.set t (bool false)) K)
   else False):=hv
  cases hd:q0a st o.dst
  ·rw [hd] at hv;exact hv.elim
  ·rw [hd] at hv
   have hR':Rel w0 κ (st.set t (bool b)) a w:=hR.know (by rw [hb];rfl)
   have hd':q0a (st.set t (bool b)) o.dst=true:=hd;cases b <;> cases want
   ·exact qjb h hw hR' hv
   ·exact ⟨Qi,_,.inr ⟨hw,rfl⟩,hR'.put hd' (v:=.c (.one .undef)) rfl,hv⟩
   ·exact ⟨Qi,_,.inr ⟨hw,rfl⟩,hR'.put hd' (v:=.c (.one .undef)) rfl,hv⟩
   ·exact qjb h hw hR' hv
 | no=>rw [hway] at hv;exact hv.elim
theorem vgo_wp (hcons:∀ c∈cons,c.Holds P) {ops:List Oper} {o:Oper} {i:Nat} (hi:ops.toArray[i]? = some o) {K:St→Prop} {next:Act→World→Prop} {Q:Exit→Act→World→Prop} (hR:Rel w0 κ st a w) (hv:vgo (vop P cons) o st (q2m ops st o) K) (hF:Fits w0 K next) :
  wpOp P ops.toArray Q i (λa' w'=>((qai ops.toArray i=true→Below w.heap.size w w')∧NewAt ops.toArray i a w a' w')∧next a' w') a w:=by
 have hg:qai ops.toArray i=q7p o.op:=by unfold qai;rw [hi]
 rw [hg];have hrun:∀ {st:St},Rel w0 κ st a w→vop P cons o st K→o.wp P a w (λa' w'=>((q7p o.op=true→Below w.heap.size w w')∧NewAt ops.toArray i a w a' w')∧next a' w') Q:=λhR hv=>by
  cases hk:q72 o
  ·exact Oper.wp_mono (λa' w' h=>⟨⟨h.1,λf o' ho' hf=>by
    obtain rfl:o=o':=Qj (hi.symm.trans ho');rw [(q61 hf hi).1] at hk;cases hk⟩,h.2⟩) (qec hcons hR hv hF)
  ·exact Oper.wp_mono (λa' w' h=>⟨⟨h.1.1,λf o' ho' hf=>by
    obtain rfl:o=o':=Qj (hi.symm.trans ho');exact h.1.2⟩,h.2⟩) (vop_soundN hcons hk hR hv hF)
 have hskip:NewAt ops.toArray i a w (a.put o.dst Qi) w:=λf o' ho' hf B hB _=>by
  obtain rfl:o=o':=Qj (hi.symm.trans ho');refine ⟨We B w,λd hd=>?_⟩
  rw [hd];exact fresh_put (qhr B) a d
 have hw:=q5e hR ops o;unfold wpOp;simp only [hi];cases hway:q2m ops st o with
 | run =>
  rw [hway] at hw hv;have hw:Q0 o (yielded ops.toArray a.tmps)=true:=hw;rw [if_pos hw];exact .inl (hrun hR hv)
 | skip =>
  rw [hway] at hw hv;have hw:Q0 o (yielded ops.toArray a.tmps)=false:=hw;rw [if_neg (by rw [hw];decide)]
  have hv:(bif q0a st o.dst then K (st.put o.dst (.c (.one .undef))) else False):=hv
  cases hd:q0a st o.dst
  ·rw [hd] at hv;exact hv.elim
  ·rw [hd] at hv
   exact ⟨⟨λ_=>q03 w,hskip⟩,hF κ _ _ _ hv (hR.put hd rfl)⟩
 | part t b want =>
  rw [hway] at hw hv;obtain ⟨hw,hb⟩:=hw;have hv:(bif q0a st o.dst then
   bif b then (bif want then vop P cons o (st.set t (bool true)) K else K ((st.set t (bool true)).put o.dst (.c (.one .undef))))
   else (bif want then K ((st.set t (bool false)).put o.dst (.c (.one .undef))) else vop P cons o (st.set t (bool false)) K)
   else False):=hv
  cases hd:q0a st o.dst
  ·rw [hd] at hv;exact hv.elim
  ·rw [hd] at hv
   have hR':Rel w0 κ (st.set t (bool b)) a w:=hR.know (by rw [hb];rfl)
   have hd':q0a (st.set t (bool b)) o.dst=true:=hd;cases b <;> cases want
   ·have hw:Q0 o (yielded ops.toArray a.tmps)=true:=hw
    rw [if_pos hw];exact .inl (hrun hR' hv)
   ·have hw:Q0 o (yielded ops.toArray a.tmps)=false:=hw
    rw [if_neg (by rw [hw];decide)];exact ⟨⟨λ_=>q03 w,hskip⟩,hF κ _ _ _ hv (hR'.put hd' rfl)⟩
   ·have hw:Q0 o (yielded ops.toArray a.tmps)=false:=hw
    rw [if_neg (by rw [hw];decide)];exact ⟨⟨λ_=>q03 w,hskip⟩,hF κ _ _ _ hv (hR'.put hd' rfl)⟩
   ·have hw:Q0 o (yielded ops.toArray a.tmps)=true:=hw
    rw [if_pos hw];exact .inl (hrun hR' hv)
 | no=>rw [hway] at hv;exact hv.elim
theorem qdu {ops:Array Oper} {listed:Array Bool} {i:Nat} {b:Bool} (h:qfv ops listed=some (i,b)):(i∈Qb .any ops listed∧qdj ops listed i=true)∨Qb .any ops listed=[i]:=by
 unfold qfv at h;split at h
 ·rename_i k hk
  injection h with h;injection h with h1 _;subst h1;exact .inl ⟨Qh hk,Qy hk⟩
 ·split at h
  ·rename_i k hk
   injection h with h;injection h with h1 _;subst h1;exact .inr hk
  ·cases h
theorem qi5 (hcons:∀ c∈cons,c.Holds P) {l:List Oper} (hsel:Qn l.toArray=true) {K:St→Prop} {Q:Exit→Act→World→Prop} (hQ:∀ c a w,¬ Q (.panic c) a w) (hK:Fits w0 K (Q .normal)) :
  ∀ (f:Nat) (listed:Array Bool) (ord:List Nat) (κ:Cx) (st:St) (a:Act) (w:World),Closed l.toArray listed→q8e l.toArray f listed=some ord→vops (vop P cons) l (pick l ord) st K→Rel w0 κ st a w→q5s P l.toArray Q f listed a w
 | 0,listed,ord,κ,st,a,w,hc,hs,h,hR=>by
  unfold q8e at hs;split at hs
  ·rename_i hr
   injection hs with hs;subst hs;exact ⟨hr,hK κ st a w h hR⟩
  ·cases hs
 | f+1,listed,ord,κ,st,a,w,hc,hs,h,hR=>by
  unfold q8e at hs;split at hs
  ·rename_i hr
   injection hs with hs;subst hs;exact ⟨λ_=>hK κ st a w h hR,λi hi=>by rw [hr] at hi;cases hi⟩
  ·rename_i hne
   split at hs
   ·rename_i i b hst
    split at hs
    ·rename_i r hrest
     injection hs with hs;subst hs;have hir:i∈Qb .any l.toArray listed:=by
      rcases qdu hst with h | h
      ·exact h.1
      ·rw [h];exact Qq.2 rfl
     obtain ⟨hiun,oi,hoi,_⟩:=mem_ready.1 hir;have hoi':l[i]? = some oi:=by simpa using hoi
     have hp:pick l (i::r)=oi::pick l r:=by rw [pick,hoi']
     rw [hp] at h;have h:vgo (vop P cons) oi st (q2m l st oi) (λst'=>vops (vop P cons) l (pick l r) st' K):=h
     have ih:Fits w0 (λst'=>vops (vop P cons) l (pick l r) st' K) (q5s P l.toArray Q f (listed.setIfInBounds i true)):=λκ st a w h hR =>
      qi5 hcons hsel hQ hK f _ r κ st a w (hc.set hir) hrest h hR
     rcases qdu hst with ⟨_,ht⟩ | honly
     ·unfold qdj at ht
      rw [hoi] at ht;simp only [Q7] at ht;obtain ⟨h1,h2,h3⟩:=ht;obtain ⟨u,st',hy,hR',hK'⟩:=qb2 h1 hR h;refine qgm hoi (Qm hsel) (λc a w hq=>absurd hq (hQ c _ w)) (qaq hoi h1) f listed a w hc (Qw hoi h2) (λj hj hji hun=>?_) hir hy (ih κ st' _ w hK' hR')
      have:=Ql.1 h3 j (Qu.2 hj)
      rw [hun,QL,Qc,Qc] at this;rcases this with h | h | h
      ·exact absurd (Q3 h) hji
      ·exact .inl h
      ·exact .inr (by simpa using h)
     ·refine ⟨λh0=>(by rw [honly] at h0;cases h0),λj hj=>?_⟩
      rw [honly] at hj;obtain rfl:=Qq.1 hj;exact vgo_wp hcons hoi hR h ih
    ·cases hs
   ·cases hs
theorem qce {p:Nat→Prop}:∀ {l:List Nat},allP l p→∀ i∈l,p i
 | [],_,i,hi=>by cases hi
 | [k],h,i,hi=>by obtain rfl:=Qq.1 hi;exact h
 | k::u::r,h,i,hi=>by
  obtain ⟨h1,h2⟩:p k∧allP (u::r) p:=h;rcases QK.1 hi with rfl | hi
  ·exact h1
  ·exact qce h2 i hi
theorem qf3 (hcons:∀ c∈cons,c.Holds P) {l:List Oper} (hsel:Qn l.toArray=true) {K:St→Prop} {Q:Exit→Act→World→Prop} (hQ:∀ c a w,¬ Q (.panic c) a w) (hK:Fits w0 K (Q .normal)) :
  ∀ (f:Nat) (listed:Array Bool) (κ:Cx) (st:St) (a:Act) (w:World),Closed l.toArray listed→vany P (vop P cons) l f listed st K→Rel w0 κ st a w→q5s P l.toArray Q f listed a w
 | 0,listed,κ,st,a,w,hc,h,hR=>by
  unfold vany at h;split at h
  ·rename_i hr
   exact ⟨hr,hK κ st a w h hR⟩
  ·exact h.elim
 | f+1,listed,κ,st,a,w,hc,h,hR=>by
  unfold vany at h;split at h
  ·rename_i hr
   exact ⟨λ_=>hK κ st a w h hR,λi hi=>by rw [hr] at hi;cases hi⟩
  ·rename_i hne
   have ih:∀ i,i∈Qb .any l.toArray listed→Fits w0 (λst'=>vany P (vop P cons) l f (listed.setIfInBounds i true) st' K) (q5s P l.toArray Q f (listed.setIfInBounds i true)):=λi hir κ st a w h hR =>
    qf3 hcons hsel hQ hK f _ κ st a w (hc.set hir) h hR
   split at h
   ·rename_i i hst
    have hir:=Qh hst;have ht:=Qy hst;split at h
    ·rename_i oi hoi
     unfold qdj at ht;rw [hoi] at ht;simp only [Q7] at ht;obtain ⟨h1,h2,h3⟩:=ht;obtain ⟨hiun,_,_,_⟩:=mem_ready.1 hir;obtain ⟨u,st',hy,hR',hK'⟩:=qb2 h1 hR h;refine qgm hoi (Qm hsel) (λc a w hq=>absurd hq (hQ c _ w)) (qaq hoi h1) f listed a w hc (Qw hoi h2) (λj hj hji hun=>?_) hir hy (ih i hir κ st' _ w hK' hR')
     have:=Ql.1 h3 j (Qu.2 hj)
     rw [hun,QL,Qc,Qc] at this;rcases this with h | h | h
     ·exact absurd (Q3 h) hji
     ·exact .inl h
     ·exact .inr (by simpa using h)
    ·exact h.elim
   ·split at h
    ·rename_i i hst
     have hir:=Qh hst;have ht:=Qy hst;split at h
     ·rename_i oi hoi
      unfold canTakeP at ht;rw [hoi] at ht;simp only [Q7] at ht;obtain ⟨h1,h2⟩:=ht;obtain ⟨u,st',hy,hR',hK'⟩:=vgo_pure h1 hR h;exact wpAnyG_pure hoi (Qm hsel) (λc a w hq=>absurd hq (hQ c _ w)) (ql5 hoi h1) f listed a w hc (Qw hoi h2) hir hy (ih i hir κ st' _ w hK' hR')
     ·exact h.elim
    ·refine ⟨λh0=>absurd h0 (by first | exact hne | exact λe=>hne e),λi hi=>?_⟩
     have hv:=qce h i hi;split at hv
     ·rename_i oi hoi
      exact vgo_wp hcons hoi hR hv (ih i hi)
     ·exact hv.elim
theorem qi4 (hcons:∀ c∈cons,c.Holds P) {l:List Oper} (hsel:Qn l.toArray=true) {K:St→Prop} {Q:Exit→Act→World→Prop} (hQ:∀ c a w,¬ Q (.panic c) a w) (hK:Fits w0 K (Q .normal)) :
  ∀ (f:Nat) (listed:Array Bool) (κ:Cx) (st:St) (a:Act) (w:World),Closed l.toArray listed→(∀ k f',q2x l.toArray f' k=true→listed.getD k false=false)→vanyN P (vop P cons) l f listed st K→Rel w0 κ st a w→q5s P l.toArray Q f listed a w
 | 0,listed,κ,st,a,w,hc,hL,h,hR=>qf3 hcons hsel hQ hK 0 listed κ st a w hc h hR
 | f+1,listed,κ,st,a,w,hc,hL,h,hR=>by
  unfold vanyN at h;split at h
  ·rename_i i hst
   have hir:=Qh hst;have ht:=Qy hst;split at h
   ·rename_i oi hoi
    unfold canTakeN at ht;rw [hoi] at ht;simp only [Q7] at ht;obtain ⟨h1,h2,h3⟩:=ht;have hnf:=qaq hoi h1;obtain ⟨u,st',hy,hR',hK'⟩:=qb2 h1 hR h;refine qlm (B:=w.heap.size) hoi (Qm hsel) (λc a w hq=>absurd hq (hQ c _ w)) hnf f listed a w hc (Qz _) (λk f' hk hl=>by rw [hL k f' hk] at hl;cases hl) (Qw hoi h2) (λj hj hji hun=>?_) hir hy (qi4 hcons hsel hQ hK f _ κ st' _ w (hc.set hir) (λk f' hk=>?_) hK' hR')
    ·have:=Ql.1 h3 j (Qu.2 hj)
     rw [hun,QL,Qc,Qc] at this;rcases this with h | h | h
     ·exact absurd (Q3 h) hji
     ·exact .inl h
     ·exact .inr (by simpa using h)
    ·have hik:i≠k:=λe=>by rw [← e,hnf] at hk;cases hk
     rw [getD_set_ne false hik];exact hL k f' hk
   ·exact h.elim
  ·exact qf3 hcons hsel hQ hK (f+1) listed κ st a w hc h hR
theorem oper_monoQ {o:Oper} {a:Act} {w:World} {K K':Act→World→Prop} {Q Q':Exit→Act→World→Prop} (hq:∀ e a w,Q e a w→Q' e a w) (h:∀ a w,K a w→K' a w) (hh:o.wp P a w K Q):o.wp P a w K' Q':=by
 unfold Qt at *
 generalize (execOp a.eval o).run P w=r at *
 cases r with
 | ok n w' =>
  cases n <;> simp only [QN] at hh ⊢ <;>
   first
    | exact h _ _ hh
    | exact Calls.mono hh (λe w'' he=>by
      cases e with
      | returned v=>exact h _ _ he
      | panicked c=>exact hq _ _ _ he
      | outgrown=>obtain ⟨a',w',he⟩:=he;exact ⟨a',w',hq _ _ _ he⟩)
    | exact Rows.mono hh (λ_ _ he=>h _ _ he)
 | halt x w'=>cases x <;> simp only [QN] at hh ⊢ <;> first | exact hq _ _ _ hh | exact hh
theorem wpOp_monoQ {ops:Array Oper} {Q Q':Exit→Act→World→Prop} (hq:∀ e a w,Q e a w→Q' e a w) {i:Nat} {K K':Act→World→Prop} (hk:∀ a w,K a w→K' a w) {a:Act} {w:World} (h:wpOp P ops Q i K a w):wpOp P ops Q' i K' a w:=by
 unfold wpOp at *
 split
 ·exact hk _ _ (by simpa [*] using h)
 ·rename_i o ho
  simp only [ho] at h;split
  ·rename_i hw
   simp only [hw,if_true] at h;rcases h with h | ⟨h1,a',w',h2⟩
   ·exact .inl (oper_monoQ hq hk h)
   ·exact .inr ⟨h1,a',w',hq _ _ _ h2⟩
  ·rename_i hw;simp only [hw] at h;exact hk _ _ h
theorem q8m {ops:Array Oper} {Q Q':Exit→Act→World→Prop} (hq:∀ e a w,Q e a w→Q' e a w):∀ (f:Nat) (listed:Array Bool) (a:Act) (w:World),wpAny P .any ops Q f listed a w→wpAny P .any ops Q' f listed a w
 | 0,listed,a,w,h=>⟨h.1,hq _ _ _ h.2⟩
 | f+1,listed,a,w,h=>⟨λh0=>hq _ _ _ (h.1 h0),λi hi=>wpOp_monoQ hq (λa w h=>q8m hq f _ a w h) (h.2 i hi)⟩
theorem any_quiet {ops:Array Oper} {C:World→Prop} {Q:Exit→Act→World→Prop} {a:Act} {w:World} (hB:QV .any ops=true) (hC:C { w with drawn:=w.drawn+1 })
  (h:wpQuiet P ops C (λa'=>∀ w',C w'→Q .normal a' w') ops.toList a):wpAny P .any ops Q ops.size (Qo ops.size false) a { w with drawn:=w.drawn+1 }:=by
 simp only [QV,Q7] at hB;refine wpAny_of_quiet (Q:=λa'=>∀ w',C w'→Q .normal a' w') (λ_ w' hw' h=>h w' hw') _ _ _ _ hC ?_
 have:=wpAnyQ_lex (C:=C) (md:=.any) hB.1 ops.toList 0 (Qo ops.size false) a (by simp) (by simpa using hB.2) h
 simpa using this
theorem vregion_any (hcons:∀ c∈cons,c.Holds P) {H:Inl} {KP:Cell→St→Prop} {l:List Oper} {K:St→Prop} {Q:Exit→Act→World→Prop} (h:qc9 P cons H KP l true st K) (hR:Rel w0 κ st a w) (hK:Fits w0 K (Q .normal)) :
  wpAny P .any l.toArray Q l.toArray.size (Qo l.toArray.size false) a { w with drawn:=w.drawn+1 }:=by
 unfold qc9 at h;have hQ:∀ (o:Oper) (κ:Cx) (st:St) (a:Act) (K:St→Prop) (next:Act→Prop),vopQ P cons o st K→Rel w0 κ st a w→qb7 w0 w K next→o.quiet P a (λw'=>Below w.heap.size w w') next :=
  λo κ st a K next h hR hF=>qfb hcons hR h hF
 have hlater:∀ {K:St→Prop} {N:Act→World→Prop},Fits w0 K N→qb7 w0 w K (λa'=>∀ w',Below w.heap.size w w'→N a' w'):=λhF κ st a h hR w' hb=>hF _ _ _ _ h (hR.later hb)
 dsimp only [cond_true] at h;have hC:Below w.heap.size w { w with drawn:=w.drawn+1 }:=q7z (q03 w);cases hB:QV .any l.toArray&&(q2e cons l).beq l.length
 ·rw [hB] at h
  cases hB2:Region.lexTailB .any l.toArray (q2e cons l)
  ·rw [hB2] at h
   cases hB3:q6j .any l.toArray (q2e cons l)
   ·rw [hB3] at h
    dsimp only [cond_false] at h;split at h
    ·rename_i ord hord
     unfold sched at hord;cases hsel:Qn l.toArray
     ·rw [hsel] at hord;cases hord
     ·rw [hsel] at hord
      have hord:q8e l.toArray l.toArray.size (Qo l.toArray.size false)=some ord:=hord;refine q8m (Q:=λe a w=>match e with | .normal=>Q .normal a w | _=>False) (λe a w h=>by cases e <;> first | exact h | exact h.elim) _ _ _ _ (qf2 _ _ _ _ ?_)
      exact qi5 hcons (Q:=λe a w=>match e with | .normal=>Q .normal a w | _=>False) hsel (λc a w h=>h) hK _ _ ord κ st a _ (λj oj _ hl=>by rw [getD_replicate_false] at hl;cases hl) hord h hR.drew
    ·cases hsel:Qn l.toArray&&Nat.ble l.length 30
     ·rw [hsel] at h;exact h.elim
     ·rw [hsel] at h
      rw [Q7] at hsel;have h:vanyN P (vop P cons) l l.length (Qo l.length false) st K:=h;refine q8m (Q:=λe a w=>match e with | .normal=>Q .normal a w | _=>False) (λe a w h=>by cases e <;> first | exact h | exact h.elim) _ _ _ _ (qf2 _ _ _ _ ?_)
      exact qi4 hcons (Q:=λe a w=>match e with | .normal=>Q .normal a w | _=>False) hsel.1 (λc a w h=>h) hK _ _ κ st a _ (λj oj _ hl=>by rw [getD_replicate_false] at hl;cases hl) (λk f' _=>getD_replicate_false _ _) h hR.drew
   ·rw [hB3] at h
    refine qfh (C:=λw'=>Below w.heap.size w w') (q2e cons l) hB3 hC ?_
    refine q69 l hQ (hlater (N:=λa' w'=>wpList P l.toArray (Exit.then (λa2 w2=>wpQuiet P l.toArray (λx=>x=w2) (λa3=>Q .normal a3 w2) (l.drop (q2e cons l+1)) a2) Q) ((l.drop (q2e cons l)).take 1) a' w') ?_) _ κ st a h hR
    intro κ1 st1 a1 w1 h1 hR1;refine qgh (λo κ st a w K next h hR hF=>q5a hcons hR h hF) l (Q:=Exit.then _ Q) ?_ _ κ1 st1 a1 w1 h1 hR1
    intro κ2 st2 a2 w2 h2 hR2;exact q69 l (C:=λx=>x=w2) (λo κ st a K next h hR hF=>vopQ_none h hR hF) (λκ st a h hR=>hK _ _ _ _ h hR) _ κ2 st2 a2 h2 hR2
  ·rw [hB2] at h
   refine ql1 (C:=λw'=>Below w.heap.size w w') (q2e cons l) hB2 hC ?_
   refine q69 l hQ (hlater (N:=λa' w'=>wpList P l.toArray Q (l.drop (q2e cons l)) a' w') ?_) _ κ st a h hR
   intro κ1 st1 a1 w1 h1 hR1;exact qgh (λo κ st a w K next h hR hF=>q5a hcons hR h hF) l hK _ κ1 st1 a1 w1 h1 hR1
 ·rw [hB] at h
  rw [Q7] at hB;refine any_quiet (C:=λw'=>Below w.heap.size w w') hB.1 hC ?_
  simpa using q69 l hQ (hlater hK) _ κ st a h hR
end
end R
end Go.Proofs.YtlmbfijhkcmncaaGreatDoor

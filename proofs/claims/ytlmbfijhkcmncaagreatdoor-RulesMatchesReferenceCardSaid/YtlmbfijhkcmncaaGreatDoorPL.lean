/-
  Several texts in one: R12R, R13, R14, R15, R16, LexSpec, AlSpec, AlMem, PArgs, LexScan, LexGap, IndexAny.
-/
import Derived.Test.YtlmbfijhkcmncaaGreatDoorPK
import Derived.ProofKit
import Derived.Deep.Slices
import Derived.Test.YtlmbfijhkcmncaaGreatDoorPA
import Derived.Test.YtlmbfijhkcmncaaGreatDoorPB
import Derived.Test.YtlmbfijhkcmncaaGreatDoorPD
import Derived.WalkSmall
import Derived.Laws.Runes
import Derived.Laws.RangeAny
import Derived.Lib.OthersKept
open Go.Lib renaming indexByte→Q0,hid→Q3,indexByte_ge→Qo,iterAt_size→Qr,below_iterAt→Qv,size_eq→Qz,iterAt_heap→QS
open List renaming length_cons→Q7,getElem?_eq_getElem→Qa,drop_eq_nil_of_le→Qb,length_drop→Qe,take_of_length_le→Qg,getElem?_eq_none→Qi,length_eq_one_iff→Qn,drop_zero→QD,drop_drop→QE,take_succ_cons→QK,drop_succ_cons→QL,getElem?_map→QO,take_zero→QV
open Bool renaming and_eq_true→Q8,false_eq_true→Qs
open Nat renaming le_refl→Q9,lt_or_ge→Qh,lt_of_lt_of_le→Qj,not_lt→Qt,mul_one→Qx,eq_of_beq_eq_true→QA,ble→QC,blt→QU
open Array renaming getElem?_eq_some_iff→Qc,getElem?_toList→Qp,replicate→Qw,length_toList→QJ
open Go.Utf8 renaming decode→Qd,valid→Qq,runeError→QF
open Go.RowKit.Below renaming refl→Qf
open UInt8 renaming toNat_lt→Qk,ofNat→Qy
open Int renaming eq_ofNat_of_zero_le→Ql,toNat_natCast→Qm
open Option renaming isSome_iff_exists→Qu
open Go.World renaming cell?_of_block→QG,cells?_some→QN
open Go.DataW renaming trod→QH,trod_struct→QP
open Go.Value renaming cells→QQ
open Go.Exit renaming noGoto_ret→QR
open Go.Addr renaming add→QW
open Go.IntKind renaming i64→QY
set_option linter.unusedVariables false
namespace Go.Proofs.YtlmbfijhkcmncaaGreatDoor
open Go.RowKit
namespace R
structure RCon where
 f:FuncId
 ks:Kds
 args:List CK
 res:List CK
 pre:ks.Pay→Pays args→Prop
 F:ks.Pay→Pays args→Pays res×ks.Pay
 panics:Bool:=false
 pt:TypeId:=0
 pks:Kds:=.one .bool
 pan:ks.Pay→Pays args→Option pks.Pay:=λ_ _=>none
def rcOf (f:FuncId):List RCon→Option RCon
 | []=>none
 | c::r=>bif c.f.beq f then some c else rcOf f r
def St.dropB (st:St) (b:Nat):St:={ st with boxes:=q1q b st.boxes }
def asAVs:List Comp→List AV
 | []=>[]
 | x::r=>.c x::asAVs r
def qd8 (rcs:List RCon):Inl:=λf xs off st K KP =>
 bif QU f 1000000000 then match rcOf f rcs with
 | none=>False
 | some c=>match xs with
  | .one (.ptr b 0)::rest=>match st.box b with
   | some cs=>match q1e c.ks cs,q1r c.args (asAVs rest) with
    | some x,some p=>c.pre x p∧bif c.panics then (∀ y,c.pan x p=some y→KP (.dyn c.pt c.pks y) (st.dropB b))∧(c.pan x p=none→∀ (r:Pays c.res) (y:c.ks.Pay),c.F x p=(r,y)→K (q0u c.res r) (st.q7n b (c.ks.cells y)))
     else ∀ (r:Pays c.res) (y:c.ks.Pay),c.F x p=(r,y)→K (q0u c.res r) (st.q7n b (c.ks.cells y))
    | _,_=>False
   | none=>False
  | _=>False
 else False
section
variable {w0:Base} {w w':World} {κ:Cx} {st:St} {a:Act} {P:Program} {cons:List Con}
def RCon.Holds (P:Program) (c:RCon):Prop :=
 (∃ fn, P.funcs[c.f]? = some fn ∧ (fn.name == "runtime.NumGoroutine") = false ∧ fn.body.isNone = false) ∧
 ∀ (x:c.ks.Pay) (p:Pays c.args) (g:Nat) (ty:TypeId) (us:Array Value) (vs:List Value) (w:World) (S:Nat→Prop),(∀ g,S g→g<w.heap.size)→¬ S g→Blk w g ty us→q06 (Cx.of S) w (c.ks.cells x) us→c.pre x p→q0f (Cx.of S) w (q0u c.args p) vs →
  Calls P c.f (.pointer (some ⟨g,0,none⟩)::vs).toArray w λe w'=>w.grownBy w' (some g) ∧
   (((c.panics=true→c.pan x p=none)∧∃ v ty' us',e=.returned v∧(q1s c.res (c.F x p).1).Rep (Cx.of λg=>S g∨(w.heap.size≤g∧g<w'.heap.size)) w' v∧Blk w' g ty' us'∧q06 (Cx.of λg=>S g∨(w.heap.size≤g∧g<w'.heap.size)) w' (c.ks.cells (c.F x p).2) us') ∨
   (c.panics=true∧∃ y v,c.pan x p=some y∧e=.panicked [{ v:=v,recovered:=false }]∧Cell.Rep (Cx.of λg=>S g∨(w.heap.size≤g∧g<w'.heap.size)) w' (.dyn c.pt c.pks y) v))
theorem Rel.refDrop (h:Rel w0 κ st a w) {b:Nat} {cs:List Cell} (hb:st.box b=some cs) (hg:w.grownBy w' (some (κ.β b))) :
  Rel w0 { κ with S:=λg=>κ.S g∨(w.heap.size≤g∧g<w'.heap.size) } (st.dropB b) a w':=by
 obtain ⟨us0,ty0,hblk0,hr0,hge,hS⟩:=h.box b cs hb;have hsize:w.heap.size≤w'.heap.size:=hg.size;have hkeep:Keeps w w' κ.S:=⟨hsize,λg o hs hlt=>QG (hg.block g hlt (λe=>by injection e with e;exact hS (e▸hs)))⟩
 have H:∀ (c:Cell) v,c.Rep κ w v→c.Rep { κ with S:=λg=>κ.S g∨(w.heap.size≤g∧g<w'.heap.size) } w' v:=λc v hr =>
  Cell.Rep.keeps (κ:=κ) (κ':={ κ with S:=λg=>κ.S g∨(w.heap.size≤g∧g<w'.heap.size) }) rfl rfl rfl hkeep (λg hg _=>.inl hg) hr
 have hbox:∀ b' bs,(st.dropB b).box b'=some bs→b'≠b∧st.box b'=some bs:=λb' bs hx=>by
  have hx:look? b' (q1q b st.boxes)=some bs:=hx;rw [look?_dropKey] at hx;by_cases e:b'=b
  ·rw [if_pos e] at hx;cases hx
  ·rw [if_neg e] at hx;exact ⟨e,hx⟩
 exact {
  defers:=h.defers
  size:=h.size
  env:=λt=>AV.Rep.mono H (h.env t)
  box:=λb' bs hx=>by
   obtain ⟨hne,hx⟩:=hbox b' bs hx;obtain ⟨us,ty,hblk,hr,h1,h2⟩:=h.box b' bs hx;have hne':κ.β b'≠κ.β b:=λe=>hne (h.apart b' b bs cs hx hb e)
   refine ⟨us,ty,(hg.block _ hblk.lt (λe=>by injection e with e;exact hne' e)).trans hblk,hr.mono H,h1,λhh=>?_⟩
   have hlt:=hblk.lt;rcases hh with hh | ⟨hh,_⟩
   ·exact h2 hh
   ·exact absurd hlt (Qt.2 hh)
  apart:=λb1 b2 c1 c2 h1 h2 e=>h.apart b1 b2 c1 c2 (hbox b1 c1 h1).2 (hbox b2 c2 h2).2 e
  row:=λr x hx=>by
   obtain ⟨cells,ho,hc,hn⟩:=h.row r x hx;refine ⟨cells,ho.kept hg ?_,q0k.keeps (κ:=κ) (κ':={ κ with S:=λg=>κ.S g∨(w.heap.size≤g∧g<w'.heap.size) }) hkeep (λg hg _=>.inl hg) hc,λg hg'=>⟨λhh=>?_,λb' bs hx'=>(hn g hg').2 b' bs (hbox b' bs hx').2⟩⟩
   ·cases hb':(κ.ρ r).ownBlock with
    | none=>exact .inl rfl
    | some g =>
     refine .inr λe=>?_
     injection e with e;exact (hn g hb').2 b cs hb e.symm
   ·have hlt:=q3v ho g hg'
    rcases hh with hh | ⟨hh,_⟩
    ·exact (hn g hg').1 hh
    ·exact absurd hlt (Qt.2 hh)
  rows:=h.rows
  bound:=λg hg=>by
   rcases hg with hg | ⟨_,hg⟩
   ·exact Qj (h.bound g hg) hsize
   ·exact hg
  below:=⟨hg.os.trans h.below.os,hg.tape.trans h.below.tape,hg.output.trans h.below.output,Nat.le_trans h.below.size hsize,λk hk hx =>
   (hg.block k (Qj hk h.low) (λe=>by
    injection e with e;rcases hge with hge | hge
    ·omega
    ·exact hx (e▸hge))).trans (h.below.block k hk hx)⟩
  old:=λg hg=>by
   rcases hg with hg | ⟨hg,_⟩
   ·exact h.old g hg
   ·exact .inr (Nat.le_trans h.low hg)
  ext:=h.ext.move (g:=id) (λc v hr=>AV.Rep.mono H hr) (λt=>rfl) ⟨rfl,rfl,rfl,rfl⟩ rfl (λk p v hr=>H (.val k p) v hr) (λg1 o ho hh=>(hg.block g1 (Qc.1 hh).1 (λe=>by
   injection e with e;rw [e,show w.heap[κ.β b]? = _ from hblk0] at hh;injection hh with hh;rw [← hh] at ho;cases ho)).trans hh)
   (λg1 hs hl=>hg.block g1 hl (λe=>by injection e with e;exact hs.2.1 b cs hb e.symm))
   (λg1 hs hl=>⟨λhh=>hh.elim hs.1 (λh=>absurd hl (Qt.2 h.1)),λb' bs hx=>hs.2.1 b' bs (hbox b' bs hx).2,hs.2.2⟩) rfl (qa9 _) }
theorem Rel.refBack {b:Nat} (h:Rel w0 κ (st.dropB b) a w) {cs:List Cell} {us:Array Value} {ty:TypeId} (hblk:Blk w (κ.β b) ty us) (hv:q06 κ w cs us) (hge:w0.n0≤κ.β b∨w0.X (κ.β b)) (hS:¬ κ.S (κ.β b))
  (hap:∀ b' bs,b'≠b→st.box b'=some bs→κ.β b'≠κ.β b) (hrow:∀ r x,st.row r=some x→∀ g,(κ.ρ r).ownBlock=some g→κ.β b≠g) (hfam:∀ y,st.fam=some y→FamRep w0.n0 κ ((b,cs)::st.boxes) st.rows st.maps w y):Rel w0 κ (st.q7n b cs) a w:=by
 have hbox:∀ b' bs',(st.q7n b cs).box b'=some bs'→(b'=b∧bs'=cs)∨(b'≠b∧st.box b'=some bs'∧(st.dropB b).box b'=some bs'):=λb' bs' hx=>by
  have hx:look? b' ((b,cs)::st.boxes)=some bs':=hx;rw [look?_cons] at hx;by_cases e:b=b'
  ·rw [if_pos e] at hx;injection hx with hx;exact .inl ⟨e.symm,hx.symm⟩
  ·rw [if_neg e] at hx
   refine .inr ⟨λh=>e h.symm,hx,?_⟩
   show look? b' (q1q b st.boxes)=_;rw [look?_dropKey,if_neg (λh=>e h.symm)];exact hx
 exact {
  defers:=h.defers
  size:=h.size
  env:=h.env
  box:=λb' bs' hx=>by
   rcases hbox b' bs' hx with ⟨rfl,rfl⟩ | ⟨_,_,hx⟩
   ·exact ⟨us,ty,hblk,hv,hge,hS⟩
   ·exact h.box b' bs' hx
  apart:=λb1 b2 c1 c2 h1 h2 e=>by
   rcases hbox b1 c1 h1 with ⟨rfl,_⟩ | ⟨n1,x1,y1⟩ <;> rcases hbox b2 c2 h2 with ⟨rfl,_⟩ | ⟨n2,x2,y2⟩
   ·rfl
   ·exact absurd e.symm (hap b2 c2 n2 x2)
   ·exact absurd e (hap b1 c1 n1 x1)
   ·exact h.apart b1 b2 c1 c2 y1 y2 e
  row:=λr x hx=>by
   obtain ⟨cells,ho,hc,hn⟩:=h.row r x hx;refine ⟨cells,ho,hc,λg hg=>⟨(hn g hg).1,λb' bs' hb' e=>?_⟩⟩
   rcases hbox b' bs' hb' with ⟨rfl,_⟩ | ⟨_,_,y⟩
   ·exact hrow r x hx g hg e
   ·exact (hn g hg).2 b' bs' y e
  rows:=h.rows
  bound:=h.bound
  below:=h.below
  old:=h.old
  ext:=⟨h.ext.sav,h.ext.map,h.ext.maps,h.ext.nest,h.ext.iter,h.ext.iters,hfam,h.ext.excl,h.ext.marks,h.ext.fresh,h.ext.busy,h.ext.lps,h.ext.lpsd,h.ext.scope⟩ }
theorem rcOf_spec {f:FuncId} {c:RCon}:∀ {rcs:List RCon},rcOf f rcs=some c→c∈rcs∧c.f=f
 | [],h=>by cases h
 | x::r,h=>by
  have h:(bif x.f.beq f then some x else rcOf f r)=some c:=h
  cases e:x.f.beq f
  ·rw [e] at h
   obtain ⟨h1,h2⟩:=rcOf_spec (rcs:=r) h;exact ⟨List.mem_cons_of_mem _ h1,h2⟩
  ·rw [e] at h
   injection h with h;subst h;exact ⟨List.mem_cons_self,QA e⟩
theorem qkg:∀ (l:List Comp) (us:List Value),q0f κ w l us→us.length=(asAVs l).length∧∀ (i:Nat) x,(asAVs l)[i]? = some x→∃ u,us[i]? = some u∧x.Rep κ w u
 | [],us,h=>⟨h.1,λi x hx=>by cases hx⟩
 | y::r,us,h=>by
  cases us with
  | nil=>have:=h.1;cases this
  | cons u us =>
   have h':q0f κ w r us:=⟨by have:=h.1;simpa using this,λi c hc=>h.2 (i+1) c hc⟩
   have ih:=qkg r us h';refine ⟨by show us.length+1=(asAVs r).length+1;rw [ih.1],λi x hx=>?_⟩
   cases i with
   | zero =>
    injection hx with hx;subst hx;obtain ⟨u',hu,hr⟩:=h.2 0 _ rfl;exact ⟨u',hu,hr⟩
   | succ i=>exact ih.2 i x hx
theorem qa3 {κ':Cx} (ks:Kds) (p:ks.Pay) (hS:κ'.S=κ.S) {vs:Array Value} (h:q06 κ w (ks.cells p) vs):q06 κ' w (ks.cells p) vs:=h.plain (qd5 ks p) hS
theorem qkp {C:Nat→Option (Code×Code)} {rcs:List RCon}:q50 P C (qd8 rcs):=by
 intro w0 hag j xs off st K KP κ a w vs h;have hj:QU (1000000000+j) 1000000000=false:=Bool.eq_false_iff.mpr λe=>by rw [Nat.blt_eq] at e;omega
 have h:(bif QU (1000000000+j) 1000000000 then _ else False):=h
 rw [hj] at h;exact h.elim
theorem refInl_ok {C:Nat→Option (Code×Code)} {rcs:List RCon} (hrcs:∀ c∈rcs,c.Holds P):q34 P C (qd8 rcs):=by
 intro w0 hag f hf0 xs off st K KP κ a w vs h hR hvs;have hlt:QU f 1000000000=true:=by rw [Nat.blt_eq];exact hf0
 unfold qd8 at h;rw [hlt] at h;rw [cond_true] at h;split at h
 ·exact h.elim
 ·rename_i c hc
  obtain ⟨hmem,rfl⟩:=rcOf_spec hc;split at h
  ·rename_i b rest
   split at h
   ·rename_i cs hcs
    split at h
    ·rename_i x p hx hp
     obtain ⟨hpre,hk⟩:=h;obtain ⟨us,ty,hblk,hr,hge,hS⟩:=hR.box b cs hcs;cases vs with
     | nil=>have:=hvs.1;cases this
     | cons v vs =>
      obtain ⟨v',hv',hv⟩:=hvs.2 0 _ rfl;injection hv' with hv';subst hv';have hv:v=.pointer (some ⟨κ.β b,0,none⟩):=hv;subst hv;have hrest:q0f κ w rest vs:=⟨by have:=hvs.1;simpa using this,λi c hc=>hvs.2 (i+1) c hc⟩
      obtain ⟨e1,e2⟩:=qkg rest vs hrest;have hargs:=qb1 (κ:=κ) (w:=w) c.args _ p hp vs e1 e2;have hus:=q4d c.ks cs x us.toList hx (by simpa using hr)
      have hus:q06 κ w (c.ks.cells x) us:=by simpa using hus
      obtain ⟨hfn,hcall⟩:=hrcs c hmem;refine ⟨hfn,?_⟩;refine (hcall x p (κ.β b) ty us vs w κ.S hR.bound hS hblk (qa3 (κ:=κ) (κ':=Cx.of κ.S) _ _ rfl hus) hpre (q7o c.args p (κ:=κ) (κ':=Cx.of κ.S) rfl hargs)).mono ?_;rintro e w' ⟨hg,hcase⟩;have hd:=hR.refDrop hcs hg;rcases hcase with ⟨hnp,v,ty',us',rfl,hv,hb',hc'⟩ | ⟨hp1,y,v,hy,rfl,hv⟩
      ·left
       have hK:K (q0u c.res (c.F x p).1) (st.q7n b (c.ks.cells (c.F x p).2)):=by
        cases hpp:c.panics
        ·rw [hpp] at hk;exact hk _ _ rfl
        ·rw [hpp] at hk;exact hk.2 (hnp hpp) _ _ rfl
       refine ⟨v,_,{ κ with S:=λg=>κ.S g∨(w.heap.size≤g∧g<w'.heap.size) },_,rfl,hK,?_,?_⟩
       ·refine hd.refBack hb' (qa3 (κ:=Cx.of λg=>κ.S g∨(w.heap.size≤g∧g<w'.heap.size)) (κ':={ κ with S:=λg=>κ.S g∨(w.heap.size≤g∧g<w'.heap.size) }) _ _ rfl hc') hge (λhh=>?_) (λb' bs hne hb e=>hne (hR.apart b' b bs cs hb hcs e)) (λr z hz g hg'=>?_) (λy hy=>?_)
        ·have hlt:=hblk.lt
         rcases hh with hh | ⟨hh,_⟩
         ·exact hS hh
         ·exact absurd hlt (Qt.2 hh)
        ·obtain ⟨_,_,_,hn⟩:=hR.row r z hz
         exact (hn g hg').2 b cs hcs
        ·have hkeep:Keeps w w' κ.S:=⟨hg.size,λg o hs hlt=>QG (hg.block g hlt (λe=>by injection e with e;exact hS (e▸hs)))⟩
         refine (hR.ext.fam y hy).move rfl rfl ⟨rfl,rfl⟩ (λk p v hr=>Kd.Rep.keeps (S':=λg=>κ.S g∨(w.heap.size≤g∧g<w'.heap.size)) hkeep (λg hg _=>.inl hg) k p v hr) (λes c hh=>(hg.block _ (Qc.1 hh).1 (λe=>by
          injection e with e;rw [e,show w.heap[κ.β b]? = _ from hblk] at hh;cases hh)).trans hh)
          (λg1 hs hl _=>hg.block g1 hl (λe=>by injection e with e;exact hs.2.1 b cs hcs e.symm)) (λg1 hs hl=>⟨λhh=>hh.elim hs.1 (λh=>absurd hl (Qt.2 h.1)),λb' bs hx=>?_,hs.2.2⟩) (hR.ext.fam y hy).apart
         rw [look?_cons] at hx;split at hx
         ·rename_i e;subst e;exact hs.2.1 _ cs hcs
         ·exact hs.2.1 b' bs hx
       ·exact qa7 (κ:=Cx.of λg=>κ.S g∨(w.heap.size≤g∧g<w'.heap.size)) (κ':={ κ with S:=λg=>κ.S g∨(w.heap.size≤g∧g<w'.heap.size) }) c.res _ rfl hv
      ·right
       rw [hp1] at hk;refine ⟨_,v,_,_,rfl,hk.1 y hy,hd,?_⟩;obtain ⟨vs',rfl,h1,h2⟩:=hv;exact ⟨vs',rfl,h1,h2⟩
    ·exact h.elim
   ·exact h.elim
  ·exact h.elim
def qjl (fn:Func) (c:RCon) (x:c.ks.Pay) (p:Pays c.args):St:={ n:=fn.ntmps,env:=envOf 0 (.one (.ptr 0 0)::q0u c.args p),boxes:=[(0,c.ks.cells x)],rows:=[],sav:=[(0,.c (.one (.ptr 0 0)))] }
def qbf (P:Program) (fn:Func) (c:RCon) (x:c.ks.Pay) (p:Pays c.args) (st:St):Prop :=
 match look (.c (.one .any)) 0 (st.q08 (keysOf st.rows)).sav,(st.q08 (keysOf st.rows)).box 0,qdc P (st.q08 (keysOf st.rows)) fn.results.toList with
 | .c (.one (.ptr 0 0)),some cs,some xs=>match q1e c.ks cs,q1r c.res xs with
  | some y,some r=>(bif c.panics then c.pan x p=none else True)∧r=(c.F x p).1∧y=(c.F x p).2
  | _,_=>False
 | _,_,_=>False
def qf7 (c:RCon) (x:c.ks.Pay) (p:Pays c.args) (d:Cell) (st:St):Prop :=
 match d with
 | .dyn t ks y=>bif c.panics&&t.beq c.pt then (match ks.deq c.pks with | some ⟨h⟩=>c.pan x p=some (h▸y) | none=>False) else False
 | _=>False
theorem ref_of_vc (c : RCon) {fn : Func} (hf : P.funcs[c.f]? = some fn) (hb : fn.body.isSome = true) (hname : (fn.name == "runtime.NumGoroutine") = false) (hm : P.follows .mixedOrders = true)
  (hargs:QC (c.args.length+1) fn.ntmps=true) (hcons:∀ c∈cons,c.Holds P) {HH:Inl→Inl} (hHH:HOk P HH) {B:Inl} (hB:q34 P (λ_=>none) B) (hY:q50 P (λ_=>none) B) (anns:c.ks.Pay→Pays c.args→List (Nat×Ann))
  (hvc:∀ x p,c.pre x p→vc P cons (anns x p) HH B (codeOf fn) 0 (qjl fn c x p) { normal:=qbf P fn c x p,exit:=λ_ _=>False,ret:=qbf P fn c x p,panic:=qf7 c x p }):c.Holds P:=by
 obtain ⟨code,hcode⟩:=Qu.1 hb;have hco:codeOf fn=code:=by unfold codeOf;rw [hcode];rfl
 refine ⟨⟨fn,hf,hname,by rw [hcode];rfl⟩,λx p g ty us vs w S hS hnS hblk hus hpre hvs=>?_⟩
 refine (callsIn_wide (n:=0)).1 (callsIn_of_wp_marks hf hcode trivial ?_);rw [← hco];have hlen:∀ (l:List CK) (p:Pays l),(q0u l p).length=l.length:=by
  intro l
  induction l with
  | nil=>intro p;rfl
  | cons x l ih =>
   cases l with
   | nil=>intro p;rfl
   | cons y r=>intro p;show (q0u (y::r) p.2).length+1=_;rw [ih p.2];rfl
 have hle:vs.length+1≤fn.ntmps:=by
  rw [hvs.1,hlen];exact Nat.le_of_ble_eq_true hargs
 let w0:Base:={ toWorld:=w,S0:=S,sv:=λ_=>.pointer (some ⟨g,0,none⟩),n0:=w.heap.size,low:=Q9 _,X:=λk=>k=g }
 let κ:Cx:={ β:=λ_=>g,ρ:=λ_=>Go.undef,S:=S }
 have hvs':q0f κ w (.one (.ptr 0 0)::q0u c.args p) (.pointer (some ⟨g,0,none⟩)::vs):=by
  have h2:q0f κ w (q0u c.args p) vs:=q7o c.args p (κ:=Cx.of S) (κ':=κ) rfl hvs;refine ⟨by rw [Q7,Q7,h2.1],λi c hc=>?_⟩
  cases i with
  | zero=>injection hc with hc;subst hc;exact ⟨_,rfl,rfl⟩
  | succ i=>exact h2.2 i c hc
 have hR:Rel w0 κ (qjl fn c x p) { tmps:=(.pointer (some ⟨g,0,none⟩)::vs).toArray++Qw (fn.ntmps-(.pointer (some ⟨g,0,none⟩)::vs).toArray.size) Go.undef,defers:=[] } w:={
  defers:=⟨[],rfl,List.nodup_nil,λD hD=>by cases hD⟩
  size:=by
   show ((.pointer (some ⟨g,0,none⟩)::vs).toArray++Qw (fn.ntmps-(.pointer (some ⟨g,0,none⟩)::vs).toArray.size) Go.undef).size=fn.ntmps;rw [Array.size_append,Array.size_replicate];simp;omega
  env:=λt=>qgw hvs' _ t
  box:=λb cs h=>by
   have h:look? b [(0,c.ks.cells x)]=some cs:=h;rw [look?_cons] at h;split at h
   ·injection h with h;subst h
    exact ⟨us,ty,hblk,qa3 (κ:=Cx.of S) (κ':=κ) _ _ rfl hus,.inr rfl,hnS⟩
   ·cases h
  apart:=λb b' cs cs' h h' _=>by
   have h:look? b [(0,c.ks.cells x)]=some cs:=h;have h':look? b' [(0,c.ks.cells x)]=some cs':=h';rw [look?_cons] at h h';split at h
   ·split at h'
    ·omega
    ·cases h'
   ·cases h
  row:=λr x h=>by cases h
  rows:=λr r' x x' h=>by cases h
  bound:=hS
  below:=.of_below (q03 w)
  old:=λg hg=>.inl hg
  ext:=⟨λt=>by
   show AV.Rep _ _ (look _ t [(0,.c (.one (.ptr 0 0)))]) _;rw [q0v];split
   ·rfl
   ·trivial,(λm y h=>by cases h),(λm m' y y' h=>by cases h),(λy h=>by cases h),(λi z h=>by cases h),(λi j z z' h=>by cases h),(λy h=>by cases h),.inl rfl,λD hD=>(hD.elim id id).elim,λD hD=>hD.elim,λl hl=>hl.elim,λi L h=>(by cases h),λi k L L' h=>(by cases h),λj hj=>hj.elim⟩ }
 have hgrow:∀ {κ:Cx} {st:St} {a:Act} {w':World},Rel w0 κ st a w'→w.grownBy w' (some g):=λhR=>⟨hR.below.os,hR.below.tape,hR.below.output,hR.below.size,λk hk hne=>hR.below.block k hk (λe=>hne (by rw [show k=g from e]))⟩
 obtain ⟨R,hRR⟩:∃ R:Ending→World→Prop,R=λe w'=>w.grownBy w' (some g) ∧
   (((c.panics=true→c.pan x p=none)∧∃ v' ty' us',e=.returned v'∧(q1s c.res (c.F x p).1).Rep (Cx.of λg=>S g∨(w.heap.size≤g∧g<w'.heap.size)) w' v'∧Blk w' g ty' us'∧q06 (Cx.of λg=>S g∨(w.heap.size≤g∧g<w'.heap.size)) w' (c.ks.cells (c.F x p).2) us') ∨
   (c.panics=true∧∃ y v',c.pan x p=some y∧e=.panicked [{ v:=v',recovered:=false }]∧Cell.Rep (Cx.of λg=>S g∨(w.heap.size≤g∧g<w'.heap.size)) w' (.dyn c.pt c.pks y) v')):=⟨_,rfl⟩
 rw [← hRR];have hfin:∀ (κ:Cx) (st:St) (a:Act) (w':World),qbf P fn c x p st→Rel w0 κ st a w'→LeavesInM Fence.wide 0 P fn a.tmps R a.defers .returning w':=λκ st a w' h hR=>by
  refine q7i (by simp) hR (λM' w' hR _=>?_)
  rw [hRR];unfold qbf at h;obtain ⟨κ1,hR⟩:=Rel.q08 (keysOf st.rows) hR;split at h
  ·rename_i cs xs hsav hbox hres
   split at h
   ·rename_i y r hy hr
    obtain ⟨hp,hr1,hy1⟩:=h;obtain ⟨us1,h1,h2,h3⟩:=qb3 hR fn.results.toList xs hres;have hrep:=qb1 (κ:=κ1) (w:=w') c.res xs r hr us1 h1 h2;have hrun:(results fn a.tmps).run P w'=.ok (if h:us1.toArray.size=1 then us1.toArray[0] else .tuple us1.toArray) w':=by
     unfold results;rw [Sem.run_bind,Array.mapM_eq_mapM_toList,Sem.run_map]
     erw [h3]
     rfl
    have hβ:κ1.β 0=g:=by
     have:=hR.ext.sav 0
     rw [hsav] at this;have this:Value.pointer (some ⟨g,0,none⟩)=.pointer (some ⟨κ1.β 0,0,none⟩):=this;injection this with this;injection this with this;injection this with this;exact this.symm
    obtain ⟨us2,ty2,hblk2,hr2,_,_⟩:=hR.box 0 cs hbox;rw [hβ] at hblk2;have hcs:=q4d c.ks cs y us2.toList hy (by simpa using hr2)
    have hcs:q06 κ1 w' (c.ks.cells y) us2:=by simpa using hcs
    have hmono:∀ (c:Cell) v,c.Rep (Cx.of κ1.S) w' v→c.Rep (Cx.of λg=>S g∨(w.heap.size≤g∧g<w'.heap.size)) w' v:=λc v hc =>
     Cell.Rep.keeps (κ:=Cx.of κ1.S) (κ':=Cx.of λg=>S g∨(w.heap.size≤g∧g<w'.heap.size)) rfl rfl rfl (Keeps.refl w' _) (λk hk hlt=>(hR.old k hk).imp id (λh=>⟨h,hlt⟩)) hc
    refine ⟨_,hrun,hgrow hR,.inl ⟨λhpp=>?_,_,ty2,us2,rfl,?_,hblk2,?_⟩⟩
    ·rw [hpp] at hp;exact hp
    ·rw [← hr1]
     have:(q1s c.res r).Rep κ1 w' (if h:us1.toArray.size=1 then us1.toArray[0] else .tuple us1.toArray):=by
      unfold q1s;split
      ·rename_i z hz
       rw [hz] at hrep;have hl:us1.length=1:=hrep.1;obtain ⟨u,rfl⟩:=Qn.1 hl;obtain ⟨u',hu,hxr⟩:=hrep.2 0 z rfl;injection hu with hu;subst hu;exact hxr
      ·rename_i ys hne
       have hl:us1.length=(q0u c.res r).length:=hrep.1;have hn:us1.toArray.size≠1:=λe=>by
        have e:us1.length=1:=by simpa using e
        rw [hl] at e;obtain ⟨y,hy⟩:=Qn.1 e;exact hne y hy
       rw [dif_neg hn];exact ⟨us1.toArray,rfl,by simpa using hl,λi x hx=>by
        obtain ⟨u,hu,hxr⟩:=hrep.2 i x hx;exact ⟨u,by simpa using hu,hxr⟩⟩
     exact AV.Rep.mono hmono (qa7 (κ:=κ1) (κ':=Cx.of κ1.S) c.res r rfl this)
    ·rw [← hy1]
     exact q06.mono hmono (qa3 (κ:=κ1) (κ':=Cx.of κ1.S) _ _ rfl hcs)
   ·exact h.elim
  ·exact h.elim
 refine qjm (anns:=anns x p) hm hcons hHH (codeOf fn) B (λ_=>none) hB hY 0 w0 ⟨λj c h=>(by cases h),λl h=>(by cases h)⟩ 0 _ _ _ κ _ w (hvc x p hpre) hR ⟨λκ st a w' h hR=>hfin κ st a w' h hR,λid κ st a w' h hR=>h.elim,λκ st a w' h hR=>hfin κ st a w' h hR,?_,?_⟩
 rotate_left
 ·intro a w' h
  have h:R .outgrown w':=h;rw [hRR] at h;rcases h.2 with ⟨_,v',ty',us',h,_⟩ | ⟨_,y,v',_,h,_⟩ <;> cases h
 intro κ0 st a w' d v h hR hd;refine q7i (by simp) hR (λM' w' hR hmono=>?_)
 obtain ⟨κ1,rfl⟩:∃ κ1:Cx,κ1=κ0.ctl κ0.μ.lam κ0.μ.tau M':=⟨_,rfl⟩;replace hd:=hmono d v hd;rw [hRR];refine ⟨hgrow hR,.inr ?_⟩;have h:qf7 c x p d st:=h;unfold qf7 at h;cases d with
 | dyn t ks y =>
  dsimp only at h;cases hb:c.panics&&t.beq c.pt
  ·rw [hb] at h;exact h.elim
  ·rw [hb] at h
   rw [Q8] at hb;have h:(match ks.deq c.pks with | some ⟨h⟩=>c.pan x p=some (h▸y) | none=>False):=h
   split at h
   ·rename_i e _
    refine ⟨hb.1,_,v,h,rfl,?_⟩;have ht:=QA hb.2;obtain ⟨vs',hv,h1,h2⟩:=hd;rw [← ht];have key:∀ (ks':Kds) (e:ks=ks'),Cell.Rep (Cx.of λg=>S g∨(w.heap.size≤g∧g<w'.heap.size)) w' (.dyn t ks' (e▸y)) v:=by
     intro ks' e;subst e;refine ⟨vs',hv,h1,λf z hz=>?_⟩
     obtain ⟨u,hu,hr⟩:=h2 f z hz;exact ⟨u,hu,Kd.Rep.keeps (S:=κ0.S) (Keeps.refl w' _) (λk hk hlt=>(hR.old k hk).imp id (λh=>⟨h,hlt⟩)) _ _ _ hr⟩
    exact key _ e
   ·exact h.elim
 | _=>exact h.elim
end
end R
namespace R
def vcOfH (P:Program) (cons:List Con) (HH:Inl→Inl) (B:Inl) (anns:List (Nat×Ann)) (c:Con) (fn:Func) (p:Pays c.args):Prop :=
 vc P cons anns HH B (codeOf fn) 0 (startOf fn (q0u c.args p)) { normal:=q9s P fn c p,exit:=λ_ _=>False,ret:=q9s P fn c p }
noncomputable def vcOfR (P:Program) (cons:List Con) (rcs:List RCon) (inls:List (Nat×Func)) (annsI:Nat→List (Nat×Ann)) (anns:List (Nat×Ann)) (c:Con) (fn:Func) (p:Pays c.args):Prop:=vcOfH P cons (inlOf P cons inls annsI 8) (qd8 rcs) anns c fn p
def vcOf (P:Program) (cons:List Con) (anns:List (Nat×Ann)) (c:Con) (fn:Func) (p:Pays c.args):Prop:=vcOfH P cons (λB=>B) noInl anns c fn p
theorem holdsH {P : Program} {cons : List Con} (c : Con) {fn : Func} (hf : P.funcs[c.f]? = some fn) (hb : fn.body.isSome = true) (hname : (fn.name == "runtime.NumGoroutine") = false) (hm : P.follows .mixedOrders = true)
  (hargs:QC c.args.length fn.ntmps=true) (hcons:∀ c∈cons,c.Holds P) {HH:Pays c.args→Inl→Inl} (hHH:∀ p,HOk P (HH p)) {B:Inl} (hB:q34 P (λ_=>none) B) (hY:q50 P (λ_=>none) B) (anns:Pays c.args→List (Nat×Ann)) (hfn:∀ F,c.fn=some F→∀ p r,c.post p r→r=F p) (hvc:∀ p,c.pre p→vcOfH P cons (HH p) B (anns p) c fn p):c.Holds P:=by
 obtain ⟨code,hcode⟩:=Qu.1 hb;refine holds_of_vc (code:=code) c hf hcode hname hm hargs hcons hHH hB hY anns hfn λp hp=>?_
 have:=hvc p hp
 unfold vcOfH codeOf at this;rw [hcode] at this;exact this
theorem holds {P : Program} {cons : List Con} (c : Con) {fn : Func} (hf : P.funcs[c.f]? = some fn) (hb : fn.body.isSome = true) (hname : (fn.name == "runtime.NumGoroutine") = false) (hm : P.follows .mixedOrders = true)
  (hargs:QC c.args.length fn.ntmps=true) (hcons:∀ c∈cons,c.Holds P) (anns:Pays c.args→List (Nat×Ann)) (hfn:∀ F,c.fn=some F→∀ p r,c.post p r→r=F p) (H:∀ p,c.pre p→vcOf P cons (anns p) c fn p):c.Holds P :=
 holdsH c hf hb hname hm hargs hcons (λ_=>HOk.id) noInl_ok noInl_yld anns hfn H
theorem q20 {P : Program} {cons : List Con} {f : FuncId} {args res : List CK} {pre : Pays args → Prop} {F : Pays args → Pays res} {fn : Func} (hf : P.funcs[f]? = some fn) (hb : fn.body.isSome = true) (hname : (fn.name == "runtime.NumGoroutine") = false) (hm : P.follows .mixedOrders = true)
  (hargs:QC args.length fn.ntmps=true) (hcons:∀ c∈cons,c.Holds P) (anns:Pays args→List (Nat×Ann)) (H:∀ p,pre p→vcOf P cons (anns p) (Con.of f args res pre F) fn p):(Con.of f args res pre F).Holds P :=
 holds (Con.of f args res pre F) hf hb hname hm hargs hcons anns (λF' h p r hr=>by injection h with h;subst h;exact hr) H
theorem holdsFR {P : Program} {cons : List Con} {rcs : List RCon} {inls : List (Nat × Func)} {annsI : Nat → List (Nat × Ann)} {f : FuncId} {args res : List CK} {pre : Pays args → Prop} {F : Pays args → Pays res} {fn : Func} (hf : P.funcs[f]? = some fn) (hb : fn.body.isSome = true) (hname : (fn.name == "runtime.NumGoroutine") = false) (hm : P.follows .mixedOrders = true)
  (hargs:QC args.length fn.ntmps=true) (hcons:∀ c∈cons,c.Holds P) (hrcs:∀ c∈rcs,c.Holds P) (hin:q2b P inls) (anns:Pays args→List (Nat×Ann)) (H:∀ p,pre p→vcOfR P cons rcs inls annsI (anns p) (Con.of f args res pre F) fn p):(Con.of f args res pre F).Holds P :=
 holdsH (Con.of f args res pre F) hf hb hname hm hargs hcons (λ_=>qj5 hm hcons hin annsI 8) (refInl_ok hrcs) qkp anns (λF' h p r hr=>by injection h with h;subst h;exact hr) H
noncomputable def vcRef (P:Program) (cons:List Con) (rcs:List RCon) (inls:List (Nat×Func)) (annsI:Nat→List (Nat×Ann)) (anns:List (Nat×Ann)) (c:RCon) (fn:Func) (b:c.ks.Pay) (p:Pays c.args):Prop :=
 vc P cons anns (inlOf P cons inls annsI 8) (qd8 rcs) (codeOf fn) 0 (qjl fn c b p) { normal:=qbf P fn c b p,exit:=λ_ _=>False,ret:=qbf P fn c b p,panic:=qf7 c b p }
theorem q64 {P : Program} {cons : List Con} {rcs : List RCon} {inls : List (Nat × Func)} {annsI : Nat → List (Nat × Ann)} (c : RCon) {fn : Func} (hf : P.funcs[c.f]? = some fn) (hb : fn.body.isSome = true) (hname : (fn.name == "runtime.NumGoroutine") = false) (hm : P.follows .mixedOrders = true)
  (hargs:QC (c.args.length+1) fn.ntmps=true) (hcons:∀ c∈cons,c.Holds P) (hrcs:∀ c∈rcs,c.Holds P) (hin:q2b P inls) (anns:c.ks.Pay→Pays c.args→List (Nat×Ann)) (H:∀ b p,c.pre b p→vcRef P cons rcs inls annsI (anns b p) c fn b p):c.Holds P :=
 ref_of_vc c hf hb hname hm hargs hcons (qj5 hm hcons hin annsI 8) (refInl_ok hrcs) qkp anns H
end R
namespace R
def St.strOf (st:St) (t:Nat):List UInt8 :=
 match st.get t with
 | .c (.one (.val .str s))=>s
 | _=>[]
def St.intOf (st:St) (t:Nat):Int :=
 match st.get t with
 | .c (.one (.val (.int _) n))=>n
 | _=>0
def annS (l:Nat) (ι:Type) (live:List Nat) (over:ι→List (Nat×AV)) (rows:ι→List (Nat×Row)) (inv:St→ι→Prop) (mu:St→ι→Nat):Nat×Ann:=(l,{ ι:=ι,at_:=λst p=>st.head live (over p) (rows p),inv:=inv,mu:=mu })
abbrev zFit (x:Int):Prop:=(-9223372036854775808:Int)≤x∧x≤(9223372036854775807:Int)
abbrev zE {α:Sort _} (x:α):Prop:=x=x
abbrev zT3:Prop:=True∧True∧True
abbrev zT4:Prop:=True∧True∧True∧True
abbrev zT5:Prop:=True∧True∧True∧True∧True
abbrev zT6:Prop:=True∧True∧True∧True∧True∧True
abbrev zT7:Prop:=True∧True∧True∧True∧True∧True∧True
abbrev zT8:Prop:=True∧True∧True∧True∧True∧True∧True∧True
abbrev zT9:Prop:=True∧True∧True∧True∧True∧True∧True∧True∧True
abbrev zT10:Prop:=True∧True∧True∧True∧True∧True∧True∧True∧True∧True
abbrev zT11:Prop:=True∧True∧True∧True∧True∧True∧True∧True∧True∧True∧True
abbrev zT12:Prop:=True∧True∧True∧True∧True∧True∧True∧True∧True∧True∧True∧True
theorem bifP {b:Bool} {A B:Prop} (ht:b=true→A) (hf:b=false→B):bif b then A else B:=by
 cases b
 ·exact hf rfl
 ·exact ht rfl
theorem comp_one {κ:Cx} {w:World} {k:Kd} {p:k.Pay} {vs:List Value} (h:q0f κ w [.one (.val k p)] vs):∃ v,vs=[v]∧k.Rep w κ.S p v:=by
 obtain ⟨v,rfl⟩:=Qn.1 h.1;obtain ⟨u,hu,hr⟩:=h.2 0 _ rfl;injection hu with hu;subst hu;exact ⟨v,rfl,hr⟩
theorem ql4 {P : Program} {f : FuncId} {fn : Func} {pre : List UInt8 → Prop} {F : List UInt8 → Bool} (hf : P.funcs[f]? = some fn) (hb : fn.body.isNone = false) (hname : (fn.name == "runtime.NumGoroutine") = false)
  (h:∀ (s:List UInt8) (w:World),pre s→Calls P f #[.string (bs s)] w λe w'=>e=.returned (.bool (F s))∧Below w.heap.size w w'):(Con.of f [.one .str] [.one .bool] pre F).Holds P:=by
 refine ⟨⟨⟨fn,hf,hname,hb⟩,λF' hF p r hr=>by injection hF with hF;subst hF;exact hr⟩,λp vs w S hS hp hvs=>?_⟩
 obtain ⟨v,rfl,hv⟩:=comp_one hvs;obtain rfl:v=.string (bs p):=hv;refine (h p w hp).mono ?_;rintro e w' ⟨rfl,hbl⟩;exact ⟨F p,_,rfl,rfl,rfl,hbl⟩
end R
open Go.ChangeShapes Go.WideShapes
namespace R
mutual
def KdT (P:Program):Kd→TypeId→Prop
 | .int k,t=>P.underlying t=some (.int k)
 | .bool,t=>P.underlying t=some .bool
 | .str,t=>P.underlying t=some .string
 | .sl fs,t=>∃ e,P.underlying t=some (.slice e)∧P.cellsOf e=fs.size∧KdsT P fs e
def KdsT (P:Program):Kds→TypeId→Prop
 | .one k,e=>KdT P k e∨∃ (F:Array Field) (f:Field),P.underlying e=some (.struct F)∧F.toList=[f]∧f.offset=0∧P.cellsOf f.type=1∧KdT P k f.type
 | .cons k ks,e=>∃ (F:Array Field) (f:Field) (r:List Field),P.underlying e=some (.struct F)∧F.toList=f::r∧f.offset=0∧P.cellsOf f.type=1∧KdT P k f.type∧FldsT P ks r 1
def FldsT (P:Program):Kds→List Field→Nat→Prop
 | .one k,l,o=>∃ f,l=[f]∧f.offset=o∧P.cellsOf f.type=1∧KdT P k f.type
 | .cons k ks,l,o=>∃ f r,l=f::r∧f.offset=o∧P.cellsOf f.type=1∧KdT P k f.type∧FldsT P ks r (o+1)
end
mutual
def Kd.Big:(k:Kd)→k.Pay→Prop
 | .int k,n=>(Lit.int k n).wf=true
 | .bool,_=>True
 | .str,s=>List.length (α:=UInt8) s≤9223372036854775807
 | .sl fs,xs=>(xs:List fs.Pay).length≤9223372036854775807∧∀ x∈(xs:List fs.Pay),fs.Big x
def Kds.Big:(fs:Kds)→fs.Pay→Prop
 | .one k,p=>k.Big p
 | .cons k ks,p=>k.Big p.1∧ks.Big p.2
end
theorem add_pl' (g off j:Nat):(⟨g,off,none⟩:Addr).add j=⟨g,off+j,none⟩:=by unfold QW;split <;> simp_all
theorem cell_plain' {w:World} {a:Addr} {v:Value} (h:w.cell? (a.add 0)=some v):∃ g o,a=⟨g,o,none⟩∧g<w.heap.size:=by
 obtain ⟨g,o,sp⟩:=a;unfold World.cell? QW at h;simp only [if_true] at h;split at h
 ·rename_i hg
  cases sp with
  | none=>exact ⟨g,o,rfl,(Qc.1 hg).1⟩
  | some x=>simp at h
 ·cases h
section
variable {H:Type} {enc:TypeId×Value→H} {P:Program} {w:World} {base:Nat} {spare:Nat→Bool} {held:Bool}
abbrev Here (w:World) (g:Nat):Prop:=g<w.heap.size
def q4b (w:World):(fs:Kds)→fs.Pay→List Value→Prop
 | .one k,p,cs=>∃ v,cs=[v]∧k.Rep w (Here w) p v
 | .cons k ks,p,cs=>∃ v r,cs=v::r∧k.Rep w (Here w) p.1 v∧q4b w ks p.2 r
theorem q4b.row:∀ (fs:Kds) (p:fs.Pay) (cs:List Value) (g o:Nat),q4b w fs p cs→(∀ i,i<cs.length→w.cell? ⟨g,o+i,none⟩=cs[i]?)→fs.Rep w (Here w) p g o
 | .one k,p,cs,g,o,h,hc=>by
  obtain ⟨v,rfl,hv⟩:=h;exact ⟨v,hc 0 (by simp),hv⟩
 | .cons k ks,p,cs,g,o,h,hc=>by
  obtain ⟨v,r,rfl,hv,hr⟩:=h;refine ⟨⟨v,hc 0 (by simp),hv⟩,q4b.row ks p.2 r g (o+1) hr λi hi=>?_⟩
  have:=hc (i+1) (by simp;omega)
  rw [show o+1+i=o+(i+1) by omega]
  exact this
theorem q4b.len:∀ (fs:Kds) (p:fs.Pay) (cs:List Value),q4b w fs p cs→cs.length=fs.size
 | .one k,p,cs,h=>by obtain ⟨v,rfl,_⟩:=h;rfl
 | .cons k ks,p,cs,h=>by
  obtain ⟨v,r,rfl,_,hr⟩:=h;have:=q4b.len ks p.2 r hr;show r.length+1=ks.size+1;omega
mutual
theorem qbd:∀ (k:Kd) (t:TypeId),KdT P k t→∀ (fuel:Nat) (cs:List Value) (x:DataW H×List MemPlace),QH enc P w base spare held fuel t cs=some x→∃ v p,cs=[v]∧k.Rep w (Here w) p v∧k.Big p
 | .int k,t,ht,fuel,cs,x,h=>by
  obtain ⟨n,h1,h2,h3⟩:=DataW.trod_int ht h;exact ⟨_,n,h1,rfl,by first | exact h3 | exact h3.1 | exact h3.2⟩
 | .bool,t,ht,fuel,cs,x,h=>by
  obtain ⟨b,h1,_⟩:=DataW.trod_bool ht h;exact ⟨_,b,h1,rfl,trivial⟩
 | .str,t,ht,fuel,cs,x,h=>by
  obtain ⟨s,h1,_,h3⟩:=DataW.trod_string ht h;exact ⟨_,s.data.toList,h1,rfl,h3⟩
 | .sl fs,t,ht,fuel,cs,x,h=>by
  obtain ⟨e,hu,hce,he⟩:=ht;rcases Go.Deep.open_slice hu h with ⟨rfl,_⟩ | ⟨a,len,cap,m,n,D,Pl,rfl,hb,hlc,hm,hmm,_,hx⟩
  ·exact ⟨_,([]:List fs.Pay),rfl,⟨none,0,rfl,Q9 _,λh=>absurd h (Nat.lt_irrefl _)⟩,Nat.zero_le _,λx h=>by cases h⟩
  ·have hlm:len≤m:=by rw [hmm];split <;> omega
   have each:∀ i,i<len→∃ p:fs.Pay,∀ g o,a=⟨g,o,none⟩→fs.Rep w (Here w) p g (o+i*fs.size)∧fs.Big p:=λi hi=>by
    obtain ⟨cs',h1,h2⟩:=hx i (by omega)
    obtain ⟨p,hp,hbig⟩:=open_kds fs e he n cs' _ hce h2;refine ⟨p,λg o ha=>⟨q4b.row fs p cs' g _ hp λj hj=>?_,hbig⟩⟩
    subst ha;obtain ⟨_,hl,hc⟩:=QN h1;have:=hc j (by omega)
    rw [add_pl',add_pl',hce] at this;exact this
   obtain ⟨f,hf⟩:∃ f:Nat→fs.Pay,∀ i,i<len→∀ g o,a=⟨g,o,none⟩→fs.Rep w (Here w) (f i) g (o+i*fs.size)∧fs.Big (f i):=by
    haveI:Inhabited fs.Pay:=⟨fs.dflt⟩
    exact Go.Deep.choose_lt each
   have hlen:((List.range len).map f).length=len:=by simp
   have hpl:0<len→∃ g o,a=⟨g,o,none⟩∧g<w.heap.size:=λhpos=>by
    obtain ⟨cs',h1,_⟩:=hx 0 (by omega)
    obtain ⟨_,hl,hc⟩:=QN h1;have:=hc 0 (by rw [hce];exact fs.q80)
    rw [Nat.zero_mul] at this;have hlt:0<cs'.length:=by rw [hl,hce];exact fs.q80
    rw [Qa hlt] at this;have ha:a.add 0=a:=by unfold QW;simp
    rw [ha] at this;exact cell_plain' this
   refine ⟨_,((List.range len).map f:List fs.Pay),rfl,⟨some a,cap,by rw [hlen],by rw [hlen];exact hlc,λhpos=>?_⟩,?_,?_⟩
   ·rw [hlen] at hpos
    obtain ⟨g,o,rfl,hg⟩:=hpl hpos;refine ⟨g,o,rfl,hg,hg,λi x hi=>?_⟩
    have hil:i<len:=by
     rcases Qh i len with h' | h'
     ·exact h'
     ·rw [Qi (by rw [hlen];exact h')] at hi;cases hi
    rw [QO,List.getElem?_range hil] at hi;injection hi with hi;subst hi;exact (hf i hil g o rfl).1
   ·rw [hlen];unfold maxLen at hm;omega
   ·intro x hx'
    obtain ⟨i,hi,rfl⟩:=List.mem_map.1 hx';have hi:=List.mem_range.1 hi;obtain ⟨g,o,ha,hg⟩:=hpl (by omega)
    exact (hf i hi g o ha).2
theorem open_kds:∀ (fs:Kds) (e:TypeId),KdsT P fs e→∀ (fuel:Nat) (cs:List Value) (x:DataW H×List MemPlace),P.cellsOf e=fs.size→QH enc P w base spare held fuel e cs=some x→∃ p,q4b w fs p cs∧fs.Big p
 | .one k,e,he,fuel,cs,x,hce,h=>by
  rcases he with he | ⟨F,f,hu,hF,ho,hc,hk⟩
  ·obtain ⟨v,p,rfl,hv,hb⟩:=qbd k e he fuel cs x h
   exact ⟨p,⟨v,rfl,hv⟩,hb⟩
  ·obtain ⟨xs,n,rfl,_,hl,hxl,hx⟩:=QP hu h
   have hl1:cs.length=1:=hl.trans hce;have hf0:F[0]? = some f:=by rw [← Qp,hF];rfl
   have h0:=hx 0 f hf0;have hF1:F.size=1:=by rw [← QJ,hF];rfl
   rw [Qa (by omega)] at h0
   obtain ⟨v,p,h1,hv,hb⟩:=qbd k f.type hk n _ _ h0;rw [ho,hc,QD,Qg (by omega)] at h1
   exact ⟨p,⟨v,h1,hv⟩,hb⟩
 | .cons k ks,e,he,fuel,cs,x,hce,h=>by
  obtain ⟨F,f,r,hu,hF,ho,hc,hk,hr⟩:=he;obtain ⟨xs,n,rfl,_,hl,hxl,hx⟩:=QP hu h;have hcl:cs.length=ks.size+1:=hl.trans hce;have hFs:F.size=(f::r).length:=by rw [← QJ,hF]
  have each:∀ (i:Nat) (f':Field),(f::r)[i]? = some f'→∃ y,QH enc P w base spare held n f'.type ((cs.drop f'.offset).take (P.cellsOf f'.type))=some y:=λi f' hi=>by
   have h1:F[i]? = some f':=by rw [← Qp,hF];exact hi
   have h2:=hx i f' h1;have hil:i<xs.length:=by
    rw [hxl];exact (Qc.1 h1).1
   rw [Qa hil] at h2;exact ⟨_,h2⟩
  obtain ⟨y,hy⟩:=each 0 f rfl;obtain ⟨v,p,h1,hv,hb⟩:=qbd k f.type hk n _ _ hy;obtain ⟨q,hq,hbq⟩:=open_flds ks r 1 hr n cs (by omega) λi f' hi=>each (i+1) f' hi
  rw [ho,hc,QD] at h1;cases cs with
  | nil=>simp at h1
  | cons u cs =>
   simp only [QK,QV] at h1;injection h1 with h1;subst h1;exact ⟨(p,q),⟨u,cs,rfl,hv,hq⟩,hb,hbq⟩
theorem open_flds:∀ (fs:Kds) (l:List Field) (o:Nat),FldsT P fs l o→∀ (n:Nat) (cs:List Value),cs.length=o+fs.size→(∀ (i:Nat) (f:Field),l[i]? = some f→∃ y,QH enc P w base spare held n f.type ((cs.drop f.offset).take (P.cellsOf f.type))=some y)→∃ p,q4b w fs p (cs.drop o)∧fs.Big p
 | .one k,l,o,hl,n,cs,hcs,hx=>by
  obtain ⟨f,rfl,ho,hc,hk⟩:=hl;obtain ⟨y,hy⟩:=hx 0 f rfl;obtain ⟨v,p,h1,hv,hb⟩:=qbd k f.type hk n _ _ hy;have hcs:cs.length=o+1:=hcs;rw [ho,hc,Qg (by rw [Qe];omega)] at h1
  exact ⟨p,⟨v,h1,hv⟩,hb⟩
 | .cons k ks,l,o,hl,n,cs,hcs,hx=>by
  obtain ⟨f,r,rfl,ho,hc,hk,hr⟩:=hl;have hcs:cs.length=o+(ks.size+1):=hcs;obtain ⟨y,hy⟩:=hx 0 f rfl;obtain ⟨v,p,h1,hv,hb⟩:=qbd k f.type hk n _ _ hy;obtain ⟨q,hq,hbq⟩:=open_flds ks r (o+1) hr n cs (by omega) λi f' hi=>hx (i+1) f' hi
  rw [ho,hc] at h1;have hlt:o<cs.length:=by omega
  rw [List.drop_eq_getElem_cons hlt] at h1 ⊢;simp only [QK,QV] at h1;injection h1 with h1;subst h1;exact ⟨(p,q),⟨_,_,rfl,hv,hq⟩,hb,hbq⟩
end
def CKT (P:Program):CK→TypeId→Prop
 | .one k,t=>KdT P k t
 | .agg ks,t=>(∃ F,P.underlying t=some (.struct F))∧P.cellsOf t=ks.size∧KdsT P ks t
def CK.Big:(x:CK)→x.Pay→Prop
 | .one k,p=>k.Big p
 | .agg ks,p=>ks.Big p
theorem Kd.Rep.oneCell {S:Nat→Prop}:∀ (k:Kd) (p:k.Pay) (v:Value),k.Rep w S p v→v.oneCell'=true
 | .int k,p,v,h=>by cases h;rfl
 | .bool,p,v,h=>by cases h;rfl
 | .str,p,v,h=>by cases h;rfl
 | .sl fs,p,v,h=>by obtain ⟨A,c,rfl,_⟩:=h;rfl
theorem q4b.reps:∀ (fs:Kds) (p:fs.Pay) (cs:List Value),q4b w fs p cs →
  (∀ (i:Nat) c,(fs.cells p)[i]? = some c→∃ v,cs[i]? = some v∧c.Rep (Cx.of (Here w)) w v)∧(∀ (i:Nat) v,cs[i]? = some v→v.oneCell'=true)∧cs.length=(fs.cells p).length
 | .one k,p,cs,h=>by
  obtain ⟨v,rfl,hv⟩:=h;refine ⟨λi c hi=>?_,λi u hi=>?_,rfl⟩
  ·cases i with
   | zero=>injection hi with hi;subst hi;exact ⟨v,rfl,hv⟩
   | succ i=>cases hi
  ·cases i with
   | zero=>injection hi with hi;subst hi;exact Kd.Rep.oneCell k p v hv
   | succ i=>cases hi
 | .cons k ks,p,cs,h=>by
  obtain ⟨v,r,rfl,hv,hr⟩:=h;obtain ⟨h1,h2,h3⟩:=q4b.reps ks p.2 r hr;refine ⟨λi c hi=>?_,λi u hi=>?_,by rw [Q7,h3];rfl⟩
  ·cases i with
   | zero=>injection hi with hi;subst hi;exact ⟨v,rfl,hv⟩
   | succ i=>exact h1 i c hi
  ·cases i with
   | zero=>injection hi with hi;subst hi;exact Kd.Rep.oneCell k p.1 v hv
   | succ i=>exact h2 i u hi
theorem qe1 {r:Reach} {b0:Nat} (x:CK) (t:TypeId) (ht:CKT P x t) {v:Value} {d:DataW H} {ps:List MemPlace} (hv:Value.okWide P w r b0 t v) (h:DataW.Trod enc P w base spare held t v d ps) :
  ∃ p:x.Pay,(x.comp p).Rep (Cx.of (Here w)) w v∧x.Big p:=by
 obtain ⟨fuel,hf⟩:=h;cases x with
 | one k =>
  have hone:v.cells.toList=[v]:=by
   cases k with
   | int k=>obtain ⟨n,rfl⟩:=okWide_int ht hv;rfl
   | bool=>obtain ⟨n,rfl⟩:=okWide_bool ht hv;rfl
   | str=>obtain ⟨n,rfl⟩:=okWide_string ht hv;rfl
   | sl fs=>obtain ⟨e,hu,_⟩:=ht;obtain ⟨a,n,c,rfl⟩:=okWide_slice hu hv;rfl
  obtain ⟨v',p,h1,h2,h3⟩:=qbd k t ht fuel _ _ hf;rw [hone] at h1;injection h1 with h1;subst h1;exact ⟨p,h2,h3⟩
 | agg ks =>
  obtain ⟨⟨F,hu⟩,hc,hk⟩:=ht;obtain ⟨cs,rfl,hsz⟩:=okWide_struct hu hv;obtain ⟨p,hp,hb⟩:=open_kds ks t hk fuel _ _ hc hf;obtain ⟨h1,h2,h3⟩:=q4b.reps ks p _ hp;refine ⟨p,⟨cs,rfl,?_,λi c hi=>?_,λi u hi=>?_⟩,hb⟩
  ·rw [← h3];simp [QQ]
  ·obtain ⟨u,hu,hr⟩:=h1 i c hi
   exact ⟨u,by simpa [QQ] using hu,hr⟩
  ·exact h2 i u (by simpa [QQ] using hi)
end
end R
end Go.Proofs.YtlmbfijhkcmncaaGreatDoor
namespace Go.Proofs.YtlmbfijhkcmncaaGreatDoor
open Go.RowKit
namespace R
theorem compsRep_nil {κ:Cx} {w:World}:q0f κ w [] []:=⟨rfl,λi c h=>by cases h⟩
theorem q6a {κ:Cx} {w:World} {a:Comp} {v:Value} {xs:List Comp} {vs:List Value} (h:a.Rep κ w v) (hs:q0f κ w xs vs):q0f κ w (a::xs) (v::vs):=by
 refine ⟨by rw [Q7,Q7,hs.1],λi c hc=>?_⟩
 cases i with
 | zero=>injection hc with hc;subst hc;exact ⟨v,rfl,h⟩
 | succ i=>exact hs.2 i c hc
theorem law_any {P:Program} {f:FuncId} {args:List CK} {pre:Pays args→Prop} (h:(Con.of f args [.one .bool] pre (λ_=>true)).Holds P) (p:Pays args) (vs:List Value) (w:World) (hp:pre p) (hr:q0f (Cx.of (Here w)) w (q0u args p) vs) :
  Calls P f vs.toArray w λe w'=>e=.returned (.bool true)∧Below w.heap.size w w':=by
 have h:=h.2 p vs w (Here w) (λ_ h=>h) hp hr
 refine Calls.mono h ?_;rintro e w' ⟨r,v,rfl,hr,hv,hbl⟩;have hr:r=true:=hr;subst hr;have hv:v=.bool true:=hv;exact ⟨by rw [hv],hbl⟩
end R
end Go.Proofs.YtlmbfijhkcmncaaGreatDoor
namespace Go.Proofs.YtlmbfijhkcmncaaGreatDoor
namespace Lx
def q17 (c:UInt8):Bool:=(97≤c&&c≤122)||(65≤c&&c≤90)
def isDigit (c:UInt8):Bool:=48≤c&&c≤57
def q2g (c:UInt8):Bool:=c==32||c==9||c==10
def isWord (c:UInt8):Bool:=q17 c||isDigit c||c==95
def q93 (c:UInt8):Bool:=[59,44,46,58,40,41,91,93,123,125,61,43,45].contains c
def q0j (l:List UInt8):Bool:=l.all isWord&&(decide (0<l.length)&&decide (l.length≤24))&&(match l with | []=>false | c::_=>q17 c)
def cls (c:UInt8):Nat :=
 if q17 c then 3 else if isDigit c then 4 else if c==95 then 5 else if q2g c then 1 else if c==35 then 2
 else if c==34 then 6 else if c==33 then 7 else if c==60||c==62 then 8 else if q93 c then 9 else 0
def q1w:List UInt8→Nat
 | []=>0
 | c::_=>cls c
def span (p:UInt8→Bool) (l:List UInt8):Nat:=(l.takeWhile p).length
def gapc:Bool→List UInt8→Nat
 | _,[]=>0
 | false,c::r=>if q2g c then gapc false r+1 else if c==35 then gapc true r+1 else 0
 | true,c::r=>if c==10 then gapc false r+1 else gapc true r+1
def gap (l:List UInt8):Nat:=gapc false l
def q2v (l:List UInt8):Nat:=l.foldl (λa c=>10*a+(c.toNat-48)) 0
structure Sc where
 err:Int
 kind:Int
 n:Int
 text:List UInt8
 width:Nat
 deriving DecidableEq
def bad (e:Int):Sc:=⟨e,0,0,[],0⟩
def q0p (c:UInt8):Bool:=!(c==34||c==10)
def scan:List UInt8→Sc
 | []=>bad 3
 | c::r =>
  if q17 c then
   let m:=span isWord r+1
   if 24<m then bad 2 else ⟨0,1,0,(c::r).take m,m⟩
  else if isDigit c then
   let m:=span isDigit r+1
   if 13<m||q1w ((c::r).drop m)==3||q1w ((c::r).drop m)==5 then bad 4 else ⟨0,2,q2v ((c::r).take m),(c::r).take m,m⟩
  else if c==34 then
   let m:=span q0p r
   if (r.drop m).head? == some 34 then (if 400<m then bad 2 else ⟨0,3,0,r.take m,m+2⟩) else bad 6
  else if (c==33||c==60||c==62)&&r.head? == some 61 then ⟨0,4,0,[c,61],2⟩
  else if c==60||c==62||q93 c then ⟨0,4,0,[c],1⟩
  else bad 3
structure Tok where
 kind:Int
 pos:Int
 n:Int
 text:List UInt8
 deriving DecidableEq
def Sc.tok (r:Sc) (off:Nat):Tok:=⟨r.kind,off,r.n,r.text⟩
def q4k:Nat→List Tok→Nat→List UInt8→List Tok×Int×Int
 | 0,out,_,_=>(out,0,0)
 | _+1,out,_,[]=>(out,0,0)
 | f+1,out,off,c::r =>
  let s:=scan (c::r)
  if s.err=0∧out.length=5000 then ([],2,off)
  else if s.err≠0 then ([],s.err,off)
  else
   let l:=(c::r).drop s.width
   q4k f (out++[s.tok off]) (off+s.width+gap l) (l.drop (gap l))
def lex (l:List UInt8):List Tok×Int×Int :=
 if 20000<l.length then ([],2,-1) else q4k (l.length+1) [] (gap l) (l.drop (gap l))
theorem qgd (f:Nat) (out:List Tok) (off:Nat):q4k f out off []=(out,0,0):=by cases f <;> rfl
theorem qay (f:Nat) (out:List Tok) (off:Nat) (c:UInt8) (r:List UInt8) (h:(scan (c::r)).err=0) (hl:out.length=5000):q4k (f+1) out off (c::r)=([],2,(off:Int)):=by
 simp only [q4k];rw [if_pos ⟨h,hl⟩]
theorem qaa (f:Nat) (out:List Tok) (off:Nat) (c:UInt8) (r:List UInt8) (h:(scan (c::r)).err≠0):q4k (f+1) out off (c::r)=([],(scan (c::r)).err,(off:Int)):=by
 simp only [q4k];rw [if_neg (λh'=>h h'.1),if_pos h]
theorem qaj (f:Nat) (out:List Tok) (off:Nat) (c:UInt8) (r:List UInt8) (h:(scan (c::r)).err=0) (hl:out.length≠5000) :
  q4k (f+1) out off (c::r)=q4k f (out++[(scan (c::r)).tok off]) (off+(scan (c::r)).width+gap ((c::r).drop (scan (c::r)).width)) (((c::r).drop (scan (c::r)).width).drop (gap ((c::r).drop (scan (c::r)).width))):=by
 simp only [q4k];rw [if_neg (λh'=>hl h'.2),if_neg (by simp [h])]
theorem qf8 (p:UInt8→Bool) (l:List UInt8):span p l≤l.length:=by
 unfold span
 induction l with
 | nil=>simp
 | cons c r ih=>rw [List.takeWhile_cons];split <;> simp [ih]
theorem gapc_le (l:List UInt8):∀ b,gapc b l≤l.length:=by
 induction l with
 | nil=>intro b;cases b <;> simp [gapc]
 | cons c r ih =>
  intro b;cases b
  ·have h1:=ih false
   have h2:=ih true;simp only [gapc,Q7];split
   ·omega
   ·split <;> omega
  ·have h1:=ih false
   have h2:=ih true;simp only [gapc,Q7];split <;> omega
theorem q7j (l:List UInt8):gap l≤l.length:=gapc_le l false
def Fits (n:Nat) (r:Sc):Prop:=r.err=0→1≤r.width∧r.width≤n
theorem Fits.ite {n:Nat} {p:Prop} [Decidable p] {a b:Sc} (ha:p→Fits n a) (hb:¬ p→Fits n b):Fits n (if p then a else b):=by
 split
 ·exact ha ‹_›
 ·exact hb ‹_›
theorem Fits.bad (n:Nat) {e:Int} (h:e≠0):Fits n (bad e):=λh'=>absurd h' h
theorem qb4 (l:List UInt8):Fits l.length (scan l):=by
 cases l with
 | nil=>exact Fits.bad _ (by decide)
 | cons c r =>
  have hw:=qf8 isWord r;have hd:=qf8 isDigit r;have ht:=qf8 q0p r;rw [scan];refine Fits.ite (λ_=>?_) λ_=>Fits.ite (λ_=>?_) λ_=>Fits.ite (λ_=>?_) λ_=>Fits.ite (λh4=>?_) λ_=>Fits.ite (λ_=>?_) λ_=>Fits.bad _ (by decide)
  ·exact Fits.ite (λ_=>Fits.bad _ (by decide)) λ_ _=>⟨by simp only [];omega,by simp only [Q7];omega⟩
  ·exact Fits.ite (λ_=>Fits.bad _ (by decide)) λ_ _=>⟨by simp only [];omega,by simp only [Q7];omega⟩
  ·refine Fits.ite (λh4=>?_) λ_=>Fits.bad _ (by decide)
   have:span q0p r<r.length:=by
    rcases Qh (span q0p r) r.length with h5 | h5
    ·exact h5
    ·rw [Qb h5] at h4;cases h4
   exact Fits.ite (λ_=>Fits.bad _ (by decide)) λ_ _=>⟨by simp only [];omega,by simp only [Q7];omega⟩
  ·rw [Q8] at h4
   cases r with
   | nil=>cases h4.2
   | cons d r=>exact λ_=>⟨by simp only [];omega,by simp only [Q7];omega⟩
  ·exact λ_=>⟨by simp only [];omega,by simp only [Q7];omega⟩
end Lx
namespace Al
structure Alph where
 name:List UInt8
 letters:List (List UInt8)
 small:List Int
def q1o (c:UInt8):Bool:=33≤c&&c≤126&&!(c==34)
def q1f (l:List UInt8):Bool:=l.all q1o&&(decide (1≤l.length)&&decide (l.length≤3))
def q4c (n:Nat) (s:List Int) (k:Int):Bool:=decide (0≤k)&&decide (k<n)&&(s.getD k.toNat 0==k)
def q1p:List (List UInt8)→Bool
 | []=>true
 | l::r=>!r.contains l&&q1p r
def q04 (a:Alph):Bool :=
 Lx.q0j a.name&&(decide (1≤a.letters.length)&&decide (a.letters.length≤64))&&(a.small.length==a.letters.length)&&a.letters.all q1f&&q1p a.letters&&a.small.all (q4c a.letters.length a.small)
def follows (L:List (List UInt8)):Nat→List UInt8→Bool
 | 0,_=>false
 | f+1,s=>L.any λl=>s.isPrefixOf l||(l.isPrefixOf s&&follows L f (s.drop l.length))
def clash (L:List (List UInt8)) (l:List UInt8) (n:Nat):Bool:=decide (n<l.length)&&(L.contains (l.take n)&&follows L 4 (l.drop n))
def q09 (a:Alph):Bool:=q04 a&&a.letters.all λl=>!clash a.letters l 1&&!clash a.letters l 2
def idx (L:List (List UInt8)) (l:List UInt8):Nat:=L.findIdx (·==l)
def longest (L:List (List UInt8)) (s:List UInt8):Nat→Option (Nat×Nat)
 | 0=>none
 | n+1=>if L.contains (s.take (n+1)) then some (idx L (s.take (n+1)),n+1) else longest L s n
def first (L:List (List UInt8)) (s:List UInt8):Option (Nat×Nat):=longest L s (min 3 s.length)
def places (L:List (List UInt8)):Nat→Nat→List UInt8→List (Nat×Int)
 | 0,_,_=>[]
 | _+1,_,[]=>[]
 | f+1,at_,c::r =>
  match first L (c::r) with
  | none=>[(at_,-1)]
  | some (k,n)=>(at_,(k:Int))::places L f (at_+n) ((c::r).drop n)
def collect:List Int→List (Nat×Int)→List Int×Int×Int
 | out,[]=>(out,0,0)
 | out,(at_,k)::r=>if k<0 then ([],3,at_) else if out.length=24 then ([],2,at_) else collect (out++[k]) r
def q0m (L:List (List UInt8)) (s:List UInt8):List Int×Int×Int:=if s=[] then ([],6,0) else collect [] (places L (s.length+1) 0 s)
def q0o (a:Alph) (s:List UInt8):List Int×Int×Int:=if q09 a then q0m a.letters s else ([],1,0)
def q3n (L:List (List UInt8)) (k:Int):List UInt8:=L.getD k.toNat []
end Al
open Go.RowKit
def q8g (w:World) (A:Option Addr) (l:List (List UInt8)):Prop :=
 0<l.length→∃ g off,A=some ⟨g,off,none⟩∧g<w.heap.size∧∀ (j:Nat) s,l[j]? = some s→w.cell? ⟨g,off+j,none⟩=some (.string (bs s))
def qb0 (w:World) (A:Option Addr) (l:List Int):Prop :=
 0<l.length→∃ g off,A=some ⟨g,off,none⟩∧g<w.heap.size∧∀ (j:Nat) k,l[j]? = some k→w.cell? ⟨g,off+j,none⟩=some (.int .i64 k)
section
variable {w w':World} {A:Option Addr}
theorem q8g.bel {l:List (List UInt8)} (h:q8g w A l) (hb:Below w.heap.size w w'):q8g w' A l:=λhl=>by
 obtain ⟨g,off,h1,h2,h3⟩:=h hl;exact ⟨g,off,h1,Qj h2 hb.size,λj u hu=>(hb.cell (p:=⟨g,off+j,none⟩) h2).trans (h3 j u hu)⟩
theorem qb0.bel {l:List Int} (h:qb0 w A l) (hb:Below w.heap.size w w'):qb0 w' A l:=λhl=>by
 obtain ⟨g,off,h1,h2,h3⟩:=h hl;exact ⟨g,off,h1,Qj h2 hb.size,λj u hu=>(hb.cell (p:=⟨g,off+j,none⟩) h2).trans (h3 j u hu)⟩
theorem q8g.at_ {l:List (List UInt8)} (h:q8g w A l) (j:Nat) (hj:j<l.length):∃ g off,A=some ⟨g,off,none⟩∧g<w.heap.size∧w.cell? ⟨g,off+j,none⟩=some (.string (bs l[j])):=by
 obtain ⟨g,off,h1,h2,h3⟩:=h (by omega)
 exact ⟨g,off,h1,h2,h3 j _ (Qa hj)⟩
end
theorem wf_nat (k:Nat) (h:k≤9223372036854775807):(Lit.int .i64 (k:Int)).wf=true:=by
 show (decide (QY.min≤(k:Int))&&decide ((k:Int)≤QY.max))=true;rw [Q8,decide_eq_true_eq,decide_eq_true_eq];show -9223372036854775808≤(k:Int)∧(k:Int)≤9223372036854775807;omega
abbrev alv (a:Al.Alph) (A:Option Addr) (c:Nat) (A':Option Addr) (c':Nat):Value:=.agg #[.string (bs a.name),.slice A a.letters.length c,.slice A' a.small.length c']
structure Few (a:Al.Alph):Prop where
 n:a.letters.length≤70
 len:∀ l∈a.letters,l.length≤20
 s:a.small.length≤70
 name:a.name.length≤100
open R
theorem mixed:Tryz.prog.follows .mixedOrders=true:=by kernel_rfl
abbrev q3a:CK:=.one .str
abbrev q3l:CK:=.one (.int .i64)
abbrev q55:CK:=.one (.sl (.one (.int .i64)))
abbrev ckStrs:CK:=.one (.sl (.one .str))
theorem qdb {κ:Cx} {w:World} {a:Comp} {vs:List Value} (h:q0f κ w [a] vs):∃ x,vs=[x]∧a.Rep κ w x:=by
 match vs,h with
 | [x],h =>
  obtain ⟨u,hu,hr⟩:=h.2 0 _ rfl;injection hu with hu;have hu:x=u:=hu;subst hu;exact ⟨_,rfl,hr⟩
theorem qjj {κ:Cx} {w:World} {a b:Comp} {vs:List Value} (h:q0f κ w [a,b] vs):∃ x y,vs=[x,y]∧a.Rep κ w x∧b.Rep κ w y:=by
 match vs,h with
 | [x,y],h =>
  obtain ⟨u,hu,hr⟩:=h.2 0 _ rfl;obtain ⟨u',hu',hr'⟩:=h.2 1 _ rfl;injection hu with hu;injection hu' with hu';have hu:x=u:=hu;have hu':y=u':=hu';subst hu;subst hu';exact ⟨_,_,rfl,hr,hr'⟩
theorem three_args {κ:Cx} {w:World} {a b c:Comp} {vs:List Value} (h:q0f κ w [a,b,c] vs):∃ x y z,vs=[x,y,z]∧a.Rep κ w x∧b.Rep κ w y∧c.Rep κ w z:=by
 match vs,h with
 | [x,y,z],h =>
  obtain ⟨u,hu,hr⟩:=h.2 0 _ rfl;obtain ⟨u',hu',hr'⟩:=h.2 1 _ rfl;obtain ⟨u'',hu'',hr''⟩:=h.2 2 _ rfl;injection hu with hu;injection hu' with hu';injection hu'' with hu'';have hu:x=u:=hu;have hu':y=u':=hu';have hu'':z=u'':=hu'';subst hu;subst hu';subst hu'';exact ⟨_,_,_,rfl,hr,hr',hr''⟩
section
variable {S:Nat→Prop} {w w':World} {v:Value}
theorem str_rep {ls:List (List UInt8)} (h:Kd.Rep w S (.sl (.one .str)) ls v):∃ A c,v=.slice A ls.length c∧q8g w A ls:=by
 obtain ⟨A,c,rfl,hc,h⟩:=h;refine ⟨A,c,rfl,λhl=>?_⟩
 obtain ⟨g,off,rfl,hg,_,hi⟩:=h hl;refine ⟨g,off,rfl,hg,λj s hj=>?_⟩
 obtain ⟨u,hu,hr⟩:=hi j s hj;obtain rfl:u=.string (bs s):=hr
 rwa [show (Kds.one Kd.str).size=1 from rfl,Qx] at hu
theorem qhe {ls:List Int} (h:Kd.Rep w S (.sl (.one (.int .i64))) ls v):∃ A c,v=.slice A ls.length c∧qb0 w A ls:=by
 obtain ⟨A,c,rfl,hc,h⟩:=h;refine ⟨A,c,rfl,λhl=>?_⟩
 obtain ⟨g,off,rfl,hg,_,hi⟩:=h hl;refine ⟨g,off,rfl,hg,λj s hj=>?_⟩
 obtain ⟨u,hu,hr⟩:=hi j s hj;obtain rfl:u=.int .i64 s:=hr
 rwa [show (Kds.one (Kd.int .i64)).size=1 from rfl,Qx] at hu
theorem ints_row {base:Nat} {e:TypeId} {ks:List Int} {n:Nat} (hn:n=ks.length) (h:w.ownsRow base e 1 v n (ks.map (Value.int .i64))) (hS:∀ g,base≤g→g<w.heap.size→S g):Kd.Rep w S (.sl (.one (.int .i64))) ks v:=by
 subst hn;rcases h.2 with ⟨rfl,h0⟩ | ⟨g,cap,cur,rfl,hb,hg,hc,_,hsz,ht⟩
 ·refine ⟨none,0,by rw [h0],by rw [h0];exact Q9 _,λhl=>?_⟩
  have hl:0<ks.length:=hl;omega
 ·have hlt:g<w.heap.size:=by
   rcases Qh g w.heap.size with h' | h'
   ·exact h'
   ·rw [Array.getElem?_eq_none h'] at hg;cases hg
  refine ⟨_,cap,rfl,hc,λhl=>⟨g,0,rfl,hlt,hS g hb hlt,λi x hx=>?_⟩⟩
  refine ⟨.int .i64 x,?_,rfl⟩;rw [show (Kds.one (Kd.int .i64)).size=1 from rfl,Qx,Nat.zero_add];have hil:i<ks.length:=by
   rcases Qh i ks.length with h' | h'
   ·exact h'
   ·have hx:ks[i]? = some x:=hx
    rw [Qi h'] at hx;cases hx
  have h1:(cur.toList.take (ks.length*1))[i]? = some (.int .i64 x):=by
   rw [ht,QO,show ks[i]? = some x from hx];rfl
  rw [Qx,List.getElem?_take,if_pos hil,Qp] at h1;unfold World.cell?;simp [hg,h1]
end
end Go.Proofs.YtlmbfijhkcmncaaGreatDoor
namespace Go.Proofs.YtlmbfijhkcmncaaGreatDoor
open Go.RowKit
structure Scan (w:World) (b:Nat) (s:ByteArray):Prop where
 text:w.cell? ⟨b,0,none⟩=some (.string s)
 cls:∀ c:UInt8,w.cell? ⟨b,1+c.toNat,none⟩=some (.int .i64 (Lx.cls c:Nat))
theorem Scan.drewN {w:World} {b:Nat} {s:ByteArray} (h:Scan w b s) (n:Nat):Scan (w.drewN n) b s:=⟨h.text,h.cls⟩
theorem Scan.below {B:Nat} {w w':World} {b:Nat} {s:ByteArray} (h:Scan w b s) (hb:Below B w w') (hB:b<B):Scan w' b s :=
 ⟨(hb.cell (p:=⟨b,0,none⟩) hB).trans h.text,λc=>(hb.cell (p:=⟨b,1+c.toNat,none⟩) hB).trans (h.cls c)⟩
theorem Scan.alloc {w:World} {b:Nat} {s:ByteArray} (h:Scan w b s) (hB:b<w.heap.size) (o:Obj):Scan (w.alloc o) b s :=
 h.below ((Qf w.heap.size w).alloc (Q9 _) o) hB
set_option maxHeartbeats 400000 in
theorem at_ge (b:Nat) (s:ByteArray) (i:Int) (w:World) (hs:s.size≤9223372036854775807) (hi:(s.size:Int)≤i)
   (h0:w.cell? ⟨b,0,none⟩=some (.string s)) :
    Calls Tryz.prog 87 #[.pointer (some ⟨b,0,none⟩),.int .i64 i] w λe w'=>e=.returned (.int .i64 0)∧w=w':=by
  go_enter Tryz.func87,Tryz.ntmps87
  go_wp2
  go_ret
  exact ⟨rfl,rfl⟩
set_option maxHeartbeats 400000 in
theorem at_lt (b:Nat) (s:ByteArray) (i:Nat) (w:World) (hs:s.size≤9223372036854775807) (hi:i<s.size)
   (h0:w.cell? ⟨b,0,none⟩=some (.string s)) (hc:w.cell? ⟨b,1+s[i].toNat,none⟩=some (.int .i64 (Lx.cls s[i]:Nat))) :
    Calls Tryz.prog 87 #[.pointer (some ⟨b,0,none⟩),.int .i64 i] w λe w'=>e=.returned (.int .i64 (Lx.cls s[i]:Nat))∧∃ n,w'=w.drewN n:=by
  have hb:s[i].toNat<256:=Qk s[i]
  go_enter Tryz.func87,Tryz.ntmps87
  go_wp2
  go_quiet (fail)
  go_wp2
  go_ret
  exact ⟨rfl,_,rfl⟩
theorem q6b (b:Nat) (s:ByteArray) (i:Int) (w:World) (hs:s.size≤9223372036854775807) (hi:0≤i) (h:Scan w b s) :
  Calls Tryz.prog 87 #[.pointer (some ⟨b,0,none⟩),.int .i64 i] w λe w' =>
   e=.returned (.int .i64 (Lx.q1w (s.data.toList.drop i.toNat):Nat))∧∃ n,w'=w.drewN n:=by
 obtain ⟨k,rfl⟩:=Ql hi;rw [Qm];by_cases hlt:k<s.size
 ·rw [q10 s k hlt]
  exact at_lt b s k w hs hlt h.text (h.cls _)
 ·have hd:s.data.toList.drop k=[]:=Qb (by rw [← q0c];omega)
  rw [hd];exact (at_ge b s k w hs (by omega) h.text).mono λe w' ⟨he,hw⟩=>⟨he,0,hw.symm⟩
def among (zs:List Int) (c:UInt8):Bool:=zs.contains (Lx.cls c:Nat)
theorem q5c {p:UInt8→Bool} {c:UInt8} {l:List UInt8} (h:p c=true):Lx.span p (c::l)=Lx.span p l+1:=by
 simp [Lx.span,h]
theorem q87 {p:UInt8→Bool} {c:UInt8} {l:List UInt8} (h:p c=false):Lx.span p (c::l)=0:=by
 simp [Lx.span,h]
theorem qhf (p:UInt8→Bool) (l:List UInt8):Lx.span p l≤l.length:=by
 induction l with
 | nil=>simp [Lx.span]
 | cons c r ih =>
  cases h:p c
  ·rw [q87 h];omega
  ·rw [q5c h,Q7];omega
set_option maxHeartbeats 1000000 in
theorem qcn (b:Nat) (s:ByteArray) (i:Nat) (bk n c:Nat) (zs:List Int) (w:World) (hs:s.size≤4611686018427387904) (hi:i≤s.size) (h:Scan w b s)
  (hn:n=zs.length) (hn1:0<n) (hn2:n≤100) (hz:∀ j,j<zs.length→w.cell? ⟨bk,0+j,none⟩=some (.int .i64 (zs.getD j 0))) :
  Calls Tryz.prog 86 #[.pointer (some ⟨b,0,none⟩),.int .i64 i,.slice (some ⟨bk,0,none⟩) n c] w λe w' =>
   e=.returned (.int .i64 (i+Lx.span (among zs) (s.data.toList.drop i):Nat))∧∃ m,w'=w.drewN m:=by
 have htake:zs.take n=zs:=Qg (by omega)
 have HT:=Q3 htake;clear htake;have HZ:=Q3 hz;clear hz;have HN:=Q3 hn;have hnz:n≤zs.length:=by omega
 clear hn
 go_enter Tryz.func86,Tryz.ntmps86
 go_wp2
 go_loopw [1] (λv wr=>∃ k m:Nat,k≤s.size∧v=.int .i64 k∧wr=w.drewN m∧i+Lx.span (among zs) (s.data.toList.drop i)=k+Lx.span (among zs) (s.data.toList.drop k)) (λv _=>s.size-(intOf v).toNat)
 case atStart=>exact ⟨i,0,hi,rfl,rfl,rfl⟩
 case round =>
  obtain ⟨k,m,hk,rfl,rfl,hrest⟩:=hrel;have HR:=Q3 hrest;clear hrest;have h0:=h.text;by_cases hlt:k<s.size
  ·have hc:=q10 s k hlt
   have HC:=Q3 hc;clear hc
   go_wp2_with fail
   refine (q6b b s k _ (by omega) (by omega) (h.drewN m)).mono ?_
   rintro e w' ⟨rfl,m1,rfl⟩;rw [Qm,HC.out]
   go_wp2_with fail
   refine (Tryz.slices_Contains_int bk 0 n c zs _ _ hnz (by omega) (by exact HZ.out)).mono ?_
   rintro e w' ⟨rfl,rfl⟩;rw [HT.out];have hx:zs.contains ((Lx.q1w (s[k]::List.drop (k+1) s.data.toList):Nat):Int)=among zs s[k]:=rfl;rw [hx];clear hx;cases hq:among zs s[k]
   ·go_wp2
    go_ret
    refine ⟨?_,_,rfl⟩;rw [HR.out,HC.out,q87 hq];rfl
   ·go_wp2
    go_roundw
    case rel=>
     refine ⟨k+1,_,by omega,by go_num,rfl,?_⟩
     rw [HR.out,HC.out,q5c hq];omega
    case measure=>simp [intOf];omega
  ·go_wp2
   go_ret
   refine ⟨?_,_,rfl⟩;rw [HR.out];have hd:s.data.toList.drop k=[]:=Qb (by rw [← q0c];omega)
   rw [hd];rfl
namespace Lx
theorem qg0 (c:UInt8):(cls c==1)=q2g c:=by
 have H:∀ c:Fin 256,(cls (Qy c.val)==1)=q2g (Qy c.val):=by decide +kernel
 have h:=H ⟨c.toNat,Qk c⟩
 simpa using h
theorem qj4 (c:UInt8):(cls c==2)=(c==35):=by
 have H:∀ c:Fin 256,(cls (Qy c.val)==2)=(Qy c.val==35):=by decide +kernel
 have h:=H ⟨c.toNat,Qk c⟩
 simpa using h
theorem gap_blank (l:List UInt8):gap l=span q2g l+gap (l.drop (span q2g l)):=by
 induction l with
 | nil=>simp [span,gap,gapc]
 | cons c r ih =>
  cases h:q2g c
  ·rw [q87 h];simp
  ·rw [q5c h]
   have:gap (c::r)=gap r+1:=by simp [gap,gapc,h]
   rw [this,ih];simp only [QL];omega
theorem qjw (l:List UInt8):q1w (l.drop (span q2g l))≠1:=by
 induction l with
 | nil=>simp [span,q1w]
 | cons c r ih =>
  cases h:q2g c
  ·rw [q87 h]
   intro e;have:=qg0 c;simp only [QD,q1w] at e;rw [e,h] at this;cases this
  ·rw [q5c h]
   exact ih
theorem gap_not (l:List UInt8) (h1:q1w l≠1) (h2:q1w l≠2):gap l=0:=by
 cases l with
 | nil=>rfl
 | cons c r =>
  have hb:q2g c=false:=by rw [← qg0];simpa [q1w] using h1
  have hh:(c==35)=false:=by rw [← qj4];simpa [q1w] using h2
  simp only [gap,gapc,hb,hh,Qs,if_false]
theorem gap_hash (l:List UInt8) (h2:q1w l=2):gap l=gapc true l:=by
 cases l with
 | nil=>cases h2
 | cons c r =>
  have hh:(c==35)=true:=by rw [← qj4];simpa [q1w] using h2
  obtain rfl:c=35:=by simpa using hh
  show gapc false (35::r)=gapc true (35::r);rfl
theorem gapc_none (l:List UInt8) (h:Q0 l 10<0):gapc true l=l.length:=by
 induction l with
 | nil=>rfl
 | cons c r ih =>
  unfold Q0 at h;have hge:=Qo r 10;by_cases hc:(c==10)=true
  ·rw [if_pos hc] at h;omega
  ·rw [if_neg hc] at h
   by_cases hr:(Q0 r 10==-1)=true
   ·have hr':Q0 r 10=-1:=by simpa using hr
    have:=ih (by omega)
    simp only [gapc,hc,Qs,if_false,this,Q7]
   ·rw [if_neg hr] at h
    have hr':Q0 r 10≠-1:=by simpa using hr
    omega
theorem gapc_some (l:List UInt8) (h:0≤Q0 l 10):(Q0 l 10).toNat≤l.length∧gapc true l=(Q0 l 10).toNat+gap (l.drop (Q0 l 10).toNat):=by
 induction l with
 | nil=>exact absurd h (by decide)
 | cons c r ih =>
  unfold Q0 at h ⊢;have hge:=Qo r 10;by_cases hc:(c==10)=true
  ·rw [if_pos hc]
   obtain rfl:c=10:=by simpa using hc
   refine ⟨Nat.zero_le _,?_⟩;show gapc true (10::r)=0+gapc false (10::r);simp [gapc,q2g]
  ·rw [if_neg hc] at h ⊢
   by_cases hr:(Q0 r 10==-1)=true
   ·rw [if_pos hr] at h;omega
   ·rw [if_neg hr] at h ⊢
    have hr':Q0 r 10≠-1:=by simpa using hr
    have h0:0≤Q0 r 10:=by omega
    obtain ⟨ih1,ih2⟩:=ih h0;have e:(Q0 r 10+1).toNat=(Q0 r 10).toNat+1:=by omega
    rw [e];refine ⟨by simpa using ih1,?_⟩
    simp only [gapc,hc,Qs,if_false,QL];omega
theorem hash_pos (l:List UInt8) (h:q1w l=2):Q0 l 10≠0:=by
 cases l with
 | nil=>cases h
 | cons c r =>
  have hh:(c==35)=true:=by rw [← qj4];simpa [q1w] using h
  obtain rfl:c=35:=by simpa using hh
  have hge:=Qo r 10;unfold Q0;rw [if_neg (by decide)]
  split
  ·omega
  ·rename_i h2
   have h2':Q0 r 10≠-1:=by simpa using h2
   omega
end Lx
theorem qiy:among [1]=Lx.q2g:=by
 funext c
 rw [← Lx.qg0];have h:∀ n:Nat,([1]:List Int).contains (n:Int)=(n==1):=by
  intro n;rw [Bool.eq_iff_iff];simp;omega
 exact h _
theorem qg1 (w:World) (bk:Nat) (hbk:bk=w.heap.size) (x:Int) (t:TypeId):∀ j,j<[x].length→(w.alloc (.cells #[.int .i64 x] t)).cell? ⟨bk,0+j,none⟩=some (.int .i64 ([x].getD j 0)):=by
 intro j hj;subst hbk;obtain rfl:j=0:=by simpa using hj
 simp [World.cell?_alloc_at]
set_option maxHeartbeats 1000000 in
theorem gap_any (b:Nat) (s:ByteArray) (i:Int) (w:World) (hs:s.size≤4611686018427387904) (hi0:0≤i) (hi:i≤s.size) (hb:b<w.heap.size) (h:Scan w b s) :
  Calls Tryz.prog 59 #[.pointer (some ⟨b,0,none⟩),.int .i64 i] w λe w' =>
   e=.returned (.int .i64 (i.toNat+Lx.gap (s.data.toList.drop i.toNat):Nat))∧Below w.heap.size w w':=by
 obtain ⟨i,rfl⟩:=Ql hi0;rw [Qm];have hi':i≤s.size:=by omega
 clear hi hi0
 go_enter Tryz.func59,Tryz.ntmps59
 go_wp2_with fail
 refine (qcn b s i _ 1 1 [1] _ hs hi' (by exact h.below ((Qf w.heap.size w).alloc (Q9 _) _) hb) rfl (by omega) (by omega) (by exact qg1 w _ rfl 1 _)).mono ?_
 rintro e w' ⟨rfl,m,rfl⟩;rw [qiy];have hg:=Lx.gap_blank (s.data.toList.drop i);have hst:=Lx.qjw (s.data.toList.drop i);have hle:=qhf Lx.q2g (s.data.toList.drop i);rw [QE] at hg hst;rw [Qe,← q0c] at hle;have HG:=Q3 hg;have HST:=Q3 hst;clear hg hst;generalize Lx.span Lx.q2g (s.data.toList.drop i)=n0 at *
 have hb0:Below w.heap.size w ((w.alloc (.cells #[.int .i64 1] 3)).drewN m):=belN ((Qf w.heap.size w).alloc (Q9 _) _) m
 go_wp2
 go_loopw [1,5] (λv _ wr=>∃ k:Nat,k≤s.size∧v=.int .i64 k∧Below w.heap.size w wr∧i+Lx.gap (s.data.toList.drop i)=k+Lx.gap (s.data.toList.drop k)∧Lx.q1w (s.data.toList.drop k)≠1) (λv _ _=>s.size-(intOf v).toNat)
 case atStart=>exact ⟨i+n0,by omega,by go_num,hb0,by rw [HG.out];omega,HST.out⟩
 case round =>
  obtain ⟨k,hk,rfl,hbr,hrest,hst⟩:=hrel;clear HG HST hb0;have HR:=Q3 hrest;clear hrest;have HST:=Q3 hst;clear hst;have hSr:=h.below hbr hb;have hsz:=hbr.size
  go_wp2_with fail
  refine (q6b b s k _ (by omega) (by omega) hSr).mono ?_
  rintro e w' ⟨rfl,m1,rfl⟩;rw [Qm];by_cases hc:Lx.q1w (s.data.toList.drop k)=2
  ·rw [hc]
   have hlt:k<s.size:=by
    rcases Qh k s.size with hlt | hge
    ·exact hlt
    ·rw [Qb (by rw [← q0c];exact hge)] at hc;cases hc
   have h0:=hSr.text;have HGH:=Q3 (Lx.gap_hash _ hc);have hpos:=Lx.hash_pos _ hc;have HC:=Q3 hc;clear hc
   go_wp2_with fail
   refine (Tryz.strings_IndexByte _ _ _).mono ?_;rintro e w' ⟨rfl,rfl⟩;have hdl:(s.extract k s.size).data.toList=s.data.toList.drop k:=by
    rw [q1i,q2h];exact Qg (by rw [Qe,← q0c];omega)
   rw [hdl];clear hdl;have h10:(Int.toNat 10).toUInt8=10:=rfl;rw [h10];clear h10;have hge:=Qo (s.data.toList.drop k) 10;by_cases hneg:Q0 (s.data.toList.drop k) 10<0
   ·have hnone:=Q3 (Lx.gapc_none _ hneg)
    generalize Q0 (s.data.toList.drop k) 10=o at *
    go_wp2
    go_ret
    refine ⟨?_,belN hbr _⟩;rw [HR.out,HGH.out,hnone.out,Qe,← q0c];exact ret_int (by omega)
   ·have hs2:=Lx.gapc_some (s.data.toList.drop k) (by omega)
    obtain ⟨hs2,hs3⟩:=hs2;rw [Qe,← q0c] at hs2;rw [QE] at hs3;have HS3:=Q3 hs3;clear hs3;generalize Q0 (s.data.toList.drop k) 10=o at *
    obtain ⟨q,rfl⟩:=Ql (show 0≤o by omega)
    have hq:q≤s.size-k:=by simpa using hs2
    have hq1:1≤q:=by omega
    have hq2:Lx.gapc true (s.data.toList.drop k)=q+Lx.gap (s.data.toList.drop (k+q)):=HS3.out;have HQ2:=Q3 hq2;clear HS3 hq2 hs2 hge hneg hpos
    go_wp2_with fail
    have hkq:(k:Int)+q=((k+q:Nat):Int):=by omega
    rw [hkq];clear hkq;refine (qcn b s (k+q) _ 1 1 [1] _ hs (by omega) (by exact (hSr.drewN _).below ((Qf _ _).alloc (Q9 _) _) (by simp;omega)) rfl (by omega) (by omega) (by exact qg1 (wr.drewN m1) _ rfl 1 _)).mono ?_
    rintro e w' ⟨rfl,m2,rfl⟩;rw [qiy];have hg:=Lx.gap_blank (s.data.toList.drop (k+q));have hst:=Lx.qjw (s.data.toList.drop (k+q));have hle:=qhf Lx.q2g (s.data.toList.drop (k+q));rw [QE] at hg hst;rw [Qe,← q0c] at hle;have HG:=Q3 hg;have HST:=Q3 hst;clear hg hst;generalize Lx.span Lx.q2g (s.data.toList.drop (k+q))=n1 at *
    go_wp2
    go_roundw
    case rel =>
     refine ⟨k+q+n1,by omega,by go_num,?_,?_,HST.out⟩
     ·exact belN ((belN hbr m1).alloc (by simpa using hsz) _) m2
     ·rw [HR.out,HGH.out,HQ2.out,HG.out]
      omega
    case measure=>simp [intOf];omega
  ·have hg0:=Q3 (Lx.gap_not _ HST.out hc)
   have hcn:((Lx.q1w (s.data.toList.drop k):Int)==2)=false:=by
    rw [beq_eq_false_iff_ne];omega
   clear hc;generalize Lx.q1w (s.data.toList.drop k)=cc at *
   go_wp2
   go_ret
   refine ⟨?_,belN hbr _⟩;rw [HR.out,hg0.out];rfl
set_option maxRecDepth 100000 in
set_option maxHeartbeats 1000000 in
theorem qjv (s:ByteArray) (hs:s.size=2) (w:World) (ha:∀ (j:Nat) (h:j<s.size),(s[j]'h).toNat<128) :
  Calls Tryz.prog 112 #[.string s,.int .i32 65533] w λe w'=>e=.returned (.int .i64 (-1))∧Below w.heap.size w w':=by
 have HS:=Q3 hs;have HA:=Q3 ha;clear ha;have hs2:s.size≤2:=by omega
 clear hs
 go_enter Tryz.func112,Tryz.ntmps112
 go_wp2
 go_loopg [5,6] 2 (λg _ _ wx=>∃ i:Nat,i+g=2∧wx=w.iter s i)
 case atStart=>exact ⟨0,rfl,rfl⟩
 case round =>
  obtain ⟨i,hig,rfl⟩:=hrel;cases gk with
  | zero =>
   have hnx:=λty=>run_next_end (P:=Tryz.prog) w s i ty (by rw [HS.out];omega)
   go_wp2
   go_ret
   exact ⟨rfl,(Qf _ _).alloc (Q9 _) _⟩
  | succ g =>
   have hi:i<s.size:=by rw [HS.out];omega
   have hx128:=HA.out i hi;have hnx:=λty=>run_next_ascii (P:=Tryz.prog) w s i ty hi hx128
   generalize s[i]=x at *
   have hne:((x.toNat:Int)==65533)=false:=by rw [beq_eq_false_iff_ne];omega
   go_wp2
   go_roundg g
   case measure=>omega
   case rel=>exact ⟨i+1,by omega,rfl⟩
set_option maxRecDepth 100000 in
set_option maxHeartbeats 1000000 in
theorem ql8 (s:ByteArray) (hs:s.size=2) (r:Int) (w:World) (ha:∀ (j:Nat) (h:j<s.size),(s[j]'h).toNat<128) (h1:128≤r) (h2:Qq r=true) (h3:r≠65533) :
  Calls Tryz.prog 112 #[.string s,.int .i32 r] w λe w'=>e=.returned (.int .i64 (-1))∧Below w.heap.size w w':=by
 have HS:=Q3 hs;have HA:=Q3 ha;clear ha;have hs2:s.size≤2:=by omega
 have hs3:2≤s.size:=by omega
 clear hs;obtain ⟨e1,e2,e3⟩:=encode_facts r h2 h1;have hlt0:¬ r<128:=by omega
 have hnr:(r==65533)=false:=by rw [beq_eq_false_iff_ne];exact h3
 have hvr:Lib.validRune r=true:=by
  have e:=validRune_eq r;rw [h2] at e;exact e.symm
 clear h2
 go_enter Tryz.func112,Tryz.ntmps112
 go_wp2_with (first | (go_at_call 129;refine (Tryz.utf8_ValidRune _ _).mono ?_;rintro e w' ⟨rfl,rfl⟩))
 go_step3
 go_wp2
 generalize Utf8.encode r=rs at *
 obtain ⟨i,hi⟩:∃ i,rs.size=i+1:=⟨rs.size-1,by omega⟩
 have ei:(rs.size:Int)-1=(i:Int):=by omega
 rw [ei];clear ei;have hir:i<rs.size:=by omega
 have e4:128≤(rs[i]'hir).toNat:=by
  have e5:rs.size-1=i:=by omega
  simp only [e5] at e3;exact e3 hir
 clear e3;have hi1:1≤i:=by omega
 have HI:=Q3 hi;clear hi;refine wp_loop_rounds 1 ?_;rw [rounds_succ];by_cases h2:i<s.size
 ·have hne:((s[i].toNat:Int) != (rs[i].toNat:Int))=true:=by
   have a2:=HA.out i h2;rw [bne_iff_ne];omega
  have hz:Q0 (List.take (s.size-(i+1)) (List.drop (i+1) s.data.toList)) rs[i]=-1:=by
   rw [Qb (by rw [← Qz];omega),List.take_nil]
   rfl
  go_wp2
  go_step3
  go_wp2
  go_quiet (fail)
  go_wp2
  go_quiet ((go_at_call 88;exact qd9 (Tryz.strings_IndexByte _ _ _)))
  go_wp2
  repeat (first | rw [QR] | simp only [Exit.inBlock,Exit.then])
  go_ret
  exact ⟨rfl,belN (Qf _ _) _⟩
 ·go_wp2
  repeat (first | rw [QR] | simp only [Exit.inBlock])
  go_ret
  exact ⟨rfl,Qf _ _⟩
theorem ql6 (s:ByteArray) (hs:s.size=2) (r:Int) (w:World) (ha:∀ (j:Nat) (h:j<s.size),(s[j]'h).toNat<128) (h:r=65533∨(128≤r∧Qq r=true)) :
  Calls Tryz.prog 112 #[.string s,.int .i32 r] w λe w'=>e=.returned (.int .i64 (-1))∧Below w.heap.size w w':=by
 by_cases h3:r=65533
 ·subst h3;exact qjv s hs w ha
 ·rcases h with h | ⟨h1,h2⟩
  ·exact absurd h h3
  ·exact ql8 s hs r w ha h1 h2 h3
theorem decode_high (s:ByteArray) (i:Nat) (hi:i<s.size) (h:¬ (s[i]'hi).toNat<128) :
  1≤(Qd s i).2∧i+(Qd s i).2≤s.size∧((Qd s i).1=65533∨(128≤(Qd s i).1∧Qq (Qd s i).1=true)) ∧
   ∀ j (hj:j<s.size),i≤j→j<i+(Qd s i).2→¬ (s[j]'hj).toNat<128:=by
 have e:∀ k (hk:i+k<s.size),(s.get! (i+k)).toNat=(s[i+k]'hk).toNat:=λk hk=>by
  have:s.get! (i+k)=s[i+k]'hk:=by simp [ByteArray.get!,getElem!_pos,hk];rfl
  rw [this]
 have e0:(s.get! (i+0)).toNat=(s[i]'hi).toNat:=e 0 hi;have hb:∀ k,k<4→(decide (i+k<s.size)&&(s.get! (i+k)).toNat / 64==2)=true→∀ hj:i+k<s.size,¬ (s[i+k]'hj).toNat<128:=λk _ hc hj=>by
  rw [Q8] at hc;have h2:(s.get! (i+k)).toNat / 64=2:=by simpa using hc.2
  rw [e k hj] at h2;omega
 have hl:∀ k,(decide (i+k<s.size)&&(s.get! (i+k)).toNat / 64==2)=true→i+k<s.size:=λk hc=>by
  rw [Q8] at hc
  simpa using hc.1
 have one:∀ j (hj:j<s.size),i≤j→j<i+1→¬ (s[j]'hj).toNat<128:=λj hj h1 h2=>by
  obtain rfl:j=i:=by omega
  exact h
 have l0:(s[i]'hi).toNat<256:=Qk _;have l:∀ k,(s.get! k).toNat<256:=λk=>Qk _
 have l1:=l (i+1);have l2:=l (i+2);have l3:=l (i+3);unfold Qd;simp only [e0];rw [if_neg h];have bad:1≤1∧i+1≤s.size∧(QF=65533∨(128≤QF∧Qq (QF:Nat)=true))∧∀ j (hj:j<s.size),i≤j→j<i+1→¬ (s[j]'hj).toNat<128 :=
  ⟨by omega,by omega,.inl rfl,one⟩
 split
 ·rename_i h2
  rw [Q8] at h2;have c1:=h2.2;split
  ·refine ⟨by simp,by have:=hl 1 c1;simp;omega,.inr ⟨by simp only [];omega,?_⟩,?_⟩
   ·simp only [Qq]
    simp;omega
   ·intro j hj h3 h4
    by_cases hj0:j=i
    ·subst hj0;exact h
    ·obtain rfl:j=i+1:=by simp only [] at h4;omega
     exact hb 1 (by omega) c1 hj
  ·exact bad
 ·split
  ·rename_i h2
   rw [Q8,Q8] at h2;have c1:=h2.1.2;have c2:=h2.2;split
   ·rename_i h5
    rw [Q8] at h5;have h6:2048≤_:=of_decide_eq_true h5.1;refine ⟨by simp,by have:=hl 2 c2;simp;omega,.inr ⟨by simp only [];omega,by simpa using h5.2⟩,?_⟩
    intro j hj h3 h4;by_cases hj0:j=i
    ·subst hj0;exact h
    ·by_cases hj1:j=i+1
     ·subst hj1;exact hb 1 (by omega) c1 hj
     ·obtain rfl:j=i+2:=by simp only [] at h4;omega
      exact hb 2 (by omega) c2 hj
   ·exact bad
  ·split
   ·rename_i h2
    rw [Q8,Q8,Q8] at h2;have c1:=h2.1.1.2;have c2:=h2.1.2;have c3:=h2.2;split
    ·rename_i h5
     rw [Q8] at h5;have h6:65536≤_:=of_decide_eq_true h5.1;refine ⟨by simp,by have:=hl 3 c3;simp;omega,.inr ⟨by simp only [];omega,by simpa using h5.2⟩,?_⟩
     intro j hj h3 h4;by_cases hj0:j=i
     ·subst hj0;exact h
     ·by_cases hj1:j=i+1
      ·subst hj1;exact hb 1 (by omega) c1 hj
      ·by_cases hj2:j=i+2
       ·subst hj2;exact hb 2 (by omega) c2 hj
       ·obtain rfl:j=i+3:=by simp only [] at h4;omega
        exact hb 3 (by omega) c3 hj
    ·exact bad
   ·exact bad
set_option maxRecDepth 100000 in
set_option maxHeartbeats 1000000 in
theorem ql3 (s chars:ByteArray) (hc:chars.size=2) (w:World) (h8:s.size≤8) (hac:∀ (j:Nat) (h:j<chars.size),(chars[j]'h).toNat<128) :
  Calls Tryz.prog 90 #[.string s,.string chars] w λe w'=>e=.returned (.int .i64 (Lib.indexAny s.data.toList chars.data.toList))∧Below w.heap.size w w':=by
 have hemp:chars.toList.isEmpty=false:=by
  rw [Lib.toList_data];cases h:chars.data.toList with
  | nil=>have:=Qz chars;rw [h,List.length_nil] at this;omega
  | cons _ _=>rfl
 have hcon:∀ x:UInt8,¬ x.toNat<128→chars.data.toList.contains x=false:=λx hx=>by
  rw [List.contains_eq_any_beq,List.any_eq_false];intro y hy;obtain ⟨j,hj,rfl⟩:=List.mem_iff_getElem.1 hy;have hj':j<chars.size:=by rw [q0c];exact hj
  have h1:=hac j hj';have h2:=q7y chars j hj';rw [Qa hj] at h2;injection h2 with h2;intro he;have he':x=chars.data.toList[j]:=by simpa using he
  rw [he',h2] at hx;exact hx h1
 have HCON:=Q3 hcon;clear hcon;have HAC:=Q3 hac;clear hac;have hn1:((chars.size:Int)==1)=false:=beq_eq_false_iff_ne.2 (by omega)
 have HC:=Q3 hc;clear hc;have h8z:decide ((8:Int)<(s.size:Int))=false:=decide_eq_false (by omega)
 have hg0:(w.iter s 0).heap[w.heap.size]? = some (.stringIter s 0):=World.iter_heap w s 0;have hb0:Below w.heap.size w (w.iter s 0):=(Qf _ _).alloc (Q9 _) _;have hz0:w.heap.size<(w.iter s 0).heap.size:=by show w.heap.size<(w.heap.push _).size;simp
 go_enter Tryz.func90,Tryz.ntmps90
 go_wp2_with (go_at_call 113;refine (Tryz.strings_shouldUseASCIISet _ _).mono ?_;rintro e w' ⟨rfl,rfl⟩;rw [h8z])
 go_loopg [9,10] s.size (λg _ _ wx=>∃ i:Nat,i+g=s.size∧wx.heap[w'.heap.size]? = some (.stringIter s i)∧Below w'.heap.size w' wx∧w'.heap.size<wx.heap.size∧Lib.NoAny s.data.toList chars.data.toList i)
 case atStart=>exact ⟨0,by omega,hg0,hb0,hz0,Lib.NoAny.zero _ _⟩
 case round =>
  obtain ⟨i,hig,hit,hbx,hlt,hno⟩:=hrel;clear hg0 hb0 hz0;have HN:=Q3 hno;clear hno;have HB:=Q3 hbx;clear hbx;by_cases hi:i<s.size
  ·have hnx:=λty=>Lib.run_next_any_at (P:=Tryz.prog) wr w'.heap.size s i ty hit hi
   have hdle:=decode_le s i;have hxl:s.data.toList[i]? = some s[i]:=q7y s i hi;by_cases ha:s[i].toNat<128
   ·rw [decode_ascii s i hi ha] at hnx hdle
    simp only [] at hnx;have Hx:=Q3 hxl;clear hxl;have HIT:=Q3 hit;clear hit;generalize s[i]=x at *
    have hcn:=Lib.contains_iff_indexByte chars.data.toList x;have hback:((x.toNat:Int)).toNat.toUInt8=x:=by simp
    cases hin:chars.data.toList.contains x
    ·rw [hin] at hcn
     have hlt2:¬ ((0:Int)≤Q0 chars.data.toList x):=of_decide_eq_false hcn.symm;clear hcn;have HIN:=Q3 hin;clear hin
     go_wp2_with (go_at_call 112;refine (Tryz.strings_IndexRune_ascii _ _ _ (by omega) (by omega)).mono ?_;rintro e w' ⟨rfl,hw⟩;rw [hw,hback])
     go_roundg (s.size-(i+1))
     case measure=>omega
     case rel=>exact ⟨i+1,by omega,QS _ _ _ _ _ HIT.out,Qv HB.out (Q9 _) _ _,by rw [Qr];exact hlt,HN.out.succ Hx.out HIN.out⟩
    ·rw [hin] at hcn
     have hge:(0:Int)≤Q0 chars.data.toList x:=of_decide_eq_true hcn.symm;clear hcn;have HIN:=Q3 hin;clear hin
     go_wp2_with (go_at_call 112;refine (Tryz.strings_IndexRune_ascii _ _ _ (by omega) (by omega)).mono ?_;rintro e w' ⟨rfl,hw⟩;rw [hw,hback])
     go_ret
     exact ⟨by rw [Lib.indexAny_hit HN.out Hx.out HIN.out];rfl,Qv HB.out (Q9 _) _ _⟩
   ·obtain ⟨d1,d2,d3,d4⟩:=decode_high s i hi ha
    have hall:Lib.NoAny s.data.toList chars.data.toList (i+(Qd s i).2):=by
     intro j b hj hb;by_cases hji:j<i
     ·exact HN.out j b hji hb
     ·have hjs:j<s.size:=by
       rw [Qz];rcases Qh j s.data.toList.length with hjl | hjl
       ·exact hjl
       ·rw [Qi hjl] at hb;cases hb
      rw [q7y s j hjs] at hb;injection hb with hb;rw [← hb];exact HCON.out _ (d4 j hjs (by omega) hj)
    have HALL:=Q3 hall;clear hall d4 ha hxl;have HD3:=Q3 d3;clear d3;have HIT:=Q3 hit;clear hit;generalize Qd s i=dc at *
    obtain ⟨r,n⟩:=dc;simp only [] at hnx d1 d2 hdle;have hr3:(r:Int)=65533∨(128≤(r:Int)∧Qq r=true):=by
     rcases HD3.out with h | h
     ·left;simp only [] at h;omega
     ·right;simp only [] at h;exact ⟨by omega,h.2⟩
    have HR3:=Q3 hr3;clear hr3
    go_wp2_with fail
    refine (ql6 chars HC.out r _ HAC.out HR3.out).mono ?_;rintro e w2 ⟨rfl,hb2⟩;have HB2:=Q3 hb2;clear hb2
    go_wp2
    go_roundg (s.size-(i+n))
    case measure=>omega
    case rel =>
     have hz2:=HB2.out.size;rw [Qr] at hz2;refine ⟨i+n,by omega,?_,?_,by omega,HALL.out⟩
     ·rw [HB2.out.block _ (by rw [Qr];exact hlt)]
      exact QS _ _ _ _ _ HIT.out
     ·exact (Qv HB.out (Q9 _) _ _).trans (HB2.out.mono (by rw [Qr];omega))
  ·have hnx:=λty=>Lib.run_next_end_at (P:=Tryz.prog) wr w'.heap.size s i ty hit hi
   have hii:i=s.data.toList.length:=by rw [← Qz];omega
   have HI:=Q3 hii;clear hii;have HIT:=Q3 hit;clear hit
   go_wp2
   go_ret
   exact ⟨by rw [Lib.indexAny_none (by rw [← HI.out];exact HN.out)];rfl,HB.out⟩
theorem zero_ascii:∀ w,(zeroValue 159).run Tryz.prog w=.ok (.agg (Qw 256 (.bool false))) w:=λ_=>by kernel_rfl
theorem qkz (s:ByteArray) (w:World) (hs:s.size<4294967281) :
  Calls Tryz.prog 90 #[.string s,.string { data:=#[34,10] }] w λe w'=>e=.returned (.int .i64 (Lib.indexAny s.data.toList [34,10]))∧Below w.heap.size w w':=by
 have ha:∀ (j:Nat) (h:j<(⟨#[34,10]⟩:ByteArray).size),((⟨#[34,10]⟩:ByteArray)[j]'h).toNat<128:=by
  intro j h;have h2:(⟨#[34,10]⟩:ByteArray).size=2:=rfl;rw [h2] at h
  match j,h with
  | 0,_=>show (34:UInt8).toNat<128;decide
  | 1,_=>show (10:UInt8).toNat<128;decide
 by_cases h8:s.size≤8
 ·exact ql3 s ⟨#[34,10]⟩ rfl w h8 ha
 ·refine (Tryz.strings_IndexAny_long zero_ascii s ⟨#[34,10]⟩ w (Q9 2) (by omega) hs (by show 2<4294967281;omega) ?_).mono ?_
  ·intro j b hb
   have h2:j<2:=by
    rcases Qh j 2 with h | h
    ·exact h
    ·rw [Qi (by simpa using h)] at hb;cases hb
   have hb':([34,10]:List UInt8)[j]? = some b:=hb
   match j,h2 with
   | 0,_=>injection hb' with hb';subst hb';decide
   | 1,_=>injection hb' with hb';subst hb';decide
  ·rintro e w' ⟨rfl,rfl⟩
   exact ⟨rfl,((Qf _ _).alloc (Q9 _) _).alloc (by simp) _⟩
end Go.Proofs.YtlmbfijhkcmncaaGreatDoor

/-
  Several texts in one: WalkBase, R1, R2, R3, R4, R5.
-/
import Derived.Test.YtlmbfijhkcmncaaGreatDoorPA
import Derived.Test.YtlmbfijhkcmncaaGreatDoorShelf
import Derived.WalkKit
import Derived.WalkLawsBesides
import Derived.WalkSpells
import Derived.WalkMore
import Derived.WalkSmall
import Derived.Outline
import Derived.BigQuiet
import Derived.Deep.QuietTactic
import Derived.Deep.LoopGhost
import Derived.Lib.Hide
import Derived.Deep.WholeRow
import Derived.Maps.AppendAt
import Derived.Deep.AppendLies
import Derived.OwnWalk
import Derived.Maps.RangeRun
import Derived.Laws.StructEq
open List renaming getElem?_eq_getElem→Q0,getElem?_eq_some_iff→Q3,getD_eq_getElem?_getD→Qk,mem_of_getElem?→Qp
open Array renaming getElem?_setIfInBounds_self_of_lt→Q7,getElem?_setIfInBounds_ne→Q8,getD_eq_getD_getElem?→Qd,getElem?_extract→Qg,getElem?_eq_none→Ql,getElem?_toList→Qm,size_extract→Qu
open Nat renaming lt_of_lt_of_le→Q9,add_assoc→Qh,eq_of_beq_eq_true→Qi,le_trans→Qs,eq_zero_or_pos→Qv,le_refl→Qy
open Go.Instr renaming sliceBounds→Qa
open Go.Sem renaming run_bind→Qb
open Go.Builtin renaming len_→Qc
open BitVec renaming ofInt→Qe
open Go.Result renaming andThen_ok→Qf
open Go renaming loadVar→Qj,undef→Qo,part→Qw
open Go.RowKit.Below renaming refl→Qn,heap_setCell→Qr
open Int renaming toNat_of_nonneg→Qq
open Go.Op renaming bytesLess→Qt,equalIn→QE
open Bool renaming eq_false_iff→Qx,and_eq_true→QA
open Go.IntKind renaming i64→Qz
open Option renaming getD_some→QC,map_some→QF
open Go.Ending renaming returned→QD
open Go.Addr renaming add→QG
set_option linter.unusedVariables false
namespace Go.Proofs.YtlmbfijhkcmncaaGreatDoor
open Go.RowKit
theorem q12 (w:World) (n:Nat) (o:Obj):(w.drewN n).alloc o=(w.alloc o).drewN n:=rfl
theorem q0q (w:World) (n:Nat) (a:Addr) (v:Value):(w.drewN n).setCell a v=(w.setCell a v).drewN n:=rfl
theorem q0s (w:World) (n g:Nat) (c:Array Value):(w.drewN n).setRow g c=(w.setRow g c).drewN n:=rfl
attribute [local go_sem] q12 q0q q0s
theorem ret_int {k:IntKind} {a b:Int} (h:a=b):QD (.int k a)=.returned (.int k b):=by rw [h]
theorem q1j {a b:Bool} (h:a=b):QD (.bool a)=.returned (.bool b):=by rw [h]
theorem belN {B:Nat} {a w:World} (h:Below B a w) (n:Nat):Below B a (w.drewN n):=h.trans ⟨rfl,rfl,rfl,Qy _,λ_ _=>rfl⟩
theorem q13 {w X:World} (h:Below w.heap.size w X) (n:Nat):Below w.heap.size w (X.drewN n):=h.trans ⟨rfl,rfl,rfl,Qy _,λ_ _=>rfl⟩
theorem q7z {w X:World} (h:Below w.heap.size w X):Below w.heap.size w X.drew:=h.drew
theorem q02 {w X:World} (h:Below w.heap.size w X) (o:Obj):Below w.heap.size w (X.alloc o):=h.alloc h.size o
theorem q1a {w X:World} (h:Below w.heap.size w X) {p:Addr} (hp:w.heap.size≤p.block) (v:Value):Below w.heap.size w (X.setCell p v):=h.setCell hp v
theorem q1y {w X Y:World} (h:Below w.heap.size w X) (k:Below X.heap.size X Y):Below w.heap.size w Y:=h.trans (k.mono h.size)
theorem q03 (w:World):Below w.heap.size w w:=Qn _ _
theorem bel_grown {w X Y:World} (h:Below w.heap.size w X) {row:Option Nat} (hg:X.grownBy Y row) (hr:∀ k,row=some k→w.heap.size≤k):Below w.heap.size w Y:=h.grown hg h.size hr
theorem qd9 {P:Program} {f:FuncId} {args:Array Value} {w:World} {a n:Nat} {v:Value}
  (h:Calls P f args (w.drewN (a+n)) λe w'=>e=.returned v∧w'=w.drewN (a+n)) :
  Calls P f args (w.drewN (a+n)) λe w''=>e=.returned v∧∃ m,w''=w.drewN (a+m) :=
 h.mono λ_ _ ⟨he,hm⟩=>⟨he,n,hm⟩
def Blk (w:World) (g:Nat) (t:TypeId) (cs:Array Value):Prop:=w.heap[g]? = some (.cells cs t (0,0))
section
variable {w w':World} {g:Nat} {t:TypeId} {cs:Array Value}
theorem Blk.lt (h:Blk w g t cs):g<w.heap.size:=by
 rcases Nat.lt_or_ge g w.heap.size with hlt | hge
 ·exact hlt
 ·unfold Blk at h;rw [Ql hge] at h;cases h
theorem Blk.cell (h:Blk w g t cs) (i:Nat):w.cell? ⟨g,i,none⟩=cs[i]? := cell_of_row w g i cs t (0,0) h
theorem Blk.frozen (h:Blk w g t cs) (i:Nat):w.frozen? ⟨g,i,none⟩=false:=frozen_of_row w g i cs t h
theorem Blk.new (w:World) (t:TypeId) (cs:Array Value):Blk (w.alloc (.cells cs t)) w.heap.size t cs:=heap_alloc_new w _
theorem Blk.drewN (h:Blk w g t cs) (n:Nat):Blk (w.drewN n) g t cs:=h
theorem Blk.alloc (h:Blk w g t cs) (o:Obj):Blk (w.alloc o) g t cs:=(Below.heap_alloc w o g h.lt).trans h
theorem Blk.set_ (h:Blk w g t cs) (i:Nat) (u:Value):Blk (w.setCell ⟨g,i,none⟩ u) g t (cs.setIfInBounds i u):=by
 unfold Blk at h ⊢;simp [World.setCell,Array.getElem?_modify,h]
theorem Blk.far (h:Blk w g t cs) {p:Addr} (hp:g≠p.block) (u:Value):Blk (w.setCell p u) g t cs:=(Qr w p u g hp).trans h
theorem Blk.below {B:Nat} (h:Blk w g t cs) (hb:Below B w w') (hg:g<B):Blk w' g t cs:=(hb.block g hg).trans h
theorem Blk.bel (h:Blk w g t cs) (hb:Below w.heap.size w w'):Blk w' g t cs:=h.below hb h.lt
theorem Blk.grown {row:Option Nat} (h:Blk w g t cs) (hb:w.grownBy w' row) (hg:some g≠row):Blk w' g t cs:=(hb.block g h.lt hg).trans h
end
theorem q1t {P:Program} {fn:Func} {p a b:Tmp} {ty:TypeId} (h:fn.results=#[.cell p ty,.tmp a,.tmp b]) (tmps:Array Value) (w:World) (g:Nat) (t:TypeId) (cs:Array Value) (d:TypeDesc)
  (hp:tmps.getD p undef=.pointer (some ⟨g,0,none⟩)) (hg:Blk w g t cs)
  (hu:P.underlying ty=some d) (hd:(match d with | .struct _ | .array _ _=>true | _=>false)=true) (hi:(P.info? ty).map (·.size)=some cs.size) :
  (results fn tmps).run P w=.ok (.tuple #[.agg cs,tmps.getD a undef,tmps.getD b undef]) w:=by
 have hp':tmps[p]?.getD undef=.pointer (some ⟨g,0,none⟩):=by simpa using hp
 simp [results,h,hp',asAddr,run_loadVar_row w g t ty cs (0,0) d hg hu hd hi]
theorem q6u {w:World} {base base':Nat} {e:TypeId} {size n:Nat} {v:Value} {xs:List Value} (h:w.ownsRow base e size v n xs) (hb:base'≤base):w.ownsRow base' e size v n xs:=by
 refine ⟨h.1,?_⟩;rcases h.2 with h | ⟨g,cap,cur,h1,h2,h3⟩
 ·exact .inl h
 ·exact .inr ⟨g,cap,cur,h1,by omega,h3⟩
theorem q31 {w w':World} {base:Nat} {e:TypeId} {size n:Nat} {v:Value} {xs:List Value} (h:w.ownsRow base e size v n xs) (hb:Below w.heap.size w w'):w'.ownsRow base e size v n xs:=by
 refine ⟨h.1,?_⟩;rcases h.2 with h | ⟨g,cap,cur,h1,h2,h3,h4⟩
 ·exact .inl h
 ·have hlt:g<w.heap.size:=by
   rcases Nat.lt_or_ge g w.heap.size with hlt | hge
   ·exact hlt
   ·rw [Ql hge] at h3;cases h3
  exact .inr ⟨g,cap,cur,h1,h2,(hb.block g hlt).trans h3,h4⟩
theorem q2r {w:World} {base:Nat} {e:TypeId} {size n:Nat} {v:Value} {xs:List Value} (h:w.ownsRow base e size v n xs):∀ k,v.ownBlock=some k→base≤k:=by
 intro k hk;rcases h.2 with ⟨rfl,_⟩ | ⟨g,cap,cur,rfl,h2,_⟩
 ·cases hk
 ·simp [Value.ownBlock] at hk
  omega
theorem q4a {w:World} {base:Nat} {e:TypeId} {size n:Nat} {v:Value} {xs:List Value} (h:w.ownsRow base e size v n xs):∃ A c,v=.slice A n c:=by
 rcases h.2 with ⟨rfl,rfl⟩ | ⟨g,cap,cur,rfl,_⟩
 ·exact ⟨_,_,rfl⟩
 ·exact ⟨_,_,rfl⟩
theorem cells_new (w:World) (l:List Value) (t:TypeId) (g:Nat) (hg:g=w.heap.size):∀ (j:Nat) (u:Value),l[j]? = some u→(w.alloc (.cells l.toArray t)).cell? (QG ⟨g,0,none⟩ j)=some u:=by
 intro j u h;subst hg;have hadd:(⟨w.heap.size,0,none⟩:Addr).add j=⟨w.heap.size,j,none⟩:=by unfold QG;split <;> simp_all
 rw [hadd,(Blk.new w t l.toArray).cell j]
 simpa using h
theorem qjt {P:Program} {ops:Array Oper} {rest:List Oper} {o:Oper} {a:Act} {w:World} {Q:Exit→Act→World→Prop} (hg:o.guard=none) (t:TypeId) (parts:List (Nat×Operand)) (ho:o.op=.build t parts.toArray)
  (l:List (Nat×Value)) (hl:(parts.map λ(i,x)=>(i,a.eval x))=l) (cs:Array Value) (hb:P.built t l=some cs)
  (h:wpList P ops Q rest (a.put o.dst (.agg cs)) w):wpList P ops Q (o::rest) a w:=by
 have e:(parts.toArray.map λ(i,x)=>(i,a.eval x)).toList=l:=by rw [← hl];simp
 refine wpList_build hg t parts.toArray ho (by rw [e,hb];rfl) ?_
 rw [e,hb];exact h
end Go.Proofs.YtlmbfijhkcmncaaGreatDoor
namespace Go.Proofs.YtlmbfijhkcmncaaGreatDoor
open Go.RowKit
namespace R
mutual
inductive Kd where
 | int (k:IntKind)
 | bool
 | str
 | sl (fs:Kds)
inductive Kds where
 | one (k:Kd)
 | cons (k:Kd) (ks:Kds)
end
mutual
@[reducible] def Kd.Pay:Kd→Type
 | .int _=>Int
 | .bool=>Bool
 | .str=>List UInt8
 | .sl fs=>List fs.Pay
@[reducible] def Kds.Pay:Kds→Type
 | .one k=>k.Pay
 | .cons k ks=>k.Pay×ks.Pay
end
def Kds.size:Kds→Nat
 | .one _=>1
 | .cons _ ks=>ks.size+1
theorem Kds.q80:∀ fs:Kds,0<fs.size
 | .one _=>Nat.one_pos
 | .cons _ _=>Nat.succ_pos _
mutual
def Kd.Rep (w:World) (S:Nat→Prop):(k:Kd)→k.Pay→Value→Prop
 | .int k,n,v=>v=.int k n
 | .bool,b,v=>v=.bool b
 | .str,s,v=>v=.string (bs s)
 | .sl fs,xs,v=>∃ A c,v=.slice A (xs:List fs.Pay).length c∧(xs:List fs.Pay).length≤c ∧
   (0<(xs:List fs.Pay).length→∃ g off,A=some ⟨g,off,none⟩∧g<w.heap.size∧S g∧∀ (i:Nat) (x:fs.Pay),(xs:List fs.Pay)[i]? = some x→fs.Rep w S x g (off+i*fs.size))
def Kds.Rep (w:World) (S:Nat→Prop):(fs:Kds)→fs.Pay→Nat→Nat→Prop
 | .one k,p,g,o=>∃ u,w.cell? ⟨g,o,none⟩=some u∧k.Rep w S p u
 | .cons k ks,p,g,o=>(∃ u,w.cell? ⟨g,o,none⟩=some u∧k.Rep w S p.1 u)∧ks.Rep w S p.2 g (o+1)
end
section
variable {w w':World} {S S':Nat→Prop}
structure Keeps (w w':World) (S:Nat→Prop):Prop where
 size:w.heap.size≤w'.heap.size
 cell:∀ g o,S g→g<w.heap.size→w'.cell? ⟨g,o,none⟩=w.cell? ⟨g,o,none⟩
mutual
theorem Kd.Rep.keeps (hk:Keeps w w' S) (hS:∀ g,S g→g<w.heap.size→S' g):∀ (k:Kd) (p:k.Pay) (v:Value),k.Rep w S p v→k.Rep w' S' p v
 | .int k,n,v,h=>h
 | .bool,b,v,h=>h
 | .str,s,v,h=>h
 | .sl fs,xs,v,h=>by
  obtain ⟨A,c,rfl,hc,h⟩:=h;refine ⟨A,c,rfl,hc,λhp=>?_⟩
  obtain ⟨g,off,hA,hg,hSg,hc⟩:=h hp;exact ⟨g,off,hA,Q9 hg hk.size,hS g hSg hg,λi x hi=>Kds.Rep.keeps hk hS fs x g _ hSg hg (hc i x hi)⟩
theorem Kds.Rep.keeps (hk:Keeps w w' S) (hS:∀ g,S g→g<w.heap.size→S' g):∀ (fs:Kds) (p:fs.Pay) (g o:Nat),S g→g<w.heap.size→fs.Rep w S p g o→fs.Rep w' S' p g o
 | .one k,p,g,o,hs,hg,h=>by
  obtain ⟨u,hu,h⟩:=h;exact ⟨u,(hk.cell g o hs hg).trans hu,Kd.Rep.keeps hk hS k p u h⟩
 | .cons k ks,p,g,o,hs,hg,h=>by
  obtain ⟨⟨u,hu,h1⟩,h2⟩:=h;exact ⟨⟨u,(hk.cell g o hs hg).trans hu,Kd.Rep.keeps hk hS k p.1 u h1⟩,Kds.Rep.keeps hk hS ks p.2 g (o+1) hs hg h2⟩
end
theorem Keeps.refl (w:World) (S:Nat→Prop):Keeps w w S:=⟨Qy _,λ_ _ _ _=>rfl⟩
theorem Keeps.trans {w'':World} (h:Keeps w w' S) (h':Keeps w' w'' S):Keeps w w'' S :=
 ⟨Qs h.size h'.size,λg o hs hg=>(h'.cell g o hs (Q9 hg h.size)).trans (h.cell g o hs hg)⟩
theorem Keeps.below (h:Below w.heap.size w w') (S:Nat→Prop):Keeps w w' S:=⟨h.size,λg o _ hg=>h.cell (p:=⟨g,o,none⟩) hg⟩
theorem Keeps.set {p:Addr} (hp:¬ S p.block) (v:Value):Keeps w (w.setCell p v) S :=
 ⟨by simp,λg o hs _=>World.cell?_of_block (Qr w p v g (λe=>hp (e▸hs)))⟩
def Kds.fld:(fs:Kds)→fs.Pay→Nat→Option ((k:Kd)×k.Pay)
 | .one k,p,0=>some ⟨k,p⟩
 | .one _,_,_+1=>none
 | .cons k _,p,0=>some ⟨k,p.1⟩
 | .cons _ ks,p,n+1=>ks.fld p.2 n
theorem Kds.Rep.fld:∀ (fs:Kds) (p:fs.Pay) (g o f:Nat) (x:(k:Kd)×k.Pay),fs.Rep w S p g o→fs.fld p f=some x→∃ u,w.cell? ⟨g,o+f,none⟩=some u∧x.1.Rep w S x.2 u
 | .one k,p,g,o,0,x,h,hf=>by injection hf with hf;subst hf;exact h
 | .one k,p,g,o,f+1,x,h,hf=>by cases hf
 | .cons k ks,p,g,o,0,x,h,hf=>by injection hf with hf;subst hf;exact h.1
 | .cons k ks,p,g,o,f+1,x,h,hf=>by
  have:=Kds.Rep.fld ks p.2 g (o+1) f x h.2 hf
  rwa [Qh,Nat.add_comm 1 f] at this
end
end R
namespace Mp
variable {α β:Type}
def get (eq:α→α→Bool) (k:α):List (α×β)→Option β
 | []=>none
 | x::r=>if eq k x.1 then some x.2 else get eq k r
def put (eq:α→α→Bool) (k:α) (v:β):List (α×β)→List (α×β)
 | []=>[(k,v)]
 | x::r=>if eq k x.1 then (k,v)::r else x::put eq k v r
end Mp
namespace R
inductive CK where
 | one (k:Kd)
 | agg (ks:Kds)
@[reducible] def CK.Pay:CK→Type
 | .one k=>k.Pay
 | .agg ks=>ks.Pay
inductive Src where
 | map (m:Nat)
 | inner (kk:CK) (k:kk.Pay)
 | none
inductive Cell where
 | any
 | undef
 | nil
 | val (k:Kd) (p:k.Pay)
 | ptr (b off:Nat)
 | ep (fs:Kds) (p:fs.Pay) (f:Nat)
 | own (r:Nat)
 | rp (r sz i f:Nat)
 | sfx (r sz i:Nat)
 | fn (f:FuncId)
 | clo (f:FuncId) (k:Nat) (ps:List (Nat×Nat))
 | fsl (cls:List (FuncId×Nat×List (Nat×Nat)))
 | fel (cls:List (FuncId×Nat×List (Nat×Nat))) (n:Int)
 | nilm
 | mref (m:Nat)
 | dyn (t:TypeId) (ks:Kds) (p:ks.Pay)
 | nref
 | iref (kk:CK) (k:kk.Pay)
 | iter (i:Nat)
 | kseq (f:FuncId) (src:Src)
 | fref
 | fent (kk:CK) (k:kk.Pay)
 | fp (kk:CK) (k:kk.Pay) (sz i f:Nat)
 | fnew
 | yld (j:Nat)
 | fstamp
 | bnd (f:FuncId) (x:CK) (p:x.Pay)
mutual
def Kd.deq:(k k':Kd)→Option (PLift (k=k'))
 | .int a,.int b=>if h:a=b then some ⟨by rw [h]⟩ else none
 | .bool,.bool=>some ⟨rfl⟩
 | .str,.str=>some ⟨rfl⟩
 | .sl fs,.sl gs=>match fs.deq gs with
  | some ⟨h⟩=>some ⟨by rw [h]⟩
  | none=>none
 | _,_=>none
def Kds.deq:(k k':Kds)→Option (PLift (k=k'))
 | .one a,.one b=>match a.deq b with
  | some ⟨h⟩=>some ⟨by rw [h]⟩
  | none=>none
 | .cons a xs,.cons b ys=>match a.deq b,xs.deq ys with
  | some ⟨h⟩,some ⟨h'⟩=>some ⟨by rw [h,h']⟩
  | _,_=>none
 | _,_=>none
end
def CK.deq:(x y:CK)→Option (PLift (x=y))
 | .one a,.one b=>match a.deq b with
  | some ⟨h⟩=>some ⟨by rw [h]⟩
  | none=>none
 | .agg a,.agg b=>match a.deq b with
  | some ⟨h⟩=>some ⟨by rw [h]⟩
  | none=>none
 | _,_=>none
inductive Comp where
 | one (c:Cell)
 | agg (cs:List Cell)
inductive AV where
 | c (x:Comp)
 | tup (xs:List Comp)
def Kds.cells:(ks:Kds)→ks.Pay→List Cell
 | .one k,p=>[.val k p]
 | .cons k ks,p=>.val k p.1::ks.cells p.2
def CK.comp:(x:CK)→x.Pay→Comp
 | .one k,p=>.one (.val k p)
 | .agg ks,p=>.agg (ks.cells p)
def q3c (k:Kd):Cell→Option k.Pay
 | .val k' p=>match k'.deq k with
  | some ⟨h⟩=>some (h▸p)
  | none=>none
 | .nil=>match k with
  | .sl fs=>some ([]:List fs.Pay)
  | _=>none
 | _=>none
def q1e:(ks:Kds)→List Cell→Option ks.Pay
 | .one k,[c]=>q3c k c
 | .cons k ks,c::cs=>match q3c k c,q1e ks cs with
  | some p,some q=>some (p,q)
  | _,_=>none
 | _,_=>none
def q25:(x:CK)→Comp→Option x.Pay
 | .one k,.one c=>q3c k c
 | .agg ks,.agg cs=>q1e ks cs
 | _,_=>none
mutual
def Kd.kv:(k:Kd)→k.Pay→Value
 | .int k,n=>.int k n
 | .bool,b=>.bool b
 | .str,s=>.string (bs s)
 | .sl _,_=>Qo
def Kds.kvs:(ks:Kds)→ks.Pay→List Value
 | .one k,p=>[k.kv p]
 | .cons k ks,p=>k.kv p.1::ks.kvs p.2
end
def CK.kv:(x:CK)→x.Pay→Value
 | .one k,p=>k.kv p
 | .agg ks,p=>.agg (ks.kvs p).toArray
mutual
@[reducible] def Kd.eqB:(k:Kd)→k.Pay→k.Pay→Bool
 | .int _,a,b=>(a:Int)==b
 | .bool,a,b=>(a:Bool)==b
 | .str,a,b=>(a:List UInt8)==b
 | .sl _,_,_=>false
@[reducible] def Kds.eqB:(ks:Kds)→ks.Pay→ks.Pay→Bool
 | .one k,a,b=>k.eqB a b
 | .cons k ks,a,b=>k.eqB a.1 b.1&&ks.eqB a.2 b.2
end
@[reducible] def CK.eqB:(x:CK)→x.Pay→x.Pay→Bool
 | .one k=>k.eqB
 | .agg ks=>ks.eqB
structure Row where
 e:TypeId
 fs:Kds
 xs:List fs.Pay
structure MRow where
 t:TypeId
 kk:CK
 vk:CK
 xs:List (kk.Pay×vk.Pay)
structure NRow where
 t:TypeId
 kk:CK
 it:TypeId
 ik:CK
 iv:CK
 xs:List (kk.Pay×List (ik.Pay×iv.Pay))
structure FRow where
 t:TypeId
 kk:CK
 e:TypeId
 fs:Kds
 xs:List (kk.Pay×List fs.Pay)
 pend:Option (kk.Pay×List fs.Pay):=none
 mark:Option kk.Pay:=none
structure ItP where
 src:Src
 kk:CK
 vk:CK
 left:List (kk.Pay×vk.Pay)
 cur:Option (kk.Pay×vk.Pay)
inductive Jmp where
 | ret
 | exit (id:Nat)
def Jmp.code:Jmp→Code
 | .ret=>.ret
 | .exit id=>.exit id
structure Lp where
 j:Nat
 n:Nat
 env:List (Nat×AV)
 ps:List Nat
 busy:Bool
 jump:Option Jmp
def Lp.mapA (g:AV→AV) (L:Lp):Lp:={ L with env:=L.env.map (λ(t,v)=>(t,g v)) }
def q5u (j:Nat):List Lp→Option Lp
 | []=>none
 | L::r=>bif L.j.beq j then some L else q5u j r
def q3p (j:Nat):List Lp→List Lp
 | []=>[]
 | L::r=>bif L.j.beq j then q3p j r else L::q3p j r
def qa1 (j:Nat) (busy:Bool) (x:Option Jmp):List Lp→List Lp
 | []=>[]
 | L::r=>(bif L.j.beq j then { L with busy:=busy,jump:=x } else L)::qa1 j busy x r
structure St where
 n:Nat
 env:List (Nat×AV)
 boxes:List (Nat×List Cell)
 rows:List (Nat×Row)
 sav:List (Nat×AV):=[]
 maps:List (Nat×MRow):=[]
 off:Nat:=0
 nest:Option NRow:=none
 iters:List (Nat×ItP):=[]
 fam:Option FRow:=none
 lps:List Lp:=[]
def look {α:Type} (d:α) (t:Nat):List (Nat×α)→α
 | []=>d
 | (u,v)::r=>bif u.beq t then v else look d t r
def look? {α:Type} (t:Nat):List (Nat×α)→Option α
 | []=>none
 | (u,v)::r=>bif u.beq t then some v else look? t r
def St.get (st:St) (t:Nat):AV:=look (.c (.one .any)) t st.env
def St.box (st:St) (b:Nat):Option (List Cell):=look? b st.boxes
def St.row (st:St) (r:Nat):Option Row:=look? r st.rows
def St.map (st:St) (m:Nat):Option MRow:=look? m st.maps
def St.iter (st:St) (i:Nat):Option ItP:=look? i st.iters
def St.set (st:St) (t:Nat) (v:AV):St:={ st with env:=(t,v)::st.env }
def St.put (st:St) (d:Option Nat) (v:AV):St :=
 match d with
 | some t=>st.set t v
 | none=>st
def int (k:IntKind) (n:Int):AV:=.c (.one (.val (.int k) n))
def bool (b:Bool):AV:=.c (.one (.val .bool b))
def str (s:List UInt8):AV:=.c (.one (.val .str s))
def qda:Value→Cell
 | .bool b=>.val .bool b
 | .int k n=>.val (.int k) n
 | .string s=>.val .str s.data.toList
 | .slice none 0 0=>.nil
 | .map none=>.nilm
 | _=>.any
def qhm:Value→AV
 | .agg cs=>bif cs.toList.all (·.oneCell') then .c (.agg (cs.toList.map qda)) else .c (.one .any)
 | v=>.c (.one (qda v))
def St.ev (st:St):Operand→AV
 | .tmp t=>st.get t
 | .const v=>qhm v
 | .global _=>.c (.one .any)
 | .func f=>.c (.one (.fn f))
inductive Got where
 | no
 | ok (c:Prop) (v:AV)
mutual
@[reducible] def Kd.dflt:(k:Kd)→k.Pay
 | .int _=>(0:Int)
 | .bool=>false
 | .str=>([]:List UInt8)
 | .sl fs=>([]:List fs.Pay)
@[reducible] def Kds.dflt:(fs:Kds)→fs.Pay
 | .one k=>k.dflt
 | .cons k ks=>(k.dflt,ks.dflt)
end
def pickAV (q:Bool):AV→AV→AV
 | .c (.one (.val .bool p)),.c (.one (.val .bool r))=>.c (.one (.val .bool (bif q then p else r)))
 | x,y=>bif q then x else y
def q7g (P:Program) (t:TypeId):Option Bool :=
 match P.underlying t with
 | some (.struct _) | some (.array _ _)=>some true
 | some _=>some false
 | none=>none
def q15 (P:Program) (t:TypeId):Option Nat:=(P.info? t).map (·.size)
def qaf (cs:List Cell) (off:Nat):Nat→Option (List Cell)
 | 0=>some []
 | n+1=>match cs[off]? with
  | some c=>(qaf cs (off+1) n).map (c::·)
  | none=>none
def qbt (fs:Kds) (p:fs.Pay) (f:Nat):Nat→Option (List Cell)
 | 0=>some []
 | n+1=>match fs.fld p f with
  | some x=>(qbt fs p (f+1) n).map (Cell.val x.1 x.2::·)
  | none=>none
def partOf (P:Program) (t:TypeId) (cs:List Cell) (off:Nat):Got :=
 match q7g P t,q15 P t with
 | some true,some n=>match qaf cs off n with
  | some l=>.ok True (.c (.agg l))
  | none=>.no
 | some false,_=>match cs[off]? with
  | some c=>.ok True (.c (.one c))
  | none=>.no
 | _,_=>.no
def q6y (P:Program) (t:TypeId) (fs:Kds) (p:fs.Pay) (f:Nat):Got :=
 match q7g P t,q15 P t with
 | some true,some n=>match qbt fs p f n with
  | some l=>.ok True (.c (.agg l))
  | none=>.no
 | some false,_=>match fs.fld p f with
  | some x=>.ok True (.c (.one (.val x.1 x.2)))
  | none=>.no
 | _,_=>.no
def fits64 (n:Int):Prop:=-9223372036854775808≤n∧n≤9223372036854775807
def intOp (op:BinOp) (k:IntKind) (a b:Int):Got :=
 match op with
 | .add=>match k with
  | .i64=>.ok (fits64 (a+b)) (int .i64 (a+b))
  | _=>.ok True (int k (k.wrap (a+b)))
 | .sub=>match k with
  | .i64=>.ok (fits64 (a-b)) (int .i64 (a-b))
  | _=>.ok True (int k (k.wrap (a-b)))
 | .mul=>match k with
  | .i64=>.ok (fits64 (a*b)) (int .i64 (a*b))
  | _=>.ok True (int k (k.wrap (a*b)))
 | .quo=>.ok (b≠0) (int k (k.wrap (a.tdiv b)))
 | .rem=>.ok (b≠0) (int k (a.tmod b))
 | .and=>.ok True (int k (k.wrap ((Qe k.bits a) &&& (Qe k.bits b)).toNat))
 | .or=>.ok True (int k (k.wrap ((Qe k.bits a) ||| (Qe k.bits b)).toNat))
 | .xor=>.ok True (int k (k.wrap ((Qe k.bits a) ^^^ (Qe k.bits b)).toNat))
 | .eql=>.ok True (bool (a==b))
 | .neq=>.ok True (bool (a != b))
 | .lss=>.ok True (bool (decide (a<b)))
 | .leq=>.ok True (bool (decide (a≤b)))
 | .gtr=>.ok True (bool (decide (b<a)))
 | .geq=>.ok True (bool (decide (b≤a)))
 | _=>.no
def shiftOp (op:BinOp) (k:IntKind) (a b:Int):Got :=
 match op with
 | .shl=>.ok (0≤b) (int k (k.wrap (a*2 ^ (min b.toNat k.bits))))
 | .shr=>.ok (0≤b) (int k (a.fdiv (2 ^ (min b.toNat k.bits))))
 | _=>.no
def strOp (op:BinOp) (s t:List UInt8):Got :=
 match op with
 | .add=>.ok (s.length+t.length≤9223372036854775807) (str (s++t))
 | .eql=>.ok True (bool (s==t))
 | .neq=>.ok True (bool (!(s==t)))
 | .lss=>.ok True (bool (Qt s t))
 | .leq=>.ok True (bool (Qt s t||s==t))
 | .gtr=>.ok True (bool (!(Qt s t||s==t)))
 | .geq=>.ok True (bool (!Op.bytesLess s t))
 | _=>.no
def boolOp (op:BinOp) (p q:Bool):Got :=
 match op with
 | .eql=>.ok True (bool (p==q))
 | .neq=>.ok True (bool (!(p==q)))
 | _=>.no
def IntKind.eqB:IntKind→IntKind→Bool
 | .i8,.i8 | .i16,.i16 | .i32,.i32 | .i64,.i64 | .u8,.u8 | .u16,.u16 | .u32,.u32 | .u64,.u64=>true
 | _,_=>false
def qhk:BinOp→Bool
 | .shl | .shr=>true
 | _=>false
def binGot (isB:Bool) (op:BinOp):AV→AV→Got
 | .c (.one (.val (.int k) a)),.c (.one (.val (.int k') b)) =>
  bif qhk op then shiftOp op k a b else bif IntKind.eqB k k' then intOp op k a b else .no
 | .c (.one (.val .str s)),.c (.one (.val .str t))=>strOp op s t
 | .c (.one (.val .bool p)),.c (.one (.val .bool q))=>bif isB then boolOp op p q else .no
 | _,_=>.no
def eqFlds (P:Program) (E:TypeId→AV→AV→Option Bool) (xs ys:List Cell):List Field→Option Bool
 | []=>some true
 | f :: r => bif f.name == "_" then none else match partOf P f.type xs f.offset, partOf P f.type ys f.offset with
  | .ok _ A,.ok _ B=>match E f.type A B,eqFlds P E xs ys r with
   | some p,some q=>some (p&&q)
   | _,_=>none
  | _,_=>none
def eqLeaf (P:Program) (t:TypeId):AV→AV→Option Bool
 | .c (.one (.val (.int k) a)),.c (.one (.val (.int k') b))=>match P.underlying t with
  | some (.int _)=>bif IntKind.eqB k k' then some (a==b) else none
  | _=>none
 | .c (.one (.val .str a)),.c (.one (.val .str b))=>match P.underlying t with
  | some .string=>some (a==b)
  | _=>none
 | .c (.one (.val .bool a)),.c (.one (.val .bool b))=>match P.underlying t with
  | some .bool=>some (a==b)
  | _=>none
 | _,_=>none
def eqAV (P:Program):Nat→TypeId→AV→AV→Option Bool
 | 0,_,_,_=>none
 | d+1,t,A,B=>match A,B with
  | .c (.agg xs),.c (.agg ys)=>match P.underlying t with
   | some (.struct fs)=>bif P.stoodInHeld t then none else eqFlds P (eqAV P d) xs ys fs.toList
   | _=>none
  | _,_=>eqLeaf P t A B
def aggGot (P:Program) (op:BinOp) (t:TypeId) (A B:AV):Got :=
 bif P.eqGuardType P.depth t then .no else match op,eqAV P 8 t A B with
  | .eql,some b=>.ok True (bool b)
  | .neq,some b=>.ok True (bool (!b))
  | _,_=>.no
def qbl:AV→AV→Bool
 | .c (.agg _),.c (.agg _)=>true
 | _,_=>false
def lowOf (st:St):Option Operand→Option Int
 | none=>some 0
 | some x=>match st.ev x with
  | .c (.one (.val (.int _) n))=>some n
  | _=>none
def q8n (st:St) (len:Nat):Option Operand→Option Int
 | none=>some len
 | some x=>match st.ev x with
  | .c (.one (.val (.int _) n))=>some n
  | _=>none
def setCells (cs:List Cell) (off:Nat):List Cell→Option (List Cell)
 | []=>some cs
 | x::r=>bif Nat.blt off cs.length then setCells (cs.set off x) (off+1) r else none
def Cell.q67:Cell→Bool
 | .any | .undef=>false
 | _=>true
def q5b:AV→Option (List Cell)
 | .c (.one c)=>bif c.q67 then some [c] else none
 | .c (.agg cs)=>some cs
 | .tup _=>none
def cellsIn (st:St) (y:Operand):Option (List Cell) :=
 match q5b (st.ev y) with
 | some cs=>some cs
 | none=>match y with
  | .const v=>bif v.oneCell' then some [.any] else none
  | _=>none
def zeroCells (P:Program) (t:TypeId):Option (List Cell) :=
 match (P.info? t).bind (·.zero) with
 | some v=>bif v.cells.toList.all (·.oneCell') then some (v.cells.toList.map qda) else none
 | none=>none
def placesOf (P:Program) (fields:Array Field):Option (List (Nat×Nat)):=fields.toList.mapM λf=>(P.info? f.type).map λi=>(f.offset,i.size)
def q53 (st:St) (places:List (Nat×Nat)) (cs:List Cell):List (Nat×Operand)→Option (List Cell)
 | []=>some cs
 | (i,x)::r=>match places[i]?,q5b (st.ev x) with
  | some (off,size),some l=>bif l.length.beq size&&Nat.ble (off+l.length) cs.length then (setCells cs off l).bind λcs'=>q53 st places cs' r else none
  | _,_=>none
def FRow.at_ (y:FRow) (k:y.kk.Pay):Option (List y.fs.Pay):=Mp.get y.kk.eqB k y.xs
def St.qbm (st:St) (kk:CK) (k:kk.Pay):Option ((fs:Kds)×List fs.Pay) :=
 match st.fam with
 | some y=>match kk.deq y.kk,y.pend with
  | some ⟨h⟩,none=>some ⟨y.fs,(y.at_ (h▸k)).getD []⟩
  | _,_=>none
 | none=>none
def q5g (P:Program) (t:TypeId):Bool :=
 match P.info? t with
 | some i=>match i.zero with
  | some (.slice none 0 0)=>true
  | _=>false
 | none=>false
def qde (st:St) (isStr:Bool):AV→Got
 | .c (.one (.val .str s))=>bif isStr then .ok True (int .i64 s.length) else .no
 | .c (.one (.val (.sl fs) xs))=>bif isStr then .no else .ok True (int .i64 (xs:List fs.Pay).length)
 | .c (.one .nil)=>bif isStr then .no else .ok True (int .i64 0)
 | .c (.one (.own r))=>match st.row r with
  | some x=>bif isStr then .no else .ok True (int .i64 x.xs.length)
  | none=>.no
 | .c (.one (.fent kk k))=>match st.qbm kk k with
  | some x=>bif isStr then .no else .ok True (int .i64 x.2.length)
  | none=>.no
 | .c (.one (.fsl cls))=>bif isStr then .no else .ok True (int .i64 cls.length)
 | .c (.one (.sfx r sz i))=>match st.row r with
  | some x=>bif isStr then .no else .ok True (int .i64 (x.xs.length-i:Nat))
  | none=>.no
 | _=>.no
def keyK (P:Program) (t:TypeId):Kd→Bool
 | .int k=>match P.underlying t with
  | some (.int k')=>IntKind.eqB k k'
  | _=>false
 | .str=>match P.underlying t with
  | some .string=>true
  | _=>false
 | .bool=>match P.underlying t with
  | some .bool=>true
  | _=>false
 | .sl _=>false
def q35 (P:Program):List Field→Nat→Kds→Bool
 | [f], o, .one k => f.offset.beq o && (f.name != "_" && keyK P f.type k)
 | f :: r, o, .cons k ks => f.offset.beq o && (f.name != "_" && (keyK P f.type k && q35 P r (o + 1) ks))
 | _,_,_=>false
def q4f (P:Program) (e:TypeId):Nat→Kds→Bool
 | 1,.one k=>keyK P e k
 | n+1,.cons k ks=>keyK P e k&&q4f P e n ks
 | _,_=>false
def q26 (P:Program) (t:TypeId):CK→Bool
 | .one k=>keyK P t k
 | .agg ks=>match P.underlying t with
  | some (.struct fs)=>!P.stoodInHeld t&&q35 P fs.toList 0 ks
  | some (.array n e)=>(match q15 P e with | some s=>s.beq 1 | none=>false)&&q4f P e n ks
  | _=>false
def zeroPay (P:Program) (t:TypeId) (x:CK):Option x.Pay :=
 match P.info? t with
 | some i=>match i.zero with
  | some v=>match qhm v with
   | .c c=>q25 x c
   | _=>none
  | none=>none
 | none=>none
def mapGot (P:Program) (y:MRow) (kt et:TypeId) (k:AV) (commaOk:Bool):Got :=
 match k with
 | .c c=>match q25 y.kk c,zeroPay P et y.vk with
  | some k,some z=>bif q26 P kt y.kk then .ok True (bif commaOk then .tup [y.vk.comp ((Mp.get y.kk.eqB k y.xs).getD z),.one (.val .bool (Mp.get y.kk.eqB k y.xs).isSome)] else .c (y.vk.comp ((Mp.get y.kk.eqB k y.xs).getD z))) else .no
  | _,_=>.no
 | _=>.no
def qdx (P:Program) (t:TypeId):Bool :=
 match P.info? t with
 | some i=>match i.zero with
  | some (.map none)=>true
  | _=>false
 | none=>false
def NRow.at_ (y:NRow) (k:y.kk.Pay):Option (List (y.ik.Pay×y.iv.Pay)):=Mp.get y.kk.eqB k y.xs
def St.innerHas (st:St) (kk:CK) (k:kk.Pay):Option Bool :=
 match st.nest with
 | some y=>match kk.deq y.kk with
  | some ⟨h⟩=>some (y.at_ (h▸k)).isSome
  | none=>none
 | none=>none
def St.innerLen (st:St) (kk:CK) (k:kk.Pay):Option Nat :=
 match st.nest with
 | some y=>match kk.deq y.kk with
  | some ⟨h⟩=>some ((y.at_ (h▸k)).getD []).length
  | none=>none
 | none=>none
def qdo (P:Program) (t:TypeId) (st:St) (op:BinOp) (A B:AV):Option Bool :=
 match P.underlying t,A,B with
 | some (.map _ _),.c (.one (.iref kk k)),.c (.one .nilm)=>match st.innerHas kk k with
  | some b=>match op with
   | .eql=>some (!b)
   | .neq=>some b
   | _=>none
  | none=>none
 | _,_,_=>none
def qe2 (st:St):List Operand→Option (List (Nat×Nat))
 | []=>some []
 | x::r=>match st.ev x with
  | .c (.one (.ptr b off))=>(qe2 st r).map ((b,off)::·)
  | _=>none
def qbr:List Cell→Option ((ks:Kds)×ks.Pay)
 | []=>none
 | c::r=>match c,r with
  | .val k p,[]=>some ⟨.one k,p⟩
  | .val k p,r=>match qbr r with
   | some x=>some ⟨.cons k x.1,(p,x.2)⟩
   | none=>none
  | _,_=>none
def bndOf:AV→Option ((x:CK)×x.Pay)
 | .c (.one (.val k p))=>some ⟨.one k,p⟩
 | .c (.agg cs)=>match qbr cs with
  | some z=>some ⟨.agg z.1,z.2⟩
  | none=>none
 | _=>none
def twoOp (op:BinOp) (x:Operand):Bool :=
 match op,x with
 | .mul,.const (.int .i64 n)=>decide (n=2)
 | _,_=>false
def twoGot:AV→Got
 | .c (.one (.val (.int .i64) b))=>.ok True (int .i64 (Qz.wrap (2*b)))
 | _=>.no
def rop (P:Program) (st:St):Op→Got
 | .move x | .assign x=>.ok True (st.ev x)
 | .pick c a b=>match st.ev c with
  | .c (.one (.val .bool q))=>.ok True (pickAV q (st.ev a) (st.ev b))
  | _=>.no
 | .load t a=>match st.ev a with
  | .c (.one (.ptr b off))=>match st.box b with
   | some cs=>partOf P t cs off
   | none=>.no
  | .c (.one (.ep fs p f))=>q6y P t fs p f
  | .c (.one (.rp r sz i f))=>match st.row r with
   | some x=>bif sz.beq x.fs.size then q6y P t x.fs (x.xs.getD i x.fs.dflt) f else .no
   | none=>.no
  | .c (.one (.fp kk k sz i f))=>match st.qbm kk k with
   | some x=>bif sz.beq x.1.size then q6y P t x.1 (x.2.getD i x.1.dflt) f else .no
   | none=>.no
  | _=>.no
 | .nilCheck x=>match st.ev x with
  | .c (.one (.ptr b off))=>.ok True (.c (.one (.ptr b off)))
  | .c (.one (.ep fs p f))=>.ok True (.c (.one (.ep fs p f)))
  | .c (.one (.rp r sz i f))=>.ok True (.c (.one (.rp r sz i f)))
  | .c (.one (.fp kk k sz i f))=>.ok True (.c (.one (.fp kk k sz i f)))
  | _=>.no
 | .binOp op t x y _=>match qdo P t st op (st.ev x) (st.ev y) with
  | some b=>.ok True (bool b)
  | none=>bif twoOp op x then twoGot (st.ev y) else bif qbl (st.ev x) (st.ev y) then aggGot P op t (st.ev x) (st.ev y) else binGot (match P.underlying t with | some .bool=>true | _=>false) op (st.ev x) (st.ev y)
 | .unOp op _ x=>match op,st.ev x with
  | .not,.c (.one (.val .bool b))=>.ok True (bool (!b))
  | .neg,.c (.one (.val (.int .i64) n))=>.ok (fits64 (-n)) (int .i64 (-n))
  | _,_=>.no
 | .convert src dst x=>match P.underlying src,P.underlying dst,st.ev x with
  | some _,some (.int k),.c (.one (.val (.int _) n))=>.ok True (int k (k.wrap n))
  | some _,some .string,.c (.one (.val .str s))=>.ok True (str s)
  | _,_,_=>.no
 | .fieldAddr s x f=>match P.underlying s with
  | some (.struct fields)=>match fields[f]? with
   | some fd=>bif (match q15 P fd.type with | some n=>Nat.blt 0 n | none=>false) then
     match st.ev x with
     | .c (.one (.ptr b off))=>.ok True (.c (.one (.ptr b (off+fd.offset))))
     | .c (.one (.ep fs p g))=>.ok True (.c (.one (.ep fs p (g+fd.offset))))
     | .c (.one (.rp r sz i g))=>.ok True (.c (.one (.rp r sz i (g+fd.offset))))
     | .c (.one (.fp kk k sz i g))=>.ok True (.c (.one (.fp kk k sz i (g+fd.offset))))
     | _=>.no
    else .no
   | none=>.no
  | _=>.no
 | .field t x f=>match P.underlying t,st.ev x with
  | some (.struct fields),.c (.agg cs)=>match fields[f]? with
   | some fd=>partOf P fd.type cs fd.offset
   | none=>.no
  | _,_=>.no
 | .indexAddr t x i=>match P.underlying t,st.ev x,st.ev i with
  | some (.slice e),.c (.one (.val (.sl fs) xs)),.c (.one (.val (.int _) n)) =>
   bif (q15 P e==some fs.size) then .ok (0≤n∧n<(xs:List fs.Pay).length) (.c (.one (.ep fs ((xs:List fs.Pay).getD n.toNat fs.dflt) 0))) else .no
  | some (.slice e),.c (.one (.own r)),.c (.one (.val (.int _) n))=>match st.row r with
   | some x=>bif (q15 P e==some x.fs.size) then .ok (0≤n∧n<x.xs.length) (.c (.one (.rp r x.fs.size n.toNat 0))) else .no
   | none=>.no
  | some (.slice e),.c (.one (.fent kk k)),.c (.one (.val (.int _) n))=>match st.qbm kk k with
   | some x=>bif (q15 P e==some x.1.size) then .ok (0≤n∧n<x.2.length) (.c (.one (.fp kk k x.1.size n.toNat 0))) else .no
   | none=>.no
  | some (.slice e),.c (.one (.fsl cls)),.c (.one (.val (.int _) n))=>bif (q15 P e==some 1) then .ok (0≤n∧n<(cls.length:Int)) (.c (.one (.fel cls n))) else .no
  | some (.slice e),.c (.one (.sfx r sz j)),.c (.one (.val (.int _) n))=>match st.row r with
   | some x=>bif (q15 P e==some x.fs.size)&&sz.beq x.fs.size then .ok (0≤n∧n<((x.xs.length-j:Nat):Int)) (.c (.one (.rp r x.fs.size (j+n.toNat) 0))) else .no
   | none=>.no
  | _,_,_=>.no
 | .index t x i=>match P.underlying t,st.ev x,st.ev i with
  | some .string,.c (.one (.val .str s)),.c (.one (.val (.int _) n))=>.ok (0≤n∧n<(s:List UInt8).length) (int .u8 ((s:List UInt8).getD n.toNat 0).toNat)
  | _,_,_=>.no
 | .slice t x lo hi none=>match P.underlying t,st.ev x,lowOf st lo with
  | some .string,.c (.one (.val .str s)),some l=>match q8n st (s:List UInt8).length hi with
   | some h=>.ok (0≤l∧l≤h∧h≤(s:List UInt8).length) (str (((s:List UInt8).take h.toNat).drop l.toNat))
   | none=>.no
  | some (.slice e),.c (.one (.val (.sl fs) xs)),some l=>match q8n st (xs:List fs.Pay).length hi with
   | some h=>bif (q15 P e==some fs.size) then .ok (0≤l∧l≤h∧h≤(xs:List fs.Pay).length) (.c (.one (.val (.sl fs) (((xs:List fs.Pay).take h.toNat).drop l.toNat)))) else .no
   | none=>.no
  | _,_,_=>.no
 | .extract x i=>match st.ev x with
  | .tup vs=>match vs[i]? with
   | some v=>.ok True (.c v)
   | none=>.no
  | _=>.no
 | .build t parts=>match P.underlying t,zeroCells P t with
  | some (.struct fields),some cs=>match placesOf P fields with
   | some places=>match q53 st places cs parts.toList with
    | some l=>.ok True (.c (.agg l))
    | none=>.no
   | none=>.no
  | _,_=>.no
 | .call { callee:=.builtin .len,args,argTypes }=>match args.toList,argTypes.toList with
  | [x],[t]=>match P.underlying t with
   | some .string=>qde st true (st.ev x)
   | some (.slice _)=>qde st false (st.ev x)
   | some (.map _ _)=>match st.ev x with
    | .c (.one .nilm)=>.ok True (int .i64 0)
    | .c (.one (.mref m))=>match st.map m with
     | some y=>.ok True (int .i64 y.xs.length)
     | none=>.no
    | .c (.one (.iref kk k))=>match st.innerLen kk k with
     | some n=>.ok True (int .i64 n)
     | none=>.no
    | _=>.no
   | _=>.no
  | _,_=>.no
 | .makeFunc (.func f) first captured=>match qe2 st first.toList,qe2 st captured.toList with
  | some ps,some qs=>.ok True (.c (.one (.clo f ps.length (ps++qs))))
  | _,_=>match first.toList,captured.toList with
   | [x],[]=>match bndOf (st.ev x) with
    | some z=>.ok True (.c (.one (.bnd f z.1 z.2)))
    | none=>.no
   | _,_=>.no
 | .lookup t x i commaOk=>match P.underlying t,st.ev x with
  | some (.map kt et),.c (.one .nilm)=>.no
  | some (.map kt et),.c (.one (.mref m))=>match st.map m with
   | some y=>bif y.t.beq t then mapGot P y kt et (st.ev i) commaOk else .no
   | none=>.no
  | some (.map kt et),.c (.one .nref)=>match st.nest,st.ev i with
   | some y,.c c=>match q25 y.kk c with
    | some k=>bif y.t.beq t&&(q26 P kt y.kk&&(qdx P et&&!commaOk)) then .ok True (.c (.one (.iref y.kk k))) else .no
    | none=>.no
   | _,_=>.no
  | some (.map kt et),.c (.one .fref)=>match st.fam,st.ev i with
   | some y,.c c=>match q25 y.kk c with
    | some k=>bif y.t.beq t&&(q26 P kt y.kk&&(q5g P et&&(!commaOk&&y.pend.isNone))) then .ok True (.c (.one (.fent y.kk k))) else .no
    | none=>.no
   | _,_=>.no
  | _,_=>.no
 | .entry x=>match st.ev x with
  | .c (.one (.iter i))=>match st.iter i with
   | some z=>match z.cur with
    | some e=>.ok True (.tup [z.kk.comp e.1,z.vk.comp e.2])
    | none=>.no
   | none=>.no
  | _=>.no
 | .call { callee:=.builtin .min,args,argTypes }=>match args.toList with
  | [x,y]=>match st.ev x,st.ev y with
   | .c (.one (.val (.int k) a)),.c (.one (.val (.int _) b))=>.ok True (int k (min a b))
   | _,_=>.no
  | _=>.no
 | .call { callee:=.builtin .max,args,argTypes }=>match args.toList with
  | [x,y]=>match st.ev x,st.ev y with
   | .c (.one (.val (.int k) a)),.c (.one (.val (.int _) b))=>.ok True (int k (max a b))
   | _,_=>.no
  | _=>.no
 | .makeInterface t x=>match P.underlying t,st.ev x with
  | some (.struct _),.c (.agg cs)=>match qbr cs with
   | some z=>.ok True (.c (.one (.dyn t z.1 z.2)))
   | none=>.no
  | _,_=>.no
 | _=>.no
end R
namespace R
structure Mx where
 at_:Nat→Nat
 ν:Nat:=0
 inn:Value→Option Nat:=λ_=>none
 θ:Nat→Nat:=λ_=>0
 φ:Nat:=0
 fin:Value→Value:=λ_=>.slice none 0 0
 fnw:Value:=.slice none 0 0
 stp:Nat:=0
 lam:Nat→Nat:=λ_=>0
 tau:Nat→Array Value:=λ_=>#[]
instance:CoeFun Mx (λ_=>Nat→Nat):=⟨Mx.at_⟩
structure Cx where
 β:Nat→Nat
 ρ:Nat→Value
 S:Nat→Prop
 μ:Mx:={ at_:=λ_=>0 }
 M:Nat→Prop:=λ_=>False
def Cx.src (κ:Cx):Src→Option Nat
 | .map m=>some (κ.μ m)
 | .inner kk k=>κ.μ.inn (kk.kv k)
 | .none=>none
def Cx.ptr (κ:Cx) (p:Nat×Nat):Value:=.pointer (some ⟨κ.β p.1,p.2,none⟩)
def Cx.clo (κ:Cx) (cl:FuncId×Nat×List (Nat×Nat)):Value:=.func (.func cl.1) ((cl.2.2.take cl.2.1).map κ.ptr).toArray ((cl.2.2.drop cl.2.1).map κ.ptr).toArray
def FslAt (κ:Cx) (w:World) (cls:List (FuncId×Nat×List (Nat×Nat))) (g:Nat):Prop:=g<w.heap.size∧κ.S g∧∀ (i:Nat) cl,cls[i]? = some cl→w.cell? ⟨g,i,none⟩=some (κ.clo cl)
def Kds.RepU (w:World) (S:Nat→Prop):(ks:Kds)→ks.Pay→List Value→Prop
 | .one k,p,us=>∃ v,us=[v]∧k.Rep w S p v
 | .cons k ks,p,us=>∃ v r,us=v::r∧k.Rep w S p.1 v∧ks.RepU w S p.2 r
def CK.RepU (w:World) (S:Nat→Prop):(x:CK)→x.Pay→Value→Prop
 | .one k,p,u=>k.Rep w S p u
 | .agg ks,p,u=>∃ us:List Value,u=.agg us.toArray∧ks.RepU w S p us
def Cell.Rep (κ:Cx) (w:World):Cell→Value→Prop
 | .any,_=>True
 | .undef,v=>v=Qo
 | .nil,v=>v=.slice none 0 0
 | .val k p,v=>k.Rep w κ.S p v
 | .ptr b off,v=>v=.pointer (some ⟨κ.β b,off,none⟩)
 | .ep fs p f,v=>∃ g o,v=.pointer (some ⟨g,o+f,none⟩)∧g<w.heap.size∧κ.S g∧fs.Rep w κ.S p g o
 | .own r,v=>v=κ.ρ r∧v.oneCell'=true
 | .rp r sz i f,v=>∃ g n c,κ.ρ r=.slice (some ⟨g,0,none⟩) n c∧i<n∧v=.pointer (some ⟨g,i*sz+f,none⟩)
 | .sfx r sz i,v=>∃ g n c,κ.ρ r=.slice (some ⟨g,0,none⟩) n c∧i<n∧v=.slice (some ⟨g,i*sz,none⟩) (n-i) (c-i)
 | .fn f,v=>v=.func (.func f) #[] #[]
 | .clo f k ps,v=>v=.func (.func f) ((ps.take k).map κ.ptr).toArray ((ps.drop k).map κ.ptr).toArray
 | .fsl cls,v=>∃ g c,v=.slice (some ⟨g,0,none⟩) cls.length c∧cls.length≤c∧FslAt κ w cls g
 | .fel cls n,v=>∃ g,v=.pointer (some ⟨g,n.toNat,none⟩)∧(0≤n∧n.toNat<cls.length)∧FslAt κ w cls g
 | .nilm,v=>v=.map none
 | .mref m,v=>v=.map (some (κ.μ m))
 | .nref,v=>v=.map (some κ.μ.ν)
 | .iref kk k,v=>v=.map (κ.μ.inn (kk.kv k))
 | .iter i,v=>v=.pointer (some ⟨κ.μ.θ i,0,none⟩)
 | .fref,v=>v=.map (some κ.μ.φ)
 | .fent kk k,v=>v=κ.μ.fin (kk.kv k)∧v.oneCell'=true
 | .fp kk k sz i f,v=>∃ g n c,κ.μ.fin (kk.kv k)=.slice (some ⟨g,0,none⟩) n c∧i<n∧v=.pointer (some ⟨g,i*sz+f,none⟩)
 | .fnew,v=>v=κ.μ.fnw∧v.oneCell'=true
 | .yld j,v=>v=.func (.yield (κ.μ.lam j)) #[] #[]
 | .fstamp,v=>v=.int .i64 κ.μ.stp
 | .kseq f src,v=>∃ g,v=.func (.func f) #[] #[.pointer (some ⟨g,0,none⟩)]∧g<w.heap.size∧κ.S g∧w.cell? ⟨g,0,none⟩=some (.map (κ.src src))
 | .bnd f x p,v=>∃ u,v=.func (.func f) #[u] #[]∧x.RepU w κ.S p u
 | .dyn t ks p,v=>∃ us:List Value,v=.iface t (.agg us.toArray)∧us.length=ks.size∧∀ f z,ks.fld p f=some z→∃ u,us[f]? = some u∧z.1.Rep w κ.S z.2 u
def q06 (κ:Cx) (w:World) (cs:List Cell) (vs:Array Value):Prop :=
 vs.size=cs.length∧(∀ (i:Nat) c,cs[i]? = some c→∃ v,vs[i]? = some v∧c.Rep κ w v)∧∀ (i:Nat) v,vs[i]? = some v→v.oneCell'=true
def Comp.Rep (κ:Cx) (w:World):Comp→Value→Prop
 | .one c,v=>c.Rep κ w v
 | .agg cs,v=>∃ vs,v=.agg vs∧q06 κ w cs vs
def AV.Rep (κ:Cx) (w:World):AV→Value→Prop
 | .c x,v=>x.Rep κ w v
 | .tup xs,v=>∃ vs,v=.tuple vs∧vs.size=xs.length∧∀ (i:Nat) c,xs[i]? = some c→∃ u,vs[i]? = some u∧c.Rep κ w u
section
variable {κ:Cx} {w w':World}
theorem Kds.RepU.keeps {S S':Nat→Prop} (hk:Keeps w w' S) (hS:∀ g,S g→g<w.heap.size→S' g):∀ (ks:Kds) (p:ks.Pay) (us:List Value),ks.RepU w S p us→ks.RepU w' S' p us
 | .one k,p,us,⟨v,h1,h2⟩=>⟨v,h1,Kd.Rep.keeps hk hS k p v h2⟩
 | .cons k ks,p,us,⟨v,r,h1,h2,h3⟩=>⟨v,r,h1,Kd.Rep.keeps hk hS k p.1 v h2,Kds.RepU.keeps hk hS ks p.2 r h3⟩
theorem qab {κ':Cx} {f:FuncId} {x:CK} {p:x.Pay} {v:Value} (hk:Keeps w w' κ.S) (hS:∀ g,κ.S g→g<w.heap.size→κ'.S g) (h:Cell.Rep κ w (.bnd f x p) v):Cell.Rep κ' w' (.bnd f x p) v:=by
 obtain ⟨u,h1,h2⟩:=h;refine ⟨u,h1,?_⟩;cases x with
 | one k=>exact Kd.Rep.keeps hk hS k p u h2
 | agg ks=>obtain ⟨us,h3,h4⟩:=h2;exact ⟨us,h3,Kds.RepU.keeps hk hS ks p us h4⟩
theorem FslAt.keeps {κ':Cx} {cls:List (FuncId×Nat×List (Nat×Nat))} {g:Nat} (hc:∀ cl∈cls,κ'.clo cl=κ.clo cl) (hk:Keeps w w' κ.S) (hS:∀ g,κ.S g→g<w.heap.size→κ'.S g) (h:FslAt κ w cls g):FslAt κ' w' cls g :=
 ⟨Q9 h.1 hk.size,hS g h.2.1 h.1,λi cl hi=>by rw [hc cl (Qp hi)];exact (hk.cell g i h.2.1 h.1).trans (h.2.2 i cl hi)⟩
theorem qac {κ':Cx} {cls:List (FuncId×Nat×List (Nat×Nat))} {v:Value} (hc:∀ cl∈cls,κ'.clo cl=κ.clo cl) (hk:Keeps w w' κ.S) (hS:∀ g,κ.S g→g<w.heap.size→κ'.S g) (h:Cell.Rep κ w (.fsl cls) v):Cell.Rep κ' w' (.fsl cls) v:=by
 obtain ⟨g,c,h1,h2,h3⟩:=h;exact ⟨g,c,h1,h2,h3.keeps hc hk hS⟩
theorem qah {κ':Cx} {cls:List (FuncId×Nat×List (Nat×Nat))} {n:Int} {v:Value} (hc:∀ cl∈cls,κ'.clo cl=κ.clo cl) (hk:Keeps w w' κ.S) (hS:∀ g,κ.S g→g<w.heap.size→κ'.S g) (h:Cell.Rep κ w (.fel cls n) v):Cell.Rep κ' w' (.fel cls n) v:=by
 obtain ⟨g,h1,h2,h3⟩:=h;exact ⟨g,h1,h2,h3.keeps hc hk hS⟩
theorem q6t {κ':Cx} (hβ:κ'.β=κ.β) (cl:FuncId×Nat×List (Nat×Nat)):κ'.clo cl=κ.clo cl:=by
 unfold Cx.clo Cx.ptr;rw [hβ]
theorem Cell.Rep.keeps {κ':Cx} (hβ:κ'.β=κ.β) (hρ:κ'.ρ=κ.ρ) (hμ:κ'.μ=κ.μ) (hk:Keeps w w' κ.S) (hS:∀ g,κ.S g→g<w.heap.size→κ'.S g) {c:Cell} {v:Value} (h:c.Rep κ w v):c.Rep κ' w' v:=by
 cases c with
 | any=>trivial
 | undef=>exact h
 | nil=>exact h
 | val k p=>exact Kd.Rep.keeps hk hS k p v h
 | ptr b off=>show v=_;rw [hβ];exact h
 | ep fs p f =>
  obtain ⟨g,o,rfl,hg,hs,hr⟩:=h;exact ⟨g,o,rfl,Q9 hg hk.size,hS g hs hg,Kds.Rep.keeps hk hS fs p g o hs hg hr⟩
 | own r=>show v=_∧_;rw [hρ];exact h
 | rp r sz i f=>show ∃ g n c,_∧_;rw [hρ];exact h
 | sfx r sz i=>show ∃ g n c,_∧_;rw [hρ];exact h
 | fn f=>exact h
 | clo f k ps =>
  have e:κ'.ptr=κ.ptr:=by unfold Cx.ptr;rw [hβ]
  show v=.func _ (List.map κ'.ptr _).toArray (List.map κ'.ptr _).toArray;rw [e];exact h
 | fsl cls=>exact qac (λcl _=>q6t hβ cl) hk hS h
 | fel cls n=>exact qah (λcl _=>q6t hβ cl) hk hS h
 | nilm=>exact h
 | mref m=>show v=.map (some (κ'.μ m));rw [hμ];exact h
 | nref=>show v=.map (some κ'.μ.ν);rw [hμ];exact h
 | iref kk k=>show v=.map (κ'.μ.inn (kk.kv k));rw [hμ];exact h
 | iter i=>show v=.pointer (some ⟨κ'.μ.θ i,0,none⟩);rw [hμ];exact h
 | fref=>show v=.map (some κ'.μ.φ);rw [hμ];exact h
 | fent kk k=>show v=κ'.μ.fin (kk.kv k)∧_;rw [hμ];exact h
 | fp kk k sz i f=>show ∃ g n c,κ'.μ.fin (kk.kv k)=_∧_;rw [hμ];exact h
 | fnew=>show v=κ'.μ.fnw∧_;rw [hμ];exact h
 | yld j=>show v=.func (.yield (κ'.μ.lam j)) _ _;rw [hμ];exact h
 | fstamp=>show v=.int .i64 κ'.μ.stp;rw [hμ];exact h
 | kseq f src =>
  obtain ⟨g,rfl,hg,hs,hc⟩:=h;have e:κ'.src src=κ.src src:=by cases src <;> simp only [Cx.src,hμ]
  exact ⟨g,rfl,Q9 hg hk.size,hS g hs hg,by rw [e];exact (hk.cell g 0 hs hg).trans hc⟩
 | bnd f x p=>exact qab hk hS h
 | dyn t ks p =>
  obtain ⟨us,rfl,hl,hu⟩:=h;exact ⟨us,rfl,hl,λf z hz=>let ⟨u,h1,h2⟩:=hu f z hz;⟨u,h1,Kd.Rep.keeps hk hS z.1 z.2 u h2⟩⟩
theorem q06.mono {κ':Cx} {cs:List Cell} {vs:Array Value} (H:∀ (c:Cell) v,c.Rep κ w v→c.Rep κ' w' v) (h:q06 κ w cs vs):q06 κ' w' cs vs :=
 ⟨h.1,λi c hc=>let ⟨v,hv,hr⟩:=h.2.1 i c hc;⟨v,hv,H c v hr⟩,h.2.2⟩
theorem Comp.Rep.mono {κ':Cx} {x:Comp} {v:Value} (H:∀ (c:Cell) v,c.Rep κ w v→c.Rep κ' w' v) (h:x.Rep κ w v):x.Rep κ' w' v:=by
 cases x with
 | one c=>exact H c v h
 | agg cs=>obtain ⟨vs,rfl,h⟩:=h;exact ⟨vs,rfl,h.mono H⟩
theorem AV.Rep.mono {κ':Cx} {x:AV} {v:Value} (H:∀ (c:Cell) v,c.Rep κ w v→c.Rep κ' w' v) (h:x.Rep κ w v):x.Rep κ' w' v:=by
 cases x with
 | c x=>exact Comp.Rep.mono H h
 | tup xs=>obtain ⟨vs,rfl,h1,h2⟩:=h;exact ⟨vs,rfl,h1,λi c hc=>let ⟨u,hu,hr⟩:=h2 i c hc;⟨u,hu,Comp.Rep.mono H hr⟩⟩
theorem AV.Rep.keeps {κ':Cx} (hβ:κ'.β=κ.β) (hρ:κ'.ρ=κ.ρ) (hμ:κ'.μ=κ.μ) (hk:Keeps w w' κ.S) (hS:∀ g,κ.S g→g<w.heap.size→κ'.S g) {c:AV} {v:Value} (h:c.Rep κ w v):c.Rep κ' w' v :=
 AV.Rep.mono (λ_ _ h=>h.keeps hβ hρ hμ hk hS) h
end
def q0k (κ:Cx) (w:World) (fs:Kds) (xs:List fs.Pay) (cells:List Value):Prop :=
 ∀ (i:Nat) (x:fs.Pay),xs[i]? = some x→∀ (f:Nat) z,fs.fld x f=some z→∃ u,cells[i*fs.size+f]? = some u∧z.1.Rep w κ.S z.2 u
theorem q0k.keeps {κ κ':Cx} {w w':World} (hk:Keeps w w' κ.S) (hS:∀ g,κ.S g→g<w.heap.size→κ'.S g) {fs:Kds} {xs:List fs.Pay} {cells:List Value} (h:q0k κ w fs xs cells):q0k κ' w' fs xs cells :=
 λi x hx f z hz=>let ⟨u,hu,hr⟩:=h i x hx f z hz;⟨u,hu,Kd.Rep.keeps hk hS z.1 z.2 u hr⟩
structure Base extends World where
 S0:Nat→Prop
 sv:Nat→Value
 n0:Nat
 low:n0≤heap.size
 X:Nat→Prop
 M0:Nat→Prop:=λ_=>False
 bzs:Nat→Prop:=λ_=>False
 rd:Option Nat:=none
 code:Nat→Code×Code:=λ_=>(.skip,.skip)
 js:Nat→Prop:=λ_=>False
 lam0:Nat→Nat:=λ_=>0
structure BelowX (X:Nat→Prop) (n0:Nat) (w w':World):Prop where
 os:w'.os=w.os
 tape:w'.tape=w.tape
 output:w'.output=w.output
 size:w.heap.size≤w'.heap.size
 block:∀ k,k<n0→¬ X k→w'.heap[k]? = w.heap[k]?
theorem BelowX.trans {X:Nat→Prop} {n0:Nat} {a b c:World} (h:BelowX X n0 a b) (k:Below n0 b c):BelowX X n0 a c :=
 ⟨k.os.trans h.os,k.tape.trans h.tape,k.output.trans h.output,Qs h.size k.size,λi hi hx=>(k.block i hi).trans (h.block i hi hx)⟩
theorem BelowX.of_below {X:Nat→Prop} {n0:Nat} {a b:World} (h:Below n0 a b):BelowX X n0 a b:=⟨h.os,h.tape,h.output,h.size,λi hi _=>h.block i hi⟩
theorem BelowX.below {X:Nat→Prop} {n0:Nat} {a b:World} (h:BelowX X n0 a b) (hx:∀ k,¬ X k):Below n0 a b:=⟨h.os,h.tape,h.output,h.size,λi hi=>h.block i hi (hx i)⟩
theorem BelowX.alloc {X:Nat→Prop} {n0:Nat} {a w:World} (h:BelowX X n0 a w) (hl:n0≤w.heap.size) (o:Obj):BelowX X n0 a (w.alloc o):=h.trans ((Qn _ w).alloc hl o)
theorem BelowX.drew {X:Nat→Prop} {n0:Nat} {a w:World} (h:BelowX X n0 a w):BelowX X n0 a w.drew:=h.trans (Qn _ w).drew
theorem BelowX.grown {X:Nat→Prop} {n0:Nat} {a w w':World} {row:Option Nat} (h:BelowX X n0 a w) (hg:w.grownBy w' row) (hl:n0≤w.heap.size) (hr:∀ k,row=some k→n0≤k):BelowX X n0 a w':=h.trans ((Qn _ w).grown hg hl hr)
structure EntRep (κ:Cx) (w:World) (y:MRow) (es:Array MapEntry) (clock:Nat):Prop where
 size:es.size=y.xs.length
 at_:∀ (i:Nat) x,y.xs[i]? = some x→∃ e,es[i]? = some e∧(y.kk.comp x.1).Rep κ w e.key∧(y.vk.comp x.2).Rep κ w e.val
 born:∀ e∈es.toList,e.born<clock
 apart:(es.toList.map (·.born)).Nodup
structure NestRep (n0:Nat) (κ:Cx) (maps:List (Nat×MRow)) (w:World) (y:NRow):Prop where
 out:∃ es clock,w.heap[κ.μ.ν]? = some (.map es clock)∧es.size=y.xs.length∧(∀ (i:Nat) x,y.xs[i]? = some x→∃ e,es[i]? = some e∧(y.kk.comp x.1).Rep κ w e.key∧e.val=.map (κ.μ.inn (y.kk.kv x.1)))∧(∀ e∈es.toList,e.born<clock)∧(es.toList.map (·.born)).Nodup
 inn:∀ (i:Nat) x,y.xs[i]? = some x→∃ g es clock,κ.μ.inn (y.kk.kv x.1)=some g∧w.heap[g]? = some (.map es clock)∧EntRep κ w ⟨y.it,y.ik,y.iv,x.2⟩ es clock∧n0≤g∧g≠κ.μ.ν∧∀ m z,look? m maps=some z→κ.μ m≠g
 miss:∀ k,y.at_ k=none→κ.μ.inn (y.kk.kv k)=none
 inj:∀ (i j:Nat) x x',y.xs[i]? = some x→y.xs[j]? = some x'→κ.μ.inn (y.kk.kv x.1)=κ.μ.inn (y.kk.kv x'.1)→i=j
 low:n0≤κ.μ.ν
 apart:∀ m z,look? m maps=some z→κ.μ m≠κ.μ.ν
def Cx.sep (κ:Cx) (boxes:List (Nat×List Cell)) (rows:List (Nat×Row)) (g:Nat):Prop :=
 ¬ κ.S g∧(∀ b cs,look? b boxes=some cs→κ.β b≠g)∧∀ r x,look? r rows=some x→(κ.ρ r).ownBlock≠some g
def FRow.off (y:FRow) (k:y.kk.Pay):Prop:=∀ l,y.pend≠some (k,l)
structure FamRep (n0:Nat) (κ:Cx) (boxes:List (Nat×List Cell)) (rows:List (Nat×Row)) (maps:List (Nat×MRow)) (w:World) (y:FRow):Prop where
 out:∃ es clock,w.heap[κ.μ.φ]? = some (.map es clock)∧es.size=y.xs.length∧(∀ (i:Nat) x,y.xs[i]? = some x→∃ e,es[i]? = some e∧(y.kk.comp x.1).Rep κ w e.key∧e.val=κ.μ.fin (y.kk.kv x.1))∧(∀ e∈es.toList,e.born<clock)∧(es.toList.map (·.born)).Nodup
 low:n0≤κ.μ.φ
 inn:∀ (i:Nat) x,y.xs[i]? = some x→y.off x.1→∃ cells,w.ownsRow n0 y.e y.fs.size (κ.μ.fin (y.kk.kv x.1)) x.2.length cells∧q0k κ w y.fs x.2 cells
 miss:∀ k,y.at_ k=none→κ.μ.fin (y.kk.kv k)=.slice none 0 0
 sep:∀ (i:Nat) x,y.xs[i]? = some x→y.off x.1→∀ g,(κ.μ.fin (y.kk.kv x.1)).ownBlock=some g→κ.sep boxes rows g
 inj:∀ (i j:Nat) x x',y.xs[i]? = some x→y.xs[j]? = some x'→y.off x.1→y.off x'.1→∀ g,(κ.μ.fin (y.kk.kv x.1)).ownBlock=some g→(κ.μ.fin (y.kk.kv x'.1)).ownBlock=some g→i=j
 new:∀ k l,y.pend=some (k,l)→∃ cells,w.ownsRow n0 y.e y.fs.size κ.μ.fnw l.length cells∧q0k κ w y.fs l cells∧∀ g,κ.μ.fnw.ownBlock=some g→κ.sep boxes rows g∧∀ (i:Nat) x,y.xs[i]? = some x→y.off x.1→(κ.μ.fin (y.kk.kv x.1)).ownBlock≠some g
 once:∀ (i j:Nat) x x',y.xs[i]? = some x→y.xs[j]? = some x'→x.1=x'.1→i=j
 stamp:∀ k,y.mark=some k→∃ (i:Nat) (x:y.kk.Pay×List y.fs.Pay) (e:MapEntry) (es:Array MapEntry) (clock:Nat),w.heap[κ.μ.φ]? = some (.map es clock)∧y.xs[i]? = some x∧x.1=k∧es[i]? = some e∧e.born=κ.μ.stp
 apart:∀ m z,look? m maps=some z→κ.μ m≠κ.μ.φ
def q9h (κ:Cx) (w:World) (kk vk:CK) (xs:List (kk.Pay×vk.Pay)) (es:List MapEntry):Prop :=
 es.length=xs.length∧∀ (i:Nat) x,xs[i]? = some x→∃ e,es[i]? = some e∧(kk.comp x.1).Rep κ w e.key∧(vk.comp x.2).Rep κ w e.val
def q59 (n0:Nat) (κ:Cx) (w:World) (z:ItP) (g:Nat):Prop:=n0≤g ∧
  ((∃ a b s,w.heap[g]? = some (.mapIter none a s b)∧z.left=[]∧z.cur=none) ∨
   ∃ bm es clock seen c0,κ.src z.src=some bm∧w.heap[bm]? = some (.map es clock)∧w.heap[g]? = some (.mapIter (some bm) clock seen c0)∧clock≤c0∧(∀ e∈es.toList,e.born<clock)∧(es.toList.map (·.born)).Nodup ∧
     q9h κ w z.kk z.vk z.left (leftOf es seen).toList∧∀ x,z.cur=some x→∃ (e:MapEntry) (seen':Array Nat),e∈es.toList∧seen=seen'.push e.born∧c0=clock∧(z.kk.comp x.1).Rep κ w e.key∧(z.vk.comp x.2).Rep κ w e.val)
structure LpRep (n0:Nat) (C:Nat→Code×Code) (κ:Cx) (w:World) (L:Lp):Prop where
 low:n0≤κ.μ.lam L.j
 size:(κ.μ.tau L.j).size=L.n
 rec_:∃ r:Loop,w.heap[κ.μ.lam L.j]? = some (.loop r)∧r.tmps=κ.μ.tau L.j∧r.params.toList=L.ps∧r.assign=(C L.j).1∧r.body=(C L.j).2∧(r.state=bif L.busy then .busy else match L.jump with | none=>.ready | some _=>.done)∧r.pending=L.jump.map Jmp.code
 env:∀ t,(look (.c (.one .any)) t L.env).Rep κ w ((κ.μ.tau L.j).getD t Qo)
structure Ext (w0:Base) (κ:Cx) (st:St) (w:World):Prop where
 sav:∀ t,(look (.c (.one .any)) t st.sav).Rep κ w (w0.sv t)
 map:∀ m y,st.map m=some y→∃ es clock,w.heap[κ.μ m]? = some (.map es clock)∧EntRep κ w y es clock∧w0.n0≤κ.μ m
 maps:∀ m m' y y',st.map m=some y→st.map m'=some y'→κ.μ m=κ.μ m'→m=m'
 nest:∀ y,st.nest=some y→NestRep w0.n0 κ st.maps w y
 iter:∀ i z,st.iter i=some z→q59 w0.n0 κ w z (κ.μ.θ i)
 iters:∀ i j z z',st.iter i=some z→st.iter j=some z'→κ.μ.θ i=κ.μ.θ j→i=j
 fam:∀ y,st.fam=some y→FamRep w0.n0 κ st.boxes st.rows st.maps w y
 excl:st.fam=none∨st.nest=none
 marks:∀ D,w0.M0 D∨κ.M D→w0.n0≤D∧w.heap[D]? = some (.deferred (some []))
 fresh:∀ D,κ.M D→¬ w0.M0 D
 busy:∀ l,w0.bzs l→w0.n0≤l∧∃ r:Loop,w.heap[l]? = some (.loop r)
 lps:∀ (i:Nat) L,st.lps[i]? = some L→LpRep w0.n0 w0.code κ w L
 lpsd:∀ (i k:Nat) L L',st.lps[i]? = some L→st.lps[k]? = some L'→κ.μ.lam L.j=κ.μ.lam L'.j→i=k
 scope:∀ j,w0.js j→κ.μ.lam j=w0.lam0 j∧∃ (i:Nat) (L:Lp),st.lps[i]? = some L∧L.j=j
def Mark (D:Nat):Deferred:={ target:=.collected D,args:=#[] }
structure Rel (w0:Base) (κ:Cx) (st:St) (a:Act) (w:World):Prop where
 defers:∃ Ds:List Nat,a.defers=Ds.map Mark∧Ds.Nodup∧∀ D∈Ds,κ.M D
 size:a.tmps.size=st.n
 env:∀ t,(st.get t).Rep κ w (a.tmps.getD t Qo)
 box:∀ b cs,st.box b=some cs→∃ vs ty,Blk w (κ.β b) ty vs∧q06 κ w cs vs∧(w0.n0≤κ.β b∨w0.X (κ.β b))∧¬ κ.S (κ.β b)
 apart:∀ b b' cs cs',st.box b=some cs→st.box b'=some cs'→κ.β b=κ.β b'→b=b'
 row:∀ r x,st.row r=some x→∃ cells,w.ownsRow w0.n0 x.e x.fs.size (κ.ρ r) x.xs.length cells∧q0k κ w x.fs x.xs cells ∧
  ∀ g,(κ.ρ r).ownBlock=some g→¬ κ.S g∧∀ b cs,st.box b=some cs→κ.β b≠g
 rows:∀ r r' x x',st.row r=some x→st.row r'=some x'→∀ g,(κ.ρ r).ownBlock=some g→(κ.ρ r').ownBlock=some g→r=r'
 bound:∀ g,κ.S g→g<w.heap.size
 below:BelowX w0.X w0.n0 w0.toWorld w
 old:∀ g,κ.S g→w0.S0 g∨w0.n0≤g
 ext:Ext w0 κ st w
theorem q0v {α:Type} (d:α) (t u:Nat) (v:α) (r:List (Nat×α)):look d t ((u,v)::r)=if u=t then v else look d t r:=by
 show (bif u.beq t then v else look d t r)=_
 by_cases h:u=t
 ·rw [if_pos h,h,Nat.beq_refl];rfl
 ·have:u.beq t=false:=Qx.mpr λe=>h (Qi e)
  rw [if_neg h,this];rfl
theorem look?_cons {α:Type} (t u:Nat) (v:α) (r:List (Nat×α)):look? t ((u,v)::r)=if u=t then some v else look? t r:=by
 show (bif u.beq t then some v else look? t r)=_
 by_cases h:u=t
 ·rw [if_pos h,h,Nat.beq_refl];rfl
 ·have:u.beq t=false:=Qx.mpr λe=>h (Qi e)
  rw [if_neg h,this];rfl
theorem St.get_set (st:St) (d:Nat) (v:AV) (t:Nat):(st.set d v).get t=if d=t then v else st.get t:=q0v _ _ _ _ _
@[simp] theorem St.box_set (st:St) (d:Nat) (v:AV) (b:Nat):(st.set d v).box b=st.box b:=rfl
@[simp] theorem St.row_set (st:St) (d:Nat) (v:AV) (b:Nat):(st.set d v).row b=st.row b:=rfl
section
variable {w0:Base} {w w':World} {κ:Cx} {st:St} {a:Act} {P:Program}
theorem Rel.set (h:Rel w0 κ st a w) {d:Nat} (hd:d<st.n) {v:AV} {u:Value} (hv:v.Rep κ w u):Rel w0 κ (st.set d v) (a.put (some d) u) w where
 defers:=h.defers
 size:=by show (a.tmps.setIfInBounds d u).size=_;rw [Array.size_setIfInBounds];exact h.size
 env:=λt=>by
  rw [St.get_set];show AV.Rep κ w _ ((a.tmps.setIfInBounds d u).getD t Qo);by_cases e:d=t
  ·subst e
   rw [if_pos rfl];have hs:d<a.tmps.size:=by rw [h.size];exact hd
   rw [Qd,Q7 hs];exact hv
  ·rw [if_neg e,Qd,Q8 e,← Qd]
   exact h.env t
 box:=h.box
 apart:=h.apart
 row:=h.row
 rows:=h.rows
 bound:=h.bound
 below:=h.below
 old:=h.old
 ext:=⟨h.ext.sav,h.ext.map,h.ext.maps,h.ext.nest,h.ext.iter,h.ext.iters,h.ext.fam,h.ext.excl,h.ext.marks,h.ext.fresh,h.ext.busy,h.ext.lps,h.ext.lpsd,h.ext.scope⟩
theorem Rel.low (h:Rel w0 κ st a w):w0.n0≤w.heap.size:=Qs w0.low h.below.size
theorem Kd.Rep.q67 {S:Nat→Prop}:∀ {k:Kd} {p:k.Pay} {v:Value},k.Rep w S p v→v.oneCell'=true
 | .int _,_,_,h=>by rw [show _=_ from h];rfl
 | .bool,_,_,h=>by rw [show _=_ from h];rfl
 | .str,_,_,h=>by rw [show _=_ from h];rfl
 | .sl _,_,_,h=>by obtain ⟨A,c,rfl,_⟩:=h;rfl
theorem Cell.Rep.q67 {c:Cell} {v:Value} (h:c.Rep κ w v) (hs:c.q67=true):v.oneCell'=true:=by
 cases c with
 | any=>cases hs
 | undef=>cases hs
 | nil=>rw [show v=_ from h];rfl
 | val k p=>exact Kd.Rep.q67 h
 | ptr b off=>rw [show v=_ from h];rfl
 | ep fs p f=>obtain ⟨g,o,rfl,_⟩:=h;rfl
 | own r=>exact h.2
 | rp r sz i f=>obtain ⟨g,n,c,_,_,rfl⟩:=h;rfl
 | sfx r sz i=>obtain ⟨g,n,c,_,_,rfl⟩:=h;rfl
 | fn f=>rw [show v=_ from h];rfl
 | clo f k ps=>rw [show v=_ from h];rfl
 | fsl cls=>obtain ⟨g,c,rfl,_⟩:=h;rfl
 | fel cls n=>obtain ⟨g,rfl,_⟩:=h;rfl
 | nilm=>rw [show v=_ from h];rfl
 | mref m=>rw [show v=_ from h];rfl
 | nref=>rw [show v=_ from h];rfl
 | iref kk k=>rw [show v=_ from h];rfl
 | iter i=>rw [show v=_ from h];rfl
 | fref=>rw [show v=_ from h];rfl
 | fent kk k=>exact h.2
 | fp kk k sz i f=>obtain ⟨g,n,c,_,_,rfl⟩:=h;rfl
 | fnew=>exact h.2
 | yld j=>rw [show v=_ from h];rfl
 | fstamp=>rw [show v=_ from h];rfl
 | kseq f src=>obtain ⟨g,rfl,_⟩:=h;rfl
 | bnd f x p=>obtain ⟨u,rfl,_⟩:=h;rfl
 | dyn t ks p=>obtain ⟨us,rfl,_⟩:=h;rfl
theorem qkc (κ:Cx) (w:World) (v:Value):(qda v).Rep κ w v:=by
 unfold qda;split <;> first | rfl | trivial
theorem qiq (κ:Cx) (w:World) (cs:Array Value) (h:cs.toList.all (·.oneCell')=true):q06 κ w (cs.toList.map qda) cs :=
 ⟨by simp,λi c hc=>by
  rw [List.getElem?_map] at hc;cases hx:cs.toList[i]? with
  | none=>rw [hx] at hc;cases hc
  | some x =>
   rw [hx] at hc;injection hc with hc;subst hc;exact ⟨x,by simpa using hx,qkc κ w x⟩,λi v hv=>List.all_eq_true.1 h v (by
    rw [← Qm] at hv;exact Qp hv)⟩
theorem qic (κ:Cx) (w:World) (v:Value):(qhm v).Rep κ w v:=by
 unfold qhm;split
 ·rename_i cs
  cases h:cs.toList.all (·.oneCell')
  ·trivial
  ·exact ⟨cs,rfl,qiq κ w cs h⟩
 ·exact qkc κ w _
theorem Rel.ev (h:Rel w0 κ st a w) (x:Operand):(st.ev x).Rep κ w (a.eval x):=by
 cases x with
 | tmp t=>exact h.env t
 | const v=>exact qic κ w v
 | global g=>trivial
 | func f=>rfl
def Yields (P:Program) (κ:Cx) (w:World) (a:Act) (o:Oper) (v:AV):Prop :=
 ∃ u,v.Rep κ w u∧∀ w',Below w.heap.size w w'→(execOp a.eval o).run P w'=.ok (.value u) w'
end
end R
namespace R
section
variable {w0:Base} {w w':World} {κ:Cx} {st:St} {a:Act} {P:Program}
theorem vrun {P:Program} {w w':World} {s:Sem Value} {u:Value} (h:s.run P w=.ok u w'):(do let x ← s;pure (Next.value x):Sem Next).run P w=.ok (.value u) w':=by
 rw [Qb,h];rfl
theorem q29 {k:IntKind} {n:Int}:(int k n).Rep κ w (.int k n):=rfl
theorem q5i {b:Bool}:(bool b).Rep κ w (.bool b):=rfl
theorem qhg {s:List UInt8}:(str s).Rep κ w (.string (bs s)):=rfl
theorem qcw {n:Int} (h:fits64 n):Qz.wrap n=n:=IntWalk.i64_in n h
theorem intOp_sound {op:BinOp} {k:IntKind} {x y:Int} {c:Prop} {v:AV} (hs:qhk op=false) (h:intOp op k x y=.ok c v) (hc:c) (t:TypeId) :
  ∃ u,v.Rep κ w u∧∀ w',(binOp op t (.int k x) (.int k y)).run P w'=.ok u w':=by
 cases op <;> simp only [intOp] at h
 case add | sub | mul =>
  cases k <;> (injection h with h1 h2;subst h1;subst h2;refine ⟨_,q29,λw'=>?_⟩;simp [binOp,Op.intArith]) <;> exact qcw hc
 case quo =>
  injection h with h1 h2;subst h1;subst h2;exact ⟨_,q29,λw'=>by simp [binOp,Op.intDiv,hc]⟩
 case rem =>
  injection h with h1 h2;subst h1;subst h2;exact ⟨_,q29,λw'=>by simp [binOp,Op.intDiv,hc]⟩
 case and | or | xor =>
  injection h with h1 h2;subst h1;subst h2;exact ⟨_,q29,λw'=>by simp [binOp,Op.intBits]⟩
 case eql | neq | lss | leq | gtr | geq =>
  injection h with h1 h2;subst h1;subst h2;exact ⟨_,q5i,λw'=>by simp [binOp,Op.intCmp]⟩
 all_goals cases h
theorem qlf {op:BinOp} {k k':IntKind} {x y:Int} {c:Prop} {v:AV} (h:shiftOp op k x y=.ok c v) (hc:c) (t:TypeId) :
  ∃ u,v.Rep κ w u∧∀ w',(binOp op t (.int k x) (.int k' y)).run P w'=.ok u w':=by
 cases op <;> simp only [shiftOp] at h
 case shl | shr =>
  injection h with h1 h2;subst h1;subst h2;have hn:¬ y<0:=by omega
  exact ⟨_,q29,λw'=>by simp [binOp,Op.shift,hn]⟩
 all_goals cases h
theorem q8d (s:List UInt8):(bs s).toList=s:=by rw [Lib.toList_data];rfl
theorem bs_app (s t:List UInt8):bs s++bs t=bs (s++t):=by
 apply ByteArray.ext
 rw [ByteArray.data_append];simp [bs]
theorem strOp_sound {op:BinOp} {s t:List UInt8} {c:Prop} {v:AV} (h:strOp op s t=.ok c v) (hc:c) (ty:TypeId) :
  ∃ u,v.Rep κ w u∧∀ w',(binOp op ty (.string (bs s)) (.string (bs t))).run P w'=.ok u w':=by
 cases op <;> simp only [strOp] at h
 case add =>
  injection h with h1 h2;subst h1;subst h2;refine ⟨_,qhg,λw'=>?_⟩
  have hn:¬ ((((bs s).size+(bs t).size:Nat):Int)>Qz.max):=by
   show ¬ (((s.length+t.length:Nat):Int)>9223372036854775807);omega
  rw [← bs_app];simp only [binOp,Op.stringOp,if_neg hn];rfl
 case eql | neq | lss | leq | gtr | geq =>
  injection h with h1 h2;subst h1;subst h2;refine ⟨_,q5i,λw'=>?_⟩
  simp only [binOp,Op.stringOp,q8d];rfl
 all_goals cases h
theorem qjd {k k':IntKind} (h:IntKind.eqB k k'=true):k=k':=by
 cases k <;> cases k' <;> first | rfl | cases h
theorem qko (op:BinOp) (t:TypeId) (x y:Operand) (u v:Value) (hu:∀ cs,u≠.agg cs) (hn:u≠.nilIface) (w:World):(eqGuard op t x y u v).run P w=.ok () w:=by
 unfold eqGuard;cases op <;> simp
 all_goals (split <;> first | (exact absurd rfl (hu _)) | (exact absurd rfl hn) | rfl)
theorem qh2 {op:BinOp} {A B:AV} {c:Prop} {v:AV} {isB:Bool} {t:TypeId} (hB:isB=true→P.underlying t=some .bool) (h:binGot isB op A B=.ok c v) (hc:c) {x y:Value} (hx:A.Rep κ w x) (hy:B.Rep κ w y) (X Y:Operand) :
  ∃ u,v.Rep κ w u∧∀ w',(do eqGuard op t X Y x y;binOp op t x y:Sem Value).run P w'=.ok u w':=by
 have key:(∀ cs,x≠.agg cs)→x≠.nilIface→(∃ u,v.Rep κ w u∧∀ w',(binOp op t x y).run P w'=.ok u w')→∃ u,v.Rep κ w u∧∀ w',(do eqGuard op t X Y x y;binOp op t x y:Sem Value).run P w'=.ok u w':=by
  rintro h1 h2 ⟨u,hu,hw⟩;exact ⟨u,hu,λw'=>by rw [Qb,qko op t X Y x y h1 h2];exact hw w'⟩
 unfold binGot at h;split at h
 ·rename_i k p k' q
  obtain rfl:x=.int k p:=hx;obtain rfl:y=.int k' q:=hy;refine key (λ_ e=>by cases e) (λe=>by cases e) ?_
  cases hs:qhk op
  ·rw [hs] at h
   cases he:IntKind.eqB k k'
   ·rw [he] at h;cases h
   ·rw [he] at h
    obtain rfl:=qjd he;exact intOp_sound hs h hc t
  ·rw [hs] at h
   exact qlf h hc t
 ·rename_i s q
  obtain rfl:x=.string (bs s):=hx;obtain rfl:y=.string (bs q):=hy;exact key (λ_ e=>by cases e) (λe=>by cases e) (strOp_sound h hc t)
 ·rename_i p q
  obtain rfl:x=.bool p:=hx;obtain rfl:y=.bool q:=hy;refine key (λ_ e=>by cases e) (λe=>by cases e) ?_
  cases hb:isB
  ·rw [hb] at h;cases h
  ·rw [hb] at h
   have hu:=hB hb;cases op <;> simp only [cond_true,boolOp] at h
   case eql =>
    injection h with h1 h2;subst h1;subst h2;exact ⟨_,q5i,λw'=>run_eql_bool w' t p q hu⟩
   case neq =>
    injection h with h1 h2;subst h1;subst h2;exact ⟨_,q5i,λw'=>run_neq_bool w' t p q hu⟩
   all_goals cases h
 ·cases h
theorem add_plain2 (g o n:Nat):(⟨g,o,none⟩:Addr).add n=⟨g,o+n,none⟩:=by unfold QG;split <;> simp_all
theorem q46 {t:TypeId} {b:Bool} (h:q7g P t=some b) (w:World):(Go.isAgg t).run P w=.ok b w:=by
 unfold q7g at h;cases hu:P.underlying t with
 | none=>rw [hu] at h;cases h
 | some d =>
  rw [hu] at h;simp only [Go.isAgg,Qb,run_underlying hu,Qf];cases d <;> first | (injection h with h;subst h;rfl)
theorem q1m {t:TypeId} {n:Nat} (h:q15 P t=some n) (w:World):(Go.sizeOf t).run P w=.ok n w:=by
 unfold q15 at h;cases hi:P.info? t with
 | none=>rw [hi] at h;cases h
 | some i=>rw [hi] at h;injection h with h;subst h;simp [Go.sizeOf,typeInfo,hi]
theorem q9v {cs:List Cell}:∀ (n off:Nat) (l:List Cell),qaf cs off n=some l→l.length=n∧∀ i c,l[i]? = some c→cs[off+i]? = some c
 | 0,off,l,h=>by injection h with h;subst h;exact ⟨rfl,λi c h=>by cases h⟩
 | n+1,off,l,h=>by
  unfold qaf at h;cases hx:cs[off]? with
  | none=>rw [hx] at h;cases h
  | some x =>
   rw [hx] at h;cases hr:qaf cs (off+1) n with
   | none=>simp [hr] at h
   | some r =>
    simp [hr] at h;subst h;obtain ⟨h1,h2⟩:=q9v n (off+1) r hr;refine ⟨by simp [h1],λi c hc=>?_⟩
    cases i with
    | zero=>injection hc with hc;subst hc;exact hx
    | succ i=>have:=h2 i c hc;rwa [show off+(i+1)=off+1+i by omega]
theorem qfi {fs:Kds} {p:fs.Pay}:∀ (n f:Nat) (l:List Cell),qbt fs p f n=some l→l.length=n∧∀ i c,l[i]? = some c→∃ x,fs.fld p (f+i)=some x∧c=.val x.1 x.2
 | 0,off,l,h=>by injection h with h;subst h;exact ⟨rfl,λi c h=>by cases h⟩
 | n+1,off,l,h=>by
  unfold qbt at h;cases hx:fs.fld p off with
  | none=>rw [hx] at h;cases h
  | some x =>
   rw [hx] at h;cases hr:qbt fs p (off+1) n with
   | none=>simp [hr] at h
   | some r =>
    simp [hr] at h;subst h;obtain ⟨h1,h2⟩:=qfi n (off+1) r hr;refine ⟨by simp [h1],λi c hc=>?_⟩
    cases i with
    | zero=>injection hc with hc;subst hc;exact ⟨x,hx,rfl⟩
    | succ i=>have:=h2 i c hc;rwa [show off+(i+1)=off+1+i by omega]
theorem q8v {t:TypeId} {cs:List Cell} {off:Nat} {c:Prop} {v:AV} (h:partOf P t cs off=.ok c v) {vs:Array Value} (hv:q06 κ w cs vs) :
  ∃ u,v.Rep κ w u∧∀ w',(Qw t vs off).run P w'=.ok u w':=by
 unfold partOf at h;split at h
 ·rename_i n ha hs
  split at h
  ·rename_i l hl
   injection h with h1 h2;subst h2;obtain ⟨hl1,hl2⟩:=q9v n off l hl;refine ⟨.agg (vs.extract off (off+n)),⟨_,rfl,?_,λi c hc=>?_,λi v hv'=>?_⟩,λw'=>?_⟩
   ·rw [Qu,hv.1]
    rcases Qv n with h0 | h0
    ·subst h0;rw [hl1];omega
    ·have:(n-1)<l.length:=by omega
     have:=hl2 (n-1) l[n-1] (Q0 this)
     have:=(Q3.1 this).1
     rw [hl1];omega
   ·obtain ⟨u,hu,hr⟩:=hv.2.1 _ _ (hl2 i c hc)
    refine ⟨u,?_,hr⟩;have hil:i<n:=by rw [← hl1];exact (Q3.1 hc).1
    rw [Qg,if_pos]
    ·exact hu
    ·have:=(Array.getElem?_eq_some_iff.1 hu).1
     omega
   ·rw [Qg] at hv'
    split at hv'
    ·exact hv.2.2 _ _ hv'
    ·cases hv'
   ·simp [Qw,q46 ha,q1m hs]
  ·cases h
 ·rename_i ha
  split at h
  ·rename_i x hx
   injection h with h1 h2;subst h2;obtain ⟨u,hu,hr⟩:=hv.2.1 _ _ hx;exact ⟨u,hr,λw'=>by simp [Qw,q46 ha,hu]⟩
  ·cases h
 ·cases h
theorem qcr (w':World) (g o n:Nat) (vs:List Value) (hn:vs.length=n) (h:∀ i v,vs[i]? = some v→w'.cell? ⟨g,o+i,none⟩=some v):(Go.loadCells ⟨g,o,none⟩ n).run P w'=.ok vs.toArray w':=by
 subst hn;exact run_loadCells_list w' ⟨g,o,none⟩ vs (λj v hj=>by rw [add_plain2];exact h j v hj)
theorem exists_list {l:List Cell} {R:Nat→Value→Prop} (h:∀ i c,l[i]? = some c→∃ u,R i u∧c.Rep κ w u):∃ us:List Value,us.length=l.length∧∀ (i:Nat) c,l[i]? = some c→∃ u,us[i]? = some u∧R i u∧c.Rep κ w u:=by
 induction l generalizing R with
 | nil=>exact ⟨[],rfl,λi c h=>by cases h⟩
 | cons x l ih =>
  obtain ⟨u,hu,hr⟩:=h 0 x rfl;obtain ⟨us,h1,h2⟩:=ih (R:=λi u=>R (i+1) u) (λi c hc=>h (i+1) c hc)
  refine ⟨u::us,by simp [h1],λi c hc=>?_⟩
  cases i with
  | zero=>injection hc with hc;subst hc;exact ⟨u,rfl,hu,hr⟩
  | succ i=>exact h2 i c hc
theorem qd2 {t:TypeId} {fs:Kds} {p:fs.Pay} {f:Nat} {c:Prop} {v:AV} (h:q6y P t fs p f=.ok c v) {g o:Nat} (hg:g<w.heap.size) (hr:fs.Rep w κ.S p g o) :
  ∃ u,v.Rep κ w u∧∀ w',Below w.heap.size w w'→(Qj t ⟨g,o+f,none⟩).run P w'=.ok u w':=by
 unfold q6y at h;split at h
 ·rename_i n ha hs
  split at h
  ·rename_i l hl
   injection h with h1 h2;subst h2;obtain ⟨hl1,hl2⟩:=qfi n f l hl;obtain ⟨us,hu1,hu2⟩:=exists_list (κ:=κ) (w:=w) (l:=l) (R:=λi u=>w.cell? ⟨g,o+(f+i),none⟩=some u) (λi c hc=>by
    obtain ⟨x,hx,rfl⟩:=hl2 i c hc;exact Kds.Rep.fld fs p g o (f+i) x hr hx)
   refine ⟨.agg us.toArray,⟨_,rfl,by simp [hu1],λi c hc=>?_,λi v hv=>?_⟩,λw' hb=>?_⟩
   ·obtain ⟨u,h1,_,h3⟩:=hu2 i c hc
    exact ⟨u,by simpa using h1,h3⟩
   ·have hv:us[i]? = some v:=by simpa using hv
    have hi:i<l.length:=by rw [← hu1];exact (Q3.1 hv).1
    obtain ⟨u,h1,h2,h3⟩:=hu2 i l[i] (Q0 hi);rw [hv] at h1;injection h1 with h1;subst h1;obtain ⟨x,hx,he⟩:=hl2 i l[i] (Q0 hi);rw [he] at h3;exact Kd.Rep.q67 h3
   ·have:=qcr (P:=P) w' g (o+f) n us (by rw [hu1,hl1]) (λi v hv=>by
     have hi:i<l.length:=by rw [← hu1];exact (Q3.1 hv).1
     obtain ⟨u,h1,h2,_⟩:=hu2 i l[i] (Q0 hi);rw [hv] at h1;injection h1 with h1;subst h1;rw [Qh];exact (hb.cell (p:=⟨g,o+(f+i),none⟩) hg).trans h2)
    simp [Qj,q46 ha,q1m hs,this]
  ·cases h
 ·rename_i ha
  split at h
  ·rename_i x hx
   injection h with h1 h2;subst h2;obtain ⟨u,hu,hr⟩:=Kds.Rep.fld fs p g o f x hr hx;refine ⟨u,hr,λw' hb=>?_⟩
   have:=(hb.cell (p:=⟨g,o+f,none⟩) hg).trans hu
   simp [Qj,q46 ha,this]
  ·cases h
 ·cases h
theorem qio {t:TypeId} {cs:List Cell} {off:Nat} {c:Prop} {v:AV} (h:partOf P t cs off=.ok c v) {g:Nat} {ty:TypeId} {vs:Array Value} (hb:Blk w g ty vs) (hv:q06 κ w cs vs) :
  ∃ u,v.Rep κ w u∧∀ w',Below w.heap.size w w'→(Qj t ⟨g,off,none⟩).run P w'=.ok u w':=by
 obtain ⟨u,hu,hp⟩:=q8v h hv;refine ⟨u,hu,λw' hw=>?_⟩
 have hp:=hp w';have hbk:Blk w' g ty vs:=hb.bel hw;unfold partOf at h;split at h
 ·rename_i n ha hs
  split at h
  ·rename_i l hl
   simp [Qw,q46 ha,q1m hs] at hp;subst hp;obtain ⟨hl1,hl2⟩:=q9v n off l hl;have hsz:(vs.extract off (off+n)).toList.length=n:=by
    rw [Array.length_toList,Qu,hv.1];rcases Qv n with h0 | h0
    ·subst h0;omega
    ·have:(n-1)<l.length:=by omega
     have:=hl2 (n-1) l[n-1] (Q0 this)
     have:=(Q3.1 this).1
     omega
   have:=qcr (P:=P) w' g off n (vs.extract off (off+n)).toList hsz (λi x hx=>by
    rw [Qm,Qg] at hx;split at hx
    ·rw [hbk.cell];exact hx
    ·cases hx)
   rw [Array.toArray_toList] at this;simp [Qj,q46 ha,q1m hs,this]
  ·cases h
 ·rename_i ha
  split at h
  ·rename_i x hx
   obtain ⟨y,hy,hr⟩:=hv.2.1 _ _ hx;simp [Qw,q46 ha,hy] at hp;subst hp;have:w'.cell? ⟨g,off,none⟩=some y:=(hbk.cell off).trans hy;simp [Qj,q46 ha,this]
  ·cases h
 ·cases h
end
end R
namespace R
section
variable {w0:Base} {w w':World} {κ:Cx} {st:St} {a:Act} {P:Program}
theorem q0h {o:Oper} {v:AV} {s:Sem Value} (he:execOp a.eval o=(do let x ← s;pure (Next.value x))) (h:∃ u,v.Rep κ w u∧∀ w',Below w.heap.size w w'→s.run P w'=.ok u w'):Yields P κ w a o v:=by
 obtain ⟨u,hu,hw⟩:=h;exact ⟨u,hu,λw' hb=>by rw [he];exact vrun (hw w' hb)⟩
theorem eqLeaf_sound {t:TypeId} {A B:AV} {b:Bool} (h:eqLeaf P t A B=some b) {x y:Value} (hx:A.Rep κ w x) (hy:B.Rep κ w y) (d:Nat) (w':World):(QE (d+1) t x y).run P w'=.ok b w':=by
 unfold eqLeaf at h;split at h
 ·rename_i k p k' q
  obtain rfl:x=.int k p:=hx;obtain rfl:y=.int k' q:=hy;split at h
  ·rename_i k2 hu
   cases he:IntKind.eqB k k'
   ·rw [he] at h;cases h
   ·rw [he] at h
    obtain rfl:=qjd he;injection h with h;subst h;exact run_equalIn_int w' d t k k2 p q hu
  ·cases h
 ·rename_i p q
  obtain rfl:x=.string (bs p):=hx;obtain rfl:y=.string (bs q):=hy;split at h
  ·rename_i hu
   injection h with h;subst h;rw [run_equalIn_string w' d t _ _ hu,q8d,q8d]
  ·cases h
 ·rename_i p q
  obtain rfl:x=.bool p:=hx;obtain rfl:y=.bool q:=hy;split at h
  ·rename_i hu
   injection h with h;subst h;exact run_equalIn_bool' w' d t p q hu
  ·cases h
 ·cases h
theorem qh5 {E:TypeId→AV→AV→Option Bool} {d:Nat} (hE:∀ t A B b,E t A B=some b→∀ x y,A.Rep κ w x→B.Rep κ w y→∀ w',(QE d t x y).run P w'=.ok b w') {xs ys:List Cell} {us vs:Array Value} (hx:q06 κ w xs us) (hy:q06 κ w ys vs) (w':World) :
  ∀ (fs:List Field) (b:Bool),eqFlds P E xs ys fs=some b→(Op.eqFields d us vs fs).run P w'=.ok b w'
 | [],b,h=>by injection h with h;subst h;rfl
 | f::r,b,h=>by
  unfold eqFlds at h;cases hn : f.name == "_"
  ·rw [hn] at h
   dsimp only [cond_false] at h;have hne : f.name ≠ "_" := fun e => by rw [e] at hn; cases hn
   split at h
   ·rename_i c1 A c2 B h1 h2
    split at h
    ·rename_i p q h3 h4
     injection h with h;subst h;obtain ⟨u,hu,hw1⟩:=q8v h1 hx;obtain ⟨v,hv,hw2⟩:=q8v h2 hy;have e3:=hE _ _ _ _ h3 u v hu hv w';have e4:=qh5 hE hx hy w' r q h4;unfold Op.eqFields;rw [if_pos hne];simp only [Qb,hw1,hw2,Qf,e3];cases p
     ·rfl
     ·simpa using e4
    ·cases h
   ·cases h
  ·rw [hn] at h;cases h
theorem qe5:∀ (d:Nat) (t:TypeId) (A B:AV) (b:Bool),eqAV P d t A B=some b→∀ x y,A.Rep κ w x→B.Rep κ w y→∀ (k:Nat) (w':World),(QE (k+d) t x y).run P w'=.ok b w'
 | 0,_,_,_,_,h,_,_,_,_,_,_=>by cases h
 | d+1,t,A,B,b,h,x,y,hx,hy,k,w'=>by
  unfold eqAV at h;split at h
  ·rename_i xs ys
   obtain ⟨us,rfl,hus⟩:=hx;obtain ⟨vs,rfl,hvs⟩:=hy;split at h
   ·rename_i fs hu
    cases hs:P.stoodInHeld t
    ·rw [hs] at h
     have hf:P.fieldsOf t=fs:=by unfold Program.fieldsOf;rw [hu]
     rw [← Qh,run_equalIn_struct w' (k+d) t us vs (by rw [hf];exact hu) hs,hf]
     exact qh5 (λt A B b h x y hx hy w'=>qe5 d t A B b h x y hx hy k w') hus hvs w' fs.toList b h
    ·rw [hs] at h;cases h
   ·cases h
  ·rw [← Qh]
   exact eqLeaf_sound h hx hy _ w'
theorem qfz {op:BinOp} {t:TypeId} {A B:AV} {c:Prop} {v:AV} (hab:qbl A B=true) (h:aggGot P op t A B=.ok c v) {x y:Value} (hx:A.Rep κ w x) (hy:B.Rep κ w y) (X Y:Operand) :
  ∃ u,v.Rep κ w u∧∀ w',(do eqGuard op t X Y x y;binOp op t x y:Sem Value).run P w'=.ok u w':=by
 unfold qbl at hab;split at hab
 ·obtain ⟨us,rfl,hus⟩:=hx
  obtain ⟨vs,rfl,hvs⟩:=hy;unfold aggGot at h;cases hg:P.eqGuardType P.depth t
  ·rw [hg] at h
   dsimp only [cond_false] at h;split at h
   ·rename_i b hb
    injection h with h1 h2;subst h2;refine ⟨_,q5i,λw'=>?_⟩
    rw [Qb,run_eqGuard_agg _ _ _ _ _ _ _ hg,Qf,run_eql_struct,show (10000:Nat)=9992+8 from rfl,qe5 8 t _ _ b hb _ _ ⟨us,rfl,hus⟩ ⟨vs,rfl,hvs⟩ 9992 w'];rfl
   ·rename_i b hb
    injection h with h1 h2;subst h2;refine ⟨_,q5i,λw'=>?_⟩
    rw [Qb,run_eqGuard_agg _ _ _ _ _ _ _ hg,Qf,run_neq_struct,show (10000:Nat)=9992+8 from rfl,qe5 8 t _ _ b hb _ _ ⟨us,rfl,hus⟩ ⟨vs,rfl,hvs⟩ 9992 w'];rfl
   ·cases h
  ·rw [hg] at h;cases h
 ·cases hab
theorem qgr {op:BinOp} {t:TypeId} {X:Operand} {B:AV} {c:Prop} {v:AV} {a:Act} (hab:twoOp op X=true) (h:twoGot B=.ok c v) {y:Value} (hy:B.Rep κ w y) (Y:Operand) :
  ∃ u,v.Rep κ w u∧∀ w',(do eqGuard op t X Y (a.eval X) y;binOp op t (a.eval X) y:Sem Value).run P w'=.ok u w':=by
 unfold twoOp at hab;split at hab
 ·rename_i n
  obtain rfl:n=2:=of_decide_eq_true hab;unfold twoGot at h;split at h
  ·rename_i b
   injection h with h1 h2;subst h2;obtain rfl:y=.int .i64 b:=hy;refine ⟨_,q29,λw'=>?_⟩
   rw [Qb,qko .mul t _ Y _ _ (λ_ e=>by cases e) (λe=>by cases e)]
   simp [binOp,Op.intArith,Act.eval]
  ·cases h
 ·cases hab
theorem qgc {q:Bool} {A B:AV} {x y:Value} (hx:A.Rep κ w x) (hy:B.Rep κ w y):(pickAV q A B).Rep κ w (if q=true then x else y):=by
 unfold pickAV;split
 ·rename_i p r
  obtain rfl:x=.bool p:=hx;obtain rfl:y=.bool r:=hy;cases q <;> rfl
 ·cases q
  ·exact hy
  ·exact hx
theorem qfl {κ:Cx} {w:World}:∀ (l:List Cell) (cs:List Cell) (off:Nat) (r:List Cell) (vs:List Value) (us:Array Value),setCells cs off l=some r→q06 κ w l vs.toArray→q06 κ w cs us →
  q06 κ w r ((vs.zipIdx).foldl (λcs (c,j)=>cs.setIfInBounds (off+j) c) us):=by
 have key:∀ (l:List Cell) (cs:List Cell) (off k:Nat) (r:List Cell) (vs:List Value) (us:Array Value),setCells cs (off+k) l=some r→q06 κ w l vs.toArray→q06 κ w cs us →
   q06 κ w r ((vs.zipIdx k).foldl (λcs (c,j)=>cs.setIfInBounds (off+j) c) us):=by
  intro l
  induction l with
  | nil =>
   intro cs off k r vs us h hv hu;injection h with h;subst h;obtain rfl:vs=[]:=by have:=hv.1;simpa using this
   exact hu
  | cons x l ih =>
   intro cs off k r vs us h hv hu;cases vs with
   | nil=>have:=hv.1;simp at this
   | cons v vs =>
    unfold setCells at h;cases hb:Nat.blt (off+k) cs.length
    ·rw [hb] at h;cases h
    ·rw [hb] at h
     have hlt:off+k<cs.length:=by rw [Nat.blt_eq] at hb;exact hb
     have h':setCells (cs.set (off+k) x) (off+(k+1)) l=some r:=h;have hx:x.Rep κ w v:=by
      obtain ⟨y,hy,hr⟩:=hv.2.1 0 x rfl;injection hy with hy;subst hy;exact hr
     have hv':q06 κ w l vs.toArray:=⟨by have:=hv.1;simpa using this,λi c hc=>by
      obtain ⟨y,hy,hr⟩:=hv.2.1 (i+1) c hc;exact ⟨y,by simpa using hy,hr⟩,λi y hy=>hv.2.2 (i+1) y (by simpa using hy)⟩
     have hu':q06 κ w (cs.set (off+k) x) (us.setIfInBounds (off+k) v):=⟨by simp [hu.1],λi c hc=>by
      rw [List.getElem?_set] at hc;by_cases e:off+k=i
      ·subst e
       rw [if_pos rfl,if_pos hlt] at hc;injection hc with hc;subst hc;exact ⟨v,Q7 (by rw [hu.1];exact hlt),hx⟩
      ·rw [if_neg e] at hc
       obtain ⟨y,hy,hr⟩:=hu.2.1 i c hc;exact ⟨y,by rw [Q8 e];exact hy,hr⟩,λi y hy=>by
      by_cases e:off+k=i
      ·subst e
       rw [Q7 (by rw [hu.1];exact hlt)] at hy
       injection hy with hy;subst hy;exact hv.2.2 0 v rfl
      ·rw [Q8 e] at hy
       exact hu.2.2 i y hy⟩
     rw [List.zipIdx_cons,List.foldl_cons];exact ih _ off (k+1) r vs _ h' hv' hu'
 intro l cs off r vs us h hv hu;exact key l cs off 0 r vs us h hv hu
theorem q6s {A:AV} {l:List Cell} {v:Value} (h:q5b A=some l) (hv:A.Rep κ w v):q06 κ w l v.cells:=by
 unfold q5b at h;split at h
 ·rename_i c
  cases hs:c.q67
  ·rw [hs] at h;cases h
  ·rw [hs] at h
   injection h with h;subst h;have ho:=Cell.Rep.q67 hv hs;have hc:v.cells=#[v]:=by cases v <;> first | rfl | cases ho
   rw [hc];refine ⟨rfl,λi c hc=>?_,λi u hu=>?_⟩
   ·cases i with
    | zero=>injection hc with hc;subst hc;exact ⟨v,rfl,hv⟩
    | succ i=>cases hc
   ·cases i with
    | zero=>injection hu with hu;subst hu;exact ho
    | succ i=>simp at hu
 ·injection h with h;subst h
  obtain ⟨vs,rfl,h⟩:=hv;exact h
 ·cases h
theorem qla {st:St} {a:Act} {y:Operand} {l:List Cell} (h:cellsIn st y=some l) (hv:(st.ev y).Rep κ w (a.eval y)):q06 κ w l (a.eval y).cells:=by
 unfold cellsIn at h;split at h
 ·rename_i cs hc
  injection h with h;subst h;exact q6s hc hv
 ·split at h
  ·rename_i v _
   cases ho:v.oneCell'
   ·rw [ho] at h;cases h
   ·rw [ho] at h
    injection h with h;subst h;show q06 κ w [.any] v.cells;have hc:v.cells=#[v]:=by cases v <;> first | rfl | cases ho
    rw [hc];refine ⟨rfl,λi c hc=>?_,λi u hu=>?_⟩
    ·cases i with
     | zero=>injection hc with hc;subst hc;exact ⟨v,rfl,trivial⟩
     | succ i=>cases hc
    ·cases i with
     | zero=>injection hu with hu;subst hu;exact ho
     | succ i=>simp at hu
  ·cases h
theorem q7x (hR:Rel w0 κ st a w) (places:List (Nat×Nat)) (place:Nat→Option (Nat×Nat)) (hpl:∀ i q,places[i]? = some q→place i=some q):∀ (parts:List (Nat×Operand)) (cs l:List Cell) (us:Array Value),q53 st places cs parts=some l→q06 κ w cs us →
  ∃ us',Instr.fill place us (parts.map λ(i,x)=>(i,a.eval x))=some us'∧q06 κ w l us'
 | [],cs,l,us,h,hu=>by injection h with h;subst h;exact ⟨us,rfl,hu⟩
 | (i,x)::r,cs,l,us,h,hu=>by
  unfold q53 at h;cases hp:places[i]? with
  | none=>rw [hp] at h;cases h
  | some q =>
   obtain ⟨off,size⟩:=q;cases hc:q5b (st.ev x) with
   | none=>rw [hp,hc] at h;cases h
   | some xs =>
    rw [hp,hc] at h;dsimp only at h;cases hb:xs.length.beq size&&Nat.ble (off+xs.length) cs.length
    ·rw [hb] at h;cases h
    ·rw [hb] at h
     rw [QA] at hb;have hs:xs.length=size:=Qi hb.1;have hle:off+xs.length≤cs.length:=Nat.le_of_ble_eq_true hb.2;cases hset:setCells cs off xs with
     | none=>rw [hset] at h;cases h
     | some cs' =>
      rw [hset] at h;have hxr:=q6s hc (hR.ev x);have hsz:(a.eval x).cells.size=xs.length:=hxr.1;obtain ⟨us',h1,h2⟩:=q7x hR places place hpl r cs' l _ h (qfl xs cs off cs' (a.eval x).cells.toList us hset (by simpa using hxr) hu)
      refine ⟨us',?_,h2⟩;rw [List.map_cons];unfold Instr.fill;have hpa:place i=some (off,size):=hpl i _ hp;simp only [hpa];rw [if_neg]
      ·rw [← h1]
       congr 1
       rw [← Array.foldl_toList,Array.toList_zipIdx]
      ·rw [hsz,hs,hu.1,← hs]
       simp;omega
theorem q8j {t:TypeId} {cs:List Cell} (h:zeroCells P t=some cs):∃ it z,P.info? t=some it∧it.zero=some z∧q06 κ w cs z.cells:=by
 unfold zeroCells at h;cases hi:P.info? t with
 | none=>rw [hi] at h;cases h
 | some it =>
  rw [hi] at h;cases hz:it.zero with
  | none=>simp [hz] at h
  | some z =>
   simp only [Option.bind_some,hz] at h;cases ho:z.cells.toList.all (·.oneCell')
   ·rw [ho] at h;cases h
   ·rw [ho] at h
    injection h with h;subst h;exact ⟨it,z,rfl,hz,qiq κ w z.cells ho⟩
theorem q2k {base:Nat} {e:TypeId} {size n:Nat} {v:Value} {xs:List Value} (ho:w.ownsRow base e size v n xs):∃ A c,v=.slice A n c:=by
 rcases ho.2 with ⟨rfl,rfl⟩ | ⟨g,cap,cur,rfl,_⟩
 ·exact ⟨_,_,rfl⟩
 ·exact ⟨_,_,rfl⟩
theorem owns_at {base:Nat} {e:TypeId} {size n:Nat} {xs:List Value} {g o c:Nat} (ho:w.ownsRow base e size (.slice (some ⟨g,o,none⟩) n c) n xs):o=0∧g<w.heap.size∧n≤c∧base≤g∧∀ (j:Nat) u,xs[j]? = some u→w.cell? ⟨g,j,none⟩=some u:=by
 rcases ho.2 with ⟨h,_⟩ | ⟨g2,cap,cur,h,h2,h3,h4,h5,h6,h7⟩
 ·cases h
 ·injection h with ha hn hc
  injection ha with ha;injection ha with hg ho' _;subst hg;subst ho';subst hc;refine ⟨rfl,Blk.lt (t:=e) (cs:=cur) h3,h4,h2,λj u hu=>?_⟩
  rw [cell_of_row w g j cur _ _ h3];rw [← h7,List.getElem?_take] at hu;split at hu
  ·simpa using hu
  ·cases hu
theorem Kds.Rep.qh9 {S:Nat→Prop}:∀ (fs:Kds) (x:fs.Pay) (g o:Nat),(∀ (f:Nat) z,fs.fld x f=some z→∃ u,w.cell? ⟨g,o+f,none⟩=some u∧z.1.Rep w S z.2 u)→fs.Rep w S x g o
 | .one k,x,g,o,h=>h 0 _ rfl
 | .cons k ks,x,g,o,h=>⟨h 0 _ rfl,Kds.Rep.qh9 ks x.2 g (o+1) λf z hz=>by
   obtain ⟨u,hu,hr⟩:=h (f+1) z hz;exact ⟨u,by rw [Qh,Nat.add_comm 1 f];exact hu,hr⟩⟩
theorem row_elem (hR:Rel w0 κ st a w) {r:Nat} {x:Row} (hx:st.row r=some x) {g n c i:Nat} (hv:κ.ρ r=.slice (some ⟨g,0,none⟩) n c) (hi:i<n):g<w.heap.size∧x.fs.Rep w κ.S (x.xs.getD i x.fs.dflt) g (i*x.fs.size):=by
 obtain ⟨cells,ho,hc,_⟩:=hR.row r x hx;obtain ⟨A,c',he⟩:=q2k ho;have hn:n=x.xs.length:=by rw [hv] at he;injection he
 rw [hv,← hn] at ho;obtain ⟨_,hg,_,_,hcell⟩:=owns_at ho;refine ⟨hg,Kds.Rep.qh9 x.fs _ g _ λf z hz=>?_⟩
 have hge:x.xs[i]? = some (x.xs.getD i x.fs.dflt):=by
  rw [Qk,Q0 (by omega),QC]
 obtain ⟨u,hu,hr⟩:=hc i _ hge f z hz;exact ⟨u,hcell _ _ hu,hr⟩
theorem kd_eq {k:Kd} {p q:k.Pay} (h:k.eqB p q=true):p=q:=by
 cases k with
 | sl fs=>cases h
 | int k=>exact beq_iff_eq.1 h
 | bool=>exact beq_iff_eq.1 h
 | str=>exact beq_iff_eq.1 h
theorem kds_eq:∀ (ks:Kds) (p q:ks.Pay),ks.eqB p q=true→p=q
 | .one k,p,q,h=>kd_eq h
 | .cons k ks,p,q,h=>by
  have h:(k.eqB p.1 q.1&&ks.eqB p.2 q.2)=true:=h;rw [QA] at h;exact Prod.ext (kd_eq h.1) (kds_eq ks _ _ h.2)
theorem q4r {x:CK} {p q:x.Pay} (h:x.eqB p q=true):p=q:=by
 cases x with
 | one k=>exact kd_eq h
 | agg ks=>exact kds_eq ks p q h
theorem get_mem {α β:Type} (eq:α→α→Bool) (k:α):∀ (xs:List (α×β)) (v:β),Mp.get eq k xs=some v→∃ (i:Nat) (x:α×β),xs[i]? = some x∧eq k x.1=true∧x.2=v
 | [],v,h=>by cases h
 | x::r,v,h=>by
  unfold Mp.get at h;split at h
  ·rename_i he
   injection h with h;exact ⟨0,x,rfl,he,h⟩
  ·obtain ⟨i,y,h1,h2,h3⟩:=get_mem eq k r v h
   exact ⟨i+1,y,h1,h2,h3⟩
theorem qeu (hR:Rel w0 κ st a w) {kk:CK} {k:kk.Pay} {x:(fs:Kds)×List fs.Pay} (h:st.qbm kk k=some x):∃ e cells,w.ownsRow w0.n0 e x.1.size (κ.μ.fin (kk.kv k)) x.2.length cells∧q0k κ w x.1 x.2 cells:=by
 unfold St.qbm at h;split at h
 ·rename_i y hy
  split at h
  ·rename_i ekk _ hpend
   subst ekk;injection h with h;subst h;have hF:=hR.ext.fam y hy;have hoff:∀ q,y.off q:=λq l e=>by rw [hpend] at e;cases e
   cases hk:y.at_ k with
   | none =>
    refine ⟨y.e,[],?_,λi x hx=>by simp at hx⟩
    rw [hF.miss k hk];exact World.ownsRow_nil _ _ _ _
   | some l =>
    obtain ⟨i,q,q1,q2,q3⟩:=get_mem _ _ _ _ hk;obtain ⟨cells,h1,h2⟩:=hF.inn i q q1 (hoff _);subst q3;rw [show y.kk.kv k=y.kk.kv q.1 by rw [q4r q2]]
    exact ⟨y.e,cells,h1,h2⟩
  ·cases h
 ·cases h
theorem fent_elem (hR:Rel w0 κ st a w) {kk:CK} {k:kk.Pay} {x:(fs:Kds)×List fs.Pay} (h:st.qbm kk k=some x) {g n c i:Nat} (hv:κ.μ.fin (kk.kv k)=.slice (some ⟨g,0,none⟩) n c) (hi:i<n):g<w.heap.size∧x.1.Rep w κ.S (x.2.getD i x.1.dflt) g (i*x.1.size)∧n=x.2.length:=by
 obtain ⟨e,cells,ho,hc⟩:=qeu hR h;obtain ⟨A,c',he⟩:=q2k ho;have hn:n=x.2.length:=by rw [hv] at he;injection he
 rw [hv,← hn] at ho;obtain ⟨_,hg,_,_,hcell⟩:=owns_at ho;refine ⟨hg,Kds.Rep.qh9 x.1 _ g _ λf z hz=>?_,hn⟩
 have hge:x.2[i]? = some (x.2.getD i x.1.dflt):=by
  rw [Qk,Q0 (by omega),QC]
 obtain ⟨u,hu,hr⟩:=hc i _ hge f z hz;exact ⟨u,hcell _ _ hu,hr⟩
theorem q96 (hR:Rel w0 κ st a w) {A:AV} {c:Prop} {v:AV} {b:Bool} (h:qde st b A=.ok c v) {x:Value} (hx:A.Rep κ w x) {t ty:TypeId} {d:TypeDesc} (hu:P.underlying t=some d)
  (hk:b=true→d=.string) (hk2:b=false→∃ e,d=.slice e):∃ u,v.Rep κ w u∧∀ w',(Qc #[t] ty #[x]).run P w'=.ok u w':=by
 unfold qde at h;split at h
 ·rename_i s
  obtain rfl:x=.string (bs s):=hx;cases b
  ·cases h
  ·injection h with h1 h2;subst h2
   obtain rfl:=hk rfl;exact ⟨_,q29,λw'=>run_len_string w' t ty (bs s) hu⟩
 ·rename_i fs xs
  obtain ⟨A,c,rfl,_⟩:=hx;cases b
  ·injection h with h1 h2;subst h2
   obtain ⟨e,rfl⟩:=hk2 rfl;exact ⟨_,q29,λw'=>by simp [Qc,run_underlying hu,goInt]⟩
  ·cases h
 ·obtain rfl:x=.slice none 0 0:=hx
  cases b
  ·injection h with h1 h2;subst h2
   obtain ⟨e,rfl⟩:=hk2 rfl;exact ⟨_,q29,λw'=>by simp [Qc,run_underlying hu,goInt]⟩
  ·cases h
 ·rename_i r
  obtain ⟨hx,_⟩:=hx;split at h
  ·rename_i y hy
   obtain ⟨cells,ho,_⟩:=hR.row r y hy;obtain ⟨A,c',he⟩:=q2k ho;rw [he] at hx;subst hx;cases b
   ·injection h with h1 h2;subst h2
    obtain ⟨e,rfl⟩:=hk2 rfl;exact ⟨_,q29,λw'=>by simp [Qc,run_underlying hu,goInt]⟩
   ·cases h
  ·cases h
 ·rename_i kk k
  obtain ⟨hx,_⟩:=hx;split at h
  ·rename_i y hy
   obtain ⟨e,cells,ho,_⟩:=qeu hR hy;obtain ⟨A,c',he⟩:=q2k ho;rw [he] at hx;subst hx;cases b
   ·injection h with h1 h2;subst h2
    obtain ⟨e,rfl⟩:=hk2 rfl;exact ⟨_,q29,λw'=>by simp [Qc,run_underlying hu,goInt]⟩
   ·cases h
  ·cases h
 ·rename_i cls
  obtain ⟨g,c,rfl,_⟩:=hx;cases b
  ·injection h with h1 h2;subst h2
   obtain ⟨e,rfl⟩:=hk2 rfl;exact ⟨_,q29,λw'=>by simp [Qc,run_underlying hu,goInt]⟩
  ·cases h
 ·rename_i r sz i
  obtain ⟨g,n,c',hρ,hi,rfl⟩:=hx;split at h
  ·rename_i y hy
   obtain ⟨cells,ho,_⟩:=hR.row r y hy;obtain ⟨A,c'',he⟩:=q2k ho;rw [he] at hρ;injection hρ with h1 h2 h3;subst h2;cases b
   ·injection h with h1 h2;subst h2
    obtain ⟨e,rfl⟩:=hk2 rfl;exact ⟨_,q29,λw'=>by simp [Qc,run_underlying hu,goInt]⟩
   ·cases h
  ·cases h
 ·cases h
theorem lowOf_spec (hR:Rel w0 κ st a w) {lo:Option Operand} {l:Int} (h:lowOf st lo=some l):(lo=none∧l=0)∨∃ k,lo.map a.eval=some (.int k l):=by
 unfold lowOf at h;split at h
 ·injection h with h;exact .inl ⟨rfl,h.symm⟩
 ·rename_i x
  split at h
  ·rename_i k n hx
   injection h with h;subst h;have:=hR.ev x;rw [hx] at this;exact .inr ⟨k,by rw [QF];exact congrArg some this⟩
  ·cases h
theorem highOf_spec (hR:Rel w0 κ st a w) {hi:Option Operand} {n:Nat} {l:Int} (h:q8n st n hi=some l):(hi=none∧l=n)∨∃ k,hi.map a.eval=some (.int k l):=by
 unfold q8n at h;split at h
 ·injection h with h;exact .inl ⟨rfl,h.symm⟩
 ·rename_i x
  split at h
  ·rename_i k n hx
   injection h with h;subst h;have:=hR.ev x;rw [hx] at this;exact .inr ⟨k,by rw [QF];exact congrArg some this⟩
  ·cases h
theorem qf6 (hR:Rel w0 κ st a w) {lo hi:Option Operand} {l h:Int} {isS:Bool} {len cap:Nat} (h1:lowOf st lo=some l) (h2:q8n st len hi=some h) (hc:0≤l∧l≤h∧h≤len) (hcap:len≤cap) (w':World) :
  (Qa isS len cap (lo.map a.eval) (hi.map a.eval) none).run P w'=.ok (l.toNat,h.toNat,cap) w':=by
 obtain ⟨c1,c2,c3⟩:=hc;have e1:(l.toNat:Int)=l:=Qq c1;have e2:(h.toNat:Int)=h:=Qq (by omega)
 have c4:h≤(cap:Int):=by omega
 rcases lowOf_spec hR h1 with ⟨rfl,rfl⟩ | ⟨k,hk⟩ <;> rcases highOf_spec hR h2 with ⟨rfl,rfl⟩ | ⟨k',hk'⟩
 ·simp [Qa]
 ·rw [hk'];simp [Qa,run_sliceBound, *]
 ·rw [hk];simp [Qa,run_sliceBound, *]
 ·rw [hk,hk'];simp [Qa,run_sliceBound, *,(by omega:0≤h)]
end
end R
end Go.Proofs.YtlmbfijhkcmncaaGreatDoor

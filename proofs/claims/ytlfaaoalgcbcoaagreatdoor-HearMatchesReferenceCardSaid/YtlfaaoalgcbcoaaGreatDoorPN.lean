/-
  Several texts in one: CoF, CoM, CoN, SoE, SoF, SoG, LaterIn, SoH, SoI, AlSpec, AlMem.
-/
import Derived.Test.YtlfaaoalgcbcoaaGreatDoorPM
import Derived.Test.YtlfaaoalgcbcoaaGreatDoorPA
import Derived.Test.YtlfaaoalgcbcoaaGreatDoorPK
import Derived.Maps.OwnSet
import Derived.DeepKeys4
import Derived.Deep.MidRow
import Derived.Maps.OwnOps
import Derived.RangeFuncNested
import Derived.RangeFuncBound
import Derived.RangeFuncCalls
import Derived.RangeFuncLeaves
import Derived.RangeFuncBox
import Derived.Shelf.Abstract
import Derived.Shelf.RegionOpen
import Derived.OwnWalkIn
import Derived.TacticsInMore
import Derived.LoopNIn
import Derived.LoopIn
import Derived.RegionTactic
import Derived.BigRegion
import Derived.Deep.CutRange
import Derived.Deep.CutBlock
import Derived.Test.YtlfaaoalgcbcoaaGreatDoorPD
import Derived.Sort.QuietThIn
import Derived.Maps.AppendAt
import Derived.Test.YtlfaaoalgcbcoaaGreatDoorPB
open Go.Lib renaming hid→Q0,toList_data→Q9
open Go.Fence renaming wide→Q4
open Bool renaming and_eq_true→Q7,not_eq_true'→Qc,not_eq_true→Qd,noConfusion→Qe,or_false→Qk,false_and→QF,and_true→QK,eq_iff_iff→We,and_false→Wj
open Go.Op renaming bytesLess→Q8
open Go.World renaming cell?_of_block→Qa,putObj_heap_other→Qb,size_alloc→Qw
open List renaming getD_eq_getElem?_getD→Qf,nil_append→Qg,getElem?_eq_getElem→Qh,append_assoc→Qi,take_of_length_le→Qj,any_eq_true→Ql,all_eq_true→Qm,append_nil→Qn,filter_nil→Qo,drop_eq_getElem_cons→Qs,cons_append→Qv,length_drop→Qx,filter_cons_of_neg→Qy,filter_cons_of_pos→Qz,length_eq_zero_iff→QA,any_append→QC,length_nil→QD,length_filter_le→QG,drop_zero→QH,drop_succ_cons→QL,take_succ_cons→QM,append_toArray→QN,filter_append→QP,size_toArray→QT,push_toArray→QU,length_cons→Wd,take_zero→Wl
open Go.Instr renaming next→Qp
open Nat renaming zero_le→Qq,le_trans→Qu,zero_add→QQ,lt_of_lt_of_le→QR,le_refl→QV,beq→Wi
open Array renaming getElem?_eq_some_iff→Qr,replicate_succ→QI,replicate_zero→QJ
open Go.Value renaming string→Qt
open Go.Oper renaming semAt_some→QE,uponIn→QW,quietUpon→Wn
open Go.KeepsOthers renaming setCell→QO
open Go.RowKit.Below renaming heap_setCell→QS,heap_alloc→W9
open Prod renaming fst→QY,snd→QZ
open Go.Program renaming keyLits→Wh
open Go.Result renaming andThen→Wm
set_option linter.unusedVariables false
namespace Go.Proofs.YtlfaaoalgcbcoaaGreatDoor
open Go.RowKit R
abbrev q0e:Type:=List Cod.Giv
abbrev q0b:Type:=List (Int×List Int)
abbrev q03:Type:=List (Cod.Key×Bool)
abbrev q0s:Type:=List (List UInt8×Bool)
abbrev q05:Type:=List (Cod.Key×List Cod.Giv)
def q6g (b:q0e):Prop:=b.length≤1000000∧∀ g∈b,g.1.length≤1000∧g.2.1.length≤1000000
def qek:Con:=.of 23 [ckWl,ckCf,q43] [q13] (λp=>q0w p.1∧q0n p.2.1∧q6g p.2.2) (λp=>Cod.Ear.proper ⟨p.1.1,p.1.2,p.2.1⟩ p.2.2)
noncomputable def inlCo:List (Nat×Func):=[(40,Tryz.f40),(49,Tryz.f49),(54,Tryz.f54),(101,Tryz.f101),
 (42,Tryz.f42),(89,Tryz.f89),(90,Tryz.f90),(92,Tryz.f92),
 (104,Tryz.f104),(52,Tryz.f52),(84,Tryz.f84)]
noncomputable def kitCo:Kit:={ cons:=[cIsName,cPlaced,cCValid,cKey.lent,cValid,cProper,cNear,cNearG],ns:=[nClone],os:=[oDelete],inls:=inlCo }
def qdp (m:q0b):MRow:=⟨119,.one (.int .i64),.one (.sl (.one (.int .i64))),m⟩
def q6p (m:q03):MRow:=⟨144,q71,.one .bool,m⟩
def qeb (m:q0s):MRow:=⟨148,.one .str,.one .bool,m⟩
def q4l (m:q05):FRow:={ t:=145,kk:=q71,e:=38,fs:=kGiv,xs:=m }
def getI (k:Int) (m:q0b):Option (List Int):=Mp.get (CK.eqB (.one (.int .i64))) k m
def getK {β:Type} (k:Cod.Key) (m:List (Cod.Key×β)):Option β:=Mp.get (CK.eqB q71) k m
def getS (k:List UInt8) (m:q0s):Option Bool:=Mp.get (CK.eqB (.one .str)) k m
def q1o (e:Cod.Ear) (m:q0b):Prop:=∀ i l,getI i m=some l→l=e.near i
def q3w (done:q0e) (m:q03):Prop:=∀ k,(getK k m).getD false=done.any λo=>Cod.key o.2.1==k
def q4b (done:q0e) (m:q0s):Prop:=∀ s,(getS s m).getD false=done.any λo=>o.1==s
def hits (xs:List (List Int)) (k:Cod.Key):Bool:=xs.any λx=>Cod.key x==k
def q41 (e:Cod.Ear) (done:q0e) (m:q05):Prop:=∀ k,(getK k m).getD []=done.filter λo=>hits (e.miss o.2.1) k
def q3n (e:Cod.Ear) (code:List Int) (i k:Nat):List (List Int):=(((e.near (code.getD i 0)).take k).filter λx=>!(x==code.getD i 0)).map (code.set i)
def q3q (codes:q03) (mist:q05) (g:Cod.Giv) (x:List Int):Bool:=!((getK (Cod.key x) codes).getD false)&&!(((getK (Cod.key x) mist).getD []).any λo=>Cod.q11 o g)
def qbq (e:Cod.Ear) (codes:q03) (mist:q05) (g:Cod.Giv):Bool:=!((getK (Cod.key g.2.1) codes).getD false)&&(((getK (Cod.key g.2.1) mist).getD []).length==0&&(e.miss g.2.1).all (q3q codes mist g))
def q27 (s0:q03) (m0:q05) (g:Cod.Giv) (xs:List (List Int)) (s:q03) (m:q05):Prop :=
 (∀ k,(getK k s).getD false=((getK k s0).getD false||hits xs k))∧∀ k,(getK k m).getD []=(getK k m0).getD []++(if hits xs k&&!((getK k s0).getD false) then [g] else [])
namespace R
def Get.mapOf (kk vk:CK) (m:Nat) (st:St):List (kk.Pay×vk.Pay):=match st.map m with
 | some y=>match y.kk.deq kk,y.vk.deq vk with
  | some ⟨h⟩,some ⟨h'⟩=>qbi h h' y.xs
  | _,_=>[]
 | none=>[]
def Get.famOf (kk:CK) (fs:Kds) (st:St):List (kk.Pay×List fs.Pay):=match st.fam with
 | some y=>match y.kk.deq kk,y.fs.deq fs with
  | some ⟨h⟩,some ⟨h'⟩=>castFam h h' y.xs
  | _,_=>[]
 | none=>[]
def Get.boxOf (ks:Kds) (b:Nat) (st:St):ks.Pay:=match st.box b with
 | some cs=>match q0x ks cs with
  | some p=>p
  | none=>ks.dflt
 | none=>ks.dflt
def Get.entOf (fs:Kds) (t:Nat) (st:St):List fs.Pay:=match st.get t with
 | .c (.one (.fent kk k))=>match st.q95 kk k with
  | some x=>match x.1.deq fs with
   | some ⟨h⟩=>q3o h x.2
   | none=>[]
  | none=>[]
 | _=>[]
def Get.cloOf (ks:Kds) (t:Nat) (st:St):ks.Pay:=match st.get t with
 | .c (.one (.clo _ _ [(b,_)]))=>Get.boxOf ks b st
 | _=>ks.dflt
def annX (l:Nat) (ι:Type) (at_:St→ι→St) (inv:St→ι→Prop) (mu:St→ι→Nat):Nat×Ann:=(l,{ ι:=ι,at_:=at_,inv:=inv,mu:=mu })
end R
abbrev lisO (o:Nat):Nat:=(o+18)*1000
def savK:Nat→List (Nat×List Nat)→List Nat
 | _,[]=>[]
 | off,(n,l)::r=>l.map (·+off)++savK (off+n) r
structure Fr where
 T:Nat
 n:Nat
 live:List Nat
 d:Nat
def Fr.mis (F:Fr):Nat:=(F.T+F.d+1)*1000
def Fr.it (F:Fr):Nat:=(F.T+1)*1000+500
def Fr.box (F:Fr):List Nat:=[F.mis+2,F.mis+3,F.T+2,F.T+3,F.T+4]
structure Up where
 o:Nat
 fr:List (Nat×List Nat)
 box:List Nat
 maps:List Nat
abbrev live117:List Nat:=[0,1,2,4,5,6,11,12,13,20,21,22,29]
def Up.keep (U:Up) (F:Fr) (live:List Nat) (ahead:List (Nat×List Nat)):Keep:={ live:=live,sav:=savK 0 (ahead++[(F.n,F.live)]++U.fr),box:=F.box++[lisO U.o+10,U.o+31]++U.box,lp:=[2,3,4] }
def R.Get.qhx (U:Up) (st:St):q03:=Get.mapOf q71 (.one .bool) (U.o+28) st
def R.Get.q60 (st:St):q05:=Get.famOf q71 kGiv st
def R.Get.doorsAt (U:Up) (st:St):q0s:=Get.mapOf (.one .str) (.one .bool) (U.o+32) st
def R.Get.nearAt (U:Up) (st:St):q0b:=Get.mapOf (.one (.int .i64)) (.one (.sl (.one (.int .i64)))) (lisO U.o+7) st
def R.Get.seenAt (F:Fr) (st:St):q03:=Get.mapOf q71 (.one .bool) (F.T+14) st
def R.Get.gAt (F:Fr) (st:St):Cod.Giv:=Get.boxOf kGiv (F.T+3) st
def R.q8x (U:Up) (st:St) (m:q0b):List (Nat×MRow):=[(lisO U.o+7,qdp m),(U.o+28,q6p (Get.qhx U st)),(U.o+32,qeb (Get.doorsAt U st))]
def anShelve (U:Up) (e:Cod.Ear) (book:q0e):List (Nat×Ann) :=
  [annG 0 (Nat×q0b×q03×q0s×q05) (λst p=>st.hd { live:=[3,10,11,33,34],sav:=savK 0 (U.fr.drop 1),box:=[U.o+3,lisO U.o+10,U.o+31]++U.box } [(35,R.int .i64 p.1)] [] [] [(lisO U.o+7,qdp p.2.1),(U.o+28,q6p p.2.2.1),(U.o+32,qeb p.2.2.2.1)] (some (q4l p.2.2.2.2)))
    (λp=>p.1≤book.length∧q1o e p.2.1∧q3w (book.take p.1) p.2.2.1∧q4b (book.take p.1) p.2.2.2.1∧q41 e (book.take p.1) p.2.2.2.2∧e.shelf [] (book.take p.1)=true) (λp=>book.length-p.1),
   cutG 2 Unit (λst _=>st.hd { live:=[2,3],sav:=savK 0 (U.fr.drop 1),box:=[U.o+3]++U.box } [(8,.c (.one (.ptr (lisO U.o+10) 0))),(9,.c (.one (.val .bool (Snd.q0k e.lang e.ws&&Snd.q0j e.c))))] [(lisO U.o+10,[.val .str e.lang,.val (.sl (.one .str)) e.ws,.mref (lisO U.o+7),.val (.sl kCf) e.c])] [] [(lisO U.o+7,qdp [])] none) (λ_=>True),
   annX 2000009 (Nat×q0b×q03×q0s×q05×Cod.Giv) (λst p=>st.hd { live:=[3,10,11,33,34],sav:=savK 0 (U.fr.drop 1),box:=[U.o+3,lisO U.o+10,U.o+31]++U.box } [(13,.c (.one (.ptr (U.o+13) 0))),(35,R.int .i64 p.1)] [(U.o+13,kGiv.cells p.2.2.2.2.2)] [] [(lisO U.o+7,qdp p.2.1),(U.o+28,q6p p.2.2.1),(U.o+32,qeb p.2.2.2.1)] (some (q4l p.2.2.2.2.1)))
    (λst p=>p.1=(st.intOf 35).toNat∧p.1<book.length∧p.2.2.2.2.2=book.getD p.1 ([],[],false,0,0)∧q1o e p.2.1∧q3w (book.take p.1) p.2.2.1∧q4b (book.take p.1) p.2.2.2.1∧q41 e (book.take p.1) p.2.2.2.2.1∧e.shelf [] (book.take p.1)=true) (λ_ _=>0),
   annX 2000011 (Nat×q0b×q03×q0s×q05×Cod.Giv) (λst p=>st.hd { live:=[3,10,11,33,34],sav:=savK 0 (U.fr.drop 1),box:=[U.o+3,lisO U.o+10,U.o+31]++U.box } [(13,.c (.one (.ptr (U.o+13) 0))),(35,R.int .i64 p.1)] [(U.o+13,kGiv.cells p.2.2.2.2.2)] [] [(lisO U.o+7,qdp p.2.1),(U.o+28,q6p p.2.2.1),(U.o+32,qeb p.2.2.2.1)] (some (q4l p.2.2.2.2.1)))
    (λst p=>p.1=(st.intOf 35).toNat∧p.1<book.length∧p.2.2.2.2.2=book.getD p.1 ([],[],false,0,0)∧q1o e p.2.1∧q3w (book.take p.1) p.2.2.1∧q4b (book.take p.1) p.2.2.2.1∧q41 e (book.take p.1) p.2.2.2.2.1∧e.shelf [] (book.take (p.1+1))=true) (λ_ _=>0)]
def anIter (U:Up) (Ft Fp:Fr) (e:Cod.Ear):List (Nat×Ann) :=
  [annX 0 (Nat×q0b×q03×q05)
        (λst p=>bif st.off.beq Ft.it then st.hd (U.keep Ft [0,1,2,4,11,12] []) [(13,R.int .i64 p.1)] [] [] (q8x U st p.2.1) (some (q4l (Get.q60 st)))
           else st.hd (U.keep Fp [0,1,2,4,11,12] []) [(13,R.int .i64 p.1)] [] [] ((Fp.T+14,q6p p.2.2.1)::q8x U st p.2.1) (some (q4l p.2.2.2)))
        (λst p=>bif st.off.beq Ft.it then p.1≤(Get.gAt Ft st).2.1.length∧q1o e p.2.1∧(e.q1a (Get.gAt Ft st).2.1 p.1 0).all (q3q (Get.qhx U st) (Get.q60 st) (Get.gAt Ft st))=true
           else p.1≤(Get.gAt Fp st).2.1.length∧q1o e p.2.1∧q27 (Get.seenAt Fp st) (Get.q60 st) (Get.gAt Fp st) (e.q1a (Get.gAt Fp st).2.1 p.1 0) p.2.2.1 p.2.2.2)
        (λst p=>bif st.off.beq Ft.it then (Get.gAt Ft st).2.1.length-p.1 else (Get.gAt Fp st).2.1.length-p.1),
   annX 2 (Nat×q03×q05)
        (λst p=>bif st.off.beq Ft.it then st.hd (U.keep Ft [0,1,2,4,5,6,11,12,13,20,21] []) [(22,R.int .i64 p.1)] [] [] (q8x U st (Get.nearAt U st)) (some (q4l (Get.q60 st)))
           else st.hd (U.keep Fp [0,1,2,4,5,6,11,12,13,20,21] []) [(22,R.int .i64 p.1)] [] [] ((Fp.T+14,q6p p.2.1)::q8x U st (Get.nearAt U st)) (some (q4l p.2.2)))
        (λst p=>bif st.off.beq Ft.it then p.1≤(e.near (st.intOf 6)).length∧(q3n e (Get.gAt Ft st).2.1 (st.intOf 5).toNat p.1).all (q3q (Get.qhx U st) (Get.q60 st) (Get.gAt Ft st))=true
           else p.1≤(e.near (st.intOf 6)).length∧q27 (Get.seenAt Fp st) (Get.q60 st) (Get.gAt Fp st) (q3n e (Get.gAt Fp st).2.1 (st.intOf 5).toNat p.1) p.2.1 p.2.2)
        (λst p=>(e.near (st.intOf 6)).length-p.1),
   annX 2000010 (q03×q05)
        (λst p=>bif st.off.beq Ft.it then st.hd (U.keep Ft [0,1,2,4,5,6,11,12,13] []) [] [] [] (q8x U st (Get.nearAt U st)) (some (q4l (Get.q60 st)))
           else st.hd (U.keep Fp [0,1,2,4,5,6,11,12,13] []) [] [] [] ((Fp.T+14,q6p p.1)::q8x U st (Get.nearAt U st)) (some (q4l p.2)))
        (λst p=>bif st.off.beq Ft.it then q3q (Get.qhx U st) (Get.q60 st) (Get.gAt Ft st) ((Get.gAt Ft st).2.1.eraseIdx (st.intOf 5).toNat)=true
           else q27 (Get.seenAt Fp st) (Get.q60 st) (Get.gAt Fp st) [(Get.gAt Fp st).2.1.eraseIdx (st.intOf 5).toNat] p.1 p.2)
        (λ_ _=>0)]
def anHeard (U:Up) (Ft Fp:Fr) (e:Cod.Ear):List (Nat×Ann) :=
  [annX 2000005 (q0b)
        (λst p=>bif st.off.beq ((Ft.it+21)*1000) then st.hd (U.keep Ft [] [(77,live117)]) [(5,.c (.one (.val (.sl (.one (.int .i64))) (e.near (st.intOf 1)))))] [] [] (q8x U st p) (some (q4l (Get.q60 st)))
           else st.hd (U.keep Fp [] [(77,live117)]) [(5,.c (.one (.val (.sl (.one (.int .i64))) (e.near (st.intOf 1)))))] [] [] ((Fp.T+14,q6p (Get.seenAt Fp st))::q8x U st p) (some (q4l (Get.q60 st))))
        (λ_ p=>q1o e p)
        (λ_ _=>0)]
def anFind (U:Up) (Ft:Fr):List (Nat×Ann) :=
 [annX 0 (Nat)
    (λst p=>st.hd (U.keep Ft [0,1,7] [(9,[]),(Ft.n,[2,3,4,43]),(77,live117)]) [(8,R.int .i64 p)] [] [] (q8x U st (Get.nearAt U st)) (some (q4l (Get.q60 st))))
    (λst p=>p≤(Get.entOf kGiv 0 st).length∧((Get.entOf kGiv 0 st).take p).any (λo=>Cod.q11 o (Get.cloOf kGiv 1 st))=false)
    (λst p=>(Get.entOf kGiv 0 st).length-p)]
def anCo (U:Up) (Ft Fp:Fr) (e:Cod.Ear) (book:q0e):Nat→List (Nat×Ann):=λf =>
 bif Wi f 49 then anShelve U e book
 else bif Wi f 89 then anIter U Ft Fp e
 else bif Wi f 92 then anHeard U Ft Fp e
 else bif Wi f 84 then anFind U Ft
 else []
def frT (o:Nat):Fr:={ T:=(o+65)*1000,n:=53,live:=[4],d:=33 }
def frP (o:Nat):Fr:={ T:=(o+73)*1000,n:=42,live:=[],d:=21 }
def upP:Up:={ o:=14000,fr:=[(75,[3,10,11,13,33,34,35,61])],box:=[14003,14013],maps:=[] }
theorem q5s {α β:Type} {eq:α→α→Bool} (he:∀ a b,eq a b=true↔a=b) (a n:α) (v:β):∀ xs:List (α×β),(n=a→Mp.get eq n (Mp.put eq a v xs)=some v)∧(n≠a→Mp.get eq n (Mp.put eq a v xs)=Mp.get eq n xs)
 | []=>by
  show (n=a→(if eq n a=true then some v else none)=some v)∧(n≠a→(if eq n a=true then some v else none)=none)
  exact ⟨λh=>if_pos ((he _ _).2 h),λh=>if_neg λe=>h ((he _ _).1 e)⟩
 | x::r=>by
  have ih:=q5s he a n v r;show (n=a→Mp.get eq n (if eq a x.1=true then (a,v)::r else x::Mp.put eq a v r)=some v)∧(n≠a→Mp.get eq n (if eq a x.1=true then (a,v)::r else x::Mp.put eq a v r)=(if eq n x.1=true then some x.2 else Mp.get eq n r))
  by_cases hx:a=x.1
  ·rw [if_pos ((he _ _).2 hx)]
   show (n=a→(if eq n a=true then some v else Mp.get eq n r)=some v)∧(n≠a→(if eq n a=true then some v else Mp.get eq n r)=_)
   refine ⟨λh=>if_pos ((he _ _).2 h),λh=>?_⟩
   rw [if_neg (λe=>h ((he _ _).1 e)),if_neg (λe=>h (((he _ _).1 e).trans hx.symm))]
  ·rw [if_neg (λe=>hx ((he _ _).1 e))]
   show (n=a→(if eq n x.1=true then some x.2 else Mp.get eq n (Mp.put eq a v r))=some v)∧(n≠a→(if eq n x.1=true then some x.2 else Mp.get eq n (Mp.put eq a v r))=_)
   refine ⟨λh=>?_,λh=>?_⟩
   ·rw [if_neg (λe=>hx (h.symm.trans ((he _ _).1 e))),ih.1 h]
   ·rw [ih.2 h]
theorem eqK_iff (a b:Cod.Key):CK.eqB q71 a b=true↔a=b:=by
 obtain ⟨a0,a1,a2,a3,a4,a5⟩:=a;obtain ⟨b0,b1,b2,b3,b4,b5⟩:=b;show ((a0==b0)&&((a1==b1)&&((a2==b2)&&((a3==b3)&&((a4==b4)&&(a5==b5))))))=true↔_;simp only [Q7,beq_iff_eq,Prod.mk.injEq]
theorem eqI_iff (a b:Int):CK.eqB (.one (.int .i64)) a b=true↔a=b:=by
 show (a==b)=true↔_;exact beq_iff_eq
theorem eqS_iff (a b:List UInt8):CK.eqB (.one .str) a b=true↔a=b:=by
 show (a==b)=true↔_;exact beq_iff_eq
theorem q6i {β:Type} (k q:Cod.Key) (v:β) (m:List (Cod.Key×β)):getK k (Mp.put (CK.eqB q71) q v m)=if k=q then some v else getK k m:=by
 unfold getK;by_cases h:k=q
 ·rw [if_pos h];exact (q5s eqK_iff q k v m).1 h
 ·rw [if_neg h];exact (q5s eqK_iff q k v m).2 h
theorem getI_put (k q:Int) (v:List Int) (m:q0b):getI k (Mp.put (CK.eqB (.one (.int .i64))) q v m)=if k=q then some v else getI k m:=by
 unfold getI;by_cases h:k=q
 ·rw [if_pos h];exact (q5s eqI_iff q k v m).1 h
 ·rw [if_neg h];exact (q5s eqI_iff q k v m).2 h
theorem getS_put (k q:List UInt8) (v:Bool) (m:q0s):getS k (Mp.put (CK.eqB (.one .str)) q v m)=if k=q then some v else getS k m:=by
 unfold getS;by_cases h:k=q
 ·rw [if_pos h];exact (q5s eqS_iff q k v m).1 h
 ·rw [if_neg h];exact (q5s eqS_iff q k v m).2 h
abbrev putK {β:Type} (k:Cod.Key) (v:β) (m:List (Cod.Key×β)):List (Cod.Key×β):=Mp.put (CK.eqB q71) k v m
theorem nearOk_nil (e:Cod.Ear):q1o e []:=λi l h=>by cases h
theorem nearOk_put {e:Cod.Ear} {m:q0b} (h:q1o e m) (i:Int):q1o e (Mp.put (CK.eqB (.one (.int .i64))) i (e.near i) m):=λk l hk=>by
 rw [getI_put] at hk;by_cases hki:k=i
 ·rw [if_pos hki] at hk;injection hk with hk;rw [← hk,hki]
 ·rw [if_neg hki] at hk;exact h k l hk
theorem doors_nil:q4b [] []:=λs=>rfl
theorem doors_put {done:q0e} {m:q0s} (h:q4b done m) (g:Cod.Giv):q4b (done++[g]) (Mp.put (CK.eqB (.one .str)) g.1 true m):=λs=>by
 rw [getS_put,QC,← h s];by_cases hs:s=g.1
 ·rw [if_pos hs,hs]
  show true=(_||((g.1==g.1)||false));rw [beq_self_eq_true];simp
 ·rw [if_neg hs]
  show _=(_||((g.1==s)||false));rw [beq_eq_false_iff_ne.2 (λe=>hs e.symm)];simp
theorem codes_nil:q3w [] []:=λk=>rfl
theorem codes_put {done:q0e} {m:q03} (h:q3w done m) (g:Cod.Giv):q3w (done++[g]) (Mp.put (CK.eqB q71) (Cod.key g.2.1) true m):=λk=>by
 rw [q6i,QC,← h k];by_cases hk:k=Cod.key g.2.1
 ·rw [if_pos hk,hk]
  show true=(_||((Cod.key g.2.1==Cod.key g.2.1)||false));rw [beq_self_eq_true];simp
 ·rw [if_neg hk]
  show _=(_||((Cod.key g.2.1==k)||false));rw [beq_eq_false_iff_ne.2 (λe=>hk e.symm)];simp
theorem hits_nil (k:Cod.Key):hits [] k=false:=rfl
theorem qiw (xs ys:List (List Int)) (k:Cod.Key):hits (xs++ys) k=(hits xs k||hits ys k):=by unfold hits;rw [QC]
theorem qfo (x:List Int) (k:Cod.Key):hits [x] k=(Cod.key x==k):=by unfold hits;rw [List.any_cons,List.any_nil,Qk]
theorem hits_mem {xs:List (List Int)} {y:List Int} (hx:∀ x∈xs,x.length≤5) (hy:y.length≤5):hits xs (Cod.key y)=true↔y∈xs:=by
 unfold hits;rw [Ql];constructor
 ·rintro ⟨x,h1,h2⟩
  rw [beq_iff_eq] at h2
  rwa [← Cod.key_inj (hx x h1) hy h2]
 ·intro h
  exact ⟨y,h,beq_self_eq_true _⟩
theorem mist_nil (e:Cod.Ear):q41 e [] []:=λk=>rfl
theorem qkw (s:q03) (m:q05) (g:Cod.Giv):q27 s m g [] s m:=by
 refine ⟨λk=>by rw [hits_nil,Qk],λk=>?_⟩
 rw [hits_nil,QF,if_neg (by decide),Qn]
theorem q39 {s0 s1 s2:q03} {m0 m1 m2:q05} {g:Cod.Giv} {xs ys:List (List Int)} (h1:q27 s0 m0 g xs s1 m1) (h2:q27 s1 m1 g ys s2 m2):q27 s0 m0 g (xs++ys) s2 m2:=by
 refine ⟨λk=>?_,λk=>?_⟩
 ·rw [h2.1 k,h1.1 k,qiw,Bool.or_assoc]
 ·rw [h2.2 k,h1.2 k,h1.1 k,qiw,Qi]
  cases (getK k s0).getD false <;> cases hits xs k <;> cases hits ys k <;> rfl
theorem qd1 {s:q03} {m:q05} {g:Cod.Giv} {x:List Int} (h:(getK (Cod.key x) s).getD false=true):q27 s m g [x] s m:=by
 refine ⟨λk=>?_,λk=>?_⟩
 ·rw [qfo]
  by_cases hk:Cod.key x=k
  ·rw [← hk,h];rfl
  ·rw [beq_eq_false_iff_ne.2 hk,Qk]
 ·rw [qfo]
  by_cases hk:Cod.key x=k
  ·rw [← hk,h,Bool.not_true,Wj,if_neg (by decide),Qn]
  ·rw [beq_eq_false_iff_ne.2 hk,QF,if_neg (by decide),Qn]
theorem relPut_new {s:q03} {m:q05} {g:Cod.Giv} {x:List Int} (h:(getK (Cod.key x) s).getD false=false):q27 s m g [x] (Mp.put (CK.eqB q71) (Cod.key x) true s) (Mp.put (CK.eqB q71) (Cod.key x) ((getK (Cod.key x) m).getD []++[g]) m):=by
 refine ⟨λk=>?_,λk=>?_⟩
 ·rw [qfo,q6i]
  by_cases hk:Cod.key x=k
  ·rw [if_pos hk.symm,← hk,h,beq_self_eq_true];rfl
  ·rw [if_neg (λe=>hk e.symm),beq_eq_false_iff_ne.2 hk,Qk]
 ·rw [qfo,q6i]
  by_cases hk:Cod.key x=k
  ·rw [if_pos hk.symm,← hk,h,beq_self_eq_true,if_pos (by decide)];rfl
  ·rw [if_neg (λe=>hk e.symm),beq_eq_false_iff_ne.2 hk,QF,if_neg (by decide),Qn]
theorem mist_put {e:Cod.Ear} {done:q0e} {m m':q05} {g:Cod.Giv} {s:q03} (h:q41 e done m) (hp:q27 [] m g (e.miss g.2.1) s m'):q41 e (done++[g]) m':=λk=>by
 rw [hp.2 k,h k,QP]
 congr 1
 show (if (hits (e.miss g.2.1) k&&!(none:Option Bool).getD false)=true then [g] else [])=_
 rw [show (!(none:Option Bool).getD false)=true from rfl,QK];cases hh:hits (e.miss g.2.1) k
 ·rw [if_neg (by decide),Qy (p:=λo:Cod.Giv=>hits (e.miss o.2.1) k) (by show ¬ (hits (e.miss g.2.1) k=true);rw [hh];decide),Qo]
 ·rw [if_pos rfl,Qz (p:=λo:Cod.Giv=>hits (e.miss o.2.1) k) hh,Qo]
theorem takes_eq {e:Cod.Ear} {done:q0e} {codes:q03} {mist:q05} {g:Cod.Giv} (hc:q3w done codes) (hm:q41 e done mist) (hd:∀ o∈done,o.2.1.length≤5) (hg:g.2.1.length≤5):e.takes done g=qbq e codes mist g:=by
 have hml:∀ (o:Cod.Giv),o.2.1.length≤5→∀ x∈e.miss o.2.1,x.length≤5:=λo ho x hx=>by
  have:=Cod.miss_len hx
  omega
 have hcode:∀ y:List Int,y.length≤5→((getK (Cod.key y) codes).getD false=true↔∃ o∈done,o.2.1=y):=λy hy=>by
  rw [hc,Ql];constructor
  ·rintro ⟨o,ho,h⟩
   exact ⟨o,ho,Cod.key_inj (hd o ho) hy (beq_iff_eq.1 h)⟩
  ·rintro ⟨o,ho,h⟩
   exact ⟨o,ho,by rw [h];exact beq_self_eq_true _⟩
 have hmist:∀ y:List Int,y.length≤5→∀ o,(o∈(getK (Cod.key y) mist).getD []↔o∈done∧y∈e.miss o.2.1):=λy hy o=>by
  rw [hm,List.mem_filter];refine and_congr_right λho=>?_
  exact hits_mem (hml o (hd o ho)) hy
 rw [We];unfold Cod.Ear.takes qbq;rw [Qm,Q7,Q7,Qm,Qc];constructor
 ·intro h
  refine ⟨?_,?_,λx hx=>?_⟩
  ·rw [← Qd,hcode _ hg]
   rintro ⟨o,ho,he⟩;exact (Cod.q6n.1 (h o ho)).1 he
  ·rw [beq_iff_eq,QA,List.eq_nil_iff_forall_not_mem]
   intro o ho;obtain ⟨ho,hx⟩:=(hmist _ hg o).1 ho;exact (Cod.q6n.1 (h o ho)).2.1 hx
  ·have hxl:=hml g hg x hx
   unfold q3q;rw [Q7,Qc,Qc,← Qd,← Qd,hcode _ hxl,Ql];refine ⟨?_,?_⟩
   ·rintro ⟨o,ho,he⟩
    exact ((Cod.q6n.1 (h o ho)).2.2 x hx).1 he
   ·rintro ⟨o,ho,hn⟩
    obtain ⟨ho,hx'⟩:=(hmist _ hxl o).1 ho;exact ((Cod.q6n.1 (h o ho)).2.2 x hx).2 ⟨hx',hn⟩
 ·rintro ⟨h1,h2,h3⟩ o ho
  rw [Cod.q6n];refine ⟨λhe=>?_,λhx=>?_,λx hx=>?_⟩
  ·have:=(hcode _ hg).2 ⟨o,ho,he⟩
   rw [this] at h1;cases h1
  ·rw [beq_iff_eq,QA] at h2
   have:=(hmist _ hg o).2 ⟨ho,hx⟩
   rw [h2] at this;cases this
  ·have hxl:=hml g hg x hx
   have:=h3 x hx
   unfold q3q at this;rw [Q7,Qc,Qc,← Qd,← Qd,hcode _ hxl,Ql] at this;refine ⟨λhe=>this.1 ⟨o,ho,he⟩,λhh=>this.2 ⟨o,(hmist _ hxl o).2 ⟨ho,hh.1⟩,hh.2⟩⟩
theorem qej {e:Cod.Ear} {book:q0e} {i:Nat} (hi:i<book.length):e.shelf [] (book.take (i+1))=(e.shelf [] (book.take i)&&e.fits (book.take i) (book.getD i ([],[],false,0,0))):=by
 rw [Snd.q0q book ([],[],false,0,0) i hi,Cod.shelf_snoc,Qg]
theorem shelf_take {e:Cod.Ear} {book:q0e} (h:e.shelf [] book=true) (i:Nat):e.shelf [] (book.take i)=true:=by
 rw [Cod.qcq] at h ⊢;obtain ⟨h1,h2,h3⟩:=h;exact ⟨λg hg=>h1 g (List.mem_of_mem_take hg),h2.sublist (List.take_sublist _ _),λo ho=>by cases ho⟩
theorem shelf_no {e:Cod.Ear} {book:q0e} {i:Nat} (hi:i<book.length) (h:e.fits (book.take i) (book.getD i ([],[],false,0,0))=false):e.shelf [] book=false:=by
 cases hs:e.shelf [] book
 ·rfl
 ·have:=shelf_take hs (i+1)
  rw [qej hi,h,Wj] at this;cases this
theorem shelf_len {e:Cod.Ear} {book:q0e} (h:e.shelf [] book=true):∀ o∈book,o.2.1.length≤5:=λo ho=>by
 have:=(Cod.qcq.1 h).1 o ho
 unfold Cod.okG Cod.q1l at this;simp only [Q7,decide_eq_true_eq] at this;have:=this.2.2.2.2.1;omega
theorem not_t {b:Bool} (h:(!b)=true):b=false:=by
 cases b
 ·rfl
 ·cases h
theorem qbc {b:Bool} (h:(!b)=false):b=true:=by
 cases b
 ·cases h
 ·rfl
theorem find_part {L:List Cod.Giv} {g:Cod.Giv} {F N:Prop} (hL:L.length≤1000000) (hF:L.any (λo=>Cod.q11 o g)=true→F) (hN:L.any (λo=>Cod.q11 o g)=false→N) :
  (∃ p':Nat,(p'≤L.length∧(L.take p').any (λo=>Cod.q11 o g)=false)∧(0:Int)=(p':Int))∧∀ p:Nat,p≤L.length∧(L.take p).any (λo=>Cod.q11 o g)=false →
   bif decide ((p:Int)<(L.length:Int)) then ((0:Int)≤(p:Int)∧(p:Int)<(L.length:Int))∧bif Cod.q11 (L.getD p Cod.noG) g then F
    else ((-9223372036854775808:Int)≤(p:Int)+1∧(p:Int)+1≤(9223372036854775807:Int))∧∃ p':Nat,(p'≤L.length∧(L.take p').any (λo=>Cod.q11 o g)=false)∧L.length-p'<L.length-p∧(p:Int)+1=(p':Int)
   else N:=by
 refine ⟨⟨0,⟨Qq _,rfl⟩,rfl⟩,λp hp=>bifP (λh=>?_) λh=>hN ?_⟩
 ·have h:=of_decide_eq_true h
  refine ⟨⟨by omega,by omega⟩,bifP (λhn=>hF (Snd.any_yes L Cod.noG _ p (by omega) hn)) λhn=>⟨⟨by omega,by omega⟩,p+1,⟨by omega,?_⟩,by omega,by omega⟩⟩
  rw [Snd.qen L Cod.noG _ p (by omega),hp.2,hn];rfl
 ·have h:=of_decide_eq_false h
  rw [← hp.2,Qj (by omega)]
theorem qju {cm:q03} {mm:q05} {g:Cod.Giv} {x:List Int} {F N:Prop} (hL:((getK (Cod.key x) mm).getD []).length≤1000000) (hF:q3q cm mm g x=false→F) (hN:q3q cm mm g x=true→N) :
  bif (getK (Cod.key x) cm).getD false then F else (∃ p':Nat,(p'≤((getK (Cod.key x) mm).getD []).length∧((((getK (Cod.key x) mm).getD []).take p').any λo=>Cod.q11 o g)=false)∧(0:Int)=(p':Int))∧∀ p:Nat,p≤((getK (Cod.key x) mm).getD []).length∧((((getK (Cod.key x) mm).getD []).take p).any λo=>Cod.q11 o g)=false →
   bif decide ((p:Int)<((((getK (Cod.key x) mm).getD []).length:Nat):Int)) then ((0:Int)≤(p:Int)∧(p:Int)<((((getK (Cod.key x) mm).getD []).length:Nat):Int))∧bif Cod.q11 (((getK (Cod.key x) mm).getD []).getD p Cod.noG) g then F
    else ((-9223372036854775808:Int)≤(p:Int)+1∧(p:Int)+1≤(9223372036854775807:Int))∧∃ p':Nat,(p'≤((getK (Cod.key x) mm).getD []).length∧((((getK (Cod.key x) mm).getD []).take p').any λo=>Cod.q11 o g)=false)∧((getK (Cod.key x) mm).getD []).length-p'<((getK (Cod.key x) mm).getD []).length-p∧(p:Int)+1=(p':Int)
   else N:=by
 refine bifP (λh=>hF ?_) λh=>find_part hL (λh'=>hF ?_) λh'=>hN ?_
 ·unfold q3q;rw [h];rfl
 ·unfold q3q;rw [h,h'];rfl
 ·unfold q3q;rw [h,h'];rfl
theorem qaa {e:Cod.Ear} {code:List Int} {i k:Nat} (hk:k<(e.near (code.getD i 0)).length):q3n e code i (k+1)=q3n e code i k++(if ((e.near (code.getD i 0)).getD k 0 != code.getD i 0)=true then [code.set i ((e.near (code.getD i 0)).getD k 0)] else []):=by
 unfold q3n;rw [Snd.q0q _ 0 k hk,QP,List.map_append]
 congr 1
 show List.map _ (List.filter _ [(e.near (code.getD i 0)).getD k 0])=_;generalize (e.near (code.getD i 0)).getD k 0=v;generalize code.getD i 0=u;by_cases h:v=u
 ·rw [Qy (by rw [h];simp),Qo,if_neg (by rw [h];simp)];rfl
 ·rw [Qz (by simp [h]),Qo,if_pos (by simp [h])];rfl
theorem qhe {e:Cod.Ear} {code:List Int} {i k:Nat} (hk:(e.near (code.getD i 0)).length≤k):e.q40 code i=q3n e code i k++(code.eraseIdx i::(if i=0∨code.getD (i-1) 0=code.getD i 0 then [] else [Cod.swapAt code i])):=by
 unfold q3n Cod.Ear.q40;rw [Qj hk]
theorem qg6 (e:Cod.Ear) (code:List Int):∀ (f i:Nat),e.q1a code (f+1) i=e.q1a code f i++e.q40 code (i+f)
 | 0,i=>by rw [Cod.Ear.q1a,Cod.Ear.q1a,Cod.Ear.q1a];simp
 | f+1,i=>by
  rw [Cod.Ear.q1a,qg6 e code f (i+1),Cod.Ear.q1a,Qi,show i+1+f=i+(f+1) by omega]
theorem qar (e:Cod.Ear) (code:List Int) (i:Nat):e.q1a code (i+1) 0=e.q1a code i 0++e.q40 code i:=by
 rw [qg6,QQ]
theorem near_all {e:Cod.Ear} {code:List Int} {i k:Nat} (hk:k<(e.near (code.getD i 0)).length) (hi:i<code.length) (hne:((e.near (code.getD i 0)).getD k 0 != code.getD i 0)=true):code.set i ((e.near (code.getD i 0)).getD k 0)∈e.miss code :=
 (Cod.qcf e code _).2 ⟨i,hi,(Cod.q38 e code _ i).2 (.inl ⟨_,Snd.q1p _ 0 k hk,by simpa using hne,rfl⟩)⟩
theorem erase_mem {e:Cod.Ear} {code:List Int} {i:Nat} (hi:i<code.length):code.eraseIdx i∈e.miss code :=
 (Cod.qcf e code _).2 ⟨i,hi,(Cod.q38 e code _ i).2 (.inr (.inl rfl))⟩
theorem swap_mem {e:Cod.Ear} {code:List Int} {i:Nat} (hi:i<code.length) (h0:i≠0) (hne:code.getD (i-1) 0≠code.getD i 0):Cod.swapAt code i∈e.miss code :=
 (Cod.qcf e code _).2 ⟨i,hi,(Cod.q38 e code _ i).2 (.inr (.inr ⟨λh=>h.elim h0 hne,rfl⟩))⟩
theorem qbk {lang:List UInt8} {ws:List (List UInt8)} {code:List Int} (h:Cod.q1l lang ws code=true):(3≤code.length∧code.length≤5)∧∀ i,i<code.length→0≤code.getD i 0∧code.getD i 0<(ws.length:Int):=by
 unfold Cod.q1l Cod.inB at h;simp only [Q7,decide_eq_true_eq,Qm] at h;exact ⟨⟨by omega,by omega⟩,λi hi=>h.2.2.2 _ (Snd.q1p code 0 i hi)⟩
theorem mist_le {e:Cod.Ear} {done:q0e} {mm:q05} (hm:q41 e done mm) (k:Cod.Key):((getK k mm).getD []).length≤done.length:=by
 rw [hm k];exact QG ..
theorem qkb {e:Cod.Ear} {nr:q0b} (hn:q1o e nr) (hW:q0w (e.lang,e.ws)) (hC:q0n e.c) {w:Int} (h0:0≤w) (h1:w<(e.ws.length:Int)) :
  bif !(Mp.get (λx x_1:Int=>x==x_1) w nr).isSome then ((0:Int)≤w∧w<(e.ws.length:Int))∧(q0w (e.lang,e.ws)∧q0n e.c∧(e.ws.getD w.toNat []).length≤1000000) ∧
   ∃ p':q0b,q1o e p'∧(Snd.q19 e.lang e.ws e.c (e.ws.getD w.toNat [])).1=e.near w∧Mp.put (λx x_1:Int=>x==x_1) w (Snd.q19 e.lang e.ws e.c (e.ws.getD w.toNat [])).1 nr=p'
  else ∃ p':q0b,q1o e p'∧(Mp.get (λx x_1:Int=>x==x_1) w nr).getD []=e.near w∧nr=p':=by
 refine bifP (λ_=>⟨⟨h0,h1⟩,⟨hW,hC,?_⟩,_,nearOk_put hn w,rfl,rfl⟩) λh=>⟨nr,hn,?_,rfl⟩
 ·exact hW.2.2 _ (Snd.q1p e.ws [] w.toNat (by omega))
 ·have h:=qbc h
  cases hg:Mp.get (λx x_1:Int=>x==x_1) w nr with
  | none=>rw [hg] at h;cases h
  | some l=>exact hn w l hg
theorem qef (e:Cod.Ear) (w:Int):(e.near w).length≤e.ws.length:=by
 unfold Cod.Ear.near Snd.q19;split
 ·show (Snd.q34 _ _ _ _).length≤_
  unfold Snd.q34;rw [List.length_map];have:=QG (λi=>Snd.q1i e.c (e.ws.getD i []) (e.ws.getD w.toNat [])) (List.range e.ws.length)
  rwa [List.length_range] at this
 ·exact Qq _
theorem put_twice {m:q05} {q:Cod.Key} {u:List Cod.Giv} {g:Cod.Giv} (k:Cod.Key):(getK k (putK q ((getK q (putK q ((getK q m).getD []) m)).getD []++[g]) (putK q ((getK q m).getD []) m))).getD []=(getK k (putK q ((getK q m).getD []++[g]) m)).getD []:=by
 unfold putK;rw [q6i,q6i,q6i,q6i];by_cases h:k=q
 ·rw [if_pos h,if_pos h,if_pos rfl];rfl
 ·rw [if_neg h,if_neg h,if_neg h]
theorem qd8 {s:q03} {m:q05} {g:Cod.Giv} {x:List Int} (h:(getK (Cod.key x) s).getD false=false):q27 s m g [x] (putK (Cod.key x) true s) (putK (Cod.key x) ((getK (Cod.key x) (putK (Cod.key x) ((getK (Cod.key x) m).getD []) m)).getD []++[g]) (putK (Cod.key x) ((getK (Cod.key x) m).getD []) m)):=by
 have hn:=relPut_new (m:=m) (g:=g) h;exact ⟨hn.1,λk=>by rw [put_twice (u:=[])];exact hn.2 k⟩
theorem put_room {e:Cod.Ear} {done:q0e} {mm:q05} (hm:q41 e done mm) (hl:done.length≤20000) {g:Cod.Giv} {xs:List (List Int)} {s:q03} {m:q05} (h:q27 [] mm g xs s m) (k:Cod.Key):(((getK k (putK k ((getK k m).getD []) m)).getD []).length+[g].length)*64≤140737488355328:=by
 unfold putK;rw [q6i,if_pos rfl];show (((getK k m).getD []).length+1)*64≤_;rw [h.2 k,List.length_append];have:=mist_le hm k;split
 ·rw [List.length_singleton];omega
 ·rw [QD];omega
end Go.Proofs.YtlfaaoalgcbcoaaGreatDoor
namespace Go.Proofs.YtlfaaoalgcbcoaaGreatDoor
open Go.RowKit Go.Maps
namespace Snd
def norm (c:Conf):Conf:=if Q8 c.1 c.2||c.1==c.2 then c else flip c
theorem less_asymm {a b:Str} (h:Q8 a b=true):Q8 b a=false:=by
 cases h':Q8 b a
 ·rfl
 ·have:=q4p h h'
  rw [q78] at this;cases this
theorem q94 (c:Conf):norm c=c∨norm c=flip c:=by
 unfold norm;split
 ·exact .inl rfl
 ·exact .inr rfl
theorem norm_flip (c:Conf):norm (flip c)=norm c:=by
 unfold norm flip;simp only [];cases h1:Q8 c.1 c.2
 ·cases h2:Q8 c.2 c.1
  ·have:=qky h1 h2
   rw [this,beq_self_eq_true];simp;exact Prod.ext this.symm rfl
  ·by_cases h3:c.1=c.2
   ·rw [h3,q78] at h2;cases h2
   ·rw [beq_eq_false_iff_ne.2 h3]
    simp
 ·rw [less_asymm h1]
  by_cases h3:c.1=c.2
  ·rw [h3,q78] at h1;cases h1
  ·rw [beq_eq_false_iff_ne.2 (Ne.symm h3)]
   simp
theorem qgh (c d:Conf):same c d=(norm c==norm d):=by
 rw [We,same_iff,beq_iff_eq];constructor
 ·rintro (rfl | rfl)
  ·rfl
  ·exact norm_flip d
 ·intro h
  rcases q94 c with h1 | h1 <;> rcases q94 d with h2 | h2 <;> rw [h1,h2] at h
  ·exact .inl h
  ·exact .inr h
  ·right;rw [← h,qal]
  ·exact .inl (flip_inj h)
theorem okC_norm (c:Conf):okC (norm c)=okC c:=by
 rcases q94 c with h | h
 ·rw [h]
 ·rw [h,okC_flip]
end Snd
theorem cf_row:53<Tryz.prog.types.size:=of_decide_eq_true (by kernel_rfl)
theorem cf_laid:laidOutB Tryz.prog=true:=by kernel_rfl
theorem cf_law:Keyed Tryz.prog 53:=Keyed.of_law (deep_law_laid cf_laid (m:=2) (by omega) cf_row (by kernel_rfl) (by kernel_rfl))
theorem cf_cells:Tryz.prog.cellsOf 53=2:=by kernel_rfl
theorem cf_one:Tryz.prog.cellsOf 9=1:=by kernel_rfl
theorem cf_type:Tryz.prog.keyType 53=true:=by kernel_rfl
theorem cf_size:Tryz.prog.types.size+1=Tryz.prog.types.size-1+2:=by
 have:=cf_row
 omega
theorem keyLits_two {P : Program} {T : TypeId} {f0 f1 : Field} (hu : P.underlying T = some (.struct #[f0, f1])) (hc : P.cellsOf T = 2) (hn : (#[f0, f1] : Array Field).all (fun f => f.name != "_") = true) (o0 : f0.offset = 0) (o1 : f1.offset = 1)
  (u0:P.underlying f0.type=some .string) (u1:P.underlying f1.type=some .string) (c0:P.cellsOf f0.type=1) (c1:P.cellsOf f1.type=1) (m:Nat) (a b:ByteArray) (ha:a.size≤maxLen) (hb:b.size≤maxLen) :
  P.keyLits (m+2) T [.string a,.string b]=some [.string a.data.toList,.string b.data.toList]:=by
 have hl:([.string a,.string b]:List Value).length=P.cellsOf T:=by rw [hc];rfl
 unfold Wh;rw [hu];simp only [];rw [if_pos ⟨hl,hn⟩];simp only [List.mapM_cons,List.mapM_nil,o0,o1,c0,c1,QH,QL,QM,Wl];unfold Wh;rw [u0,u1];simp only [];rw [if_pos ha,if_pos hb];rfl
def cfv (p:Snd.Conf):Value:=.agg #[.string (bs p.1),.string (bs p.2)]
def cfl (p:Snd.Conf):Lit:=.string (keyBytes [.string p.1,.string p.2])
set_option maxRecDepth 100000 in
theorem key_cf (p:Snd.Conf) (h1:p.1.length≤maxLen) (h2:p.2.length≤maxLen):keyOf Tryz.prog 53 (cfv p)=some (cfl p):=by
 unfold keyOf cfv cfl;rw [Tryz.underlying53];simp only [];have hf:(Value.agg #[.string (bs p.1),.string (bs p.2)]).formed Tryz.prog 53=true:=by
  simp [Value.formed,Tryz.underlying53,cf_cells]
 have hk:=keyLits_two (P:=Tryz.prog) Tryz.underlying53 cf_cells (by kernel_rfl) rfl rfl Tryz.underlying9 Tryz.underlying9 cf_one cf_one (Tryz.prog.types.size-1) (bs p.1) (bs p.2) h1 h2
 rw [hf,cf_type,cf_size];show ((Tryz.prog.keyLits (Tryz.prog.types.size-1+2) 53 [.string (bs p.1),.string (bs p.2)]).map λls=>Lit.string (keyBytes ls))=_
 rw [hk];rfl
set_option maxRecDepth 100000 in
theorem cfl_inj {p q:Snd.Conf} (h1:p.1.length≤maxLen) (h2:p.2.length≤maxLen) (h3:q.1.length≤maxLen) (h4:q.2.length≤maxLen) (h:cfl p=cfl q):p=q:=by
 have k1:=key_cf p h1 h2;have k2:=key_cf q h3 h4;rw [h] at k1;have:=cf_law.inj k1 k2;unfold cfv at this;injection this with this;have a1:=congrArg (λa:Array Value=>a[0]?) this
 have a2:=congrArg (λa:Array Value=>a[1]?) this
 have a1:some (Qt (bs p.1))=some (Qt (bs q.1)):=a1;have a2:some (Qt (bs p.2))=some (Qt (bs q.2)):=a2;injection a1 with a1;injection a1 with a1;injection a2 with a2;injection a2 with a2;exact Prod.ext (qdz.1 a1) (qdz.1 a2)
def qb8 (c:CfP):Nat→DataW Unit
 | 0=>.map []
 | n+1=>(qb8 c n).put (cfl (Snd.norm (c.getD n ([],[])))) (.lit (.bool true))
theorem seenD_map (c:CfP):∀ n,IsMap (qb8 c n)
 | 0=>isMap_empty
 | n+1=>(seenD_map c n).put _ _
theorem norm_len {c:CfP} (h:q0n c):∀ k,k<c.length→(Snd.norm (c.getD k ([],[]))).1.length≤1000000∧(Snd.norm (c.getD k ([],[]))).2.length≤1000000:=λk hk=>by
 have:=h.2 _ (Snd.q1p c ([],[]) k hk)
 rcases Snd.q94 (c.getD k ([],[])) with e | e <;> rw [e]
 ·exact this
 ·exact ⟨this.2,this.1⟩
theorem at_seen {c:CfP} (h:q0n c) (p:Snd.Conf) (h1:p.1.length≤1000000) (h2:p.2.length≤1000000) (hp:Snd.norm p=p):∀ n,n≤c.length→(qb8 c n).atKey (cfl p) (.lit (.bool false))=.lit (.bool ((c.take n).any (Snd.same p))):=by
 intro n
 induction n with
 | zero=>intro _;rfl
 | succ n ih =>
  intro hn;obtain ⟨l1,l2⟩:=norm_len h n (by omega)
  rw [Snd.qen c ([],[]) _ n (by omega),qb8,Snd.qgh,hp]
  by_cases e:p=Snd.norm (c.getD n ([],[]))
  ·rw [← e,atKey_put_same (seenD_map c n) (show WideAt.IsKeyLit (cfl p) from trivial),beq_self_eq_true,Bool.or_true]
  ·rw [atKey_put_other (λhe=>e (cfl_inj (by unfold maxLen;omega) (by unfold maxLen;omega) (by unfold maxLen;omega) (by unfold maxLen;omega) he)),ih (by omega),beq_eq_false_iff_ne.2 e,Qk]
theorem norm_norm (c:Snd.Conf):Snd.norm (Snd.norm c)=Snd.norm c:=by
 rcases Snd.q94 c with e | e
 ·rw [e,e]
 ·rw [e,Snd.norm_flip,e]
end Go.Proofs.YtlfaaoalgcbcoaaGreatDoor
namespace Go.Proofs.YtlfaaoalgcbcoaaGreatDoor
open Go.RowKit Go.Maps
open R
attribute [local go_sem] q2b q1m q1w
def CfAt (w:World) (A:Option Addr) (l:CfP):Prop :=
 0<l.length→∃ g off,A=some ⟨g,off,none⟩∧g<w.heap.size∧∀ (j:Nat) x,l[j]? = some x→w.cell? ⟨g,off+j*2,none⟩=some (.string (bs x.1))∧w.cell? ⟨g,off+j*2+1,none⟩=some (.string (bs x.2))
theorem CfAt.bel {w w':World} {A:Option Addr} {l:CfP} (h:CfAt w A l) (hb:Below w.heap.size w w'):CfAt w' A l:=λhl=>by
 obtain ⟨g,off,h1,h2,h3⟩:=h hl;exact ⟨g,off,h1,QR h2 hb.size,λj u hu=>⟨(hb.cell (p:=⟨g,off+j*2,none⟩) h2).trans (h3 j u hu).1,(hb.cell (p:=⟨g,off+j*2+1,none⟩) h2).trans (h3 j u hu).2⟩⟩
theorem CfAt.at_ {w:World} {A:Option Addr} {l:CfP} (h:CfAt w A l) (j:Nat) (hj:j<l.length):∃ g off,A=some ⟨g,off,none⟩∧g<w.heap.size∧w.rangeAt g (off+j*2) [.string (bs (l.getD j ([],[])).1),.string (bs (l.getD j ([],[])).2)]:=by
 obtain ⟨g,off,h1,h2,h3⟩:=h (by omega)
 have he:l[j]? = some (l.getD j ([],[])):=by rw [Qf,Qh hj];rfl
 obtain ⟨a,b⟩:=h3 j _ he;refine ⟨g,off,h1,h2,λi v hv=>?_⟩
 match i,hv with
 | 0,hv=>injection hv with hv;subst hv;exact a
 | 1,hv=>injection hv with hv;subst hv;exact b
theorem cf_rep {S:Nat→Prop} {w:World} {v:Value} {l:CfP} (h:Kd.Rep w S (.sl kCf) l v):∃ A c,v=.slice A l.length c∧CfAt w A l:=by
 obtain ⟨A,c,rfl,hc,h⟩:=h;refine ⟨A,c,rfl,λhl=>?_⟩
 obtain ⟨g,off,rfl,hg,_,hi⟩:=h hl;refine ⟨g,off,rfl,hg,λj x hj=>?_⟩
 obtain ⟨⟨u,hu,hr⟩,⟨u',hu',hr'⟩⟩:=hi j x hj;obtain rfl:u=.string (bs x.1):=hr;obtain rfl:u'=.string (bs x.2):=hr';exact ⟨hu,hu'⟩
theorem rangeAt_bel {w w':World} {g o:Nat} {l:List Value} (h:w.rangeAt g o l) {B:Nat} (hb:Below B w w') (hg:g<B):w'.rangeAt g o l:=λi v hv=>(hb.cell (p:=⟨g,o+i,none⟩) hg).trans (h i v hv)
theorem cf_info:(Tryz.prog.info? 53).map (·.size)=some 2:=by kernel_rfl
theorem no_proper (c:CfP) (k:Nat) (hk:k<c.length) (h:Snd.okC (c.getD k ([],[]))=false):Snd.q0j c=false:=by
 unfold Snd.q0j;rw [Snd.q61 c ([],[]) _ k hk h];simp
theorem no_proper2 (c:CfP) (k:Nat) (hk:k<c.length) (h:(c.take k).any (Snd.same (c.getD k ([],[])))=true):Snd.q0j c=false:=by
 unfold Snd.q0j;rw [Snd.fresh_no c ([],[]) k hk h];simp
theorem qgk {H:Type} {P:Program} {k:TypeId} {R:Value→Option (DataW H×List MemPlace)} {w w':World} {b n:Nat} {D:DataW H} (h:w.ownsMap P k R b n D) (hb:Below w.heap.size w w'):w'.ownsMap P k R b n D:=by
 have hl:=h.lt;obtain ⟨es,cl,h1,h2⟩:=h;exact ⟨es,cl,(hb.block b hl).trans h1,h2⟩
theorem qgw {P:Program} {e:TypeId} (he:P.underlying e=some .bool) {v:Value} {r:Bool} {ps:List MemPlace} (h:plainElem (H:=Unit) P e v=some (.lit (.bool r),ps)):v=.bool r:=by
 unfold plainElem at h;rw [he] at h;cases v <;> simp at h
 rw [h.1]
theorem look_bool {P:Program} {k e t:TypeId} {w:World} {b n:Nat} {D:DataW Unit} (h:w.ownsMap P k (plainElem P e) b n D) (K:Keyed P k) (ht:P.underlying t=some (.map k e)) (he:P.underlying e=some .bool) (hz:(zeroValue e).run P w=.ok (.bool false) w) {key:Value} {kl:Lit} (hkey:keyOf P k key=some kl) {r:Bool} (hat:D.atKey kl (.lit (.bool false))=.lit (.bool r)) :
  (Instr.lookup t (.map (some b)) key false).run P w=.ok (.bool r) w:=by
 obtain ⟨v,ps,hrun,hv⟩:=h.lookup K ht hz (plainElem_bool he false) hkey;rw [hat] at hv;rw [hrun,qgw he hv]
theorem zero_bool (w:World):(zeroValue 4).run Tryz.prog w=.ok (.bool false) w:=by kernel_rfl
theorem okC_parts (p:Snd.Conf):Snd.okC p=(Snd.q0a p.1 1 3&&(Snd.q0a p.2 1 3&&!(p.1==p.2))):=rfl
set_option maxRecDepth 100000 in
set_option maxHeartbeats 4000000 in
theorem qfh (c:CfP) (A:Option Addr) (cap:Nat) (w:World) (hL:q0n c) (hA:CfAt w A c) :
  Calls Tryz.prog 86 #[.slice A c.length cap] w λe w'=>e=.returned (.bool (Snd.q0j c))∧Below w.heap.size w w':=by
 have hmm:=@run_makeMap Tryz.prog;have hn:c.length≤1000000:=hL.1;have HL:=Q0 hL;have HA:=Q0 hA;clear hL hA
 go_enter Tryz.func86,Tryz.ntmps86
 go_wp2
 go_loopw [9] (λv wr=>∃ k:Nat,v=.int .i64 k∧k≤c.length∧wr.ownsMap Tryz.prog 53 (plainElem Tryz.prog 4) w.heap.size k (qb8 c k)∧Below w.heap.size w wr∧(c.take k).all Snd.okC=true∧Snd.fresh (c.take k)=true) (λv _=>c.length-(intOf v).toNat)
 case atStart=>exact ⟨0,rfl,Qq _,World.ownsMap_made _ _ _ _,q0d (q06 w) _,rfl,rfl⟩
 case round =>
  obtain ⟨k,rfl,hk,hown,hbr,hok,hfr⟩:=hrel;have hszr:=hown.lt;have HOK:=Q0 hok;have HFR:=Q0 hfr;have HOWN:=Q0 hown;have HBR:=Q0 hbr;clear hok hfr hown hbr;by_cases hlt:k<c.length
  ·obtain ⟨g,off,rfl,hg,hrg⟩:=HA.out.at_ k hlt
   have hrg:=rangeAt_bel hrg HBR.out hg;have hnl:=norm_len HL.out k hlt;have hpl:=HL.out.2 _ (Snd.q1p c ([],[]) k hlt);have hno1:=no_proper c k hlt;have hno2:=no_proper2 c k hlt;have hfst:=Snd.qf5 c ([],[]) k hlt;have host:=Snd.q3k c ([],[]) Snd.okC k hlt;have hseen:qb8 c (k+1)=(qb8 c k).put (cfl (Snd.norm (c.getD k ([],[])))) (.lit (.bool true)):=rfl;generalize c.getD k ([],[])=p at *
   obtain ⟨x,y⟩:=p;have HRG:=Q0 hrg;have HNO1:=Q0 hno1;have HNO2:=Q0 hno2;have HFST:=Q0 hfst;have HOST:=Q0 host;have HSEEN:=Q0 hseen;have HNL:=Q0 hnl;clear hrg hno1 hno2 hfst host hseen hnl;obtain ⟨n1,n2,hnm,hln1,hln2⟩:∃ n1 n2:List UInt8,Snd.norm (x,y)=(n1,n2)∧n1.length≤1000000∧n2.length≤1000000:=⟨_,_,rfl,HNL.out.1,HNL.out.2⟩;have hok:Snd.okC (x,y)=(Snd.q0a n1 1 3&&(Snd.q0a n2 1 3&&!(n1==n2))):=by rw [← Snd.okC_norm,hnm,okC_parts]
   have hsm:(qb8 c k).atKey (cfl (n1,n2)) (.lit (.bool false))=.lit (.bool ((c.take k).any (Snd.same (x,y)))):=by
    have:=at_seen HL.out (n1,n2) hln1 hln2 (by rw [← hnm];exact norm_norm _) k hk
    rw [this]
    congr 2
    rw [show Snd.same (n1,n2)=Snd.same (x,y) from funext λd=>by rw [Snd.qgh,Snd.qgh,← hnm,norm_norm]]
   have hkey:=key_cf (n1,n2) (show n1.length≤maxLen by unfold maxLen;omega) (show n2.length≤maxLen by unfold maxLen;omega)
   have HOKC:=Q0 hok;have HSM:=Q0 hsm;have HKEY:=Q0 hkey;clear hok hsm hkey;have three:(Q8 (bs x).toList (bs y).toList=true∧n1=x∧n2=y)∨(Q8 (bs x).toList (bs y).toList=false∧((bs x).toList==(bs y).toList)=true∧n1=x∧n2=y)∨(Q8 (bs x).toList (bs y).toList=false∧((bs x).toList==(bs y).toList)=false∧n1=y∧n2=x):=by
    rw [Q9,Q9,q2p,q2p];unfold Snd.norm at hnm;cases h1:Q8 x y <;> cases h2:x==y <;> simp only [h1,h2] at hnm
    ·exact .inr (.inr ⟨rfl,rfl,(congrArg QY hnm).symm,(congrArg QZ hnm).symm⟩)
    ·exact .inr (.inl ⟨rfl,rfl,(congrArg QY hnm).symm,(congrArg QZ hnm).symm⟩)
    ·exact .inl ⟨rfl,(congrArg QY hnm).symm,(congrArg QZ hnm).symm⟩
    ·exact .inl ⟨rfl,(congrArg QY hnm).symm,(congrArg QZ hnm).symm⟩
   have HNM:=Q0 hnm;clear hnm hpl;have hbl0:=q0d HBR.out (.cells #[.string (bs n1),.string (bs n2)] 53);have hblk0:=Blk.new wr 53 #[.string (bs n1),.string (bs n2)];have hown0:=HOWN.out.alloc (.cells #[.string (bs n1),.string (bs n2)] 53);have HBL0:=Q0 hbl0;have HBLK0:=Q0 hblk0;have HOWN0:=Q0 hown0;clear hbl0 hblk0 hown0;rcases three with ⟨hc1,e1,e2⟩ | ⟨hc1,hc2,e1,e2⟩ | ⟨hc1,hc2,e1,e2⟩
   all_goals
    subst e1;subst e2
    go_wp2_with (first | (refine wpList_load_mid rfl 53 _ rfl g (off+k*2) rfl [.string (bs _),.string (bs _)] _ HRG.out Tryz.underlying53 rfl cf_info ?_))
    refine (q9y _ 1 3 _ (by assumption)).mono ?_
    rintro e w2 ⟨rfl,hb2⟩;have HB2:=Q0 hb2;have hblk2:=HBLK0.out.bel hb2;have c0:=hblk2.cell 0;have c1:=hblk2.cell 1;have HBLK2:=Q0 hblk2;clear hb2 hblk2;cases hl1:Snd.q0a n1 1 3
    ·have hf:=HNO1.out (by rw [HOKC.out,hl1];rfl)
     have HF:=Q0 hf;clear hf hl1
     go_wp2
     go_ret
     exact ⟨q3c HF.out.symm,q2m HBL0.out HB2.out⟩
    ·have HL1:=Q0 hl1
     clear hl1
     go_wp2_with fail
     refine (q9y _ 1 3 _ (by assumption)).mono ?_
     rintro e w3 ⟨rfl,hb3⟩;have hbl3:=q2m (q2m HBL0.out HB2.out) hb3;have hblk3:=HBLK2.out.bel hb3;have hown3:=qgk (qgk HOWN0.out HB2.out) hb3;have hr3:w3.rangeAt wr.heap.size 0 [.string (bs n1),.string (bs n2)]:=λi v hv=>by
      rw [QQ];exact (hblk3.cell i).trans (by rw [← hv];simp)
     have hld:(Instr.loadAt 53 (.pointer (some ⟨wr.heap.size,0,none⟩))).run Tryz.prog w3=.ok (.agg #[.string (bs n1),.string (bs n2)]) w3:=run_loadAt_mid w3 wr.heap.size 0 _ _ _ hr3 Tryz.underlying53 rfl cf_info;have hlk:=look_bool hown3 cf_law Tryz.underlying168 Tryz.underlying4 (zero_bool w3) HKEY.out HSM.out;unfold cfv at hlk;simp only [] at hlk;have HBL3:=Q0 hbl3;have HBLK3:=Q0 hblk3;have HOWN3:=Q0 hown3;have d0:=hblk3.cell 0;have d1:=hblk3.cell 1;clear hb3 hbl3 hblk3 hown3 hr3 c0 c1;cases hl2:Snd.q0a n2 1 3
     ·have hf:=HNO1.out (by rw [HOKC.out,HL1.out,hl2];rfl)
      have HF:=Q0 hf;clear hf hl2
      go_wp2
      go_ret
      exact ⟨q3c HF.out.symm,HBL3.out⟩
     ·have HL2:=Q0 hl2
      clear hl2;cases heq:((bs n1).toList==(bs n2).toList)
      ·try (exfalso;rw [hc2] at heq;exact Qe heq)
       all_goals
        have hne:(n1==n2)=false:=by rwa [Q9,Q9,q2p,q2p] at heq
        have hok1:=HOKC.out;rw [HL1.out,HL2.out,hne] at hok1;have HOK1:=Q0 hok1;clear hne hok1;cases hsn:(c.take k).any (Snd.same _)
        ·rw [hsn] at hlk
         have HSN:=Q0 hsn;clear hsn
         go_wp2_with (first | (at_mapUpdate;refine wpList_mapUpdate_own _ rfl _ _ _ 168 rfl 53 4 cf_law Tryz.underlying168 _ w.heap.size k _ rfl HOWN3.out (by unfold maxLen;omega) _ _ _ rfl rfl HKEY.out _ [] (plainElem_bool Tryz.underlying4 true) ?_;intro w4 hown4 hgrow4;have HOWN4:=Q0 hown4;have HG4:=Q0 hgrow4;clear hown4 hgrow4))
         have g1:w4.ownsMap Tryz.prog 53 (plainElem Tryz.prog 4) w.heap.size (k+1) (qb8 c (k+1)):=by
          have:=HOWN4.out
          rw [HSEEN.out,HNM.out];exact this
         have g2:Below w.heap.size w w4:=bel_grown HBL3.out HG4.out (λj hj=>by cases hj;exact QV _)
         have g3:(c.take (k+1)).all Snd.okC=true:=by rw [HOST.out,HOK.out,HOK1.out];rfl
         have g4:Snd.fresh (c.take (k+1))=true:=by rw [HFST.out,HFR.out,HSN.out];rfl
         go_roundw
         all_goals first | rfl | exact ⟨k+1,by go_num,hlt,g1,g2,g3,g4⟩ | (simp [intOf];omega)
        ·rw [hsn] at hlk
         have hf:=HNO2.out hsn;have HF:=Q0 hf;clear hf hsn
         go_wp2
         go_ret
         exact ⟨q3c HF.out.symm,HBL3.out⟩
      ·have he:(n1==n2)=true:=by rwa [Q9,Q9,q2p,q2p] at heq
       have hf:=HNO1.out (by rw [HOKC.out,HL1.out,HL2.out,he];rfl)
       have HF:=Q0 hf;clear hf he
       go_wp2
       go_ret
       exact ⟨q3c HF.out.symm,HBL3.out⟩
  ·obtain rfl:k=c.length:=by omega
   have hok:=HOK.out;have hfr:=HFR.out;rw [List.take_length] at hok hfr;have hv:Snd.q0j c=decide (c.length≤200):=by
    unfold Snd.q0j;rw [hok,hfr,QK,QK]
   have HV:=Q0 hv;clear hok hfr hv
   go_wp2
   go_ret
   refine ⟨q3c ?_,HBR.out⟩;rw [HV.out];exact decide_eq_decide.2 (by omega)
end Go.Proofs.YtlfaaoalgcbcoaaGreatDoor
namespace Go.Proofs.YtlfaaoalgcbcoaaGreatDoor
open Go.RowKit Go.Maps Go.Shelf
attribute [local go_sem] q2b q1m q1w QE
theorem alike_mk (c:CfP) (A:Option Addr) (cap:Nat) (s:List UInt8) (w:World) :
  Calls Tryz.prog 112 #[.slice A c.length cap,.string (bs s)] w λe w'=>e=.returned (.func (.func 134) #[] #[.pointer (some ⟨w.heap.size+1,0,none⟩),.pointer (some ⟨w.heap.size,0,none⟩)]) ∧
   w'=(w.alloc (.cells #[.slice A c.length cap] 25)).alloc (.cells #[.string (bs s)] 9):=by
 go_enter Tryz.func112,Tryz.ntmps112
 go_wp2
 go_ret
 exact ⟨rfl,rfl⟩
theorem grown_drewN (w:World) (n:Nat):w.grownBy (w.drewN n) none:=⟨rfl,rfl,rfl,QV _,λ_ _ _=>rfl⟩
def Mine:Obj→Bool
 | .cells _ t _=>t==9||(t==25||(t==53||t==181))
 | .stringIter ..=>true
 | _=>false
structure KpM (B0:Nat) (W W':World):Prop where
 old:∀ g,g<B0→W'.heap[g]? = W.heap[g]?
 size:W.heap.size≤W'.heap.size
 mine:∀ (g:Nat) o,W.heap[g]? = some o→Mine o=true→W'.heap[g]? = some o
theorem KpM.refl (B0:Nat) (W:World):KpM B0 W W:=⟨λ_ _=>rfl,QV _,λ_ _ h _=>h⟩
theorem KpM.trans {B0:Nat} {A B C:World} (h:KpM B0 A B) (k:KpM B0 B C):KpM B0 A C :=
 ⟨λg hg=>(k.old g hg).trans (h.old g hg),Qu h.size k.size,λg o ho hm=>k.mine g o (h.mine g o ho hm) hm⟩
structure SLay (W:World) (B0 bw bl:Nat) (A:Option Addr) (cap:Nat) (c:CfP) (s:List UInt8):Prop where
 word:Blk W bw 9 #[.string (bs s)]
 list:Blk W bl 25 #[.slice A c.length cap]
 cfs:0<c.length→∃ g off,A=some ⟨g,off,none⟩∧g<B0∧∀ (j:Nat) x,c[j]? = some x→W.cell? ⟨g,off+j*2,none⟩=some (.string (bs x.1))∧W.cell? ⟨g,off+j*2+1,none⟩=some (.string (bs x.2))
section
variable {W W':World} {B0 bw bl:Nat} {A:Option Addr} {cap:Nat} {c:CfP} {s:List UInt8}
theorem SLay.keep (h:SLay W B0 bw bl A cap c s) (k:KpM B0 W W'):SLay W' B0 bw bl A cap c s :=
 ⟨k.mine _ _ h.word rfl,k.mine _ _ h.list rfl,λhl=>by
  obtain ⟨g,off,h1,h2,h3⟩:=h.cfs hl;exact ⟨g,off,h1,h2,λj x hj=>⟨(Qa (a:=⟨g,off+j*2,none⟩) (k.old g h2)).trans (h3 j x hj).1,(Qa (a:=⟨g,off+j*2+1,none⟩) (k.old g h2)).trans (h3 j x hj).2⟩⟩⟩
theorem SLay.alloc (h:SLay W B0 bw bl A cap c s) (hB:B0≤W.heap.size) (o:Obj):SLay (W.alloc o) B0 bw bl A cap c s :=
 ⟨h.word.alloc o,h.list.alloc o,λhl=>by
  obtain ⟨g,off,h1,h2,h3⟩:=h.cfs hl;have e:(W.alloc o).heap[g]? = W.heap[g]? := W9 W o g (by omega)
  exact ⟨g,off,h1,h2,λj x hj=>⟨(Qa (a:=⟨g,off+j*2,none⟩) e).trans (h3 j x hj).1,(Qa (a:=⟨g,off+j*2+1,none⟩) e).trans (h3 j x hj).2⟩⟩⟩
theorem SLay.drewN (h:SLay W B0 bw bl A cap c s) (n:Nat):SLay (W.drewN n) B0 bw bl A cap c s:=⟨h.word,h.list,h.cfs⟩
theorem SLay.put (h:SLay W B0 bw bl A cap c s) {D:Nat} (hB:B0≤D) {o:Obj} (hD:W.heap[D]? = some o) (ho:o.isCells=false) (o':Obj):SLay (W.putObj D o') B0 bw bl A cap c s:=by
 have ne:∀ g t cs,Blk W g t cs→g≠D:=λg t cs hb e=>by
  subst e;unfold Blk at hb;rw [hb] at hD;injection hD with hD;subst hD;cases ho
 refine ⟨(Qb (ne _ _ _ h.word)).trans h.word,(Qb (ne _ _ _ h.list)).trans h.list,λhl=>?_⟩
 obtain ⟨g,off,h1,h2,h3⟩:=h.cfs hl;have e:(W.putObj D o').heap[g]? = W.heap[g]? := Qb (by omega)
 exact ⟨g,off,h1,h2,λj x hj=>⟨(Qa (a:=⟨g,off+j*2,none⟩) e).trans (h3 j x hj).1,(Qa (a:=⟨g,off+j*2+1,none⟩) e).trans (h3 j x hj).2⟩⟩
theorem SLay.at_ (h:SLay W B0 bw bl A cap c s) (j:Nat) (hj:j<c.length):∃ g off,A=some ⟨g,off,none⟩∧g<B0∧W.rangeAt g (off+j*2) [.string (bs (c.getD j ([],[])).1),.string (bs (c.getD j ([],[])).2)]:=by
 obtain ⟨g,off,h1,h2,h3⟩:=h.cfs (by omega)
 have he:c[j]? = some (c.getD j ([],[])):=by rw [Qf,Qh hj];rfl
 obtain ⟨a,b⟩:=h3 j _ he;refine ⟨g,off,h1,h2,λi v hv=>?_⟩
 match i,hv with
 | 0,hv=>injection hv with hv;subst hv;exact a
 | 1,hv=>injection hv with hv;subst hv;exact b
theorem SLay.cells (h:SLay W B0 bw bl A cap c s):W.cell? ⟨bw,0,none⟩=some (.string (bs s))∧W.cell? ⟨bl,0,none⟩=some (.slice A c.length cap):=⟨h.word.cell 0,h.list.cell 0⟩
theorem next_let {P:Program} (ty:TypeId) (D i:Nat) (hD:W.heap[D]? = some (.stringIter (bs s) i)) (hi:i<s.length) (hl:Snd.letB (s.getD i 0)=true) :
  (Qp (.pointer (some ⟨D,0,none⟩)) true ty).run P W=.ok (.tuple #[.bool true,.int .i64 i,.int .i32 (s.getD i 0).toNat]) (W.putObj D (.stringIter (bs s) (i+1))):=by
 have hi':i<(bs s).size:=hi;have hd:=((rune_is s i hi').2.1 hl).1;simp only [Qp,getObj,setObj,Sem.run_bind,Sem.run,Wm,hD,hi',if_true,hd];simp [goInt,World.putObj]
theorem next_end {P:Program} (ty:TypeId) (D i:Nat) (hD:W.heap[D]? = some (.stringIter (bs s) i)) (hi:¬ i<s.length) :
  (Qp (.pointer (some ⟨D,0,none⟩)) true ty).run P W=.ok (.tuple #[.bool false]) W:=by
 have hi':¬ i<(bs s).size:=hi;simp only [Qp,getObj,Sem.run_bind,Sem.run,Wm,hD,hi',if_false];rfl
theorem iterPos_of {D i:Nat} {s:ByteArray} (hD:W.heap[D]? = some (.stringIter s i)):W.iterPos D=i:=by unfold World.iterPos;rw [hD]
end
end Go.Proofs.YtlfaaoalgcbcoaaGreatDoor
namespace Go.Proofs.YtlfaaoalgcbcoaaGreatDoor
open Go.RowKit
section
variable {P:Program} {ops:Array Oper} {md:Region.Mode} {C:World→Prop} {m:Nat}
theorem qdh {i:Nat} {a:Act} {K:Act→Prop} {K':Act→World→Prop} {Q':Exit→Act→World→Prop} {w:World} (hC:C w) (h:∀ a w',C w'→K a→K' a w')
  (hh:qOp P ops C i K a):wpOpIn Q4 m P ops Q' i K' a w:=by
 unfold qOp at hh;unfold wpOpIn;split
 ·rename_i ho;simp only [ho] at hh;exact h _ _ hC hh
 ·rename_i o ho
  simp only [ho] at hh;split
  ·rename_i hw
   simp only [hw,if_true] at hh;obtain ⟨v,h1,h2⟩:=hh;have h3:=h1 w hC;unfold Oper.quietAt at h3;unfold Oper.wpIn;refine ⟨λ_ _=>trivial,?_⟩
   rw [show Q4.round=none from rfl,Oper.semAt_none];generalize (execOp a.eval o).run P w=r at *
   cases r with
   | ok x w' =>
    cases x <;> simp only [Wn] at h3 <;> simp only [QW]
    case value u =>
     obtain ⟨e1,e2⟩:=h3;rw [e1,e2];exact h _ _ hC h2
    case skip =>
     obtain ⟨e1,e2⟩:=h3;rw [e1,← e2];exact h _ _ hC h2
    case enter f args =>
     obtain ⟨e1,hc⟩:=h3;rw [e1];refine ⟨λhd=>(by cases hd),callsIn_wide.2 (hc.mono λe w'' ⟨he,hw''⟩=>by subst he;exact h _ _ hw'' h2)⟩
   | halt x w'=>simp only [Wn] at h3
  ·rename_i hw
   simp only [hw] at hh;exact ⟨λ_ _=>trivial,h _ _ hC hh⟩
theorem qay {n g:Nat} {L:Array Bool→Act→Prop} {Q':Exit→Act→World→Prop} (hL:∀ listed a w,C w→L listed a→wpAnyIn Q4 m P md ops Q' g listed a w) :
  ∀ (f:Nat) (listed:Array Bool) (a:Act) (w:World),C w→q66 P md ops C n L f listed a→wpAnyIn Q4 m P md ops Q' (f+g) listed a w
 | 0,listed,a,w,hw,h=>by rw [QQ];exact hL _ _ _ hw h
 | f+1,listed,a,w,hw,h=>by
  rw [show f+1+g=(f+g)+1 by omega]
  exact ⟨λh0=>absurd h0 h.1,λi hi=>qdh hw (λa' w' hw' h'=>qay hL f _ a' w' hw' h') (h.2 i hi).2⟩
theorem qb0 {Q:Act→Prop} {Q':Exit→Act→World→Prop} (hQ:∀ a w,C w→Q a→Q' .normal a w):∀ (fuel:Nat) (listed:Array Bool) (a:Act) (w:World),C w →
  wpAnyQ P md ops C Q fuel listed a→wpAnyIn Q4 m P md ops Q' fuel listed a w
 | 0,_,_,_,hw,h=>⟨h.1,hQ _ _ hw h.2⟩
 | fuel+1,_,_,_,hw,h=>⟨λh0=>hQ _ _ hw (h.1 h0),λi hi=>qdh hw (λa' w' hw'=>qb0 hQ fuel _ a' w' hw') (h.2 i hi)⟩
theorem uponIn_then {o:Oper} {a:Act} {next K:Act→World→Prop} {Q:Exit→Act→World→Prop} {r:Result Next} (h:o.uponIn Q4 m P a next (Exit.then K Q) r):o.uponIn Q4 m P a next Q r:=by
 cases r with
 | ok n w' =>
  cases n <;> simp only [QW] at h ⊢ <;> exact h
 | halt x w' =>
  cases x <;> simp only [QW] at h ⊢ <;> exact h
theorem qdl {id:Nat} {Q:Exit→Act→World→Prop} {a:Act} {w:World} {l:List Oper} (n:Nat) (hm:P.follows .mixedOrders=true) (hB:q5h .any l.toArray n=true) (hC:C { w with drawn:=w.drawn+1 })
  (h:wpQuiet P l.toArray C (λa'=>∀ w',C w'→wpListIn Q4 m P l.toArray (Exit.then (λa2 w2=>wpQuiet P l.toArray (λx=>x=w2) (λa3=>Q .normal a3 w2) (l.drop (n+1)) a2) Q) ((l.drop n).take 1) a' w') (l.take n) a) :
  (Code.region id l.toArray true).wpIn Q4 m P Q a w:=by
 simp only [q5h,Q7,decide_eq_true_eq] at hB;obtain ⟨⟨⟨⟨hsel,hn⟩,hs⟩,hc⟩,hlex⟩:=hB;have hn':n<l.length:=by simpa using hn
 have htl:(l.take n).length=n:=by simp;omega
 have inv0:HeadInv .any l.toArray n (Array.replicate l.toArray.size false) :=
  ⟨by simp,λj oj _ hl=>(by rw [getD_replicate_false] at hl;cases hl),λt _ ht=>getD_in (by simpa using ht) (getD_replicate_false _ _)⟩
 have H:=qa1 (md:=.any) hsel hs hc hn (l.take n) 0 _ a (λj hj=>by
  have hj':j<n:=by rw [htl] at hj;exact hj
  simp [hj']) (by simpa using htl) inv0 (by rw [htl];exact hlex) h
 refine wpIn_region_any hm ?_;have:=qay (m:=m) (Q':=Q) (g:=(l.toArray.size-(n+1))+1) (λlisted a' w' hw' hL=>by
  obtain ⟨⟨hr,hf⟩,hq⟩:=hL;have hq:=hq w' hw';refine ⟨λh0=>(by rw [hr] at h0;cases h0),λi hi=>?_⟩
  obtain rfl:i=n:=by rw [hr] at hi;simpa using hi
  have ho:l.toArray[i]? = some l[i]:=by simp [hn']
  have hone:(l.drop i).take 1=[l[i]]:=by rw [Qs hn'];rfl
  have fin:∀ a2 w2,wpQuiet P l.toArray (λx=>x=w2) (λa3=>Q .normal a3 w2) (l.drop (i+1)) a2→wpAnyIn Q4 m P .any l.toArray Q (l.toArray.size-(i+1)) (listed.setIfInBounds i true) a2 w2:=by
   intro a2 w2 hq2;have hd:(l.drop (i+1)).length=l.toArray.size-(i+1):=by simp
   have h4:=wpAnyQ_lex (C:=λx=>x=w2) (md:=.any) hsel (l.drop (i+1)) (i+1) (listed.setIfInBounds i true) a2 (λj=>by simp [List.getElem?_drop]) (by rw [hd];exact hf) hq2
   rw [hd] at h4;exact qb0 (C:=λx=>x=w2) (Q:=λa3=>Q .normal a3 w2) (λa3 w3 hw3 h5=>by rw [hw3];exact h5) _ _ _ _ rfl h4
  rw [hone] at hq;unfold wpListIn at hq;unfold wpOpIn;simp only [ho];split
  ·rename_i hw
   rw [if_pos hw] at hq;refine Oper.wpIn_mono (λa2 w2 h2=>fin a2 w2 h2) ⟨hq.1,uponIn_then hq.2⟩
  ·rename_i hw
   rw [if_neg hw] at hq;exact ⟨hq.1,fin _ _ hq.2⟩) _ _ _ _ hC H
 rw [htl,show n+((l.toArray.size-(n+1))+1)=l.toArray.size by omega] at this
 exact this
end
theorem qdj {P:Program} {id m:Nat} {Q:Exit→Act→World→Prop} {a:Act} {w:World} {l:List Oper} (n:Nat) (hm:P.follows .mixedOrders=true) (hB:q5h .any l.toArray n=true)
  (h:wpQuiet P l.toArray (λw'=>∃ k,w'=w.drewN k) (λa'=>∀ w',(∃ k,w'=w.drewN k)→wpListIn Q4 m P l.toArray (Exit.then (λa2 w2=>wpQuiet P l.toArray (λx=>x=w2) (λa3=>Q .normal a3 w2) (l.drop (n+1)) a2) Q) ((l.drop n).take 1) a' w') (l.take n) a) :
  (Code.region id l.toArray true).wpIn Q4 m P Q a w :=
 qdl (C:=λw'=>∃ k,w'=w.drewN k) n hm hB ⟨1,rfl⟩ h
end Go.Proofs.YtlfaaoalgcbcoaaGreatDoor
namespace Go.Proofs.YtlfaaoalgcbcoaaGreatDoor
open Go.RowKit Go.Maps Go.Shelf
attribute [local go_sem] q2b q1m q1w QE
def restW (s:List UInt8) (i:Nat) (x y:List UInt8):Nat→List (List UInt8)
 | 0=>Snd.q2t s i (x,y)++Snd.q2t s i (y,x)
 | 1=>Snd.q2t s i (y,x)
 | _=>[]
theorem way_at (s:List UInt8) (i:Nat) (x y:List UInt8) (m:Nat) (hm:m<2) (hx:x.length≤1000000) (hy:y.length≤1000000):∃ a b,restW s i x y m=Snd.q2t s i (a,b)++restW s i x y (m+1)∧a.length≤1000000∧b.length≤1000000 ∧
  ∀ (w:World) (g:Nat) (t:TypeId),Blk w g t #[.string (bs x),.string (bs y),.string (bs y),.string (bs x)]→w.rangeAt g (m*2) [.string (bs a),.string (bs b)]:=by
 match m,hm with
 | 0,_ =>
  refine ⟨x,y,rfl,hx,hy,λw g t h j v hv=>?_⟩
  match j,hv with
  | 0,hv=>injection hv with hv;subst hv;exact h.cell 0
  | 1,hv=>injection hv with hv;subst hv;exact h.cell 1
 | 1,_ =>
  refine ⟨y,x,by simp [restW],hy,hx,λw g t h j v hv=>?_⟩
  match j,hv with
  | 0,hv=>injection hv with hv;subst hv;exact h.cell 2
  | 1,hv=>injection hv with hv;subst hv;exact h.cell 3
theorem q8k {W:World} {D:Nat} {o:Obj} (o':Obj) (h:W.heap[D]? = some o):(W.alloc o').heap[D]? = some o :=
 (W9 W o' D (Qr.1 h).1).trans h
theorem two_info:(Tryz.prog.info? 181).map (·.size)=some 2:=by kernel_rfl
theorem cutRep_one (s:List UInt8) (i:Nat) (a b:List UInt8) (h:a.isPrefixOf (s.drop i)=true):Snd.q2t s i (a,b)=[s.take i++b++(s.drop i).drop a.length]:=by unfold Snd.q2t;rw [if_pos h]
theorem cutRep_none (s:List UInt8) (i:Nat) (a b:List UInt8) (h:a.isPrefixOf (s.drop i)=false):Snd.q2t s i (a,b)=[]:=by unfold Snd.q2t;rw [if_neg (by rw [h];exact Qe)]
set_option maxRecDepth 100000 in
set_option maxHeartbeats 4000000 in
theorem alike_in (n:Nat) (hn:1≤n) (l B0 bw bl:Nat) (A:Option Addr) (cap:Nat) (c:CfP) (s:List UInt8) (hs:s.length≤12) (hl:s.all Snd.letB=true) (hc:c.length≤1000000) (hcl:∀ x∈c,x.1.length≤1000000∧x.2.length≤1000000)
  (J Jx:List (List UInt8)→World→Prop) (PL:List (List UInt8)) (hPL:PL=Snd.q5y c s)
  (hY:∀ pre x W,J pre W→pre.length<PL.length→YieldAt Q4 (n-1) Tryz.prog l #[.string (bs x)] W λe W'=>(e=.returned (.bool true)∧J (pre++[x]) W'∧KpM B0 W W')∨(e=.returned (.bool false)∧Jx (pre++[x]) W'))
  (W:World) (hB0:B0≤W.heap.size) (hJ:AbidesFrom W.heap.size J) (hW:SLay W B0 bw bl A cap c s) (h0:J [] W) :
  CallsIn Q4 n Tryz.prog 134 #[.func (.yield l) #[] #[],.pointer (some ⟨bw,0,none⟩),.pointer (some ⟨bl,0,none⟩)] W λe W' =>
   (∃ v,e=.returned v)∧((∃ ys,ys=PL∧J ys W')∨(∃ pre,pre <+: PL∧Jx pre W')):=by
 refine callsIn_of_wp Tryz.func134 rfl trivial ?_ rfl;simp only [Tryz.ntmps134,QT,Wd,QD,Nat.reduceAdd,Nat.reduceSub,QI,QJ,QU,QN,Qg,Qv];have HY:=Q0 hY;have HPL:=Q0 hPL;have HCL:=Q0 hcl;have HJA:=Q0 (λpre W' o (h:J pre W')=>hJ pre W' _ none h (World.grownBy_alloc W' o none) (λr e=>by cases e))
 have HJD:=Q0 (λpre W' k (h:J pre W')=>hJ pre W' _ none h (grown_drewN W' k) (λr e=>by cases e))
 have HJP:=Q0 (λpre W' D o o' (h:J pre W') (hB:W.heap.size≤D) (hD:W'.heap[D]? = some o) (ho:o.isWalk=true)=>hJ pre W' _ (some D) h (grownBy_putObj' W' D o') (λr e=>by cases e;exact ⟨hB,o,hD,ho⟩))
 have HL:=Q0 hl;clear hY hPL hcl hJ hl;obtain ⟨hw0,hl0⟩:=hW.cells;obtain ⟨fn,tmps,assign,body,hy,hR⟩:=HY.out [] s W h0 (by rw [HPL.out];simp [Snd.q5y])
 have HW:=Q0 hW;clear hW h0;refine wpIn_wide.2 ?_
 go_upto_region 0 with fail
 refine (wpIn_wide (n:=n)).1 ?_
 gi_wp2
 refine hR.mono ?_;clear hR hy;rintro e W1 (⟨rfl,hJ1,hk1⟩ | ⟨rfl,hJx1⟩)
 ·have hW1:=HW.out.keep hk1
  have hz1:=hk1.size;obtain ⟨w1,l1⟩:=hW1.cells;have HW1:=Q0 hW1;have HJ1:=Q0 hJ1;clear hW1 hk1 hJ1 HW hw0 hl0
  gi_wp2
  go_wp2
  go_loopw [4] (λv wr=>∃ (i:Nat) (pre:List (List UInt8)),i≤s.length∧PL=pre++Snd.q6e c s (s.length-i) i∧J pre wr∧SLay wr B0 bw bl A cap c s∧W1.heap.size<wr.heap.size∧wr.heap[W1.heap.size]? = some (.stringIter (bs s) i)) (λ_ wr=>s.length-wr.iterPos W1.heap.size)
  case atStart=>exact ⟨0,[s],Qq _,by rw [HPL.out];rfl,HJA.out _ _ _ HJ1.out,HW1.out.alloc (by omega) _,by simp [World.iter],World.iter_heap _ _ _⟩
  case round =>
   obtain ⟨i,pre,hi,hpl,hJr,hLr,hzr,hD⟩:=hrel;have HPL2:=Q0 hpl;clear hpl;by_cases hlt:i<s.length
   ·have hlet:Snd.letB (s.getD i 0)=true:=Qm.1 HL.out _ (Snd.q1p s 0 i hlt)
    have hnx:∀ ty,(Qp (.pointer (some ⟨W1.heap.size,0,none⟩)) true ty).run Tryz.prog wr=_:=λty=>next_let ty _ i hD hlt hlet
    have hip:=iterPos_of hD;have HIP:=Q0 hip;clear hip;have hJp:=HJP.out pre wr _ _ (.stringIter (bs s) (i+1)) hJr (by omega) hD rfl
    have hLp:=hLr.put (by omega) hD rfl (.stringIter (bs s) (i+1))
    have hDp:(wr.putObj W1.heap.size (.stringIter (bs s) (i+1))).heap[W1.heap.size]? = some (.stringIter (bs s) (i+1)):=World.putObj_heap_same hzr;have hzp:(wr.putObj W1.heap.size (.stringIter (bs s) (i+1))).heap.size=wr.heap.size:=World.putObj_size;generalize wr.putObj W1.heap.size (.stringIter (bs s) (i+1))=wp at *
    obtain ⟨hpw,hpl⟩:=hLp.cells;have HJP2:=Q0 hJp;have HLP:=Q0 hLp;have HDP:=Q0 hDp;clear hJr hLr hD hJp hLp hDp hlet w1 l1
    go_wp2
    go_loopw [22] (λv wy=>∃ (k:Nat) (pre:List (List UInt8)),v=.int .i64 k∧k≤c.length∧PL=pre++((c.drop k).flatMap (Snd.wayL s i)++Snd.q6e c s (s.length-(i+1)) (i+1))∧J pre wy∧SLay wy B0 bw bl A cap c s∧W1.heap.size<wy.heap.size∧wy.heap[W1.heap.size]? = some (.stringIter (bs s) (i+1))) (λv _=>c.length-(intOf v).toNat)
    case atStart =>
     refine ⟨0,pre,rfl,Qq _,?_,HJP2.out,HLP.out,by omega,HDP.out⟩
     rw [HPL2.out,show s.length-i=s.length-(i+1)+1 by omega]
     rfl
    case round =>
     obtain ⟨k,pre2,rfl,hk,hpl2,hJy,hLy,hzy,hDy⟩:=hrel;have HPL3:=Q0 hpl2;have HJY:=Q0 hJy;have HDY:=Q0 hDy;clear hpl2 hJy hDy HJP2 HLP HDP hpw hpl HPL2;obtain ⟨hyw,hyl⟩:=hLy.cells;by_cases hkc:k<c.length
     ·obtain ⟨g,off,hA,hg,hrg⟩:=hLy.at_ k hkc
      have hxl:=HCL.out _ (Snd.q1p c ([],[]) k hkc);have hdr:(c.drop k).flatMap (Snd.wayL s i)=Snd.q2t s i (c.getD k ([],[]))++(Snd.q2t s i (Snd.flip (c.getD k ([],[])))++(c.drop (k+1)).flatMap (Snd.wayL s i)):=by
       rw [Qs hkc,List.flatMap_cons,Qf,Qh hkc];show Snd.q2t s i c[k]++Snd.q2t s i (Snd.flip c[k])++_=_;rw [Qi];rfl
      have hpl4:=HPL3.out;rw [hdr] at hpl4;have HPL4:=Q0 hpl4;clear hdr hpl4 HPL3;generalize c.getD k ([],[])=p at *
      obtain ⟨x,y⟩:=p;have HRG:=Q0 hrg;have HLY:=Q0 hLy;clear hrg hLy
      go_wp2_with (first | (refine wpList_load_mid rfl 53 _ rfl g (off+k*2) (by rw [hA];rfl) [.string (bs x),.string (bs y)] _ HRG.out Tryz.underlying53 rfl cf_info ?_))
      have hj:=HJA.out _ _ (.cells #[.string (bs x),.string (bs y),.string (bs y),.string (bs x)] 181) (HJA.out _ _ (.cells #[.string (bs x),.string (bs y)] 53) HJY.out);have hly:=(HLY.out.alloc (by omega) (.cells #[.string (bs x),.string (bs y)] 53)).alloc (by simp;omega) (.cells #[.string (bs x),.string (bs y),.string (bs y),.string (bs x)] 181)
      have hd:=q8k (.cells #[.string (bs x),.string (bs y),.string (bs y),.string (bs x)] 181) (q8k (.cells #[.string (bs x),.string (bs y)] 53) HDY.out);have hbk:=Blk.new (wr.alloc (.cells #[.string (bs x),.string (bs y)] 53)) 181 #[.string (bs x),.string (bs y),.string (bs y),.string (bs x)];simp only [Qw] at hbk;have hz4:wr.heap.size+2≤((wr.alloc (.cells #[.string (bs x),.string (bs y)] 53)).alloc (.cells #[.string (bs x),.string (bs y),.string (bs y),.string (bs x)] 181)).heap.size:=by simp
      generalize (wr.alloc (.cells #[.string (bs x),.string (bs y)] 53)).alloc (.cells #[.string (bs x),.string (bs y),.string (bs y),.string (bs x)] 181)=w4 at *
      generalize hE:wr.heap.size+1=E at *
      have HJ4:=Q0 hj;have HL4:=Q0 hly;have HD4:=Q0 hd;have HB4:=Q0 hbk;clear hj hly hd hbk HJY HLY HDY HRG hyw hyl
      go_loopw [38] (λv wz=>∃ (m:Nat) (pre:List (List UInt8)),v=.int .i64 m∧m≤2∧PL=pre++(restW s i x y m++((c.drop (k+1)).flatMap (Snd.wayL s i)++Snd.q6e c s (s.length-(i+1)) (i+1)))∧J pre wz∧SLay wz B0 bw bl A cap c s∧E<wz.heap.size∧wz.heap[W1.heap.size]? = some (.stringIter (bs s) (i+1))∧Blk wz E 181 #[.string (bs x),.string (bs y),.string (bs y),.string (bs x)]) (λv _=>2-(intOf v).toNat)
      case atStart =>
       refine ⟨0,pre2,rfl,by omega,?_,HJ4.out,HL4.out,by omega,HD4.out,HB4.out⟩
       rw [HPL4.out];simp [restW,Snd.flip]
      case round =>
       obtain ⟨m,pre3,rfl,hm,hpl5,hJz,hLz,hzz,hDz,hBz⟩:=hrel;have HPL5:=Q0 hpl5;have HDZ:=Q0 hDz;have HBZ:=Q0 hBz;have HJZ:=Q0 hJz;obtain ⟨hzw,hzl⟩:=hLz.cells;have HLZ:=Q0 hLz;clear hpl5 hDz hBz hJz hLz HJ4 HL4 HD4 HB4;by_cases hm2:m<2
       ·obtain ⟨a,b,hab,hal,hbl,hrw⟩:=way_at s i x y m hm2 hxl.1 hxl.2
        have hra:=hrw _ _ _ HBZ.out;have HRA:=Q0 hra;have HAB:=Q0 hab;clear hra hrw hab
        go_wp2_with (first | (refine wpList_load_mid rfl 181 _ rfl E (m*2) rfl [.string (bs a),.string (bs b)] _ HRA.out Tryz.underlying181 rfl two_info ?_))
        have hj:=HJA.out _ _ (.cells #[.string (bs a),.string (bs b)] 181) HJZ.out;have hly:=HLZ.out.alloc (by omega) (.cells #[.string (bs a),.string (bs b)] 181)
        have hd:=q8k (.cells #[.string (bs a),.string (bs b)] 181) HDZ.out;have hbk:=HBZ.out.alloc (.cells #[.string (bs a),.string (bs b)] 181);have hbn:=Blk.new wr 181 #[.string (bs a),.string (bs b)];have hz5:wr.heap.size+1≤(wr.alloc (.cells #[.string (bs a),.string (bs b)] 181)).heap.size:=by simp
        generalize wr.alloc (.cells #[.string (bs a),.string (bs b)] 181)=w5 at *
        generalize hF:wr.heap.size=F at *
        obtain ⟨h5w,h5l⟩:=hly.cells;have c0:=hbn.cell 0;have c1:=hbn.cell 1;have HJ5:=Q0 hj;have HL5:=Q0 hly;have HD5:=Q0 hd;have HE5:=Q0 hbk;have HF5:=Q0 hbn;clear hj hly hd hbk hbn HJZ HLZ HDZ HBZ HRA hzw hzl;have hi5:(i:Int)≤((bs s).size:Int):=by rw [qe5];omega
        have hex:((bs s).extract i s.length).data.toList=s.drop i:=by rw [q3e,q2p,q2p,Qj (by rw [Qx];omega)]
        cases hpx:a.isPrefixOf (s.drop i)
        ·have hcp:∀ W',Calls Tryz.prog 135 #[.string ((bs s).extract i s.length),.string (bs a)] W' λe w'=>e=.returned (.tuple #[.string (bs (s.drop i)),.bool false])∧w'=W':=λW' =>
          (Tryz.strings_CutPrefix _ _ W').mono λe w' he=>⟨by
           rw [he.1,hex,q2p];have h1:Lib.hasPrefix (s.drop i) a=false:=hpx;unfold Lib.trimPrefix;rw [h1];rfl,he.2⟩
         have HCP:=Q0 hcp;have hab2:=HAB.out;rw [cutRep_none s i a b hpx,Qg] at hab2;have HAB2:=Q0 hab2;clear hcp hpx hab2 hex
         go_quiet ((go_at_call 135;exact (HCP.out _).mono λe w' he=>⟨he.1,_,he.2⟩))
         go_wp2
         go_quiet (fail)
         go_wp2
         go_roundw
         case rel=>exact ⟨m+1,pre3,by go_num,by omega,by rw [HPL5.out,HAB2.out],HJD.out _ _ _ HJ5.out,HL5.out.drewN _,by show E<w5.heap.size;omega,HD5.out,HE5.out⟩
         case measure=>simp [intOf];omega
        ·have hcp:∀ W',Calls Tryz.prog 135 #[.string ((bs s).extract i s.length),.string (bs a)] W' λe w'=>e=.returned (.tuple #[.string (bs ((s.drop i).drop a.length)),.bool true])∧w'=W':=λW' =>
          (Tryz.strings_CutPrefix _ _ W').mono λe w' he=>⟨by
           rw [he.1,hex,q2p];have h1:Lib.hasPrefix (s.drop i) a=true:=hpx;unfold Lib.trimPrefix;rw [h1];rfl,he.2⟩
         have HCP:=Q0 hcp;have hab2:=HAB.out;rw [cutRep_one s i a b hpx] at hab2;have HAB2:=Q0 hab2;have hrl:((s.drop i).drop a.length).length≤12:=by rw [Qx,Qx];omega
         clear hcp hpx hab2 hex;generalize (s.drop i).drop a.length=rest at *
         go_quiet ((go_at_call 135;exact (HCP.out _).mono λe w' he=>⟨he.1,_,he.2⟩))
         go_upto_region 11 with fail
         refine (wpIn_wide (n:=n)).1 ?_;refine qdj 11 (by kernel_rfl) (by kernel_rfl) ?_
         simp only [QM,Wl,QL,QH]
         repeat (go_big_quiet_step ((fail)))
         refine wpQuiet_nil ?_;rintro _ ⟨q,rfl⟩;have harg:(bs s).extract 0 i++bs b++bs rest=bs (s.take i++b++rest):=by
          rw [app_bs,app_bs,q3e];simp only [q2p,QH,Nat.sub_zero]
         have hplx:PL=pre3++[s.take i++b++rest]++(restW s i x y (m+1)++((c.drop (k+1)).flatMap (Snd.wayL s i)++Snd.q6e c s (s.length-(i+1)) (i+1))):=by
          rw [HPL5.out,HAB2.out];simp only [Qi,Qv,Qg]
         have HPLX:=Q0 hplx;have HL6:=Q0 (HL5.out.drewN (nq+q));obtain ⟨fn2,tmps2,assign2,body2,hy2,hR2⟩:=HY.out pre3 (s.take i++b++rest) (w5.drewN (nq+q)) (HJD.out _ _ _ HJ5.out) (by rw [hplx];simp)
         rw [← harg] at hy2;clear hplx harg
         gi_wp2
         refine hR2.mono ?_;clear hR2 hy2;rintro e W6 (⟨rfl,hJ6,hk6⟩ | ⟨rfl,hJx6⟩)
         ·have hz6:w5.heap.size≤W6.heap.size:=hk6.size
          have HK6:=Q0 hk6;have HJ6:=Q0 hJ6;clear hk6 hJ6
          gi_wp2
          repeat (go_big_quiet_step ((fail)))
          refine wpQuiet_nil ?_
          go_wp2
          go_roundw
          case rel=>exact ⟨m+1,_,by go_num,by omega,HPLX.out,HJ6.out,HL6.out.keep HK6.out,by omega,HK6.out.mine _ _ HD5.out rfl,HK6.out.mine _ _ HE5.out rfl⟩
          case measure=>simp [intOf];omega
         ·have HX:=Q0 hJx6
          clear hJx6
          gi_wp2
          repeat (go_big_quiet_step ((fail)))
          refine wpQuiet_nil ?_
          go_wp2
          refine bodyPost_ret (results_none rfl _ _ _) rfl ?_;exact ⟨⟨_,rfl⟩,.inr ⟨_,⟨_,HPLX.out.symm⟩,HX.out⟩⟩
       ·obtain rfl:m=2:=by omega
        have hfin:=HPL5.out;have HFIN:=Q0 (show PL=pre3++((c.drop (k+1)).flatMap (Snd.wayL s i)++Snd.q6e c s (s.length-(i+1)) (i+1)) from hfin);clear hfin hzw hzl
        go_wp2
        rw [← hA]
        go_roundw
        case rel=>exact ⟨k+1,pre3,by go_num,by omega,HFIN.out,HJZ.out,HLZ.out,by omega,HDZ.out⟩
        case measure=>simp [intOf];omega
     ·have hfin:PL=pre2++Snd.q6e c s (s.length-(i+1)) (i+1):=by rw [HPL3.out,List.drop_eq_nil_of_le (by omega)];rfl
      have HFIN:=Q0 hfin;have HLY:=Q0 hLy;clear hfin hLy HPL3 hyw hyl
      go_wp2
      go_roundw
      case rel=>exact ⟨i+1,pre2,by omega,HFIN.out,HJY.out,HLY.out,hzy,HDY.out⟩
      case measure=>rw [iterPos_of HDY.out,HIP.out];omega
   ·have hnx:∀ ty,(Qp (.pointer (some ⟨W1.heap.size,0,none⟩)) true ty).run Tryz.prog wr=_:=λty=>next_end ty _ i hD hlt
    have hfin:PL=pre:=by rw [HPL2.out,show s.length-i=0 by omega];simp [Snd.q6e]
    have HFIN:=Q0 hfin;have HJR:=Q0 hJr;clear hfin hJr hLr hD w1 l1
    go_wp2
    go_end0
    exact ⟨⟨_,rfl⟩,.inl ⟨pre,HFIN.out.symm,HJR.out⟩⟩
 ·have HX:=Q0 hJx1
  have hpre:[s] <+: PL:=by rw [HPL.out];exact List.prefix_append [s] _
  have HPRE:=Q0 hpre;clear hJx1 hpre
  gi_wp2
  go_wp2
  refine bodyPost_ret (results_none rfl _ _ _) rfl ?_;exact ⟨⟨_,rfl⟩,.inr ⟨_,HPRE.out,HX.out⟩⟩
end Go.Proofs.YtlfaaoalgcbcoaaGreatDoor
namespace Go.Proofs.YtlfaaoalgcbcoaaGreatDoor
open Go.RowKit Go.Maps Go.Shelf
attribute [local go_sem] q2b q1m q1w QE
theorem qaw (tmps:Array Value) (w:World) (b6:Nat) (v6:Value) (h6:tmps.getD 6 undef=.pointer (some ⟨b6,0,none⟩)) (c6:w.cell? ⟨b6,0,none⟩=some v6):(results Tryz.f68 tmps).run Tryz.prog w=.ok v6 w:=by
 have h6':tmps[6]?.getD undef=.pointer (some ⟨b6,0,none⟩):=by simpa using h6
 simp [results,Tryz.results68,h6',asAddr,go_sem,c6]
def AlikePost (r:Bool) (w:World) (e:Ending) (w':World):Prop:=e=.returned (.bool r)∧Below w.heap.size w w'
theorem qda {r:Bool} {w w1:World} {b6:Nat} {t6:TypeId} {u6:Value} (tmps:Array Value) (hr:r=false) (hb:Below w.heap.size w w1) (H6:Blk w1 b6 t6 #[u6]) (l6:w.heap.size≤b6) (h6:tmps.getD 6 undef=.pointer (some ⟨b6,0,none⟩)) :
  ∃ v,(results Tryz.f68 tmps).run Tryz.prog (w1.setCell ⟨b6,0,none⟩ (.bool false))=.ok v (w1.setCell ⟨b6,0,none⟩ (.bool false))∧AlikePost r w (.returned v) (w1.setCell ⟨b6,0,none⟩ (.bool false)):=by
 have z6:=H6.set_ 0 (.bool false);refine ⟨_,qaw tmps _ b6 _ h6 (z6.cell 0),?_,q14 hb l6 _⟩;rw [hr];rfl
theorem q90 {W W':World} {B:Nat} {t:TypeId} {v:Value} {row:Option Nat} (h:Boxed W B t v) (hg:W.grownBy W' row) (hr:∀ r,row=some r→∃ o:Obj,W.heap[r]? = some o∧o.isCells=false):Boxed W' B t v :=
 h.kept hg (λe'=>by obtain ⟨o,ho,hc⟩:=hr B e'.symm;rw [show W.heap[B]? = _ from h] at ho;cases ho;cases hc)
def AlikeI (w:World) (b5 b6:Nat) (y:List UInt8) (pre:List (List UInt8)) (W:World):Prop :=
 (∀ s∈pre,s≠y)∧Boxed W b6 4 (.bool false)∧Boxed W b5 9 (.string (bs y))∧Below w.heap.size w W
def AlikeX (w:World) (b6:Nat) (y:List UInt8) (c:Code) (pre:List (List UInt8)) (W:World):Prop :=
 (c=.ret∧y∈pre)∧Boxed W b6 4 (.bool true)∧Below w.heap.size w W
theorem alikeI_own {w:World} {b5 b6:Nat} {y:List UInt8} {B:Nat} (hB:w.heap.size≤B):OwnFrom B (λpre W=>AlikeI w b5 b6 y pre W):=by
 rintro pre W W' row ⟨h0,h6,h5,h9⟩ hg hr;have hr':∀ r,row=some r→∃ o:Obj,W.heap[r]? = some o∧o.isCells=false:=λr e=>(hr r e).2
 exact ⟨h0,q90 h6 hg hr',q90 h5 hg hr',h9.grown hg h9.size (λk e=>Qu hB (hr k e).1)⟩
theorem alikeX_own {w:World} {b6:Nat} {y:List UInt8} (c:Code) {B:Nat} (hB:w.heap.size≤B):OwnFrom B (λpre W=>AlikeX w b6 y c pre W):=by
 rintro pre W W' row ⟨h0,h6,h9⟩ hg hr;have hr':∀ r,row=some r→∃ o:Obj,W.heap[r]? = some o∧o.isCells=false:=λr e=>(hr r e).2
 exact ⟨h0,q90 h6 hg hr',h9.grown hg h9.size (λk e=>Qu hB (hr k e).1)⟩
theorem kpM_put {B0:Nat} {W:World} {l:Nat} {o:Obj} (o':Obj) (hB:B0≤l) (ho:W.heap[l]? = some o) (hc:o.isCells=false) (hw:o.isWalk=false):KpM B0 W (W.putObj l o'):=by
 refine ⟨λg hg=>Qb (by omega),by simp,λg o2 h2 hm=>?_⟩
 by_cases e:g=l
 ·subst e
  rw [ho] at h2;injection h2 with h2;subst h2;cases o <;> first | exact Qe hm | exact Qe hc | exact Qe hw
 ·exact (Qb e).trans h2
theorem kpM_set {B0:Nat} {W:World} {b:Nat} {t:TypeId} {v:Value} (v':Value) (hB:B0≤b) (hb:Boxed W b t v) (hm:Mine (.cells #[v] t (0,0))=false):KpM B0 W (W.setCell ⟨b,0,none⟩ v'):=by
 refine ⟨λg hg=>QS W ⟨b,0,none⟩ v' g (by show g≠b;omega),by simp,λg o h2 hm2=>?_⟩
 by_cases e:g=b
 ·subst e
  rw [show W.heap[g]? = _ from hb] at h2;injection h2 with h2;subst h2;rw [hm] at hm2;cases hm2
 ·exact (QS W ⟨b,0,none⟩ v' g e).trans h2
set_option maxRecDepth 100000 in
set_option maxHeartbeats 2000000 in
theorem salike_any (c:CfP) (A:Option Addr) (cap:Nat) (x y:List UInt8) (w:World) (hL:q0n c) (hA:CfAt w A c) (hx:x.length≤1000000) (hy:y.length≤1000000) :
  Calls Tryz.prog 68 #[.slice A c.length cap,.string (bs x),.string (bs y)] w (AlikePost (Snd.q0m c x y) w):=by
 refine (callsIn_wide (n:=6)).1 ?_;refine callsIn_of_wp_marks Tryz.func68 rfl trivial ?_ rfl;simp only [Tryz.ntmps68,QT,Wd,QD,Nat.reduceAdd,Nat.reduceSub,QI,QJ,QU,QN,Qg,Qv];refine wpIn_wide.2 ?_;have HLC:=Q0 hL;have HA:=Q0 hA;clear hL hA
 go_wp2_with fail
 refine (qfh c A cap _ HLC.out (HA.out.bel (q0d (q0d (q06 w) _) _))).mono ?_;rintro e w1 ⟨rfl,hb1⟩;have hbw:Below w.heap.size w w1:=q2m (q0d (q0d (q06 w) _) _) hb1;have hB5:=((Blk.new w 9 #[.string (bs y)]).alloc (.cells #[.bool false] 4)).bel hb1;have hB6:=(Blk.new (w.alloc (.cells #[.string (bs y)] 9)) 4 #[.bool false]).bel hb1;simp only [Qw] at hB6;have k6:=hB6.cell 0;have f6:=hB6.frozen 0;have HB5:=Q0 hB5;have HB6:=Q0 hB6;have HBW:=Q0 hbw;clear hB5 hB6 hbw hb1;cases hp:Snd.q0j c
 ·have hr:Snd.q0m c x y=false:=by unfold Snd.q0m;rw [hp];rfl
  have HR:=Q0 hr;clear hr hp
  go_wp2
  exact qda _ HR.out HBW.out HB6.out (by omega) rfl
 ·have HP:=Q0 hp
  clear hp k6 f6
  go_wp2_with fail
  refine (q9y x 1 12 _ hx).mono ?_;rintro e w2 ⟨rfl,hb2⟩;have hB5:=HB5.out.bel hb2;have hB6:=HB6.out.bel hb2;have hbw:=q2m HBW.out hb2;have k5:=hB5.cell 0;have k6:=hB6.cell 0;have f6:=hB6.frozen 0;have GB5:=Q0 hB5;have GB6:=Q0 hB6;have GBW:=Q0 hbw;clear hB5 hB6 hbw hb2 HB5 HB6 HBW;cases hx1:Snd.q0a x 1 12
  ·have hr:Snd.q0m c x y=false:=by unfold Snd.q0m Snd.q4e;rw [HP.out,hx1];rfl
   have HR:=Q0 hr;clear hr hx1
   go_wp2
   exact qda _ HR.out GBW.out GB6.out (by omega) rfl
  ·have HX1:=Q0 hx1
   clear hx1 k6 f6
   go_wp2_with fail
   refine (q9y y 1 12 _ hy).mono ?_;rintro e w3 ⟨rfl,hb3⟩;have hB5:=GB5.out.bel hb3;have hB6:=GB6.out.bel hb3;have hbw:=q2m GBW.out hb3;have k5:=hB5.cell 0;have k6:=hB6.cell 0;have f6:=hB6.frozen 0;have HB5:=Q0 hB5;have HB6:=Q0 hB6;have HBW:=Q0 hbw;clear hB5 hB6 hbw hb3 GB5 GB6 GBW;cases hy1:Snd.q0a y 1 12
   ·have hr:Snd.q0m c x y=false:=by unfold Snd.q0m Snd.q4e;rw [HP.out,HX1.out,hy1];rfl
    have HR:=Q0 hr;clear hr hy1
    go_wp2
    exact qda _ HR.out HBW.out HB6.out (by omega) rfl
   ·have hr:Snd.q0m c x y=Snd.q1i c x y:=by unfold Snd.q0m Snd.q4e;rw [HP.out,HX1.out,hy1];rfl
    have HR:=Q0 hr;clear hr hy1 k5 k6 f6;have hsz3:=HB6.out.lt
    go_wp2_with fail
    refine (alike_mk c A cap x _).mono ?_;rintro e w' ⟨rfl,rfl⟩
    go_wp2
    have hbox5:Boxed ((w3.alloc (.cells #[.slice A c.length cap] 25)).alloc (.cells #[.string (bs x)] 9)) w.heap.size 9 (.string (bs y)):=(HB5.out.alloc (.cells #[.slice A c.length cap] 25)).alloc (.cells #[.string (bs x)] 9);have hbox6:Boxed ((w3.alloc (.cells #[.slice A c.length cap] 25)).alloc (.cells #[.string (bs x)] 9)) (w.heap.size+1) 4 (.bool false):=(HB6.out.alloc (.cells #[.slice A c.length cap] 25)).alloc (.cells #[.string (bs x)] 9);have hbl:=q0d (q0d HBW.out (.cells #[.slice A c.length cap] 25)) (.cells #[.string (bs x)] 9);have hlay:SLay ((w3.alloc (.cells #[.slice A c.length cap] 25)).alloc (.cells #[.string (bs x)] 9)) w.heap.size (w3.heap.size+1) w3.heap.size A cap c x:=by
     refine ⟨?_,(Blk.new w3 25 #[.slice A c.length cap]).alloc _,λhl=>?_⟩
     ·have:=Blk.new (w3.alloc (.cells #[.slice A c.length cap] 25)) 9 #[.string (bs x)]
      simpa only [Qw] using this
     ·obtain ⟨g,off,h1,h2,h3⟩:=HA.out hl
      exact ⟨g,off,h1,h2,λj z hj=>⟨(hbl.cell (p:=⟨g,off+j*2,none⟩) h2).trans (h3 j z hj).1,(hbl.cell (p:=⟨g,off+j*2+1,none⟩) h2).trans (h3 j z hj).2⟩⟩
    have hz4:((w3.alloc (.cells #[.slice A c.length cap] 25)).alloc (.cells #[.string (bs x)] 9)).heap.size=w3.heap.size+2:=by simp
    generalize (w3.alloc (.cells #[.slice A c.length cap] 25)).alloc (.cells #[.string (bs x)] 9)=W3 at *
    generalize ebw:w3.heap.size+1=bw at *
    generalize ebl:w3.heap.size=bl at *
    generalize eb6:w.heap.size+1=b6 at *
    generalize eb5:w.heap.size=b5 at *
    have hlen:=HX1.out;unfold Snd.q0a at hlen;simp only [Q7,decide_eq_true_eq] at hlen;obtain ⟨hlet,_,hx12⟩:=hlen;obtain ⟨PL,hPL⟩:∃ PL,PL=Snd.q5y c x:=⟨_,rfl⟩;have hmem:y∈PL↔Snd.q1i c x y=true:=by rw [hPL];exact Snd.qfj HP.out
    have HMEM:=Q0 hmem;have HPL:=Q0 hPL;have HLET:=Q0 hlet;have HLAY:=Q0 hlay;have hseq:SeqStopsK Q4 (6-1) Tryz.prog 134 #[.pointer (some ⟨bw,0,none⟩),.pointer (some ⟨bl,0,none⟩)] (λs:List UInt8=>#[.string (bs s)]) (KpM b5) (λys=>ys=PL) (λpre=>pre <+: PL) PL.length W3:=λl J Jx W hW hJ _ hY h0 =>
     alike_in (6-1) (by omega) l b5 bw bl A cap c x (by omega) HLET.out HLC.out.1 HLC.out.2 J Jx PL HPL.out hY W (Qu (by omega) hW.size) hJ
      (HLAY.out.keep ⟨λg hg=>hW.block g (by omega),hW.size,λg o ho _=>(hW.block g (Qr.1 ho).1).trans ho⟩) h0
    have HSEQ:=Q0 hseq;have H5:=Q0 hbox5;have H6:=Q0 hbox6;have HBL:=Q0 hbl;clear hmem hPL hlet hlay hseq hbox5 hbox6 hbl;refine (wpIn_wide (n:=6)).1 ?_;refine wpIn_rangeFunc_ownG (F:=Q4) rfl (by omega) (gf:=134) (lb:=#[.pointer (some ⟨bw,0,none⟩),.pointer (some ⟨bl,0,none⟩)]) rfl trivial (enters_of Tryz.func134 (by kernel_rfl) rfl)
     HSEQ.out (λh k=>h.trans k) (λW l o o' hl hlo hc hw=>kpM_put o' (by omega) hlo hc hw) (Below.refl _ _) (λ_=>rfl)
     (λpre W=>AlikeI w b5 b6 y pre W)
     (λcc pre W=>AlikeX w b6 y cc pre W)
     (alikeI_own (by omega)) (λcc=>alikeX_own cc (by omega))
     ⟨by simp,H6.out,H5.out,by rw [eb5];exact HBL.out⟩
     (λs:List UInt8=>{ tmps:=#[.slice A c.length cap,.string (bs x),.string (bs y),undef,undef,.pointer (some ⟨b5,0,none⟩),.pointer (some ⟨b6,0,none⟩),.string (bs s),.slice A c.length cap,
      .bool true,.bool false,.bool false,.string (bs x),.bool true,.bool false,.bool false,.bool false,.string (bs y),.bool true,.bool false,.bool false,.slice A c.length cap,.string (bs x),
      .func (.func 134) #[] #[.pointer (some ⟨bw,0,none⟩),.pointer (some ⟨bl,0,none⟩)],.string (bs s),undef,undef,undef],defers:=[] }) ?assign ?body ?done ?stop
    case assign =>
     intro l s W K hK
     gi_wp2
     exact hK
    case body =>
     rintro l pre s W ⟨hnn,q6,q5,qb⟩ hlen;have c5:=q5.cell;have c6:=q6.cell;have g6:=q6.frozen;have hsW:=qb.size;have HNN:=Q0 hnn;have Q5:=Q0 q5;have Q6:=Q0 q6;have QB:=Q0 qb;clear hnn q5 q6 qb hlen;by_cases hs:s=y
     ·have hse:((bs s).toList==(bs y).toList)=true:=by rw [hs,beq_self_eq_true]
      have HS:=Q0 hs;clear hs
      gi_wp2
      exact ⟨(QO _ _ _).from _,⟨rfl,by rw [HS.out];simp⟩,Q6.out.set _,q14 QB.out (by dsimp only;omega) _⟩
     ·have hse:((bs s).toList==(bs y).toList)=false:=by
       rw [Q9,Q9,q2p,q2p];exact beq_eq_false_iff_ne.2 hs
      have HS:=Q0 hs;clear hs
      gi_wp2
      refine ⟨(KeepsOthers.refl _).from _,KpM.refl _ _,λz hz=>?_,Q6.out,Q5.out,QB.out⟩
      rcases List.mem_append.1 hz with hz | hz
      ·exact HNN.out z hz
      ·rw [List.mem_singleton.1 hz];exact HS.out
    case done =>
     rintro D ys W hD rfl ⟨hnn,q6,q5,qb⟩ hK;have hfin:Snd.q0m c x y=false:=by
      rw [HR.out];cases hs:Snd.q1i c x y
      ·rfl
      ·exact absurd rfl (hnn y (HMEM.out.2 hs))
     have HFIN:=Q0 hfin;dsimp only;have c6:=q6.cell;have g6:=q6.frozen;have Q6:=Q0 q6;have QB:=Q0 qb;have HK:=Q0 hK;clear hnn q6 q5 qb hfin hK
     go_wp2
     have hK':(W.setCell ⟨b6,0,none⟩ (.bool false)).heap[D]? = some (.deferred (some [])):=(QO _ _ _).same D _ HK.out rfl;refine ⟨by simp,.inl ⟨D,_,rfl,run_takeDeferred hK',?_⟩⟩
     have z6:=q90 (Q6.out.set (.bool false)) (grownBy_putObj' _ D (.deferred none)) (λr e=>by cases e;exact ⟨_,hK',rfl⟩)
     have hbelow:=q14 QB.out (p:=⟨b6,0,none⟩) (by dsimp only;omega) (.bool false)
     refine ⟨_,qaw _ _ b6 _ rfl z6.cell,?_,hbelow.grown (grownBy_putObj' _ D _) hbelow.size (λk e=>by cases e;omega)⟩
     rw [HFIN.out]
    case stop =>
     rintro D cc pre W hD hpre ⟨⟨rfl,hmem⟩,q6,qb⟩ hK;have hfin:Snd.q0m c x y=true:=by
      rw [HR.out];exact HMEM.out.1 (hpre.subset hmem)
     have HFIN:=Q0 hfin;dsimp only;have Q6:=Q0 q6;have QB:=Q0 qb;have HK:=Q0 hK;clear q6 qb hfin hK hmem
     gi_wp2
     go_wp2
     refine ⟨by simp,.inl ⟨D,_,rfl,run_takeDeferred HK.out,?_⟩⟩
     have z6:=q90 Q6.out (grownBy_putObj' _ D (.deferred none)) (λr e=>by cases e;exact ⟨_,HK.out,rfl⟩)
     refine ⟨_,qaw _ _ b6 _ rfl z6.cell,?_,QB.out.grown (grownBy_putObj' _ D _) QB.out.size (λk e=>by cases e;omega)⟩
     rw [HFIN.out]
end Go.Proofs.YtlfaaoalgcbcoaaGreatDoor
namespace Go.Proofs.YtlfaaoalgcbcoaaGreatDoor
namespace Al
structure Alph where
 name:List UInt8
 letters:List (List UInt8)
 small:List Int
def okByte (c:UInt8):Bool:=33≤c&&c≤126&&!(c==34)
def printedB (l:List UInt8):Bool:=l.all okByte&&(decide (1≤l.length)&&decide (l.length≤3))
def smallAt (n:Nat) (s:List Int) (k:Int):Bool:=decide (0≤k)&&decide (k<n)&&(s.getD k.toNat 0==k)
def noTwice:List (List UInt8)→Bool
 | []=>true
 | l::r=>!r.contains l&&noTwice r
def formedB (a:Alph):Bool :=
 Lx.q18 a.name&&(decide (1≤a.letters.length)&&decide (a.letters.length≤64))&&(a.small.length==a.letters.length)&&a.letters.all printedB&&noTwice a.letters&&a.small.all (smallAt a.letters.length a.small)
def follows (L:List (List UInt8)):Nat→List UInt8→Bool
 | 0,_=>false
 | f+1,s=>L.any λl=>s.isPrefixOf l||(l.isPrefixOf s&&follows L f (s.drop l.length))
def clash (L:List (List UInt8)) (l:List UInt8) (n:Nat):Bool:=decide (n<l.length)&&(L.contains (l.take n)&&follows L 4 (l.drop n))
def q0k (a:Alph):Bool:=formedB a&&a.letters.all λl=>!clash a.letters l 1&&!clash a.letters l 2
def idx (L:List (List UInt8)) (l:List UInt8):Nat:=L.findIdx (·==l)
end Al
open Go.RowKit
def qb3 (w:World) (A:Option Addr) (l:List (List UInt8)):Prop :=
 0<l.length→∃ g off,A=some ⟨g,off,none⟩∧g<w.heap.size∧∀ (j:Nat) s,l[j]? = some s→w.cell? ⟨g,off+j,none⟩=some (.string (bs s))
section
variable {w w':World} {A:Option Addr}
theorem qb3.bel {l:List (List UInt8)} (h:qb3 w A l) (hb:Below w.heap.size w w'):qb3 w' A l:=λhl=>by
 obtain ⟨g,off,h1,h2,h3⟩:=h hl;exact ⟨g,off,h1,QR h2 hb.size,λj u hu=>(hb.cell (p:=⟨g,off+j,none⟩) h2).trans (h3 j u hu)⟩
end
structure Few (a:Al.Alph):Prop where
 n:a.letters.length≤70
 len:∀ l∈a.letters,l.length≤20
 s:a.small.length≤70
 name:a.name.length≤100
end Go.Proofs.YtlfaaoalgcbcoaaGreatDoor

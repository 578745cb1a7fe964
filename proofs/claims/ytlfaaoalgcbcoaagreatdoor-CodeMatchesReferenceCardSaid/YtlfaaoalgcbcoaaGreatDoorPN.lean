/-
  Several texts in one: CoF, CoM, CoN, SoE, SoF, SoG, LaterIn, SoH, SoI, AlSpec, AlMem, SoJ.
-/
import Derived.Test.YtlfaaoalgcbcoaaGreatDoorPM
import Derived.Test.YtlfaaoalgcbcoaaGreatDoorPA
import Derived.Test.YtlfaaoalgcbcoaaGreatDoorPK
import Derived.Maps.OwnSet
import Derived.DeepKeys4
import Derived.Deep.MidRow
import Derived.Maps.OwnOps
import Derived.RangeFuncNested
import Derived.RangeFuncBound
import Derived.RangeFuncCalls
import Derived.RangeFuncLeaves
import Derived.RangeFuncBox
import Derived.Shelf.Abstract
import Derived.Shelf.RegionOpen
import Derived.OwnWalkIn
import Derived.TacticsInMore
import Derived.LoopNIn
import Derived.LoopIn
import Derived.RegionTactic
import Derived.BigRegion
import Derived.Deep.CutRange
import Derived.Deep.CutBlock
import Derived.Test.YtlfaaoalgcbcoaaGreatDoorPD
import Derived.Sort.QuietThIn
import Derived.Maps.AppendAt
import Derived.Test.YtlfaaoalgcbcoaaGreatDoorPB
import Derived.Sort.OwnSortedInts
open Go.Lib renaming hid→Q0,compact→Q7,toList_data→Q8
open Go.Fence renaming wide→Q4
open Go.Op renaming bytesLess→Q5
open Bool renaming and_eq_true→Q6,not_eq_true'→Qe,not_eq_true→Qf,noConfusion→Qg,or_false→Qk,false_and→QC,and_true→QF,eq_iff_iff→QT,and_false→W9
open Go.World renaming cell?_of_block→Q9,putObj_heap_other→Qa
open List renaming getD_eq_getElem?_getD→Qb,getElem?_eq_getElem→Qc,length_eq_zero_iff→Qd,append_assoc→Qi,take_of_length_le→Qj,any_eq_true→Ql,all_eq_true→Qm,length_filter_le→Qn,append_nil→Qo,filter_nil→Qp,nil_append→Qq,drop_eq_getElem_cons→Qt,length_drop→Qv,filter_cons_of_neg→Qw,filter_cons_of_pos→Qx,any_append→Qy,drop_zero→QD,replicate→QE,drop_succ_cons→QG,take_succ_cons→QH,filter_append→QI,cons_append→QS,map_append→QU,length_map→QV,length_nil→QW,take_zero→Wd
open Array renaming getElem?_eq_some_iff→Qh
open Go.Instr renaming next→Qr
open Nat renaming zero_le→Qs,le_refl→QA,zero_add→QJ,lt_of_lt_of_le→QK,mul_one→QO,beq→QZ
open Go.Value renaming string→Qu,int→QM
open Go.Oper renaming semAt_some→Qz,uponIn→QN,quietUpon→Wh
open Go.RowKit.Below renaming heap_setCell→QL,heap_alloc→QR
open Prod renaming fst→QP,snd→QQ
open Go.Program renaming keyLits→QY
open Go.Result renaming andThen→We
set_option linter.unusedVariables false
namespace Go.Proofs.YtlfaaoalgcbcoaaGreatDoor
open Go.RowKit R
abbrev q13:Type:=List Cod.Giv
abbrev q03:Type:=List (Int×List Int)
abbrev q02:Type:=List (Cod.Key×Bool)
abbrev q0f:Type:=List (List UInt8×Bool)
abbrev q04:Type:=List (Cod.Key×List Cod.Giv)
def q3v (b:q13):Prop:=b.length≤1000000∧∀ g∈b,g.1.length≤1000∧g.2.1.length≤1000000
def qg4:Con:=.of 23 [ckWl,ckCf,q7s] [q2p] (λp=>q0j p.1∧q0n p.2.1∧q3v p.2.2) (λp=>Cod.Ear.proper ⟨p.1.1,p.1.2,p.2.1⟩ p.2.2)
noncomputable def inlCo:List (Nat×Func):=[(40,Tryz.f40),(49,Tryz.f49),(54,Tryz.f54),(101,Tryz.f101),
 (42,Tryz.f42),(89,Tryz.f89),(90,Tryz.f90),(92,Tryz.f92),
 (104,Tryz.f104),(52,Tryz.f52),(84,Tryz.f84)]
noncomputable def kitCo:Kit:={ cons:=[qil,cPlaced,q8l,cKey.lent,qeh,qj0,cNear,cNearG],ns:=[nClone],os:=[qiw],inls:=inlCo }
def q5r (m:q03):MRow:=⟨119,.one (.int .i64),.one (.sl (.one (.int .i64))),m⟩
def q43 (m:q02):MRow:=⟨144,q6u,.one .bool,m⟩
def qg2 (m:q0f):MRow:=⟨148,.one .str,.one .bool,m⟩
def q1b (m:q04):FRow:={ t:=145,kk:=q6u,e:=38,fs:=kGiv,xs:=m }
def getI (k:Int) (m:q03):Option (List Int):=Mp.get (CK.eqB (.one (.int .i64))) k m
def getK {β:Type} (k:Cod.Key) (m:List (Cod.Key×β)):Option β:=Mp.get (CK.eqB q6u) k m
def getS (k:List UInt8) (m:q0f):Option Bool:=Mp.get (CK.eqB (.one .str)) k m
def q0a (e:Cod.Ear) (m:q03):Prop:=∀ i l,getI i m=some l→l=e.near i
def q27 (done:q13) (m:q02):Prop:=∀ k,(getK k m).getD false=done.any λo=>Cod.key o.2.1==k
def q2d (done:q13) (m:q0f):Prop:=∀ s,(getS s m).getD false=done.any λo=>o.1==s
def hits (xs:List (List Int)) (k:Cod.Key):Bool:=xs.any λx=>Cod.key x==k
def q2e (e:Cod.Ear) (done:q13) (m:q04):Prop:=∀ k,(getK k m).getD []=done.filter λo=>hits (e.miss o.2.1) k
def q0y (e:Cod.Ear) (code:List Int) (i k:Nat):List (List Int):=(((e.near (code.getD i 0)).take k).filter λx=>!(x==code.getD i 0)).map (code.set i)
def q0x (codes:q02) (mist:q04) (g:Cod.Giv) (x:List Int):Bool:=!((getK (Cod.key x) codes).getD false)&&!(((getK (Cod.key x) mist).getD []).any λo=>Cod.q0o o g)
def q42 (e:Cod.Ear) (codes:q02) (mist:q04) (g:Cod.Giv):Bool:=!((getK (Cod.key g.2.1) codes).getD false)&&(((getK (Cod.key g.2.1) mist).getD []).length==0&&(e.miss g.2.1).all (q0x codes mist g))
def q0w (s0:q02) (m0:q04) (g:Cod.Giv) (xs:List (List Int)) (s:q02) (m:q04):Prop :=
 (∀ k,(getK k s).getD false=((getK k s0).getD false||hits xs k))∧∀ k,(getK k m).getD []=(getK k m0).getD []++(if hits xs k&&!((getK k s0).getD false) then [g] else [])
namespace R
def Get.mapOf (kk vk:CK) (m:Nat) (st:St):List (kk.Pay×vk.Pay):=match st.map m with
 | some y=>match y.kk.deq kk,y.vk.deq vk with
  | some ⟨h⟩,some ⟨h'⟩=>qcd h h' y.xs
  | _,_=>[]
 | none=>[]
def Get.famOf (kk:CK) (fs:Kds) (st:St):List (kk.Pay×List fs.Pay):=match st.fam with
 | some y=>match y.kk.deq kk,y.fs.deq fs with
  | some ⟨h⟩,some ⟨h'⟩=>castFam h h' y.xs
  | _,_=>[]
 | none=>[]
def Get.boxOf (ks:Kds) (b:Nat) (st:St):ks.Pay:=match st.box b with
 | some cs=>match q14 ks cs with
  | some p=>p
  | none=>ks.dflt
 | none=>ks.dflt
def Get.entOf (fs:Kds) (t:Nat) (st:St):List fs.Pay:=match st.get t with
 | .c (.one (.fent kk k))=>match st.qab kk k with
  | some x=>match x.1.deq fs with
   | some ⟨h⟩=>q3r h x.2
   | none=>[]
  | none=>[]
 | _=>[]
def Get.cloOf (ks:Kds) (t:Nat) (st:St):ks.Pay:=match st.get t with
 | .c (.one (.clo _ _ [(b,_)]))=>Get.boxOf ks b st
 | _=>ks.dflt
def annX (l:Nat) (ι:Type) (at_:St→ι→St) (inv:St→ι→Prop) (mu:St→ι→Nat):Nat×Ann:=(l,{ ι:=ι,at_:=at_,inv:=inv,mu:=mu })
end R
abbrev lisO (o:Nat):Nat:=(o+18)*1000
def savK:Nat→List (Nat×List Nat)→List Nat
 | _,[]=>[]
 | off,(n,l)::r=>l.map (·+off)++savK (off+n) r
structure Fr where
 T:Nat
 n:Nat
 live:List Nat
 d:Nat
def Fr.mis (F:Fr):Nat:=(F.T+F.d+1)*1000
def Fr.it (F:Fr):Nat:=(F.T+1)*1000+500
def Fr.box (F:Fr):List Nat:=[F.mis+2,F.mis+3,F.T+2,F.T+3,F.T+4]
structure Up where
 o:Nat
 fr:List (Nat×List Nat)
 box:List Nat
 maps:List Nat
abbrev q7g:List Nat:=[0,1,2,4,5,6,11,12,13,20,21,22,29]
def Up.keep (U:Up) (F:Fr) (live:List Nat) (ahead:List (Nat×List Nat)):Keep:={ live:=live,sav:=savK 0 (ahead++[(F.n,F.live)]++U.fr),box:=F.box++[lisO U.o+10,U.o+31]++U.box,lp:=[2,3,4] }
def R.Get.q6o (U:Up) (st:St):q02:=Get.mapOf q6u (.one .bool) (U.o+28) st
def R.Get.q19 (st:St):q04:=Get.famOf q6u kGiv st
def R.Get.doorsAt (U:Up) (st:St):q0f:=Get.mapOf (.one .str) (.one .bool) (U.o+32) st
def R.Get.q4q (U:Up) (st:St):q03:=Get.mapOf (.one (.int .i64)) (.one (.sl (.one (.int .i64)))) (lisO U.o+7) st
def R.Get.seenAt (F:Fr) (st:St):q02:=Get.mapOf q6u (.one .bool) (F.T+14) st
def R.Get.gAt (F:Fr) (st:St):Cod.Giv:=Get.boxOf kGiv (F.T+3) st
def R.q3y (U:Up) (st:St) (m:q03):List (Nat×MRow):=[(lisO U.o+7,q5r m),(U.o+28,q43 (Get.q6o U st)),(U.o+32,qg2 (Get.doorsAt U st))]
def anShelve (U:Up) (e:Cod.Ear) (book:q13):List (Nat×Ann) :=
  [annG 0 (Nat×q03×q02×q0f×q04) (λst p=>st.hd { live:=[3,10,11,33,34],sav:=savK 0 (U.fr.drop 1),box:=[U.o+3,lisO U.o+10,U.o+31]++U.box } [(35,R.int .i64 p.1)] [] [] [(lisO U.o+7,q5r p.2.1),(U.o+28,q43 p.2.2.1),(U.o+32,qg2 p.2.2.2.1)] (some (q1b p.2.2.2.2)))
    (λp=>p.1≤book.length∧q0a e p.2.1∧q27 (book.take p.1) p.2.2.1∧q2d (book.take p.1) p.2.2.2.1∧q2e e (book.take p.1) p.2.2.2.2∧e.shelf [] (book.take p.1)=true) (λp=>book.length-p.1),
   cutG 2 Unit (λst _=>st.hd { live:=[2,3],sav:=savK 0 (U.fr.drop 1),box:=[U.o+3]++U.box } [(8,.c (.one (.ptr (lisO U.o+10) 0))),(9,.c (.one (.val .bool (Snd.q0c e.lang e.ws&&Snd.q0h e.c))))] [(lisO U.o+10,[.val .str e.lang,.val (.sl (.one .str)) e.ws,.mref (lisO U.o+7),.val (.sl kCf) e.c])] [] [(lisO U.o+7,q5r [])] none) (λ_=>True),
   annX 2000009 (Nat×q03×q02×q0f×q04×Cod.Giv) (λst p=>st.hd { live:=[3,10,11,33,34],sav:=savK 0 (U.fr.drop 1),box:=[U.o+3,lisO U.o+10,U.o+31]++U.box } [(13,.c (.one (.ptr (U.o+13) 0))),(35,R.int .i64 p.1)] [(U.o+13,kGiv.cells p.2.2.2.2.2)] [] [(lisO U.o+7,q5r p.2.1),(U.o+28,q43 p.2.2.1),(U.o+32,qg2 p.2.2.2.1)] (some (q1b p.2.2.2.2.1)))
    (λst p=>p.1=(st.intOf 35).toNat∧p.1<book.length∧p.2.2.2.2.2=book.getD p.1 ([],[],false,0,0)∧q0a e p.2.1∧q27 (book.take p.1) p.2.2.1∧q2d (book.take p.1) p.2.2.2.1∧q2e e (book.take p.1) p.2.2.2.2.1∧e.shelf [] (book.take p.1)=true) (λ_ _=>0),
   annX 2000011 (Nat×q03×q02×q0f×q04×Cod.Giv) (λst p=>st.hd { live:=[3,10,11,33,34],sav:=savK 0 (U.fr.drop 1),box:=[U.o+3,lisO U.o+10,U.o+31]++U.box } [(13,.c (.one (.ptr (U.o+13) 0))),(35,R.int .i64 p.1)] [(U.o+13,kGiv.cells p.2.2.2.2.2)] [] [(lisO U.o+7,q5r p.2.1),(U.o+28,q43 p.2.2.1),(U.o+32,qg2 p.2.2.2.1)] (some (q1b p.2.2.2.2.1)))
    (λst p=>p.1=(st.intOf 35).toNat∧p.1<book.length∧p.2.2.2.2.2=book.getD p.1 ([],[],false,0,0)∧q0a e p.2.1∧q27 (book.take p.1) p.2.2.1∧q2d (book.take p.1) p.2.2.2.1∧q2e e (book.take p.1) p.2.2.2.2.1∧e.shelf [] (book.take (p.1+1))=true) (λ_ _=>0)]
def anIter (U:Up) (Ft Fp:Fr) (e:Cod.Ear):List (Nat×Ann) :=
  [annX 0 (Nat×q03×q02×q04)
        (λst p=>bif st.off.beq Ft.it then st.hd (U.keep Ft [0,1,2,4,11,12] []) [(13,R.int .i64 p.1)] [] [] (q3y U st p.2.1) (some (q1b (Get.q19 st)))
           else st.hd (U.keep Fp [0,1,2,4,11,12] []) [(13,R.int .i64 p.1)] [] [] ((Fp.T+14,q43 p.2.2.1)::q3y U st p.2.1) (some (q1b p.2.2.2)))
        (λst p=>bif st.off.beq Ft.it then p.1≤(Get.gAt Ft st).2.1.length∧q0a e p.2.1∧(e.q0i (Get.gAt Ft st).2.1 p.1 0).all (q0x (Get.q6o U st) (Get.q19 st) (Get.gAt Ft st))=true
           else p.1≤(Get.gAt Fp st).2.1.length∧q0a e p.2.1∧q0w (Get.seenAt Fp st) (Get.q19 st) (Get.gAt Fp st) (e.q0i (Get.gAt Fp st).2.1 p.1 0) p.2.2.1 p.2.2.2)
        (λst p=>bif st.off.beq Ft.it then (Get.gAt Ft st).2.1.length-p.1 else (Get.gAt Fp st).2.1.length-p.1),
   annX 2 (Nat×q02×q04)
        (λst p=>bif st.off.beq Ft.it then st.hd (U.keep Ft [0,1,2,4,5,6,11,12,13,20,21] []) [(22,R.int .i64 p.1)] [] [] (q3y U st (Get.q4q U st)) (some (q1b (Get.q19 st)))
           else st.hd (U.keep Fp [0,1,2,4,5,6,11,12,13,20,21] []) [(22,R.int .i64 p.1)] [] [] ((Fp.T+14,q43 p.2.1)::q3y U st (Get.q4q U st)) (some (q1b p.2.2)))
        (λst p=>bif st.off.beq Ft.it then p.1≤(e.near (st.intOf 6)).length∧(q0y e (Get.gAt Ft st).2.1 (st.intOf 5).toNat p.1).all (q0x (Get.q6o U st) (Get.q19 st) (Get.gAt Ft st))=true
           else p.1≤(e.near (st.intOf 6)).length∧q0w (Get.seenAt Fp st) (Get.q19 st) (Get.gAt Fp st) (q0y e (Get.gAt Fp st).2.1 (st.intOf 5).toNat p.1) p.2.1 p.2.2)
        (λst p=>(e.near (st.intOf 6)).length-p.1),
   annX 2000010 (q02×q04)
        (λst p=>bif st.off.beq Ft.it then st.hd (U.keep Ft [0,1,2,4,5,6,11,12,13] []) [] [] [] (q3y U st (Get.q4q U st)) (some (q1b (Get.q19 st)))
           else st.hd (U.keep Fp [0,1,2,4,5,6,11,12,13] []) [] [] [] ((Fp.T+14,q43 p.1)::q3y U st (Get.q4q U st)) (some (q1b p.2)))
        (λst p=>bif st.off.beq Ft.it then q0x (Get.q6o U st) (Get.q19 st) (Get.gAt Ft st) ((Get.gAt Ft st).2.1.eraseIdx (st.intOf 5).toNat)=true
           else q0w (Get.seenAt Fp st) (Get.q19 st) (Get.gAt Fp st) [(Get.gAt Fp st).2.1.eraseIdx (st.intOf 5).toNat] p.1 p.2)
        (λ_ _=>0)]
def anHeard (U:Up) (Ft Fp:Fr) (e:Cod.Ear):List (Nat×Ann) :=
  [annX 2000005 (q03)
        (λst p=>bif st.off.beq ((Ft.it+21)*1000) then st.hd (U.keep Ft [] [(77,q7g)]) [(5,.c (.one (.val (.sl (.one (.int .i64))) (e.near (st.intOf 1)))))] [] [] (q3y U st p) (some (q1b (Get.q19 st)))
           else st.hd (U.keep Fp [] [(77,q7g)]) [(5,.c (.one (.val (.sl (.one (.int .i64))) (e.near (st.intOf 1)))))] [] [] ((Fp.T+14,q43 (Get.seenAt Fp st))::q3y U st p) (some (q1b (Get.q19 st))))
        (λ_ p=>q0a e p)
        (λ_ _=>0)]
def anFind (U:Up) (Ft:Fr):List (Nat×Ann) :=
 [annX 0 (Nat)
    (λst p=>st.hd (U.keep Ft [0,1,7] [(9,[]),(Ft.n,[2,3,4,43]),(77,q7g)]) [(8,R.int .i64 p)] [] [] (q3y U st (Get.q4q U st)) (some (q1b (Get.q19 st))))
    (λst p=>p≤(Get.entOf kGiv 0 st).length∧((Get.entOf kGiv 0 st).take p).any (λo=>Cod.q0o o (Get.cloOf kGiv 1 st))=false)
    (λst p=>(Get.entOf kGiv 0 st).length-p)]
def anCo (U:Up) (Ft Fp:Fr) (e:Cod.Ear) (book:q13):Nat→List (Nat×Ann):=λf =>
 bif QZ f 49 then anShelve U e book
 else bif QZ f 89 then anIter U Ft Fp e
 else bif QZ f 92 then anHeard U Ft Fp e
 else bif QZ f 84 then anFind U Ft
 else []
def frT (o:Nat):Fr:={ T:=(o+65)*1000,n:=53,live:=[4],d:=33 }
def frP (o:Nat):Fr:={ T:=(o+73)*1000,n:=42,live:=[],d:=21 }
def upP:Up:={ o:=14000,fr:=[(75,[3,10,11,13,33,34,35,61])],box:=[14003,14013],maps:=[] }
theorem q6c {α β:Type} {eq:α→α→Bool} (he:∀ a b,eq a b=true↔a=b) (a n:α) (v:β):∀ xs:List (α×β),(n=a→Mp.get eq n (Mp.put eq a v xs)=some v)∧(n≠a→Mp.get eq n (Mp.put eq a v xs)=Mp.get eq n xs)
 | []=>by
  show (n=a→(if eq n a=true then some v else none)=some v)∧(n≠a→(if eq n a=true then some v else none)=none)
  exact ⟨λh=>if_pos ((he _ _).2 h),λh=>if_neg λe=>h ((he _ _).1 e)⟩
 | x::r=>by
  have ih:=q6c he a n v r;show (n=a→Mp.get eq n (if eq a x.1=true then (a,v)::r else x::Mp.put eq a v r)=some v)∧(n≠a→Mp.get eq n (if eq a x.1=true then (a,v)::r else x::Mp.put eq a v r)=(if eq n x.1=true then some x.2 else Mp.get eq n r))
  by_cases hx:a=x.1
  ·rw [if_pos ((he _ _).2 hx)]
   show (n=a→(if eq n a=true then some v else Mp.get eq n r)=some v)∧(n≠a→(if eq n a=true then some v else Mp.get eq n r)=_)
   refine ⟨λh=>if_pos ((he _ _).2 h),λh=>?_⟩
   rw [if_neg (λe=>h ((he _ _).1 e)),if_neg (λe=>h (((he _ _).1 e).trans hx.symm))]
  ·rw [if_neg (λe=>hx ((he _ _).1 e))]
   show (n=a→(if eq n x.1=true then some x.2 else Mp.get eq n (Mp.put eq a v r))=some v)∧(n≠a→(if eq n x.1=true then some x.2 else Mp.get eq n (Mp.put eq a v r))=_)
   refine ⟨λh=>?_,λh=>?_⟩
   ·rw [if_neg (λe=>hx (h.symm.trans ((he _ _).1 e))),ih.1 h]
   ·rw [ih.2 h]
theorem eqK_iff (a b:Cod.Key):CK.eqB q6u a b=true↔a=b:=by
 obtain ⟨a0,a1,a2,a3,a4,a5⟩:=a;obtain ⟨b0,b1,b2,b3,b4,b5⟩:=b;show ((a0==b0)&&((a1==b1)&&((a2==b2)&&((a3==b3)&&((a4==b4)&&(a5==b5))))))=true↔_;simp only [Q6,beq_iff_eq,Prod.mk.injEq]
theorem eqI_iff (a b:Int):CK.eqB (.one (.int .i64)) a b=true↔a=b:=by
 show (a==b)=true↔_;exact beq_iff_eq
theorem eqS_iff (a b:List UInt8):CK.eqB (.one .str) a b=true↔a=b:=by
 show (a==b)=true↔_;exact beq_iff_eq
theorem q6w {β:Type} (k q:Cod.Key) (v:β) (m:List (Cod.Key×β)):getK k (Mp.put (CK.eqB q6u) q v m)=if k=q then some v else getK k m:=by
 unfold getK;by_cases h:k=q
 ·rw [if_pos h];exact (q6c eqK_iff q k v m).1 h
 ·rw [if_neg h];exact (q6c eqK_iff q k v m).2 h
theorem getI_put (k q:Int) (v:List Int) (m:q03):getI k (Mp.put (CK.eqB (.one (.int .i64))) q v m)=if k=q then some v else getI k m:=by
 unfold getI;by_cases h:k=q
 ·rw [if_pos h];exact (q6c eqI_iff q k v m).1 h
 ·rw [if_neg h];exact (q6c eqI_iff q k v m).2 h
theorem getS_put (k q:List UInt8) (v:Bool) (m:q0f):getS k (Mp.put (CK.eqB (.one .str)) q v m)=if k=q then some v else getS k m:=by
 unfold getS;by_cases h:k=q
 ·rw [if_pos h];exact (q6c eqS_iff q k v m).1 h
 ·rw [if_neg h];exact (q6c eqS_iff q k v m).2 h
abbrev putK {β:Type} (k:Cod.Key) (v:β) (m:List (Cod.Key×β)):List (Cod.Key×β):=Mp.put (CK.eqB q6u) k v m
theorem qfw (e:Cod.Ear):q0a e []:=λi l h=>by cases h
theorem nearOk_put {e:Cod.Ear} {m:q03} (h:q0a e m) (i:Int):q0a e (Mp.put (CK.eqB (.one (.int .i64))) i (e.near i) m):=λk l hk=>by
 rw [getI_put] at hk;by_cases hki:k=i
 ·rw [if_pos hki] at hk;injection hk with hk;rw [← hk,hki]
 ·rw [if_neg hki] at hk;exact h k l hk
theorem doors_nil:q2d [] []:=λs=>rfl
theorem doors_put {done:q13} {m:q0f} (h:q2d done m) (g:Cod.Giv):q2d (done++[g]) (Mp.put (CK.eqB (.one .str)) g.1 true m):=λs=>by
 rw [getS_put,Qy,← h s];by_cases hs:s=g.1
 ·rw [if_pos hs,hs]
  show true=(_||((g.1==g.1)||false));rw [beq_self_eq_true];simp
 ·rw [if_neg hs]
  show _=(_||((g.1==s)||false));rw [beq_eq_false_iff_ne.2 (λe=>hs e.symm)];simp
theorem codes_nil:q27 [] []:=λk=>rfl
theorem codes_put {done:q13} {m:q02} (h:q27 done m) (g:Cod.Giv):q27 (done++[g]) (Mp.put (CK.eqB q6u) (Cod.key g.2.1) true m):=λk=>by
 rw [q6w,Qy,← h k];by_cases hk:k=Cod.key g.2.1
 ·rw [if_pos hk,hk]
  show true=(_||((Cod.key g.2.1==Cod.key g.2.1)||false));rw [beq_self_eq_true];simp
 ·rw [if_neg hk]
  show _=(_||((Cod.key g.2.1==k)||false));rw [beq_eq_false_iff_ne.2 (λe=>hk e.symm)];simp
theorem hits_nil (k:Cod.Key):hits [] k=false:=rfl
theorem qjw (xs ys:List (List Int)) (k:Cod.Key):hits (xs++ys) k=(hits xs k||hits ys k):=by unfold hits;rw [Qy]
theorem qfn (x:List Int) (k:Cod.Key):hits [x] k=(Cod.key x==k):=by unfold hits;rw [List.any_cons,List.any_nil,Qk]
theorem hits_mem {xs:List (List Int)} {y:List Int} (hx:∀ x∈xs,x.length≤5) (hy:y.length≤5):hits xs (Cod.key y)=true↔y∈xs:=by
 unfold hits;rw [Ql];constructor
 ·rintro ⟨x,h1,h2⟩
  rw [beq_iff_eq] at h2
  rwa [← Cod.key_inj (hx x h1) hy h2]
 ·intro h
  exact ⟨y,h,beq_self_eq_true _⟩
theorem mist_nil (e:Cod.Ear):q2e e [] []:=λk=>rfl
theorem qbs (s:q02) (m:q04) (g:Cod.Giv):q0w s m g [] s m:=by
 refine ⟨λk=>by rw [hits_nil,Qk],λk=>?_⟩
 rw [hits_nil,QC,if_neg (by decide),Qo]
theorem q18 {s0 s1 s2:q02} {m0 m1 m2:q04} {g:Cod.Giv} {xs ys:List (List Int)} (h1:q0w s0 m0 g xs s1 m1) (h2:q0w s1 m1 g ys s2 m2):q0w s0 m0 g (xs++ys) s2 m2:=by
 refine ⟨λk=>?_,λk=>?_⟩
 ·rw [h2.1 k,h1.1 k,qjw,Bool.or_assoc]
 ·rw [h2.2 k,h1.2 k,h1.1 k,qjw,Qi]
  cases (getK k s0).getD false <;> cases hits xs k <;> cases hits ys k <;> rfl
theorem q6m {s:q02} {m:q04} {g:Cod.Giv} {x:List Int} (h:(getK (Cod.key x) s).getD false=true):q0w s m g [x] s m:=by
 refine ⟨λk=>?_,λk=>?_⟩
 ·rw [qfn]
  by_cases hk:Cod.key x=k
  ·rw [← hk,h];rfl
  ·rw [beq_eq_false_iff_ne.2 hk,Qk]
 ·rw [qfn]
  by_cases hk:Cod.key x=k
  ·rw [← hk,h,Bool.not_true,W9,if_neg (by decide),Qo]
  ·rw [beq_eq_false_iff_ne.2 hk,QC,if_neg (by decide),Qo]
theorem relPut_new {s:q02} {m:q04} {g:Cod.Giv} {x:List Int} (h:(getK (Cod.key x) s).getD false=false):q0w s m g [x] (Mp.put (CK.eqB q6u) (Cod.key x) true s) (Mp.put (CK.eqB q6u) (Cod.key x) ((getK (Cod.key x) m).getD []++[g]) m):=by
 refine ⟨λk=>?_,λk=>?_⟩
 ·rw [qfn,q6w]
  by_cases hk:Cod.key x=k
  ·rw [if_pos hk.symm,← hk,h,beq_self_eq_true];rfl
  ·rw [if_neg (λe=>hk e.symm),beq_eq_false_iff_ne.2 hk,Qk]
 ·rw [qfn,q6w]
  by_cases hk:Cod.key x=k
  ·rw [if_pos hk.symm,← hk,h,beq_self_eq_true,if_pos (by decide)];rfl
  ·rw [if_neg (λe=>hk e.symm),beq_eq_false_iff_ne.2 hk,QC,if_neg (by decide),Qo]
theorem mist_put {e:Cod.Ear} {done:q13} {m m':q04} {g:Cod.Giv} {s:q02} (h:q2e e done m) (hp:q0w [] m g (e.miss g.2.1) s m'):q2e e (done++[g]) m':=λk=>by
 rw [hp.2 k,h k,QI]
 congr 1
 show (if (hits (e.miss g.2.1) k&&!(none:Option Bool).getD false)=true then [g] else [])=_
 rw [show (!(none:Option Bool).getD false)=true from rfl,QF];cases hh:hits (e.miss g.2.1) k
 ·rw [if_neg (by decide),Qw (p:=λo:Cod.Giv=>hits (e.miss o.2.1) k) (by show ¬ (hits (e.miss g.2.1) k=true);rw [hh];decide),Qp]
 ·rw [if_pos rfl,Qx (p:=λo:Cod.Giv=>hits (e.miss o.2.1) k) hh,Qp]
theorem qkz {e:Cod.Ear} {done:q13} {codes:q02} {mist:q04} {g:Cod.Giv} (hc:q27 done codes) (hm:q2e e done mist) (hd:∀ o∈done,o.2.1.length≤5) (hg:g.2.1.length≤5):e.takes done g=q42 e codes mist g:=by
 have hml:∀ (o:Cod.Giv),o.2.1.length≤5→∀ x∈e.miss o.2.1,x.length≤5:=λo ho x hx=>by
  have:=Cod.qfr hx
  omega
 have hcode:∀ y:List Int,y.length≤5→((getK (Cod.key y) codes).getD false=true↔∃ o∈done,o.2.1=y):=λy hy=>by
  rw [hc,Ql];constructor
  ·rintro ⟨o,ho,h⟩
   exact ⟨o,ho,Cod.key_inj (hd o ho) hy (beq_iff_eq.1 h)⟩
  ·rintro ⟨o,ho,h⟩
   exact ⟨o,ho,by rw [h];exact beq_self_eq_true _⟩
 have hmist:∀ y:List Int,y.length≤5→∀ o,(o∈(getK (Cod.key y) mist).getD []↔o∈done∧y∈e.miss o.2.1):=λy hy o=>by
  rw [hm,List.mem_filter];refine and_congr_right λho=>?_
  exact hits_mem (hml o (hd o ho)) hy
 rw [QT];unfold Cod.Ear.takes q42;rw [Qm,Q6,Q6,Qm,Qe];constructor
 ·intro h
  refine ⟨?_,?_,λx hx=>?_⟩
  ·rw [← Qf,hcode _ hg]
   rintro ⟨o,ho,he⟩;exact (Cod.q6y.1 (h o ho)).1 he
  ·rw [beq_iff_eq,Qd,List.eq_nil_iff_forall_not_mem]
   intro o ho;obtain ⟨ho,hx⟩:=(hmist _ hg o).1 ho;exact (Cod.q6y.1 (h o ho)).2.1 hx
  ·have hxl:=hml g hg x hx
   unfold q0x;rw [Q6,Qe,Qe,← Qf,← Qf,hcode _ hxl,Ql];refine ⟨?_,?_⟩
   ·rintro ⟨o,ho,he⟩
    exact ((Cod.q6y.1 (h o ho)).2.2 x hx).1 he
   ·rintro ⟨o,ho,hn⟩
    obtain ⟨ho,hx'⟩:=(hmist _ hxl o).1 ho;exact ((Cod.q6y.1 (h o ho)).2.2 x hx).2 ⟨hx',hn⟩
 ·rintro ⟨h1,h2,h3⟩ o ho
  rw [Cod.q6y];refine ⟨λhe=>?_,λhx=>?_,λx hx=>?_⟩
  ·have:=(hcode _ hg).2 ⟨o,ho,he⟩
   rw [this] at h1;cases h1
  ·rw [beq_iff_eq,Qd] at h2
   have:=(hmist _ hg o).2 ⟨ho,hx⟩
   rw [h2] at this;cases this
  ·have hxl:=hml g hg x hx
   have:=h3 x hx
   unfold q0x at this;rw [Q6,Qe,Qe,← Qf,← Qf,hcode _ hxl,Ql] at this;refine ⟨λhe=>this.1 ⟨o,ho,he⟩,λhh=>this.2 ⟨o,(hmist _ hxl o).2 ⟨ho,hh.1⟩,hh.2⟩⟩
theorem q9q {e:Cod.Ear} {book:q13} {i:Nat} (hi:i<book.length):e.shelf [] (book.take (i+1))=(e.shelf [] (book.take i)&&e.fits (book.take i) (book.getD i ([],[],false,0,0))):=by
 rw [Snd.q0t book ([],[],false,0,0) i hi,Cod.shelf_snoc,Qq]
theorem shelf_take {e:Cod.Ear} {book:q13} (h:e.shelf [] book=true) (i:Nat):e.shelf [] (book.take i)=true:=by
 rw [Cod.qdg] at h ⊢;obtain ⟨h1,h2,h3⟩:=h;exact ⟨λg hg=>h1 g (List.mem_of_mem_take hg),h2.sublist (List.take_sublist _ _),λo ho=>by cases ho⟩
theorem shelf_no {e:Cod.Ear} {book:q13} {i:Nat} (hi:i<book.length) (h:e.fits (book.take i) (book.getD i ([],[],false,0,0))=false):e.shelf [] book=false:=by
 cases hs:e.shelf [] book
 ·rfl
 ·have:=shelf_take hs (i+1)
  rw [q9q hi,h,W9] at this;cases this
theorem qi6 {e:Cod.Ear} {book:q13} (h:e.shelf [] book=true):∀ o∈book,o.2.1.length≤5:=λo ho=>by
 have:=(Cod.qdg.1 h).1 o ho
 unfold Cod.okG Cod.q0q at this;simp only [Q6,decide_eq_true_eq] at this;have:=this.2.2.2.2.1;omega
theorem q4v {b:Bool} (h:(!b)=true):b=false:=by
 cases b
 ·rfl
 ·cases h
theorem q49 {b:Bool} (h:(!b)=false):b=true:=by
 cases b
 ·cases h
 ·rfl
theorem find_part {L:List Cod.Giv} {g:Cod.Giv} {F N:Prop} (hL:L.length≤1000000) (hF:L.any (λo=>Cod.q0o o g)=true→F) (hN:L.any (λo=>Cod.q0o o g)=false→N) :
  (∃ p':Nat,(p'≤L.length∧(L.take p').any (λo=>Cod.q0o o g)=false)∧(0:Int)=(p':Int))∧∀ p:Nat,p≤L.length∧(L.take p).any (λo=>Cod.q0o o g)=false →
   bif decide ((p:Int)<(L.length:Int)) then ((0:Int)≤(p:Int)∧(p:Int)<(L.length:Int))∧bif Cod.q0o (L.getD p Cod.noG) g then F
    else ((-9223372036854775808:Int)≤(p:Int)+1∧(p:Int)+1≤(9223372036854775807:Int))∧∃ p':Nat,(p'≤L.length∧(L.take p').any (λo=>Cod.q0o o g)=false)∧L.length-p'<L.length-p∧(p:Int)+1=(p':Int)
   else N:=by
 refine ⟨⟨0,⟨Qs _,rfl⟩,rfl⟩,λp hp=>bifP (λh=>?_) λh=>hN ?_⟩
 ·have h:=of_decide_eq_true h
  refine ⟨⟨by omega,by omega⟩,bifP (λhn=>hF (Snd.qix L Cod.noG _ p (by omega) hn)) λhn=>⟨⟨by omega,by omega⟩,p+1,⟨by omega,?_⟩,by omega,by omega⟩⟩
  rw [Snd.qco L Cod.noG _ p (by omega),hp.2,hn];rfl
 ·have h:=of_decide_eq_false h
  rw [← hp.2,Qj (by omega)]
theorem q66 {cm:q02} {mm:q04} {g:Cod.Giv} {x:List Int} {F N:Prop} (hL:((getK (Cod.key x) mm).getD []).length≤1000000) (hF:q0x cm mm g x=false→F) (hN:q0x cm mm g x=true→N) :
  bif (getK (Cod.key x) cm).getD false then F else (∃ p':Nat,(p'≤((getK (Cod.key x) mm).getD []).length∧((((getK (Cod.key x) mm).getD []).take p').any λo=>Cod.q0o o g)=false)∧(0:Int)=(p':Int))∧∀ p:Nat,p≤((getK (Cod.key x) mm).getD []).length∧((((getK (Cod.key x) mm).getD []).take p).any λo=>Cod.q0o o g)=false →
   bif decide ((p:Int)<((((getK (Cod.key x) mm).getD []).length:Nat):Int)) then ((0:Int)≤(p:Int)∧(p:Int)<((((getK (Cod.key x) mm).getD []).length:Nat):Int))∧bif Cod.q0o (((getK (Cod.key x) mm).getD []).getD p Cod.noG) g then F
    else ((-9223372036854775808:Int)≤(p:Int)+1∧(p:Int)+1≤(9223372036854775807:Int))∧∃ p':Nat,(p'≤((getK (Cod.key x) mm).getD []).length∧((((getK (Cod.key x) mm).getD []).take p').any λo=>Cod.q0o o g)=false)∧((getK (Cod.key x) mm).getD []).length-p'<((getK (Cod.key x) mm).getD []).length-p∧(p:Int)+1=(p':Int)
   else N:=by
 refine bifP (λh=>hF ?_) λh=>find_part hL (λh'=>hF ?_) λh'=>hN ?_
 ·unfold q0x;rw [h];rfl
 ·unfold q0x;rw [h,h'];rfl
 ·unfold q0x;rw [h,h'];rfl
theorem q2v {e:Cod.Ear} {code:List Int} {i k:Nat} (hk:k<(e.near (code.getD i 0)).length):q0y e code i (k+1)=q0y e code i k++(if ((e.near (code.getD i 0)).getD k 0 != code.getD i 0)=true then [code.set i ((e.near (code.getD i 0)).getD k 0)] else []):=by
 unfold q0y;rw [Snd.q0t _ 0 k hk,QI,QU]
 congr 1
 show List.map _ (List.filter _ [(e.near (code.getD i 0)).getD k 0])=_;generalize (e.near (code.getD i 0)).getD k 0=v;generalize code.getD i 0=u;by_cases h:v=u
 ·rw [Qw (by rw [h];simp),Qp,if_neg (by rw [h];simp)];rfl
 ·rw [Qx (by simp [h]),Qp,if_pos (by simp [h])];rfl
theorem q75 {e:Cod.Ear} {code:List Int} {i k:Nat} (hk:(e.near (code.getD i 0)).length≤k):e.q2g code i=q0y e code i k++(code.eraseIdx i::(if i=0∨code.getD (i-1) 0=code.getD i 0 then [] else [Cod.swapAt code i])):=by
 unfold q0y Cod.Ear.q2g;rw [Qj hk]
theorem qgs (e:Cod.Ear) (code:List Int):∀ (f i:Nat),e.q0i code (f+1) i=e.q0i code f i++e.q2g code (i+f)
 | 0,i=>by rw [Cod.Ear.q0i,Cod.Ear.q0i,Cod.Ear.q0i];simp
 | f+1,i=>by
  rw [Cod.Ear.q0i,qgs e code f (i+1),Cod.Ear.q0i,Qi,show i+1+f=i+(f+1) by omega]
theorem q3t (e:Cod.Ear) (code:List Int) (i:Nat):e.q0i code (i+1) 0=e.q0i code i 0++e.q2g code i:=by
 rw [qgs,QJ]
theorem qld {e:Cod.Ear} {code:List Int} {i k:Nat} (hk:k<(e.near (code.getD i 0)).length) (hi:i<code.length) (hne:((e.near (code.getD i 0)).getD k 0 != code.getD i 0)=true):code.set i ((e.near (code.getD i 0)).getD k 0)∈e.miss code :=
 (Cod.qcw e code _).2 ⟨i,hi,(Cod.q3l e code _ i).2 (.inl ⟨_,Snd.q1n _ 0 k hk,by simpa using hne,rfl⟩)⟩
theorem qh4 {e:Cod.Ear} {code:List Int} {i:Nat} (hi:i<code.length):code.eraseIdx i∈e.miss code :=
 (Cod.qcw e code _).2 ⟨i,hi,(Cod.q3l e code _ i).2 (.inr (.inl rfl))⟩
theorem qlg {e:Cod.Ear} {code:List Int} {i:Nat} (hi:i<code.length) (h0:i≠0) (hne:code.getD (i-1) 0≠code.getD i 0):Cod.swapAt code i∈e.miss code :=
 (Cod.qcw e code _).2 ⟨i,hi,(Cod.q3l e code _ i).2 (.inr (.inr ⟨λh=>h.elim h0 hne,rfl⟩))⟩
theorem q4l {lang:List UInt8} {ws:List (List UInt8)} {code:List Int} (h:Cod.q0q lang ws code=true):(3≤code.length∧code.length≤5)∧∀ i,i<code.length→0≤code.getD i 0∧code.getD i 0<(ws.length:Int):=by
 unfold Cod.q0q Cod.inB at h;simp only [Q6,decide_eq_true_eq,Qm] at h;exact ⟨⟨by omega,by omega⟩,λi hi=>h.2.2.2 _ (Snd.q1n code 0 i hi)⟩
theorem qiu {e:Cod.Ear} {done:q13} {mm:q04} (hm:q2e e done mm) (k:Cod.Key):((getK k mm).getD []).length≤done.length:=by
 rw [hm k];exact Qn ..
theorem q7m {e:Cod.Ear} {nr:q03} (hn:q0a e nr) (hW:q0j (e.lang,e.ws)) (hC:q0n e.c) {w:Int} (h0:0≤w) (h1:w<(e.ws.length:Int)) :
  bif !(Mp.get (λx x_1:Int=>x==x_1) w nr).isSome then ((0:Int)≤w∧w<(e.ws.length:Int))∧(q0j (e.lang,e.ws)∧q0n e.c∧(e.ws.getD w.toNat []).length≤1000000) ∧
   ∃ p':q03,q0a e p'∧(Snd.q10 e.lang e.ws e.c (e.ws.getD w.toNat [])).1=e.near w∧Mp.put (λx x_1:Int=>x==x_1) w (Snd.q10 e.lang e.ws e.c (e.ws.getD w.toNat [])).1 nr=p'
  else ∃ p':q03,q0a e p'∧(Mp.get (λx x_1:Int=>x==x_1) w nr).getD []=e.near w∧nr=p':=by
 refine bifP (λ_=>⟨⟨h0,h1⟩,⟨hW,hC,?_⟩,_,nearOk_put hn w,rfl,rfl⟩) λh=>⟨nr,hn,?_,rfl⟩
 ·exact hW.2.2 _ (Snd.q1n e.ws [] w.toNat (by omega))
 ·have h:=q49 h
  cases hg:Mp.get (λx x_1:Int=>x==x_1) w nr with
  | none=>rw [hg] at h;cases h
  | some l=>exact hn w l hg
theorem q6d (e:Cod.Ear) (w:Int):(e.near w).length≤e.ws.length:=by
 unfold Cod.Ear.near Snd.q10;split
 ·show (Snd.q3f _ _ _ _).length≤_
  unfold Snd.q3f;rw [QV];have:=Qn (λi=>Snd.q29 e.c (e.ws.getD i []) (e.ws.getD w.toNat [])) (List.range e.ws.length)
  rwa [List.length_range] at this
 ·exact Qs _
theorem put_twice {m:q04} {q:Cod.Key} {u:List Cod.Giv} {g:Cod.Giv} (k:Cod.Key):(getK k (putK q ((getK q (putK q ((getK q m).getD []) m)).getD []++[g]) (putK q ((getK q m).getD []) m))).getD []=(getK k (putK q ((getK q m).getD []++[g]) m)).getD []:=by
 unfold putK;rw [q6w,q6w,q6w,q6w];by_cases h:k=q
 ·rw [if_pos h,if_pos h,if_pos rfl];rfl
 ·rw [if_neg h,if_neg h,if_neg h]
theorem q6j {s:q02} {m:q04} {g:Cod.Giv} {x:List Int} (h:(getK (Cod.key x) s).getD false=false):q0w s m g [x] (putK (Cod.key x) true s) (putK (Cod.key x) ((getK (Cod.key x) (putK (Cod.key x) ((getK (Cod.key x) m).getD []) m)).getD []++[g]) (putK (Cod.key x) ((getK (Cod.key x) m).getD []) m)):=by
 have hn:=relPut_new (m:=m) (g:=g) h;exact ⟨hn.1,λk=>by rw [put_twice (u:=[])];exact hn.2 k⟩
theorem qfs {e:Cod.Ear} {done:q13} {mm:q04} (hm:q2e e done mm) (hl:done.length≤20000) {g:Cod.Giv} {xs:List (List Int)} {s:q02} {m:q04} (h:q0w [] mm g xs s m) (k:Cod.Key):(((getK k (putK k ((getK k m).getD []) m)).getD []).length+[g].length)*64≤140737488355328:=by
 unfold putK;rw [q6w,if_pos rfl];show (((getK k m).getD []).length+1)*64≤_;rw [h.2 k,List.length_append];have:=qiu hm k;split
 ·rw [List.length_singleton];omega
 ·rw [QW];omega
end Go.Proofs.YtlfaaoalgcbcoaaGreatDoor
namespace Go.Proofs.YtlfaaoalgcbcoaaGreatDoor
open Go.RowKit Go.Maps
namespace Snd
def norm (c:Conf):Conf:=if Q5 c.1 c.2||c.1==c.2 then c else flip c
theorem less_asymm {a b:Str} (h:Q5 a b=true):Q5 b a=false:=by
 cases h':Q5 b a
 ·rfl
 ·have:=q48 h h'
  rw [q7w] at this;cases this
theorem q93 (c:Conf):norm c=c∨norm c=flip c:=by
 unfold norm;split
 ·exact .inl rfl
 ·exact .inr rfl
theorem norm_flip (c:Conf):norm (flip c)=norm c:=by
 unfold norm flip;simp only [];cases h1:Q5 c.1 c.2
 ·cases h2:Q5 c.2 c.1
  ·have:=qmf h1 h2
   rw [this,beq_self_eq_true];simp;exact Prod.ext this.symm rfl
  ·by_cases h3:c.1=c.2
   ·rw [h3,q7w] at h2;cases h2
   ·rw [beq_eq_false_iff_ne.2 h3]
    simp
 ·rw [less_asymm h1]
  by_cases h3:c.1=c.2
  ·rw [h3,q7w] at h1;cases h1
  ·rw [beq_eq_false_iff_ne.2 (Ne.symm h3)]
   simp
theorem qhs (c d:Conf):same c d=(norm c==norm d):=by
 rw [QT,same_iff,beq_iff_eq];constructor
 ·rintro (rfl | rfl)
  ·rfl
  ·exact norm_flip d
 ·intro h
  rcases q93 c with h1 | h1 <;> rcases q93 d with h2 | h2 <;> rw [h1,h2] at h
  ·exact .inl h
  ·exact .inr h
  ·right;rw [← h,qb3]
  ·exact .inl (flip_inj h)
theorem okC_norm (c:Conf):okC (norm c)=okC c:=by
 rcases q93 c with h | h
 ·rw [h]
 ·rw [h,okC_flip]
end Snd
theorem cf_row:53<Tryz.prog.types.size:=of_decide_eq_true (by kernel_rfl)
theorem cf_laid:laidOutB Tryz.prog=true:=by kernel_rfl
theorem cf_law:Keyed Tryz.prog 53:=Keyed.of_law (deep_law_laid cf_laid (m:=2) (by omega) cf_row (by kernel_rfl) (by kernel_rfl))
theorem cf_cells:Tryz.prog.cellsOf 53=2:=by kernel_rfl
theorem cf_one:Tryz.prog.cellsOf 9=1:=by kernel_rfl
theorem cf_type:Tryz.prog.keyType 53=true:=by kernel_rfl
theorem cf_size:Tryz.prog.types.size+1=Tryz.prog.types.size-1+2:=by
 have:=cf_row
 omega
theorem keyLits_two {P : Program} {T : TypeId} {f0 f1 : Field} (hu : P.underlying T = some (.struct #[f0, f1])) (hc : P.cellsOf T = 2) (hn : (#[f0, f1] : Array Field).all (fun f => f.name != "_") = true) (o0 : f0.offset = 0) (o1 : f1.offset = 1)
  (u0:P.underlying f0.type=some .string) (u1:P.underlying f1.type=some .string) (c0:P.cellsOf f0.type=1) (c1:P.cellsOf f1.type=1) (m:Nat) (a b:ByteArray) (ha:a.size≤maxLen) (hb:b.size≤maxLen) :
  P.keyLits (m+2) T [.string a,.string b]=some [.string a.data.toList,.string b.data.toList]:=by
 have hl:([.string a,.string b]:List Value).length=P.cellsOf T:=by rw [hc];rfl
 unfold QY;rw [hu];simp only [];rw [if_pos ⟨hl,hn⟩];simp only [List.mapM_cons,List.mapM_nil,o0,o1,c0,c1,QD,QG,QH,Wd];unfold QY;rw [u0,u1];simp only [];rw [if_pos ha,if_pos hb];rfl
def cfv (p:Snd.Conf):Value:=.agg #[.string (bs p.1),.string (bs p.2)]
def cfl (p:Snd.Conf):Lit:=.string (keyBytes [.string p.1,.string p.2])
set_option maxRecDepth 100000 in
theorem key_cf (p:Snd.Conf) (h1:p.1.length≤maxLen) (h2:p.2.length≤maxLen):keyOf Tryz.prog 53 (cfv p)=some (cfl p):=by
 unfold keyOf cfv cfl;rw [Tryz.underlying53];simp only [];have hf:(Value.agg #[.string (bs p.1),.string (bs p.2)]).formed Tryz.prog 53=true:=by
  simp [Value.formed,Tryz.underlying53,cf_cells]
 have hk:=keyLits_two (P:=Tryz.prog) Tryz.underlying53 cf_cells (by kernel_rfl) rfl rfl Tryz.underlying9 Tryz.underlying9 cf_one cf_one (Tryz.prog.types.size-1) (bs p.1) (bs p.2) h1 h2
 rw [hf,cf_type,cf_size];show ((Tryz.prog.keyLits (Tryz.prog.types.size-1+2) 53 [.string (bs p.1),.string (bs p.2)]).map λls=>Lit.string (keyBytes ls))=_
 rw [hk];rfl
set_option maxRecDepth 100000 in
theorem cfl_inj {p q:Snd.Conf} (h1:p.1.length≤maxLen) (h2:p.2.length≤maxLen) (h3:q.1.length≤maxLen) (h4:q.2.length≤maxLen) (h:cfl p=cfl q):p=q:=by
 have k1:=key_cf p h1 h2;have k2:=key_cf q h3 h4;rw [h] at k1;have:=cf_law.inj k1 k2;unfold cfv at this;injection this with this;have a1:=congrArg (λa:Array Value=>a[0]?) this
 have a2:=congrArg (λa:Array Value=>a[1]?) this
 have a1:some (Qu (bs p.1))=some (Qu (bs q.1)):=a1;have a2:some (Qu (bs p.2))=some (Qu (bs q.2)):=a2;injection a1 with a1;injection a1 with a1;injection a2 with a2;injection a2 with a2;exact Prod.ext (bs_inj.1 a1) (bs_inj.1 a2)
def qbx (c:CfP):Nat→DataW Unit
 | 0=>.map []
 | n+1=>(qbx c n).put (cfl (Snd.norm (c.getD n ([],[])))) (.lit (.bool true))
theorem seenD_map (c:CfP):∀ n,IsMap (qbx c n)
 | 0=>isMap_empty
 | n+1=>(seenD_map c n).put _ _
theorem norm_len {c:CfP} (h:q0n c):∀ k,k<c.length→(Snd.norm (c.getD k ([],[]))).1.length≤1000000∧(Snd.norm (c.getD k ([],[]))).2.length≤1000000:=λk hk=>by
 have:=h.2 _ (Snd.q1n c ([],[]) k hk)
 rcases Snd.q93 (c.getD k ([],[])) with e | e <;> rw [e]
 ·exact this
 ·exact ⟨this.2,this.1⟩
theorem at_seen {c:CfP} (h:q0n c) (p:Snd.Conf) (h1:p.1.length≤1000000) (h2:p.2.length≤1000000) (hp:Snd.norm p=p):∀ n,n≤c.length→(qbx c n).atKey (cfl p) (.lit (.bool false))=.lit (.bool ((c.take n).any (Snd.same p))):=by
 intro n
 induction n with
 | zero=>intro _;rfl
 | succ n ih =>
  intro hn;obtain ⟨l1,l2⟩:=norm_len h n (by omega)
  rw [Snd.qco c ([],[]) _ n (by omega),qbx,Snd.qhs,hp]
  by_cases e:p=Snd.norm (c.getD n ([],[]))
  ·rw [← e,atKey_put_same (seenD_map c n) (show WideAt.IsKeyLit (cfl p) from trivial),beq_self_eq_true,Bool.or_true]
  ·rw [atKey_put_other (λhe=>e (cfl_inj (by unfold maxLen;omega) (by unfold maxLen;omega) (by unfold maxLen;omega) (by unfold maxLen;omega) he)),ih (by omega),beq_eq_false_iff_ne.2 e,Qk]
theorem norm_norm (c:Snd.Conf):Snd.norm (Snd.norm c)=Snd.norm c:=by
 rcases Snd.q93 c with e | e
 ·rw [e,e]
 ·rw [e,Snd.norm_flip,e]
end Go.Proofs.YtlfaaoalgcbcoaaGreatDoor
namespace Go.Proofs.YtlfaaoalgcbcoaaGreatDoor
open Go.RowKit Go.Maps
open R
attribute [local go_sem] q28 q1o q1v
def CfAt (w:World) (A:Option Addr) (l:CfP):Prop :=
 0<l.length→∃ g off,A=some ⟨g,off,none⟩∧g<w.heap.size∧∀ (j:Nat) x,l[j]? = some x→w.cell? ⟨g,off+j*2,none⟩=some (.string (bs x.1))∧w.cell? ⟨g,off+j*2+1,none⟩=some (.string (bs x.2))
theorem CfAt.bel {w w':World} {A:Option Addr} {l:CfP} (h:CfAt w A l) (hb:Below w.heap.size w w'):CfAt w' A l:=λhl=>by
 obtain ⟨g,off,h1,h2,h3⟩:=h hl;exact ⟨g,off,h1,QK h2 hb.size,λj u hu=>⟨(hb.cell (p:=⟨g,off+j*2,none⟩) h2).trans (h3 j u hu).1,(hb.cell (p:=⟨g,off+j*2+1,none⟩) h2).trans (h3 j u hu).2⟩⟩
theorem CfAt.at_ {w:World} {A:Option Addr} {l:CfP} (h:CfAt w A l) (j:Nat) (hj:j<l.length):∃ g off,A=some ⟨g,off,none⟩∧g<w.heap.size∧w.rangeAt g (off+j*2) [.string (bs (l.getD j ([],[])).1),.string (bs (l.getD j ([],[])).2)]:=by
 obtain ⟨g,off,h1,h2,h3⟩:=h (by omega)
 have he:l[j]? = some (l.getD j ([],[])):=by rw [Qb,Qc hj];rfl
 obtain ⟨a,b⟩:=h3 j _ he;refine ⟨g,off,h1,h2,λi v hv=>?_⟩
 match i,hv with
 | 0,hv=>injection hv with hv;subst hv;exact a
 | 1,hv=>injection hv with hv;subst hv;exact b
theorem cf_rep {S:Nat→Prop} {w:World} {v:Value} {l:CfP} (h:Kd.Rep w S (.sl kCf) l v):∃ A c,v=.slice A l.length c∧CfAt w A l:=by
 obtain ⟨A,c,rfl,hc,h⟩:=h;refine ⟨A,c,rfl,λhl=>?_⟩
 obtain ⟨g,off,rfl,hg,_,hi⟩:=h hl;refine ⟨g,off,rfl,hg,λj x hj=>?_⟩
 obtain ⟨⟨u,hu,hr⟩,⟨u',hu',hr'⟩⟩:=hi j x hj;obtain rfl:u=.string (bs x.1):=hr;obtain rfl:u'=.string (bs x.2):=hr';exact ⟨hu,hu'⟩
theorem rangeAt_bel {w w':World} {g o:Nat} {l:List Value} (h:w.rangeAt g o l) {B:Nat} (hb:Below B w w') (hg:g<B):w'.rangeAt g o l:=λi v hv=>(hb.cell (p:=⟨g,o+i,none⟩) hg).trans (h i v hv)
theorem cf_info:(Tryz.prog.info? 53).map (·.size)=some 2:=by kernel_rfl
theorem no_proper (c:CfP) (k:Nat) (hk:k<c.length) (h:Snd.okC (c.getD k ([],[]))=false):Snd.q0h c=false:=by
 unfold Snd.q0h;rw [Snd.q6h c ([],[]) _ k hk h];simp
theorem no_proper2 (c:CfP) (k:Nat) (hk:k<c.length) (h:(c.take k).any (Snd.same (c.getD k ([],[])))=true):Snd.q0h c=false:=by
 unfold Snd.q0h;rw [Snd.fresh_no c ([],[]) k hk h];simp
theorem qh0 {H:Type} {P:Program} {k:TypeId} {R:Value→Option (DataW H×List MemPlace)} {w w':World} {b n:Nat} {D:DataW H} (h:w.ownsMap P k R b n D) (hb:Below w.heap.size w w'):w'.ownsMap P k R b n D:=by
 have hl:=h.lt;obtain ⟨es,cl,h1,h2⟩:=h;exact ⟨es,cl,(hb.block b hl).trans h1,h2⟩
theorem qhp {P:Program} {e:TypeId} (he:P.underlying e=some .bool) {v:Value} {r:Bool} {ps:List MemPlace} (h:plainElem (H:=Unit) P e v=some (.lit (.bool r),ps)):v=.bool r:=by
 unfold plainElem at h;rw [he] at h;cases v <;> simp at h
 rw [h.1]
theorem look_bool {P:Program} {k e t:TypeId} {w:World} {b n:Nat} {D:DataW Unit} (h:w.ownsMap P k (plainElem P e) b n D) (K:Keyed P k) (ht:P.underlying t=some (.map k e)) (he:P.underlying e=some .bool) (hz:(zeroValue e).run P w=.ok (.bool false) w) {key:Value} {kl:Lit} (hkey:keyOf P k key=some kl) {r:Bool} (hat:D.atKey kl (.lit (.bool false))=.lit (.bool r)) :
  (Instr.lookup t (.map (some b)) key false).run P w=.ok (.bool r) w:=by
 obtain ⟨v,ps,hrun,hv⟩:=h.lookup K ht hz (plainElem_bool he false) hkey;rw [hat] at hv;rw [hrun,qhp he hv]
theorem zero_bool (w:World):(zeroValue 4).run Tryz.prog w=.ok (.bool false) w:=by kernel_rfl
theorem okC_parts (p:Snd.Conf):Snd.okC p=(Snd.q0b p.1 1 3&&(Snd.q0b p.2 1 3&&!(p.1==p.2))):=rfl
set_option maxRecDepth 100000 in
set_option maxHeartbeats 4000000 in
theorem qlv (c:CfP) (A:Option Addr) (cap:Nat) (w:World) (hL:q0n c) (hA:CfAt w A c) :
  Calls Tryz.prog 86 #[.slice A c.length cap] w λe w'=>e=.returned (.bool (Snd.q0h c))∧Below w.heap.size w w':=by
 have hmm:=@run_makeMap Tryz.prog;have hn:c.length≤1000000:=hL.1;have HL:=Q0 hL;have HA:=Q0 hA;clear hL hA
 go_enter Tryz.func86,Tryz.ntmps86
 go_wp2
 go_loopw [9] (λv wr=>∃ k:Nat,v=.int .i64 k∧k≤c.length∧wr.ownsMap Tryz.prog 53 (plainElem Tryz.prog 4) w.heap.size k (qbx c k)∧Below w.heap.size w wr∧(c.take k).all Snd.okC=true∧Snd.fresh (c.take k)=true) (λv _=>c.length-(intOf v).toNat)
 case atStart=>exact ⟨0,rfl,Qs _,World.ownsMap_made _ _ _ _,q0g (q06 w) _,rfl,rfl⟩
 case round =>
  obtain ⟨k,rfl,hk,hown,hbr,hok,hfr⟩:=hrel;have hszr:=hown.lt;have HOK:=Q0 hok;have HFR:=Q0 hfr;have HOWN:=Q0 hown;have HBR:=Q0 hbr;clear hok hfr hown hbr;by_cases hlt:k<c.length
  ·obtain ⟨g,off,rfl,hg,hrg⟩:=HA.out.at_ k hlt
   have hrg:=rangeAt_bel hrg HBR.out hg;have hnl:=norm_len HL.out k hlt;have hpl:=HL.out.2 _ (Snd.q1n c ([],[]) k hlt);have hno1:=no_proper c k hlt;have hno2:=no_proper2 c k hlt;have hfst:=Snd.qf0 c ([],[]) k hlt;have host:=Snd.q4t c ([],[]) Snd.okC k hlt;have hseen:qbx c (k+1)=(qbx c k).put (cfl (Snd.norm (c.getD k ([],[])))) (.lit (.bool true)):=rfl;generalize c.getD k ([],[])=p at *
   obtain ⟨x,y⟩:=p;have HRG:=Q0 hrg;have HNO1:=Q0 hno1;have HNO2:=Q0 hno2;have HFST:=Q0 hfst;have HOST:=Q0 host;have HSEEN:=Q0 hseen;have HNL:=Q0 hnl;clear hrg hno1 hno2 hfst host hseen hnl;obtain ⟨n1,n2,hnm,hln1,hln2⟩:∃ n1 n2:List UInt8,Snd.norm (x,y)=(n1,n2)∧n1.length≤1000000∧n2.length≤1000000:=⟨_,_,rfl,HNL.out.1,HNL.out.2⟩;have hok:Snd.okC (x,y)=(Snd.q0b n1 1 3&&(Snd.q0b n2 1 3&&!(n1==n2))):=by rw [← Snd.okC_norm,hnm,okC_parts]
   have hsm:(qbx c k).atKey (cfl (n1,n2)) (.lit (.bool false))=.lit (.bool ((c.take k).any (Snd.same (x,y)))):=by
    have:=at_seen HL.out (n1,n2) hln1 hln2 (by rw [← hnm];exact norm_norm _) k hk
    rw [this]
    congr 2
    rw [show Snd.same (n1,n2)=Snd.same (x,y) from funext λd=>by rw [Snd.qhs,Snd.qhs,← hnm,norm_norm]]
   have hkey:=key_cf (n1,n2) (show n1.length≤maxLen by unfold maxLen;omega) (show n2.length≤maxLen by unfold maxLen;omega)
   have HOKC:=Q0 hok;have HSM:=Q0 hsm;have HKEY:=Q0 hkey;clear hok hsm hkey;have three:(Q5 (bs x).toList (bs y).toList=true∧n1=x∧n2=y)∨(Q5 (bs x).toList (bs y).toList=false∧((bs x).toList==(bs y).toList)=true∧n1=x∧n2=y)∨(Q5 (bs x).toList (bs y).toList=false∧((bs x).toList==(bs y).toList)=false∧n1=y∧n2=x):=by
    rw [Q8,Q8,q2r,q2r];unfold Snd.norm at hnm;cases h1:Q5 x y <;> cases h2:x==y <;> simp only [h1,h2] at hnm
    ·exact .inr (.inr ⟨rfl,rfl,(congrArg QP hnm).symm,(congrArg QQ hnm).symm⟩)
    ·exact .inr (.inl ⟨rfl,rfl,(congrArg QP hnm).symm,(congrArg QQ hnm).symm⟩)
    ·exact .inl ⟨rfl,(congrArg QP hnm).symm,(congrArg QQ hnm).symm⟩
    ·exact .inl ⟨rfl,(congrArg QP hnm).symm,(congrArg QQ hnm).symm⟩
   have HNM:=Q0 hnm;clear hnm hpl;have hbl0:=q0g HBR.out (.cells #[.string (bs n1),.string (bs n2)] 53);have hblk0:=Blk.new wr 53 #[.string (bs n1),.string (bs n2)];have hown0:=HOWN.out.alloc (.cells #[.string (bs n1),.string (bs n2)] 53);have HBL0:=Q0 hbl0;have HBLK0:=Q0 hblk0;have HOWN0:=Q0 hown0;clear hbl0 hblk0 hown0;rcases three with ⟨hc1,e1,e2⟩ | ⟨hc1,hc2,e1,e2⟩ | ⟨hc1,hc2,e1,e2⟩
   all_goals
    subst e1;subst e2
    go_wp2_with (first | (refine wpList_load_mid rfl 53 _ rfl g (off+k*2) rfl [.string (bs _),.string (bs _)] _ HRG.out Tryz.underlying53 rfl cf_info ?_))
    refine (qfz _ 1 3 _ (by assumption)).mono ?_
    rintro e w2 ⟨rfl,hb2⟩;have HB2:=Q0 hb2;have hblk2:=HBLK0.out.bel hb2;have c0:=hblk2.cell 0;have c1:=hblk2.cell 1;have HBLK2:=Q0 hblk2;clear hb2 hblk2;cases hl1:Snd.q0b n1 1 3
    ·have hf:=HNO1.out (by rw [HOKC.out,hl1];rfl)
     have HF:=Q0 hf;clear hf hl1
     go_wp2
     go_ret
     exact ⟨q3o HF.out.symm,q4c HBL0.out HB2.out⟩
    ·have HL1:=Q0 hl1
     clear hl1
     go_wp2_with fail
     refine (qfz _ 1 3 _ (by assumption)).mono ?_
     rintro e w3 ⟨rfl,hb3⟩;have hbl3:=q4c (q4c HBL0.out HB2.out) hb3;have hblk3:=HBLK2.out.bel hb3;have hown3:=qh0 (qh0 HOWN0.out HB2.out) hb3;have hr3:w3.rangeAt wr.heap.size 0 [.string (bs n1),.string (bs n2)]:=λi v hv=>by
      rw [QJ];exact (hblk3.cell i).trans (by rw [← hv];simp)
     have hld:(Instr.loadAt 53 (.pointer (some ⟨wr.heap.size,0,none⟩))).run Tryz.prog w3=.ok (.agg #[.string (bs n1),.string (bs n2)]) w3:=run_loadAt_mid w3 wr.heap.size 0 _ _ _ hr3 Tryz.underlying53 rfl cf_info;have hlk:=look_bool hown3 cf_law Tryz.underlying168 Tryz.underlying4 (zero_bool w3) HKEY.out HSM.out;unfold cfv at hlk;simp only [] at hlk;have HBL3:=Q0 hbl3;have HBLK3:=Q0 hblk3;have HOWN3:=Q0 hown3;have d0:=hblk3.cell 0;have d1:=hblk3.cell 1;clear hb3 hbl3 hblk3 hown3 hr3 c0 c1;cases hl2:Snd.q0b n2 1 3
     ·have hf:=HNO1.out (by rw [HOKC.out,HL1.out,hl2];rfl)
      have HF:=Q0 hf;clear hf hl2
      go_wp2
      go_ret
      exact ⟨q3o HF.out.symm,HBL3.out⟩
     ·have HL2:=Q0 hl2
      clear hl2;cases heq:((bs n1).toList==(bs n2).toList)
      ·try (exfalso;rw [hc2] at heq;exact Qg heq)
       all_goals
        have hne:(n1==n2)=false:=by rwa [Q8,Q8,q2r,q2r] at heq
        have hok1:=HOKC.out;rw [HL1.out,HL2.out,hne] at hok1;have HOK1:=Q0 hok1;clear hne hok1;cases hsn:(c.take k).any (Snd.same _)
        ·rw [hsn] at hlk
         have HSN:=Q0 hsn;clear hsn
         go_wp2_with (first | (at_mapUpdate;refine wpList_mapUpdate_own _ rfl _ _ _ 168 rfl 53 4 cf_law Tryz.underlying168 _ w.heap.size k _ rfl HOWN3.out (by unfold maxLen;omega) _ _ _ rfl rfl HKEY.out _ [] (plainElem_bool Tryz.underlying4 true) ?_;intro w4 hown4 hgrow4;have HOWN4:=Q0 hown4;have HG4:=Q0 hgrow4;clear hown4 hgrow4))
         have g1:w4.ownsMap Tryz.prog 53 (plainElem Tryz.prog 4) w.heap.size (k+1) (qbx c (k+1)):=by
          have:=HOWN4.out
          rw [HSEEN.out,HNM.out];exact this
         have g2:Below w.heap.size w w4:=bel_grown HBL3.out HG4.out (λj hj=>by cases hj;exact QA _)
         have g3:(c.take (k+1)).all Snd.okC=true:=by rw [HOST.out,HOK.out,HOK1.out];rfl
         have g4:Snd.fresh (c.take (k+1))=true:=by rw [HFST.out,HFR.out,HSN.out];rfl
         go_roundw
         all_goals first | rfl | exact ⟨k+1,by go_num,hlt,g1,g2,g3,g4⟩ | (simp [intOf];omega)
        ·rw [hsn] at hlk
         have hf:=HNO2.out hsn;have HF:=Q0 hf;clear hf hsn
         go_wp2
         go_ret
         exact ⟨q3o HF.out.symm,HBL3.out⟩
      ·have he:(n1==n2)=true:=by rwa [Q8,Q8,q2r,q2r] at heq
       have hf:=HNO1.out (by rw [HOKC.out,HL1.out,HL2.out,he];rfl)
       have HF:=Q0 hf;clear hf he
       go_wp2
       go_ret
       exact ⟨q3o HF.out.symm,HBL3.out⟩
  ·obtain rfl:k=c.length:=by omega
   have hok:=HOK.out;have hfr:=HFR.out;rw [List.take_length] at hok hfr;have hv:Snd.q0h c=decide (c.length≤200):=by
    unfold Snd.q0h;rw [hok,hfr,QF,QF]
   have HV:=Q0 hv;clear hok hfr hv
   go_wp2
   go_ret
   refine ⟨q3o ?_,HBR.out⟩;rw [HV.out];exact decide_eq_decide.2 (by omega)
end Go.Proofs.YtlfaaoalgcbcoaaGreatDoor
namespace Go.Proofs.YtlfaaoalgcbcoaaGreatDoor
open Go.RowKit Go.Maps Go.Shelf
attribute [local go_sem] q28 q1o q1v Qz
theorem alike_mk (c:CfP) (A:Option Addr) (cap:Nat) (s:List UInt8) (w:World) :
  Calls Tryz.prog 112 #[.slice A c.length cap,.string (bs s)] w λe w'=>e=.returned (.func (.func 134) #[] #[.pointer (some ⟨w.heap.size+1,0,none⟩),.pointer (some ⟨w.heap.size,0,none⟩)]) ∧
   w'=(w.alloc (.cells #[.slice A c.length cap] 25)).alloc (.cells #[.string (bs s)] 9):=by
 go_enter Tryz.func112,Tryz.ntmps112
 go_wp2
 go_ret
 exact ⟨rfl,rfl⟩
theorem grown_drewN (w:World) (n:Nat):w.grownBy (w.drewN n) none:=⟨rfl,rfl,rfl,QA _,λ_ _ _=>rfl⟩
def Mine:Obj→Bool
 | .cells _ t _=>t==9||(t==25||(t==53||t==181))
 | .stringIter ..=>true
 | _=>false
structure KpM (B0:Nat) (W W':World):Prop where
 old:∀ g,g<B0→W'.heap[g]? = W.heap[g]?
 size:W.heap.size≤W'.heap.size
 mine:∀ (g:Nat) o,W.heap[g]? = some o→Mine o=true→W'.heap[g]? = some o
theorem KpM.trans {B0:Nat} {A B C:World} (h:KpM B0 A B) (k:KpM B0 B C):KpM B0 A C :=
 ⟨λg hg=>(k.old g hg).trans (h.old g hg),Nat.le_trans h.size k.size,λg o ho hm=>k.mine g o (h.mine g o ho hm) hm⟩
structure SLay (W:World) (B0 bw bl:Nat) (A:Option Addr) (cap:Nat) (c:CfP) (s:List UInt8):Prop where
 word:Blk W bw 9 #[.string (bs s)]
 list:Blk W bl 25 #[.slice A c.length cap]
 cfs:0<c.length→∃ g off,A=some ⟨g,off,none⟩∧g<B0∧∀ (j:Nat) x,c[j]? = some x→W.cell? ⟨g,off+j*2,none⟩=some (.string (bs x.1))∧W.cell? ⟨g,off+j*2+1,none⟩=some (.string (bs x.2))
section
variable {W W':World} {B0 bw bl:Nat} {A:Option Addr} {cap:Nat} {c:CfP} {s:List UInt8}
theorem SLay.keep (h:SLay W B0 bw bl A cap c s) (k:KpM B0 W W'):SLay W' B0 bw bl A cap c s :=
 ⟨k.mine _ _ h.word rfl,k.mine _ _ h.list rfl,λhl=>by
  obtain ⟨g,off,h1,h2,h3⟩:=h.cfs hl;exact ⟨g,off,h1,h2,λj x hj=>⟨(Q9 (a:=⟨g,off+j*2,none⟩) (k.old g h2)).trans (h3 j x hj).1,(Q9 (a:=⟨g,off+j*2+1,none⟩) (k.old g h2)).trans (h3 j x hj).2⟩⟩⟩
theorem SLay.alloc (h:SLay W B0 bw bl A cap c s) (hB:B0≤W.heap.size) (o:Obj):SLay (W.alloc o) B0 bw bl A cap c s :=
 ⟨h.word.alloc o,h.list.alloc o,λhl=>by
  obtain ⟨g,off,h1,h2,h3⟩:=h.cfs hl;have e:(W.alloc o).heap[g]? = W.heap[g]? := QR W o g (by omega)
  exact ⟨g,off,h1,h2,λj x hj=>⟨(Q9 (a:=⟨g,off+j*2,none⟩) e).trans (h3 j x hj).1,(Q9 (a:=⟨g,off+j*2+1,none⟩) e).trans (h3 j x hj).2⟩⟩⟩
theorem SLay.drewN (h:SLay W B0 bw bl A cap c s) (n:Nat):SLay (W.drewN n) B0 bw bl A cap c s:=⟨h.word,h.list,h.cfs⟩
theorem SLay.put (h:SLay W B0 bw bl A cap c s) {D:Nat} (hB:B0≤D) {o:Obj} (hD:W.heap[D]? = some o) (ho:o.isCells=false) (o':Obj):SLay (W.putObj D o') B0 bw bl A cap c s:=by
 have ne:∀ g t cs,Blk W g t cs→g≠D:=λg t cs hb e=>by
  subst e;unfold Blk at hb;rw [hb] at hD;injection hD with hD;subst hD;cases ho
 refine ⟨(Qa (ne _ _ _ h.word)).trans h.word,(Qa (ne _ _ _ h.list)).trans h.list,λhl=>?_⟩
 obtain ⟨g,off,h1,h2,h3⟩:=h.cfs hl;have e:(W.putObj D o').heap[g]? = W.heap[g]? := Qa (by omega)
 exact ⟨g,off,h1,h2,λj x hj=>⟨(Q9 (a:=⟨g,off+j*2,none⟩) e).trans (h3 j x hj).1,(Q9 (a:=⟨g,off+j*2+1,none⟩) e).trans (h3 j x hj).2⟩⟩
theorem SLay.at_ (h:SLay W B0 bw bl A cap c s) (j:Nat) (hj:j<c.length):∃ g off,A=some ⟨g,off,none⟩∧g<B0∧W.rangeAt g (off+j*2) [.string (bs (c.getD j ([],[])).1),.string (bs (c.getD j ([],[])).2)]:=by
 obtain ⟨g,off,h1,h2,h3⟩:=h.cfs (by omega)
 have he:c[j]? = some (c.getD j ([],[])):=by rw [Qb,Qc hj];rfl
 obtain ⟨a,b⟩:=h3 j _ he;refine ⟨g,off,h1,h2,λi v hv=>?_⟩
 match i,hv with
 | 0,hv=>injection hv with hv;subst hv;exact a
 | 1,hv=>injection hv with hv;subst hv;exact b
theorem SLay.cells (h:SLay W B0 bw bl A cap c s):W.cell? ⟨bw,0,none⟩=some (.string (bs s))∧W.cell? ⟨bl,0,none⟩=some (.slice A c.length cap):=⟨h.word.cell 0,h.list.cell 0⟩
theorem next_let {P:Program} (ty:TypeId) (D i:Nat) (hD:W.heap[D]? = some (.stringIter (bs s) i)) (hi:i<s.length) (hl:Snd.letB (s.getD i 0)=true) :
  (Qr (.pointer (some ⟨D,0,none⟩)) true ty).run P W=.ok (.tuple #[.bool true,.int .i64 i,.int .i32 (s.getD i 0).toNat]) (W.putObj D (.stringIter (bs s) (i+1))):=by
 have hi':i<(bs s).size:=hi;have hd:=((rune_is s i hi').2.1 hl).1;simp only [Qr,getObj,setObj,Sem.run_bind,Sem.run,We,hD,hi',if_true,hd];simp [goInt,World.putObj]
theorem qfo {P:Program} (ty:TypeId) (D i:Nat) (hD:W.heap[D]? = some (.stringIter (bs s) i)) (hi:¬ i<s.length) :
  (Qr (.pointer (some ⟨D,0,none⟩)) true ty).run P W=.ok (.tuple #[.bool false]) W:=by
 have hi':¬ i<(bs s).size:=hi;simp only [Qr,getObj,Sem.run_bind,Sem.run,We,hD,hi',if_false];rfl
theorem iterPos_of {D i:Nat} {s:ByteArray} (hD:W.heap[D]? = some (.stringIter s i)):W.iterPos D=i:=by unfold World.iterPos;rw [hD]
end
end Go.Proofs.YtlfaaoalgcbcoaaGreatDoor
namespace Go.Proofs.YtlfaaoalgcbcoaaGreatDoor
open Go.RowKit
section
variable {P:Program} {ops:Array Oper} {md:Region.Mode} {C:World→Prop} {m:Nat}
theorem qem {i:Nat} {a:Act} {K:Act→Prop} {K':Act→World→Prop} {Q':Exit→Act→World→Prop} {w:World} (hC:C w) (h:∀ a w',C w'→K a→K' a w')
  (hh:qOp P ops C i K a):wpOpIn Q4 m P ops Q' i K' a w:=by
 unfold qOp at hh;unfold wpOpIn;split
 ·rename_i ho;simp only [ho] at hh;exact h _ _ hC hh
 ·rename_i o ho
  simp only [ho] at hh;split
  ·rename_i hw
   simp only [hw,if_true] at hh;obtain ⟨v,h1,h2⟩:=hh;have h3:=h1 w hC;unfold Oper.quietAt at h3;unfold Oper.wpIn;refine ⟨λ_ _=>trivial,?_⟩
   rw [show Q4.round=none from rfl,Oper.semAt_none];generalize (execOp a.eval o).run P w=r at *
   cases r with
   | ok x w' =>
    cases x <;> simp only [Wh] at h3 <;> simp only [QN]
    case value u =>
     obtain ⟨e1,e2⟩:=h3;rw [e1,e2];exact h _ _ hC h2
    case skip =>
     obtain ⟨e1,e2⟩:=h3;rw [e1,← e2];exact h _ _ hC h2
    case enter f args =>
     obtain ⟨e1,hc⟩:=h3;rw [e1];refine ⟨λhd=>(by cases hd),callsIn_wide.2 (hc.mono λe w'' ⟨he,hw''⟩=>by subst he;exact h _ _ hw'' h2)⟩
   | halt x w'=>simp only [Wh] at h3
  ·rename_i hw
   simp only [hw] at hh;exact ⟨λ_ _=>trivial,h _ _ hC hh⟩
theorem qbm {n g:Nat} {L:Array Bool→Act→Prop} {Q':Exit→Act→World→Prop} (hL:∀ listed a w,C w→L listed a→wpAnyIn Q4 m P md ops Q' g listed a w) :
  ∀ (f:Nat) (listed:Array Bool) (a:Act) (w:World),C w→q6p P md ops C n L f listed a→wpAnyIn Q4 m P md ops Q' (f+g) listed a w
 | 0,listed,a,w,hw,h=>by rw [QJ];exact hL _ _ _ hw h
 | f+1,listed,a,w,hw,h=>by
  rw [show f+1+g=(f+g)+1 by omega]
  exact ⟨λh0=>absurd h0 h.1,λi hi=>qem hw (λa' w' hw' h'=>qbm hL f _ a' w' hw' h') (h.2 i hi).2⟩
theorem qbl {Q:Act→Prop} {Q':Exit→Act→World→Prop} (hQ:∀ a w,C w→Q a→Q' .normal a w):∀ (fuel:Nat) (listed:Array Bool) (a:Act) (w:World),C w →
  wpAnyQ P md ops C Q fuel listed a→wpAnyIn Q4 m P md ops Q' fuel listed a w
 | 0,_,_,_,hw,h=>⟨h.1,hQ _ _ hw h.2⟩
 | fuel+1,_,_,_,hw,h=>⟨λh0=>hQ _ _ hw (h.1 h0),λi hi=>qem hw (λa' w' hw'=>qbl hQ fuel _ a' w' hw') (h.2 i hi)⟩
theorem uponIn_then {o:Oper} {a:Act} {next K:Act→World→Prop} {Q:Exit→Act→World→Prop} {r:Result Next} (h:o.uponIn Q4 m P a next (Exit.then K Q) r):o.uponIn Q4 m P a next Q r:=by
 cases r with
 | ok n w' =>
  cases n <;> simp only [QN] at h ⊢ <;> exact h
 | halt x w' =>
  cases x <;> simp only [QN] at h ⊢ <;> exact h
theorem qeg {id:Nat} {Q:Exit→Act→World→Prop} {a:Act} {w:World} {l:List Oper} (n:Nat) (hm:P.follows .mixedOrders=true) (hB:q5y .any l.toArray n=true) (hC:C { w with drawn:=w.drawn+1 })
  (h:wpQuiet P l.toArray C (λa'=>∀ w',C w'→wpListIn Q4 m P l.toArray (Exit.then (λa2 w2=>wpQuiet P l.toArray (λx=>x=w2) (λa3=>Q .normal a3 w2) (l.drop (n+1)) a2) Q) ((l.drop n).take 1) a' w') (l.take n) a) :
  (Code.region id l.toArray true).wpIn Q4 m P Q a w:=by
 simp only [q5y,Q6,decide_eq_true_eq] at hB;obtain ⟨⟨⟨⟨hsel,hn⟩,hs⟩,hc⟩,hlex⟩:=hB;have hn':n<l.length:=by simpa using hn
 have htl:(l.take n).length=n:=by simp;omega
 have inv0:HeadInv .any l.toArray n (Array.replicate l.toArray.size false) :=
  ⟨by simp,λj oj _ hl=>(by rw [getD_replicate_false] at hl;cases hl),λt _ ht=>getD_in (by simpa using ht) (getD_replicate_false _ _)⟩
 have H:=qat (md:=.any) hsel hs hc hn (l.take n) 0 _ a (λj hj=>by
  have hj':j<n:=by rw [htl] at hj;exact hj
  simp [hj']) (by simpa using htl) inv0 (by rw [htl];exact hlex) h
 refine wpIn_region_any hm ?_;have:=qbm (m:=m) (Q':=Q) (g:=(l.toArray.size-(n+1))+1) (λlisted a' w' hw' hL=>by
  obtain ⟨⟨hr,hf⟩,hq⟩:=hL;have hq:=hq w' hw';refine ⟨λh0=>(by rw [hr] at h0;cases h0),λi hi=>?_⟩
  obtain rfl:i=n:=by rw [hr] at hi;simpa using hi
  have ho:l.toArray[i]? = some l[i]:=by simp [hn']
  have hone:(l.drop i).take 1=[l[i]]:=by rw [Qt hn'];rfl
  have fin:∀ a2 w2,wpQuiet P l.toArray (λx=>x=w2) (λa3=>Q .normal a3 w2) (l.drop (i+1)) a2→wpAnyIn Q4 m P .any l.toArray Q (l.toArray.size-(i+1)) (listed.setIfInBounds i true) a2 w2:=by
   intro a2 w2 hq2;have hd:(l.drop (i+1)).length=l.toArray.size-(i+1):=by simp
   have h4:=wpAnyQ_lex (C:=λx=>x=w2) (md:=.any) hsel (l.drop (i+1)) (i+1) (listed.setIfInBounds i true) a2 (λj=>by simp [List.getElem?_drop]) (by rw [hd];exact hf) hq2
   rw [hd] at h4;exact qbl (C:=λx=>x=w2) (Q:=λa3=>Q .normal a3 w2) (λa3 w3 hw3 h5=>by rw [hw3];exact h5) _ _ _ _ rfl h4
  rw [hone] at hq;unfold wpListIn at hq;unfold wpOpIn;simp only [ho];split
  ·rename_i hw
   rw [if_pos hw] at hq;refine Oper.wpIn_mono (λa2 w2 h2=>fin a2 w2 h2) ⟨hq.1,uponIn_then hq.2⟩
  ·rename_i hw
   rw [if_neg hw] at hq;exact ⟨hq.1,fin _ _ hq.2⟩) _ _ _ _ hC H
 rw [htl,show n+((l.toArray.size-(n+1))+1)=l.toArray.size by omega] at this
 exact this
end
theorem qee {P:Program} {id m:Nat} {Q:Exit→Act→World→Prop} {a:Act} {w:World} {l:List Oper} (n:Nat) (hm:P.follows .mixedOrders=true) (hB:q5y .any l.toArray n=true)
  (h:wpQuiet P l.toArray (λw'=>∃ k,w'=w.drewN k) (λa'=>∀ w',(∃ k,w'=w.drewN k)→wpListIn Q4 m P l.toArray (Exit.then (λa2 w2=>wpQuiet P l.toArray (λx=>x=w2) (λa3=>Q .normal a3 w2) (l.drop (n+1)) a2) Q) ((l.drop n).take 1) a' w') (l.take n) a) :
  (Code.region id l.toArray true).wpIn Q4 m P Q a w :=
 qeg (C:=λw'=>∃ k,w'=w.drewN k) n hm hB ⟨1,rfl⟩ h
end Go.Proofs.YtlfaaoalgcbcoaaGreatDoor
namespace Go.Proofs.YtlfaaoalgcbcoaaGreatDoor
open Go.RowKit Go.Maps Go.Shelf
attribute [local go_sem] q28 q1o q1v Qz
def restW (s:List UInt8) (i:Nat) (x y:List UInt8):Nat→List (List UInt8)
 | 0=>Snd.q2y s i (x,y)++Snd.q2y s i (y,x)
 | 1=>Snd.q2y s i (y,x)
 | _=>[]
theorem way_at (s:List UInt8) (i:Nat) (x y:List UInt8) (m:Nat) (hm:m<2) (hx:x.length≤1000000) (hy:y.length≤1000000):∃ a b,restW s i x y m=Snd.q2y s i (a,b)++restW s i x y (m+1)∧a.length≤1000000∧b.length≤1000000 ∧
  ∀ (w:World) (g:Nat) (t:TypeId),Blk w g t #[.string (bs x),.string (bs y),.string (bs y),.string (bs x)]→w.rangeAt g (m*2) [.string (bs a),.string (bs b)]:=by
 match m,hm with
 | 0,_ =>
  refine ⟨x,y,rfl,hx,hy,λw g t h j v hv=>?_⟩
  match j,hv with
  | 0,hv=>injection hv with hv;subst hv;exact h.cell 0
  | 1,hv=>injection hv with hv;subst hv;exact h.cell 1
 | 1,_ =>
  refine ⟨y,x,by simp [restW],hy,hx,λw g t h j v hv=>?_⟩
  match j,hv with
  | 0,hv=>injection hv with hv;subst hv;exact h.cell 2
  | 1,hv=>injection hv with hv;subst hv;exact h.cell 3
theorem q9n {W:World} {D:Nat} {o:Obj} (o':Obj) (h:W.heap[D]? = some o):(W.alloc o').heap[D]? = some o :=
 (QR W o' D (Qh.1 h).1).trans h
theorem two_info:(Tryz.prog.info? 181).map (·.size)=some 2:=by kernel_rfl
theorem cutRep_one (s:List UInt8) (i:Nat) (a b:List UInt8) (h:a.isPrefixOf (s.drop i)=true):Snd.q2y s i (a,b)=[s.take i++b++(s.drop i).drop a.length]:=by unfold Snd.q2y;rw [if_pos h]
theorem cutRep_none (s:List UInt8) (i:Nat) (a b:List UInt8) (h:a.isPrefixOf (s.drop i)=false):Snd.q2y s i (a,b)=[]:=by unfold Snd.q2y;rw [if_neg (by rw [h];exact Qg)]
set_option maxRecDepth 100000 in
set_option maxHeartbeats 4000000 in
theorem alike_in (n:Nat) (hn:1≤n) (l B0 bw bl:Nat) (A:Option Addr) (cap:Nat) (c:CfP) (s:List UInt8) (hs:s.length≤12) (hl:s.all Snd.letB=true) (hc:c.length≤1000000) (hcl:∀ x∈c,x.1.length≤1000000∧x.2.length≤1000000)
  (J Jx:List (List UInt8)→World→Prop) (PL:List (List UInt8)) (hPL:PL=Snd.q76 c s)
  (hY:∀ pre x W,J pre W→pre.length<PL.length→YieldAt Q4 (n-1) Tryz.prog l #[.string (bs x)] W λe W'=>(e=.returned (.bool true)∧J (pre++[x]) W'∧KpM B0 W W')∨(e=.returned (.bool false)∧Jx (pre++[x]) W'))
  (W:World) (hB0:B0≤W.heap.size) (hJ:AbidesFrom W.heap.size J) (hW:SLay W B0 bw bl A cap c s) (h0:J [] W) :
  CallsIn Q4 n Tryz.prog 134 #[.func (.yield l) #[] #[],.pointer (some ⟨bw,0,none⟩),.pointer (some ⟨bl,0,none⟩)] W λe W' =>
   (∃ v,e=.returned v)∧((∃ ys,ys=PL∧J ys W')∨(∃ pre,pre <+: PL∧Jx pre W')):=by
 refine callsIn_of_wp Tryz.func134 rfl trivial ?_ rfl;simp only [Tryz.ntmps134,List.size_toArray,List.length_cons,QW,Nat.reduceAdd,Nat.reduceSub,Array.replicate_succ,Array.replicate_zero,List.push_toArray,List.append_toArray,Qq,QS];have HY:=Q0 hY;have HPL:=Q0 hPL;have HCL:=Q0 hcl;have HJA:=Q0 (λpre W' o (h:J pre W')=>hJ pre W' _ none h (World.grownBy_alloc W' o none) (λr e=>by cases e))
 have HJD:=Q0 (λpre W' k (h:J pre W')=>hJ pre W' _ none h (grown_drewN W' k) (λr e=>by cases e))
 have HJP:=Q0 (λpre W' D o o' (h:J pre W') (hB:W.heap.size≤D) (hD:W'.heap[D]? = some o) (ho:o.isWalk=true)=>hJ pre W' _ (some D) h (grownBy_putObj' W' D o') (λr e=>by cases e;exact ⟨hB,o,hD,ho⟩))
 have HL:=Q0 hl;clear hY hPL hcl hJ hl;obtain ⟨hw0,hl0⟩:=hW.cells;obtain ⟨fn,tmps,assign,body,hy,hR⟩:=HY.out [] s W h0 (by rw [HPL.out];simp [Snd.q76])
 have HW:=Q0 hW;clear hW h0;refine wpIn_wide.2 ?_
 go_upto_region 0 with fail
 refine (wpIn_wide (n:=n)).1 ?_
 gi_wp2
 refine hR.mono ?_;clear hR hy;rintro e W1 (⟨rfl,hJ1,hk1⟩ | ⟨rfl,hJx1⟩)
 ·have hW1:=HW.out.keep hk1
  have hz1:=hk1.size;obtain ⟨w1,l1⟩:=hW1.cells;have HW1:=Q0 hW1;have HJ1:=Q0 hJ1;clear hW1 hk1 hJ1 HW hw0 hl0
  gi_wp2
  go_wp2
  go_loopw [4] (λv wr=>∃ (i:Nat) (pre:List (List UInt8)),i≤s.length∧PL=pre++Snd.q6r c s (s.length-i) i∧J pre wr∧SLay wr B0 bw bl A cap c s∧W1.heap.size<wr.heap.size∧wr.heap[W1.heap.size]? = some (.stringIter (bs s) i)) (λ_ wr=>s.length-wr.iterPos W1.heap.size)
  case atStart=>exact ⟨0,[s],Qs _,by rw [HPL.out];rfl,HJA.out _ _ _ HJ1.out,HW1.out.alloc (by omega) _,by simp [World.iter],World.iter_heap _ _ _⟩
  case round =>
   obtain ⟨i,pre,hi,hpl,hJr,hLr,hzr,hD⟩:=hrel;have HPL2:=Q0 hpl;clear hpl;by_cases hlt:i<s.length
   ·have hlet:Snd.letB (s.getD i 0)=true:=Qm.1 HL.out _ (Snd.q1n s 0 i hlt)
    have hnx:∀ ty,(Qr (.pointer (some ⟨W1.heap.size,0,none⟩)) true ty).run Tryz.prog wr=_:=λty=>next_let ty _ i hD hlt hlet
    have hip:=iterPos_of hD;have HIP:=Q0 hip;clear hip;have hJp:=HJP.out pre wr _ _ (.stringIter (bs s) (i+1)) hJr (by omega) hD rfl
    have hLp:=hLr.put (by omega) hD rfl (.stringIter (bs s) (i+1))
    have hDp:(wr.putObj W1.heap.size (.stringIter (bs s) (i+1))).heap[W1.heap.size]? = some (.stringIter (bs s) (i+1)):=World.putObj_heap_same hzr;have hzp:(wr.putObj W1.heap.size (.stringIter (bs s) (i+1))).heap.size=wr.heap.size:=World.putObj_size;generalize wr.putObj W1.heap.size (.stringIter (bs s) (i+1))=wp at *
    obtain ⟨hpw,hpl⟩:=hLp.cells;have HJP2:=Q0 hJp;have HLP:=Q0 hLp;have HDP:=Q0 hDp;clear hJr hLr hD hJp hLp hDp hlet w1 l1
    go_wp2
    go_loopw [22] (λv wy=>∃ (k:Nat) (pre:List (List UInt8)),v=.int .i64 k∧k≤c.length∧PL=pre++((c.drop k).flatMap (Snd.wayL s i)++Snd.q6r c s (s.length-(i+1)) (i+1))∧J pre wy∧SLay wy B0 bw bl A cap c s∧W1.heap.size<wy.heap.size∧wy.heap[W1.heap.size]? = some (.stringIter (bs s) (i+1))) (λv _=>c.length-(intOf v).toNat)
    case atStart =>
     refine ⟨0,pre,rfl,Qs _,?_,HJP2.out,HLP.out,by omega,HDP.out⟩
     rw [HPL2.out,show s.length-i=s.length-(i+1)+1 by omega]
     rfl
    case round =>
     obtain ⟨k,pre2,rfl,hk,hpl2,hJy,hLy,hzy,hDy⟩:=hrel;have HPL3:=Q0 hpl2;have HJY:=Q0 hJy;have HDY:=Q0 hDy;clear hpl2 hJy hDy HJP2 HLP HDP hpw hpl HPL2;obtain ⟨hyw,hyl⟩:=hLy.cells;by_cases hkc:k<c.length
     ·obtain ⟨g,off,hA,hg,hrg⟩:=hLy.at_ k hkc
      have hxl:=HCL.out _ (Snd.q1n c ([],[]) k hkc);have hdr:(c.drop k).flatMap (Snd.wayL s i)=Snd.q2y s i (c.getD k ([],[]))++(Snd.q2y s i (Snd.flip (c.getD k ([],[])))++(c.drop (k+1)).flatMap (Snd.wayL s i)):=by
       rw [Qt hkc,List.flatMap_cons,Qb,Qc hkc];show Snd.q2y s i c[k]++Snd.q2y s i (Snd.flip c[k])++_=_;rw [Qi];rfl
      have hpl4:=HPL3.out;rw [hdr] at hpl4;have HPL4:=Q0 hpl4;clear hdr hpl4 HPL3;generalize c.getD k ([],[])=p at *
      obtain ⟨x,y⟩:=p;have HRG:=Q0 hrg;have HLY:=Q0 hLy;clear hrg hLy
      go_wp2_with (first | (refine wpList_load_mid rfl 53 _ rfl g (off+k*2) (by rw [hA];rfl) [.string (bs x),.string (bs y)] _ HRG.out Tryz.underlying53 rfl cf_info ?_))
      have hj:=HJA.out _ _ (.cells #[.string (bs x),.string (bs y),.string (bs y),.string (bs x)] 181) (HJA.out _ _ (.cells #[.string (bs x),.string (bs y)] 53) HJY.out);have hly:=(HLY.out.alloc (by omega) (.cells #[.string (bs x),.string (bs y)] 53)).alloc (by simp;omega) (.cells #[.string (bs x),.string (bs y),.string (bs y),.string (bs x)] 181)
      have hd:=q9n (.cells #[.string (bs x),.string (bs y),.string (bs y),.string (bs x)] 181) (q9n (.cells #[.string (bs x),.string (bs y)] 53) HDY.out);have hbk:=Blk.new (wr.alloc (.cells #[.string (bs x),.string (bs y)] 53)) 181 #[.string (bs x),.string (bs y),.string (bs y),.string (bs x)];simp only [World.size_alloc] at hbk;have hz4:wr.heap.size+2≤((wr.alloc (.cells #[.string (bs x),.string (bs y)] 53)).alloc (.cells #[.string (bs x),.string (bs y),.string (bs y),.string (bs x)] 181)).heap.size:=by simp
      generalize (wr.alloc (.cells #[.string (bs x),.string (bs y)] 53)).alloc (.cells #[.string (bs x),.string (bs y),.string (bs y),.string (bs x)] 181)=w4 at *
      generalize hE:wr.heap.size+1=E at *
      have HJ4:=Q0 hj;have HL4:=Q0 hly;have HD4:=Q0 hd;have HB4:=Q0 hbk;clear hj hly hd hbk HJY HLY HDY HRG hyw hyl
      go_loopw [38] (λv wz=>∃ (m:Nat) (pre:List (List UInt8)),v=.int .i64 m∧m≤2∧PL=pre++(restW s i x y m++((c.drop (k+1)).flatMap (Snd.wayL s i)++Snd.q6r c s (s.length-(i+1)) (i+1)))∧J pre wz∧SLay wz B0 bw bl A cap c s∧E<wz.heap.size∧wz.heap[W1.heap.size]? = some (.stringIter (bs s) (i+1))∧Blk wz E 181 #[.string (bs x),.string (bs y),.string (bs y),.string (bs x)]) (λv _=>2-(intOf v).toNat)
      case atStart =>
       refine ⟨0,pre2,rfl,by omega,?_,HJ4.out,HL4.out,by omega,HD4.out,HB4.out⟩
       rw [HPL4.out];simp [restW,Snd.flip]
      case round =>
       obtain ⟨m,pre3,rfl,hm,hpl5,hJz,hLz,hzz,hDz,hBz⟩:=hrel;have HPL5:=Q0 hpl5;have HDZ:=Q0 hDz;have HBZ:=Q0 hBz;have HJZ:=Q0 hJz;obtain ⟨hzw,hzl⟩:=hLz.cells;have HLZ:=Q0 hLz;clear hpl5 hDz hBz hJz hLz HJ4 HL4 HD4 HB4;by_cases hm2:m<2
       ·obtain ⟨a,b,hab,hal,hbl,hrw⟩:=way_at s i x y m hm2 hxl.1 hxl.2
        have hra:=hrw _ _ _ HBZ.out;have HRA:=Q0 hra;have HAB:=Q0 hab;clear hra hrw hab
        go_wp2_with (first | (refine wpList_load_mid rfl 181 _ rfl E (m*2) rfl [.string (bs a),.string (bs b)] _ HRA.out Tryz.underlying181 rfl two_info ?_))
        have hj:=HJA.out _ _ (.cells #[.string (bs a),.string (bs b)] 181) HJZ.out;have hly:=HLZ.out.alloc (by omega) (.cells #[.string (bs a),.string (bs b)] 181)
        have hd:=q9n (.cells #[.string (bs a),.string (bs b)] 181) HDZ.out;have hbk:=HBZ.out.alloc (.cells #[.string (bs a),.string (bs b)] 181);have hbn:=Blk.new wr 181 #[.string (bs a),.string (bs b)];have hz5:wr.heap.size+1≤(wr.alloc (.cells #[.string (bs a),.string (bs b)] 181)).heap.size:=by simp
        generalize wr.alloc (.cells #[.string (bs a),.string (bs b)] 181)=w5 at *
        generalize hF:wr.heap.size=F at *
        obtain ⟨h5w,h5l⟩:=hly.cells;have c0:=hbn.cell 0;have c1:=hbn.cell 1;have HJ5:=Q0 hj;have HL5:=Q0 hly;have HD5:=Q0 hd;have HE5:=Q0 hbk;have HF5:=Q0 hbn;clear hj hly hd hbk hbn HJZ HLZ HDZ HBZ HRA hzw hzl;have hi5:(i:Int)≤((bs s).size:Int):=by rw [qer];omega
        have hex:((bs s).extract i s.length).data.toList=s.drop i:=by rw [q3h,q2r,q2r,Qj (by rw [Qv];omega)]
        cases hpx:a.isPrefixOf (s.drop i)
        ·have hcp:∀ W',Calls Tryz.prog 135 #[.string ((bs s).extract i s.length),.string (bs a)] W' λe w'=>e=.returned (.tuple #[.string (bs (s.drop i)),.bool false])∧w'=W':=λW' =>
          (Tryz.strings_CutPrefix _ _ W').mono λe w' he=>⟨by
           rw [he.1,hex,q2r];have h1:Lib.hasPrefix (s.drop i) a=false:=hpx;unfold Lib.trimPrefix;rw [h1];rfl,he.2⟩
         have HCP:=Q0 hcp;have hab2:=HAB.out;rw [cutRep_none s i a b hpx,Qq] at hab2;have HAB2:=Q0 hab2;clear hcp hpx hab2 hex
         go_quiet ((go_at_call 135;exact (HCP.out _).mono λe w' he=>⟨he.1,_,he.2⟩))
         go_wp2
         go_quiet (fail)
         go_wp2
         go_roundw
         case rel=>exact ⟨m+1,pre3,by go_num,by omega,by rw [HPL5.out,HAB2.out],HJD.out _ _ _ HJ5.out,HL5.out.drewN _,by show E<w5.heap.size;omega,HD5.out,HE5.out⟩
         case measure=>simp [intOf];omega
        ·have hcp:∀ W',Calls Tryz.prog 135 #[.string ((bs s).extract i s.length),.string (bs a)] W' λe w'=>e=.returned (.tuple #[.string (bs ((s.drop i).drop a.length)),.bool true])∧w'=W':=λW' =>
          (Tryz.strings_CutPrefix _ _ W').mono λe w' he=>⟨by
           rw [he.1,hex,q2r];have h1:Lib.hasPrefix (s.drop i) a=true:=hpx;unfold Lib.trimPrefix;rw [h1];rfl,he.2⟩
         have HCP:=Q0 hcp;have hab2:=HAB.out;rw [cutRep_one s i a b hpx] at hab2;have HAB2:=Q0 hab2;have hrl:((s.drop i).drop a.length).length≤12:=by rw [Qv,Qv];omega
         clear hcp hpx hab2 hex;generalize (s.drop i).drop a.length=rest at *
         go_quiet ((go_at_call 135;exact (HCP.out _).mono λe w' he=>⟨he.1,_,he.2⟩))
         go_upto_region 11 with fail
         refine (wpIn_wide (n:=n)).1 ?_;refine qee 11 (by kernel_rfl) (by kernel_rfl) ?_
         simp only [QH,Wd,QG,QD]
         repeat (go_big_quiet_step ((fail)))
         refine wpQuiet_nil ?_;rintro _ ⟨q,rfl⟩;have harg:(bs s).extract 0 i++bs b++bs rest=bs (s.take i++b++rest):=by
          rw [app_bs,app_bs,q3h];simp only [q2r,QD,Nat.sub_zero]
         have hplx:PL=pre3++[s.take i++b++rest]++(restW s i x y (m+1)++((c.drop (k+1)).flatMap (Snd.wayL s i)++Snd.q6r c s (s.length-(i+1)) (i+1))):=by
          rw [HPL5.out,HAB2.out];simp only [Qi,QS,Qq]
         have HPLX:=Q0 hplx;have HL6:=Q0 (HL5.out.drewN (nq+q));obtain ⟨fn2,tmps2,assign2,body2,hy2,hR2⟩:=HY.out pre3 (s.take i++b++rest) (w5.drewN (nq+q)) (HJD.out _ _ _ HJ5.out) (by rw [hplx];simp)
         rw [← harg] at hy2;clear hplx harg
         gi_wp2
         refine hR2.mono ?_;clear hR2 hy2;rintro e W6 (⟨rfl,hJ6,hk6⟩ | ⟨rfl,hJx6⟩)
         ·have hz6:w5.heap.size≤W6.heap.size:=hk6.size
          have HK6:=Q0 hk6;have HJ6:=Q0 hJ6;clear hk6 hJ6
          gi_wp2
          repeat (go_big_quiet_step ((fail)))
          refine wpQuiet_nil ?_
          go_wp2
          go_roundw
          case rel=>exact ⟨m+1,_,by go_num,by omega,HPLX.out,HJ6.out,HL6.out.keep HK6.out,by omega,HK6.out.mine _ _ HD5.out rfl,HK6.out.mine _ _ HE5.out rfl⟩
          case measure=>simp [intOf];omega
         ·have HX:=Q0 hJx6
          clear hJx6
          gi_wp2
          repeat (go_big_quiet_step ((fail)))
          refine wpQuiet_nil ?_
          go_wp2
          refine bodyPost_ret (results_none rfl _ _ _) rfl ?_;exact ⟨⟨_,rfl⟩,.inr ⟨_,⟨_,HPLX.out.symm⟩,HX.out⟩⟩
       ·obtain rfl:m=2:=by omega
        have hfin:=HPL5.out;have HFIN:=Q0 (show PL=pre3++((c.drop (k+1)).flatMap (Snd.wayL s i)++Snd.q6r c s (s.length-(i+1)) (i+1)) from hfin);clear hfin hzw hzl
        go_wp2
        rw [← hA]
        go_roundw
        case rel=>exact ⟨k+1,pre3,by go_num,by omega,HFIN.out,HJZ.out,HLZ.out,by omega,HDZ.out⟩
        case measure=>simp [intOf];omega
     ·have hfin:PL=pre2++Snd.q6r c s (s.length-(i+1)) (i+1):=by rw [HPL3.out,List.drop_eq_nil_of_le (by omega)];rfl
      have HFIN:=Q0 hfin;have HLY:=Q0 hLy;clear hfin hLy HPL3 hyw hyl
      go_wp2
      go_roundw
      case rel=>exact ⟨i+1,pre2,by omega,HFIN.out,HJY.out,HLY.out,hzy,HDY.out⟩
      case measure=>rw [iterPos_of HDY.out,HIP.out];omega
   ·have hnx:∀ ty,(Qr (.pointer (some ⟨W1.heap.size,0,none⟩)) true ty).run Tryz.prog wr=_:=λty=>qfo ty _ i hD hlt
    have hfin:PL=pre:=by rw [HPL2.out,show s.length-i=0 by omega];simp [Snd.q6r]
    have HFIN:=Q0 hfin;have HJR:=Q0 hJr;clear hfin hJr hLr hD w1 l1
    go_wp2
    go_end0
    exact ⟨⟨_,rfl⟩,.inl ⟨pre,HFIN.out.symm,HJR.out⟩⟩
 ·have HX:=Q0 hJx1
  have hpre:[s] <+: PL:=by rw [HPL.out];exact List.prefix_append [s] _
  have HPRE:=Q0 hpre;clear hJx1 hpre
  gi_wp2
  go_wp2
  refine bodyPost_ret (results_none rfl _ _ _) rfl ?_;exact ⟨⟨_,rfl⟩,.inr ⟨_,HPRE.out,HX.out⟩⟩
end Go.Proofs.YtlfaaoalgcbcoaaGreatDoor
namespace Go.Proofs.YtlfaaoalgcbcoaaGreatDoor
open Go.RowKit Go.Maps Go.Shelf
attribute [local go_sem] q28 q1o q1v Qz
theorem kpM_put {B0:Nat} {W:World} {l:Nat} {o:Obj} (o':Obj) (hB:B0≤l) (ho:W.heap[l]? = some o) (hc:o.isCells=false) (hw:o.isWalk=false):KpM B0 W (W.putObj l o'):=by
 refine ⟨λg hg=>Qa (by omega),by simp,λg o2 h2 hm=>?_⟩
 by_cases e:g=l
 ·subst e
  rw [ho] at h2;injection h2 with h2;subst h2;cases o <;> first | exact Qg hm | exact Qg hc | exact Qg hw
 ·exact (Qa e).trans h2
theorem kpM_set {B0:Nat} {W:World} {b:Nat} {t:TypeId} {v:Value} (v':Value) (hB:B0≤b) (hb:Boxed W b t v) (hm:Mine (.cells #[v] t (0,0))=false):KpM B0 W (W.setCell ⟨b,0,none⟩ v'):=by
 refine ⟨λg hg=>QL W ⟨b,0,none⟩ v' g (by show g≠b;omega),by simp,λg o h2 hm2=>?_⟩
 by_cases e:g=b
 ·subst e
  rw [show W.heap[g]? = _ from hb] at h2;injection h2 with h2;subst h2;rw [hm] at hm2;cases hm2
 ·exact (QL W ⟨b,0,none⟩ v' g e).trans h2
end Go.Proofs.YtlfaaoalgcbcoaaGreatDoor
namespace Go.Proofs.YtlfaaoalgcbcoaaGreatDoor
namespace Al
structure Alph where
 name:List UInt8
 letters:List (List UInt8)
 small:List Int
def okByte (c:UInt8):Bool:=33≤c&&c≤126&&!(c==34)
def printedB (l:List UInt8):Bool:=l.all okByte&&(decide (1≤l.length)&&decide (l.length≤3))
def smallAt (n:Nat) (s:List Int) (k:Int):Bool:=decide (0≤k)&&decide (k<n)&&(s.getD k.toNat 0==k)
def noTwice:List (List UInt8)→Bool
 | []=>true
 | l::r=>!r.contains l&&noTwice r
def formedB (a:Alph):Bool :=
 Lx.q0v a.name&&(decide (1≤a.letters.length)&&decide (a.letters.length≤64))&&(a.small.length==a.letters.length)&&a.letters.all printedB&&noTwice a.letters&&a.small.all (smallAt a.letters.length a.small)
def follows (L:List (List UInt8)):Nat→List UInt8→Bool
 | 0,_=>false
 | f+1,s=>L.any λl=>s.isPrefixOf l||(l.isPrefixOf s&&follows L f (s.drop l.length))
def clash (L:List (List UInt8)) (l:List UInt8) (n:Nat):Bool:=decide (n<l.length)&&(L.contains (l.take n)&&follows L 4 (l.drop n))
def q0c (a:Alph):Bool:=formedB a&&a.letters.all λl=>!clash a.letters l 1&&!clash a.letters l 2
def idx (L:List (List UInt8)) (l:List UInt8):Nat:=L.findIdx (·==l)
end Al
open Go.RowKit
def qbv (w:World) (A:Option Addr) (l:List (List UInt8)):Prop :=
 0<l.length→∃ g off,A=some ⟨g,off,none⟩∧g<w.heap.size∧∀ (j:Nat) s,l[j]? = some s→w.cell? ⟨g,off+j,none⟩=some (.string (bs s))
section
variable {w w':World} {A:Option Addr}
theorem qbv.bel {l:List (List UInt8)} (h:qbv w A l) (hb:Below w.heap.size w w'):qbv w' A l:=λhl=>by
 obtain ⟨g,off,h1,h2,h3⟩:=h hl;exact ⟨g,off,h1,QK h2 hb.size,λj u hu=>(hb.cell (p:=⟨g,off+j,none⟩) h2).trans (h3 j u hu)⟩
end
structure Few (a:Al.Alph):Prop where
 n:a.letters.length≤70
 len:∀ l∈a.letters,l.length≤20
 s:a.small.length≤70
 name:a.name.length≤100
open Go.Sort
def bsRen:Go.Shelf.Ren:=⟨fun | 26=>148 | 33=>168 | 34=>169 | 38=>184 | n=>n,fun | 24=>22 | 3=>3 | 4=>4 | 9=>9 | 0=>0 | 40=>172 | n=>n,fun | n=>n⟩
theorem bsLay:Go.Proofs.Lays2.n26 Tryz.prog bsRen:={
 mixed:=by kernel_rfl
 f26:=Tryz.func148.trans (congrArg some (by kernel_rfl))
 f33:=Tryz.func168.trans (congrArg some (by kernel_rfl))
 f34:=Tryz.func169.trans (congrArg some (by kernel_rfl))
 f38:=Tryz.func184.trans (congrArg some (by kernel_rfl))
 t0:=Tryz.underlying0
 a0:=Tryz.isAgg0
 z0:=Tryz.sizeOf0
 v0:=Tryz.zeroValue0
 t3:=Tryz.underlying3
 a3:=Tryz.isAgg3
 z3:=Tryz.sizeOf3
 v3:=Tryz.zeroValue3
 t4:=Tryz.underlying4
 a4:=Tryz.isAgg4
 z4:=Tryz.sizeOf4
 v4:=Tryz.zeroValue4
 t9:=Tryz.underlying9
 a9:=Tryz.isAgg9
 z9:=Tryz.sizeOf9
 v9:=Tryz.zeroValue9
 t24:=Tryz.underlying22
 a24:=Tryz.isAgg22
 z24:=Tryz.sizeOf22
 v24:=Tryz.zeroValue22
 t40:=Tryz.underlying172
 a40:=Tryz.isAgg172
 z40:=Tryz.sizeOf172
 v40:=Tryz.zeroValue172 }
theorem bs_any (ws:List (List UInt8)) (A:Option Addr) (cap:Nat) (s:List UInt8) (w:World) (hA:qbv w A ws) (hr:Snd.rising ws=true) (h0:0<ws.length) (hn:ws.length≤1000000) :
  Calls Tryz.prog 148 #[.slice A ws.length cap,.string (bs s)] w λe w'=>e=.returned (.tuple #[.int .i64 (Snd.below ws s:Nat),.bool (decide (Snd.below ws s<ws.length∧ws.getD (Snd.below ws s) []=s))])∧∃ q,w'=w.drewN q:=by
 obtain ⟨g,off,rfl,hg,hc⟩:=hA h0;have h:=Any2.slices_BinarySearch_string bsLay g off ws.length cap (λj=>bs (ws.getD j [])) (bs s) w (by omega) (λj hj=>hc j _ (by rw [Qb,Qc hj];rfl))
 have hb:Lib.bsGo (λt=>Q5 (bs (ws.getD t [])).toList (bs s).toList) ws.length 0 ws.length=Snd.below ws s:=Snd.bs_below hr s _ (λt ht=>by rw [Q8,Q8,q2r,q2r])
 rw [hb] at h;refine Calls.mono h ?_;rintro e w' ⟨rfl,hw⟩;refine ⟨?_,hw⟩;have hd:decide (Snd.below ws s<ws.length∧bs (ws.getD (Snd.below ws s) [])=bs s)=decide (Snd.below ws s<ws.length∧ws.getD (Snd.below ws s) []=s):=decide_eq_decide.2 (and_congr_right λ_=>bs_inj)
 rw [hd]
section
variable {w:World} {base:Nat} {v:Value}
theorem sort_own {zs:List Int} (h:w.ownsRow base 3 1 v zs.length (zs.map (QM .i64))) (hz:zs.length≤1000000000) :
  Calls Tryz.prog 149 #[v] w λe w'=>e=.returned (.tuple #[])∧w'.ownsRow base 3 1 v zs.length ((zs.mergeSort λx y=>decide (x≤y)).map (QM .i64))∧w.grownBy w' v.ownBlock:=by
 rcases h.2 with ⟨rfl,h0⟩ | ⟨g,cap,cur,rfl,hb,hh,hc,hm,hsz,ht⟩
 ·obtain rfl:zs=[]:=Qd.1 h0
  refine (Tryz.slices_Sort_int_none none 0 w).mono ?_;rintro e w' ⟨rfl,rfl⟩;exact ⟨rfl,by rw [List.mergeSort_nil];exact h,rfl,rfl,rfl,QA _,λ_ _ _=>rfl⟩
 ·rw [QO] at ht
  have hH:=holds_of_blockI hh ht;have hlt:g<w.heap.size:=(Qh.1 hh).1;refine (Tryz.slices_Sort_int g 0 cap zs w hH hlt (by omega)).mono ?_
  rintro e w' ⟨rfl,n,os,rfl⟩;exact ⟨rfl,ownsRow_sortedI (by simp) hb hh hc hm hsz,grownBy_sortedI _⟩
theorem compact_own {zs:List Int} (h:w.ownsRow base 3 1 v zs.length (zs.map (QM .i64))) (hz:zs.length≤1000000000) :
  Calls Tryz.prog 150 #[v] w λe w'=>∃ v',e=.returned v'∧w'.ownsRow base 3 1 v' (Q7 zs).length ((Q7 zs).map (QM .i64))∧w.grownBy w' v.ownBlock:=by
 rcases h.2 with ⟨rfl,h0⟩ | ⟨g,cap,cur,rfl,hb,hh,hc,hm,hsz,ht⟩
 ·obtain rfl:zs=[]:=Qd.1 h0
  refine (Tryz.slices_Compact_int_empty none 0 w).mono ?_;rintro e w' ⟨rfl,rfl⟩;exact ⟨_,rfl,h,rfl,rfl,rfl,QA _,λ_ _ _=>rfl⟩
 ·rw [QO] at ht
  have hH:=holds_of_blockI hh ht;have hlt:g<w.heap.size:=(Qh.1 hh).1;have hcl:(Q7 zs).length≤zs.length:=by
   unfold Q7 Lib.compactUpTo;rw [QV];exact Nat.le_trans (Qn _ _) (by simp)
  refine (Tryz.slices_Compact_int g 0 cap zs w hH (by omega) hc).mono ?_
  rintro e w' ⟨rfl,q,rfl⟩;have hb':=heap_sortedI (n:=q) (os:=#[]) (Q7 zs++QE (zs.length-(Q7 zs).length) 0).toArray hh;rw [grow_empty] at hb';have hg:=grownBy_sortedI (w:=w) (g:=g) (n:=q) (os:=#[]) (Q7 zs++QE (zs.length-(Q7 zs).length) 0).toArray;rw [grow_empty] at hg;refine ⟨_,rfl,⟨by simp,.inr ⟨g,cap,_,rfl,hb,hb',by omega,hm,by simp [putCells,hsz],?_⟩⟩,hg⟩
  have ht2:=take_putCellsI cur (Q7 zs++QE (zs.length-(Q7 zs).length) 0) (by simp;omega)
  have h3:=congrArg (List.take (Q7 zs).length) ht2;rw [List.take_take,Nat.min_eq_left (by simp),QU,List.take_left' (by simp)] at h3
  rw [QO];exact h3
end
end Go.Proofs.YtlfaaoalgcbcoaaGreatDoor

/-
  Several texts in one: HeTd, CrC, CrF, CoHx, CoHe, CoHf, CrI, R15N.
-/
import Derived.Test.YtlfaaoalgcbcoaaGreatDoorPS
import Derived.Test.YtlfaaoalgcbcoaaGreatDoorPP
import Derived.Test.YtlfaaoalgcbcoaaGreatDoorPR
import Derived.KernelRfl
import Derived.Test.YtlfaaoalgcbcoaaGreatDoorPL
import Derived.OpenShut
open Nat renaming eq_of_beq_eq_true→Q0
open List renaming getElem?_eq_getElem→Q4,take_of_length_le→Q5,take_append_drop→Q6,length_drop→Qb,drop_drop→Qd,drop_zero→Qe
open Prod renaming snd→Q7
open Go.World renaming cells?_some→Q8
open Go.Value renaming cells→Q9
open Bool renaming and_eq_true→Qa
open Go.DataW renaming trod→Qc
open Int renaming toNat→Qf
set_option linter.unusedVariables false
namespace Go.Proofs.YtlfaaoalgcbcoaaGreatDoor
open Go.RowKit R
set_option maxRecDepth 100000 in
theorem qmq:cOn07.Holds Tryz.prog:=by
 refine q0s (cons:=[]) Tryz.func35 (by kernel_rfl) (by kernel_rfl) mixed (by kernel_rfl) all_nil (λ_=>[]) λp hp=>?_
 refine cast ?_ (on07_vc p hp)
 kernel_rfl
set_option maxRecDepth 100000 in
theorem dist07_holds:cDist07.Holds Tryz.prog:=by
 refine q0s (cons:=[cOn07]) Tryz.func85 (by kernel_rfl) (by kernel_rfl) mixed (by kernel_rfl) (all_cons qmq all_nil) (λ_=>[]) λp hp=>?_
 obtain ⟨p,q⟩:=p;refine cast ?_ (dist07_vc p q hp)
 kernel_rfl
set_option maxRecDepth 100000 in
theorem q97:qcb.Holds Tryz.prog:=by
 refine q0s (cons:=[qe9]) Tryz.func21 (by kernel_rfl) (by kernel_rfl) mixed (by kernel_rfl) (all_cons qcv all_nil) (λp=>anQValid p.1.2.length p.2) λp hp=>?_
 obtain ⟨l,code⟩:=p;refine cast ?_ (qValid_vc l code hp)
 kernel_rfl
set_option maxRecDepth 100000 in
theorem qIn_holds:cQIn.Holds Tryz.prog:=by
 refine q0s (cons:=[cEq]) Tryz.func108 (by kernel_rfl) (by kernel_rfl) mixed (by kernel_rfl) (all_cons qaj all_nil) (λp=>anQIn p.1 p.2) λp hp=>?_
 obtain ⟨l,x⟩:=p;refine cast ?_ (qIn_vc l x hp)
 kernel_rfl
set_option maxRecDepth 100000 in
theorem qPut_holds:cQPut.Holds Tryz.prog:=by
 refine q0s (cons:=[cEq,cQIn,cLess]) Tryz.func97 (by kernel_rfl) (by kernel_rfl) mixed (by kernel_rfl) (all_cons qaj (all_cons qIn_holds (all_cons less_holds all_nil))) (λp=>anQPut p.1 p.2.1) λp hp=>?_
 obtain ⟨l,x,code⟩:=p;refine cast ?_ (qPut_vc l x code hp)
 kernel_rfl
set_option maxRecDepth 100000 in
theorem qfb:cQMis.Holds Tryz.prog:=by
 refine q0s (cons:=[cRNear,cQPut]) Tryz.func47 (by kernel_rfl) (by kernel_rfl) mixed (by kernel_rfl) (all_cons rnear_holds (all_cons qPut_holds all_nil)) (λp=>anQMis p.1 p.2.1 p.2.2) λp hp=>?_
 obtain ⟨l,c,code⟩:=p;refine cast ?_ (qMis_vc l c code hp)
 kernel_rfl
set_option maxRecDepth 100000 in
theorem qgo:qkt.Holds Tryz.prog:=by
 refine q0s (cons:=[cOn07]) Tryz.func57 (by kernel_rfl) (by kernel_rfl) mixed (by kernel_rfl) (all_cons qmq all_nil) (λ_=>[]) λp hp=>?_
 refine cast ?_ (qPlaced_vc p)
 kernel_rfl
set_option maxRecDepth 100000 in
theorem qNear_holds:cQNear.Holds Tryz.prog:=by
 refine q0s (cons:=[cDist07]) Tryz.func109 (by kernel_rfl) (by kernel_rfl) mixed (by kernel_rfl) (all_cons dist07_holds all_nil) (λ_=>[]) λp hp=>?_
 obtain ⟨a,b⟩:=p;refine cast ?_ (qNear_vc a b)
 kernel_rfl
set_option maxRecDepth 100000 in
theorem qje:cQFits.Holds Tryz.prog:=by
 refine q0s (cons:=[cEq,cQIn,cQNear]) Tryz.func59 (by kernel_rfl) (by kernel_rfl) mixed (by kernel_rfl) (all_cons qaj (all_cons qIn_holds (all_cons qNear_holds all_nil))) (λp=>anQFits p.2.1 p.2.2.2) λp hp=>?_
 obtain ⟨g,a,o,b⟩:=p;refine cast ?_ (qFits_vc g a o b hp)
 kernel_rfl
set_option maxRecDepth 100000 in
theorem qm5:cQAll.Holds Tryz.prog:=by
 refine q0s (cons:=[cQMis]) Tryz.func58 (by kernel_rfl) (by kernel_rfl) mixed (by kernel_rfl) (all_cons qfb all_nil) (λp=>anQAll p.1 p.2.1 p.2.2) λp hp=>?_
 obtain ⟨l,c,book⟩:=p;refine cast ?_ (qAll_vc l c book hp)
 kernel_rfl
set_option maxRecDepth 100000 in
theorem qgl:qfa.Holds Tryz.prog:=by
 refine q0s (cons:=[qe9,qcr,cNameR,qcb,qkt,cQAll,cQFits]) Tryz.func24 (by kernel_rfl) (by kernel_rfl) mixed (by kernel_rfl) (all_cons qcv (all_cons qbd (all_cons qe4 (all_cons q97 (all_cons qgo (all_cons qm5 (all_cons qje all_nil))))))) (λp=>anQProper p.1 p.2.1 p.2.2) λp hp=>?_
 obtain ⟨l,c,book⟩:=p;refine cast ?_ (qProper_vc l c book hp)
 kernel_rfl
set_option maxRecDepth 100000 in
theorem qText_holds:cQText.Holds Tryz.prog:=by
 refine q0s (cons:=[qcb]) Tryz.func17 (by kernel_rfl) (by kernel_rfl) mixed (by kernel_rfl) (all_cons q97 all_nil) (λp=>anQText p.1.2 p.2) λp hp=>?_
 obtain ⟨l,code⟩:=p;refine cast ?_ (qText_vc l code hp)
 kernel_rfl
set_option maxRecDepth 100000 in
theorem qMist_holds:cQMist.Holds Tryz.prog:=by
 refine q0s (cons:=[qcb,qcr,cQMis]) Tryz.func15 (by kernel_rfl) (by kernel_rfl) mixed (by kernel_rfl) (all_cons q97 (all_cons qbd (all_cons qfb all_nil))) (λ_=>[]) λp hp=>?_
 obtain ⟨l,c,code⟩:=p;refine cast ?_ (qMist_vc l c code hp)
 kernel_rfl
set_option maxRecDepth 100000 in
theorem qNext_holds:cQNext.Holds Tryz.prog:=by
 refine q0s (cons:=[]) Tryz.func60 (by kernel_rfl) (by kernel_rfl) mixed (by kernel_rfl) all_nil (λp=>anQNext p.1 p.2) λp hp=>?_
 obtain ⟨l,n⟩:=p;refine cast ?_ (qNext_vc l n hp)
 kernel_rfl
set_option maxRecDepth 100000 in
theorem qGive_holds:cQGive.Holds Tryz.prog:=by
 refine q0s (cons:=[qfa,cNameR,qkt,cQAll,cQMis,cQFits,cQNext]) Tryz.func19 (by kernel_rfl) (by kernel_rfl) mixed (by kernel_rfl) (all_cons qgl (all_cons qe4 (all_cons qgo (all_cons qm5 (all_cons qfb (all_cons qje (all_cons qNext_holds all_nil))))))) (λp=>anQGive p.1 p.2.1 p.2.2.1 p.2.2.2.1 p.2.2.2.2.toNat) λp hp=>?_
 obtain ⟨l,c,book,⟨d,co,pl,x,y⟩,size⟩:=p;refine cast ?_ (qGive_vc l c book d co pl x y size hp)
 kernel_rfl
def tx41:List UInt8:=[115,101,97,32,98,97,100,32,98,97,110]
def e41:Cod.Ear:=⟨wd41.1,wd41.2,cf41⟩
theorem ex_mist:e41.q3x [0,1,1]=([[0,1],[0,1,2],[0,2,1],[1,0,1],[1,1]],0):=by kernel_rfl
theorem ex_text:Cod.q56 e41.lang e41.ws [3,0,1]=([115,101,97,32,98,97,100,32,98,97,110],0):=by kernel_rfl
theorem ex_code:Cod.q0q e41.lang e41.ws [0,0,0]=true:=by kernel_rfl
theorem ex_give1:e41.q0p [] ([97],[],false,0,0) 3=(ga41,0):=by kernel_rfl
theorem ex_give2:e41.q0p [ga41] ([98],[],false,0,0) 3=(gb41,0):=by kernel_rfl
theorem ex_give3:e41.q0p [ga41,gb41] ([99],[],false,0,0) 3=(gc41,0):=by kernel_rfl
set_option maxRecDepth 100000 in
theorem words41_vc :
    ([(101:UInt8),(110:UInt8)],[[(98:UInt8),(97:UInt8),(100:UInt8)],[(98:UInt8),(97:UInt8),(110:UInt8)],[(112:UInt8),(97:UInt8),(110:UInt8)],[(115:UInt8),(101
    : UInt8),(97:UInt8)]])=wd41
     := by
  rfl
set_option maxRecDepth 100000 in
theorem conf41_vc :
    [([(98:UInt8)],[(112:UInt8)])]=cf41
     := by
  rfl
abbrev q35:Prop :=
 ((zE ([(97:UInt8)])∧zE ([(0:Int),(0:Int),(0:Int)])∧zE false∧zE (0:Int)∧zE (0:Int)∧True)∧(zE ([(98:UInt8)])∧zE ([(0:Int),(0:Int),(1:Int)])∧zE false∧zE (0:Int)∧zE (0:Int)∧True)∧(zE ([(99:UInt8)])∧Cod.dig wd41.2.length (Qf (3:Int)) ((0:Nat)+(1:Nat)+(1:Nat)+(1:Nat))=[(0:Int),(0:Int),(3:Int)]∧zE false∧zE (0:Int)∧zE (0:Int)∧True)∧True)
abbrev q34:Prop :=
 ((zE ([(97:UInt8)])∧zE ([(0:Int),(0:Int),(0:Int)])∧zE false∧zE (0:Int)∧zE (0:Int)∧True)∧(zE ([(98:UInt8)])∧Cod.dig wd41.2.length (Qf (3:Int)) ((0:Nat)+(1:Nat))=[(0:Int),(0:Int),(1:Int)]∧zE false∧zE (0:Int)∧zE (0:Int)∧True)∧True)
abbrev q31:Prop :=
 (zE mm41∧zE (0:Int)∧zE tx41∧zE (0:Int)∧True∧zE (0:Int)∧True∧zE (0:Int)∧True∧(e41.q0p [ga41,gb41] ([(99:UInt8)],[],false,(0:Int),(0:Int)) (3:Int)).2=(0:Int)∧True)
abbrev q38:Prop :=
 (zE mm41∧zE (0:Int)∧zE tx41∧zE (0:Int)∧True∧zE (0:Int)∧True∧(e41.q0p [ga41] ([(98:UInt8)],[],false,(0:Int),(0:Int)) (3:Int)).2=(0:Int)∧True)
abbrev q3k:Prop :=
 (q0j wd41∧q0n cf41∧q3v [ga41,gb41]∧[(99:UInt8)].length≤(1000:Nat)∧([]:List Int).length≤(1000000:Nat))
abbrev q3p:Prop :=
 (q0j wd41∧q0n cf41∧q3v [ga41]∧[(98:UInt8)].length≤(1000:Nat)∧([]:List Int).length≤(1000000:Nat))
abbrev qf9:Prop :=
 (True∧(True∧(q0j wd41∧q0n cf41∧q3v [ga41,ga41])∧(True∧(q0j wd41∧[(0:Int),(0:Int),(0:Int)].length≤(1000000:Nat))∧Cod.q0q wd41.1 wd41.2 [(0:Int),(0:Int),(0:Int)]=true)∧True∧(q0j wd41∧[(0:Int),(0:Int),(0:Int)].length≤(1000000:Nat))∧Cod.q0q wd41.1 wd41.2 [(0:Int),(0:Int),(0:Int)]=true)∧True∧(q0j wd41∧q0n cf41∧q3v [ga41,ga41])∧(True∧(q0j wd41∧[(0:Int),(0:Int),(0:Int)].length≤(1000000:Nat))∧Cod.q0q wd41.1 wd41.2 [(0:Int),(0:Int),(0:Int)]=true)∧True∧(q0j wd41∧[(0:Int),(0:Int),(0:Int)].length≤(1000000:Nat))∧Cod.q0q wd41.1 wd41.2 [(0:Int),(0:Int),(0:Int)]=true)
abbrev q2u:Prop :=
 (∃ (p':Unit),True∧q38∧q34∧zT8)
abbrev q2t:Prop :=
 (∃ (p':Unit),True∧q31∧q35∧zT8)
abbrev q8b:Prop :=
 (q0j wd41∧[(0:Int),(0:Int),(0:Int)].length≤(1000000:Nat))
abbrev qh1:Prop :=
 (True∧(q3p∧q2u∧q2u∧∃ (p':Unit),True∧q38∧q34∧zT8)∧q3p∧q2u∧∃ (p':Unit),True∧q38∧q34∧zT8)
abbrev qi9:Prop :=
 (True∧(q3k∧q2t∧q2t∧∃ (p':Unit),True∧q31∧q35∧zT8)∧q3k∧q2t∧∃ (p':Unit),True∧q31∧q35∧zT8)
set_option maxRecDepth 100000 in
theorem head41_vc :
  True∧True∧(q0j wd41∧q0n cf41∧[(0:Int),(1:Int),(1:Int)].length≤(1000000:Nat))∧True∧(q0j wd41∧[(3:Int),(0:Int),(1:Int)].length≤(1000000:Nat))∧(True∧True∧(q0j wd41∧q0n cf41∧q3v []∧[(97:UInt8)].length≤(1000:Nat)∧([]:List Int).length≤(1000000:Nat))∧∃ (p':Unit),True∧((e41.q3x [(0:Int),(1:Int),(1:Int)]).1=mm41∧(e41.q3x [(0:Int),(1:Int),(1:Int)]).2=(0:Int)∧(Cod.q56 wd41.1 wd41.2 [(3:Int),(0:Int),(1:Int)]).1=tx41∧(Cod.q56 wd41.1 wd41.2 [(3:Int),(0:Int),(1:Int)]).2=(0:Int)∧True∧(e41.q0p [] ([(97:UInt8)],[],false,(0:Int),(0:Int)) (3:Int)).2=(0:Int)∧True)∧((zE ([(97:UInt8)])∧Cod.dig wd41.2.length (Qf (3:Int)) (0:Nat)=[(0:Int),(0:Int),(0:Int)]∧zE false∧zE (0:Int)∧zE (0:Int)∧True)∧True)∧zT8)∧∀ (p:Unit),True→((True∧(True∧((q3p∧q2u∧q2u∧∃ (p':Unit),True∧q38∧q34∧zT8)∧q3p∧q2u∧∃ (p':Unit),True∧q38∧q34∧zT8)∧q3p∧q2u∧∃ (p':Unit),True∧q38∧q34∧zT8)∧(qh1∧True∧q3p∧q2u∧∃ (p':Unit),True∧q38∧q34∧zT8)∧(True∧q3p∧q2u∧∃ (p':Unit),True∧q38∧q34∧zT8)∧True∧q3p∧q2u∧∃ (p':Unit),True∧q38∧q34∧zT8)∧((True∧qh1∧True∧q3p∧q2u∧∃ (p':Unit),True∧q38∧q34∧zT8)∧True∧True∧q3p∧q2u∧∃ (p':Unit),True∧q38∧q34∧zT8)∧(True∧(True∧q3p∧q2u∧∃ (p':Unit),True∧q38∧q34∧zT8)∧True∧q3p∧q2u∧∃ (p':Unit),True∧q38∧q34∧zT8)∧True∧True∧q3p∧q2u∧∃ (p':Unit),True∧q38∧q34∧zT8)∧∀ (p:Unit),True→((True∧(True∧((q3k∧q2t∧q2t∧∃ (p':Unit),True∧q31∧q35∧zT8)∧q3k∧q2t∧∃ (p':Unit),True∧q31∧q35∧zT8)∧q3k∧q2t∧∃ (p':Unit),True∧q31∧q35∧zT8)∧(qi9∧True∧q3k∧q2t∧∃ (p':Unit),True∧q31∧q35∧zT8)∧(True∧q3k∧q2t∧∃ (p':Unit),True∧q31∧q35∧zT8)∧True∧q3k∧q2t∧∃ (p':Unit),True∧q31∧q35∧zT8)∧((True∧qi9∧True∧q3k∧q2t∧∃ (p':Unit),True∧q31∧q35∧zT8)∧True∧True∧q3k∧q2t∧∃ (p':Unit),True∧q31∧q35∧zT8)∧(True∧(True∧q3k∧q2t∧∃ (p':Unit),True∧q31∧q35∧zT8)∧True∧q3k∧q2t∧∃ (p':Unit),True∧q31∧q35∧zT8)∧True∧True∧q3k∧q2t∧∃ (p':Unit),True∧q31∧q35∧zT8)∧∀ (p:Unit),True→LongL mm41∧([(0:Int),(0:Int),(0:Int)].length≤(1000000000000000:Nat)∧[(0:Int),(0:Int),(1:Int)].length≤(1000000000000000:Nat)∧[(0:Int),(0:Int),(3:Int)].length≤(1000000000000000:Nat)∧∃ (p':Unit),True∧(True∧True∧True∧(tx41==tx41)=true∧([(0:Int),(0:Int),(3:Int)]==[(0:Int),(0:Int),(3:Int)])=true∧True)∧((zE ([(97:UInt8)])∧zE ([(0:Int),(0:Int),(0:Int)])∧zE false∧zE (0:Int)∧zE (0:Int)∧True)∧(zE ([(98:UInt8)])∧zE ([(0:Int),(0:Int),(1:Int)])∧zE false∧zE (0:Int)∧zE (0:Int)∧True)∧(zE ([(99:UInt8)])∧zE ([(0:Int),(0:Int),(3:Int)])∧zE false∧zE (0:Int)∧zE (0:Int)∧True)∧True)∧zT8)∧∀ (p:Unit),True→(True∧(True∧(q0j wd41∧q0n cf41∧q3v [ga41,gb41,gc41])∧qf9∧True∧True∧(q0j wd41∧q0n cf41∧q3v [ga41,ga41])∧(True∧q8b∧Cod.q0q wd41.1 wd41.2 [(0:Int),(0:Int),(0:Int)]=true)∧True∧q8b∧Cod.q0q wd41.1 wd41.2 [(0:Int),(0:Int),(0:Int)]=true)∧True∧(q0j wd41∧q0n cf41∧q3v [ga41,gb41,gc41])∧qf9∧True∧True∧(q0j wd41∧q0n cf41∧q3v [ga41,ga41])∧(True∧q8b∧Cod.q0q wd41.1 wd41.2 [(0:Int),(0:Int),(0:Int)]=true)∧True∧q8b∧Cod.q0q wd41.1 wd41.2 [(0:Int),(0:Int),(0:Int)]=true)∧True∧True∧(q0j wd41∧q0n cf41∧q3v [ga41,gb41,gc41])∧qf9∧True∧True∧(q0j wd41∧q0n cf41∧q3v [ga41,ga41])∧(True∧q8b∧Cod.q0q wd41.1 wd41.2 [(0:Int),(0:Int),(0:Int)]=true)∧True∧q8b∧Cod.q0q wd41.1 wd41.2 [(0:Int),(0:Int),(0:Int)]=true:=by
 delta q35 q34 q31 q38 q3k q3p qf9 q2u q2t q8b qh1 qi9 zE zT8
 have hW:q0j wd41:=⟨by decide,by decide,by decide⟩
 have hC:q0n cf41:=⟨by decide,by decide⟩
 simp only [true_and,and_true,eq_self,and_self,exists_const,forall_const,true_implies];have b1:q3v []:=⟨by decide,by decide⟩
 have b2:q3v [ga41]:=⟨by decide,by decide⟩
 have b3:q3v [ga41,gb41]:=⟨by decide,by decide⟩
 have b4:q3v [ga41,gb41,gc41]:=⟨by decide,by decide⟩
 have b5:q3v [ga41,ga41]:=⟨by decide,by decide⟩
 have hL:LongL mm41:=⟨by decide,by decide⟩
 refine ⟨⟨hW,hC,by decide⟩,⟨hW,by decide⟩,⟨⟨hW,hC,b1,by decide,by decide⟩,⟨?_,?_,?_,?_,?_⟩,by decide⟩,⟨⟨hW,hC,b2,by decide,by decide⟩,?_,by decide⟩,⟨⟨hW,hC,b3,by decide,by decide⟩,?_,by decide⟩,hL,⟨by decide,by decide,by decide,by decide,by decide⟩,⟨hW,hC,b4⟩,⟨hW,hC,b5⟩,⟨hW,by decide⟩,ex_code⟩
 ·exact congrArg Prod.fst ex_mist
 ·exact congrArg Q7 ex_mist
 ·exact congrArg Prod.fst ex_text
 ·exact congrArg Q7 ex_text
 ·exact congrArg Q7 ex_give1
 ·exact congrArg Q7 ex_give2
 ·exact congrArg Q7 ex_give3
set_option maxRecDepth 100000 in
theorem qn6:cWords41.Holds Tryz.prog:=by
 refine q0s (cons:=[]) Tryz.func37 (by kernel_rfl) (by kernel_rfl) mixed (by kernel_rfl) all_nil (λ_=>[]) λp hp=>?_
 refine cast ?_ words41_vc
 kernel_rfl
set_option maxRecDepth 100000 in
theorem conf41_holds:cConf41.Holds Tryz.prog:=by
 refine q0s (cons:=[]) Tryz.func38 (by kernel_rfl) (by kernel_rfl) mixed (by kernel_rfl) all_nil (λ_=>[]) λp hp=>?_
 refine cast ?_ conf41_vc
 kernel_rfl
set_option maxRecDepth 100000 in
theorem head41_holds:cHead41.Holds Tryz.prog:=by
 refine q0s (cons:=consHead41) Tryz.func11 (by kernel_rfl) (by kernel_rfl) mixed (by kernel_rfl) (all_cons qn6 (all_cons conf41_holds (all_cons qi7 (all_cons qha (all_cons qm4 (all_cons qk1 (all_cons qaj (all_cons qgm (all_cons q5t all_nil))))))))) (λ_=>anHead41) λp hp=>?_
 refine cast ?_ head41_vc
 kernel_rfl
theorem consCm_ok:∀ c∈consCm,c.Holds Tryz.prog :=
 all_cons head41_holds (all_cons qms (all_cons codes_holds (all_cons qi7 (all_cons qMist_holds (all_cons qha (all_cons qText_holds (all_cons qm4 (all_cons qGive_holds (all_cons q5t (all_cons q97 (all_cons qk1 (all_cons qgm (all_cons qgl (all_cons same_holds all_nil))))))))))))))
set_option maxRecDepth 100000 in
theorem lcm_holds:cLCm.Holds Tryz.prog:=by
 refine q0s (cons:=consCm) Tryz.func4 (by kernel_rfl) (by kernel_rfl) mixed (by kernel_rfl) consCm_ok (λ_=>[]) λp hp=>?_
 obtain ⟨l,c,book,⟨d,co,pl,px,py⟩,size,x⟩:=p;refine cast ?_ (lcm_vc l c book d co pl px py size x hp)
 kernel_rfl
end Go.Proofs.YtlfaaoalgcbcoaaGreatDoor
namespace Go.Proofs.YtlfaaoalgcbcoaaGreatDoor
open Go.RowKit Go.ChangeShapes Go.WideShapes
namespace R
def fldK (T:TypeId→Option Kds) (P:Program):List Field→Nat→Option Kds
 | [],_=>none
 | [f],o=>match T f.type with
  | some fs=>bif f.offset.beq o&&(P.cellsOf f.type).beq fs.size then some fs else none
  | none=>none
 | f::g::r,o=>match T f.type,fldK T P (g::r) (o+P.cellsOf f.type) with
  | some fs,some gs=>bif f.offset.beq o&&(P.cellsOf f.type).beq fs.size then some (fs.app gs) else none
  | _,_=>none
def repK (fs:Kds):Nat→Option Kds
 | 0=>none
 | 1=>some fs
 | n+2=>match repK fs (n+1) with
  | some gs=>some (fs.app gs)
  | none=>none
def tyK (P:Program):Nat→TypeId→Option Kds
 | 0,_=>none
 | n+1,t=>match P.underlying t with
  | some (.int k)=>some (.one (.int k))
  | some .bool=>some (.one .bool)
  | some .string=>some (.one .str)
  | some (.slice e)=>match tyK P n e with
   | some fs=>bif (P.cellsOf e).beq fs.size then some (.one (.sl fs)) else none
   | none=>none
  | some (.struct F)=>match fldK (tyK P n) P F.toList 0 with
   | some fs=>bif (P.cellsOf t).beq fs.size then some fs else none
   | none=>none
  | some (.array len e)=>match tyK P n e with
   | some fs=>bif (P.cellsOf e).beq fs.size then (match repK fs len with
    | some gs=>bif (P.cellsOf t).beq gs.size then some gs else none
    | none=>none) else none
   | none=>none
  | _=>none
def ckT (P:Program) (t:TypeId):Option CK :=
 match P.underlying t with
 | some (.struct _)=>(tyK P 20 t).map .agg
 | some (.array _ _)=>none
 | _=>match tyK P 20 t with
  | some (.one k)=>some (.one k)
  | _=>none
def appPay:(fs:Kds)→{gs:Kds}→fs.Pay→gs.Pay→(fs.app gs).Pay
 | .one _,_,p,q=>(p,q)
 | .cons _ ks,_,p,q=>(p.1,appPay ks p.2 q)
theorem qky:∀ (fs gs:Kds),(fs.app gs).size=fs.size+gs.size
 | .one k,gs=>by show gs.size+1=1+gs.size;omega
 | .cons k ks,gs=>by show (ks.app gs).size+1=ks.size+1+gs.size;rw [qky];omega
theorem app_big:∀ (fs:Kds) {gs:Kds} (p:fs.Pay) (q:gs.Pay),fs.Big p→gs.Big q→(fs.app gs).Big (appPay fs p q)
 | .one k,gs,p,q,hp,hq=>⟨hp,hq⟩
 | .cons k ks,gs,p,q,hp,hq=>⟨hp.1,app_big ks p.2 q hp.2 hq⟩
section
variable {H:Type} {enc:TypeId×Value→H} {P:Program} {w:World} {base:Nat} {spare:Nat→Bool} {held:Bool}
theorem qhd:∀ (fs:Kds) {gs:Kds} (p:fs.Pay) (q:gs.Pay) (cs ds:List Value),q2w w fs p cs→q2w w gs q ds→q2w w (fs.app gs) (appPay fs p q) (cs++ds)
 | .one k,gs,p,q,cs,ds,hp,hq=>by
  obtain ⟨v,rfl,hv⟩:=hp;exact ⟨v,ds,rfl,hv,hq⟩
 | .cons k ks,gs,p,q,cs,ds,hp,hq=>by
  obtain ⟨v,r,rfl,hv,hr⟩:=hp;exact ⟨v,r++ds,rfl,hv,qhd ks p.2 q r ds hr hq⟩
def Opens (enc:TypeId×Value→H) (P:Program) (w:World) (base:Nat) (spare:Nat→Bool) (held:Bool) (t:TypeId) (fs:Kds):Prop :=
 ∀ (fuel:Nat) (cs:List Value) (x:DataW H×List MemPlace),Qc enc P w base spare held fuel t cs=some x→∃ p,q2w w fs p cs∧fs.Big p
theorem fld_opens {T:TypeId→Option Kds} (hT:∀ t fs,T t=some fs→Opens enc P w base spare held t fs):∀ (l:List Field) (o:Nat) (fs:Kds),fldK T P l o=some fs→∀ (n:Nat) (cs:List Value),cs.length=o+fs.size →
  (∀ (i:Nat) (f:Field),l[i]? = some f→∃ y,Qc enc P w base spare held n f.type ((cs.drop f.offset).take (P.cellsOf f.type))=some y)→∃ p,q2w w fs p (cs.drop o)∧fs.Big p
 | [],o,fs,h,n,cs,hc,hx=>by cases h
 | [f],o,fs,h,n,cs,hc,hx=>by
  have h:(match T f.type with
   | some fs=>bif f.offset.beq o&&(P.cellsOf f.type).beq fs.size then some fs else none
   | none=>none)=some fs:=h
  split at h
  ·rename_i gs hg
   cases hb:(f.offset.beq o&&(P.cellsOf f.type).beq gs.size)
   ·rw [hb] at h;cases h
   ·rw [hb] at h
    injection h with h;subst h;rw [Qa] at hb;have h1:=Q0 hb.1;have h2:=Q0 hb.2;obtain ⟨y,hy⟩:=hx 0 f rfl;rw [h1,h2,Q5 (by rw [Qb];omega)] at hy
    exact hT _ _ hg n _ y hy
  ·cases h
 | f::g::r,o,fs,h,n,cs,hc,hx=>by
  have h:(match T f.type,fldK T P (g::r) (o+P.cellsOf f.type) with
   | some fs,some gs=>bif f.offset.beq o&&(P.cellsOf f.type).beq fs.size then some (fs.app gs) else none
   | _,_=>none)=some fs:=h
  split at h
  ·rename_i k1 k2 hg hr
   cases hb:(f.offset.beq o&&(P.cellsOf f.type).beq k1.size)
   ·rw [hb] at h;cases h
   ·rw [hb] at h
    injection h with h;subst h;rw [Qa] at hb;have h1:=Q0 hb.1;have h2:=Q0 hb.2;rw [qky] at hc;obtain ⟨y,hy⟩:=hx 0 f rfl;rw [h1,h2] at hy;obtain ⟨p,hp,hbp⟩:=hT _ _ hg n _ y hy;obtain ⟨q,hq,hbq⟩:=fld_opens hT (g::r) _ k2 hr n cs (by omega) λi f' hi=>hx (i+1) f' hi
    refine ⟨appPay k1 p q,?_,app_big k1 p q hbp hbq⟩;have:=qhd k1 p q _ _ hp hq;rw [h2,← Qd,Q6] at this;exact this
  ·cases h
theorem rep_opens {e:TypeId} {fs:Kds} (hT:Opens enc P w base spare held e fs) (hce:P.cellsOf e=fs.size):∀ (len:Nat) (gs:Kds),repK fs len=some gs→∀ (n i0:Nat) (cs:List Value),cs.length=i0*fs.size+gs.size →
  (∀ (i:Nat),i<len→∃ y,Qc enc P w base spare held n e ((cs.drop ((i0+i)*P.cellsOf e)).take (P.cellsOf e))=some y)→∃ p,q2w w gs p (cs.drop (i0*fs.size))∧gs.Big p
 | 0,gs,h,n,i0,cs,hc,hx=>by cases h
 | 1,gs,h,n,i0,cs,hc,hx=>by
  have h:some fs=some gs:=h;injection h with h;subst h;obtain ⟨y,hy⟩:=hx 0 Nat.one_pos;rw [hce,Nat.add_zero,Q5 (by rw [Qb];omega)] at hy
  exact hT n _ y hy
 | len+2,gs,h,n,i0,cs,hc,hx=>by
  have h:(match repK fs (len+1) with
   | some gs=>some (fs.app gs)
   | none=>none)=some gs:=h
  split at h
  ·rename_i k2 hr
   injection h with h;subst h;rw [qky] at hc;obtain ⟨y,hy⟩:=hx 0 (by omega)
   rw [hce,Nat.add_zero] at hy;obtain ⟨p,hp,hbp⟩:=hT n _ y hy;obtain ⟨q,hq,hbq⟩:=rep_opens hT hce (len+1) k2 hr n (i0+1) cs (by rw [Nat.succ_mul];omega) λi hi=>by
    have:=hx (i+1) (by omega)
    rwa [show i0+1+i=i0+(i+1) by omega]
   refine ⟨appPay fs p q,?_,app_big fs p q hbp hbq⟩;have:=qhd fs p q _ _ hp hq;rw [Nat.succ_mul,← Qd,Q6] at this;exact this
  ·cases h
theorem qd1:∀ (n:Nat) (t:TypeId) (fs:Kds),tyK P n t=some fs→Opens enc P w base spare held t fs
 | 0,t,fs,h=>by cases h
 | n+1,t,fs,h=>by
  intro fuel cs x hx;unfold tyK at h;split at h
  ·rename_i k hu
   injection h with h;subst h;obtain ⟨m,h1,h2,h3⟩:=DataW.trod_int hu hx;exact ⟨m,⟨_,h1,rfl⟩,by first | exact h3 | exact h3.1 | exact h3.2⟩
  ·rename_i hu
   injection h with h;subst h;obtain ⟨b,h1,_⟩:=DataW.trod_bool hu hx;exact ⟨b,⟨_,h1,rfl⟩,trivial⟩
  ·rename_i hu
   injection h with h;subst h;obtain ⟨s,h1,_,h3⟩:=DataW.trod_string hu hx;exact ⟨s.data.toList,⟨_,h1,rfl⟩,h3⟩
  ·rename_i e hu
   split at h
   ·rename_i gs hg
    cases hb:(P.cellsOf e).beq gs.size
    ·rw [hb] at h;cases h
    ·rw [hb] at h
     injection h with h;subst h;have hce:=Q0 hb;have hO:=qd1 n e gs hg;rcases Go.Deep.open_slice hu hx with ⟨rfl,_⟩ | ⟨a,len,cap,m,k,D,Pl,rfl,hbb,hlc,hm,hmm,_,hxx⟩
     ·exact ⟨([]:List gs.Pay),⟨_,rfl,none,0,rfl,Nat.le_refl _,λh=>absurd h (Nat.lt_irrefl _)⟩,Nat.zero_le _,λx h=>by cases h⟩
     ·have hlm:len≤m:=by rw [hmm];split <;> omega
      have each:∀ i,i<len→∃ p:gs.Pay,∀ g o,a=⟨g,o,none⟩→gs.Rep w (Here w) p g (o+i*gs.size)∧gs.Big p:=λi hi=>by
       obtain ⟨cs',h1,h2⟩:=hxx i (by omega)
       obtain ⟨p,hp,hbig⟩:=hO k cs' _ h2;refine ⟨p,λg o ha=>⟨q2w.row gs p cs' g _ hp λj hj=>?_,hbig⟩⟩
       subst ha;obtain ⟨_,hl,hc⟩:=Q8 h1;have:=hc j (by omega)
       rw [add_pl',add_pl',hce] at this;exact this
      obtain ⟨f,hf⟩:∃ f:Nat→gs.Pay,∀ i,i<len→∀ g o,a=⟨g,o,none⟩→gs.Rep w (Here w) (f i) g (o+i*gs.size)∧gs.Big (f i):=by
       haveI:Inhabited gs.Pay:=⟨gs.dflt⟩
       exact Go.Deep.choose_lt each
      have hlen:((List.range len).map f).length=len:=by simp
      have hpl:0<len→∃ g o,a=⟨g,o,none⟩∧g<w.heap.size:=λhpos=>by
       obtain ⟨cs',h1,_⟩:=hxx 0 (by omega)
       obtain ⟨_,hl,hc⟩:=Q8 h1;have:=hc 0 (by rw [hce];exact gs.q8e)
       rw [Nat.zero_mul] at this;have hlt:0<cs'.length:=by rw [hl,hce];exact gs.q8e
       rw [Q4 hlt] at this;have ha:a.add 0=a:=by unfold Addr.add;simp
       rw [ha] at this;exact cell_plain' this
      refine ⟨((List.range len).map f:List gs.Pay),⟨_,rfl,some a,cap,by rw [hlen],by rw [hlen];exact hlc,λhpos=>?_⟩,?_,?_⟩
      ·rw [hlen] at hpos
       obtain ⟨g,o,rfl,hg⟩:=hpl hpos;refine ⟨g,o,rfl,hg,hg,λi x hi=>?_⟩
       have hil:i<len:=by
        rcases Nat.lt_or_ge i len with h' | h'
        ·exact h'
        ·rw [List.getElem?_eq_none (by rw [hlen];exact h')] at hi;cases hi
       rw [List.getElem?_map,List.getElem?_range hil] at hi;injection hi with hi;subst hi;exact (hf i hil g o rfl).1
      ·rw [hlen];unfold maxLen at hm;omega
      ·intro x hx'
       obtain ⟨i,hi,rfl⟩:=List.mem_map.1 hx';have hi:=List.mem_range.1 hi;obtain ⟨g,o,ha,hg⟩:=hpl (by omega)
       exact (hf i hi g o ha).2
   ·cases h
  ·rename_i F hu
   split at h
   ·rename_i gs hg
    cases hb:(P.cellsOf t).beq gs.size
    ·rw [hb] at h;cases h
    ·rw [hb] at h
     injection h with h;subst h;have hct:=Q0 hb;obtain ⟨xs,m,rfl,_,hl,hxl,hxx⟩:=DataW.trod_struct hu hx;have:=fld_opens (qd1 n) F.toList 0 gs hg m cs (by omega) λi f hi=>by
      have h1:F[i]? = some f:=by rw [← Array.getElem?_toList];exact hi
      have h2:=hxx i f h1;have hil:i<xs.length:=by
       rw [hxl];exact (Array.getElem?_eq_some_iff.1 h1).1
      rw [Q4 hil] at h2;exact ⟨_,h2⟩
     rwa [Qe] at this
   ·cases h
  ·rename_i len e hu
   split at h
   ·rename_i fs1 hg
    cases hb1:(P.cellsOf e).beq fs1.size
    ·rw [hb1] at h;cases h
    ·rw [hb1] at h
     have hce:=Q0 hb1;dsimp only [cond_true] at h;split at h
     ·rename_i gs hr
      cases hb:(P.cellsOf t).beq gs.size
      ·rw [hb] at h;cases h
      ·rw [hb] at h
       injection h with h;subst h;have hct:=Q0 hb;obtain ⟨xs,m,rfl,_,hl,hxl,hxx⟩:=DataW.trod_array hu hx;have:=rep_opens (qd1 n e fs1 hg) hce len gs hr m 0 cs (by omega) λi hi=>by
        have h2:=hxx i hi;rw [Q4 (by omega)] at h2
        rw [Nat.zero_add];exact ⟨_,h2⟩
       rwa [Nat.zero_mul,Qe] at this
     ·cases h
   ·cases h
  ·cases h
theorem q9z {r:Reach} {b0:Nat} (x:CK) (t:TypeId) (ht:ckT P t=some x) {v:Value} {d:DataW H} {ps:List MemPlace} (hv:Value.okWide P w r b0 t v) (h:DataW.Trod enc P w base spare held t v d ps) :
  ∃ p:x.Pay,(x.comp p).Rep (Cx.of (Here w)) w v∧x.Big p:=by
 obtain ⟨fuel,hf⟩:=h;unfold ckT at ht;split at ht
 ·rename_i F hu
  cases hk:tyK P 20 t with
  | none=>rw [hk] at ht;cases ht
  | some ks =>
   rw [hk] at ht;injection ht with ht;subst ht;obtain ⟨cs,rfl,hsz⟩:=okWide_struct hu hv;obtain ⟨p,hp,hb⟩:=qd1 20 t ks hk fuel _ _ hf;obtain ⟨h1,h2,h3⟩:=q2w.reps ks p _ hp;refine ⟨p,⟨cs,rfl,?_,λi c hi=>?_,λi u hi=>?_⟩,hb⟩
   ·rw [← h3];simp [Q9]
   ·obtain ⟨u,hu,hr⟩:=h1 i c hi
    exact ⟨u,by simpa [Q9] using hu,hr⟩
   ·exact h2 i u (by simpa [Q9] using hi)
 ·cases ht
 ·rename_i hns hna
  split at ht
  ·rename_i k hk
   injection ht with ht;subst ht;have hone:v.cells.toList=[v]:=by
    unfold tyK at hk;split at hk
    ·rename_i hu;obtain ⟨n,rfl⟩:=okWide_int hu hv;rfl
    ·rename_i hu;obtain ⟨n,rfl⟩:=okWide_bool hu hv;rfl
    ·rename_i hu;obtain ⟨n,rfl⟩:=okWide_string hu hv;rfl
    ·rename_i hu;obtain ⟨a,n,c,rfl⟩:=okWide_slice hu hv;rfl
    ·rename_i hu;exact absurd hu (hns _)
    ·rename_i hu;exact absurd hu (hna _ _)
    ·cases hk
   obtain ⟨p,⟨v',h1,h2⟩,h3⟩:=qd1 20 t (.one k) hk fuel _ _ hf;rw [hone] at h1;injection h1 with h1;subst h1;exact ⟨p,h2,h3⟩
  ·cases ht
end
end R
end Go.Proofs.YtlfaaoalgcbcoaaGreatDoor

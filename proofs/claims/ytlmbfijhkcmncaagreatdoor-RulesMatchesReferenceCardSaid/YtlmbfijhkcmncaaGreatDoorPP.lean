/-
  Several texts in one: RuE, RuM, RuN, RuO, RuQ, Builder, RuT, RuU.
-/
import Derived.Test.YtlmbfijhkcmncaaGreatDoorPO
import Derived.Test.YtlmbfijhkcmncaaGreatDoorPB
import Derived.Lib.Builder
import Derived.Lib.AppendStr
import Derived.Lib.Walk
import Derived.Laws.Externs
import Derived.RegionTactic
import Derived.ChangeAlike
import Derived.Recover
import Derived.Laws.Pointers
open Go.Lib renaming hid→Q0,byteCells→Q3,IsBuilder→Q9,byteCells_length→Qd,BuilderAt→Qu,strCells→Qy,cell_of_heap→QD,toList_data→QJ
open List renaming mem_singleton→Q7,map→Qa,length_append→Qb,length_cons→Qc,mem_cons→Qe,length_drop→Qf,length_map→Qg,getD_eq_getElem?_getD→Qj,append_assoc→Qk,getElem?_eq_some_iff→Ql,take_length→Qm,drop→Qn,take→Qo,length_singleton→Qr,mem_of_getElem?→Qs,mem_cons_of_mem→Qt,mem_map→Qv,take_add_one→Qz,length→QA
open Nat renaming zero_le→Q8,le_refl→Qh
open Go.RowKit.Below renaming heap_setCell→Qi,refl→QH
open Prod.mk renaming inj→Qp
open Option renaming map_eq_some_iff→Qq
open Int renaming toNat→Qw
open Except renaming ok→Qx,error→QL
open Bool renaming and_eq_true→QC,noConfusion→QE,eq_iff_iff→QG
open Go.Instr renaming typeAssert→QF
open Go.Value renaming pointer→QK
open Go.Extern.AbiNoEscape renaming same→QN
set_option linter.unusedVariables false
namespace Go.Proofs.YtlmbfijhkcmncaaGreatDoor
open Go.RowKit R
theorem getD_op (rs:List Rul.q0g) (i:Nat):(rs.map opOf).getD i ([],[],[],false,[],[])=opOf (rAt rs i):=by
 unfold rAt;rw [Qj,Qj,List.getElem?_map];cases rs[i]? <;> rfl
abbrev qdz (f:AlP) (p_1:Nat×NX) (r:Rul.q11) (t:AlP):Prop :=
 ((zE (((q0l (r,f,t)).1.getD (p_1.1:Int).toNat ([],[],[],false,[],[])).1)∧zE (((q0l (r,f,t)).1.getD (p_1.1:Int).toNat ([],[],[],false,[],[])).2.1)∧zE (((q0l (r,f,t)).1.getD (p_1.1:Int).toNat ([],[],[],false,[],[])).2.2.1)∧zE (((q0l (r,f,t)).1.getD (p_1.1:Int).toNat ([],[],[],false,[],[])).2.2.2.1)∧zE (((q0l (r,f,t)).1.getD (p_1.1:Int).toNat ([],[],[],false,[],[])).2.2.2.2.1)∧zE (((q0l (r,f,t)).1.getD (p_1.1:Int).toNat ([],[],[],false,[],[])).2.2.2.2.2)∧True)∧True)
abbrev qdd (f:AlP) (p:Nat×NX) (p_1:Nat×NX) (r:Rul.q11) (s:List UInt8) (t:AlP):Prop :=
 (zE ((q0l (r,f,t)).1)∧zE ((Al.q0o (alOf f) s).1)∧True∧zE (p.1:Int)∧True∧zE ((p.1:Int)+(↑((q0l (r,f,t)).1.getD (p_1.1:Int).toNat ([],[],[],false,[],[])).2.2.2.2.1.length:Int))∧zE (↑(Al.q0o (alOf f) s).1.length:Int)∧zE (p.1:Int)∧zE ((q0l (r,f,t)).1)∧zE (↑(q0l (r,f,t)).1.length:Int)∧zE (p_1.1:Int)∧True∧True)
abbrev zRuE0_2 (f:AlP) (p:Nat×NX) (p_1:Nat×NX) (p_2:NX×List (List UInt8×Bool)) (r:Rul.q11) (s:List UInt8) (t:AlP):Prop :=
 (p_2.2=[]→(zFit ((p_1.1:Int)+1))∧∃ (p':Nat×NX),q5k (rsOf r f) (wOf f s) (p.1:Int).toNat p'.1 p'.2∧(rsOf r f).length-p'.1<(rsOf r f).length-p_1.1∧((p_1.1:Int)+1=(p'.1:Int)∧zE ((q0l (r,f,t)).1)∧zE ((Al.q0o (alOf f) s).1)∧True∧zE (p.1:Int)∧zE (↑(Al.q0o (alOf f) s).1.length:Int)∧zE (p.1:Int)∧zE ((q0l (r,f,t)).1)∧zE (↑(q0l (r,f,t)).1.length:Int)∧True)∧True∧True∧True∧True∧True∧p_2.1=p'.2∧zT3)
abbrev zRuE0_3 (f:AlP) (p:Nat×NX) (p_1:Nat×NX) (p_2:NX×List (List UInt8×Bool)) (r:Rul.q11) (t:AlP):Prop :=
 ((Mp.get (λ(x x_1:Int)=>x==x_1) ((p.1:Int)+(↑((q0l (r,f,t)).1.getD (p_1.1:Int).toNat ([],[],[],false,[],[])).2.2.2.2.1.length:Int)) p_2.1).isSome=true∧((p.1:Int)=(p.1:Int)+(↑((q0l (r,f,t)).1.getD (p_1.1:Int).toNat ([],[],[],false,[],[])).2.2.2.2.1.length:Int)→False)∧True)
set_option maxRecDepth 100000 in
theorem writ_vc (r:Rul.q11) (f t:AlP) (s:List UInt8) (h:cWrit.pre (r,f,t,s)) :
  (FewR r∧FewP f∧FewP t)∧bif !(q0l (r,f,t)).2 then ([],(1:Int))=Rul.q21 r (alOf f) (alOf t) s else (FewP f∧s.length≤(1000000:Nat))∧bif (Al.q0o (alOf f) s).2.1 != (0:Int) then ([],(1:Int))=Rul.q21 r (alOf f) (alOf t) s else (Mp.get (λ(x x_1:Int)=>x==x_1) (0:Int) ([]:NX)).isSome=false∧(∃ (p':Nat×NX),inOut (rsOf r f) (wOf f s) p'.1 p'.2∧((0:Int)=(p'.1:Int)∧zE ((q0l (r,f,t)).1)∧zE ((Al.q0o (alOf f) s).1)∧True∧zE (↑(Al.q0o (alOf f) s).1.length:Int)∧True)∧True∧True∧True∧True∧True∧[]++[((0:Int),Mp.put (λ(x x_1:List UInt8)=>x==x_1) [] true [])]=p'.2∧zT3)∧∀ (p:Nat×NX),inOut (rsOf r f) (wOf f s) p.1 p.2→bif decide ((p.1:Int)<(↑(Al.q0o (alOf f) s).1.length:Int)) then bif decide ((200:Int)<(↑((Mp.get (λ(x x_1:Int)=>x==x_1) (p.1:Int) p.2).getD []).length:Int)) then ([],(2:Int))=Rul.q21 r (alOf f) (alOf t) s else (∃ (p':Nat×NX),q5k (rsOf r f) (wOf f s) (p.1:Int).toNat p'.1 p'.2∧((0:Int)=(p'.1:Int)∧zE ((q0l (r,f,t)).1)∧zE ((Al.q0o (alOf f) s).1)∧True∧zE (p.1:Int)∧zE (↑(Al.q0o (alOf f) s).1.length:Int)∧zE (p.1:Int)∧zE ((q0l (r,f,t)).1)∧zE (↑(q0l (r,f,t)).1.length:Int)∧True)∧True∧True∧True∧True∧True∧p.2=p'.2∧zT3)∧∀ (p_1:Nat×NX),q5k (rsOf r f) (wOf f s) (p.1:Int).toNat p_1.1 p_1.2→bif decide ((p_1.1:Int)<(↑(q0l (r,f,t)).1.length:Int)) then (0≤(p_1.1:Int)∧(p_1.1:Int)<(↑(q0l (r,f,t)).1.length:Int))∧(0≤(p.1:Int)∧(p.1:Int)≤(↑(Al.q0o (alOf f) s).1.length:Int)∧(↑(Al.q0o (alOf f) s).1.length:Int)≤(↑(Al.q0o (alOf f) s).1.length:Int))∧(((q0l (r,f,t)).1.getD (p_1.1:Int).toNat ([],[],[],false,[],[])).2.2.2.2.1.length≤(1000000:Nat)∧((q0l (r,f,t)).1.getD (p_1.1:Int).toNat ([],[],[],false,[],[])).2.2.2.2.2.length≤(1000000:Nat)∧(Qn (p.1:Int).toNat (Qo (↑(Al.q0o (alOf f) s).1.length:Int).toNat (Al.q0o (alOf f) s).1)).length≤(1000000:Nat))∧bif !Rul.q0x (toOp ((q0l (r,f,t)).1.getD (p_1.1:Int).toNat ([],[],[],false,[],[]))) (Qn (p.1:Int).toNat (Qo (↑(Al.q0o (alOf f) s).1.length:Int).toNat (Al.q0o (alOf f) s).1)) then (zFit ((p_1.1:Int)+1))∧∃ (p':Nat×NX),q5k (rsOf r f) (wOf f s) (p.1:Int).toNat p'.1 p'.2∧(rsOf r f).length-p'.1<(rsOf r f).length-p_1.1∧((p_1.1:Int)+1=(p'.1:Int)∧zE ((q0l (r,f,t)).1)∧zE ((Al.q0o (alOf f) s).1)∧True∧zE (p.1:Int)∧zE (↑(Al.q0o (alOf f) s).1.length:Int)∧zE (p.1:Int)∧zE ((q0l (r,f,t)).1)∧zE (↑(q0l (r,f,t)).1.length:Int)∧True)∧True∧True∧True∧True∧True∧p_1.2=p'.2∧zT3 else (zFit ((p.1:Int)+(↑((q0l (r,f,t)).1.getD (p_1.1:Int).toNat ([],[],[],false,[],[])).2.2.2.2.1.length:Int)))∧bif !(Mp.get (λ(x x_1:Int)=>x==x_1) ((p.1:Int)+(↑((q0l (r,f,t)).1.getD (p_1.1:Int).toNat ([],[],[],false,[],[])).2.2.2.2.1.length:Int)) p_1.2).isSome then (Mp.get (λ(x x_1:Int)=>x==x_1) ((p.1:Int)+(↑((q0l (r,f,t)).1.getD (p_1.1:Int).toNat ([],[],[],false,[],[])).2.2.2.2.1.length:Int)) p_1.2).isSome=false∧(∃ (p':NX×List (List UInt8×Bool)),inIn (rsOf r f) (wOf f s) (p.1:Int).toNat (p_1.1:Int).toNat (p_1.2++[((p.1:Int)+(↑((q0l (r,f,t)).1.getD (p_1.1:Int).toNat ([],[],[],false,[],[])).2.2.2.2.1.length:Int),[])]) p'.1 p'.2∧(qdd f p p_1 r s t)∧(qdz f p_1 r t)∧True∧True∧True∧True∧p_1.2++[((p.1:Int)+(↑((q0l (r,f,t)).1.getD (p_1.1:Int).toNat ([],[],[],false,[],[])).2.2.2.2.1.length:Int),[])]=p'.1∧((zE (p.1:Int)∧(Mp.get (λ(x x_1:Int)=>x==x_1) (p.1:Int) (p_1.2++[((p.1:Int)+(↑((q0l (r,f,t)).1.getD (p_1.1:Int).toNat ([],[],[],false,[],[])).2.2.2.2.1.length:Int),[])])).getD []=p'.2∧True)∧True)∧True∧True)∧∀ (p_2:NX×List (List UInt8×Bool)),inIn (rsOf r f) (wOf f s) (p.1:Int).toNat (p_1.1:Int).toNat (p_1.2++[((p.1:Int)+(↑((q0l (r,f,t)).1.getD (p_1.1:Int).toNat ([],[],[],false,[],[])).2.2.2.2.1.length:Int),[])]) p_2.1 p_2.2→(zRuE0_2 f p p_1 p_2 r s t)∧∀ (j:Nat) (e:List UInt8×Bool),p_2.2[j]? = some e→e.1.length+((q0l (r,f,t)).1.getD (p_1.1:Int).toNat ([],[],[],false,[],[])).2.1.length≤(9223372036854775807:Nat)∧(zRuE0_3 f p p_1 p_2 r t)∧∃ (p':NX×List (List UInt8×Bool)),inIn (rsOf r f) (wOf f s) (p.1:Int).toNat (p_1.1:Int).toNat (p_1.2++[((p.1:Int)+(↑((q0l (r,f,t)).1.getD (p_1.1:Int).toNat ([],[],[],false,[],[])).2.2.2.2.1.length:Int),[])]) p'.1 p'.2∧p'.2.length<p_2.2.length∧(qdd f p p_1 r s t)∧(qdz f p_1 r t)∧True∧True∧True∧True∧Mp.put (λ(x x_1:Int)=>x==x_1) ((p.1:Int)+(↑((q0l (r,f,t)).1.getD (p_1.1:Int).toNat ([],[],[],false,[],[])).2.2.2.2.1.length:Int)) (Mp.put (λ(x x_1:List UInt8)=>x==x_1) (e.1++((q0l (r,f,t)).1.getD (p_1.1:Int).toNat ([],[],[],false,[],[])).2.1) true ((Mp.get (λ(x x_1:Int)=>x==x_1) ((p.1:Int)+(↑((q0l (r,f,t)).1.getD (p_1.1:Int).toNat ([],[],[],false,[],[])).2.2.2.2.1.length:Int)) p_2.1).getD [])) p_2.1=p'.1∧((zE (p.1:Int)∧p_2.2.eraseIdx j=p'.2∧True)∧True)∧True∧True else (∃ (p':NX×List (List UInt8×Bool)),inIn (rsOf r f) (wOf f s) (p.1:Int).toNat (p_1.1:Int).toNat p_1.2 p'.1 p'.2∧(qdd f p p_1 r s t)∧(qdz f p_1 r t)∧True∧True∧True∧True∧p_1.2=p'.1∧((zE (p.1:Int)∧(Mp.get (λ(x x_1:Int)=>x==x_1) (p.1:Int) p_1.2).getD []=p'.2∧True)∧True)∧True∧True)∧∀ (p_2:NX×List (List UInt8×Bool)),inIn (rsOf r f) (wOf f s) (p.1:Int).toNat (p_1.1:Int).toNat p_1.2 p_2.1 p_2.2→(zRuE0_2 f p p_1 p_2 r s t)∧∀ (j:Nat) (e:List UInt8×Bool),p_2.2[j]? = some e→e.1.length+((q0l (r,f,t)).1.getD (p_1.1:Int).toNat ([],[],[],false,[],[])).2.1.length≤(9223372036854775807:Nat)∧(zRuE0_3 f p p_1 p_2 r t)∧∃ (p':NX×List (List UInt8×Bool)),inIn (rsOf r f) (wOf f s) (p.1:Int).toNat (p_1.1:Int).toNat p_1.2 p'.1 p'.2∧p'.2.length<p_2.2.length∧(qdd f p p_1 r s t)∧(qdz f p_1 r t)∧True∧True∧True∧True∧Mp.put (λ(x x_1:Int)=>x==x_1) ((p.1:Int)+(↑((q0l (r,f,t)).1.getD (p_1.1:Int).toNat ([],[],[],false,[],[])).2.2.2.2.1.length:Int)) (Mp.put (λ(x x_1:List UInt8)=>x==x_1) (e.1++((q0l (r,f,t)).1.getD (p_1.1:Int).toNat ([],[],[],false,[],[])).2.1) true ((Mp.get (λ(x x_1:Int)=>x==x_1) ((p.1:Int)+(↑((q0l (r,f,t)).1.getD (p_1.1:Int).toNat ([],[],[],false,[],[])).2.2.2.2.1.length:Int)) p_2.1).getD [])) p_2.1=p'.1∧((zE (p.1:Int)∧p_2.2.eraseIdx j=p'.2∧True)∧True)∧True∧True else (zFit ((p.1:Int)+1))∧∃ (p':Nat×NX),inOut (rsOf r f) (wOf f s) p'.1 p'.2∧(wOf f s).length-p'.1<(wOf f s).length-p.1∧((p.1:Int)+1=(p'.1:Int)∧zE ((q0l (r,f,t)).1)∧zE ((Al.q0o (alOf f) s).1)∧True∧zE (↑(Al.q0o (alOf f) s).1.length:Int)∧True)∧True∧True∧True∧True∧True∧p_1.2=p'.2∧zT3 else bif decide ((200:Int)<(↑((Mp.get (λ(x x_1:Int)=>x==x_1) (↑(Al.q0o (alOf f) s).1.length:Int) p.2).getD []).length:Int)) then ([],(2:Int))=Rul.q21 r (alOf f) (alOf t) s else ((Qa (λ(x:List UInt8×Bool)=>x.1) ((Mp.get (λ(x x_1:Int)=>x==x_1) (↑(Al.q0o (alOf f) s).1.length:Int) p.2).getD [])).Nodup∧(Qa (λ(x:List UInt8×Bool)=>x.1) ((Mp.get (λ(x x_1:Int)=>x==x_1) (↑(Al.q0o (alOf f) s).1.length:Int) p.2).getD [])).length≤(1000000000:Nat)∧∀ (x:List UInt8),x∈Qa (λ(x:List UInt8×Bool)=>x.1) ((Mp.get (λ(x x_1:Int)=>x==x_1) (↑(Al.q0o (alOf f) s).1.length:Int) p.2).getD [])→x.length≤(1000000000:Nat))∧((Qa (λ(x:List UInt8×Bool)=>x.1) ((Mp.get (λ(x x_1:Int)=>x==x_1) (↑(Al.q0o (alOf f) s).1.length:Int) p.2).getD [])).mergeSort λ(x y:List UInt8)=>decide (x≤y),(0:Int))=Rul.q21 r (alOf f) (alOf t) s:=by
 delta qdz qdd zRuE0_2 zRuE0_3 zFit zE zT3
 simp only [true_and,and_true];obtain ⟨hFr,hFf,hFt,hs⟩:=h;obtain ⟨r1,r2,l⟩:=r;obtain ⟨f1,f2,f3⟩:=f;obtain ⟨t1,t2,t3⟩:=t;dsimp only at hFr hFf hFt hs ⊢;have hw0:Rul.q21 (r1,r2,l) (alOf (f1,f2,f3)) (alOf (t1,t2,t3)) s=if Rul.q09 (r1,r2,l) (alOf (f1,f2,f3)) (alOf (t1,t2,t3))&&(Al.q0m f2 s).2.1==0 then Rul.q40 (rsOf (r1,r2,l) (f1,f2,f3)) (Al.q0m f2 s).1 else ([],1):=rfl
 refine ⟨⟨hFr,hFf,hFt⟩,bifP (λhv=>?_) λhv=>⟨⟨hFf,hs⟩,bifP (λhe=>?_) λhe=>?_⟩⟩
 ·have:Rul.q09 (r1,r2,l) (alOf (f1,f2,f3)) (alOf (t1,t2,t3))=false:=by
   cases h:Rul.q09 (r1,r2,l) (alOf (f1,f2,f3)) (alOf (t1,t2,t3))
   ·rfl
   ·unfold q0l at hv
    dsimp only at hv;rw [if_pos h] at hv;cases hv
  rw [hw0,this];rfl
 ·have hval:Rul.q09 (r1,r2,l) (alOf (f1,f2,f3)) (alOf (t1,t2,t3))=true:=by
   cases h:Rul.q09 (r1,r2,l) (alOf (f1,f2,f3)) (alOf (t1,t2,t3))
   ·unfold q0l at hv
    dsimp only at hv;rw [h] at hv;cases hv
   ·rfl
  have hva:Al.q09 (alOf (f1,f2,f3))=true:=by
   unfold Rul.q09 at hval;simp only [QC] at hval;exact hval.2.1
  have hre:Al.q0o (alOf (f1,f2,f3)) s=Al.q0m f2 s:=by unfold Al.q0o;rw [if_pos hva];rfl
  rw [hre] at he;rw [hw0,hval,show ((Al.q0m f2 s).2.1==0)=false by simpa using he];rfl
 ·have hval:Rul.q09 (r1,r2,l) (alOf (f1,f2,f3)) (alOf (t1,t2,t3))=true:=by
   cases h:Rul.q09 (r1,r2,l) (alOf (f1,f2,f3)) (alOf (t1,t2,t3))
   ·unfold q0l at hv
    dsimp only at hv;rw [h] at hv;cases hv
   ·rfl
  have hva:Al.q09 (alOf (f1,f2,f3))=true:=by
   unfold Rul.q09 at hval;simp only [QC] at hval;exact hval.2.1
  have hre:Al.q0o (alOf (f1,f2,f3)) s=Al.q0m f2 s:=by unfold Al.q0o;rw [if_pos hva];rfl
  have hob:(q0l ((r1,r2,l),(f1,f2,f3),t1,t2,t3)).1=(rsOf (r1,r2,l) (f1,f2,f3)).map opOf:=by
   unfold q0l;dsimp only;rw [if_pos hval];rfl
  obtain ⟨hp,hm⟩:=Rul.pos_of hval;have hp:Rul.Pos (rsOf (r1,r2,l) (f1,f2,f3)):=hp;have hm:∀ x∈rsOf (r1,r2,l) (f1,f2,f3),x.1.2.1.length≤9:=hm;have hlen:(rsOf (r1,r2,l) (f1,f2,f3)).length≤1000:=by
   unfold rsOf;rw [Qg];exact hFr.2.2.1
  have hmost:=Al.qbb f2 s;have hbig:∀ x∈rsOf (r1,r2,l) (f1,f2,f3),x.2.1.length≤24∧x.2.2.length≤24:=λx hx=>by
   obtain ⟨y,_,rfl⟩:=Qv.1 hx;have hro:∀ (s:List UInt8) (m:Int),(Rul.q07 f2 s m).1.length≤24:=λs m=>by
    unfold Rul.q07;split
    ·exact Q8 _
    ·exact Al.qbb f2 s
   exact ⟨hro _ _,hro _ _⟩
  have hwo:wOf (f1,f2,f3) s=(Al.q0m f2 s).1:=by unfold wOf;rw [hre]
  rw [hre] at he;have he0:((Al.q0m f2 s).2.1==0)=true:=by simpa using he
  rw [hval,he0] at hw0;rw [hw0,hwo,hre,hob];clear hw0 hwo hre hob he he0;generalize rsOf (r1,r2,l) (f1,f2,f3)=rs at *
  generalize (Al.q0m f2 s).1=w at *
  simp only [Qg,getD_op,Int.toNat_natCast,Qm];rw [show (if (true&&true)=true then Rul.q40 rs w else ([],1))=Rul.q40 rs w from rfl]
  have len_of:∀ (k:Nat) (xs:NX),(q38 xs k).length=((Mp.get eqI (k:Int) xs).getD []).length:=λk xs=>Qg _
  have big:∀ {k i:Nat} {xs:NX} {x:List UInt8},q5k rs w k i xs→k≤w.length→x∈q38 xs k→x.length≤216:=λ{k i xs x} h hk hx=>by
   have:=reach_len hp hm ((Rul.q6i hp (Qh k)).1 ((h.2.mem k x).1 hx))
   omega
  have inner:∀ (k i:Nat) (xs:NX),k<w.length→i<rs.length→Rul.q0x (rAt rs i) (w.drop k)=true→q5k rs w k i xs→(Mp.get eqI ((k+(rAt rs i).2.1.length:Nat):Int) xs).isSome=true →
    (∃ p':NX×List (List UInt8×Bool),inIn rs w k i xs p'.1 p'.2∧xs=p'.1∧(Mp.get eqI (k:Int) xs).getD []=p'.2) ∧
    ∀ p:NX×List (List UInt8×Bool),inIn rs w k i xs p.1 p.2 →
     (p.2=[]→((-9223372036854775808:Int)≤(i:Int)+1∧(i:Int)+1≤9223372036854775807)∧∃ p':Nat×NX,q5k rs w k p'.1 p'.2∧rs.length-p'.1<rs.length-i∧(i:Int)+1=(p'.1:Int)∧p.1=p'.2) ∧
     ∀ (j:Nat) (e:List UInt8×Bool),p.2[j]? = some e→e.1.length+(rAt rs i).1.2.1.length≤9223372036854775807 ∧
      ((Mp.get eqI ((k+(rAt rs i).2.1.length:Nat):Int) p.1).isSome=true∧((k:Int)=(k:Int)+((rAt rs i).2.1.length:Int)→False)) ∧
      ∃ p':NX×List (List UInt8×Bool),inIn rs w k i xs p'.1 p'.2∧p'.2.length<p.2.length∧putS p.1 (k+(rAt rs i).2.1.length) (e.1++(rAt rs i).1.2.1)=p'.1∧p.2.eraseIdx j=p'.2:=λk i xs hk hi hst hmid hat=>by
   have hpos:=hp _ (qhn hi);have hto:=hm _ (qhn hi);refine ⟨⟨(xs,_),in_start hmid hat,rfl,rfl⟩,λq hq=>⟨λhl=>?_,λj e he=>?_⟩⟩
   ·obtain ⟨xs',left⟩:=q
    dsimp only at hl hq ⊢;subst hl;exact ⟨⟨by omega,by omega⟩,(i+1,xs'),in_end hp hmid hi hk hst hq,by dsimp only;omega,by dsimp only;omega,rfl⟩
   ·obtain ⟨xs',left⟩:=q
    dsimp only at hq he ⊢;have hmem:e.1∈q38 xs k:=by
     obtain ⟨_,done,hpm,_⟩:=hq;exact hpm.mem_iff.2 (List.mem_append_right _ (Qv.2 ⟨e,Qs he,rfl⟩))
    have hel:=big hmid (Nat.le_of_lt hk) hmem;have hj:j<left.length:=(Ql.1 he).1;exact ⟨by omega,⟨hq.1,λe=>by omega⟩,(_,left.eraseIdx j),in_step hq he,by dsimp only;rw [List.length_eraseIdx_of_lt hj];omega,rfl,rfl⟩
  refine ⟨rfl,⟨(0,[((0:Int),[([],true)])]),⟨Q8 _,rfl,tab_start⟩,rfl,rfl⟩,λp hO=>?_⟩
  obtain ⟨k,xs0⟩:=p;dsimp only at hO ⊢;refine bifP (λhb=>bifP (λh2=>?_) λh2=>⟨⟨(0,xs0),⟨Q8 _,hO.2.2⟩,rfl,rfl⟩,λp hI=>?_⟩) λhb=>?_
  ·exact (many_out hp hO (by rw [len_of];exact Int.ofNat_lt.1 (of_decide_eq_true h2))).symm
  ·have hk:k<w.length:=by have:=of_decide_eq_true hb;omega
   obtain ⟨i,xs⟩:=p;dsimp only at hI ⊢;have h2':(q38 xs0 k).length≤200:=by
    rw [len_of];have:=of_decide_eq_false h2;exact Int.ofNat_le.1 (Int.not_lt.1 this)
   refine bifP (λhc=>?_) λhc=>?_
   ·have hi:i<rs.length:=by have:=of_decide_eq_true hc;omega
    have hx:=hbig _ (qhn hi);refine ⟨⟨by omega,by omega⟩,⟨by omega,by omega,by omega⟩,⟨by show (rAt rs i).2.1.length≤_;omega,by show (rAt rs i).2.2.length≤_;omega,by rw [Qf];omega⟩,bifP (λhst=>?_) λhst=>?_⟩
    ·have hst:Rul.q0x (rAt rs i) (w.drop k)=false:=by
      have hst:(!Rul.q0x (rAt rs i) (w.drop k))=true:=hst
      simpa using hst
     exact ⟨⟨by omega,by omega⟩,(i+1,xs),mid_skip hI hi hst,by dsimp only;omega,by dsimp only;omega,rfl⟩
    ·have hst:Rul.q0x (rAt rs i) (w.drop k)=true:=by
      have hst:(!Rul.q0x (rAt rs i) (w.drop k))=false:=hst
      simpa using hst
     refine ⟨⟨by omega,by show (k:Int)+((rAt rs i).2.1.length:Int)≤_;omega⟩,bifP (λhn=>?_) λhn=>?_⟩
     ·have hn:(Mp.get eqI ((k+(rAt rs i).2.1.length:Nat):Int) xs).isSome=false:=by
       have hn:(!(Mp.get eqI ((k+(rAt rs i).2.1.length:Nat):Int) xs).isSome)=true:=hn
       simpa using hn
      exact ⟨hn,inner k i _ hk hi hst (mid_new hI hn) has_new⟩
     ·have hn:(Mp.get eqI ((k+(rAt rs i).2.1.length:Nat):Int) xs).isSome=true:=by
       have hn:(!(Mp.get eqI ((k+(rAt rs i).2.1.length:Nat):Int) xs).isSome)=false:=hn
       simpa using hn
      exact inner k i _ hk hi hst hI hn
   ·have hi:rs.length≤i:=by have:=of_decide_eq_false hc;omega
    exact ⟨⟨by omega,by omega⟩,(k+1,xs),out_next hp hO hk h2' hI hi,by dsimp only;omega,by dsimp only;omega,rfl⟩
  ·obtain rfl:k=w.length:=by have:=of_decide_eq_false hb;have:=hO.1;omega
   refine bifP (λh2=>?_) λh2=>?_
   ·exact (many_out hp hO (by rw [len_of];exact Int.ofNat_lt.1 (of_decide_eq_true h2))).symm
   ·have h2':(q38 xs0 w.length).length≤200:=by
     rw [len_of];have:=of_decide_eq_false h2;exact Int.ofNat_le.1 (Int.not_lt.1 this)
    refine ⟨⟨hO.2.2.nodup _,?_,λx hx=>?_⟩,(write_out hp hO h2').symm⟩
    ·rw [len_of] at h2'
     exact Nat.le_trans h2' (show 200≤1000000000 by omega)
    ·have:=big (i:=0) ⟨Q8 _,hO.2.2⟩ (Qh _) hx
     omega
set_option maxRecDepth 100000 in
theorem qkh:cWrit.Holds Tryz.prog:=by
 refine holdsH (cons:=[cOpen,cPRead,cStands]) cWrit Tryz.func6 (by kernel_rfl) (by kernel_rfl) mixed (by kernel_rfl) (λc h=>by
  rcases Qe.1 h with rfl | h
  ·exact qk4
  rcases Qe.1 h with rfl | h
  ·exact qhs
  ·obtain rfl:=Q7.1 h;exact stands_holds) (λ_=>HOk.id) kInl_ok kInl_yld (λp=>anWrit (rsOf p.1 p.2.1) (wOf p.2.1 p.2.2.2)) (λF' hF p r hr=>by injection hF with hF;subst hF;exact hr) λp hp=>?_
 obtain ⟨r,f,t,s⟩:=p;refine cast ?_ (writ_vc r f t s hp)
 kernel_rfl
abbrev kPs:Kds:=.cons (.sl kTok) (.one (.int .i64))
abbrev kFlt:Kds:=.cons (.int .i64) (.one (.int .i64))
abbrev PsP:Type:=List Rul.TP×Int
def panE {α:Type}:Except Rul.Flt α→Option (Int×Int)
 | .error x=>some x
 | .ok _=>none
def resE {α β:Type} (d:β) (g:α→β):Except Rul.Flt α→β
 | .error _=>d
 | .ok a=>g a
def cNext:RCon:={ f:=62,ks:=kPs,args:=[],res:=[.agg kTok],pre:=λ_ _=>True,F:=λx _=>(Rul.q14 x.2 x.1,x) }
def q0r (x:PsP) (p:Int×List UInt8):Except Rul.Flt (Rul.TP×List Rul.TP):=Rul.q05 x.2 p.1 p.2 x.1
def cTake:RCon:={ f:=61,ks:=kPs,args:=[q3l,q3a],res:=[.agg kTok],pre:=λ_ _=>True,F:=λ(x:PsP) p=>resE ((0,0,0,[]),x) (λy=>(y.1,(y.2,x.2))) (q0r x p),panics:=true,pt:=80,pks:=kFlt,pan:=λ(x:PsP) p=>panE (q0r x p) }
def q4s (x:PsP) (p:Int×Int):Except Rul.Flt (List UInt8×List Rul.TP):=Rul.q3k x.2 p.1 p.2 x.1
def q2f (x:PsP):Prop:=QA x.1≤1000000∧∀ t∈x.1,QA t.2.2.2≤1000000000
def cText:RCon:={ f:=92,ks:=kPs,args:=[q3l,q3l],res:=[q3a],pre:=λ(x:PsP) _=>q2f x,F:=λ(x:PsP) p=>resE ([],x) (λy=>(y.1,(y.2,x.2))) (q4s x p),panics:=true,pt:=80,pks:=kFlt,pan:=λ(x:PsP) p=>panE (q4s x p) }
def q28 (x:PsP):Except Rul.Flt (Rul.Rule×List Rul.TP):=Rul.q62 x.2 x.1
def cRule:RCon:={ f:=63,ks:=kPs,args:=[],res:=[ckRule],pre:=λ(x:PsP) _=>q2f x,F:=λ(x:PsP) _=>resE (([],[],[],false),x) (λy=>(y.1,(y.2,x.2))) (q28 x),panics:=true,pt:=80,pks:=kFlt,pan:=λ(x:PsP) _=>panE (q28 x) }
def q1d (x:PsP):Except Rul.Flt Rul.q11:=Rul.q6d x.2 x.1
def cRules:RCon:={ f:=35,ks:=kPs,args:=[],res:=[q0t],pre:=λ(x:PsP) _=>q2f x,F:=λ(x:PsP) _=>(resE ([],[],[]) id (q1d x),([],x.2)),panics:=true,pt:=80,pks:=kFlt,pan:=λ(x:PsP) _=>panE (q1d x) }
def q9q (l:List Rul.Rule):Row:=⟨45,q7u,l⟩
def R.box3 (st:St):List Cell :=
 match st.box 3 with
 | some (a::b::_)=>[a,b,.own 67]
 | _=>[]
def R.box2 (st:St):List Cell :=
 match st.box 2 with
 | some l=>l
 | _=>[]
def q89 (ts:List Rul.TP) (e:Int) (acc:List Rul.Rule) (us:List Rul.TP):Prop :=
 ((Rul.q5w e ts).bind λx=>Rul.q1v (x.2.2.length+1) e [] x.2.2)=Rul.q1v (us.length+1) e acc us∧q2f (us,e)∧acc.length≤80∧acc.all Rul.q1g=true∧Rul.once acc=true
def anRules (ts:List Rul.TP) (e:Int):List (Nat×Ann) :=
 [(0,{ ι:=List Rul.Rule×List Rul.TP,at_:=λst p=>{ st.head [0,2,3,4] [] [(67,q9q p.1)] with boxes:=[(0,kPs.cells (p.2,e)),(3,R.box3 st),(2,R.box2 st)],maps:=[(22,seenRow p.1)] },inv:=λ_ p=>q89 ts e p.1 p.2,mu:=λ_ p=>p.2.length })]
set_option maxRecDepth 100000 in
theorem next_vc (ts:List Rul.TP) (e:Int) :
    bif (ts.length:Int)==(0:Int) then True∧((0:Int),e,(0:Int),[])=Rul.q14 e ts∧(ts,e)=(ts,e) else ((0:Int)≤(0:Int)∧(0:Int)<(ts.length:Int))∧True ∧
    ts.getD (Qw (0:Int)) ((0:Int),(0:Int),(0:Int),[])=Rul.q14 e ts∧(ts,e)=(ts,e)
     := by
  simp only [true_and,and_true];cases ts with
  | nil=>rfl
  | cons t r =>
    rw [show (((t::r).length:Int)==0)=false from beq_eq_false_iff_ne.2 (by rw [Qc];omega)]
    exact ⟨⟨by omega,by rw [Qc];omega⟩,rfl⟩
set_option maxRecDepth 100000 in
theorem take_vc (ts:List Rul.TP) (e k:Int) (s:List UInt8) :
    True∧∀ (r:Int×Int×Int×List UInt8) (y:List (Int×Int×Int×List UInt8)×Int),(Rul.q14 e ts,ts,e)=(r,y)→bif r.1==(0:Int) then panE (q0r (ts,e) (k,s))=some
    ((6:Int),y.2) else bif r.1 != k then panE (q0r (ts,e) (k,s))=some ((5:Int),r.2.1) else bif !s==[] then bif !r.2.2.2==s then panE (q0r (ts,e) (k,s))=some ((5:Int),
    r.2.1) else ((0:Int)≤(1:Int)∧(1:Int)≤(y.1.length:Int)∧(y.1.length:Int)≤(y.1.length:Int))∧panE (q0r (ts,e) (k,s))=none∧r=(resE (((0:Int),(0:Int),(0
    : Int),[]),ts,e) (λ(y:Rul.TP×List Rul.TP)=>(y.1,y.2,e)) (q0r (ts,e) (k,s))).1∧(Qn (Qw (1:Int)) (Qo (y.1.length:Int).toNat y.1),y.2)=(resE
    (((0:Int),(0:Int),(0:Int),[]),ts,e) (λ(y:Rul.TP×List Rul.TP)=>(y.1,y.2,e)) (q0r (ts,e) (k,s))).2 else ((0:Int)≤(1:Int)∧(1:Int)≤(y.1.length:Int) ∧
    (y.1.length:Int)≤(y.1.length:Int))∧panE (q0r (ts,e) (k,s))=none∧r=(resE (((0:Int),(0:Int),(0:Int),[]),ts,e) (λ(y:Rul.TP×List Rul.TP)=>(y.1,y.2,e))
    (q0r (ts,e) (k,s))).1∧(Qn (Qw (1:Int)) (Qo (y.1.length:Int).toNat y.1),y.2)=(resE (((0:Int),(0:Int),(0:Int),[]),ts,e) (λ(y:Rul.TP×List
    Rul.TP)=>(y.1,y.2,e)) (q0r (ts,e) (k,s))).2
     := by
  simp only [true_and,and_true];have hT:q0r (ts,e) (k,s)=Rul.q05 e k s ts:=rfl;rw [hT];unfold Rul.q05;intro r y hry;obtain ⟨rfl,rfl⟩:=Qp hry;clear hry;dsimp only;cases ts with
  | nil=>exact rfl
  | cons t r =>
    have hl:((0:Int)≤(1:Int)∧(1:Int)≤((t::r).length:Int)∧((t::r).length:Int)≤((t::r).length:Int)):=⟨by omega,by rw [Qc];omega,by omega⟩
    have hd:Qn (Qw 1) (Qo ((t::r).length:Int).toNat (t::r))=r:=by
      rw [show ((t::r).length:Int).toNat=(t::r).length from rfl,Qm];rfl
    rw [hd];cases h1:((Rul.q14 e (t::r)).1==0)
    · rw [if_neg (by simp)]
      cases h2:((Rul.q14 e (t::r)).1 != k)
      · have h2':((Rul.q14 e (t::r)).1==k)=true:=by simpa using h2
        rw [h2'];cases h3:(s==[])
        · cases h4:((Rul.q14 e (t::r)).2.2.2==s)
          · exact rfl
          · exact ⟨hl,rfl,rfl,rfl⟩
        · exact ⟨hl,rfl,rfl,rfl⟩
      · have h2':((Rul.q14 e (t::r)).1==k)=false:=by simpa using h2
        rw [h2'];exact rfl
    · exact rfl
set_option maxRecDepth 100000 in
theorem text_vc (ts:List Rul.TP) (e lo hi:Int) (h:q2f (ts,e)) :
    True∧(∀ (y:Int×Int),panE (q0r (ts,e) ((3:Int),[]))=some y→panE (q4s (ts,e) (lo,hi))=some y)∧(panE (q0r (ts,e) ((3:Int),[]))=none→∀ (r:Int×Int×Int ×
    List UInt8) (y:List (Int×Int×Int×List UInt8)×Int),resE (((0:Int),(0:Int),(0:Int),[]),ts,e) (λ(y:Rul.TP×List Rul.TP)=>(y.1,y.2,e)) (q0r (ts,e) ((3:Int),
    []))=(r,y)→r.2.2.2.length≤(1000000000:Nat)∧bif !Rul.q0e r.2.2.2 lo hi then panE (q4s (ts,e) (lo,hi))=some ((1:Int),r.2.1) else panE (q4s (ts,e) (lo,hi))=none ∧
    r.2.2.2=(resE ([],ts,e) (λ(y:List UInt8×List Rul.TP)=>(y.1,y.2,e)) (q4s (ts,e) (lo,hi))).1∧y=(resE ([],ts,e) (λ(y:List UInt8×List Rul.TP)=>(y.1,y.2,e))
    (q4s (ts,e) (lo,hi))).2)
     := by
  simp only [true_and,and_true];have hT:q4s (ts,e) (lo,hi)=(Rul.q05 e 3 [] ts).bind λx=>if Rul.q0e x.1.2.2.2 lo hi then .ok (x.1.2.2.2,x.2) else .error (1,x.1.2.1):=rfl
  have hU:q0r (ts,e) (3,[])=Rul.q05 e 3 [] ts:=rfl;rw [hT,hU];cases h1:Rul.q05 e 3 [] ts with
  | error x=>exact ⟨λy h=>h,λh=>by cases h⟩
  | ok a =>
    refine ⟨λy h=>(by cases h),λ_ r y hry=>?_⟩
    obtain ⟨rfl,rfl⟩:=Qp (show (a.1,(a.2,e))=(r,y) from hry);refine ⟨?_,?_⟩
    · obtain ⟨r,rfl,_⟩:=Rul.q3o h1
      exact h.2 _ List.mem_cons_self
    · show bif !Rul.q0e a.1.2.2.2 lo hi then panE (Except.bind (.ok a) _)=_ else _
      rw [show ((Qx a:Except Rul.Flt (Rul.TP×List Rul.TP)).bind λx=>if Rul.q0e x.1.2.2.2 lo hi then Qx (x.1.2.2.2,x.2) else QL ((1,x.1.2.1):Rul.Flt))=(if Rul.q0e a.1.2.2.2 lo hi then Qx (a.1.2.2.2,a.2) else QL ((1,a.1.2.1):Rul.Flt)) from rfl]
      cases h2:Rul.q0e a.1.2.2.2 lo hi
      · exact rfl
      · exact ⟨rfl,rfl,rfl⟩
set_option maxRecDepth 100000 in
theorem qeq:cNext.Holds Tryz.prog:=by
 refine q64 (cons:=[]) (rcs:=[]) (inls:=[]) (annsI:=λ_=>[]) cNext Tryz.func62 (by kernel_rfl) (by kernel_rfl) mixed (by kernel_rfl) (λc h=>by cases h) (λc h=>by cases h) q2b.nil (λ_ _=>[]) λb p hp=>?_
 obtain ⟨ts,e⟩:=b;refine cast ?_ (next_vc ts e)
 kernel_rfl
set_option maxRecDepth 100000 in
theorem qeg:cTake.Holds Tryz.prog:=by
 refine q64 (cons:=[]) (rcs:=[cNext]) (inls:=[]) (annsI:=λ_=>[]) cTake Tryz.func61 (by kernel_rfl) (by kernel_rfl) mixed (by kernel_rfl) (λc h=>by cases h) (λc h=>by obtain rfl:=Q7.1 h;exact qeq) q2b.nil (λ_ _=>[]) λb p hp=>?_
 obtain ⟨ts,e⟩:=b;obtain ⟨k,s⟩:=p;refine cast ?_ (take_vc ts e k s)
 kernel_rfl
set_option maxRecDepth 100000 in
theorem text_holds:cText.Holds Tryz.prog:=by
 refine q64 (cons:=[cPlain]) (rcs:=[cTake]) (inls:=[]) (annsI:=λ_=>[]) cText Tryz.func92 (by kernel_rfl) (by kernel_rfl) mixed (by kernel_rfl) (λc h=>by obtain rfl:=Q7.1 h;exact qhx) (λc h=>by obtain rfl:=Q7.1 h;exact qeg) q2b.nil (λ_ _=>[]) λb p hp=>?_
 obtain ⟨ts,e⟩:=b;obtain ⟨lo,hi⟩:=p;refine cast ?_ (text_vc ts e lo hi hp)
 kernel_rfl
theorem q6q {α β R Y:Type} (X:Except Rul.Flt α) (k:α→Except Rul.Flt β) (Z:Except Rul.Flt β) (hZ:Z=X.bind k) (d:R×Y) (g:α→R×Y) (Q:R→Y→Prop) (h:∀ a,X=.ok a→Z=k a→Q (g a).1 (g a).2) :
  (∀ y,panE X=some y→panE Z=some y)∧(panE X=none→∀ r y,resE d g X=(r,y)→Q r y):=by
 subst hZ;cases X with
 | error x=>exact ⟨λy h=>h,λh=>by cases h⟩
 | ok a =>
  refine ⟨λy h=>(by cases h),λ_ r y hry=>?_⟩
  have hry:g a=(r,y):=hry;have:=h a rfl rfl;rw [hry] at this;exact this
theorem q3b {ts:List Rul.TP} {e k:Int} {s:List UInt8} {a:Rul.TP×List Rul.TP} (h:q2f (ts,e)) (ha:Rul.q05 e k s ts=.ok a):q2f (a.2,e):=by
 obtain ⟨r,rfl,hr,_⟩:=Rul.q3o ha;rw [hr];have h1:(a.1::r).length≤1000000:=h.1;rw [Qc] at h1;exact ⟨by show r.length≤_;omega,λt ht=>h.2 t (Qt _ ht)⟩
theorem q91 {ts:List Rul.TP} {e lo hi:Int} {a:List UInt8×List Rul.TP} (h:q2f (ts,e)) (ha:Rul.q3k e lo hi ts=.ok a):q2f (a.2,e):=by
 obtain ⟨t,r,rfl,rfl,_⟩:=Rul.qfa ha;have h1:(t::r).length≤1000000:=h.1;rw [Qc] at h1;exact ⟨by show r.length≤_;omega,λt ht=>h.2 t (Qt _ ht)⟩
set_option maxRecDepth 100000 in
theorem rule_vc (ts:List Rul.TP) (e:Int) (h:q2f (ts,e)) :
    q2f (ts,e)∧(∀ (y:Int×Int),panE (q4s (ts,e) ((1:Int),(9:Int)))=some y→panE (q28 (ts,e))=some y)∧(panE (q4s (ts,e) ((1:Int),(9:Int)))=none→∀ (r:List
    UInt8) (y:List (Int×Int×Int×List UInt8)×Int),resE ([],ts,e) (λ(y:List UInt8×List Rul.TP)=>(y.1,y.2,e)) (q4s (ts,e) ((1:Int),(9:Int)))=(r,y)→True∧(∀
    (y_1:Int×Int),panE (q0r y ((1:Int),[(116:UInt8),(111:UInt8)]))=some y_1→panE (q28 (ts,e))=some y_1)∧(panE (q0r y ((1:Int),[(116:UInt8),(111:UInt8)])) =
    none→∀ (r_1:Int×Int×Int×List UInt8) (y_1:List (Int×Int×Int×List UInt8)×Int),resE (((0:Int),(0:Int),(0:Int),[]),y) (λ(y_2:Rul.TP×List Rul.TP)=>(y_2.1,
    y_2.2,y.2)) (q0r y ((1:Int),[(116:UInt8),(111:UInt8)]))=(r_1,y_1)→q2f y_1∧(∀ (y:Int×Int),panE (q4s y_1 ((0:Int),(9:Int)))=some y→panE (q28 (ts,e)) =
    some y)∧(panE (q4s y_1 ((0:Int),(9:Int)))=none→∀ (r_2:List UInt8) (y:List (Int×Int×Int×List UInt8)×Int),resE ([],y_1) (λ(y:List UInt8×List Rul.TP)=>(y.1,
    y.2,y_1.2)) (q4s y_1 ((0:Int),(9:Int)))=(r_2,y)→True∧∀ (r_3:Int×Int×Int×List UInt8) (y_2:List (Int×Int×Int×List UInt8)×Int),(Rul.q14 y.2 y.1,y)=(r_3,
    y_2)→bif r_3.1==(1:Int) then bif r_3.2.2.2==[(98:UInt8),(101:UInt8),(102:UInt8),(111:UInt8),(114:UInt8),(101:UInt8)] then True∧(∀ (y:Int×Int),panE (q0r y_2
    ((1:Int),[(98:UInt8),(101:UInt8),(102:UInt8),(111:UInt8),(114:UInt8),(101:UInt8)]))=some y→panE (q28 (ts,e))=some y)∧(panE (q0r y_2 ((1:Int),[(98 :
    UInt8),(101:UInt8),(102:UInt8),(111:UInt8),(114:UInt8),(101:UInt8)]))=none→∀ (r_4:Int×Int×Int×List UInt8) (y:List (Int×Int×Int×List UInt8)×Int),resE
    (((0:Int),(0:Int),(0:Int),[]),y_2) (λ(y:Rul.TP×List Rul.TP)=>(y.1,y.2,y_2.2)) (q0r y_2 ((1:Int),[(98:UInt8),(101:UInt8),(102:UInt8),(111:UInt8),(114 :
    UInt8),(101:UInt8)]))=(r_4,y)→q2f y∧(∀ (y_3:Int×Int),panE (q4s y ((1:Int),(30:Int)))=some y_3→panE (q28 (ts,e))=some y_3)∧(panE (q4s y ((1:Int),(30 :
    Int)))=none→∀ (r_5:List UInt8) (y_3:List (Int×Int×Int×List UInt8)×Int),resE ([],y) (λ(y_4:List UInt8×List Rul.TP)=>(y_4.1,y_4.2,y.2)) (q4s y ((1:Int),(30 :
    Int)))=(r_5,y_3)→panE (q28 (ts,e))=none∧(r,r_2,r_5,false)=(resE (([],[],[],false),ts,e) (λ(y:Rul.Rule×List Rul.TP)=>(y.1,y.2,e)) (q28 (ts,e))).1∧y_3 =
    (resE (([],[],[],false),ts,e) (λ(y:Rul.Rule×List Rul.TP)=>(y.1,y.2,e)) (q28 (ts,e))).2)) else bif r_3.2.2.2==[(97:UInt8),(116:UInt8)] then True∧(∀ (y:Int ×
    Int),panE (q0r y_2 ((1:Int),[(97:UInt8),(116:UInt8)]))=some y→panE (q28 (ts,e))=some y)∧(panE (q0r y_2 ((1:Int),[(97:UInt8),(116:UInt8)]))=none→∀ (r_4 :
    Int×Int×Int×List UInt8) (y:List (Int×Int×Int×List UInt8)×Int),resE (((0:Int),(0:Int),(0:Int),[]),y_2) (λ(y:Rul.TP×List Rul.TP)=>(y.1,y.2,y_2.2)) (q0r
    y_2 ((1:Int),[(97:UInt8),(116:UInt8)]))=(r_4,y)→True∧(∀ (y_3:Int×Int),panE (q0r y ((1:Int),[(101:UInt8),(110:UInt8),(100:UInt8)]))=some y_3→panE (q28
    (ts,e))=some y_3)∧(panE (q0r y ((1:Int),[(101:UInt8),(110:UInt8),(100:UInt8)]))=none→∀ (r_5:Int×Int×Int×List UInt8) (y_3:List (Int×Int×Int×List UInt8) ×
    Int),resE (((0:Int),(0:Int),(0:Int),[]),y) (λ(y_4:Rul.TP×List Rul.TP)=>(y_4.1,y_4.2,y.2)) (q0r y ((1:Int),[(101:UInt8),(110:UInt8),(100:UInt8)]))=(r_5,
    y_3)→panE (q28 (ts,e))=none∧(r,r_2,[],true)=(resE (([],[],[],false),ts,e) (λ(y:Rul.Rule×List Rul.TP)=>(y.1,y.2,e)) (q28 (ts,e))).1∧y_3=(resE (([],[],
    [],false),ts,e) (λ(y:Rul.Rule×List Rul.TP)=>(y.1,y.2,e)) (q28 (ts,e))).2)) else panE (q28 (ts,e))=none∧(r,r_2,[],false)=(resE (([],[],[],false),ts,e) (fun
    (y:Rul.Rule×List Rul.TP)=>(y.1,y.2,e)) (q28 (ts,e))).1∧y_2=(resE (([],[],[],false),ts,e) (λ(y:Rul.Rule×List Rul.TP)=>(y.1,y.2,e)) (q28 (ts,e))).2 else panE
    (q28 (ts,e))=none∧(r,r_2,[],false)=(resE (([],[],[],false),ts,e) (λ(y:Rul.Rule×List Rul.TP)=>(y.1,y.2,e)) (q28 (ts,e))).1∧y_2=(resE (([],[],[],false),
    ts,e) (λ(y:Rul.Rule×List Rul.TP)=>(y.1,y.2,e)) (q28 (ts,e))).2)))
     := by
  simp only [true_and,and_true];refine ⟨h,q6q _ (λ(x:List UInt8×List Rul.TP)=>(Rul.q05 e 1 Rul.wTo x.2).bind λy=>(Rul.q3k e 0 9 y.2).bind λz=>Rul.q5d e x.1 z.1 z.2) (q28 (ts,e)) rfl _ _ _ λa ha hz=>?_⟩
  have h1:q2f (a.2,e):=q91 h ha;dsimp only;refine q6q _ (λ(y:Rul.TP×List Rul.TP)=>(Rul.q3k e 0 9 y.2).bind λz=>Rul.q5d e a.1 z.1 z.2) _ hz _ _ _ λb hb hz=>?_
  have h2:q2f (b.2,e):=q3b h1 hb;dsimp only;refine ⟨h2,q6q _ (λ(z:List UInt8×List Rul.TP)=>Rul.q5d e a.1 z.1 z.2) _ hz _ _ _ λc hc hz=>?_⟩
  have h3:q2f (c.2,e):=q91 h2 hc;dsimp only;intro r y hry;obtain ⟨rfl,rfl⟩:=Qp hry;clear hry;dsimp only;unfold Rul.q5d at hz;refine bifP (λn1=>?_) λn1=>?_
  · rw [if_pos n1] at hz
    refine bifP (λn2=>?_) λn2=>?_
    · rw [if_pos n2] at hz
      refine q6q _ (λ(x:Rul.TP×List Rul.TP)=>(Rul.q3k e 1 30 x.2).bind λy=>.ok ((a.1,c.1,y.1,false),y.2)) _ hz _ _ _ λb hb hz=>?_
      have h2:q2f (b.2,e):=q3b h3 hb;dsimp only;refine ⟨h2,q6q _ (λ(y:List UInt8×List Rul.TP)=>.ok ((a.1,c.1,y.1,false),y.2)) _ hz _ _ _ λb hb hz=>?_⟩
      rw [hz];exact ⟨rfl,rfl,rfl⟩
    · rw [if_neg (by rw [n2];simp)] at hz
      refine bifP (λn3=>?_) λn3=>?_
      · rw [if_pos n3] at hz
        refine q6q _ (λ(x:Rul.TP×List Rul.TP)=>(Rul.q05 e 1 Rul.wEnd x.2).bind λy=>.ok ((a.1,c.1,[],true),y.2)) _ hz _ _ _ λb hb hz=>?_
        dsimp only;refine q6q _ (λ(y:Rul.TP×List Rul.TP)=>.ok ((a.1,c.1,[],true),y.2)) _ hz _ _ _ λb hb hz=>?_
        rw [hz];exact ⟨rfl,rfl,rfl⟩
      · rw [if_neg (by rw [n3];simp)] at hz
        rw [hz];exact ⟨rfl,rfl,rfl⟩
  · rw [if_neg (by rw [n1];simp)] at hz
    rw [hz];exact ⟨rfl,rfl,rfl⟩
set_option maxRecDepth 100000 in
theorem rule_holds:cRule.Holds Tryz.prog:=by
 refine q64 (cons:=[]) (rcs:=[cNext,cTake,cText]) (inls:=[(91,Tryz.f91)]) (annsI:=λ_=>[]) cRule Tryz.func63 (by kernel_rfl) (by kernel_rfl) mixed (by kernel_rfl) (λc h=>by cases h) (λc h=>by
  rcases Qe.1 h with rfl | h
  ·exact qeq
  rcases Qe.1 h with rfl | h
  ·exact qeg
  obtain rfl:=Q7.1 h;exact text_holds) (q2b.more Tryz.func91 (by kernel_rfl) (by kernel_rfl) q2b.nil) (λ_ _=>[]) λb p hp=>?_
 obtain ⟨ts,e⟩:=b;refine cast ?_ (rule_vc ts e hp)
 kernel_rfl
theorem e_assoc {α β γ:Type} (x:Except Rul.Flt α) (f:α→Except Rul.Flt β) (g:β→Except Rul.Flt γ):(x.bind f).bind g=x.bind λa=>(f a).bind g:=by cases x <;> rfl
theorem e_ok {α β:Type} (x:α) (f:α→Except Rul.Flt β):(Qx x:Except Rul.Flt α).bind f=f x:=rfl
theorem rules_out (e:Int) (ts:List Rul.TP):q1d (ts,e)=(Rul.q05 e 1 Rul.q4o ts).bind λx=>(Rul.q05 e 1 [] x.2).bind λa=>(Rul.q05 e 1 Rul.wTo a.2).bind λy=>(Rul.q05 e 1 [] y.2).bind λb =>
  (Rul.q05 e 4 [59] b.2).bind λz=>(Rul.q1v (z.2.length+1) e [] z.2).bind λl=>.ok (a.1.2.2.2,b.1.2.2.2,l):=by
 show Rul.q6d e ts=_;unfold Rul.q6d Rul.q5w;simp only [e_assoc,e_ok]
theorem bind_ok {α β:Type} {x:Except Rul.Flt α} {f:α→Except Rul.Flt β} {b:β} (h:x.bind f=.ok b):∃ a,x=.ok a∧f a=.ok b:=by
 cases x with
 | error e=>cases h
 | ok a=>exact ⟨a,rfl,h⟩
theorem small_rule {ts:List Rul.TP} {e:Int} {a:Rul.Rule×List Rul.TP} (h:q2f (ts,e)) (ha:Rul.q62 e ts=.ok a):q2f (a.2,e):=by
 unfold Rul.q62 at ha;obtain ⟨x,hx,ha⟩:=bind_ok ha;obtain ⟨y,hy,ha⟩:=bind_ok ha;obtain ⟨z,hz,ha⟩:=bind_ok ha;have s:=q91 (q3b (q91 h hx) hy) hz;unfold Rul.q5d at ha;split at ha
 ·split at ha
  ·obtain ⟨u,hu,ha⟩:=bind_ok ha
   obtain ⟨v,hv,ha⟩:=bind_ok ha;injection ha with ha;subst ha;exact q91 (q3b s hu) hv
  ·split at ha
   ·obtain ⟨u,hu,ha⟩:=bind_ok ha
    obtain ⟨v,hv,ha⟩:=bind_ok ha;injection ha with ha;subst ha;exact q3b (q3b s hu) hv
   ·injection ha with ha;subst ha;exact s
 ·injection ha with ha;subst ha;exact s
abbrev qdi (p:List Rul.Rule×List Rul.TP) (p':List Rul.Rule×List Rul.TP) (r_5:List UInt8×List UInt8×List UInt8×Bool):Prop :=
 (Mp.put (CK.agg (Kds.cons Kd.str (Kds.cons Kd.str (Kds.cons Kd.str (Kds.one Kd.bool))))).eqB r_5 true (Qa (λ(x:List UInt8×List UInt8×List UInt8×Bool)=>(x,true)) p.1)=Qa (λ(x:List UInt8×List UInt8×List UInt8×Bool)=>(x,true)) p'.1∧True)
abbrev qbh (e:Int) (p':List Rul.Rule×List Rul.TP) (r:Int×Int×Int×List UInt8) (r_2:Int×Int×Int×List UInt8) (y:List (Int×Int×Int×List UInt8)×Int):Prop :=
 ((y.1=p'.2∧y.2=e∧True)∧(zE r.2.2.2∧zE r_2.2.2.2∧True∧True)∧(([]:List UInt8)=[]∧([]:List UInt8)=[]∧True∧True)∧True)
set_option maxRecDepth 100000 in
theorem rules_vc (ts:List Rul.TP) (e:Int) (h:q2f (ts,e)) :
  True∧(∀ (y:Int×Int),panE (q0r (ts,e) ((1:Int),[(114:UInt8),(117:UInt8),(108:UInt8),(101:UInt8),(115:UInt8)]))=some y→panE (q1d (ts,e))=some y)∧(panE (q0r (ts,e) ((1:Int),[(114:UInt8),(117:UInt8),(108:UInt8),(101:UInt8),(115:UInt8)]))=none→∀ (r:Int×Int×Int×List UInt8) (y:List (Int×Int×Int×List UInt8)×Int),resE (((0:Int),(0:Int),(0:Int),[]),ts,e) (λ(y:Rul.TP×List Rul.TP)=>(y.1,y.2,e)) (q0r (ts,e) ((1:Int),[(114:UInt8),(117:UInt8),(108:UInt8),(101:UInt8),(115:UInt8)]))=(r,y)→True∧(∀ (y_1:Int×Int),panE (q0r y ((1:Int),[]))=some y_1→panE (q1d (ts,e))=some y_1)∧(panE (q0r y ((1:Int),[]))=none→∀ (r:Int×Int×Int×List UInt8) (y_1:List (Int×Int×Int×List UInt8)×Int),resE (((0:Int),(0:Int),(0:Int),[]),y) (λ(y_2:Rul.TP×List Rul.TP)=>(y_2.1,y_2.2,y.2)) (q0r y ((1:Int),[]))=(r,y_1)→True∧(∀ (y:Int×Int),panE (q0r y_1 ((1:Int),[(116:UInt8),(111:UInt8)]))=some y→panE (q1d (ts,e))=some y)∧(panE (q0r y_1 ((1:Int),[(116:UInt8),(111:UInt8)]))=none→∀ (r_1:Int×Int×Int×List UInt8) (y:List (Int×Int×Int×List UInt8)×Int),resE (((0:Int),(0:Int),(0:Int),[]),y_1) (λ(y:Rul.TP×List Rul.TP)=>(y.1,y.2,y_1.2)) (q0r y_1 ((1:Int),[(116:UInt8),(111:UInt8)]))=(r_1,y)→True∧(∀ (y_2:Int×Int),panE (q0r y ((1:Int),[]))=some y_2→panE (q1d (ts,e))=some y_2)∧(panE (q0r y ((1:Int),[]))=none→∀ (r_2:Int×Int×Int×List UInt8) (y_2:List (Int×Int×Int×List UInt8)×Int),resE (((0:Int),(0:Int),(0:Int),[]),y) (λ(y_3:Rul.TP×List Rul.TP)=>(y_3.1,y_3.2,y.2)) (q0r y ((1:Int),[]))=(r_2,y_2)→True∧(∀ (y:Int×Int),panE (q0r y_2 ((4:Int),[(59:UInt8)]))=some y→panE (q1d (ts,e))=some y)∧(panE (q0r y_2 ((4:Int),[(59:UInt8)]))=none→∀ (r_3:Int×Int×Int×List UInt8) (y:List (Int×Int×Int×List UInt8)×Int),resE (((0:Int),(0:Int),(0:Int),[]),y_2) (λ(y:Rul.TP×List Rul.TP)=>(y.1,y.2,y_2.2)) (q0r y_2 ((4:Int),[(59:UInt8)]))=(r_3,y)→(∃ (p':List Rul.Rule×List Rul.TP),q89 ts e p'.1 p'.2∧(zT5)∧(qbh e p' r r_2 y)∧(p'.1=[]∧True)∧True∧([]=Qa (λ(x:List UInt8×List UInt8×List UInt8×Bool)=>(x,true)) p'.1∧True)∧(True∧True)∧zT4)∧∀ (p:List Rul.Rule×List Rul.TP),q89 ts e p.1 p.2→bif (p.1.length:Int)==(0:Int) then True∧∀ (r_4:Int×Int×Int×List UInt8) (y:List (Int×Int×Int×List UInt8)×Int),(Rul.q14 e p.2,p.2,e)=(r_4,y)→bif (p.1.length:Int)==(80:Int) then bif r_4.1==(3:Int) then panE (q1d (ts,e))=some ((2:Int),r_4.2.1) else q2f y∧(∀ (y_3:Int×Int),panE (q28 y)=some y_3→panE (q1d (ts,e))=some y_3)∧(panE (q28 y)=none→∀ (r_5:List UInt8×List UInt8×List UInt8×Bool) (y_3:List (Int×Int×Int×List UInt8)×Int),resE (([],[],[],false),y) (λ(y_4:Rul.Rule×List Rul.TP)=>(y_4.1,y_4.2,y.2)) (q28 y)=(r_5,y_3)→True∧(∀ (y:Int×Int),panE (q0r y_3 ((4:Int),[(59:UInt8)]))=some y→panE (q1d (ts,e))=some y)∧(panE (q0r y_3 ((4:Int),[(59:UInt8)]))=none→∀ (r_6:Int×Int×Int×List UInt8) (y:List (Int×Int×Int×List UInt8)×Int),resE (((0:Int),(0:Int),(0:Int),[]),y_3) (λ(y:Rul.TP×List Rul.TP)=>(y.1,y.2,y_3.2)) (q0r y_3 ((4:Int),[(59:UInt8)]))=(r_6,y)→bif (Mp.get (CK.agg (Kds.cons Kd.str (Kds.cons Kd.str (Kds.cons Kd.str (Kds.one Kd.bool))))).eqB r_5 (Qa (λ(x:List UInt8×List UInt8×List UInt8×Bool)=>(x,true)) p.1)).getD false then panE (q1d (ts,e))=some ((8:Int),r_6.2.1) else (p.1.length+[r_5].length)*(56:Nat)≤(140737488355328:Nat)∧∃ (p':List Rul.Rule×List Rul.TP),q89 ts e p'.1 p'.2∧p'.2.length<p.2.length∧(zT5)∧(qbh e p' r r_2 y)∧(p.1++[r_5]=p'.1∧True)∧True∧(qdi p p' r_5)∧(True∧True)∧zT4)) else q2f y∧(∀ (y_3:Int×Int),panE (q28 y)=some y_3→panE (q1d (ts,e))=some y_3)∧(panE (q28 y)=none→∀ (r_5:List UInt8×List UInt8×List UInt8×Bool) (y_3:List (Int×Int×Int×List UInt8)×Int),resE (([],[],[],false),y) (λ(y_4:Rul.Rule×List Rul.TP)=>(y_4.1,y_4.2,y.2)) (q28 y)=(r_5,y_3)→True∧(∀ (y:Int×Int),panE (q0r y_3 ((4:Int),[(59:UInt8)]))=some y→panE (q1d (ts,e))=some y)∧(panE (q0r y_3 ((4:Int),[(59:UInt8)]))=none→∀ (r_6:Int×Int×Int×List UInt8) (y:List (Int×Int×Int×List UInt8)×Int),resE (((0:Int),(0:Int),(0:Int),[]),y_3) (λ(y:Rul.TP×List Rul.TP)=>(y.1,y.2,y_3.2)) (q0r y_3 ((4:Int),[(59:UInt8)]))=(r_6,y)→bif (Mp.get (CK.agg (Kds.cons Kd.str (Kds.cons Kd.str (Kds.cons Kd.str (Kds.one Kd.bool))))).eqB r_5 (Qa (λ(x:List UInt8×List UInt8×List UInt8×Bool)=>(x,true)) p.1)).getD false then panE (q1d (ts,e))=some ((8:Int),r_6.2.1) else (p.1.length+[r_5].length)*(56:Nat)≤(140737488355328:Nat)∧∃ (p':List Rul.Rule×List Rul.TP),q89 ts e p'.1 p'.2∧p'.2.length<p.2.length∧(zT5)∧(qbh e p' r r_2 y)∧(p.1++[r_5]=p'.1∧True)∧True∧(qdi p p' r_5)∧(True∧True)∧zT4)) else bif decide (0<(p.2.length:Int)) then True∧∀ (r_4:Int×Int×Int×List UInt8) (y:List (Int×Int×Int×List UInt8)×Int),(Rul.q14 e p.2,p.2,e)=(r_4,y)→bif (p.1.length:Int)==(80:Int) then bif r_4.1==(3:Int) then panE (q1d (ts,e))=some ((2:Int),r_4.2.1) else q2f y∧(∀ (y_3:Int×Int),panE (q28 y)=some y_3→panE (q1d (ts,e))=some y_3)∧(panE (q28 y)=none→∀ (r_5:List UInt8×List UInt8×List UInt8×Bool) (y_3:List (Int×Int×Int×List UInt8)×Int),resE (([],[],[],false),y) (λ(y_4:Rul.Rule×List Rul.TP)=>(y_4.1,y_4.2,y.2)) (q28 y)=(r_5,y_3)→True∧(∀ (y:Int×Int),panE (q0r y_3 ((4:Int),[(59:UInt8)]))=some y→panE (q1d (ts,e))=some y)∧(panE (q0r y_3 ((4:Int),[(59:UInt8)]))=none→∀ (r_6:Int×Int×Int×List UInt8) (y:List (Int×Int×Int×List UInt8)×Int),resE (((0:Int),(0:Int),(0:Int),[]),y_3) (λ(y:Rul.TP×List Rul.TP)=>(y.1,y.2,y_3.2)) (q0r y_3 ((4:Int),[(59:UInt8)]))=(r_6,y)→bif (Mp.get (CK.agg (Kds.cons Kd.str (Kds.cons Kd.str (Kds.cons Kd.str (Kds.one Kd.bool))))).eqB r_5 (Qa (λ(x:List UInt8×List UInt8×List UInt8×Bool)=>(x,true)) p.1)).getD false then panE (q1d (ts,e))=some ((8:Int),r_6.2.1) else (p.1.length+[r_5].length)*(56:Nat)≤(140737488355328:Nat)∧∃ (p':List Rul.Rule×List Rul.TP),q89 ts e p'.1 p'.2∧p'.2.length<p.2.length∧(zT5)∧(qbh e p' r r_2 y)∧(p.1++[r_5]=p'.1∧True)∧True∧(qdi p p' r_5)∧(True∧True)∧zT4)) else q2f y∧(∀ (y_3:Int×Int),panE (q28 y)=some y_3→panE (q1d (ts,e))=some y_3)∧(panE (q28 y)=none→∀ (r_5:List UInt8×List UInt8×List UInt8×Bool) (y_3:List (Int×Int×Int×List UInt8)×Int),resE (([],[],[],false),y) (λ(y_4:Rul.Rule×List Rul.TP)=>(y_4.1,y_4.2,y.2)) (q28 y)=(r_5,y_3)→True∧(∀ (y:Int×Int),panE (q0r y_3 ((4:Int),[(59:UInt8)]))=some y→panE (q1d (ts,e))=some y)∧(panE (q0r y_3 ((4:Int),[(59:UInt8)]))=none→∀ (r_6:Int×Int×Int×List UInt8) (y:List (Int×Int×Int×List UInt8)×Int),resE (((0:Int),(0:Int),(0:Int),[]),y_3) (λ(y:Rul.TP×List Rul.TP)=>(y.1,y.2,y_3.2)) (q0r y_3 ((4:Int),[(59:UInt8)]))=(r_6,y)→bif (Mp.get (CK.agg (Kds.cons Kd.str (Kds.cons Kd.str (Kds.cons Kd.str (Kds.one Kd.bool))))).eqB r_5 (Qa (λ(x:List UInt8×List UInt8×List UInt8×Bool)=>(x,true)) p.1)).getD false then panE (q1d (ts,e))=some ((8:Int),r_6.2.1) else (p.1.length+[r_5].length)*(56:Nat)≤(140737488355328:Nat)∧∃ (p':List Rul.Rule×List Rul.TP),q89 ts e p'.1 p'.2∧p'.2.length<p.2.length∧(zT5)∧(qbh e p' r r_2 y)∧(p.1++[r_5]=p'.1∧True)∧True∧(qdi p p' r_5)∧(True∧True)∧zT4)) else panE (q1d (ts,e))=none∧(r.2.2.2,r_2.2.2.2,p.1)=resE ([],[],[]) id (q1d (ts,e))∧(p.2,e)=([],e)))))):=by
 delta qdi qbh zE zT4 zT5
 simp only [true_and,and_true];refine q6q _ (λ(x:Rul.TP×List Rul.TP)=>(Rul.q05 e 1 [] x.2).bind λa=>(Rul.q05 e 1 Rul.wTo a.2).bind λy=>(Rul.q05 e 1 [] y.2).bind λb =>
  (Rul.q05 e 4 [59] b.2).bind λz=>(Rul.q1v (z.2.length+1) e [] z.2).bind λl=>.ok (a.1.2.2.2,b.1.2.2.2,l)) (q1d (ts,e)) (rules_out e ts) _ _ _ λx hx hz=>?_
 have hx:Rul.q05 e 1 Rul.q4o ts=.ok x:=hx;have s1:=q3b h hx;dsimp only;refine q6q _ (λ(a:Rul.TP×List Rul.TP)=>(Rul.q05 e 1 Rul.wTo a.2).bind λy=>(Rul.q05 e 1 [] y.2).bind λb =>
  (Rul.q05 e 4 [59] b.2).bind λz=>(Rul.q1v (z.2.length+1) e [] z.2).bind λl=>.ok (a.1.2.2.2,b.1.2.2.2,l)) _ hz _ _ _ λa ha hz=>?_
 have ha:Rul.q05 e 1 [] x.2=.ok a:=ha;have s2:=q3b s1 ha;dsimp only;refine q6q _ (λ(y:Rul.TP×List Rul.TP)=>(Rul.q05 e 1 [] y.2).bind λb =>
  (Rul.q05 e 4 [59] b.2).bind λz=>(Rul.q1v (z.2.length+1) e [] z.2).bind λl=>.ok (a.1.2.2.2,b.1.2.2.2,l)) _ hz _ _ _ λy hy hz=>?_
 have hy:Rul.q05 e 1 Rul.wTo a.2=.ok y:=hy;have s3:=q3b s2 hy;dsimp only;refine q6q _ (λ(b:Rul.TP×List Rul.TP)=>(Rul.q05 e 4 [59] b.2).bind λz=>(Rul.q1v (z.2.length+1) e [] z.2).bind λl=>.ok (a.1.2.2.2,b.1.2.2.2,l)) _ hz _ _ _ λb hb hz=>?_
 have hb:Rul.q05 e 1 [] y.2=.ok b:=hb;have s4:=q3b s3 hb;dsimp only;refine q6q _ (λ(z:Rul.TP×List Rul.TP)=>(Rul.q1v (z.2.length+1) e [] z.2).bind λl=>.ok (a.1.2.2.2,b.1.2.2.2,l)) _ hz _ _ _ λz hzz hz=>?_
 have hzz:Rul.q05 e 4 [59] b.2=.ok z:=hzz;have s5:=q3b s4 hzz;dsimp only;have hH:Rul.q5w e ts=.ok (a.1.2.2.2,b.1.2.2.2,z.2):=by
  unfold Rul.q5w;simp only [hx,ha,hy,hb,hzz,e_ok]
 refine ⟨⟨([],z.2),⟨by rw [hH];rfl,s5,Q8 80,rfl,rfl⟩,⟨rfl,rfl⟩,rfl,rfl⟩,λp hI=>?_⟩
 obtain ⟨acc,us⟩:=p;obtain ⟨hl,hs,h80,hok,honce⟩:=hI;dsimp only at hl hs h80 hok honce ⊢;have hl:Rul.q1v (z.2.length+1) e [] z.2=Rul.q1v (us.length+1) e acc us:=by rw [hH] at hl;exact hl
 rw [hl] at hz;have hz:q1d (ts,e)=(if acc.length==0||decide (0<us.length) then (Rul.q39 e acc us).bind λx=>Rul.q1v us.length e x.1 x.2 else .ok acc).bind λl=>.ok (a.1.2.2.2,b.1.2.2.2,l):=hz
 have c0:((acc.length:Int)==0)=(acc.length==0):=by rw [QG,beq_iff_eq,beq_iff_eq];omega
 have c8:((acc.length:Int)==80)=(acc.length==80):=by rw [QG,beq_iff_eq,beq_iff_eq];omega
 have cu:decide ((0:Int)<(us.length:Int))=decide (0<us.length):=decide_eq_decide.2 (by omega)
 rw [c0,c8,cu];have body:(acc.length==0||decide (0<us.length))=true→((acc.length==80&&(Rul.q14 e us).1==3)=true→q1d (ts,e)=.error (2,(Rul.q14 e us).2.1)) ∧
   ((acc.length==80&&(Rul.q14 e us).1==3)=false→q1d (ts,e)=(Rul.q62 e us).bind λx=>(Rul.q05 e 4 [59] x.2).bind λy=>if acc.contains x.1 then .error (8,y.1.2.1) else (Rul.q1v us.length e (acc++[x.1]) y.2).bind λl=>.ok (a.1.2.2.2,b.1.2.2.2,l)):=λhc=>by
  rw [hz,if_pos hc];unfold Rul.q39;refine ⟨λh=>by rw [if_pos h];rfl,λh=>?_⟩
  rw [if_neg (by rw [h];simp)]
  simp only [e_assoc]
  congr 1
  funext x
  congr 1
  funext y
  split <;> rfl
 have done:(acc.length==0)=false→decide (0<us.length)=false→q1d (ts,e)=.ok (a.1.2.2.2,b.1.2.2.2,acc):=λh1 h2=>by
  rw [hz,if_neg (by rw [h1,h2];simp)];rfl
 have hl2:Rul.q1v (z.2.length+1) e [] z.2=(if acc.length==0||decide (0<us.length) then (Rul.q39 e acc us).bind λx=>Rul.q1v us.length e x.1 x.2 else .ok acc):=hl
 clear hz hl hx ha hy hb hzz;have hfuel:(acc.length==0||decide (0<us.length))=true→(acc.length==80&&(Rul.q14 e us).1==3)=false→∀ x y,Rul.q62 e us=.ok x→Rul.q05 e 4 [59] x.2=.ok y→acc.contains x.1=false →
   q89 ts e (acc++[x.1]) y.2∧y.2.length<us.length:=λhc0 hc x y hx hy hn=>by
  have hm:Rul.q39 e acc us=.ok (acc++[x.1],y.2):=by
   unfold Rul.q39;rw [if_neg (by rw [hc];simp),hx,e_ok,hy,e_ok,if_neg (by rw [hn];simp)]
  obtain ⟨p1,p2,p3,p4,p5⟩:=Rul.qeb hm h80 hok honce;refine ⟨⟨?_,q3b (small_rule hs hx) hy,p3,p4,p5⟩,p1⟩;rw [hH,e_ok,hl2,if_pos hc0,hm,e_ok];exact Rul.qk6 e _ _ _ _ p1 (Nat.lt_succ_self _) p3 p4 p5
 clear hl2 hH h hz;refine bifP (λg1=>?_) λg1=>bifP (λg2=>?_) λg2=>?_
 case refine_3 =>
  have hn:us=[]:=List.eq_nil_of_length_eq_zero (by have:=of_decide_eq_false g2;omega)
  rw [done g1 g2];subst hn;exact ⟨rfl,rfl,rfl⟩
 all_goals
  have gc:(acc.length==0||decide (0<us.length))=true:=by first | rw [g1,Bool.true_or] | rw [g2,Bool.or_true]
  obtain ⟨b1,b2⟩:=body gc;have hfuel:=hfuel gc;intro r w hrw;obtain ⟨rfl,rfl⟩:=Qp hrw;clear hrw;dsimp only;refine bifP (λg3=>bifP (λg4=>?_) λg4=>?_) λg3=>?_
  case' refine_1 =>
   rw [b1 (by rw [g3,g4];rfl)]
   rfl
  all_goals
   have gd:(acc.length==80&&(Rul.q14 e us).1==3)=false:=by first | rw [g3,Bool.false_and] | rw [g4,Bool.and_false]
   refine ⟨hs,q6q _ (λ(x:Rul.Rule×List Rul.TP)=>(Rul.q05 e 4 [59] x.2).bind λy=>if acc.contains x.1 then .error (8,y.1.2.1) else (Rul.q1v us.length e (acc++[x.1]) y.2).bind λl=>.ok (a.1.2.2.2,b.1.2.2.2,l)) _ (b2 gd) _ _ _ λx hx hz=>?_⟩
   dsimp only;refine q6q _ (λ(y:Rul.TP×List Rul.TP)=>if acc.contains x.1 then .error (8,y.1.2.1) else (Rul.q1v us.length e (acc++[x.1]) y.2).bind λl=>.ok (a.1.2.2.2,b.1.2.2.2,l)) _ hz _ _ _ λy hy hz=>?_
   dsimp only;refine bifP (λg5=>?_) λg5=>?_
   ·have g5:acc.contains x.1=true:=(qe9 x.1 acc).symm.trans g5
    rw [hz,if_pos g5];rfl
   ·have g5:acc.contains x.1=false:=(qe9 x.1 acc).symm.trans g5
    obtain ⟨q1,q2⟩:=hfuel gd x y hx hy g5;exact ⟨by rw [Qr];omega,(acc++[x.1],y.2),q1,q2,⟨rfl,rfl⟩,rfl,qjp x.1 acc g5⟩
set_option maxRecDepth 100000 in
theorem rules_holds:cRules.Holds Tryz.prog:=by
 refine q64 (cons:=[]) (rcs:=[cNext,cTake,cRule]) (inls:=[]) (annsI:=λ_=>[]) cRules Tryz.func35 (by kernel_rfl) (by kernel_rfl) mixed (by kernel_rfl) (λc h=>by cases h) (λc h=>by
  rcases Qe.1 h with rfl | h
  ·exact qeq
  rcases Qe.1 h with rfl | h
  ·exact qeg
  obtain rfl:=Q7.1 h;exact rule_holds) q2b.nil (λb _=>anRules b.1 b.2) λb p hp=>?_
 obtain ⟨ts,e⟩:=b;refine cast ?_ (rules_vc ts e hp)
 kernel_rfl
end Go.Proofs.YtlmbfijhkcmncaaGreatDoor
namespace Go.Proofs.YtlmbfijhkcmncaaGreatDoor
open Go.RowKit
theorem bld_info:(Tryz.prog.info? 70).map (·.size)=some 2:=by kernel_rfl
theorem bld_lies:liesAt Tryz.prog Tryz.prog.depth 70 (2 / Tryz.prog.cellsOf 70) 0 70 1=true:=by kernel_rfl
theorem byte_info:(Tryz.prog.info? 5).map (λi=>(i.zero,i.size,i.bytes))=some (some (.int .u8 0),1,1):=by kernel_rfl
set_option maxHeartbeats 1000000 in
set_option maxRecDepth 100000 in
theorem copy_used (b:Nat) (w:World) (h0:w.cell? ⟨b,0,none⟩=some (.pointer (some ⟨b,0,none⟩))) :
  Calls Tryz.prog 55 #[.pointer (some ⟨b,0,none⟩)] w λe w'=>e=.returned (.tuple #[])∧w'=w:=by
 obtain ⟨j,hj,_⟩:=Qq.1 bld_info;have hne:=Lib.run_neq_ptr_same (P:=Tryz.prog) w ⟨b,0,none⟩ Tryz.underlying67 hj
 go_enter Tryz.func55,Tryz.ntmps55
 go_wp2
 go_end0
 exact ⟨rfl,rfl⟩
set_option maxHeartbeats 1000000 in
set_option maxRecDepth 100000 in
theorem copy_fresh (b:Nat) (w:World) (h0:w.cell? ⟨b,0,none⟩=some (.pointer none)) (hsh:w.shape? b=some (70,2)) (hfz:w.frozen? ⟨b,0,none⟩=false) :
  Calls Tryz.prog 55 #[.pointer (some ⟨b,0,none⟩)] w λe w'=>e=.returned (.tuple #[])∧w'=w.setCell ⟨b,0,none⟩ (.pointer (some ⟨b,0,none⟩)):=by
 obtain ⟨j,hj,hjs⟩:=Qq.1 bld_info;have hto:=Lib.run_to_unsafe (P:=Tryz.prog) w ⟨b,0,none⟩ Tryz.underlying67 Tryz.underlying133 hj (by rw [hjs];decide) hsh (Nat.zero_lt_succ 1)
 have hfrom:=Lib.run_from_unsafe (P:=Tryz.prog) w ⟨b,0,none⟩ Tryz.underlying133 Tryz.underlying67 hj hsh bld_lies
 go_enter Tryz.func55,Tryz.ntmps55
 go_wp2
 rw [run_callFunc_extern Tryz.func82 (by kernel_rfl) (by kernel_rfl) (by kernel_rfl) (e:=QN) (by kernel_rfl),Lib.run_noEscape]
 simp only [Result.andThen];rw [Oper.upon_value]
 go_wp2
 go_end0
 exact ⟨rfl,rfl⟩
theorem qal (B b:Nat) (l:List Value) (s:ByteArray) (w:World) (h:Q9 70 5 B b l w) (hlen:l.length+s.size≤100000000) (hBw:B≤w.heap.size) :
  Calls Tryz.prog 30 #[.pointer (some ⟨b,0,none⟩),.string s] w λe w'=>e=.returned (.tuple #[.int .i64 s.size,.nilIface])∧Q9 70 5 B b (l++Qy s) w'∧Below B w w'∧∀ k T cs,T≠5→k≠b→Blk w k T cs→Blk w' k T cs:=by
 obtain ⟨i0,hi,hz0,hz1,hz2⟩:=info_parts byte_info;have hcopy:Calls Tryz.prog 55 #[.pointer (some ⟨b,0,none⟩)] w λe w'=>e=.returned (.tuple #[])∧Qu 70 5 B b (.pointer (some ⟨b,0,none⟩)) l w'∧Below B w w'∧∀ k T cs,T≠5→k≠b→Blk w k T cs→Blk w' k T cs:=by
  rcases h with h | h
  ·refine (copy_fresh b w h.cell0 h.shape h.frozen0).mono ?_
   rintro e w' ⟨rfl,rfl⟩;exact ⟨rfl,h.used _,(QH B w).setCell (p:=⟨b,0,none⟩) h.1 _,λk T cs _ hk hb=>(Qi w ⟨b,0,none⟩ _ k hk).trans hb⟩
  ·refine (copy_used b w h.cell0).mono ?_
   rintro e w' ⟨rfl,rfl⟩;exact ⟨rfl,h,QH B _,λk T cs _ _ hb=>hb⟩
 have HCOPY:=Q0 hcopy;clear hcopy h
 go_enter Tryz.func30,Tryz.ntmps30
 go_wp2_with fail
 refine HCOPY.out.mono ?_;rintro e w1 ⟨rfl,⟨hB,v,hbk,hown,hne⟩,hb1,hkp⟩;have HKP:=Q0 hkp;clear hkp;have hz:=hb1.size;have hlt:b<w1.heap.size:=(Array.getElem?_eq_some_iff.1 hbk).1;have c1:w1.cell? ⟨b,1,none⟩=some v:=by rw [QD hbk];rfl
 obtain ⟨A,cc,rfl⟩:=q4a hown;have HB1:=Q0 hb1;have HBK:=Q0 hbk;have HOWN:=Q0 hown;have HNE:=Q0 hne;clear hb1 hbk hown hne
 go_wp2_with (at_builtin;refine Lib.wpList_append_own_string _ rfl _ _ 68 9 rfl B 5 i0 Tryz.underlying68 Tryz.underlying9 hi hz0 hz1 hz2 _ _ _ rfl HOWN.out s rfl (by unfold maxLen;omega) (by omega) (by omega) ?_;intro v' w2 hown' hgrow _;have hb2:w2.heap[b]? = some (.cells #[.pointer (some ⟨b,0,none⟩),.slice A l.length cc] 70 (0,0)):=(hgrow.block b hlt (λe=>HNE.out e.symm)).trans HBK.out;have d1:w2.cell? ⟨b,1,none⟩=some (.slice A l.length cc):=(by rw [QD hb2];rfl);have f1:w2.frozen? ⟨b,1,none⟩=false:=Lib.frozen_of_heap hb2 1;obtain ⟨A2,c2,rfl⟩:=q4a hown';have HB2:=Q0 hb2;have HOWN2:=Q0 hown';have HG:=Q0 hgrow;clear hb2 hown' hgrow)
 go_ret2
 refine ⟨rfl,.inr ?_,?_,λk T cs hT hk hb=>?_⟩
 ·exact Lib.BuilderAt.put (T:=70) (e:=5) hB HB2.out (bs':=l++Qy s) (by rw [Qb,Lib.strCells_length];exact HOWN2.out) (by decide)
 ·exact (HB1.out.grown HG.out (by omega) (λk hk=>(HOWN.out.lt k hk).1)).setCell (p:=⟨b,1,none⟩) hB _
 ·have h1:=HKP.out k T cs hT hk hb
  refine (Qi w2 ⟨b,1,none⟩ _ k hk).trans ((HG.out.block k h1.lt λe=>?_).trans h1)
  rcases HOWN.out.2 with ⟨hv,_⟩ | ⟨g,cap,cur,hv,_,hh,_⟩
  ·injection hv with hv
   subst hv;have e:some k=none:=e;cases e
  ·injection hv with hv
   subst hv;have e:some k=some g:=e;injection e with e;subst e;have h1:w1.heap[k]? = some (.cells cs T (0,0)):=h1;rw [hh] at h1;injection h1 with h1;injection h1 with _ h1 _;exact hT h1.symm
end Go.Proofs.YtlmbfijhkcmncaaGreatDoor
namespace Go.Proofs.YtlmbfijhkcmncaaGreatDoor
open Go.RowKit
open R
attribute [local go_sem] q12 q0q q0s
def RulW (w:World) (l:List Rul.Rule) (v:Value):Prop:=Kd.Rep w (Here w) (.sl q7u) l v
theorem RulW.bel {w w':World} {l:List Rul.Rule} {v:Value} (h:RulW w l v) (hb:Below w.heap.size w w'):RulW w' l v :=
 Kd.Rep.keeps (Keeps.below hb _) (λg _ hg=>Nat.lt_of_lt_of_le hg hb.size) (.sl q7u) l v h
theorem RulW.slice {w:World} {l:List Rul.Rule} {v:Value} (h:RulW w l v):∃ A c,v=.slice A l.length c:=by
 obtain ⟨A,c,h,_⟩:=h;exact ⟨A,c,h⟩
theorem RulW.at_ {w:World} {l:List Rul.Rule} {A:Option Addr} {c:Nat} (h:RulW w l (.slice A l.length c)) {k:Nat} {x:Rul.Rule} (hx:l[k]? = some x) :
  ∃ g off,A=some ⟨g,off,none⟩∧g<w.heap.size∧w.cell? ⟨g,off+k*4,none⟩=some (.string (bs x.1))∧w.cell? ⟨g,off+k*4+1,none⟩=some (.string (bs x.2.1))∧w.cell? ⟨g,off+k*4+2,none⟩=some (.string (bs x.2.2.1))∧w.cell? ⟨g,off+k*4+3,none⟩=some (.bool x.2.2.2):=by
 obtain ⟨A',c',he,_,h⟩:=h;injection he with he;subst he;have hlt:k<l.length:=(Ql.1 hx).1;obtain ⟨g,off,rfl,hg,_,hc⟩:=h (by show 0<l.length;omega)
 obtain ⟨⟨u0,e0,q0⟩,⟨u1,e1,q1⟩,⟨u2,e2,q2⟩,u3,e3,q3⟩:=hc k x hx;obtain rfl:u0=_:=q0;obtain rfl:u1=_:=q1;obtain rfl:u2=_:=q2;obtain rfl:u3=_:=q3;exact ⟨g,off,rfl,hg,e0,e1,e2,e3⟩
def rulV (r:Rul.q11) (v:Value):Value:=.agg #[.string (bs r.1),.string (bs r.2.1),v]
theorem rulV_rep {r:Rul.q11} {w:World} {v:Value} (h:RulW w r.2.2 v):(CK.comp q0t r).Rep (Cx.of (Here w)) w (rulV r v):=by
 obtain ⟨A,c,rfl⟩:=h.slice;refine ⟨_,rfl,rfl,λi c hc=>?_,λi u hu=>?_⟩
 ·match i,hc with
  | 0,hc=>injection hc with hc;subst hc;exact ⟨_,rfl,rfl⟩
  | 1,hc=>injection hc with hc;subst hc;exact ⟨_,rfl,rfl⟩
  | 2,hc=>injection hc with hc;subst hc;exact ⟨_,rfl,h⟩
 ·match i,hu with
  | 0,hu=>injection hu with hu;subst hu;rfl
  | 1,hu=>injection hu with hu;subst hu;rfl
  | 2,hu=>injection hu with hu;subst hu;rfl
theorem rulV_out {r:Rul.q11} {κ:Cx} {w:World} {v:Value} (hκ:∀ g,κ.S g→g<w.heap.size) (h:(CK.comp q0t r).Rep κ w v):∃ u,v=rulV r u∧RulW w r.2.2 u:=by
 obtain ⟨vs,rfl,hsz,hc,_⟩:=h;obtain ⟨u0,e0,r0⟩:=hc 0 _ rfl;obtain ⟨u1,e1,r1⟩:=hc 1 _ rfl;obtain ⟨u2,e2,r2⟩:=hc 2 _ rfl;obtain rfl:u0=.string (bs r.1):=r0;obtain rfl:u1=.string (bs r.2.1):=r1;refine ⟨u2,?_,Kd.Rep.keeps (S':=Here w) (Keeps.refl w _) (λg hg _=>hκ g hg) (.sl q7u) r.2.2 u2 r2⟩
 obtain ⟨l⟩:=vs;have hsz:l.length=3:=hsz
 match l,hsz with
 | [a,b,d],_ =>
  injection e0 with e0;injection e1 with e1;injection e2 with e2;have e0:a=_:=e0;have e1:b=_:=e1;have e2:d=_:=e2;subst e0;subst e1;subst e2;rfl
theorem formed_any (r:Rul.q11) (v:Value) (w:World) (hF:FewR r) (h:RulW w r.2.2 v):Calls Tryz.prog 29 #[rulV r v] w λe w'=>e=.returned (.bool (Rul.q04 r))∧Below w.heap.size w w':=by
 have:=qh0.2 r [rulV r v] w (Here w) (λ_ h=>h) hF ⟨rfl,λi c hc=>by
  match i,hc with
  | 0,hc=>injection hc with hc;subst hc;exact ⟨_,rfl,rulV_rep h⟩⟩
 refine Calls.mono this ?_;rintro e w' ⟨b,u,rfl,rfl,hu,hb⟩;have hu:u=.bool (Rul.q04 r):=hu;exact ⟨by rw [hu],hb⟩
def qb9 (r:Rul.q11):List UInt8:=[114,117,108,101,115,32]++r.1++[32,116,111,32]++r.2.1++[59,10]
def q4q (r:Rul.q11) (k:Nat):List UInt8:=qb9 r++(r.2.2.take k).flatMap Rul.q0b
theorem qkw {r:Rul.q11} {k:Nat} {x:Rul.Rule} (h:r.2.2[k]? = some x):q4q r (k+1)=q4q r k++Rul.q0b x:=by
 unfold q4q;rw [Qz,h,List.flatMap_append,Qk];simp
theorem qcf (a b:List UInt8):Q3 (a++b)=Q3 a++Q3 b:=by unfold Q3;rw [List.map_append]
theorem qa2 (s:List UInt8):Qy (bs s)=Q3 s:=rfl
def quoT (x y:List UInt8):List UInt8:=[34]++x++[34,32,116,111,32,34]++y++[34]
def befT (x:List UInt8):List UInt8:=[32,98,101,102,111,114,101,32,34]++x++[34]
theorem builder_bel {T e:TypeId} {B b:Nat} {bs:List Value} {w w':World} (h:Q9 T e B b bs w) (hb:Below w.heap.size w w'):Q9 T e B b bs w':=by
 have key:∀ {p:Value},Qu T e B b p bs w→Qu T e B b p bs w':=λ{p} h=>by
  have hlt:=h.lt;obtain ⟨hB,v,hbk,hown,hne⟩:=h;exact ⟨hB,v,(hb.block b hlt).trans hbk,q31 hown hb,hne⟩
 exact h.imp key key
theorem soFar_len {r:Rul.q11} (h:FewR r):∀ k,(q4q r k).length≤3000+4000*k
 | 0=>by
  have h1:=h.1;have h2:=h.2.1;unfold q4q qb9;simp;omega
 | k+1=>by
  have ih:=soFar_len h k;cases hx:r.2.2[k]? with
  | none =>
   have:q4q r (k+1)=q4q r k:=by unfold q4q;rw [Qz,hx];simp
   rw [this];omega
  | some x =>
   rw [qkw hx,Qb];obtain ⟨f1,f2,f3⟩:=h.2.2.2 x (Qs hx);have:(Rul.q0b x).length≤4000:=by
    unfold Rul.q0b Rul.quo;split
    ·simp;omega
    ·split <;> simp <;> omega
   omega
set_option maxRecDepth 100000 in
set_option maxHeartbeats 2000000 in
theorem text_any (r1 r2:List UInt8) (l:List Rul.Rule) (A:Option Addr) (c:Nat) (w:World) (hF:FewR (r1,r2,l)) (hA:RulW w l (.slice A l.length c)) :
  Calls Tryz.prog 8 #[.agg #[.string (bs r1),.string (bs r2),.slice A l.length c]] w λe w'=>e=.returned (.tuple #[.string (bs (Rul.q56 (r1,r2,l)).1),.int .i64 (Rul.q56 (r1,r2,l)).2])∧Below w.heap.size w w':=by
 have hr1:r1.length≤1000:=hF.1;have hr2:r2.length≤1000:=hF.2.1;have hl:l.length≤1000:=hF.2.2.1;have hx:∀ x∈l,FewT x:=hF.2.2.2;have HX:=Q0 hx;have HFEW:=Q0 hF;clear hx hF
 go_enter Tryz.func8,Tryz.ntmps8
 go_wp2_with fail
 refine (formed_any (r1,r2,l) _ _ HFEW.out (hA.bel (q02 (q03 w) _))).mono ?_;rintro e w1 ⟨rfl,hb1⟩;have hbw:Below w.heap.size w w1:=q1y (q02 (q03 w) _) hb1;have hblk:=(Blk.new w 24 #[.string (bs r1),.string (bs r2),.slice A l.length c]).bel hb1;have hsz1:w.heap.size<w1.heap.size:=hblk.lt;have HBW:=Q0 hbw;have HBLK:=Q0 hblk;have HA:=Q0 hA;clear hbw hblk hb1 hA;cases hv:Rul.q04 (r1,r2,l)
 ·have hj:Rul.q56 (r1,r2,l)=([],1):=by unfold Rul.q56;rw [hv];rfl
  have HJ:=Q0 hj;clear hj hv
  go_wp2
  go_ret2
  exact ⟨by rw [HJ.out];rfl,HBW.out⟩
 ·have hj:Rul.q56 (r1,r2,l)=(q4q (r1,r2,l) l.length,0):=by
   unfold Rul.q56;rw [hv,if_pos rfl];unfold q4q qb9 Rul.textL;dsimp only;rw [Qm]
  have HJ:=Q0 hj;clear hj hv;have k0:w1.cell? ⟨w.heap.size,0,none⟩=some (.string (bs r1)):=HBLK.out.cell 0;have k1:w1.cell? ⟨w.heap.size,1,none⟩=some (.string (bs r2)):=HBLK.out.cell 1;have hsum:r1.length+r2.length≤100000:=by omega
  go_wp2_with fail
  rw [show ({ data:=#[114,117,108,101,115,32] }:ByteArray)++bs r1++{ data:=#[32,116,111,32] }++bs r2++{ data:=#[59,10] }=bs (qb9 (r1,r2,l)) from by
   simp only [app_bs];unfold qb9;simp [bs]]
  have hht:(qb9 (r1,r2,l)).length≤3000:=by simp [qb9];omega
  refine (qal w1.heap.size w1.heap.size [] (bs (qb9 (r1,r2,l))) _ (Lib.fresh_isBuilder _ _ w1) (by rw [q3j];simp;omega) (by simp)).mono ?_
  rintro e w2 ⟨rfl,hbd,hb2,hkp2⟩;have hbd:Q9 70 5 w1.heap.size w1.heap.size (Q3 (q4q (r1,r2,l) 0)) w2:=by
   have e:q4q (r1,r2,l) 0=qb9 (r1,r2,l):=by unfold q4q;simp
   rw [e];exact hbd
  have hbb:Below w1.heap.size w1 w2:=(q02 (q03 w1) _).trans hb2;have hsz2:=hbb.size;have HBD:=Q0 hbd;have HBB:=Q0 hbb;clear hbd hbb hb2 hht;have k2:w2.cell? ⟨w.heap.size,2,none⟩=some (.slice A l.length c):=((HBLK.out.bel HBB.out).cell 2)
  go_wp2
  go_loopw [22] (λv wr=>∃ k:Nat,v=.int .i64 k∧k≤l.length∧Q9 70 5 w1.heap.size w1.heap.size (Q3 (q4q (r1,r2,l) k)) wr∧Below w1.heap.size w1 wr) (λv _=>l.length-(intOf v).toNat)
  case atStart=>exact ⟨0,rfl,by omega,HBD.out,HBB.out⟩
  case round =>
   obtain ⟨k,rfl,hk,hbd,hbr⟩:=hrel;have hszr:=hbr.size;have HBD:=Q0 hbd;have HBR:=Q0 hbr;clear hbd hbr;by_cases hlt:k<l.length
   ·have hxk:l[k]? = some l[k]:=List.getElem?_eq_getElem hlt
    obtain ⟨g,off,rfl,hg,a0,a1,a2,a3⟩:=HA.out.at_ hxk;obtain ⟨f1,f2,f3⟩:=HX.out _ (List.getElem_mem hlt);have hnx:q4q (r1,r2,l) (k+1)=q4q (r1,r2,l) k++Rul.q0b l[k]:=qkw hxk;have hsl:=soFar_len HFEW.out k;clear hxk;generalize l[k]=x at *
    obtain ⟨x1,x2,x3,x4⟩:=x;simp only [] at a0 a1 a2 a3 f1 f2 f3;have hgw:g<w1.heap.size:=by omega
    have c0:wr.cell? ⟨g,off+k*4,none⟩=some (.string (bs x1)):=(HBR.out.cell (p:=⟨g,off+k*4,none⟩) hgw).trans ((HBW.out.cell (p:=⟨g,off+k*4,none⟩) hg).trans a0);have c1:wr.cell? ⟨g,off+k*4+1,none⟩=some (.string (bs x2)):=(HBR.out.cell (p:=⟨g,off+k*4+1,none⟩) hgw).trans ((HBW.out.cell (p:=⟨g,off+k*4+1,none⟩) hg).trans a1);have c2:wr.cell? ⟨g,off+k*4+2,none⟩=some (.string (bs x3)):=(HBR.out.cell (p:=⟨g,off+k*4+2,none⟩) hgw).trans ((HBW.out.cell (p:=⟨g,off+k*4+2,none⟩) hg).trans a2);have c3:wr.cell? ⟨g,off+k*4+3,none⟩=some (.bool x4):=(HBR.out.cell (p:=⟨g,off+k*4+3,none⟩) hgw).trans ((HBW.out.cell (p:=⟨g,off+k*4+3,none⟩) hg).trans a3);have HNX:=Q0 hnx;clear a0 a1 a2 a3 hnx;have hsl:(q4q (r1,r2,l) k).length≤10000000:=by omega
    generalize q4q (r1,r2,l) k=so at *
    have hs1:x1.length+x2.length≤100000:=by omega
    have htx:Rul.q0b (x1,x2,x3,x4)=quoT x1 x2++(if x4 then [32,97,116,32,101,110,100] else if x3=[] then [] else befT x3)++[59,10]:=by
     unfold Rul.q0b Rul.quo quoT befT;split
     ·simp
     ·split <;> simp
    have HTX:=Q0 htx;clear htx;have hqt:(quoT x1 x2).length≤3000:=by simp [quoT];omega
    have hbt:(befT x3).length≤3000:=by simp [befT];omega
    go_wp2_with fail
    rw [show ({ data:=#[34] }:ByteArray)++bs x1++{ data:=#[34,32,116,111,32,34] }++bs x2++{ data:=#[34] }=bs (quoT x1 x2) from by
     simp only [app_bs];unfold quoT;simp [bs]]
    refine (qal w1.heap.size w1.heap.size (Q3 so) (bs (quoT x1 x2)) _ (builder_bel HBD.out (q02 (q03 wr) _)) (by rw [q3j,Qd];omega) (by simp;omega)).mono ?_
    rintro e w3 ⟨rfl,hbd3,hb3,hkp3⟩;rw [qa2,← qcf] at hbd3;have hblt:w1.heap.size<wr.heap.size:=HBD.out.elim (λh=>h.lt) (λh=>h.lt)
    have hbx:=hkp3 _ _ _ (by decide) (by omega) (Blk.new wr 45 #[.string (bs x1),.string (bs x2),.string (bs x3),.bool x4])
    have hsz3:=hb3.size;have hb3:Below w1.heap.size w1 w3:=HBR.out.trans (((q02 (q03 wr) _).mono (by omega)).trans hb3)
    have e2:w3.cell? ⟨wr.heap.size,2,none⟩=some (.string (bs x3)):=hbx.cell 2;have e3:w3.cell? ⟨wr.heap.size,3,none⟩=some (.bool x4):=hbx.cell 3;have HBD3:=Q0 hbd3;have HB3:=Q0 hb3;clear hbd3 hb3 hkp3 hbx;simp only [World.size_alloc] at hsz3;have hl3:(so++quoT x1 x2).length≤10003000:=by rw [Qb];omega
    have last:∀ (w4:World) (mid:List UInt8),mid.length≤3000→w1.heap.size≤w4.heap.size→Rul.q0b (x1,x2,x3,x4)=quoT x1 x2++mid++[59,10]→Q9 70 5 w1.heap.size w1.heap.size (Q3 (so++quoT x1 x2++mid)) w4→Below w1.heap.size w1 w4 →
      Calls Tryz.prog 30 #[.pointer (some ⟨w1.heap.size,0,none⟩),.string { data:=#[59,10] }] w4 λe w'=>e=.returned (.tuple #[.int .i64 2,.nilIface])∧Q9 70 5 w1.heap.size w1.heap.size (Q3 (so++Rul.q0b (x1,x2,x3,x4))) w'∧Below w1.heap.size w1 w':=λw4 mid hm hs ht hd hb=>by
     refine (qal w1.heap.size w1.heap.size _ (bs [59,10]) w4 hd (by rw [q3j,Qd,Qb];simp;omega) hs).mono ?_
     rintro e w' ⟨rfl,h1,h2,_⟩;rw [qa2,← qcf] at h1;refine ⟨rfl,?_,hb.trans h2⟩;rw [ht,← Qk,← Qk];exact h1
    have LAST:=Q0 last;clear last;cases x4
    ·by_cases h3:x3=[]
     ·have ht:=HTX.out
      rw [if_neg QE,if_pos h3] at ht;have HT:=Q0 ht;have hne:(bs x3).toList.isEmpty=true:=by rw [QJ,q2h,h3];rfl
      clear ht h3
      go_wp2_with fail
      refine (LAST.out w3 [] (Q8 _) (by omega) HT.out (by rw [List.append_nil];exact HBD3.out) HB3.out).mono ?_
      rintro e w5 ⟨rfl,hbd5,hb5⟩;have HBD5:=Q0 hbd5;have HB5:=Q0 hb5;clear hbd5 hb5
      go_wp2
      go_roundw
      case rel=>exact ⟨k+1,by go_num,hlt,by rw [HNX.out];exact HBD5.out,HB5.out⟩
      case measure=>simp [intOf];omega
     ·have ht:=HTX.out
      rw [if_neg QE,if_neg h3] at ht;have HT:=Q0 ht;have hne:(bs x3).toList.isEmpty=false:=by
       rw [QJ,q2h];cases x3 with
       | nil=>exact absurd rfl h3
       | cons a r=>rfl
      clear ht h3
      go_wp2_with fail
      rw [show ({ data:=#[32,98,101,102,111,114,101,32,34] }:ByteArray)++bs x3++{ data:=#[34] }=bs (befT x3) from by
       simp only [app_bs];unfold befT;simp [bs]]
      refine (qal w1.heap.size w1.heap.size _ (bs (befT x3)) _ HBD3.out (by rw [q3j,Qd];omega) (by omega)).mono ?_
      rintro e w4 ⟨rfl,hbd4,hb4,_⟩;rw [qa2,← qcf] at hbd4;have hsz4:=hb4.size;have HBD4:=Q0 hbd4;have HB4:=Q0 (HB3.out.trans hb4);clear hbd4 hb4
      go_wp2_with fail
      refine (LAST.out w4 (befT x3) (by omega) (by omega) HT.out HBD4.out HB4.out).mono ?_
      rintro e w5 ⟨rfl,hbd5,hb5⟩;have HBD5:=Q0 hbd5;have HB5:=Q0 hb5;clear hbd5 hb5
      go_wp2
      go_roundw
      case rel=>exact ⟨k+1,by go_num,hlt,by rw [HNX.out];exact HBD5.out,HB5.out⟩
      case measure=>simp [intOf];omega
    ·have ht:=HTX.out
     rw [if_pos rfl] at ht;have HT:=Q0 ht;clear ht
     go_wp2_with fail
     refine (qal w1.heap.size w1.heap.size _ (bs [32,97,116,32,101,110,100]) _ HBD3.out (by rw [q3j,Qd];simp;omega) (by omega)).mono ?_
     rintro e w4 ⟨rfl,hbd4,hb4,_⟩;rw [qa2,← qcf] at hbd4;have hsz4:=hb4.size;have HBD4:=Q0 hbd4;have HB4:=Q0 (HB3.out.trans hb4);clear hbd4 hb4
     go_wp2_with fail
     refine (LAST.out w4 [32,97,116,32,101,110,100] (by simp) (by omega) HT.out HBD4.out HB4.out).mono ?_
     rintro e w5 ⟨rfl,hbd5,hb5⟩;have HBD5:=Q0 hbd5;have HB5:=Q0 hb5;clear hbd5 hb5
     go_wp2
     go_roundw
     case rel=>exact ⟨k+1,by go_num,hlt,by rw [HNX.out];exact HBD5.out,HB5.out⟩
     case measure=>simp [intOf];omega
   ·obtain rfl:k=l.length:=by omega
    have HS:=Q0 hszr
    go_wp2_with fail
    refine (Tryz.Builder_String_any w1.heap.size w1.heap.size _ _ HBD.out (by omega)).mono ?_
    rintro e w6 ⟨rfl,hb6⟩;have HB6:=Q0 hb6;clear hb6
    go_wp2
    go_ret2
    exact ⟨by rw [HJ.out];rfl,HBW.out.trans ((HBR.out.trans HB6.out).mono HBW.out.size)⟩
def cTextR:Con:=.of 8 [q0t] [q3a,q3l] FewR Rul.q56
theorem textr_holds:cTextR.Holds Tryz.prog:=by
 refine ⟨⟨⟨_,Tryz.func8,by kernel_rfl,by kernel_rfl⟩,λF' hF p r hr=>by injection hF with hF;subst hF;exact hr⟩,λp vs w S hS hp hvs=>?_⟩
 obtain ⟨v,rfl,hv⟩:=qdb hvs;obtain ⟨u,rfl,hu⟩:=rulV_out (r:=p) hS hv;obtain ⟨A,c,rfl⟩:=hu.slice;obtain ⟨r1,r2,l⟩:=p;refine (text_any r1 r2 l A c w hp hu).mono ?_;rintro e w' ⟨rfl,hbl⟩;refine ⟨Rul.q56 (r1,r2,l),_,rfl,rfl,⟨_,rfl,rfl,?_⟩,hbl⟩;intro i x hx
 match i,hx with
 | 0,hx=>injection hx with hx;subst hx;exact ⟨_,rfl,rfl⟩
 | 1,hx=>injection hx with hx;subst hx;exact ⟨_,rfl,rfl⟩
end Go.Proofs.YtlmbfijhkcmncaaGreatDoor
namespace Go.Proofs.YtlmbfijhkcmncaaGreatDoor
open Go.RowKit
open R
attribute [local go_sem] q12 q0q q0s
namespace Lx
theorem qhw (N:Nat):∀ (f:Nat) (out:List Tok) (off:Nat) (l:List UInt8),out.length≤5000→(∀ t∈out,t.text.length≤N)→l.length≤N→(q4k f out off l).1.length≤5000∧∀ t∈(q4k f out off l).1,t.text.length≤N
 | 0,out,off,l,h1,h2,h3=>⟨h1,h2⟩
 | f+1,out,off,[],h1,h2,h3=>⟨h1,h2⟩
 | f+1,out,off,c::r,h1,h2,h3=>by
  by_cases he:(scan (c::r)).err=0
  ·by_cases h5:out.length=5000
   ·rw [qay _ _ _ _ _ he h5];exact ⟨Q8 _,λt ht=>by cases ht⟩
   ·rw [qaj _ _ _ _ _ he h5]
    refine qhw N f _ _ _ (by rw [Qb,Qr];omega) (λt ht=>?_) (by rw [Qf,Qf];omega)
    rcases List.mem_append.1 ht with ht | ht
    ·exact h2 t ht
    ·obtain rfl:=Q7.1 ht
     have a:=q9w ((scan (c::r)).tok off);have b:=q98 (c::r) off he;have d:=width_le he;split at a <;> omega
  ·rw [qaa _ _ _ _ _ he];exact ⟨Q8 _,λt ht=>by cases ht⟩
theorem lex_tokens (l:List UInt8):(lex l).1.length≤5000∧∀ t∈(lex l).1,t.text.length≤20000:=by
 unfold lex;split
 ·exact ⟨Q8 _,λt ht=>by cases ht⟩
 ·exact qhw 20000 _ _ _ _ (Q8 _) (λt ht=>by cases ht) (by rw [Qf];omega)
end Lx
theorem small_lex (s:List UInt8) (e:Int):q2f ((Lx.lex s).1.map Rul.tp,e):=by
 obtain ⟨h1,h2⟩:=Lx.lex_tokens s;refine ⟨by show QA (Qa _ _)≤_;rw [Qg];omega,λt ht=>?_⟩
 obtain ⟨x,hx,rfl⟩:=Qv.1 ht;have:=h2 x hx;show x.text.length≤_;omega
theorem as_some (e a:Int) (w:World):(QF (.iface 80 (.agg #[.int .i64 e,.int .i64 a])) 20 80 true).run Tryz.prog w=.ok (.tuple #[.agg #[.int .i64 e,.int .i64 a],.bool true]) w:=by kernel_rfl
theorem as_none (w:World):(QF .nilIface 20 80 true).run Tryz.prog w=.ok (.tuple #[.agg #[.int .i64 0,.int .i64 0],.bool false]) w:=by kernel_rfl
def q92:Array Value:=#[.string { data:=#[] },.string { data:=#[] },.slice none 0 0]
set_option maxRecDepth 100000 in
set_option maxHeartbeats 4000000 in
theorem catch_fault (b:Nat) (err at_:Int) (older:List PanicEntry) (w:World) (h2:Blk w b 24 q92) (h3:Blk w (b+1) 31 #[.int .i64 0]) (h4:Blk w (b+2) 3 #[.int .i64 0]) :
  CallsD Tryz.prog 34 #[.pointer (some ⟨b,0,none⟩),.pointer (some ⟨b+1,0,none⟩),.pointer (some ⟨b+2,0,none⟩)] (.panicking ({ v:=.iface 80 (.agg #[.int .i64 err,.int .i64 at_]),recovered:=false }::older)) w λe u' w' =>
   e=.returned (.tuple #[])∧u'=.panicking ({ v:=.iface 80 (.agg #[.int .i64 err,.int .i64 at_]),recovered:=true }::older) ∧
   (∃ ty,Blk w' b ty q92)∧(∃ ty,Blk w' (b+1) ty #[.int .i64 err])∧(∃ ty,Blk w' (b+2) ty #[.int .i64 at_])∧Below b w w':=by
 refine callsD_of_wpS Tryz.func34 rfl λc₀ cs hu=>?_
 apply wpS_seq
 apply wpS_region
 simp [wpOpsS,go_sem,recoverD,hu,Tryz.ntmps34,Exit.thenS,as_some];have l2:=h2.lt;have l4:=h4.lt;have hb1:Below w.heap.size w (w.alloc (.cells #[.int .i64 err,.int .i64 at_] 80)):=q02 (q03 w) _;have n0:=λi=>(h2.bel hb1).frozen i
 have n1:=λi=>(h3.bel hb1).frozen i
 have n2:=λi=>(h4.bel hb1).frozen i
 have d0:(w.alloc (.cells #[.int .i64 err,.int .i64 at_] 80)).cell? ⟨b,0,none⟩=some (.string { data:=#[] }):=(h2.bel hb1).cell 0;have d1:(w.alloc (.cells #[.int .i64 err,.int .i64 at_] 80)).cell? ⟨b,1,none⟩=some (.string { data:=#[] }):=(h2.bel hb1).cell 1;have d2:(w.alloc (.cells #[.int .i64 err,.int .i64 at_] 80)).cell? ⟨b,2,none⟩=some (.slice none 0 0):=(h2.bel hb1).cell 2;have e0:(w.alloc (.cells #[.int .i64 err,.int .i64 at_] 80)).cell? ⟨b+1,0,none⟩=some (.int .i64 0):=(h3.bel hb1).cell 0;have f0:(w.alloc (.cells #[.int .i64 err,.int .i64 at_] 80)).cell? ⟨b+2,0,none⟩=some (.int .i64 0):=(h4.bel hb1).cell 0;have p0:(w.alloc (.cells #[.int .i64 err,.int .i64 at_] 80)).cell? ⟨w.heap.size,0,none⟩=some (.int .i64 err):=(Blk.new w 80 #[.int .i64 err,.int .i64 at_]).cell 0;have p1:(w.alloc (.cells #[.int .i64 err,.int .i64 at_] 80)).cell? ⟨w.heap.size,1,none⟩=some (.int .i64 at_):=(Blk.new w 80 #[.int .i64 err,.int .i64 at_]).cell 1;refine wpS_of_wp ?_;generalize hW:w.alloc (.cells #[.int .i64 err,.int .i64 at_] 80)=W at *
 generalize hB:w.heap.size=B at *
 generalize htm:(#[QK (some ⟨b,0,none⟩),.pointer (some ⟨b+1,0,none⟩),.pointer (some ⟨b+2,0,none⟩)]++_:Array Value)=tm;have htm:tm=#[.pointer (some ⟨b,0,none⟩),.pointer (some ⟨b+1,0,none⟩),.pointer (some ⟨b+2,0,none⟩),.pointer (some ⟨B,0,none⟩),.bool true,.tuple #[.agg #[.int .i64 err,.int .i64 at_],.bool true],.iface 80 (.agg #[.int .i64 err,.int .i64 at_]),.tuple #[.agg #[.int .i64 err,.int .i64 at_],.bool true],.agg #[.int .i64 err,.int .i64 at_],.bool true,undef,undef,undef,undef,undef,undef]:=by
  rw [← htm];kernel_rfl
 subst htm;have z0:=n0 0;have z1:=n0 1;have z2:=n0 2;have z3:=n1 0;have z4:=n2 0;clear n0 n1 n2 hu;have HW:=Q0 hW;have HB:=Q0 hb1;have HH:=Q0 h2;have HI:=Q0 h3;have HJ:=Q0 h4;clear hW hb1 h2 h3 h4
 go_wp2
 go_region
 have q2:Blk W b 24 q92:=by rw [← HW.out];exact HH.out.bel (by rw [← hB] at *;exact q02 (q03 w) _)
 have q3:Blk W (b+1) 31 #[.int .i64 0]:=by rw [← HW.out];exact HI.out.bel (by rw [← hB] at *;exact q02 (q03 w) _)
 have q4:Blk W (b+2) 3 #[.int .i64 0]:=by rw [← HW.out];exact HJ.out.bel (by rw [← hB] at *;exact q02 (q03 w) _)
 refine ⟨rfl,_,rfl,.tuple #[],by simp [results,Tryz.results34],rfl,rfl,?_⟩
 have oth:∀ (w:World) (g k i:Nat) (v:Value) (T:TypeId) (cs:Array Value),k≠g→Blk w k T cs→Blk (w.setCell ⟨g,i,none⟩ v) k T cs:=λw g k i v T cs h hb=>(Qi w ⟨g,i,none⟩ v k h).trans hb
 refine ⟨⟨24,?_⟩,⟨31,?_⟩,⟨3,?_⟩,?_⟩
 ·exact oth _ _ _ _ _ _ _ (by omega) (oth _ _ _ _ _ _ _ (by omega) (((q2.set_ 0 (.string { data:=#[] })).set_ 1 (.string { data:=#[] })).set_ 2 (.slice none 0 0)))
 ·exact oth _ _ _ _ _ _ _ (by omega) ((oth _ _ _ _ _ _ _ (by omega) (oth _ _ _ _ _ _ _ (by omega) (oth _ _ _ _ _ _ _ (by omega) q3))).set_ 0 (.int .i64 err))
 ·exact (oth _ _ _ _ _ _ _ (by omega) (oth _ _ _ _ _ _ _ (by omega) (oth _ _ _ _ _ _ _ (by omega) (oth _ _ _ _ _ _ _ (by omega) q4)))).set_ 0 (.int .i64 at_)
 ·have hb0:Below b w W:=by rw [← HW.out];exact (QH b w).alloc (by omega) _
  exact (((((hb0.setCell (p:=⟨b,0,none⟩) (Qh b) _).setCell (p:=⟨b,1,none⟩) (Qh b) _).setCell (p:=⟨b,2,none⟩) (Qh b) _).setCell (p:=⟨b+1,0,none⟩) (show b≤b+1 by omega) _).setCell (p:=⟨b+2,0,none⟩) (show b≤b+2 by omega) _).drew
theorem catch_idle (b0 b1 b2:Addr) (w:World) :
  CallsD Tryz.prog 34 #[.pointer (some b0),.pointer (some b1),.pointer (some b2)] .returning w λe u' w'=>e=.returned (.tuple #[])∧u'=.returning∧Below w.heap.size w w':=by
 refine callsD_of_wpS Tryz.func34 rfl λc₀ cs hu=>?_
 apply wpS_seq
 apply wpS_region
 simp [wpOpsS,go_sem,recoverD,hu,Tryz.ntmps34,Exit.thenS,as_none];refine wpS_of_wp ?_;generalize htm:(#[QK (some b0),.pointer (some b1),.pointer (some b2)]++_:Array Value)=tm;have htm:tm=#[.pointer (some b0),.pointer (some b1),.pointer (some b2),.pointer (some ⟨w.heap.size,0,none⟩),.bool false,.tuple #[.agg #[.int .i64 0,.int .i64 0],.bool false],.nilIface,.tuple #[.agg #[.int .i64 0,.int .i64 0],.bool false],.agg #[.int .i64 0,.int .i64 0],.bool false,undef,undef,undef,undef,undef,undef]:=by
  rw [← htm];kernel_rfl
 subst htm
 go_wp2
 refine ⟨rfl,.returning,by rw [← hu],.tuple #[],by simp [results,Tryz.results34],rfl,rfl,?_⟩
 exact q02 (q03 w) _
end Go.Proofs.YtlmbfijhkcmncaaGreatDoor

/-
  Several texts in one: CoG, CoH, CoP, CoQ, CoR, CoS, RefBytes, RefName, SzAR, HeRd, CoGt.
-/
import Derived.Test.YtlfaaoalgcbcoaaGreatDoorPN
import Derived.Test.YtlfaaoalgcbcoaaGreatDoorPO
import Derived.Test.YtlfaaoalgcbcoaaGreatDoorPA
import Derived.Test.YtlfaaoalgcbcoaaGreatDoorPM
import Derived.Test.YtlfaaoalgcbcoaaGreatDoorPD
import Derived.Test.YtlfaaoalgcbcoaaGreatDoorPK
import Derived.Test.YtlfaaoalgcbcoaaGreatDoorPL
open List renaming length→Q0,take→Q4,getD→Q7,all_cons→Q9,take_of_length_le→Qa,drop_eq_nil_of_le→Qb,all_append→Qc,take_append_drop→Qi,length_take→Qj,cons_append→Qk,append_nil→Ql,length_set→Qm
open Nat renaming zero_le→Q8
open Go.Lib renaming hid→Qd
open Bool renaming true_and→Qe,false_and→Qf,and_false→Qg,and_eq_true→Qh
open UInt8 renaming toNat_lt→Qn
set_option linter.unusedVariables false
namespace Go.Proofs.YtlfaaoalgcbcoaaGreatDoor
open Go.RowKit R
abbrev q31 (e:Cod.Ear) (p_1:Nat×q0b×q03×q0s×q05×Cod.Giv):Prop :=
 ((True∧True)∧(zE p_1.2.2.2.2.2.2.1∧True)∧(True∧True)∧(zE p_1.2.2.2.2.2.1∧zE p_1.2.2.2.2.2.2.1∧zE p_1.2.2.2.2.2.2.2.1∧zE p_1.2.2.2.2.2.2.2.2.1∧zE p_1.2.2.2.2.2.2.2.2.2∧True)∧(zE false∧True)∧(zE e.lang∧zE e.ws∧True∧zE e.c∧True)∧(zT4)∧(zE e.lang∧zE e.ws∧True)∧(zE p_1.2.2.2.2.2.1∧zE p_1.2.2.2.2.2.2.1∧zE p_1.2.2.2.2.2.2.2.1∧zE p_1.2.2.2.2.2.2.2.2.1∧zE p_1.2.2.2.2.2.2.2.2.2∧True)∧True)
abbrev q33 (e:Cod.Ear) (p_2:Nat×q0b×q03×q0s×q05×Cod.Giv):Prop :=
 ((True∧True)∧(zE p_2.2.2.2.2.2.2.1∧True)∧(True∧True)∧(zE p_2.2.2.2.2.2.1∧zE p_2.2.2.2.2.2.2.1∧zE p_2.2.2.2.2.2.2.2.1∧zE p_2.2.2.2.2.2.2.2.2.1∧zE p_2.2.2.2.2.2.2.2.2.2∧True)∧(True∧True)∧(zE e.lang∧zE e.ws∧True∧zE e.c∧True)∧(zT4)∧(zE e.lang∧zE e.ws∧True)∧(zE p_2.2.2.2.2.2.1∧zE p_2.2.2.2.2.2.2.1∧zE p_2.2.2.2.2.2.2.2.1∧zE p_2.2.2.2.2.2.2.2.2.1∧zE p_2.2.2.2.2.2.2.2.2.2∧True)∧True)
abbrev q4a (e:Cod.Ear):Prop :=
 ((zE e.lang∧zE e.ws∧True∧zE e.c∧True)∧(zE e.lang∧zE e.ws∧True)∧(zE e.lang∧zE e.ws∧True)∧True)
abbrev q3l (book:q0e) (p_2:Nat×q0b×q03×q0s×q05×Cod.Giv):Prop :=
 (True∧True∧True∧True∧zE book∧zE (↑(Q0 book):Int)∧zE (p_2.1:Int)∧True∧True)
abbrev qdt (e:Cod.Ear) (p':Nat×q03×q05) (p_2:Nat×q0b×q03×q0s×q05×Cod.Giv) (p_3:Nat×q0b×q03×q05) (p_4:Nat×q03×q05):Prop :=
 ((p_4.1:Int)+1=(p'.1:Int)∧True∧True∧True∧True∧zE (p_3.1:Int)∧zE (p_2.2.2.2.2.2.2.1.getD (p_3.1:Int).toNat (0:Int))∧zE p_2.2.2.2.2.2.2.1∧zE (p_2.2.2.2.2.2.2.1.length:Int)∧zE (p_3.1:Int)∧zE (e.near (p_2.2.2.2.2.2.2.1.getD (p_3.1:Int).toNat (0:Int)))∧zE (↑(e.near (p_2.2.2.2.2.2.2.1.getD (p_3.1:Int).toNat (0:Int))).length:Int)∧True)
abbrev q6q (book:q0e) (p_1:Nat×q0b×q03×q0s×q05×Cod.Giv):Prop :=
 (True∧True∧True∧True∧True∧zE book∧zE (↑(Q0 book):Int)∧zE (p_1.1:Int)∧zE false∧True)
abbrev q9v (e:Cod.Ear) (p':Nat×q0b×q03×q05) (p_2:Nat×q0b×q03×q0s×q05×Cod.Giv):Prop :=
 (p'.1≤p_2.2.2.2.2.2.2.1.length∧q1o e p'.2.1∧q27 [] p_2.2.2.2.2.1 p_2.2.2.2.2.2 (e.q1a p_2.2.2.2.2.2.2.1 p'.1 (0:Nat)) p'.2.2.1 p'.2.2.2)
abbrev qbl (e:Cod.Ear) (p':Nat×q03×q05) (p_2:Nat×q0b×q03×q0s×q05×Cod.Giv) (p_3:Nat×q0b×q03×q05):Prop :=
 (p'.1≤(e.near (p_2.2.2.2.2.2.2.1.getD (p_3.1:Int).toNat (0:Int))).length∧q27 p_3.2.2.1 p_3.2.2.2 p_2.2.2.2.2.2 (q3n e p_2.2.2.2.2.2.2.1 (p_3.1:Int).toNat p'.1) p'.2.1 p'.2.2)
abbrev zCoG0_8 (p:Nat×q0b×q03×q05) (p':Nat) (p_1:Nat×q0b×q03×q0s×q05×Cod.Giv):Prop :=
 (p'≤((getK (Cod.key ((p_1.2.2.2.2.2.2.1.set (p.1:Int).toNat (p_1.2.2.2.2.2.2.1.getD ((p.1:Int)-1).toNat (0:Int))).set ((p.1:Int)-1).toNat (p_1.2.2.2.2.2.2.1.getD (p.1:Int).toNat (0:Int)))) p_1.2.2.2.2.1).getD []).length∧((Q4 p' ((getK (Cod.key ((p_1.2.2.2.2.2.2.1.set (p.1:Int).toNat (p_1.2.2.2.2.2.2.1.getD ((p.1:Int)-1).toNat (0:Int))).set ((p.1:Int)-1).toNat (p_1.2.2.2.2.2.2.1.getD (p.1:Int).toNat (0:Int)))) p_1.2.2.2.2.1).getD [])).any λ(o:List UInt8×List Int×Bool×Int×Int)=>Cod.q11 o p_1.2.2.2.2.2)=false)
abbrev zCoG0_9 (book:q0e) (e:Cod.Ear) (p:Nat×q0b×q03×q05) (p_1:Nat×q0b×q03×q0s×q05×Cod.Giv) (p_3:Nat×q03×q05):Prop :=
 (True∧True∧True∧zE false∧True∧True∧True∧True∧zE (p.1:Int)∧zE (p_1.2.2.2.2.2.2.1.getD (p.1:Int).toNat (0:Int))∧zE p_1.2.2.2.2.2.2.1∧zE (p_1.2.2.2.2.2.2.1.length:Int)∧zE (p.1:Int)∧zE (e.near (p_1.2.2.2.2.2.2.1.getD (p.1:Int).toNat (0:Int)))∧zE (↑(e.near (p_1.2.2.2.2.2.2.1.getD (p.1:Int).toNat (0:Int))).length:Int)∧zE (p_3.1:Int)∧zE true∧True∧True∧True∧True∧True∧zE book∧zE (↑(Q0 book):Int)∧zE (p_1.1:Int)∧zE false∧True)
abbrev qjb (book:q0e) (e:Cod.Ear) (p:Nat×q0b×q03×q05) (p_1:Nat×q0b×q03×q0s×q05×Cod.Giv) (p_3:Nat×q03×q05):Prop :=
 (True∧True∧True∧zE false∧True∧True∧True∧True∧zE (p.1:Int)∧zE (p_1.2.2.2.2.2.2.1.getD (p.1:Int).toNat (0:Int))∧zE p_1.2.2.2.2.2.2.1∧zE (p_1.2.2.2.2.2.2.1.length:Int)∧zE (p.1:Int)∧zE (e.near (p_1.2.2.2.2.2.2.1.getD (p.1:Int).toNat (0:Int)))∧zE (↑(e.near (p_1.2.2.2.2.2.2.1.getD (p.1:Int).toNat (0:Int))).length:Int)∧zE (p_3.1:Int)∧True∧True∧True∧True∧True∧True∧zE book∧zE (↑(Q0 book):Int)∧zE (p_1.1:Int)∧zE false∧True)
abbrev q9n (p':Nat×q0b×q03×q05) (p_2:Nat×q0b×q03×q0s×q05×Cod.Giv) (p_3:Nat×q0b×q03×q05):Prop :=
 ((p_3.1:Int)+1=(p'.1:Int)∧True∧True∧True∧True∧zE p_2.2.2.2.2.2.2.1∧zE (p_2.2.2.2.2.2.2.1.length:Int)∧True)
abbrev q7s (book:q0e) (e:Cod.Ear):Prop :=
 (True∧Snd.q0j e.c=(Snd.q0k e.lang e.ws&&Snd.q0j e.c)∧zE book∧True∧True)
abbrev qk7 (book:q0e) (p:Nat×q0b×q03×q05) (p_1:Nat×q0b×q03×q0s×q05×Cod.Giv):Prop :=
 (True∧True∧True∧zE false∧True∧True∧True∧True∧zE (p.1:Int)∧zE (p_1.2.2.2.2.2.2.1.getD (p.1:Int).toNat (0:Int))∧zE p_1.2.2.2.2.2.2.1∧zE (p_1.2.2.2.2.2.2.1.length:Int)∧zE (p.1:Int)∧True∧True∧True∧True∧True∧True∧True∧True∧True∧zE book∧zE (↑(Q0 book):Int)∧zE (p_1.1:Int)∧zE false∧True)
abbrev qjj (e:Cod.Ear) (p:Nat×q0b×q03×q05) (p':Nat) (p_1:Nat×q0b×q03×q0s×q05×Cod.Giv) (p_3:Nat×q03×q05):Prop :=
 (p'≤((getK (Cod.key (p_1.2.2.2.2.2.2.1.set (p.1:Int).toNat ((e.near (p_1.2.2.2.2.2.2.1.getD (p.1:Int).toNat (0:Int))).getD (p_3.1:Int).toNat (0:Int)))) p_1.2.2.2.2.1).getD []).length∧((Q4 p' ((getK (Cod.key (p_1.2.2.2.2.2.2.1.set (p.1:Int).toNat ((e.near (p_1.2.2.2.2.2.2.1.getD (p.1:Int).toNat (0:Int))).getD (p_3.1:Int).toNat (0:Int)))) p_1.2.2.2.2.1).getD [])).any λ(o:List UInt8×List Int×Bool×Int×Int)=>Cod.q11 o p_1.2.2.2.2.2)=false)
abbrev qeq (p:q0b) (p':Nat×q0b×q03×q05) (p_2:Nat×q0b×q03×q0s×q05×Cod.Giv) (p_5:q03×q05):Prop :=
 (p_5.1=p'.2.2.1∧p=p'.2.1∧zE (putK (Cod.key p_2.2.2.2.2.2.2.1) true p_2.2.2.1)∧Mp.put (λ(x x_1:List UInt8)=>x==x_1) p_2.2.2.2.2.2.1 true p_2.2.2.2.1=Mp.put (λ(x x_1:List UInt8)=>x==x_1) p_2.2.2.2.2.2.1 true p_2.2.2.2.1∧True)
abbrev q7o (book:q0e) (e:Cod.Ear):Prop :=
 (True∧false=(Snd.q0k e.lang e.ws&&Snd.q0j e.c)∧zE book∧True∧True)
abbrev qf4 (p_2:Nat×q0b×q03×q0s×q05×Cod.Giv) (p_3:Nat×q0b×q03×q05):Prop :=
 (True∧True∧True∧True∧zE (p_3.1:Int)∧zE (p_2.2.2.2.2.2.2.1.getD (p_3.1:Int).toNat (0:Int))∧zE p_2.2.2.2.2.2.2.1∧zE (p_2.2.2.2.2.2.2.1.length:Int)∧zE (p_3.1:Int)∧True)
abbrev qcd (e:Cod.Ear) (p':Nat×q0b×q03×q05) (p_1:Nat×q0b×q03×q0s×q05×Cod.Giv):Prop :=
 (p'.1≤p_1.2.2.2.2.2.2.1.length∧q1o e p'.2.1∧(e.q1a p_1.2.2.2.2.2.2.1 p'.1 (0:Nat)).all (q3q p_1.2.2.1 p_1.2.2.2.2.1 p_1.2.2.2.2.2)=true)
abbrev qjl (p:q0b) (p':Nat×q0b×q03×q05) (p_2:Nat×q0b×q03×q0s×q05×Cod.Giv) (p_3:Nat×q0b×q03×q05) (p_5:q03×q05):Prop :=
 (putK (Cod.key ((p_2.2.2.2.2.2.2.1.set (p_3.1:Int).toNat (p_2.2.2.2.2.2.2.1.getD ((p_3.1:Int)-1).toNat (0:Int))).set ((p_3.1:Int)-1).toNat (p_2.2.2.2.2.2.2.1.getD (p_3.1:Int).toNat (0:Int)))) true p_5.1=p'.2.2.1∧p=p'.2.1∧zE (putK (Cod.key p_2.2.2.2.2.2.2.1) true p_2.2.2.1)∧Mp.put (λ(x x_1:List UInt8)=>x==x_1) p_2.2.2.2.2.2.1 true p_2.2.2.2.1=Mp.put (λ(x x_1:List UInt8)=>x==x_1) p_2.2.2.2.2.2.1 true p_2.2.2.2.1∧True)
abbrev qjp (book:q0e) (p:Nat×q0b×q03×q05) (p_1:Nat×q0b×q03×q0s×q05×Cod.Giv):Prop :=
 (True∧True∧True∧True∧zE (p.1:Int)∧zE (p_1.2.2.2.2.2.2.1.getD (p.1:Int).toNat (0:Int))∧zE p_1.2.2.2.2.2.2.1∧zE (p_1.2.2.2.2.2.2.1.length:Int)∧zE (p.1:Int)∧True∧True∧True∧True∧True∧True∧True∧True∧True∧zE book∧zE (↑(Q0 book):Int)∧zE (p_1.1:Int)∧zE false∧True)
abbrev qjh (book:q0e) (p_2:Nat×q0b×q03×q0s×q05×Cod.Giv) (p_3:Nat×q0b×q03×q05):Prop :=
 (True∧True∧True∧True∧zE (p_3.1:Int)∧zE (p_2.2.2.2.2.2.2.1.getD (p_3.1:Int).toNat (0:Int))∧zE p_2.2.2.2.2.2.2.1∧zE (p_2.2.2.2.2.2.2.1.length:Int)∧zE (p_3.1:Int)∧True∧True∧True∧True∧True∧True∧True∧True∧zE book∧zE (↑(Q0 book):Int)∧zE (p_2.1:Int)∧True∧True)
abbrev qk3 (e:Cod.Ear) (p:Nat×q0b×q03×q05) (p':Nat×q03×q05) (p_1:Nat×q0b×q03×q0s×q05×Cod.Giv) (p_3:Nat×q03×q05):Prop :=
 ((p_3.1:Int)+1=(p'.1:Int)∧True∧True∧True∧True∧zE (p.1:Int)∧zE (p_1.2.2.2.2.2.2.1.getD (p.1:Int).toNat (0:Int))∧zE p_1.2.2.2.2.2.2.1∧zE (p_1.2.2.2.2.2.2.1.length:Int)∧zE (p.1:Int)∧zE (e.near (p_1.2.2.2.2.2.2.1.getD (p.1:Int).toNat (0:Int)))∧zE (↑(e.near (p_1.2.2.2.2.2.2.1.getD (p.1:Int).toNat (0:Int))).length:Int)∧True)
abbrev q4f (p_1:Nat×q0b×q03×q0s×q05×Cod.Giv) (p_2:q0b):Prop :=
 (zE p_2∧zE p_1.2.2.1∧zE p_1.2.2.2.1∧True)
abbrev qfd (e:Cod.Ear) (p:Nat×q0b×q03×q05) (p':Nat×q03×q05) (p_1:Nat×q0b×q03×q0s×q05×Cod.Giv):Prop :=
 (p'.1≤(e.near (p_1.2.2.2.2.2.2.1.getD (p.1:Int).toNat (0:Int))).length∧(q3n e p_1.2.2.2.2.2.2.1 (p.1:Int).toNat p'.1).all (q3q p_1.2.2.1 p_1.2.2.2.2.1 p_1.2.2.2.2.2)=true)
abbrev qj9 (e:Cod.Ear) (p:q0b) (p':Nat×q03×q05) (p_2:Nat×q0b×q03×q0s×q05×Cod.Giv) (p_3:Nat×q0b×q03×q05) (p_4:Nat×q03×q05):Prop :=
 (putK (Cod.key (p_2.2.2.2.2.2.2.1.set (p_3.1:Int).toNat ((e.near (p_2.2.2.2.2.2.2.1.getD (p_3.1:Int).toNat (0:Int))).getD (p_4.1:Int).toNat (0:Int)))) true p_4.2.1=p'.2.1∧p=p∧zE (putK (Cod.key p_2.2.2.2.2.2.2.1) true p_2.2.2.1)∧Mp.put (λ(x x_1:List UInt8)=>x==x_1) p_2.2.2.2.2.2.1 true p_2.2.2.2.1=Mp.put (λ(x x_1:List UInt8)=>x==x_1) p_2.2.2.2.2.2.1 true p_2.2.2.2.1∧True)
abbrev qk6 (p:Nat×q0b×q03×q05) (p':Nat) (p_1:Nat×q0b×q03×q0s×q05×Cod.Giv):Prop :=
 (p'≤((getK (Cod.key (p_1.2.2.2.2.2.2.1.eraseIdx (p.1:Int).toNat)) p_1.2.2.2.2.1).getD []).length∧((Q4 p' ((getK (Cod.key (p_1.2.2.2.2.2.2.1.eraseIdx (p.1:Int).toNat)) p_1.2.2.2.2.1).getD [])).any λ(o:List UInt8×List Int×Bool×Int×Int)=>Cod.q11 o p_1.2.2.2.2.2)=false)
set_option maxRecDepth 100000 in
theorem proper_vc (e:Cod.Ear) (book:q0e) (h:qek.pre ((e.lang,e.ws),e.c,book)) :
  (((q0w (e.lang,e.ws)∧bif Snd.q0k e.lang e.ws then q0n e.c∧∃ (p':Unit),True∧(q7s book e)∧(q4a e)∧True∧True∧(([]:q0b)=[]∧True)∧zT5 else ∃ (p':Unit),True∧(q7o book e)∧(q4a e)∧True∧True∧(([]:q0b)=[]∧True)∧zT5)∧q0w (e.lang,e.ws)∧bif Snd.q0k e.lang e.ws then (q0n e.c∧∃ (p':Unit),True∧(q7s book e)∧(q4a e)∧True∧True∧(([]:q0b)=[]∧True)∧zT5)∧q0n e.c∧∃ (p':Unit),True∧(q7s book e)∧(q4a e)∧True∧True∧(([]:q0b)=[]∧True)∧zT5 else (∃ (p':Unit),True∧(q7o book e)∧(q4a e)∧True∧True∧(([]:q0b)=[]∧True)∧zT5)∧∃ (p':Unit),True∧(q7o book e)∧(q4a e)∧True∧True∧(([]:q0b)=[]∧True)∧zT5)∧q0w (e.lang,e.ws)∧bif Snd.q0k e.lang e.ws then ((q0n e.c∧∃ (p':Unit),True∧(q7s book e)∧(q4a e)∧True∧True∧(([]:q0b)=[]∧True)∧zT5)∧q0n e.c∧∃ (p':Unit),True∧(q7s book e)∧(q4a e)∧True∧True∧(([]:q0b)=[]∧True)∧zT5)∧q0n e.c∧∃ (p':Unit),True∧(q7s book e)∧(q4a e)∧True∧True∧(([]:q0b)=[]∧True)∧zT5 else ((∃ (p':Unit),True∧(q7o book e)∧(q4a e)∧True∧True∧(([]:q0b)=[]∧True)∧zT5)∧∃ (p':Unit),True∧(q7o book e)∧(q4a e)∧True∧True∧(([]:q0b)=[]∧True)∧zT5)∧∃ (p':Unit),True∧(q7o book e)∧(q4a e)∧True∧True∧(([]:q0b)=[]∧True)∧zT5)∧∀ (p:Unit),True→bif !(Snd.q0k e.lang e.ws&&Snd.q0j e.c) then false=e.proper book else bif decide ((20000:Int)<(↑(Q0 book):Int)) then false=e.proper book else (∃ (p':Nat×q0b×q03×q0s×q05),(p'.1≤Q0 book∧q1o e p'.2.1∧q3w (Q4 p'.1 book) p'.2.2.1∧q4b (Q4 p'.1 book) p'.2.2.2.1∧q41 e (Q4 p'.1 book) p'.2.2.2.2∧e.shelf [] (Q4 p'.1 book)=true)∧((0:Int)=(p'.1:Int)∧True∧True∧True∧zE book∧zE (↑(Q0 book):Int)∧True)∧((zE e.lang∧zE e.ws∧True)∧(zE e.lang∧zE e.ws∧True∧zE e.c∧True)∧(zT4)∧(zE e.lang∧zE e.ws∧True)∧True)∧True∧True∧([]=p'.2.1∧[]=p'.2.2.1∧[]=p'.2.2.2.1∧True)∧True∧True∧True∧[]=p'.2.2.2.2∧True)∧∀ (p:Nat×q0b×q03×q0s×q05),p.1≤Q0 book∧q1o e p.2.1∧q3w (Q4 p.1 book) p.2.2.1∧q4b (Q4 p.1 book) p.2.2.2.1∧q41 e (Q4 p.1 book) p.2.2.2.2∧e.shelf [] (Q4 p.1 book)=true→bif decide ((p.1:Int)<(↑(Q0 book):Int)) then ((0≤(p.1:Int)∧(p.1:Int)<(↑(Q0 book):Int))∧∃ (p':Nat×q0b×q03×q0s×q05×Cod.Giv),(p'.1=(p.1:Int).toNat∧p'.1<Q0 book∧p'.2.2.2.2.2=Q7 book p'.1 Cod.noG∧q1o e p'.2.1∧q3w (Q4 p'.1 book) p'.2.2.1∧q4b (Q4 p'.1 book) p'.2.2.2.1∧q41 e (Q4 p'.1 book) p'.2.2.2.2.1∧e.shelf [] (Q4 p'.1 book)=true)∧(True∧(p.1:Int)=(p'.1:Int)∧True∧True∧True∧zE book∧zE (↑(Q0 book):Int)∧True)∧(((Q7 book (p.1:Int).toNat Cod.noG).1=p'.2.2.2.2.2.1∧(Q7 book (p.1:Int).toNat Cod.noG).2.1=p'.2.2.2.2.2.2.1∧(Q7 book (p.1:Int).toNat Cod.noG).2.2.1=p'.2.2.2.2.2.2.2.1∧(Q7 book (p.1:Int).toNat Cod.noG).2.2.2.1=p'.2.2.2.2.2.2.2.2.1∧(Q7 book (p.1:Int).toNat Cod.noG).2.2.2.2=p'.2.2.2.2.2.2.2.2.2∧True)∧(zE e.lang∧zE e.ws∧True)∧(zE e.lang∧zE e.ws∧True∧zE e.c∧True)∧(zT4)∧(zE e.lang∧zE e.ws∧True)∧True)∧True∧True∧(p.2.1=p'.2.1∧p.2.2.1=p'.2.2.1∧p.2.2.2.1=p'.2.2.2.1∧True)∧True∧True∧True∧p.2.2.2.2=p'.2.2.2.2.1∧True)∧∀ (p_1:Nat×q0b×q03×q0s×q05×Cod.Giv),p_1.1=(p.1:Int).toNat∧p_1.1<Q0 book∧p_1.2.2.2.2.2=Q7 book p_1.1 Cod.noG∧q1o e p_1.2.1∧q3w (Q4 p_1.1 book) p_1.2.2.1∧q4b (Q4 p_1.1 book) p_1.2.2.2.1∧q41 e (Q4 p_1.1 book) p_1.2.2.2.2.1∧e.shelf [] (Q4 p_1.1 book)=true→(p_1.2.2.2.2.2.1.length≤(1000:Nat)∧bif !Lx.q18 p_1.2.2.2.2.2.1 then false=e.proper book else bif (Mp.get (λ(x x_1:List UInt8)=>x==x_1) p_1.2.2.2.2.2.1 p_1.2.2.2.1).getD false then false=e.proper book else True∧bif !Cod.q2r p_1.2.2.2.2.2 then false=e.proper book else (q0w (e.lang,e.ws)∧p_1.2.2.2.2.2.2.1.length≤(1000000:Nat))∧bif !Cod.q1l e.lang e.ws p_1.2.2.2.2.2.2.1 then false=e.proper book else True∧bif (getK (Cod.key p_1.2.2.2.2.2.2.1) p_1.2.2.1).getD false then false=e.proper book else bif decide ((0:Int)<(↑((getK (Cod.key p_1.2.2.2.2.2.2.1) p_1.2.2.2.2.1).getD []).length:Int)) then false=e.proper book else (∃ (p':Nat×q0b×q03×q05),(qcd e p' p_1)∧((0:Int)=(p'.1:Int)∧True∧True∧True∧True∧zE p_1.2.2.2.2.2.2.1∧zE (p_1.2.2.2.2.2.2.1.length:Int)∧True)∧(q31 e p_1)∧True∧True∧(p_1.2.1=p'.2.1∧zE p_1.2.2.1∧zE p_1.2.2.2.1∧True)∧(q6q book p_1)∧True∧True∧zE p_1.2.2.2.2.1∧True∧(zT4)∧True)∧∀ (p:Nat×q0b×q03×q05),p.1≤p_1.2.2.2.2.2.2.1.length∧q1o e p.2.1∧(e.q1a p_1.2.2.2.2.2.2.1 p.1 (0:Nat)).all (q3q p_1.2.2.1 p_1.2.2.2.2.1 p_1.2.2.2.2.2)=true→bif decide ((p.1:Int)<(p_1.2.2.2.2.2.2.1.length:Int)) then (0≤(p.1:Int)∧(p.1:Int)<(p_1.2.2.2.2.2.2.1.length:Int))∧(bif !(Mp.get (λ(x x_1:Int)=>x==x_1) (p_1.2.2.2.2.2.2.1.getD (p.1:Int).toNat (0:Int)) p.2.1).isSome then ((0:Int)≤p_1.2.2.2.2.2.2.1.getD (p.1:Int).toNat (0:Int)∧p_1.2.2.2.2.2.2.1.getD (p.1:Int).toNat 0<(e.ws.length:Int))∧(q0w (e.lang,e.ws)∧q0n e.c∧(e.ws.getD (p_1.2.2.2.2.2.2.1.getD (p.1:Int).toNat (0:Int)).toNat []).length≤(1000000:Nat))∧∃ (p':q0b),q1o e p'∧((Snd.q19 e.lang e.ws e.c (e.ws.getD (p_1.2.2.2.2.2.2.1.getD (p.1:Int).toNat (0:Int)).toNat [])).1=e.near (p_1.2.2.2.2.2.2.1.getD (p.1:Int).toNat (0:Int))∧True)∧(q31 e p_1)∧True∧True∧(Mp.put (λ(x x_1:Int)=>x==x_1) (p_1.2.2.2.2.2.2.1.getD (p.1:Int).toNat (0:Int)) (Snd.q19 e.lang e.ws e.c (e.ws.getD (p_1.2.2.2.2.2.2.1.getD (p.1:Int).toNat (0:Int)).toNat [])).1 p.2.1=p'∧zE p_1.2.2.1∧zE p_1.2.2.2.1∧True)∧(qjp book p p_1)∧True∧True∧zE p_1.2.2.2.2.1∧True∧(zT4)∧True else ∃ (p':q0b),q1o e p'∧((Mp.get (λ(x x_1:Int)=>x==x_1) (p_1.2.2.2.2.2.2.1.getD (p.1:Int).toNat (0:Int)) p.2.1).getD []=e.near (p_1.2.2.2.2.2.2.1.getD (p.1:Int).toNat (0:Int))∧True)∧(q31 e p_1)∧True∧True∧(p.2.1=p'∧zE p_1.2.2.1∧zE p_1.2.2.2.1∧True)∧(qjp book p p_1)∧True∧True∧zE p_1.2.2.2.2.1∧True∧(zT4)∧True)∧∀ (p_2:q0b),q1o e p_2→(∃ (p':Nat×q03×q05),(qfd e p p' p_1)∧((0:Int)=(p'.1:Int)∧True∧True∧True∧True∧zE (p.1:Int)∧zE (p_1.2.2.2.2.2.2.1.getD (p.1:Int).toNat (0:Int))∧zE p_1.2.2.2.2.2.2.1∧zE (p_1.2.2.2.2.2.2.1.length:Int)∧zE (p.1:Int)∧zE (e.near (p_1.2.2.2.2.2.2.1.getD (p.1:Int).toNat (0:Int)))∧zE (↑(e.near (p_1.2.2.2.2.2.2.1.getD (p.1:Int).toNat (0:Int))).length:Int)∧True)∧(q31 e p_1)∧True∧True∧(q4f p_1 p_2)∧(q6q book p_1)∧True∧True∧zE p_1.2.2.2.2.1∧True∧(zT4)∧True)∧∀ (p_3:Nat×q03×q05),p_3.1≤(e.near (p_1.2.2.2.2.2.2.1.getD (p.1:Int).toNat (0:Int))).length∧(q3n e p_1.2.2.2.2.2.2.1 (p.1:Int).toNat p_3.1).all (q3q p_1.2.2.1 p_1.2.2.2.2.1 p_1.2.2.2.2.2)=true→bif decide ((p_3.1:Int)<(↑(e.near (p_1.2.2.2.2.2.2.1.getD (p.1:Int).toNat (0:Int))).length:Int)) then (0≤(p_3.1:Int)∧(p_3.1:Int)<(↑(e.near (p_1.2.2.2.2.2.2.1.getD (p.1:Int).toNat (0:Int))).length:Int))∧bif (e.near (p_1.2.2.2.2.2.2.1.getD (p.1:Int).toNat (0:Int))).getD (p_3.1:Int).toNat (0:Int) != p_1.2.2.2.2.2.2.1.getD (p.1:Int).toNat (0:Int) then p_1.2.2.2.2.2.2.1.length≤(1000000:Nat)∧(0≤(p.1:Int)∧(p.1:Int)<(p_1.2.2.2.2.2.2.1.length:Int))∧bif (p.1:Int).toNat.beq (p.1:Int).toNat then True∧bif (getK (Cod.key (p_1.2.2.2.2.2.2.1.set (p.1:Int).toNat ((e.near (p_1.2.2.2.2.2.2.1.getD (p.1:Int).toNat (0:Int))).getD (p_3.1:Int).toNat (0:Int)))) p_1.2.2.1).getD false then false=e.proper book else (∃ (p':Nat),(qjj e p p' p_1 p_3)∧((0:Int)=(p':Int)∧zE (Cod.key (p_1.2.2.2.2.2.2.1.set (p.1:Int).toNat ((e.near (p_1.2.2.2.2.2.2.1.getD (p.1:Int).toNat (0:Int))).getD (p_3.1:Int).toNat (0:Int))))∧True∧zE (↑((getK (Cod.key (p_1.2.2.2.2.2.2.1.set (p.1:Int).toNat ((e.near (p_1.2.2.2.2.2.2.1.getD (p.1:Int).toNat (0:Int))).getD (p_3.1:Int).toNat (0:Int)))) p_1.2.2.2.2.1).getD []).length:Int)∧True)∧(q31 e p_1)∧True∧True∧(q4f p_1 p_2)∧(zCoG0_9 book e p p_1 p_3)∧True∧True∧zE p_1.2.2.2.2.1∧True∧(zT4)∧True)∧∀ (p_4:Nat),p_4≤((getK (Cod.key (p_1.2.2.2.2.2.2.1.set (p.1:Int).toNat ((e.near (p_1.2.2.2.2.2.2.1.getD (p.1:Int).toNat (0:Int))).getD (p_3.1:Int).toNat (0:Int)))) p_1.2.2.2.2.1).getD []).length∧((Q4 p_4 ((getK (Cod.key (p_1.2.2.2.2.2.2.1.set (p.1:Int).toNat ((e.near (p_1.2.2.2.2.2.2.1.getD (p.1:Int).toNat (0:Int))).getD (p_3.1:Int).toNat (0:Int)))) p_1.2.2.2.2.1).getD [])).any λ(o:List UInt8×List Int×Bool×Int×Int)=>Cod.q11 o p_1.2.2.2.2.2)=false→bif decide ((p_4:Int)<(↑((getK (Cod.key (p_1.2.2.2.2.2.2.1.set (p.1:Int).toNat ((e.near (p_1.2.2.2.2.2.2.1.getD (p.1:Int).toNat (0:Int))).getD (p_3.1:Int).toNat (0:Int)))) p_1.2.2.2.2.1).getD []).length:Int)) then (0≤(p_4:Int)∧(p_4:Int)<(↑((getK (Cod.key (p_1.2.2.2.2.2.2.1.set (p.1:Int).toNat ((e.near (p_1.2.2.2.2.2.2.1.getD (p.1:Int).toNat (0:Int))).getD (p_3.1:Int).toNat (0:Int)))) p_1.2.2.2.2.1).getD []).length:Int))∧True∧bif Cod.q11 (((getK (Cod.key (p_1.2.2.2.2.2.2.1.set (p.1:Int).toNat ((e.near (p_1.2.2.2.2.2.2.1.getD (p.1:Int).toNat (0:Int))).getD (p_3.1:Int).toNat (0:Int)))) p_1.2.2.2.2.1).getD []).getD (p_4:Int).toNat Cod.noG) p_1.2.2.2.2.2 then false=e.proper book else (zFit ((p_4:Int)+1))∧∃ (p':Nat),(qjj e p p' p_1 p_3)∧((getK (Cod.key (p_1.2.2.2.2.2.2.1.set (p.1:Int).toNat ((e.near (p_1.2.2.2.2.2.2.1.getD (p.1:Int).toNat (0:Int))).getD (p_3.1:Int).toNat (0:Int)))) p_1.2.2.2.2.1).getD []).length-p'<((getK (Cod.key (p_1.2.2.2.2.2.2.1.set (p.1:Int).toNat ((e.near (p_1.2.2.2.2.2.2.1.getD (p.1:Int).toNat (0:Int))).getD (p_3.1:Int).toNat (0:Int)))) p_1.2.2.2.2.1).getD []).length-p_4∧((p_4:Int)+1=(p':Int)∧zE (Cod.key (p_1.2.2.2.2.2.2.1.set (p.1:Int).toNat ((e.near (p_1.2.2.2.2.2.2.1.getD (p.1:Int).toNat (0:Int))).getD (p_3.1:Int).toNat (0:Int))))∧True∧zE (↑((getK (Cod.key (p_1.2.2.2.2.2.2.1.set (p.1:Int).toNat ((e.near (p_1.2.2.2.2.2.2.1.getD (p.1:Int).toNat (0:Int))).getD (p_3.1:Int).toNat (0:Int)))) p_1.2.2.2.2.1).getD []).length:Int)∧True)∧(q31 e p_1)∧True∧True∧(q4f p_1 p_2)∧(zCoG0_9 book e p p_1 p_3)∧True∧True∧zE p_1.2.2.2.2.1∧True∧(zT4)∧True else (zFit ((p_3.1:Int)+1))∧∃ (p':Nat×q03×q05),(qfd e p p' p_1)∧(e.near (p_1.2.2.2.2.2.2.1.getD (p.1:Int).toNat (0:Int))).length-p'.1<(e.near (p_1.2.2.2.2.2.2.1.getD (p.1:Int).toNat (0:Int))).length-p_3.1∧(qk3 e p p' p_1 p_3)∧(q31 e p_1)∧True∧True∧(q4f p_1 p_2)∧(q6q book p_1)∧True∧True∧zE p_1.2.2.2.2.1∧True∧(zT4)∧True else False else (zFit ((p_3.1:Int)+1))∧∃ (p':Nat×q03×q05),(qfd e p p' p_1)∧(e.near (p_1.2.2.2.2.2.2.1.getD (p.1:Int).toNat (0:Int))).length-p'.1<(e.near (p_1.2.2.2.2.2.2.1.getD (p.1:Int).toNat (0:Int))).length-p_3.1∧(qk3 e p p' p_1 p_3)∧(q31 e p_1)∧True∧True∧(q4f p_1 p_2)∧(q6q book p_1)∧True∧True∧zE p_1.2.2.2.2.1∧True∧(zT4)∧True else (p_1.2.2.2.2.2.2.1.length≤(1000000:Nat)∧(zFit ((p.1:Int)+1))∧(zE ((p.1:Int)+1)∧0≤(p.1:Int)∧(p.1:Int)<(p_1.2.2.2.2.2.2.1.length:Int))∧True∧bif (getK (Cod.key (p_1.2.2.2.2.2.2.1.eraseIdx (p.1:Int).toNat)) p_1.2.2.1).getD false then false=e.proper book else (∃ (p':Nat),(qk6 p p' p_1)∧((0:Int)=(p':Int)∧zE (Cod.key (p_1.2.2.2.2.2.2.1.eraseIdx (p.1:Int).toNat))∧True∧zE (↑((getK (Cod.key (p_1.2.2.2.2.2.2.1.eraseIdx (p.1:Int).toNat)) p_1.2.2.2.2.1).getD []).length:Int)∧True)∧(q31 e p_1)∧True∧True∧(q4f p_1 p_2)∧(qjb book e p p_1 p_3)∧True∧True∧zE p_1.2.2.2.2.1∧True∧(zT4)∧True)∧∀ (p_4:Nat),p_4≤((getK (Cod.key (p_1.2.2.2.2.2.2.1.eraseIdx (p.1:Int).toNat)) p_1.2.2.2.2.1).getD []).length∧((Q4 p_4 ((getK (Cod.key (p_1.2.2.2.2.2.2.1.eraseIdx (p.1:Int).toNat)) p_1.2.2.2.2.1).getD [])).any λ(o:List UInt8×List Int×Bool×Int×Int)=>Cod.q11 o p_1.2.2.2.2.2)=false→bif decide ((p_4:Int)<(↑((getK (Cod.key (p_1.2.2.2.2.2.2.1.eraseIdx (p.1:Int).toNat)) p_1.2.2.2.2.1).getD []).length:Int)) then (0≤(p_4:Int)∧(p_4:Int)<(↑((getK (Cod.key (p_1.2.2.2.2.2.2.1.eraseIdx (p.1:Int).toNat)) p_1.2.2.2.2.1).getD []).length:Int))∧True∧bif Cod.q11 (((getK (Cod.key (p_1.2.2.2.2.2.2.1.eraseIdx (p.1:Int).toNat)) p_1.2.2.2.2.1).getD []).getD (p_4:Int).toNat Cod.noG) p_1.2.2.2.2.2 then false=e.proper book else (zFit ((p_4:Int)+1))∧∃ (p':Nat),(qk6 p p' p_1)∧((getK (Cod.key (p_1.2.2.2.2.2.2.1.eraseIdx (p.1:Int).toNat)) p_1.2.2.2.2.1).getD []).length-p'<((getK (Cod.key (p_1.2.2.2.2.2.2.1.eraseIdx (p.1:Int).toNat)) p_1.2.2.2.2.1).getD []).length-p_4∧((p_4:Int)+1=(p':Int)∧zE (Cod.key (p_1.2.2.2.2.2.2.1.eraseIdx (p.1:Int).toNat))∧True∧zE (↑((getK (Cod.key (p_1.2.2.2.2.2.2.1.eraseIdx (p.1:Int).toNat)) p_1.2.2.2.2.1).getD []).length:Int)∧True)∧(q31 e p_1)∧True∧True∧(q4f p_1 p_2)∧(qjb book e p p_1 p_3)∧True∧True∧zE p_1.2.2.2.2.1∧True∧(zT4)∧True else ∃ (p':q03×q05),q3q p_1.2.2.1 p_1.2.2.2.2.1 p_1.2.2.2.2.2 (p_1.2.2.2.2.2.2.1.eraseIdx (p.1:Int).toNat)=true∧(True∧True∧True∧True∧zE (p.1:Int)∧zE (p_1.2.2.2.2.2.2.1.getD (p.1:Int).toNat (0:Int))∧zE p_1.2.2.2.2.2.2.1∧zE (p_1.2.2.2.2.2.2.1.length:Int)∧zE (p.1:Int)∧True)∧(q31 e p_1)∧True∧True∧(q4f p_1 p_2)∧(q6q book p_1)∧True∧True∧zE p_1.2.2.2.2.1∧True∧(zT4)∧True)∧∀ (p_4:q03×q05),q3q p_1.2.2.1 p_1.2.2.2.2.1 p_1.2.2.2.2.2 (p_1.2.2.2.2.2.2.1.eraseIdx (p.1:Int).toNat)=true→bif (p.1:Int)==(0:Int) then (zFit ((p.1:Int)+1))∧∃ (p':Nat×q0b×q03×q05),(qcd e p' p_1)∧p_1.2.2.2.2.2.2.1.length-p'.1<p_1.2.2.2.2.2.2.1.length-p.1∧((p.1:Int)+1=(p'.1:Int)∧True∧True∧True∧True∧zE p_1.2.2.2.2.2.2.1∧zE (p_1.2.2.2.2.2.2.1.length:Int)∧True)∧(q31 e p_1)∧True∧True∧(p_2=p'.2.1∧zE p_1.2.2.1∧zE p_1.2.2.2.1∧True)∧(q6q book p_1)∧True∧True∧zE p_1.2.2.2.2.1∧True∧(zT4)∧True else (zFit ((p.1:Int)-1))∧(0≤(p.1:Int)-1∧(p.1:Int)-1<(p_1.2.2.2.2.2.2.1.length:Int))∧bif p_1.2.2.2.2.2.2.1.getD ((p.1:Int)-1).toNat (0:Int)==p_1.2.2.2.2.2.2.1.getD (p.1:Int).toNat (0:Int) then (zFit ((p.1:Int)+1))∧∃ (p':Nat×q0b×q03×q05),(qcd e p' p_1)∧p_1.2.2.2.2.2.2.1.length-p'.1<p_1.2.2.2.2.2.2.1.length-p.1∧((p.1:Int)+1=(p'.1:Int)∧True∧True∧True∧True∧zE p_1.2.2.2.2.2.2.1∧zE (p_1.2.2.2.2.2.2.1.length:Int)∧True)∧(q31 e p_1)∧True∧True∧(p_2=p'.2.1∧zE p_1.2.2.1∧zE p_1.2.2.2.1∧True)∧(q6q book p_1)∧True∧True∧zE p_1.2.2.2.2.1∧True∧(zT4)∧True else (zFit ((p.1:Int)-1))∧(0≤(p.1:Int)-1∧(p.1:Int)-1<(p_1.2.2.2.2.2.2.1.length:Int))∧p_1.2.2.2.2.2.2.1.length≤(1000000:Nat)∧(0≤(p.1:Int)∧(p.1:Int)<(p_1.2.2.2.2.2.2.1.length:Int))∧bif (p.1:Int).toNat.beq (p.1:Int).toNat then (zFit ((p.1:Int)-1))∧(0≤(p.1:Int)-1∧(p.1:Int)-1<(↑(p_1.2.2.2.2.2.2.1.set (p.1:Int).toNat (p_1.2.2.2.2.2.2.1.getD ((p.1:Int)-1).toNat (0:Int))).length:Int))∧bif ((p.1:Int)-1).toNat.beq ((p.1:Int)-1).toNat then True∧bif (getK (Cod.key ((p_1.2.2.2.2.2.2.1.set (p.1:Int).toNat (p_1.2.2.2.2.2.2.1.getD ((p.1:Int)-1).toNat (0:Int))).set ((p.1:Int)-1).toNat (p_1.2.2.2.2.2.2.1.getD (p.1:Int).toNat (0:Int)))) p_1.2.2.1).getD false then false=e.proper book else (∃ (p':Nat),(zCoG0_8 p p' p_1)∧((0:Int)=(p':Int)∧zE (Cod.key ((p_1.2.2.2.2.2.2.1.set (p.1:Int).toNat (p_1.2.2.2.2.2.2.1.getD ((p.1:Int)-1).toNat (0:Int))).set ((p.1:Int)-1).toNat (p_1.2.2.2.2.2.2.1.getD (p.1:Int).toNat (0:Int))))∧True∧zE (↑((getK (Cod.key ((p_1.2.2.2.2.2.2.1.set (p.1:Int).toNat (p_1.2.2.2.2.2.2.1.getD ((p.1:Int)-1).toNat (0:Int))).set ((p.1:Int)-1).toNat (p_1.2.2.2.2.2.2.1.getD (p.1:Int).toNat (0:Int)))) p_1.2.2.2.2.1).getD []).length:Int)∧True)∧(q31 e p_1)∧True∧True∧(q4f p_1 p_2)∧(qk7 book p p_1)∧True∧True∧zE p_1.2.2.2.2.1∧True∧(zT4)∧True)∧∀ (p_5:Nat),p_5≤((getK (Cod.key ((p_1.2.2.2.2.2.2.1.set (p.1:Int).toNat (p_1.2.2.2.2.2.2.1.getD ((p.1:Int)-1).toNat (0:Int))).set ((p.1:Int)-1).toNat (p_1.2.2.2.2.2.2.1.getD (p.1:Int).toNat (0:Int)))) p_1.2.2.2.2.1).getD []).length∧((Q4 p_5 ((getK (Cod.key ((p_1.2.2.2.2.2.2.1.set (p.1:Int).toNat (p_1.2.2.2.2.2.2.1.getD ((p.1:Int)-1).toNat (0:Int))).set ((p.1:Int)-1).toNat (p_1.2.2.2.2.2.2.1.getD (p.1:Int).toNat (0:Int)))) p_1.2.2.2.2.1).getD [])).any λ(o:List UInt8×List Int×Bool×Int×Int)=>Cod.q11 o p_1.2.2.2.2.2)=false→bif decide ((p_5:Int)<(↑((getK (Cod.key ((p_1.2.2.2.2.2.2.1.set (p.1:Int).toNat (p_1.2.2.2.2.2.2.1.getD ((p.1:Int)-1).toNat (0:Int))).set ((p.1:Int)-1).toNat (p_1.2.2.2.2.2.2.1.getD (p.1:Int).toNat (0:Int)))) p_1.2.2.2.2.1).getD []).length:Int)) then (0≤(p_5:Int)∧(p_5:Int)<(↑((getK (Cod.key ((p_1.2.2.2.2.2.2.1.set (p.1:Int).toNat (p_1.2.2.2.2.2.2.1.getD ((p.1:Int)-1).toNat (0:Int))).set ((p.1:Int)-1).toNat (p_1.2.2.2.2.2.2.1.getD (p.1:Int).toNat (0:Int)))) p_1.2.2.2.2.1).getD []).length:Int))∧True∧bif Cod.q11 (((getK (Cod.key ((p_1.2.2.2.2.2.2.1.set (p.1:Int).toNat (p_1.2.2.2.2.2.2.1.getD ((p.1:Int)-1).toNat (0:Int))).set ((p.1:Int)-1).toNat (p_1.2.2.2.2.2.2.1.getD (p.1:Int).toNat (0:Int)))) p_1.2.2.2.2.1).getD []).getD (p_5:Int).toNat Cod.noG) p_1.2.2.2.2.2 then false=e.proper book else (zFit ((p_5:Int)+1))∧∃ (p':Nat),(zCoG0_8 p p' p_1)∧((getK (Cod.key ((p_1.2.2.2.2.2.2.1.set (p.1:Int).toNat (p_1.2.2.2.2.2.2.1.getD ((p.1:Int)-1).toNat (0:Int))).set ((p.1:Int)-1).toNat (p_1.2.2.2.2.2.2.1.getD (p.1:Int).toNat (0:Int)))) p_1.2.2.2.2.1).getD []).length-p'<((getK (Cod.key ((p_1.2.2.2.2.2.2.1.set (p.1:Int).toNat (p_1.2.2.2.2.2.2.1.getD ((p.1:Int)-1).toNat (0:Int))).set ((p.1:Int)-1).toNat (p_1.2.2.2.2.2.2.1.getD (p.1:Int).toNat (0:Int)))) p_1.2.2.2.2.1).getD []).length-p_5∧((p_5:Int)+1=(p':Int)∧zE (Cod.key ((p_1.2.2.2.2.2.2.1.set (p.1:Int).toNat (p_1.2.2.2.2.2.2.1.getD ((p.1:Int)-1).toNat (0:Int))).set ((p.1:Int)-1).toNat (p_1.2.2.2.2.2.2.1.getD (p.1:Int).toNat (0:Int))))∧True∧zE (↑((getK (Cod.key ((p_1.2.2.2.2.2.2.1.set (p.1:Int).toNat (p_1.2.2.2.2.2.2.1.getD ((p.1:Int)-1).toNat (0:Int))).set ((p.1:Int)-1).toNat (p_1.2.2.2.2.2.2.1.getD (p.1:Int).toNat (0:Int)))) p_1.2.2.2.2.1).getD []).length:Int)∧True)∧(q31 e p_1)∧True∧True∧(q4f p_1 p_2)∧(qk7 book p p_1)∧True∧True∧zE p_1.2.2.2.2.1∧True∧(zT4)∧True else (zFit ((p.1:Int)+1))∧∃ (p':Nat×q0b×q03×q05),(qcd e p' p_1)∧p_1.2.2.2.2.2.2.1.length-p'.1<p_1.2.2.2.2.2.2.1.length-p.1∧((p.1:Int)+1=(p'.1:Int)∧True∧True∧True∧True∧zE p_1.2.2.2.2.2.2.1∧zE (p_1.2.2.2.2.2.2.1.length:Int)∧True)∧(q31 e p_1)∧True∧True∧(p_2=p'.2.1∧zE p_1.2.2.1∧zE p_1.2.2.2.1∧True)∧(q6q book p_1)∧True∧True∧zE p_1.2.2.2.2.1∧True∧(zT4)∧True else False else False else ∃ (p':Nat×q0b×q03×q0s×q05×Cod.Giv),(p'.1=(p_1.1:Int).toNat∧p'.1<Q0 book∧p'.2.2.2.2.2=Q7 book p'.1 Cod.noG∧q1o e p'.2.1∧q3w (Q4 p'.1 book) p'.2.2.1∧q4b (Q4 p'.1 book) p'.2.2.2.1∧q41 e (Q4 p'.1 book) p'.2.2.2.2.1∧e.shelf [] (Q4 (p'.1+(1:Nat)) book)=true)∧(True∧(p_1.1:Int)=(p'.1:Int)∧True∧True∧True∧zE book∧zE (↑(Q0 book):Int)∧True)∧((p_1.2.2.2.2.2.1=p'.2.2.2.2.2.1∧p_1.2.2.2.2.2.2.1=p'.2.2.2.2.2.2.1∧p_1.2.2.2.2.2.2.2.1=p'.2.2.2.2.2.2.2.1∧p_1.2.2.2.2.2.2.2.2.1=p'.2.2.2.2.2.2.2.2.1∧p_1.2.2.2.2.2.2.2.2.2=p'.2.2.2.2.2.2.2.2.2∧True)∧(zE e.lang∧zE e.ws∧True)∧(zE e.lang∧zE e.ws∧True∧zE e.c∧True)∧(zT4)∧(zE e.lang∧zE e.ws∧True)∧(zE p_1.2.2.2.2.2.1∧zE p_1.2.2.2.2.2.2.1∧zE p_1.2.2.2.2.2.2.2.1∧zE p_1.2.2.2.2.2.2.2.2.1∧zE p_1.2.2.2.2.2.2.2.2.2∧True)∧True)∧True∧True∧(p.2.1=p'.2.1∧p_1.2.2.1=p'.2.2.1∧p_1.2.2.2.1=p'.2.2.2.1∧True)∧True∧True∧True∧p_1.2.2.2.2.1=p'.2.2.2.2.1∧True)∧∀ (p_2:Nat×q0b×q03×q0s×q05×Cod.Giv),p_2.1=(p_1.1:Int).toNat∧p_2.1<Q0 book∧p_2.2.2.2.2.2=Q7 book p_2.1 Cod.noG∧q1o e p_2.2.1∧q3w (Q4 p_2.1 book) p_2.2.2.1∧q4b (Q4 p_2.1 book) p_2.2.2.2.1∧q41 e (Q4 p_2.1 book) p_2.2.2.2.2.1∧e.shelf [] (Q4 (p_2.1+(1:Nat)) book)=true→True∧(∃ (p':Nat×q0b×q03×q05),(q9v e p' p_2)∧((0:Int)=(p'.1:Int)∧True∧True∧True∧True∧zE p_2.2.2.2.2.2.2.1∧zE (p_2.2.2.2.2.2.2.1.length:Int)∧True)∧(q33 e p_2)∧True∧True∧([]=p'.2.2.1∧p_2.2.1=p'.2.1∧zE (putK (Cod.key p_2.2.2.2.2.2.2.1) true p_2.2.2.1)∧Mp.put (λ(x x_1:List UInt8)=>x==x_1) p_2.2.2.2.2.2.1 true p_2.2.2.2.1=Mp.put (λ(x x_1:List UInt8)=>x==x_1) p_2.2.2.2.2.2.1 true p_2.2.2.2.1∧True)∧(q3l book p_2)∧True∧True∧p_2.2.2.2.2.1=p'.2.2.2∧True∧(zT4)∧True)∧∀ (p_3:Nat×q0b×q03×q05),p_3.1≤p_2.2.2.2.2.2.2.1.length∧q1o e p_3.2.1∧q27 [] p_2.2.2.2.2.1 p_2.2.2.2.2.2 (e.q1a p_2.2.2.2.2.2.2.1 p_3.1 (0:Nat)) p_3.2.2.1 p_3.2.2.2→bif decide ((p_3.1:Int)<(p_2.2.2.2.2.2.2.1.length:Int)) then (0≤(p_3.1:Int)∧(p_3.1:Int)<(p_2.2.2.2.2.2.2.1.length:Int))∧(bif !(Mp.get (λ(x x_1:Int)=>x==x_1) (p_2.2.2.2.2.2.2.1.getD (p_3.1:Int).toNat (0:Int)) p_3.2.1).isSome then ((0:Int)≤p_2.2.2.2.2.2.2.1.getD (p_3.1:Int).toNat (0:Int)∧p_2.2.2.2.2.2.2.1.getD (p_3.1:Int).toNat 0<(e.ws.length:Int))∧(q0w (e.lang,e.ws)∧q0n e.c∧(e.ws.getD (p_2.2.2.2.2.2.2.1.getD (p_3.1:Int).toNat (0:Int)).toNat []).length≤(1000000:Nat))∧∃ (p':q0b),q1o e p'∧((Snd.q19 e.lang e.ws e.c (e.ws.getD (p_2.2.2.2.2.2.2.1.getD (p_3.1:Int).toNat (0:Int)).toNat [])).1=e.near (p_2.2.2.2.2.2.2.1.getD (p_3.1:Int).toNat (0:Int))∧True)∧(q33 e p_2)∧True∧True∧(zE p_3.2.2.1∧Mp.put (λ(x x_1:Int)=>x==x_1) (p_2.2.2.2.2.2.2.1.getD (p_3.1:Int).toNat (0:Int)) (Snd.q19 e.lang e.ws e.c (e.ws.getD (p_2.2.2.2.2.2.2.1.getD (p_3.1:Int).toNat (0:Int)).toNat [])).1 p_3.2.1=p'∧zE (putK (Cod.key p_2.2.2.2.2.2.2.1) true p_2.2.2.1)∧Mp.put (λ(x x_1:List UInt8)=>x==x_1) p_2.2.2.2.2.2.1 true p_2.2.2.2.1=Mp.put (λ(x x_1:List UInt8)=>x==x_1) p_2.2.2.2.2.2.1 true p_2.2.2.2.1∧True)∧(qjh book p_2 p_3)∧True∧True∧zE p_3.2.2.2∧True∧(zT4)∧True else ∃ (p':q0b),q1o e p'∧((Mp.get (λ(x x_1:Int)=>x==x_1) (p_2.2.2.2.2.2.2.1.getD (p_3.1:Int).toNat (0:Int)) p_3.2.1).getD []=e.near (p_2.2.2.2.2.2.2.1.getD (p_3.1:Int).toNat (0:Int))∧True)∧(q33 e p_2)∧True∧True∧(zE p_3.2.2.1∧p_3.2.1=p'∧zE (putK (Cod.key p_2.2.2.2.2.2.2.1) true p_2.2.2.1)∧Mp.put (λ(x x_1:List UInt8)=>x==x_1) p_2.2.2.2.2.2.1 true p_2.2.2.2.1=Mp.put (λ(x x_1:List UInt8)=>x==x_1) p_2.2.2.2.2.2.1 true p_2.2.2.2.1∧True)∧(qjh book p_2 p_3)∧True∧True∧zE p_3.2.2.2∧True∧(zT4)∧True)∧∀ (p:q0b),q1o e p→(∃ (p':Nat×q03×q05),(qbl e p' p_2 p_3)∧((0:Int)=(p'.1:Int)∧True∧True∧True∧True∧zE (p_3.1:Int)∧zE (p_2.2.2.2.2.2.2.1.getD (p_3.1:Int).toNat (0:Int))∧zE p_2.2.2.2.2.2.2.1∧zE (p_2.2.2.2.2.2.2.1.length:Int)∧zE (p_3.1:Int)∧zE (e.near (p_2.2.2.2.2.2.2.1.getD (p_3.1:Int).toNat (0:Int)))∧zE (↑(e.near (p_2.2.2.2.2.2.2.1.getD (p_3.1:Int).toNat (0:Int))).length:Int)∧True)∧(q33 e p_2)∧True∧True∧(p_3.2.2.1=p'.2.1∧p=p∧zE (putK (Cod.key p_2.2.2.2.2.2.2.1) true p_2.2.2.1)∧Mp.put (λ(x x_1:List UInt8)=>x==x_1) p_2.2.2.2.2.2.1 true p_2.2.2.2.1=Mp.put (λ(x x_1:List UInt8)=>x==x_1) p_2.2.2.2.2.2.1 true p_2.2.2.2.1∧True)∧(q3l book p_2)∧True∧True∧p_3.2.2.2=p'.2.2∧True∧(zT4)∧True)∧∀ (p_4:Nat×q03×q05),p_4.1≤(e.near (p_2.2.2.2.2.2.2.1.getD (p_3.1:Int).toNat (0:Int))).length∧q27 p_3.2.2.1 p_3.2.2.2 p_2.2.2.2.2.2 (q3n e p_2.2.2.2.2.2.2.1 (p_3.1:Int).toNat p_4.1) p_4.2.1 p_4.2.2→bif decide ((p_4.1:Int)<(↑(e.near (p_2.2.2.2.2.2.2.1.getD (p_3.1:Int).toNat (0:Int))).length:Int)) then (0≤(p_4.1:Int)∧(p_4.1:Int)<(↑(e.near (p_2.2.2.2.2.2.2.1.getD (p_3.1:Int).toNat (0:Int))).length:Int))∧bif (e.near (p_2.2.2.2.2.2.2.1.getD (p_3.1:Int).toNat (0:Int))).getD (p_4.1:Int).toNat (0:Int) != p_2.2.2.2.2.2.2.1.getD (p_3.1:Int).toNat (0:Int) then p_2.2.2.2.2.2.2.1.length≤(1000000:Nat)∧(0≤(p_3.1:Int)∧(p_3.1:Int)<(p_2.2.2.2.2.2.2.1.length:Int))∧bif (p_3.1:Int).toNat.beq (p_3.1:Int).toNat then True∧bif !(getK (Cod.key (p_2.2.2.2.2.2.2.1.set (p_3.1:Int).toNat ((e.near (p_2.2.2.2.2.2.2.1.getD (p_3.1:Int).toNat (0:Int))).getD (p_4.1:Int).toNat (0:Int)))) p_4.2.1).getD false then ((((getK (Cod.key (p_2.2.2.2.2.2.2.1.set (p_3.1:Int).toNat ((e.near (p_2.2.2.2.2.2.2.1.getD (p_3.1:Int).toNat (0:Int))).getD (p_4.1:Int).toNat (0:Int)))) (putK (Cod.key (p_2.2.2.2.2.2.2.1.set (p_3.1:Int).toNat ((e.near (p_2.2.2.2.2.2.2.1.getD (p_3.1:Int).toNat (0:Int))).getD (p_4.1:Int).toNat (0:Int)))) ((getK (Cod.key (p_2.2.2.2.2.2.2.1.set (p_3.1:Int).toNat ((e.near (p_2.2.2.2.2.2.2.1.getD (p_3.1:Int).toNat (0:Int))).getD (p_4.1:Int).toNat (0:Int)))) p_4.2.2).getD []) p_4.2.2)).getD []).length+[p_2.2.2.2.2.2].length)*(64:Nat)≤(140737488355328:Nat)∧zE (Cod.key (p_2.2.2.2.2.2.2.1.set (p_3.1:Int).toNat ((e.near (p_2.2.2.2.2.2.2.1.getD (p_3.1:Int).toNat (0:Int))).getD (p_4.1:Int).toNat (0:Int))))∧(zFit ((p_4.1:Int)+1))∧∃ (p':Nat×q03×q05),(qbl e p' p_2 p_3)∧(e.near (p_2.2.2.2.2.2.2.1.getD (p_3.1:Int).toNat (0:Int))).length-p'.1<(e.near (p_2.2.2.2.2.2.2.1.getD (p_3.1:Int).toNat (0:Int))).length-p_4.1∧(qdt e p' p_2 p_3 p_4)∧(q33 e p_2)∧True∧True∧(qj9 e p p' p_2 p_3 p_4)∧(q3l book p_2)∧True∧True∧putK (Cod.key (p_2.2.2.2.2.2.2.1.set (p_3.1:Int).toNat ((e.near (p_2.2.2.2.2.2.2.1.getD (p_3.1:Int).toNat (0:Int))).getD (p_4.1:Int).toNat (0:Int)))) ((getK (Cod.key (p_2.2.2.2.2.2.2.1.set (p_3.1:Int).toNat ((e.near (p_2.2.2.2.2.2.2.1.getD (p_3.1:Int).toNat (0:Int))).getD (p_4.1:Int).toNat (0:Int)))) (putK (Cod.key (p_2.2.2.2.2.2.2.1.set (p_3.1:Int).toNat ((e.near (p_2.2.2.2.2.2.2.1.getD (p_3.1:Int).toNat (0:Int))).getD (p_4.1:Int).toNat (0:Int)))) ((getK (Cod.key (p_2.2.2.2.2.2.2.1.set (p_3.1:Int).toNat ((e.near (p_2.2.2.2.2.2.2.1.getD (p_3.1:Int).toNat (0:Int))).getD (p_4.1:Int).toNat (0:Int)))) p_4.2.2).getD []) p_4.2.2)).getD []++[p_2.2.2.2.2.2]) (putK (Cod.key (p_2.2.2.2.2.2.2.1.set (p_3.1:Int).toNat ((e.near (p_2.2.2.2.2.2.2.1.getD (p_3.1:Int).toNat (0:Int))).getD (p_4.1:Int).toNat (0:Int)))) ((getK (Cod.key (p_2.2.2.2.2.2.2.1.set (p_3.1:Int).toNat ((e.near (p_2.2.2.2.2.2.2.1.getD (p_3.1:Int).toNat (0:Int))).getD (p_4.1:Int).toNat (0:Int)))) p_4.2.2).getD []) p_4.2.2)=p'.2.2∧True∧(zT4)∧True)∧(((getK (Cod.key (p_2.2.2.2.2.2.2.1.set (p_3.1:Int).toNat ((e.near (p_2.2.2.2.2.2.2.1.getD (p_3.1:Int).toNat (0:Int))).getD (p_4.1:Int).toNat (0:Int)))) (putK (Cod.key (p_2.2.2.2.2.2.2.1.set (p_3.1:Int).toNat ((e.near (p_2.2.2.2.2.2.2.1.getD (p_3.1:Int).toNat (0:Int))).getD (p_4.1:Int).toNat (0:Int)))) ((getK (Cod.key (p_2.2.2.2.2.2.2.1.set (p_3.1:Int).toNat ((e.near (p_2.2.2.2.2.2.2.1.getD (p_3.1:Int).toNat (0:Int))).getD (p_4.1:Int).toNat (0:Int)))) p_4.2.2).getD []) p_4.2.2)).getD []).length+[p_2.2.2.2.2.2].length)*(64:Nat)≤(140737488355328:Nat)∧zE (Cod.key (p_2.2.2.2.2.2.2.1.set (p_3.1:Int).toNat ((e.near (p_2.2.2.2.2.2.2.1.getD (p_3.1:Int).toNat (0:Int))).getD (p_4.1:Int).toNat (0:Int))))∧(zFit ((p_4.1:Int)+1))∧∃ (p':Nat×q03×q05),(qbl e p' p_2 p_3)∧(e.near (p_2.2.2.2.2.2.2.1.getD (p_3.1:Int).toNat (0:Int))).length-p'.1<(e.near (p_2.2.2.2.2.2.2.1.getD (p_3.1:Int).toNat (0:Int))).length-p_4.1∧(qdt e p' p_2 p_3 p_4)∧(q33 e p_2)∧True∧True∧(qj9 e p p' p_2 p_3 p_4)∧(q3l book p_2)∧True∧True∧putK (Cod.key (p_2.2.2.2.2.2.2.1.set (p_3.1:Int).toNat ((e.near (p_2.2.2.2.2.2.2.1.getD (p_3.1:Int).toNat (0:Int))).getD (p_4.1:Int).toNat (0:Int)))) ((getK (Cod.key (p_2.2.2.2.2.2.2.1.set (p_3.1:Int).toNat ((e.near (p_2.2.2.2.2.2.2.1.getD (p_3.1:Int).toNat (0:Int))).getD (p_4.1:Int).toNat (0:Int)))) (putK (Cod.key (p_2.2.2.2.2.2.2.1.set (p_3.1:Int).toNat ((e.near (p_2.2.2.2.2.2.2.1.getD (p_3.1:Int).toNat (0:Int))).getD (p_4.1:Int).toNat (0:Int)))) ((getK (Cod.key (p_2.2.2.2.2.2.2.1.set (p_3.1:Int).toNat ((e.near (p_2.2.2.2.2.2.2.1.getD (p_3.1:Int).toNat (0:Int))).getD (p_4.1:Int).toNat (0:Int)))) p_4.2.2).getD []) p_4.2.2)).getD []++[p_2.2.2.2.2.2]) (putK (Cod.key (p_2.2.2.2.2.2.2.1.set (p_3.1:Int).toNat ((e.near (p_2.2.2.2.2.2.2.1.getD (p_3.1:Int).toNat (0:Int))).getD (p_4.1:Int).toNat (0:Int)))) ((getK (Cod.key (p_2.2.2.2.2.2.2.1.set (p_3.1:Int).toNat ((e.near (p_2.2.2.2.2.2.2.1.getD (p_3.1:Int).toNat (0:Int))).getD (p_4.1:Int).toNat (0:Int)))) p_4.2.2).getD []) p_4.2.2)=p'.2.2∧True∧(zT4)∧True else (zFit ((p_4.1:Int)+1))∧∃ (p':Nat×q03×q05),(qbl e p' p_2 p_3)∧(e.near (p_2.2.2.2.2.2.2.1.getD (p_3.1:Int).toNat (0:Int))).length-p'.1<(e.near (p_2.2.2.2.2.2.2.1.getD (p_3.1:Int).toNat (0:Int))).length-p_4.1∧(qdt e p' p_2 p_3 p_4)∧(q33 e p_2)∧True∧True∧(p_4.2.1=p'.2.1∧p=p∧zE (putK (Cod.key p_2.2.2.2.2.2.2.1) true p_2.2.2.1)∧Mp.put (λ(x x_1:List UInt8)=>x==x_1) p_2.2.2.2.2.2.1 true p_2.2.2.2.1=Mp.put (λ(x x_1:List UInt8)=>x==x_1) p_2.2.2.2.2.2.1 true p_2.2.2.2.1∧True)∧(q3l book p_2)∧True∧True∧p_4.2.2=p'.2.2∧True∧(zT4)∧True else False else (zFit ((p_4.1:Int)+1))∧∃ (p':Nat×q03×q05),(qbl e p' p_2 p_3)∧(e.near (p_2.2.2.2.2.2.2.1.getD (p_3.1:Int).toNat (0:Int))).length-p'.1<(e.near (p_2.2.2.2.2.2.2.1.getD (p_3.1:Int).toNat (0:Int))).length-p_4.1∧(qdt e p' p_2 p_3 p_4)∧(q33 e p_2)∧True∧True∧(p_4.2.1=p'.2.1∧p=p∧zE (putK (Cod.key p_2.2.2.2.2.2.2.1) true p_2.2.2.1)∧Mp.put (λ(x x_1:List UInt8)=>x==x_1) p_2.2.2.2.2.2.1 true p_2.2.2.2.1=Mp.put (λ(x x_1:List UInt8)=>x==x_1) p_2.2.2.2.2.2.1 true p_2.2.2.2.1∧True)∧(q3l book p_2)∧True∧True∧p_4.2.2=p'.2.2∧True∧(zT4)∧True else (p_2.2.2.2.2.2.2.1.length≤(1000000:Nat)∧(zFit ((p_3.1:Int)+1))∧(zE ((p_3.1:Int)+1)∧0≤(p_3.1:Int)∧(p_3.1:Int)<(p_2.2.2.2.2.2.2.1.length:Int))∧True∧bif !(getK (Cod.key (p_2.2.2.2.2.2.2.1.eraseIdx (p_3.1:Int).toNat)) p_4.2.1).getD false then ((((getK (Cod.key (p_2.2.2.2.2.2.2.1.eraseIdx (p_3.1:Int).toNat)) (putK (Cod.key (p_2.2.2.2.2.2.2.1.eraseIdx (p_3.1:Int).toNat)) ((getK (Cod.key (p_2.2.2.2.2.2.2.1.eraseIdx (p_3.1:Int).toNat)) p_4.2.2).getD []) p_4.2.2)).getD []).length+[p_2.2.2.2.2.2].length)*(64:Nat)≤(140737488355328:Nat)∧zE (Cod.key (p_2.2.2.2.2.2.2.1.eraseIdx (p_3.1:Int).toNat))∧∃ (p':q03×q05),q27 p_4.2.1 p_4.2.2 p_2.2.2.2.2.2 [p_2.2.2.2.2.2.2.1.eraseIdx (p_3.1:Int).toNat] p'.1 p'.2∧(qf4 p_2 p_3)∧(q33 e p_2)∧True∧True∧(putK (Cod.key (p_2.2.2.2.2.2.2.1.eraseIdx (p_3.1:Int).toNat)) true p_4.2.1=p'.1∧p=p∧zE (putK (Cod.key p_2.2.2.2.2.2.2.1) true p_2.2.2.1)∧Mp.put (λ(x x_1:List UInt8)=>x==x_1) p_2.2.2.2.2.2.1 true p_2.2.2.2.1=Mp.put (λ(x x_1:List UInt8)=>x==x_1) p_2.2.2.2.2.2.1 true p_2.2.2.2.1∧True)∧(q3l book p_2)∧True∧True∧putK (Cod.key (p_2.2.2.2.2.2.2.1.eraseIdx (p_3.1:Int).toNat)) ((getK (Cod.key (p_2.2.2.2.2.2.2.1.eraseIdx (p_3.1:Int).toNat)) (putK (Cod.key (p_2.2.2.2.2.2.2.1.eraseIdx (p_3.1:Int).toNat)) ((getK (Cod.key (p_2.2.2.2.2.2.2.1.eraseIdx (p_3.1:Int).toNat)) p_4.2.2).getD []) p_4.2.2)).getD []++[p_2.2.2.2.2.2]) (putK (Cod.key (p_2.2.2.2.2.2.2.1.eraseIdx (p_3.1:Int).toNat)) ((getK (Cod.key (p_2.2.2.2.2.2.2.1.eraseIdx (p_3.1:Int).toNat)) p_4.2.2).getD []) p_4.2.2)=p'.2∧True∧(zT4)∧True)∧(((getK (Cod.key (p_2.2.2.2.2.2.2.1.eraseIdx (p_3.1:Int).toNat)) (putK (Cod.key (p_2.2.2.2.2.2.2.1.eraseIdx (p_3.1:Int).toNat)) ((getK (Cod.key (p_2.2.2.2.2.2.2.1.eraseIdx (p_3.1:Int).toNat)) p_4.2.2).getD []) p_4.2.2)).getD []).length+[p_2.2.2.2.2.2].length)*(64:Nat)≤(140737488355328:Nat)∧zE (Cod.key (p_2.2.2.2.2.2.2.1.eraseIdx (p_3.1:Int).toNat))∧∃ (p':q03×q05),q27 p_4.2.1 p_4.2.2 p_2.2.2.2.2.2 [p_2.2.2.2.2.2.2.1.eraseIdx (p_3.1:Int).toNat] p'.1 p'.2∧(qf4 p_2 p_3)∧(q33 e p_2)∧True∧True∧(putK (Cod.key (p_2.2.2.2.2.2.2.1.eraseIdx (p_3.1:Int).toNat)) true p_4.2.1=p'.1∧p=p∧zE (putK (Cod.key p_2.2.2.2.2.2.2.1) true p_2.2.2.1)∧Mp.put (λ(x x_1:List UInt8)=>x==x_1) p_2.2.2.2.2.2.1 true p_2.2.2.2.1=Mp.put (λ(x x_1:List UInt8)=>x==x_1) p_2.2.2.2.2.2.1 true p_2.2.2.2.1∧True)∧(q3l book p_2)∧True∧True∧putK (Cod.key (p_2.2.2.2.2.2.2.1.eraseIdx (p_3.1:Int).toNat)) ((getK (Cod.key (p_2.2.2.2.2.2.2.1.eraseIdx (p_3.1:Int).toNat)) (putK (Cod.key (p_2.2.2.2.2.2.2.1.eraseIdx (p_3.1:Int).toNat)) ((getK (Cod.key (p_2.2.2.2.2.2.2.1.eraseIdx (p_3.1:Int).toNat)) p_4.2.2).getD []) p_4.2.2)).getD []++[p_2.2.2.2.2.2]) (putK (Cod.key (p_2.2.2.2.2.2.2.1.eraseIdx (p_3.1:Int).toNat)) ((getK (Cod.key (p_2.2.2.2.2.2.2.1.eraseIdx (p_3.1:Int).toNat)) p_4.2.2).getD []) p_4.2.2)=p'.2∧True∧(zT4)∧True else ∃ (p':q03×q05),q27 p_4.2.1 p_4.2.2 p_2.2.2.2.2.2 [p_2.2.2.2.2.2.2.1.eraseIdx (p_3.1:Int).toNat] p'.1 p'.2∧(qf4 p_2 p_3)∧(q33 e p_2)∧True∧True∧(p_4.2.1=p'.1∧p=p∧zE (putK (Cod.key p_2.2.2.2.2.2.2.1) true p_2.2.2.1)∧Mp.put (λ(x x_1:List UInt8)=>x==x_1) p_2.2.2.2.2.2.1 true p_2.2.2.2.1=Mp.put (λ(x x_1:List UInt8)=>x==x_1) p_2.2.2.2.2.2.1 true p_2.2.2.2.1∧True)∧(q3l book p_2)∧True∧True∧p_4.2.2=p'.2∧True∧(zT4)∧True)∧∀ (p_5:q03×q05),q27 p_4.2.1 p_4.2.2 p_2.2.2.2.2.2 [p_2.2.2.2.2.2.2.1.eraseIdx (p_3.1:Int).toNat] p_5.1 p_5.2→bif (p_3.1:Int)==(0:Int) then (zFit ((p_3.1:Int)+1))∧∃ (p':Nat×q0b×q03×q05),(q9v e p' p_2)∧p_2.2.2.2.2.2.2.1.length-p'.1<p_2.2.2.2.2.2.2.1.length-p_3.1∧(q9n p' p_2 p_3)∧(q33 e p_2)∧True∧True∧(qeq p p' p_2 p_5)∧(q3l book p_2)∧True∧True∧p_5.2=p'.2.2.2∧True∧(zT4)∧True else (zFit ((p_3.1:Int)-1))∧(0≤(p_3.1:Int)-1∧(p_3.1:Int)-1<(p_2.2.2.2.2.2.2.1.length:Int))∧bif p_2.2.2.2.2.2.2.1.getD ((p_3.1:Int)-1).toNat (0:Int)==p_2.2.2.2.2.2.2.1.getD (p_3.1:Int).toNat (0:Int) then (zFit ((p_3.1:Int)+1))∧∃ (p':Nat×q0b×q03×q05),(q9v e p' p_2)∧p_2.2.2.2.2.2.2.1.length-p'.1<p_2.2.2.2.2.2.2.1.length-p_3.1∧(q9n p' p_2 p_3)∧(q33 e p_2)∧True∧True∧(qeq p p' p_2 p_5)∧(q3l book p_2)∧True∧True∧p_5.2=p'.2.2.2∧True∧(zT4)∧True else (zFit ((p_3.1:Int)-1))∧(0≤(p_3.1:Int)-1∧(p_3.1:Int)-1<(p_2.2.2.2.2.2.2.1.length:Int))∧p_2.2.2.2.2.2.2.1.length≤(1000000:Nat)∧(0≤(p_3.1:Int)∧(p_3.1:Int)<(p_2.2.2.2.2.2.2.1.length:Int))∧bif (p_3.1:Int).toNat.beq (p_3.1:Int).toNat then (zFit ((p_3.1:Int)-1))∧(0≤(p_3.1:Int)-1∧(p_3.1:Int)-1<(↑(p_2.2.2.2.2.2.2.1.set (p_3.1:Int).toNat (p_2.2.2.2.2.2.2.1.getD ((p_3.1:Int)-1).toNat (0:Int))).length:Int))∧bif ((p_3.1:Int)-1).toNat.beq ((p_3.1:Int)-1).toNat then True∧bif !(getK (Cod.key ((p_2.2.2.2.2.2.2.1.set (p_3.1:Int).toNat (p_2.2.2.2.2.2.2.1.getD ((p_3.1:Int)-1).toNat (0:Int))).set ((p_3.1:Int)-1).toNat (p_2.2.2.2.2.2.2.1.getD (p_3.1:Int).toNat (0:Int)))) p_5.1).getD false then ((((getK (Cod.key ((p_2.2.2.2.2.2.2.1.set (p_3.1:Int).toNat (p_2.2.2.2.2.2.2.1.getD ((p_3.1:Int)-1).toNat (0:Int))).set ((p_3.1:Int)-1).toNat (p_2.2.2.2.2.2.2.1.getD (p_3.1:Int).toNat (0:Int)))) (putK (Cod.key ((p_2.2.2.2.2.2.2.1.set (p_3.1:Int).toNat (p_2.2.2.2.2.2.2.1.getD ((p_3.1:Int)-1).toNat (0:Int))).set ((p_3.1:Int)-1).toNat (p_2.2.2.2.2.2.2.1.getD (p_3.1:Int).toNat (0:Int)))) ((getK (Cod.key ((p_2.2.2.2.2.2.2.1.set (p_3.1:Int).toNat (p_2.2.2.2.2.2.2.1.getD ((p_3.1:Int)-1).toNat (0:Int))).set ((p_3.1:Int)-1).toNat (p_2.2.2.2.2.2.2.1.getD (p_3.1:Int).toNat (0:Int)))) p_5.2).getD []) p_5.2)).getD []).length+[p_2.2.2.2.2.2].length)*(64:Nat)≤(140737488355328:Nat)∧zE (Cod.key ((p_2.2.2.2.2.2.2.1.set (p_3.1:Int).toNat (p_2.2.2.2.2.2.2.1.getD ((p_3.1:Int)-1).toNat (0:Int))).set ((p_3.1:Int)-1).toNat (p_2.2.2.2.2.2.2.1.getD (p_3.1:Int).toNat (0:Int))))∧(zFit ((p_3.1:Int)+1))∧∃ (p':Nat×q0b×q03×q05),(q9v e p' p_2)∧p_2.2.2.2.2.2.2.1.length-p'.1<p_2.2.2.2.2.2.2.1.length-p_3.1∧(q9n p' p_2 p_3)∧(q33 e p_2)∧True∧True∧(qjl p p' p_2 p_3 p_5)∧(q3l book p_2)∧True∧True∧putK (Cod.key ((p_2.2.2.2.2.2.2.1.set (p_3.1:Int).toNat (p_2.2.2.2.2.2.2.1.getD ((p_3.1:Int)-1).toNat (0:Int))).set ((p_3.1:Int)-1).toNat (p_2.2.2.2.2.2.2.1.getD (p_3.1:Int).toNat (0:Int)))) ((getK (Cod.key ((p_2.2.2.2.2.2.2.1.set (p_3.1:Int).toNat (p_2.2.2.2.2.2.2.1.getD ((p_3.1:Int)-1).toNat (0:Int))).set ((p_3.1:Int)-1).toNat (p_2.2.2.2.2.2.2.1.getD (p_3.1:Int).toNat (0:Int)))) (putK (Cod.key ((p_2.2.2.2.2.2.2.1.set (p_3.1:Int).toNat (p_2.2.2.2.2.2.2.1.getD ((p_3.1:Int)-1).toNat (0:Int))).set ((p_3.1:Int)-1).toNat (p_2.2.2.2.2.2.2.1.getD (p_3.1:Int).toNat (0:Int)))) ((getK (Cod.key ((p_2.2.2.2.2.2.2.1.set (p_3.1:Int).toNat (p_2.2.2.2.2.2.2.1.getD ((p_3.1:Int)-1).toNat (0:Int))).set ((p_3.1:Int)-1).toNat (p_2.2.2.2.2.2.2.1.getD (p_3.1:Int).toNat (0:Int)))) p_5.2).getD []) p_5.2)).getD []++[p_2.2.2.2.2.2]) (putK (Cod.key ((p_2.2.2.2.2.2.2.1.set (p_3.1:Int).toNat (p_2.2.2.2.2.2.2.1.getD ((p_3.1:Int)-1).toNat (0:Int))).set ((p_3.1:Int)-1).toNat (p_2.2.2.2.2.2.2.1.getD (p_3.1:Int).toNat (0:Int)))) ((getK (Cod.key ((p_2.2.2.2.2.2.2.1.set (p_3.1:Int).toNat (p_2.2.2.2.2.2.2.1.getD ((p_3.1:Int)-1).toNat (0:Int))).set ((p_3.1:Int)-1).toNat (p_2.2.2.2.2.2.2.1.getD (p_3.1:Int).toNat (0:Int)))) p_5.2).getD []) p_5.2)=p'.2.2.2∧True∧(zT4)∧True)∧(((getK (Cod.key ((p_2.2.2.2.2.2.2.1.set (p_3.1:Int).toNat (p_2.2.2.2.2.2.2.1.getD ((p_3.1:Int)-1).toNat (0:Int))).set ((p_3.1:Int)-1).toNat (p_2.2.2.2.2.2.2.1.getD (p_3.1:Int).toNat (0:Int)))) (putK (Cod.key ((p_2.2.2.2.2.2.2.1.set (p_3.1:Int).toNat (p_2.2.2.2.2.2.2.1.getD ((p_3.1:Int)-1).toNat (0:Int))).set ((p_3.1:Int)-1).toNat (p_2.2.2.2.2.2.2.1.getD (p_3.1:Int).toNat (0:Int)))) ((getK (Cod.key ((p_2.2.2.2.2.2.2.1.set (p_3.1:Int).toNat (p_2.2.2.2.2.2.2.1.getD ((p_3.1:Int)-1).toNat (0:Int))).set ((p_3.1:Int)-1).toNat (p_2.2.2.2.2.2.2.1.getD (p_3.1:Int).toNat (0:Int)))) p_5.2).getD []) p_5.2)).getD []).length+[p_2.2.2.2.2.2].length)*(64:Nat)≤(140737488355328:Nat)∧zE (Cod.key ((p_2.2.2.2.2.2.2.1.set (p_3.1:Int).toNat (p_2.2.2.2.2.2.2.1.getD ((p_3.1:Int)-1).toNat (0:Int))).set ((p_3.1:Int)-1).toNat (p_2.2.2.2.2.2.2.1.getD (p_3.1:Int).toNat (0:Int))))∧(zFit ((p_3.1:Int)+1))∧∃ (p':Nat×q0b×q03×q05),(q9v e p' p_2)∧p_2.2.2.2.2.2.2.1.length-p'.1<p_2.2.2.2.2.2.2.1.length-p_3.1∧(q9n p' p_2 p_3)∧(q33 e p_2)∧True∧True∧(qjl p p' p_2 p_3 p_5)∧(q3l book p_2)∧True∧True∧putK (Cod.key ((p_2.2.2.2.2.2.2.1.set (p_3.1:Int).toNat (p_2.2.2.2.2.2.2.1.getD ((p_3.1:Int)-1).toNat (0:Int))).set ((p_3.1:Int)-1).toNat (p_2.2.2.2.2.2.2.1.getD (p_3.1:Int).toNat (0:Int)))) ((getK (Cod.key ((p_2.2.2.2.2.2.2.1.set (p_3.1:Int).toNat (p_2.2.2.2.2.2.2.1.getD ((p_3.1:Int)-1).toNat (0:Int))).set ((p_3.1:Int)-1).toNat (p_2.2.2.2.2.2.2.1.getD (p_3.1:Int).toNat (0:Int)))) (putK (Cod.key ((p_2.2.2.2.2.2.2.1.set (p_3.1:Int).toNat (p_2.2.2.2.2.2.2.1.getD ((p_3.1:Int)-1).toNat (0:Int))).set ((p_3.1:Int)-1).toNat (p_2.2.2.2.2.2.2.1.getD (p_3.1:Int).toNat (0:Int)))) ((getK (Cod.key ((p_2.2.2.2.2.2.2.1.set (p_3.1:Int).toNat (p_2.2.2.2.2.2.2.1.getD ((p_3.1:Int)-1).toNat (0:Int))).set ((p_3.1:Int)-1).toNat (p_2.2.2.2.2.2.2.1.getD (p_3.1:Int).toNat (0:Int)))) p_5.2).getD []) p_5.2)).getD []++[p_2.2.2.2.2.2]) (putK (Cod.key ((p_2.2.2.2.2.2.2.1.set (p_3.1:Int).toNat (p_2.2.2.2.2.2.2.1.getD ((p_3.1:Int)-1).toNat (0:Int))).set ((p_3.1:Int)-1).toNat (p_2.2.2.2.2.2.2.1.getD (p_3.1:Int).toNat (0:Int)))) ((getK (Cod.key ((p_2.2.2.2.2.2.2.1.set (p_3.1:Int).toNat (p_2.2.2.2.2.2.2.1.getD ((p_3.1:Int)-1).toNat (0:Int))).set ((p_3.1:Int)-1).toNat (p_2.2.2.2.2.2.2.1.getD (p_3.1:Int).toNat (0:Int)))) p_5.2).getD []) p_5.2)=p'.2.2.2∧True∧(zT4)∧True else (zFit ((p_3.1:Int)+1))∧∃ (p':Nat×q0b×q03×q05),(q9v e p' p_2)∧p_2.2.2.2.2.2.2.1.length-p'.1<p_2.2.2.2.2.2.2.1.length-p_3.1∧(q9n p' p_2 p_3)∧(q33 e p_2)∧True∧True∧(qeq p p' p_2 p_5)∧(q3l book p_2)∧True∧True∧p_5.2=p'.2.2.2∧True∧(zT4)∧True else False else False else (zFit ((p_2.1:Int)+1))∧∃ (p':Nat×q0b×q03×q0s×q05),(p'.1≤Q0 book∧q1o e p'.2.1∧q3w (Q4 p'.1 book) p'.2.2.1∧q4b (Q4 p'.1 book) p'.2.2.2.1∧q41 e (Q4 p'.1 book) p'.2.2.2.2∧e.shelf [] (Q4 p'.1 book)=true)∧Q0 book-p'.1<Q0 book-p.1∧((p_2.1:Int)+1=(p'.1:Int)∧True∧True∧True∧zE book∧zE (↑(Q0 book):Int)∧True)∧((zE e.lang∧zE e.ws∧True)∧(zE e.lang∧zE e.ws∧True∧zE e.c∧True)∧(zT4)∧(zE e.lang∧zE e.ws∧True)∧True)∧True∧True∧(p_3.2.1=p'.2.1∧putK (Cod.key p_2.2.2.2.2.2.2.1) true p_2.2.2.1=p'.2.2.1∧Mp.put (λ(x x_1:List UInt8)=>x==x_1) p_2.2.2.2.2.2.1 true p_2.2.2.2.1=p'.2.2.2.1∧True)∧True∧True∧True∧p_3.2.2.2=p'.2.2.2.2∧True else true=e.proper book:=by
 delta q31 q33 q4a q3l qdt q6q q9v qbl zCoG0_8 zCoG0_9 qjb q9n q7s qk7 qjj qeq q7o qf4 qcd qjl qjp qjh qk3 q4f qfd qj9 qk6 zFit zE zT4 zT5
 obtain ⟨hW,hC,hB1,hB2⟩:=h;have hW:q0w (e.lang,e.ws):=hW;have hC:q0n e.c:=hC;have hB1:book.length≤1000000:=hB1;simp only [true_and,and_true,eq_self,and_self,Nat.beq_refl,Bool.and_self,Qe,cond_true,Int.toNat_natCast,forall_const,exists_const,true_implies];have pr:e.proper book=(e.ok&&(decide ((book.length:Int)≤20000)&&e.shelf [] book)):=rfl;have ok:e.ok=(Snd.q0k e.lang e.ws&&Snd.q0j e.c):=rfl;refine ⟨?_,?_⟩
 ·clear pr
  generalize Snd.q0k e.lang e.ws=v at *
  generalize Snd.q0j e.c=q at *
  cases v <;> cases q <;> simp [hW,hC]
 rw [← ok];refine bifP (λhok=>?_) λhok=>bifP (λh2=>?_) λh2=>?_
 ·rw [pr,show e.ok=false from (by cases hh:e.ok <;> simp_all),Qf]
 ·rw [pr,decide_eq_false (by have:=of_decide_eq_true h2;omega),Qf,Qg]
 have hok:e.ok=true:=by
  cases hh:e.ok
  ·rw [hh] at hok;cases hok
  ·rfl
 have hlen:book.length≤20000:=by have:=of_decide_eq_false h2;omega
 have pr:e.proper book=e.shelf [] book:=by rw [pr,hok,decide_eq_true (by omega)];simp
 rw [pr];refine ⟨⟨(0,[],[],[],[]),⟨Q8 _,nearOk_nil e,codes_nil,doors_nil,mist_nil e,rfl⟩,by and_intros <;> rfl⟩,?_⟩
 rintro ⟨i,nr,cm,dm,mm⟩ ⟨hi,hn,hc,hd,hm,hs⟩;dsimp only at *
 refine bifP (λhil=>?_) λhil=>?_
 rotate_left
 ·rw [← Qa (l:=book) (i:=i) (by have:=of_decide_eq_false hil;omega)]
  exact hs.symm
 have hil:i<book.length:=by have:=of_decide_eq_true hil;omega
 refine ⟨⟨⟨by omega,by omega⟩,⟨(i,nr,cm,dm,mm,book.getD i Cod.noG),⟨rfl,hil,rfl,hn,hc,hd,hm,hs⟩,by and_intros <;> rfl⟩⟩,?_⟩
 rintro ⟨i,nr,cm,dm,mm,g⟩ ⟨hii,hil,hg,hn,hc,hd,hm,hs⟩;dsimp only at *
 obtain ⟨hg1,hg2⟩:g.1.length≤1000∧g.2.1.length≤1000000:=hB2 g (by rw [hg];exact Snd.q1p book _ i hil)
 have no:e.fits (book.take i) g=false→false=e.shelf [] book:=λh=>(shelf_no hil (by rw [hg] at h;exact h)).symm
 have fitsE:e.fits (book.take i) g=(Lx.q18 g.1&&(!((getS g.1 dm).getD false)&&(Cod.q2r g&&(Cod.q1l e.lang e.ws g.2.1&&e.takes (book.take i) g)))):=by
  rw [hd g.1];rfl
 refine ⟨⟨hg1,bifP (λhnm=>no ?_) λhnm=>bifP (λhdo=>no ?_) λhdo=>bifP (λhpl=>no ?_) λhpl=>⟨⟨hW,hg2⟩,bifP (λhcd=>no ?_) λhcd=>?_⟩⟩,?_⟩
 ·rw [fitsE,not_t hnm];rfl
 ·rw [fitsE,show (getS g.1 dm).getD false=true from hdo];simp
 ·rw [fitsE,not_t hpl];simp
 ·rw [fitsE,not_t hcd];simp
 ·have hcd:=qbc hcd
  obtain ⟨⟨hg3,hg5⟩,hin⟩:=qbk hcd;have takesE:e.takes (book.take i) g=qbq e cm mm g:=takes_eq hc hm (shelf_len hs) hg5;rw [takesE] at fitsE;have hmm:∀ k,((getK k mm).getD []).length≤1000000:=λk=>by
   have:=mist_le hm k
   rw [Qj] at this;omega
  refine bifP (λhk1=>no ?_) λhk1=>bifP (λhk2=>no ?_) λhk2=>?_
  ·rw [fitsE];unfold qbq;rw [hk1];simp
  ·have hk2:=of_decide_eq_true hk2
   rw [fitsE];unfold qbq;rw [show (((getK (Cod.key g.2.1) mm).getD []).length==0)=false from beq_eq_false_iff_ne.2 (by omega)];simp
  have hk2:(((getK (Cod.key g.2.1) mm).getD []).length==0)=true:=beq_iff_eq.2 (by have:=of_decide_eq_false hk2;omega)
  have noX:∀ x∈e.miss g.2.1,q3q cm mm g x=false→false=e.shelf [] book:=λx hx hgx=>by
   apply no
   rw [fitsE];unfold qbq;rw [show (e.miss g.2.1).all (q3q cm mm g)=false from List.all_eq_false.2 ⟨x,hx,by rw [hgx];decide⟩];simp
  refine ⟨⟨(0,nr,cm,mm),⟨Q8 _,hn,rfl⟩,by and_intros <;> rfl⟩,?_⟩
  rintro ⟨k,nr,_,_⟩ ⟨hkl,hn,hgood⟩;dsimp only at *
  refine bifP (λhkl=>?_) λhkl=>?_
  rotate_left
  ·have hkl:=of_decide_eq_false hkl
   refine ⟨(i,nr,cm,dm,mm,g),⟨rfl,hil,hg,hn,hc,hd,hm,?_⟩,by and_intros <;> rfl⟩
   rw [qej hil,hs,← Cod.noG,← hg,fitsE];unfold qbq;have hkk:k=g.2.1.length:=by omega
   rw [qbc hnm,show (getS g.1 dm).getD false=false from hdo,qbc hpl,hcd,hk1,hk2,show e.miss g.2.1=e.q1a g.2.1 k 0 by rw [hkk];rfl,hgood];rfl
  have hkl:k<g.2.1.length:=by have:=of_decide_eq_true hkl;omega
  obtain ⟨hw0,hw1⟩:=hin k hkl;refine ⟨⟨by omega,by omega⟩,qkb hn hW hC hw0 hw1,?_⟩
  intro nr hn;have hnl:(e.near (g.2.1.getD k 0)).length≤1000000:=Nat.le_trans (qef e _) hW.2.1;have next:(e.q40 g.2.1 k).all (q3q cm mm g)=true→(e.q1a g.2.1 (k+1) 0).all (q3q cm mm g)=true:=λh=>by
   rw [qar,Qc,hgood,h];rfl
  refine ⟨⟨(0,cm,mm),⟨Q8 _,rfl⟩,by and_intros <;> rfl⟩,?_⟩
  rintro ⟨q,_,_⟩ ⟨hql,hpart⟩;dsimp only at *
  refine bifP (λhq=>?_) λhq=>?_
  ·have hq:q<(e.near (g.2.1.getD k 0)).length:=by have:=of_decide_eq_true hq;omega
   refine ⟨⟨by omega,by omega⟩,bifP (λhne=>?_) λhne=>?_⟩
   ·refine ⟨by omega,⟨by omega,by omega⟩,?_⟩
    refine qju (hmm _) (noX _ (near_all hq hkl hne)) λhgx=>?_
    refine ⟨⟨by omega,by omega⟩,(q+1,cm,mm),⟨by omega,?_⟩,by omega,by and_intros <;> omega⟩
    rw [qaa hq,if_pos hne,Qc,hpart,Q9,hgx];rfl
   ·refine ⟨⟨by omega,by omega⟩,(q+1,cm,mm),⟨by omega,?_⟩,by omega,by and_intros <;> omega⟩
    rw [qaa hq,if_neg (by rw [hne];decide),Ql,hpart]
  have hq:=of_decide_eq_false hq;have full:=qhe (e:=e) (code:=g.2.1) (i:=k) (k:=q) (by omega)
  simp only [show ((k:Int)-1).toNat=k-1 by omega]
  refine ⟨⟨by omega,⟨by omega,by omega⟩,⟨by omega,by omega⟩,qju (hmm _) (noX _ (erase_mem hkl)) λh=>h⟩,λhge=>?_⟩
  refine bifP (λh0=>⟨⟨by omega,by omega⟩,(k+1,nr,cm,mm),⟨by omega,hn,next ?_⟩,by omega,by and_intros <;> first | rfl | omega⟩) λh0=>?_
  ·have h0:k=0:=by have:=beq_iff_eq.1 h0;omega
   rw [full,Qc,hpart,Q9,hge,if_pos (.inl h0)];rfl
  have h0:k≠0:=by have:=beq_eq_false_iff_ne.1 h0;omega
  refine ⟨⟨by omega,by omega⟩,⟨by omega,by omega⟩,bifP (λh1=>⟨⟨by omega,by omega⟩,(k+1,nr,cm,mm),⟨by omega,hn,next ?_⟩,by omega,by and_intros <;> first | rfl | omega⟩) λh1=>?_⟩
  ·rw [full,Qc,hpart,Q9,hge,if_pos (.inr (beq_iff_eq.1 h1))];rfl
  have h1:g.2.1.getD (k-1) 0≠g.2.1.getD k 0:=beq_eq_false_iff_ne.1 h1;refine ⟨⟨by omega,by omega⟩,⟨by omega,by omega⟩,by omega,⟨by omega,by omega⟩,⟨by omega,by omega⟩,⟨by omega,by rw [Qm];omega⟩,?_⟩
  refine qju (x:=Cod.swapAt g.2.1 k) (hmm _) (noX _ (swap_mem hkl h0 h1)) λhgx=>⟨⟨by omega,by omega⟩,(k+1,nr,cm,mm),⟨by omega,hn,next ?_⟩,by omega,by and_intros <;> first | rfl | omega⟩
  rw [full,Qc,hpart,Q9,hge,if_neg (λh=>h.elim h0 h1),Q9,hgx];rfl
 rintro ⟨i,nr,cm,dm,mm,g⟩ ⟨hii,hil,hg,hn,hc,hd,hm,hs⟩;dsimp only at *
 have hfit:e.fits (book.take i) g=true:=by
  have:=hs
  rw [qej hil,Qh] at this;rw [hg];exact this.2
 have hcd:Cod.q1l e.lang e.ws g.2.1=true:=by
  have:=(Cod.fits_iff.1 hfit).1
  unfold Cod.okG at this;simp only [Qh] at this;exact this.2.2
 obtain ⟨⟨hg3,hg5⟩,hin⟩:=qbk hcd;have hdone:(book.take i).length≤20000:=by rw [Qj];omega
 refine ⟨⟨(0,nr,[],mm),⟨Q8 _,hn,qkw [] mm g⟩,by and_intros <;> rfl⟩,?_⟩
 rintro ⟨k,nr,s,m⟩ ⟨hkl,hn,hrel⟩;dsimp only at *
 refine bifP (λhkl=>?_) λhkl=>?_
 rotate_left
 ·have hkl:=of_decide_eq_false hkl
  have tk:book.take (i+1)=book.take i++[g]:=by rw [hg];exact Snd.q0q book Cod.noG i hil
  refine ⟨⟨by omega,by omega⟩,(i+1,nr,putK (Cod.key g.2.1) true cm,Mp.put (λx x_1=>x==x_1) g.1 true dm,m),⟨by omega,hn,?_,?_,?_,hs⟩,by omega,by and_intros <;> first | rfl | omega⟩
  ·rw [tk];exact codes_put hc g
  ·rw [tk];exact doors_put hd g
  ·rw [tk]
   have hkk:k=g.2.1.length:=by omega
   rw [hkk] at hrel;exact mist_put hm hrel
 have hkl:k<g.2.1.length:=by have:=of_decide_eq_true hkl;omega
 obtain ⟨hw0,hw1⟩:=hin k hkl;refine ⟨⟨by omega,by omega⟩,qkb hn hW hC hw0 hw1,?_⟩
 intro nr hn;have hnl:(e.near (g.2.1.getD k 0)).length≤1000000:=Nat.le_trans (qef e _) hW.2.1;have next:∀ {s' m'},q27 s m g (e.q40 g.2.1 k) s' m'→q27 [] mm g (e.q1a g.2.1 (k+1) 0) s' m':=λh=>by
  rw [qar];exact q39 hrel h
 refine ⟨⟨(0,s,m),⟨Q8 _,qkw s m g⟩,by and_intros <;> rfl⟩,?_⟩
 rintro ⟨q,s1,m1⟩ ⟨hql,hpart⟩;dsimp only at *
 have room:∀ k,(((getK k (putK k ((getK k m1).getD []) m1)).getD []).length+[g].length)*64≤140737488355328:=put_room hm hdone (q39 hrel hpart);refine bifP (λhq=>?_) λhq=>?_
 ·have hq:q<(e.near (g.2.1.getD k 0)).length:=by have:=of_decide_eq_true hq;omega
  refine ⟨⟨by omega,by omega⟩,bifP (λhne=>?_) λhne=>?_⟩
  ·refine ⟨by omega,⟨by omega,by omega⟩,bifP (λhx=>?_) λhx=>?_⟩
   ·refine ⟨room _,⟨by omega,by omega⟩,(q+1,_,_),⟨by omega,?_⟩,by omega,by and_intros <;> first | rfl | omega⟩
    rw [qaa hq,if_pos hne];exact q39 hpart (qd8 (not_t hx))
   ·refine ⟨⟨by omega,by omega⟩,(q+1,s1,m1),⟨by omega,?_⟩,by omega,by and_intros <;> first | rfl | omega⟩
    rw [qaa hq,if_pos hne];exact q39 hpart (qd1 (qbc hx))
  ·refine ⟨⟨by omega,by omega⟩,(q+1,s1,m1),⟨by omega,?_⟩,by omega,by and_intros <;> first | rfl | omega⟩
   rw [qaa hq,if_neg (by rw [hne];decide),Ql];exact hpart
 have hq:=of_decide_eq_false hq;have full:=qhe (e:=e) (code:=g.2.1) (i:=k) (k:=q) (by omega)
 simp only [show ((k:Int)-1).toNat=k-1 by omega]
 refine ⟨⟨by omega,⟨by omega,by omega⟩,⟨by omega,by omega⟩,bifP (λhx=>⟨room _,(_,_),qd8 (not_t hx),by and_intros <;> rfl⟩) λhx=>⟨(s1,m1),qd1 (qbc hx),by and_intros <;> rfl⟩⟩,?_⟩
 rintro ⟨s2,m2⟩ hr2;dsimp only at *
 have room2:∀ k,(((getK k (putK k ((getK k m2).getD []) m2)).getD []).length+[g].length)*64≤140737488355328:=put_room hm hdone (q39 (q39 hrel hpart) hr2);have fin1:(k=0∨g.2.1.getD (k-1) 0=g.2.1.getD k 0)→q27 s m g (e.q40 g.2.1 k) s2 m2:=λh=>by
  rw [full,if_pos h];exact q39 hpart hr2
 refine bifP (λh0=>⟨⟨by omega,by omega⟩,(k+1,nr,s2,m2),⟨by omega,hn,next (fin1 (.inl (by have:=beq_iff_eq.1 h0;omega)))⟩,by omega,by and_intros <;> first | rfl | omega⟩) λh0=>?_
 have h0:k≠0:=by have:=beq_eq_false_iff_ne.1 h0;omega
 refine ⟨⟨by omega,by omega⟩,⟨by omega,by omega⟩,bifP (λh1=>⟨⟨by omega,by omega⟩,(k+1,nr,s2,m2),⟨by omega,hn,next (fin1 (.inr (beq_iff_eq.1 h1)))⟩,by omega,by and_intros <;> first | rfl | omega⟩) λh1=>?_⟩
 have h1:g.2.1.getD (k-1) 0≠g.2.1.getD k 0:=beq_eq_false_iff_ne.1 h1;have fin2:∀ {s' m'},q27 s2 m2 g [Cod.swapAt g.2.1 k] s' m'→q27 s m g (e.q40 g.2.1 k) s' m':=λh=>by
  rw [full,if_neg (λh=>h.elim h0 h1)];exact q39 hpart (q39 (xs:=[g.2.1.eraseIdx k]) (ys:=[Cod.swapAt g.2.1 k]) hr2 h)
 refine ⟨⟨by omega,by omega⟩,⟨by omega,by omega⟩,by omega,⟨by omega,by omega⟩,⟨by omega,by omega⟩,⟨by omega,by rw [Qm];omega⟩,bifP (λhx=>?_) λhx=>?_⟩
 ·exact ⟨room2 _,⟨by omega,by omega⟩,(k+1,nr,_,_),⟨by omega,hn,next (fin2 (qd8 (x:=Cod.swapAt g.2.1 k) (not_t hx)))⟩,by omega,by and_intros <;> first | rfl | omega⟩
 ·exact ⟨⟨by omega,by omega⟩,(k+1,nr,s2,m2),⟨by omega,hn,next (fin2 (qd1 (x:=Cod.swapAt g.2.1 k) (qbc hx)))⟩,by omega,by and_intros <;> first | rfl | omega⟩
theorem kitCo_ok:kitCo.Ok Tryz.prog where
 cons:=all_cons name_holds (all_cons placed_holds (all_cons cvalid_holds (all_cons (show cKey.lent.Holds Tryz.prog from key_holds) (all_cons qd3 (all_cons proper_holds (all_cons near_holds (all_cons nearG_holds all_nil)))))))
 ns:=all_cons clone_holds all_nil
 os:=all_cons delete_holds all_nil
 fcs:=all_nil
 rcs:=all_nil
 inls:=q0i.more Tryz.func40 (by kernel_rfl) (by kernel_rfl) (q0i.more Tryz.func49 (by kernel_rfl) (by kernel_rfl) (q0i.more Tryz.func54 (by kernel_rfl) (by kernel_rfl) (q0i.more Tryz.func101 (by kernel_rfl) (by kernel_rfl)
  (q0i.more Tryz.func42 (by kernel_rfl) (by kernel_rfl) (q0i.more Tryz.func89 (by kernel_rfl) (by kernel_rfl) (q0i.more Tryz.func90 (by kernel_rfl) (by kernel_rfl) (q0i.more Tryz.func92 (by kernel_rfl) (by kernel_rfl)
  (q0i.more Tryz.func104 (by kernel_rfl) (by kernel_rfl) (q0i.more Tryz.func52 (by kernel_rfl) (by kernel_rfl) (q0i.more Tryz.func84 (by kernel_rfl) (by kernel_rfl) q0i.nil))))))))))
set_option maxRecDepth 100000000 in
theorem qfu:qek.Holds Tryz.prog:=by
 refine holdsX (T:=kitCo) (λp=>anCo upP (frT 14000) (frP 14000) ⟨p.1.1,p.1.2,p.2.1⟩ p.2.2) Tryz.func23 (by kernel_rfl) (by kernel_rfl) mixed (by kernel_rfl) kitCo_ok (λ_=>[]) λp hp=>?_
 obtain ⟨⟨lang,ws⟩,c,book⟩:=p;refine cast ?_ (proper_vc ⟨lang,ws,c⟩ book hp)
 kernel_rfl
abbrev kIs:Kds:=.one (.sl (.one (.int .i64)))
abbrev qbg:CK:=.one (.sl kIs)
def cEq:Con:=.of 39 [q44,q44] [q13] (λp=>Q0 p.1≤1000000000000000) (λp=>p.1==p.2)
def anEq (a b:List Int):List (Nat×Ann) :=
 [ann 0 Nat [0,1] (λk=>[(5,R.int .i64 k)]) (λk=>k≤a.length∧a.take k=b.take k) (λk=>a.length-k)]
def cLess:Con:=.of 127 [q44,q44] [q13] (λp=>Q0 p.1≤1000000000000000) (λp=>Cod.q3h p.1 p.2)
def anLess (a b:List Int):List (Nat×Ann) :=
 [ann 0 Nat [0,1] (λk=>[(5,R.int .i64 k)]) (λk=>k≤a.length∧k≤b.length∧a.take k=b.take k) (λk=>a.length-k)]
def q6c (l:WlP) (c:CfP) (book:q0e) (most:Int):Bool:=q7c l&&(q6u c&&(decide (l.2.length≤8)&&(decide (c.length≤10)&&(decide ((book.length:Int)≤most)&&book.all λg=>decide (g.2.1.length≤8)&&decide (g.1.length≤60)))))
def cFew41:Con:=.of 26 [ckWl,ckCf,q43,q7h] [q13] (λp=>p.2.2.2≤1000) (λp=>q6c p.1 p.2.1 p.2.2.1 p.2.2.2)
def anFew41 (book:q0e):List (Nat×Ann) :=
 [ann 0 Nat [2] (λk=>[(9,R.int .i64 k)]) (λk=>k≤book.length∧(book.take k).all (λg=>decide (g.2.1.length≤8)&&decide (g.1.length≤60))=true) (λk=>book.length-k)]
theorem qkv (x y:List Int):∀ p:List Int,Cod.cmpL (p++x) (p++y)=Cod.cmpL x y
 | []=>rfl
 | a::p=>by rw [Qk,Qk,Cod.cmpL,if_neg (Int.lt_irrefl a),if_neg (Int.lt_irrefl a),qkv x y p]
theorem cmp_take {a b:List Int} {k:Nat} (h:a.take k=b.take k):Cod.cmpL a b=Cod.cmpL (a.drop k) (b.drop k):=by
 conv=>lhs;rw [← Qi k a,← Qi k b,h]
 exact qkv _ _ _
theorem qcu (a:List Int) {k:Nat} (h:k<a.length):a.drop k=a.getD k 0::a.drop (k+1):=by
 rw [List.drop_eq_getElem_cons h,List.getD_eq_getElem?_getD,List.getElem?_eq_getElem h];rfl
set_option maxRecDepth 100000 in
theorem eq_vc (a b:List Int) (h:cEq.pre (a,b)) :
    bif (a.length:Int) != (b.length:Int) then false=(a==b) else (∃ (p':Nat),(p'≤a.length∧Q4 p' a=Q4 p' b)∧((0:Int)=(p':Int)∧a=a∧b=b∧True) ∧
    True∧True∧True∧True∧True∧True∧True∧True∧True)∧∀ (p:Nat),p≤a.length∧Q4 p a=Q4 p b→bif decide ((p:Int)<(a.length:Int)) then ((0:Int)≤(↑p
    : Int)∧(p:Int)<(a.length:Int))∧((0:Int)≤(p:Int)∧(p:Int)<(b.length:Int))∧bif a.getD (p:Int).toNat (0:Int) != b.getD (p:Int).toNat (0:Int) then false =
    (a==b) else ((-9223372036854775808:Int)≤(p:Int)+(1:Int)∧(p:Int)+(1:Int)≤(9223372036854775807:Int))∧∃ (p':Nat),(p'≤a.length∧Q4 p' a=Q4 p' b)
    ∧ a.length-p'<a.length-p∧((p:Int)+(1:Int)=(p':Int)∧a=a∧b=b∧True)∧True∧True∧True∧True∧True∧True∧True∧True∧True else true=(a==b)
     := by
  have h:a.length≤1000000000000000:=h;simp only [true_and,and_true,eq_self];refine bifP (λhb=>?_) λhb=>?_
  · have hl:a.length≠b.length:=by have:=bne_iff_ne.1 hb;omega
    symm
    rw [beq_eq_false_iff_ne];intro e;exact hl (by rw [e])
  have hl:a.length=b.length:=by have:=bne_eq_false_iff_eq.1 hb;omega
  refine ⟨⟨0,⟨Q8 _,rfl⟩,rfl⟩,?_⟩;rintro p ⟨hp,ht⟩;have hti:((p:Int).toNat)=p:=rfl;simp only [hti];refine bifP (λhb=>?_) λhb=>?_
  · have hlt:p<a.length:=by have:=of_decide_eq_true hb;omega
    refine ⟨⟨by omega,by omega⟩,⟨by omega,by omega⟩,bifP (λhb=>?_) λh1=>⟨⟨by omega,by omega⟩,p+1,⟨by omega,?_⟩,by omega,by omega⟩⟩
    · symm
      rw [beq_eq_false_iff_ne];intro e;rw [e] at hb;exact (bne_iff_ne.1 hb) rfl
    · rw [Snd.q0q a 0 p hlt,Snd.q0q b 0 p (by omega),ht,bne_eq_false_iff_eq.1 h1]
  · have hle:a.length≤p:=by have:=of_decide_eq_false hb;omega
    rw [Qa hle,Qa (by omega)] at ht
    rw [ht,beq_self_eq_true]
set_option maxRecDepth 100000 in
theorem less_vc (a b:List Int) (h:cLess.pre (a,b)) :
    (∃ (p':Nat),(p'≤a.length∧p'≤b.length∧Q4 p' a=Q4 p' b)∧((0:Int)=(p':Int)∧a=a∧b=b∧True)∧True∧True∧True∧True∧True∧True∧True∧True ∧
    True)∧∀ (p:Nat),p≤a.length∧p≤b.length∧Q4 p a=Q4 p b→bif decide ((p:Int)<(a.length:Int)) then bif decide ((p:Int)<(b.length:Int)) then ((0 :
    Int)≤(p:Int)∧(p:Int)<(a.length:Int))∧((0:Int)≤(p:Int)∧(p:Int)<(b.length:Int))∧bif a.getD (p:Int).toNat (0:Int) != b.getD (p:Int).toNat (0:Int)
    then ((0:Int)≤(p:Int)∧(p:Int)<(a.length:Int))∧((0:Int)≤(p:Int)∧(p:Int)<(b.length:Int))∧decide (a.getD (p:Int).toNat (0:Int)<b.getD (↑p :
    Int).toNat (0:Int))=Cod.q3h a b else ((-9223372036854775808:Int)≤(p:Int)+(1:Int)∧(p:Int)+(1:Int)≤(9223372036854775807:Int))∧∃ (p':Nat),(p'≤a.length∧p'
    ≤ b.length∧Q4 p' a=Q4 p' b)∧a.length-p'<a.length-p∧((p:Int)+(1:Int)=(p':Int)∧a=a∧b=b∧True)∧True∧True∧True∧True∧True∧True∧True
    ∧ True∧True else decide ((a.length:Int)<(b.length:Int))=Cod.q3h a b else decide ((a.length:Int)<(b.length:Int))=Cod.q3h a b
     := by
  have h:a.length≤1000000000000000:=h;simp only [true_and,and_true,eq_self];refine ⟨⟨0,⟨Q8 _,Q8 _,rfl⟩,rfl⟩,?_⟩;rintro p ⟨hp,hp2,ht⟩;have hti:((p:Int).toNat)=p:=rfl;simp only [hti];have hc:=cmp_take ht;refine bifP (λhb=>bifP (λhb2=>?_) λhb2=>?_) λhb=>?_
  · have hlt:p<a.length:=by have:=of_decide_eq_true hb;omega
    have hlt2:p<b.length:=by have:=of_decide_eq_true hb2;omega
    refine ⟨⟨by omega,by omega⟩,⟨by omega,by omega⟩,bifP (λhne=>⟨⟨by omega,by omega⟩,⟨by omega,by omega⟩,?_⟩) λh1=>⟨⟨by omega,by omega⟩,p+1,⟨by omega,by omega,?_⟩,by omega,by omega⟩⟩
    · have hne:=bne_iff_ne.1 hne
      unfold Cod.q3h;rw [hc,qcu a hlt,qcu b hlt2,Cod.cmpL];by_cases hu:a.getD p 0<b.getD p 0
      · rw [if_pos hu,decide_eq_true hu];rfl
      · rw [if_neg hu,if_pos (by omega),decide_eq_false hu];rfl
    · rw [Snd.q0q a 0 p hlt,Snd.q0q b 0 p hlt2,ht,bne_eq_false_iff_eq.1 h1]
  · have hlt:p<a.length:=by have:=of_decide_eq_true hb;omega
    have hle:b.length≤p:=by have:=of_decide_eq_false hb2;omega
    unfold Cod.q3h;rw [hc,qcu a hlt,Qb hle,Cod.cmpL,decide_eq_false (by omega)];rfl
  · have hle:a.length≤p:=by have:=of_decide_eq_false hb;omega
    unfold Cod.q3h;rw [hc,Qb hle];by_cases hlt2:p<b.length
    · rw [qcu b hlt2,Cod.cmpL,decide_eq_true (by omega)];rfl
    · rw [Qb (by omega),Cod.cmpL,decide_eq_false (by omega)];rfl
set_option maxRecDepth 100000 in
theorem few41_vc (lang:List UInt8) (ws:List (List UInt8)) (c:CfP) (book:q0e) (most:Int) (h:most≤1000) :
    True∧bif !q7c (lang,ws) then false=q6c (lang,ws) c book most else True∧bif !q6u c then false=q6c (lang,ws) c book most else bif decide ((8:Int)<(ws.length:Int))
    then false=q6c (lang,ws) c book most else bif decide ((10:Int)<(↑(Q0 c):Int)) then false=q6c (lang,ws) c book most else bif decide (most<(↑(Q0 book) :
    Int)) then false=q6c (lang,ws) c book most else (∃ (p':Nat),(p'≤Q0 book∧((Q4 p' book).all λ(g:Cod.Giv)=>decide (g.2.1.length≤(8:Nat))&&decide
    (Q0 g.1≤(60:Nat)))=true)∧((0:Int)=(p':Int)∧book=book∧True)∧((lang=lang∧ws=ws∧True)∧True)∧True∧True∧True∧True∧True∧True∧True∧True) ∧
    ∀ (p:Nat),p≤Q0 book∧((Q4 p book).all λ(g:Cod.Giv)=>decide (g.2.1.length≤(8:Nat))&&decide (Q0 g.1≤(60:Nat)))=true→bif decide ((p:Int) <
    (↑(Q0 book):Int)) then ((0:Int)≤(p:Int)∧(p:Int)<(↑(Q0 book):Int))∧bif decide ((8:Int)<(↑(Q7 book (p:Int).toNat ([],[],false,(0:Int),
    (0:Int))).2.1.length:Int)) then false=q6c (lang,ws) c book most else ((0:Int)≤(p:Int)∧(p:Int)<(↑(Q0 book):Int))∧bif decide ((60:Int)<(↑(Q7 book
    (p:Int).toNat ([],[],false,(0:Int),(0:Int))).1.length:Int)) then false=q6c (lang,ws) c book most else ((-9223372036854775808:Int)≤(p:Int)+(1:Int)∧(p:Int) +
    (1:Int)≤(9223372036854775807:Int))∧∃ (p':Nat),(p'≤Q0 book∧((Q4 p' book).all λ(g:Cod.Giv)=>decide (g.2.1.length≤(8:Nat))&&decide (Q0 g.1 ≤
    (60:Nat)))=true)∧Q0 book-p'<Q0 book-p∧((p:Int)+(1:Int)=(p':Int)∧book=book∧True)∧((lang=lang∧ws=ws∧True)∧True)∧True∧True ∧
    True∧True∧True∧True∧True∧True else true=q6c (lang,ws) c book most
     := by
  simp only [true_and,and_true,eq_self];have e:q6c (lang,ws) c book most=(q7c (lang,ws)&&(q6u c&&(decide (ws.length≤8)&&(decide (Q0 c≤10)&&(decide ((Q0 book:Int)≤most)&&book.all λg=>decide (g.2.1.length≤8)&&decide (g.1.length≤60)))))):=rfl
  rw [e];refine bifP (λh1=>?_) λh1=>bifP (λh2=>?_) λh2=>bifP (λh3=>?_) λh3=>bifP (λh4=>?_) λh4=>bifP (λh5=>?_) λh5=>?_
  · rw [not_t h1];rfl
  · rw [not_t h2];simp
  · rw [decide_eq_false (p:=ws.length≤8) (by have:=of_decide_eq_true h3;omega)];simp
  · rw [decide_eq_false (p:=Q0 c≤10) (by have:=of_decide_eq_true h4;omega)];simp
  · rw [decide_eq_false (p:=(Q0 book:Int)≤most) (by have:=of_decide_eq_true h5;omega)];simp
  have h5:=of_decide_eq_false h5;rw [qbc h1,qbc h2,decide_eq_true (p:=ws.length≤8) (by have:=of_decide_eq_false h3;omega),decide_eq_true (p:=Q0 c≤10) (by have:=of_decide_eq_false h4;omega),decide_eq_true (p:=(Q0 book:Int)≤most) (by omega)]
  simp only [Qe];refine ⟨⟨0,⟨Q8 _,rfl⟩,rfl⟩,?_⟩;rintro p ⟨hp,ht⟩;have hti:((p:Int).toNat)=p:=rfl;simp only [hti];refine bifP (λhb=>?_) λhb=>?_
  · have hlt:p<book.length:=by have:=of_decide_eq_true hb;omega
    refine ⟨⟨by omega,by omega⟩,bifP (λh8=>?_) λh8=>⟨⟨by omega,by omega⟩,bifP (λh60=>?_) λh60=>⟨⟨by omega,by omega⟩,p+1,⟨by omega,?_⟩,by omega,by omega⟩⟩⟩
    · rw [Snd.q61 book ([],[],false,0,0) _ p hlt]
      rw [decide_eq_false (by have:=of_decide_eq_true h8;omega)];rfl
    · rw [Snd.q61 book ([],[],false,0,0) _ p hlt]
      rw [decide_eq_false (p:=Q0 (Q7 book p ([],[],false,0,0)).1≤60) (by have:=of_decide_eq_true h60;omega),Qg]
    · rw [Snd.q3k book ([],[],false,0,0) _ p hlt,ht,Qe,Qh,decide_eq_true_eq,decide_eq_true_eq]
      exact ⟨by have:=of_decide_eq_false h8;omega,by have:=of_decide_eq_false h60;omega⟩
  · have hle:book.length≤p:=by have:=of_decide_eq_false hb;omega
    rw [← ht,Qa hle]
set_option maxRecDepth 100000 in
theorem qk1:cEq.Holds Tryz.prog:=by
 refine q0o (cons:=[]) Tryz.func39 (by kernel_rfl) (by kernel_rfl) mixed (by kernel_rfl) all_nil (λp=>anEq p.1 p.2) λp hp=>?_
 obtain ⟨a,b⟩:=p;refine cast ?_ (eq_vc a b hp)
 kernel_rfl
set_option maxRecDepth 100000 in
theorem less_holds:cLess.Holds Tryz.prog:=by
 refine q0o (cons:=[]) Tryz.func127 (by kernel_rfl) (by kernel_rfl) mixed (by kernel_rfl) all_nil (λp=>anLess p.1 p.2) λp hp=>?_
 obtain ⟨a,b⟩:=p;refine cast ?_ (less_vc a b hp)
 kernel_rfl
set_option maxRecDepth 100000 in
theorem few41_holds:cFew41.Holds Tryz.prog:=by
 refine q0o (cons:=[cFewW,cFewC]) Tryz.func26 (by kernel_rfl) (by kernel_rfl) mixed (by kernel_rfl) (all_cons fewW_holds (all_cons fewC_holds all_nil)) (λp=>anFew41 p.2.2.1) λp hp=>?_
 obtain ⟨⟨lang,ws⟩,c,book,most⟩:=p;refine cast ?_ (few41_vc lang ws c book most hp)
 kernel_rfl
def q3s (xs:List (List Int)):Prop:=xs.length≤1000000000∧∀ x∈xs,x.length≤1000000
end Go.Proofs.YtlfaaoalgcbcoaaGreatDoor
namespace Go.Proofs.YtlfaaoalgcbcoaaGreatDoor
open Go.RowKit
attribute [local go_sem] q2b q1m q1w
theorem letter_nat (c:UInt8):Lx.q1b c=((decide ((97:Int)≤c.toNat)&&decide ((c.toNat:Int)≤122))||(decide ((65:Int)≤c.toNat)&&decide ((c.toNat:Int)≤90))):=by
 have h:=Lx.q4n (λc=>Lx.q1b c==((decide ((97:Int)≤c.toNat)&&decide ((c.toNat:Int)≤122))||(decide ((65:Int)≤c.toNat)&&decide ((c.toNat:Int)≤90)))) (by decide +kernel) c
 rwa [beq_iff_eq] at h
theorem digit_nat (c:UInt8):Lx.isDigit c=(decide ((48:Int)≤c.toNat)&&decide ((c.toNat:Int)≤57)):=by
 have h:=Lx.q4n (λc=>Lx.isDigit c==(decide ((48:Int)≤c.toNat)&&decide ((c.toNat:Int)≤57))) (by decide +kernel) c
 rwa [beq_iff_eq] at h
theorem word_nat (c:UInt8):Lx.isWord c=(Lx.q1b c||(Lx.isDigit c||((c.toNat:Int)==95))):=by
 have h:=Lx.q4n (λc=>Lx.isWord c==(Lx.q1b c||(Lx.isDigit c||((c.toNat:Int)==95)))) (by decide +kernel) c
 rwa [beq_iff_eq] at h
theorem qa2 (c:UInt8) (w:World):Calls Tryz.prog 107 #[.int .u8 c.toNat] w λe w'=>e=.returned (.bool (Lx.q1b c))∧w'=w:=by
 rw [letter_nat];generalize (c.toNat:Int)=x;by_cases h1:(97:Int)≤x <;> by_cases h2:x≤122 <;> by_cases h3:(65:Int)≤x <;> by_cases h4:x≤90 <;> first | (exfalso;omega) | skip
 all_goals
  simp only [h1,h2,h3,h4,decide_true,decide_false,Bool.and_true,Qg,Bool.or_true,Bool.or_false,Qe,Qf]
  go_enter Tryz.func107,Tryz.ntmps107
  go_wp2
  go_ret
  exact ⟨rfl,rfl⟩
theorem ql0 (c:UInt8) (w:World):Calls Tryz.prog 133 #[.int .u8 c.toNat] w λe w'=>e=.returned (.bool (Lx.isDigit c))∧w'=w:=by
 rw [digit_nat];generalize (c.toNat:Int)=x;by_cases h1:(48:Int)≤x <;> by_cases h2:x≤57 <;> first | (exfalso;omega) | skip
 all_goals
  simp only [h1,h2,decide_true,decide_false,Bool.and_true,Qg,Qe,Qf]
  go_enter Tryz.func133,Tryz.ntmps133
  go_wp2
  go_ret
  exact ⟨rfl,rfl⟩
theorem rword_any (c:UInt8) (w:World):Calls Tryz.prog 106 #[.int .u8 c.toNat] w λe w'=>e=.returned (.bool (Lx.isWord c))∧w'=w:=by
 rw [word_nat];cases hl:Lx.q1b c
 ·cases hd:Lx.isDigit c
  ·rcases Bool.eq_false_or_eq_true ((c.toNat:Int)==95) with h5 | h5
   all_goals
    rw [h5]
    go_enter Tryz.func106,Tryz.ntmps106
    go_wp2_with fail
    refine (qa2 c _).mono ?_;rintro e w' ⟨rfl,rfl⟩;rw [hl]
    go_wp2_with fail
    refine (ql0 c _).mono ?_;rintro e w' ⟨rfl,rfl⟩;rw [hd]
    go_wp2
    go_ret
    exact ⟨rfl,rfl⟩
  ·go_enter Tryz.func106,Tryz.ntmps106
   go_wp2_with fail
   refine (qa2 c _).mono ?_;rintro e w' ⟨rfl,rfl⟩;rw [hl]
   go_wp2_with fail
   refine (ql0 c _).mono ?_;rintro e w' ⟨rfl,rfl⟩;rw [hd]
   go_wp2
   go_ret
   exact ⟨rfl,rfl⟩
 ·go_enter Tryz.func106,Tryz.ntmps106
  go_wp2_with fail
  refine (qa2 c _).mono ?_;rintro e w' ⟨rfl,rfl⟩;rw [hl]
  go_wp2
  go_ret
  exact ⟨rfl,rfl⟩
end Go.Proofs.YtlfaaoalgcbcoaaGreatDoor
namespace Go.Proofs.YtlfaaoalgcbcoaaGreatDoor
open Go.RowKit
attribute [local go_sem] q2b q1m q1w Later.cell Later.frozen wrap64_nat wrap64_add wrap64_succ
set_option maxRecDepth 100000 in
set_option maxHeartbeats 1000000 in
theorem rname_any (s:ByteArray) (w:World) (hs:s.size≤9223372036854775807):Calls Tryz.prog 56 #[.string s] w λe w'=>e=.returned (.bool (Lx.q18 s.data.toList))∧w'=w:=by
 go_enter Tryz.func56,Tryz.ntmps56
 go_wp2
 go_loop [3] (λi=>∃ k:Nat,k≤s.size∧i=.int .i64 k∧s.data.toList.all Lx.isWord=(s.data.toList.drop k).all Lx.isWord) (λi=>s.size-(intOf i).toNat)
 case atStart=>exact ⟨0,by omega,rfl,rfl⟩
 case round =>
  obtain ⟨k,hk,rfl,hc⟩:=hrel;have HC:=Qd hc;clear hc;by_cases hlt:k<s.size
  ·have hd:=q3a s k hlt
   have HD:=Qd hd;clear hd;have hb:s[k].toNat<256:=Qn s[k]
   go_wp2_with fail
   refine (rword_any s[k] _).mono ?_;rintro e w' ⟨rfl,rfl⟩;cases hwd:Lx.isWord s[k]
   ·have HWD:=Qd hwd
    clear hwd
    go_wp2
    go_ret
    refine ⟨?_,rfl⟩;refine q3c ?_;unfold Lx.q18;rw [HC.out,HD.out,Q9,HWD.out];rfl
   ·have HWD:=Qd hwd
    clear hwd
    go_wp2
    go_round
    case rel =>
     refine ⟨k+1,by omega,by go_num,?_⟩
     rw [HC.out,HD.out,Q9,HWD.out];rfl
    case measure=>simp [intOf];omega
  ·have hd:s.data.toList.drop k=[]:=Qb (by rw [← q0p];omega)
   have hall:s.data.toList.all Lx.isWord=true:=by rw [HC.out,hd];rfl
   have HA:=Qd hall;have HSL:=Qd (q0p s);clear hd hall HC;by_cases h0:0<s.size
   ·by_cases h24:s.size≤24
    ·have hdg:=q3a s 0 h0
     rw [List.drop_zero] at hdg;have HD:=Qd hdg;clear hdg;have hb:s[0].toNat<256:=Qn s[0]
     go_wp2_with fail
     refine (qa2 s[0] _).mono ?_;rintro e w' ⟨rfl,rfl⟩;have hfin:Lx.q18 s.data.toList=Lx.q1b s[0]:=by
      have h1:decide (0<s.data.toList.length)=true:=by rw [decide_eq_true_eq,← HSL.out];exact h0
      have h2:decide (s.data.toList.length≤24)=true:=by rw [decide_eq_true_eq,← HSL.out];exact h24
      unfold Lx.q18;rw [HA.out,h1,h2,HD.out];rfl
     have HF:=Qd hfin;clear hfin
     go_wp2
     go_ret
     exact ⟨q3c HF.out.symm,rfl⟩
    ·have hfin:Lx.q18 s.data.toList=false:=by
      have h2:decide (s.data.toList.length≤24)=false:=by rw [decide_eq_false_iff_not,← HSL.out];exact h24
      unfold Lx.q18;rw [HA.out,h2];simp
     have HF:=Qd hfin;clear hfin
     go_wp2
     go_ret
     exact ⟨q3c HF.out.symm,rfl⟩
   ·have hfin:Lx.q18 s.data.toList=false:=by
     have h1:decide (0<s.data.toList.length)=false:=by rw [decide_eq_false_iff_not,← HSL.out];exact h0
     unfold Lx.q18;rw [HA.out,h1];simp
    have HF:=Qd hfin;clear hfin
    go_wp2
    go_ret
    exact ⟨q3c HF.out.symm,rfl⟩
end Go.Proofs.YtlfaaoalgcbcoaaGreatDoor
namespace Go.Proofs.YtlfaaoalgcbcoaaGreatDoor
open Go.RowKit R
abbrev q6h:CK:=.one .str
abbrev ckIntR:CK:=.one (.int .i64)
def cNameR:Con:=.of 56 [q6h] [.one .bool] (λs=>Q0 s≤1000000) Lx.q18
theorem qii:cNameR.Holds Tryz.prog:=qlc Tryz.func56 (by kernel_rfl) (by kernel_rfl) λs w h=>(rname_any (bs s) w (by rw [qe5];omega)).mono λe w' ⟨he,hw⟩=>⟨he,hw▸q06 w⟩
def cRLet:Con:=.of 95 [q6h,ckIntR,ckIntR] [.one .bool] (λp=>Q0 p.1≤1000000) (λp=>Snd.q0a p.1 p.2.1 p.2.2)
def anRLet (s:List UInt8):List (Nat×Ann):=[ann 0 Nat [0,1,2] (λk=>[(7,R.int .i64 k)]) (λk=>k≤s.length∧(s.take k).all Snd.letB=true) (λk=>s.length-k)]
def qe9:Con:=.of 64 [ckWl] [.one .bool] q0w (λp=>Snd.q0k p.1 p.2)
def anRValid (ws:List (List UInt8)):List (Nat×Ann) :=
 [ann 0 Nat [1] (λk=>[(3,R.int .i64 k)]) (λk=>k≤ws.length∧(ws.take k).all (λs=>Snd.q0a s 3 8)=true∧Snd.rising (ws.take k)=true) (λk=>ws.length-k)]
def qcj:Con:=.of 46 [ckCf] [.one .bool] q0n Snd.q0j
def anRProper (c:CfP):List (Nat×Ann) :=
  [ann 0 Nat [0] (λk=>[(3,R.int .i64 k)]) (λk=>k≤c.length∧(c.take k).all Snd.okC=true∧Snd.fresh (c.take k)=true) (λk=>c.length-k),
   annS 2 Nat [0,3] (λk=>[(4,R.int .i64 k)]) (λ_=>[]) (λst k=>k≤(st.intOf 3).toNat∧(c.take k).any (Snd.same (c.getD (st.intOf 3).toNat ([],[])))=false) (λst k=>(st.intOf 3).toNat-k)]
def cRRep:Con:=.of 151 [q6h,q6h,q6h,q6h] [.one .bool] (λp=>Q0 p.1≤1000000∧Q0 p.2.2.1≤1000000∧Q0 p.2.2.2≤1000000) (λp=>Snd.repB p.1 p.2.1 p.2.2.1 p.2.2.2)
def anRRep (x y a b:List UInt8):List (Nat×Ann) :=
 [ann 0 Nat [0,1,2,3] (λk=>[(9,R.int .i64 k)]) (λk=>k≤x.length+1∧∀ j,j<k→Snd.q6y x y a b j=false) (λk=>x.length+1-k)]
def qf9:Con:=.of 126 [ckCf,q6h,q6h] [.one .bool] (λp=>q0n p.1∧Q0 p.2.1≤1000000∧Q0 p.2.2≤1000000) (λp=>Snd.q1i p.1 p.2.1 p.2.2)
def anRSounds (c:CfP) (x y:List UInt8):List (Nat×Ann) :=
 [ann 0 Nat [0,1,2] (λk=>[(7,R.int .i64 k)]) (λk=>k≤c.length∧(c.take k).any (Snd.hitB x y)=false) (λk=>c.length-k)]
def cRAlike:Con:=.of 120 [ckCf,q6h,q6h] [.one .bool] (λp=>q0n p.1∧Q0 p.2.1≤1000000∧Q0 p.2.2≤1000000) (λp=>Snd.q0m p.1 p.2.1 p.2.2)
def cRNear:Con:=.of 96 [ckWl,ckCf,q6h] [q44,ckIntR] (λp=>q0w p.1∧q0n p.2.1∧Q0 p.2.2≤1000000) (λp=>Snd.q19 p.1.1 p.1.2 p.2.1 p.2.2)
def anRNear (ws:List (List UInt8)) (c:CfP) (x:List UInt8):List (Nat×Ann) :=
 [annR 0 Nat [1,2,3] (λk=>[(8,ownAV 41),(9,R.int .i64 k)]) (λk=>[(41,iRow (Snd.q34 ws c x k))]) (λk=>k≤ws.length) (λk=>ws.length-k)]
def cOn07:Con:=.of 35 [ckPt] [q13] (λ_=>True) Cod.onB
def qhu:Con:=.of 85 [ckPt,ckPt] [q7h] (λ_=>True) (λp=>Cod.q1n p.1 p.2)
end Go.Proofs.YtlfaaoalgcbcoaaGreatDoor
namespace Go.Proofs.YtlfaaoalgcbcoaaGreatDoor
open Go.RowKit
namespace R
def Get.slOf (fs:Kds) (t:Nat) (st:St):List fs.Pay:=match st.get t with
 | .c (.one (.val (.sl fs') xs))=>match fs'.deq fs with
  | some ⟨h⟩=>q3o h xs
  | none=>[]
 | _=>[]
end R
end Go.Proofs.YtlfaaoalgcbcoaaGreatDoor

/-
  Several texts in one: HeJ, HeM, HeN, HeNV, HeO, HeQ, CoGB, CoGC, CoTL, CoW, CoX, CoZA, CoY, CoZB, CoT, CoZ, CoZC, CoZD, CoZE, CoV, CoHd, CoJ0, HeR, HfA, HfB.
-/
import Derived.Test.YtlfaaoalgcbcoaaGreatDoorPQ
import Derived.Test.YtlfaaoalgcbcoaaGreatDoorPP
import Derived.Test.YtlfaaoalgcbcoaaGreatDoorPA
import Derived.Test.YtlfaaoalgcbcoaaGreatDoorPN
import Derived.Test.YtlfaaoalgcbcoaaGreatDoorPO
import Derived.Test.YtlfaaoalgcbcoaaGreatDoorPB
import Derived.Deep.LoopGhost
import Derived.Lib.OwnBridge
import Derived.Shelf.SlSortCmp.NoneTotal
import Derived.Deep.QuietTactic
open List renaming filter→Q0,length→Q4,getD→Q7,take→Q8,replicate→Q9,length_take→Qc,all_eq_true→Qd,take_of_length_le→Qe,drop→Qf,filter_eq_self→Qg,filter_append→Qh,length_append→Qi,filter_cons_of_neg→Qj,length_singleton→Qk,filter_nil→Ql,take_append_of_le_length→Qm,cons_append→Qp,append_nil→Qq,length_filter_le→Qs,length_replicate→Qt,length_set→Qu,drop_drop→Qv,take_take→Qw
open Nat renaming zero_le→Qa,le_refl→Qb
open Bool renaming and_false→Qn,and_eq_true→Qo
open Go.Lib renaming run_eql_slice_nil→Qr
set_option linter.unusedVariables false
namespace Go.Proofs.YtlfaaoalgcbcoaaGreatDoor
open Go.RowKit R
abbrev q2o (book:q0e) (e:Cod.Ear) (p_1:Nat×List (List UInt8)):Prop :=
 ((zT3)∧(zE e.c∧True)∧(zE e.lang∧zE e.ws∧True)∧(zE ((Q7 book (p_1.1:Int).toNat Cod.noG).1)∧zE ((Q7 book (p_1.1:Int).toNat Cod.noG).2.1)∧zE ((Q7 book (p_1.1:Int).toNat Cod.noG).2.2.1)∧zE ((Q7 book (p_1.1:Int).toNat Cod.noG).2.2.2.1)∧zE ((Q7 book (p_1.1:Int).toNat Cod.noG).2.2.2.2)∧True)∧(True∧True)∧True)
abbrev q4k (book:q0e) (p_1:Nat×List (List UInt8)) (p_3:Nat):Prop :=
 (True∧True∧zE (p_3:Int)∧zE (↑[((102:Nat),[(nat_lit 22011,nat_lit 0)].length,[(nat_lit 22011,nat_lit 0)]++[]),((103:Nat),[(nat_lit 22011,nat_lit 0)].length,[(nat_lit 22011,nat_lit 0)]++[]),((104:Nat),[(nat_lit 22011,nat_lit 0)].length,[(nat_lit 22011,nat_lit 0)]++[])].length:Int)∧zE (p_3:Int)∧True∧True∧True∧True∧True∧zE book∧zE (↑(Q4 book):Int)∧zE (p_1.1:Int)∧True)
abbrev qbo (p':Nat) (p_3:Nat):Prop :=
 ((p_3:Int)+1=(p':Int)∧True∧True∧zE (↑[((102:Nat),[(nat_lit 22011,nat_lit 0)].length,[(nat_lit 22011,nat_lit 0)]++[]),((103:Nat),[(nat_lit 22011,nat_lit 0)].length,[(nat_lit 22011,nat_lit 0)]++[]),((104:Nat),[(nat_lit 22011,nat_lit 0)].length,[(nat_lit 22011,nat_lit 0)]++[])].length:Int)∧True)
abbrev q9s (e:Cod.Ear) (p:Bool×List UInt8×List (List UInt8)) (p':Nat) (p_2:Nat×List (List UInt8)):Prop :=
 (p'≤(3:Nat)∧((1:Nat)≤p'→Hea.q3r (Hea.q07 e) p_2.2 p.2.2=false)∧((2:Nat)≤p'→Hea.q46 p_2.2 p.2.2=false)∧((3:Nat)≤p'→Hea.q47 p_2.2 p.2.2=false))
abbrev q89 (book:q0e) (e:Cod.Ear) (p:Bool×List UInt8×List (List UInt8)) (p':Nat×List (List UInt8)):Prop :=
 (p'.1≤Q4 book∧p'.2.length≤p'.1∧Hea.q0l (Hea.q07 e) e.ws p.2.2 book []=Hea.q0l (Hea.q07 e) e.ws p.2.2 (Qf p'.1 book) p'.2)
abbrev zHeJ0_5 (book:q0e) (e:Cod.Ear) (p:Bool×List UInt8×List (List UInt8)) (text:List UInt8):Prop :=
 ((p.2.2.length+[(cutF p.2.1).1].length)*(16:Nat)≤(140737488355328:Nat)∧∃ (p':Bool×List UInt8×List (List UInt8)),q4h text p'.1 p'.2.1 p'.2.2∧((if p'.1=true then p'.2.1.length+(1:Nat) else (0:Nat))<if p.1=true then p.2.1.length+(1:Nat) else (0:Nat))∧((cutF p.2.1).2.2=p'.1∧zT3)∧(((cutF p.2.1).2.1=p'.2.1∧True)∧(zT3)∧(zE e.c∧True)∧(True∧True)∧(zE false∧True)∧(True∧True)∧(zE e.lang∧zE e.ws∧True)∧True)∧(p.2.2++[(cutF p.2.1).1]=p'.2.2∧True)∧True∧True∧(True∧True∧True∧zE book∧True∧True)∧True∧True∧True∧True∧(zT4)∧True)
abbrev q9e (book:q0e) (p':Nat×List (List UInt8)) (p_1:Nat×List (List UInt8)):Prop :=
 ((p_1.1:Int)+1=(p'.1:Int)∧True∧zE (↑(Q4 book):Int)∧True∧True∧True∧zE book∧True)
abbrev q9m (book:q0e) (p_1:Nat×List (List UInt8)):Prop :=
 (True∧True∧True∧True∧True∧zE book∧zE (↑(Q4 book):Int)∧zE (p_1.1:Int)∧True)
abbrev q84 (e:Cod.Ear):Prop :=
 ((zT3)∧(zE e.c∧True)∧(zE e.lang∧zE e.ws∧True)∧True)
abbrev zHeJ0_9 (book:q0e) (e:Cod.Ear) (p_1:Nat×List (List UInt8)):Prop :=
 ((True∧True)∧(zT3)∧(zE e.c∧True)∧(zE e.lang∧zE e.ws∧True)∧(zE ((Q7 book (p_1.1:Int).toNat Cod.noG).1)∧zE ((Q7 book (p_1.1:Int).toNat Cod.noG).2.1)∧zE ((Q7 book (p_1.1:Int).toNat Cod.noG).2.2.1)∧zE ((Q7 book (p_1.1:Int).toNat Cod.noG).2.2.2.1)∧zE ((Q7 book (p_1.1:Int).toNat Cod.noG).2.2.2.2)∧True)∧True)
abbrev qea (e:Cod.Ear) (p:Bool×List UInt8×List (List UInt8)) (p':Nat×Nat) (p_2:Nat×List (List UInt8)):Prop :=
 (p'.1≤p.2.2.length∧p'.2=(Hea.diff (Q8 p'.1 p_2.2) (Q8 p'.1 p.2.2)).length∧((Hea.diff (Q8 p'.1 p_2.2) (Q8 p'.1 p.2.2)).all λ(q:Hea.Str×Hea.Str)=>Hea.q07 e q.1 q.2)=true)
set_option maxRecDepth 100000 in
theorem hear_vc (e:Cod.Ear) (book:q0e) (text:List UInt8) (h:cHear.pre ((e.lang,e.ws),e.c,book,text)) :
  (q0w (e.lang,e.ws)∧q0n e.c∧q6g book)∧bif !e.proper book then ([],false,(1:Int))=Hea.q1f e book text else (∃ (p':Bool×List UInt8×List (List UInt8)),q4h text p'.1 p'.2.1 p'.2.2∧(true=p'.1∧zT3)∧((text=p'.2.1∧True)∧(zT3)∧(zE e.c∧True)∧(True∧True)∧(zE false∧True)∧(True∧True)∧(zE e.lang∧zE e.ws∧True)∧True)∧(p'.2.2=[]∧True)∧True∧True∧(True∧True∧True∧zE book∧True∧True)∧True∧True∧True∧True∧(zT4)∧True)∧∀ (p:Bool×List UInt8×List (List UInt8)),q4h text p.1 p.2.1 p.2.2→bif p.1 then (p.2.1.length≤(1000000:Nat)∧zE ([(32:UInt8)]))∧(cutF p.2.1).1.length≤(1000000:Nat)∧bif (cutF p.2.1).1.any λ(c:UInt8)=>!Snd.letB c then ([],false,(5:Int))=Hea.q1f e book text else bif (cutF p.2.1).1==[] then ([],false,(5:Int))=Hea.q1f e book text else bif decide ((12:Int)<(↑(cutF p.2.1).1.length:Int)) then ([],false,(5:Int))=Hea.q1f e book text else bif (p.2.2.length:Int)==(5:Int) then ([],false,(5:Int))=Hea.q1f e book text else (zHeJ0_5 book e p text)∧(zHeJ0_5 book e p text)∧(p.2.2.length+[(cutF p.2.1).1].length)*(16:Nat)≤(140737488355328:Nat)∧∃ (p':Bool×List UInt8×List (List UInt8)),q4h text p'.1 p'.2.1 p'.2.2∧((if p'.1=true then p'.2.1.length+(1:Nat) else (0:Nat))<if p.1=true then p.2.1.length+(1:Nat) else (0:Nat))∧((cutF p.2.1).2.2=p'.1∧zT3)∧(((cutF p.2.1).2.1=p'.2.1∧True)∧(zT3)∧(zE e.c∧True)∧(True∧True)∧(zE false∧True)∧(True∧True)∧(zE e.lang∧zE e.ws∧True)∧True)∧(p.2.2++[(cutF p.2.1).1]=p'.2.2∧True)∧True∧True∧(True∧True∧True∧zE book∧True∧True)∧True∧True∧True∧True∧(zT4)∧True else (∃ (p':Nat×List (List UInt8)),(q89 book e p p')∧((0:Int)=(p'.1:Int)∧True∧zE (↑(Q4 book):Int)∧True∧True∧True∧zE book∧True)∧(q84 e)∧(zE p.2.2∧p'.2=[]∧True)∧zT7)∧∀ (p_1:Nat×List (List UInt8)),p_1.1≤Q4 book∧p_1.2.length≤p_1.1∧Hea.q0l (Hea.q07 e) e.ws p.2.2 book []=Hea.q0l (Hea.q07 e) e.ws p.2.2 (Qf p_1.1 book) p_1.2→bif decide ((p_1.1:Int)<(↑(Q4 book):Int)) then (0≤(p_1.1:Int)∧(p_1.1:Int)<(↑(Q4 book):Int))∧(∃ (p':Nat×List (List UInt8)),(p'.1≤(Q7 book (p_1.1:Int).toNat Cod.noG).2.1.length∧p'.2=Hea.ownW e.ws (Q8 p'.1 (Q7 book (p_1.1:Int).toNat Cod.noG).2.1))∧((0:Int)=(p'.1:Int)∧True∧True∧True∧True∧True∧True∧zE book∧zE (↑(Q4 book):Int)∧zE (p_1.1:Int)∧zE ((Q7 book (p_1.1:Int).toNat Cod.noG).2.1)∧zE (↑(Q7 book (p_1.1:Int).toNat Cod.noG).2.1.length:Int)∧True)∧(zHeJ0_9 book e p_1)∧(p'.2=[]∧zE p.2.2∧zE p_1.2∧True)∧zT7)∧∀ (p_2:Nat×List (List UInt8)),p_2.1≤(Q7 book (p_1.1:Int).toNat Cod.noG).2.1.length∧p_2.2=Hea.ownW e.ws (Q8 p_2.1 (Q7 book (p_1.1:Int).toNat Cod.noG).2.1)→bif decide ((p_2.1:Int)<(↑(Q7 book (p_1.1:Int).toNat Cod.noG).2.1.length:Int)) then (0≤(p_2.1:Int)∧(p_2.1:Int)<(↑(Q7 book (p_1.1:Int).toNat Cod.noG).2.1.length:Int))∧((0:Int)≤(Q7 book (p_1.1:Int).toNat Cod.noG).2.1.getD (p_2.1:Int).toNat (0:Int)∧(Q7 book (p_1.1:Int).toNat Cod.noG).2.1.getD (p_2.1:Int).toNat 0<(e.ws.length:Int))∧(p_2.2.length+[e.ws.getD ((Q7 book (p_1.1:Int).toNat Cod.noG).2.1.getD (p_2.1:Int).toNat (0:Int)).toNat []].length)*(16:Nat)≤(140737488355328:Nat)∧(zFit ((p_2.1:Int)+1))∧∃ (p':Nat×List (List UInt8)),(p'.1≤(Q7 book (p_1.1:Int).toNat Cod.noG).2.1.length∧p'.2=Hea.ownW e.ws (Q8 p'.1 (Q7 book (p_1.1:Int).toNat Cod.noG).2.1))∧(Q7 book (p_1.1:Int).toNat Cod.noG).2.1.length-p'.1<(Q7 book (p_1.1:Int).toNat Cod.noG).2.1.length-p_2.1∧((p_2.1:Int)+1=(p'.1:Int)∧True∧True∧True∧True∧True∧True∧zE book∧zE (↑(Q4 book):Int)∧zE (p_1.1:Int)∧zE ((Q7 book (p_1.1:Int).toNat Cod.noG).2.1)∧zE (↑(Q7 book (p_1.1:Int).toNat Cod.noG).2.1.length:Int)∧True)∧(zHeJ0_9 book e p_1)∧(p_2.2++[e.ws.getD ((Q7 book (p_1.1:Int).toNat Cod.noG).2.1.getD (p_2.1:Int).toNat (0:Int)).toNat []]=p'.2∧zE p.2.2∧zE p_1.2∧True)∧zT7 else (p_2.2.length≤(1000000:Nat)∧p.2.2.length≤(1000000:Nat))∧bif p_2.2==p.2.2 then ((Q7 book (p_1.1:Int).toNat Cod.noG).1,false,(0:Int))=Hea.q1f e book text else (∃ (p':Nat),(q9s e p p' p_2)∧((0:Int)=(p':Int)∧True∧True∧zE (↑[((102:Nat),[(nat_lit 22011,nat_lit 0)].length,[(nat_lit 22011,nat_lit 0)]++[]),((103:Nat),[(nat_lit 22011,nat_lit 0)].length,[(nat_lit 22011,nat_lit 0)]++[]),((104:Nat),[(nat_lit 22011,nat_lit 0)].length,[(nat_lit 22011,nat_lit 0)]++[])].length:Int)∧True)∧(q2o book e p_1)∧(zE p.2.2∧zE p_1.2∧zE p_2.2∧True)∧True∧True∧(q9m book p_1)∧zT4)∧∀ (p_3:Nat),p_3≤(3:Nat)∧((1:Nat)≤p_3→Hea.q3r (Hea.q07 e) p_2.2 p.2.2=false)∧((2:Nat)≤p_3→Hea.q46 p_2.2 p.2.2=false)∧((3:Nat)≤p_3→Hea.q47 p_2.2 p.2.2=false)→bif decide ((p_3:Int)<(↑[((102:Nat),[(nat_lit 22011,nat_lit 0)].length,[(nat_lit 22011,nat_lit 0)]++[]),((103:Nat),[(nat_lit 22011,nat_lit 0)].length,[(nat_lit 22011,nat_lit 0)]++[]),((104:Nat),[(nat_lit 22011,nat_lit 0)].length,[(nat_lit 22011,nat_lit 0)]++[])].length:Int)) then (0≤(p_3:Int)∧(p_3:Int)<(↑[((102:Nat),[(nat_lit 22011,nat_lit 0)].length,[(nat_lit 22011,nat_lit 0)]++[]),((103:Nat),[(nat_lit 22011,nat_lit 0)].length,[(nat_lit 22011,nat_lit 0)]++[]),((104:Nat),[(nat_lit 22011,nat_lit 0)].length,[(nat_lit 22011,nat_lit 0)]++[])].length:Int))∧((p_3:Int)=(↑(nat_lit 0):Int)→bif (p_2.2.length:Int) != (p.2.2.length:Int) then (zFit ((p_3:Int)+1))∧∃ (p':Nat),(q9s e p p' p_2)∧(3:Nat)-p'<(3:Nat)-p_3∧(qbo p' p_3)∧(q2o book e p_1)∧(zE p.2.2∧zE p_1.2∧zE p_2.2∧True)∧True∧True∧(q9m book p_1)∧zT4 else (∃ (p':Nat×Nat),(qea e p p' p_2)∧((0:Int)=(p'.1:Int)∧(0:Int)=(p'.2:Int)∧True∧True∧True∧zE (p.2.2.length:Int)∧True)∧(q2o book e p_1)∧(zE p.2.2∧zE p_1.2∧zE p_2.2∧True)∧True∧True∧(q4k book p_1 p_3)∧zT4)∧∀ (p_4:Nat×Nat),p_4.1≤p.2.2.length∧p_4.2=(Hea.diff (Q8 p_4.1 p_2.2) (Q8 p_4.1 p.2.2)).length∧((Hea.diff (Q8 p_4.1 p_2.2) (Q8 p_4.1 p.2.2)).all λ(q:Hea.Str×Hea.Str)=>Hea.q07 e q.1 q.2)=true→bif decide ((p_4.1:Int)<(p.2.2.length:Int)) then (0≤(p_4.1:Int)∧(p_4.1:Int)<(p.2.2.length:Int))∧(0≤(p_4.1:Int)∧(p_4.1:Int)<(p_2.2.length:Int))∧bif !p.2.2.getD (p_4.1:Int).toNat []==p_2.2.getD (p_4.1:Int).toNat [] then (zFit ((p_4.2:Int)+1))∧(0≤(p_4.1:Int)∧(p_4.1:Int)<(p_2.2.length:Int))∧(q0n e.c∧(p_2.2.getD (p_4.1:Int).toNat []).length≤(1000000:Nat)∧(p.2.2.getD (p_4.1:Int).toNat []).length≤(1000000:Nat))∧bif !Snd.q0m e.c (p_2.2.getD (p_4.1:Int).toNat []) (p.2.2.getD (p_4.1:Int).toNat []) then (zFit ((p_3:Int)+1))∧∃ (p':Nat),(q9s e p p' p_2)∧(3:Nat)-p'<(3:Nat)-p_3∧(qbo p' p_3)∧(q2o book e p_1)∧(zE p.2.2∧zE p_1.2∧zE p_2.2∧True)∧True∧True∧(q9m book p_1)∧zT4 else (zFit ((p_4.1:Int)+1))∧∃ (p':Nat×Nat),(qea e p p' p_2)∧p.2.2.length-p'.1<p.2.2.length-p_4.1∧((p_4.1:Int)+1=(p'.1:Int)∧(p_4.2:Int)+1=(p'.2:Int)∧True∧True∧True∧zE (p.2.2.length:Int)∧True)∧(q2o book e p_1)∧(zE p.2.2∧zE p_1.2∧zE p_2.2∧True)∧True∧True∧(q4k book p_1 p_3)∧zT4 else (zFit ((p_4.1:Int)+1))∧∃ (p':Nat×Nat),(qea e p p' p_2)∧p.2.2.length-p'.1<p.2.2.length-p_4.1∧((p_4.1:Int)+1=(p'.1:Int)∧(p_4.2:Int)=(p'.2:Int)∧True∧True∧True∧zE (p.2.2.length:Int)∧True)∧(q2o book e p_1)∧(zE p.2.2∧zE p_1.2∧zE p_2.2∧True)∧True∧True∧(q4k book p_1 p_3)∧zT4 else bif (p_4.2:Int)==(1:Int) then (p_1.2.length+[(Q7 book (p_1.1:Int).toNat Cod.noG).1].length)*(16:Nat)≤(140737488355328:Nat)∧(zFit ((p_1.1:Int)+1))∧∃ (p':Nat×List (List UInt8)),(q89 book e p p')∧Q4 book-p'.1<Q4 book-p_1.1∧(q9e book p' p_1)∧(q84 e)∧(zE p.2.2∧p_1.2++[(Q7 book (p_1.1:Int).toNat Cod.noG).1]=p'.2∧True)∧zT7 else (zFit ((p_3:Int)+1))∧∃ (p':Nat),(q9s e p p' p_2)∧(3:Nat)-p'<(3:Nat)-p_3∧(qbo p' p_3)∧(q2o book e p_1)∧(zE p.2.2∧zE p_1.2∧zE p_2.2∧True)∧True∧True∧(q9m book p_1)∧zT4)∧((p_3:Int)=(↑(nat_lit 1):Int)→(∃ (p':Nat),(p'≤p_2.2.length∧∀ (i:Nat),i<p'→(p_2.2.eraseIdx i==p.2.2)=false)∧((0:Int)=(p':Int)∧True∧True∧zE (p_2.2.length:Int)∧True)∧(q2o book e p_1)∧(zE p.2.2∧zE p_1.2∧zE p_2.2∧True)∧True∧True∧(q4k book p_1 p_3)∧zT4)∧∀ (p_4:Nat),(p_4≤p_2.2.length∧∀ (i:Nat),i<p_4→(p_2.2.eraseIdx i==p.2.2)=false)→bif decide ((p_4:Int)<(p_2.2.length:Int)) then (zFit ((p_4:Int)+1))∧(p_2.2.length≤(1000000:Nat)∧((zE ((p_4:Int)+1)∧0≤(p_4:Int)∧(p_4:Int)<(p_2.2.length:Int))∧((p_2.2.eraseIdx (p_4:Int).toNat).length≤(1000000:Nat)∧p.2.2.length≤(1000000:Nat))∧bif p_2.2.eraseIdx (p_4:Int).toNat==p.2.2 then (p_1.2.length+[(Q7 book (p_1.1:Int).toNat Cod.noG).1].length)*(16:Nat)≤(140737488355328:Nat)∧(zFit ((p_1.1:Int)+1))∧∃ (p':Nat×List (List UInt8)),(q89 book e p p')∧Q4 book-p'.1<Q4 book-p_1.1∧(q9e book p' p_1)∧(q84 e)∧(zE p.2.2∧p_1.2++[(Q7 book (p_1.1:Int).toNat Cod.noG).1]=p'.2∧True)∧zT7 else (zFit ((p_4:Int)+1))∧∃ (p':Nat),(p'≤p_2.2.length∧∀ (i:Nat),i<p'→(p_2.2.eraseIdx i==p.2.2)=false)∧p_2.2.length-p'<p_2.2.length-p_4∧((p_4:Int)+1=(p':Int)∧True∧True∧zE (p_2.2.length:Int)∧True)∧(q2o book e p_1)∧(zE p.2.2∧zE p_1.2∧zE p_2.2∧True)∧True∧True∧(q4k book p_1 p_3)∧zT4)∧(zE ((p_4:Int)+1)∧0≤(p_4:Int)∧(p_4:Int)<(p_2.2.length:Int))∧((p_2.2.eraseIdx (p_4:Int).toNat).length≤(1000000:Nat)∧p.2.2.length≤(1000000:Nat))∧bif p_2.2.eraseIdx (p_4:Int).toNat==p.2.2 then (p_1.2.length+[(Q7 book (p_1.1:Int).toNat Cod.noG).1].length)*(16:Nat)≤(140737488355328:Nat)∧(zFit ((p_1.1:Int)+1))∧∃ (p':Nat×List (List UInt8)),(q89 book e p p')∧Q4 book-p'.1<Q4 book-p_1.1∧(q9e book p' p_1)∧(q84 e)∧(zE p.2.2∧p_1.2++[(Q7 book (p_1.1:Int).toNat Cod.noG).1]=p'.2∧True)∧zT7 else (zFit ((p_4:Int)+1))∧∃ (p':Nat),(p'≤p_2.2.length∧∀ (i:Nat),i<p'→(p_2.2.eraseIdx i==p.2.2)=false)∧p_2.2.length-p'<p_2.2.length-p_4∧((p_4:Int)+1=(p':Int)∧True∧True∧zE (p_2.2.length:Int)∧True)∧(q2o book e p_1)∧(zE p.2.2∧zE p_1.2∧zE p_2.2∧True)∧True∧True∧(q4k book p_1 p_3)∧zT4)∧p_2.2.length≤(1000000:Nat)∧(zE ((p_4:Int)+1)∧0≤(p_4:Int)∧(p_4:Int)<(p_2.2.length:Int))∧((p_2.2.eraseIdx (p_4:Int).toNat).length≤(1000000:Nat)∧p.2.2.length≤(1000000:Nat))∧bif p_2.2.eraseIdx (p_4:Int).toNat==p.2.2 then (p_1.2.length+[(Q7 book (p_1.1:Int).toNat Cod.noG).1].length)*(16:Nat)≤(140737488355328:Nat)∧(zFit ((p_1.1:Int)+1))∧∃ (p':Nat×List (List UInt8)),(q89 book e p p')∧Q4 book-p'.1<Q4 book-p_1.1∧(q9e book p' p_1)∧(q84 e)∧(zE p.2.2∧p_1.2++[(Q7 book (p_1.1:Int).toNat Cod.noG).1]=p'.2∧True)∧zT7 else (zFit ((p_4:Int)+1))∧∃ (p':Nat),(p'≤p_2.2.length∧∀ (i:Nat),i<p'→(p_2.2.eraseIdx i==p.2.2)=false)∧p_2.2.length-p'<p_2.2.length-p_4∧((p_4:Int)+1=(p':Int)∧True∧True∧zE (p_2.2.length:Int)∧True)∧(q2o book e p_1)∧(zE p.2.2∧zE p_1.2∧zE p_2.2∧True)∧True∧True∧(q4k book p_1 p_3)∧zT4 else (zFit ((p_3:Int)+1))∧∃ (p':Nat),(q9s e p p' p_2)∧(3:Nat)-p'<(3:Nat)-p_3∧(qbo p' p_3)∧(q2o book e p_1)∧(zE p.2.2∧zE p_1.2∧zE p_2.2∧True)∧True∧True∧(q9m book p_1)∧zT4)∧((p_3:Int)=(↑(nat_lit 2):Int)→(zFit ((p_2.2.length:Int)-1))∧(∃ (p':Nat),(p'≤p_2.2.length-(1:Nat)∧∀ (i:Nat),i<p'→(Hea.q1c p_2.2 i==p.2.2&&p_2.2.getD i [] != p_2.2.getD (i+(1:Nat)) [])=false)∧((0:Int)=(p':Int)∧True∧True∧zE ((p_2.2.length:Int)-1)∧True)∧(q2o book e p_1)∧(zE p.2.2∧zE p_1.2∧zE p_2.2∧True)∧True∧True∧(q4k book p_1 p_3)∧zT4)∧∀ (p_4:Nat),(p_4≤p_2.2.length-(1:Nat)∧∀ (i:Nat),i<p_4→(Hea.q1c p_2.2 i==p.2.2&&p_2.2.getD i [] != p_2.2.getD (i+(1:Nat)) [])=false)→bif decide ((p_4:Int)<(p_2.2.length:Int)-1) then p_2.2.length≤(1000000:Nat)∧((zFit ((p_4:Int)+1))∧(0≤(p_4:Int)+1∧(p_4:Int)+1<(p_2.2.length:Int))∧(0≤(p_4:Int)∧(p_4:Int)<(p_2.2.length:Int))∧(0≤(p_4:Int)∧(p_4:Int)<(p_2.2.length:Int))∧(zFit ((p_4:Int)+1))∧bif (p_4:Int).toNat.beq (p_4:Int).toNat then (0≤(p_4:Int)+1∧(p_4:Int)+1<(↑(p_2.2.set (p_4:Int).toNat (p_2.2.getD ((p_4:Int)+1).toNat [])).length:Int))∧bif ((p_4:Int)+1).toNat.beq ((p_4:Int)+1).toNat then ∃ (p':Unit),True∧(True∧True∧zE (p_4:Int)∧True∧zE ((p_2.2.length:Int)-1)∧zE (p_4:Int)∧True)∧(q2o book e p_1)∧((p_2.2.set (p_4:Int).toNat (p_2.2.getD ((p_4:Int)+1).toNat [])).set ((p_4:Int)+1).toNat (p_2.2.getD (p_4:Int).toNat [])=Hea.q1c p_2.2 (p_4:Int).toNat∧zE p.2.2∧zE p_1.2∧zE p_2.2∧True)∧True∧True∧(q4k book p_1 p_3)∧zT4 else False else False)∧∀ (p_5:Unit),True→((Hea.q1c p_2.2 (p_4:Int).toNat).length≤(1000000:Nat)∧p.2.2.length≤(1000000:Nat))∧bif Hea.q1c p_2.2 (p_4:Int).toNat==p.2.2 then (0≤(p_4:Int)∧(p_4:Int)<(p_2.2.length:Int))∧(zFit ((p_4:Int)+1))∧(0≤(p_4:Int)+1∧(p_4:Int)+1<(p_2.2.length:Int))∧bif !p_2.2.getD (p_4:Int).toNat []==p_2.2.getD ((p_4:Int)+1).toNat [] then (p_1.2.length+[(Q7 book (p_1.1:Int).toNat Cod.noG).1].length)*(16:Nat)≤(140737488355328:Nat)∧(zFit ((p_1.1:Int)+1))∧∃ (p':Nat×List (List UInt8)),(q89 book e p p')∧Q4 book-p'.1<Q4 book-p_1.1∧(q9e book p' p_1)∧(q84 e)∧(zE p.2.2∧p_1.2++[(Q7 book (p_1.1:Int).toNat Cod.noG).1]=p'.2∧True)∧zT7 else (zFit ((p_4:Int)+1))∧∃ (p':Nat),(p'≤p_2.2.length-(1:Nat)∧∀ (i:Nat),i<p'→(Hea.q1c p_2.2 i==p.2.2&&p_2.2.getD i [] != p_2.2.getD (i+(1:Nat)) [])=false)∧p_2.2.length-(1:Nat)-p'<p_2.2.length-(1:Nat)-p_4∧((p_4:Int)+1=(p':Int)∧True∧True∧zE ((p_2.2.length:Int)-1)∧True)∧(q2o book e p_1)∧(zE p.2.2∧zE p_1.2∧zE p_2.2∧True)∧True∧True∧(q4k book p_1 p_3)∧zT4 else (zFit ((p_4:Int)+1))∧∃ (p':Nat),(p'≤p_2.2.length-(1:Nat)∧∀ (i:Nat),i<p'→(Hea.q1c p_2.2 i==p.2.2&&p_2.2.getD i [] != p_2.2.getD (i+(1:Nat)) [])=false)∧p_2.2.length-(1:Nat)-p'<p_2.2.length-(1:Nat)-p_4∧((p_4:Int)+1=(p':Int)∧True∧True∧zE ((p_2.2.length:Int)-1)∧True)∧(q2o book e p_1)∧(zE p.2.2∧zE p_1.2∧zE p_2.2∧True)∧True∧True∧(q4k book p_1 p_3)∧zT4 else (zFit ((p_3:Int)+1))∧∃ (p':Nat),(q9s e p p' p_2)∧(3:Nat)-p'<(3:Nat)-p_3∧(qbo p' p_3)∧(q2o book e p_1)∧(zE p.2.2∧zE p_1.2∧zE p_2.2∧True)∧True∧True∧(q9m book p_1)∧zT4) else (zFit ((p_1.1:Int)+1))∧∃ (p':Nat×List (List UInt8)),(q89 book e p p')∧Q4 book-p'.1<Q4 book-p_1.1∧(q9e book p' p_1)∧(q84 e)∧(zE p.2.2∧p_1.2=p'.2∧True)∧zT7 else bif (p_1.2.length:Int)==(0:Int) then ([],false,(10:Int))=Hea.q1f e book text else bif (p_1.2.length:Int)==(1:Int) then ((0:Int)≤0∧0<(p_1.2.length:Int))∧(p_1.2.getD (nat_lit 0) [],true,(0:Int))=Hea.q1f e book text else ([],false,(8:Int))=Hea.q1f e book text:=by
 delta q2o q4k qbo q9s q89 zHeJ0_5 q9e q9m q84 zHeJ0_9 qea zFit zE zT3 zT4 zT7
 obtain ⟨hW,hC,hB,hT⟩:=h;have hT:text.length≤1000:=hT;simp only [true_and,and_true];refine ⟨⟨hW,hC,hB⟩,bifP (λhb=>?_) λhb=>?_⟩
 ·unfold Hea.q1f
  rw [if_pos hb]
 have hp:e.proper book=true:=by simpa using hb
 have hh:Hea.q1f e book text=match Hea.q5b text with
   | none=>([],false,5)
   | some words=>Hea.q0l (Hea.q07 e) e.ws words book []:=by
  unfold Hea.q1f;rw [hp];rfl
 refine ⟨⟨(true,text,[]),⟨rfl,rfl,Qa _,Qb _⟩,rfl,rfl,rfl⟩,?_⟩;rintro ⟨more,rest,w⟩ hlis;have hlis:q4h text more rest w:=hlis;have hlw:w.length≤5:=hlis.2.2.1;have hlr:rest.length≤text.length:=hlis.2.2.2;dsimp only;refine bifP (λhb=>?_) λhb=>?_
 ·obtain rfl:more=true:=hb
  have bad:Hea.q5e (cutF rest).1=false∨w.length=5→([],false,(5:Int))=Hea.q1f e book text:=λh=>by
   rw [hh,Hea.lis_bad hlis h]
  have hcl:(cutF rest).1.length≤1000000:=by
   unfold cutF;split
   ·dsimp only;rw [Qc];omega
   ·dsimp only;omega
  refine ⟨by omega,hcl,bifP (λhb=>bad (.inl (Hea.q9o (.inl hb)))) λh1=>bifP (λhb=>bad (.inl (Hea.q9o (.inr (.inl hb))))) λh2=>bifP (λhb=>bad (.inl (Hea.q9o (.inr (.inr (of_decide_eq_true hb)))))) λh3=>bifP (λhb=>bad (.inr (by have:=eq_of_beq hb;omega))) λh4=>?_⟩
  have h5:w.length<5:=by rw [beq_eq_false_iff_ne] at h4;omega
  have hst:=Hea.lis_step hlis (Hea.word_of h1 h2 (of_decide_eq_false h3)) h5;have hg:(w.length+[(cutF rest).1].length)*16≤140737488355328∧∃ p':Bool×List UInt8×List (List UInt8),q4h text p'.1 p'.2.1 p'.2.2∧((if p'.1=true then p'.2.1.length+1 else 0)<if true=true then rest.length+1 else 0)∧(cutF rest).2.2=p'.1∧(cutF rest).2.1=p'.2.1∧w++[(cutF rest).1]=p'.2.2 :=
   ⟨by rw [Qk];omega,((cutF rest).2.2,(cutF rest).2.1,w++[(cutF rest).1]),hst,Hea.lis_less,rfl,rfl,rfl⟩
  exact ⟨hg,hg,hg⟩
 ·obtain rfl:more=false:=hb
  have hv:Hea.q1f e book text=Hea.q0l (Hea.q07 e) e.ws w book []:=by rw [hh,Hea.lis_end hlis]
  have hwl:∀ s∈w,s.length≤1000000:=λs hs=>by
   have:=Qd.1 hlis.2.1 s hs
   unfold Hea.q5e at this;simp only [Qo,decide_eq_true_eq] at this;omega
  exact qkd e book w _ _ rfl hp hC hW.2.2 hlw hwl hB.1 hv
theorem inlHe_ok:q0i Tryz.prog inlHe:=q0i.more Tryz.func27 (by kernel_rfl) (by kernel_rfl) (q0i.more Tryz.func67 (by kernel_rfl) (by kernel_rfl) (q0i.more Tryz.func69 (by
  kernel_rfl) (by kernel_rfl) (q0i.more Tryz.func113 (by kernel_rfl) (by kernel_rfl) (q0i.more Tryz.func28 (by kernel_rfl) (by kernel_rfl) (q0i.more
  Tryz.func77 (by kernel_rfl) (by kernel_rfl) (q0i.more Tryz.func72 (by kernel_rfl) (by kernel_rfl) (q0i.more
  Tryz.func73 (by kernel_rfl) (by kernel_rfl) (q0i.more Tryz.func74 (by kernel_rfl) (by kernel_rfl) (q0i.more
  Tryz.func76 (by kernel_rfl) (by kernel_rfl) (q0i.more Tryz.func118 (by kernel_rfl) (by
  kernel_rfl) (q0i.nil)))))))))))
theorem kitHe_ok:kitHe.Ok Tryz.prog where
 cons:=all_cons qfu (all_cons qj1 (all_cons cut_holds (all_cons (show cEqS.lent.Holds Tryz.prog from eqS_holds) all_nil)))
 ns:=all_cons qge all_nil
 os:=all_cons qg0 all_nil
 fcs:=all_cons qkr all_nil
 rcs:=all_nil
 inls:=inlHe_ok
set_option maxRecDepth 100000000 in
theorem qko:cHear.Holds Tryz.prog:=by
 refine holdsX (T:=kitHe) (λp=>anHe hfHear [] ⟨p.1.1,p.1.2,p.2.1⟩ p.2.2.1 p.2.2.2) Tryz.func7 (by kernel_rfl) (by kernel_rfl) mixed (by kernel_rfl) kitHe_ok (λ_=>[]) λp hp=>?_
 obtain ⟨⟨lang,ws⟩,c,book,text⟩:=p;refine cast ?_ (hear_vc ⟨lang,ws,c⟩ book text hp)
 kernel_rfl
open Go.Lib
set_option maxHeartbeats 2000000 in
set_option maxRecDepth 100000 in
theorem cloneG_any (it:TypeInfo) (z:Value) (hi:Tryz.prog.info? 38=some it) (hz0:it.zero=some z) (hz1:it.size=5) (hz2:it.bytes=64) (hzs:z.cells.size=5)
  (ad:Addr) (n c:Nat) (news:List Value) (w:World) (hl:news.length=n*5) (hn:n≤maxLen) (hbig:n*64≤140737488355328) (hc:∀ j u,news[j]? = some u→w.cell? (ad.add j)=some u) (h1:∀ u∈news,u.oneCell'=true) :
  Calls Tryz.prog 34 #[.slice (some ad) n c] w λe w'=>∃ v',e=.returned v'∧w'.ownsRow w.heap.size 38 5 v' n news∧Below w.heap.size w w':=by
 have t22:=Tryz.underlying26;have q22:∀ (w:World) (a:Option Addr) (n c n' c':Nat),(binOp .eql 26 (.slice a n c) (.slice none n' c')).run Tryz.prog w=.ok (.bool a.isNone) w:=λw a n c n' c'=>Qr w _ _ a n c n' c' t22
 have u22:∀ w,Sem.run Tryz.prog (underlying 26) w=.ok (TypeDesc.slice 38) w:=run_underlying t22;have A:Aside (∀ j u,news[j]? = some u→w.cell? (ad.add j)=some u):=hc;clear hc
 go_enter Tryz.func34,Tryz.ntmps34
 go_wp2_with (at_builtin;refine wpList_append_own _ rfl _ _ 26 rfl w.heap.size 38 it z 5 64 t22 hi hz0 hz1 hz2 hzs (by decide) _ _ _ rfl (World.ownsRow_made w #[] 0 (Qb _) (Qa _) (by simp)) ad n c news rfl ?qc1 ?qc2 ?qc3 ?qc4 ?qc5 ?qc6 ?_)
 case qc1=>exact hl
 case qc2 =>
  intro j u hj;exact Lib.cell?_alloc_some _ (A.out j u hj)
 case qc3=>exact h1
 case qc4=>rw [Nat.zero_add];exact hn
 case qc5=>rw [Nat.zero_add];exact hbig
 case qc6=>simp
 intro v' w1 hown hgrow hnil
 go_wp2
 go_ret
 refine ⟨v',rfl,by simpa using hown,?_⟩
 exact ((Below.refl _ w).alloc (Qb _) _).grown hgrow (by simp) (by intro k hk;simp [Value.ownBlock] at hk;omega)
set_option maxHeartbeats 2000000 in
set_option maxRecDepth 100000 in
theorem cloneG_nil (n c:Nat) (w:World):Calls Tryz.prog 34 #[.slice none n c] w λe w'=>e=.returned (.slice none 0 0)∧w'=w:=by
 have t22:=Tryz.underlying26;have q22:∀ (w:World) (a:Option Addr) (n c n' c':Nat),(binOp .eql 26 (.slice a n c) (.slice none n' c')).run Tryz.prog w=.ok (.bool a.isNone) w:=λw a n c n' c'=>Qr w _ _ a n c n' c' t22
 go_enter Tryz.func34,Tryz.ntmps34
 go_wp2
 go_ret
 exact ⟨rfl,rfl⟩
def nCloneG:NCon:={ f:=34,args:=[q43],e:=38,fs:=kGiv,pre:=λl _=>Q4 l≤1000000,F:=λl _=>l }
theorem cloneG_holds:nCloneG.Holds Tryz.prog:=by
 refine ⟨⟨_,Tryz.func34,by kernel_rfl,by kernel_rfl⟩,λp b vs fvs w S hS hpre hvs hfa=>?_⟩
 have hfa:fvs=[]:=hfa;subst hfa;obtain ⟨v,rfl,hv⟩:=q1e hvs;obtain ⟨p,rfl⟩:∃ q:q0e,q=p:=⟨p,rfl⟩;have hpre:p.length≤1000000:=hpre;have hv:(Kd.sl kGiv).Rep w S p v:=hv;obtain ⟨it,z,hi,hz0,hzs,hsz,hby,e1,e2,hone⟩:=q5i (P:=Tryz.prog) (e:=38) (size:=5) (bytes:=64) (by kernel_rfl)
 rcases src_cells hv with ⟨c,rfl,hz⟩ | ⟨ad,c,news,rfl,hl,hc,h1,hrow⟩
 ·refine (cloneG_nil 0 c w).mono ?_
  rintro e w' ⟨rfl,rfl⟩;have hz:p=[]:=hz;subst hz;exact ⟨Below.refl _ _,_,[],rfl,World.ownsRow_nil _ _ _ _,λi x hx=>by cases hx⟩
 ·have hl:news.length=p.length*5:=hl
  refine (cloneG_any it z hi hz0 e1 e2 (by rw [hzs,e1]) ad p.length c news w hl (by unfold maxLen;omega) (by omega) hc h1).mono ?_
  rintro e w' ⟨v',rfl,ho,hb⟩;exact ⟨hb,v',news,rfl,ho,hrow⟩
def cHere:Con:=.of 9 [ckWl,ckCf,q43,ckPt,q28] [q28,q13,ckErr1] (λp=>q0w p.1∧q0n p.2.1∧q6g p.2.2.1∧Q4 p.2.2.2.2≤1000) (λp=>Hea.q29 ⟨p.1.1,p.1.2,p.2.1⟩ p.2.2.1 p.2.2.2.1 p.2.2.2.2)
noncomputable def inlHr:List (Nat×Func):=inlHe++[(31,Tryz.f31),(33,Tryz.f33),(84,Tryz.f84)]
noncomputable def kitHr:Kit:={ cons:=[qek,cAlike,cCut,cEqS.lent,cOn,cDist],ns:=[nCloneS,nCloneG],os:=[qjt],fcs:=[fOdd],inls:=inlHr }
def qbz (l:q0e):Row:=⟨38,kGiv,l⟩
abbrev bkR:Nat:=39000
def hfHere:Hf:={ L:=30000,F:=42000,upL:=[(45,[2,5,8])],upF:=[],boxL:=[5,8] }
def bkHere (book:q0e) (p:Cod.Pt):List (Nat×Row):=[(bkR,qbz (book.filter (Hea.q02 p)))]
abbrev liveHr:List (Nat×List Nat):=[(45,[5,35,36])]
def anFarH (book:q0e) (p:Cod.Pt):List (Nat×Ann) :=
 [annX 0 Nat (λst k=>st.hd { live:=[0,1,7],sav:=savK 0 ((42,[0,1])::liveHr),box:=[5,8,30011,30002] } [(8,R.int .i64 k)] [] [(bkR,qbz book),(hfHere.wr,q4d (Get.rowS hfHere.wr st))] [] none)
  (λ_ k=>k≤book.length∧(book.take k).all (Hea.q02 p)=true)
  (λ_ k=>book.length-k)]
def q4i (book:q0e) (p:Cod.Pt) (k j:Nat) (l:q0e):Prop:=k<j∧j≤book.length∧l.length=book.length∧l.take k=(book.take j).filter (Hea.q02 p)∧l.drop j=book.drop j
def anDelH (book:q0e) (p:Cod.Pt):List (Nat×Ann) :=
 [annX 0 (Nat×Nat×q0e) (λst q=>st.hd { live:=[0,1],sav:=savK 0 liveHr,box:=[5,8,30011,30002] } [(5,R.int .i64 q.1),(6,R.int .i64 q.2.1)] [] [(bkR,qbz q.2.2),(hfHere.wr,q4d (Get.rowS hfHere.wr st))] [] none)
  (λ_ q=>q4i book p q.1 q.2.1 q.2.2)
  (λ_ q=>book.length-q.2.1)]
def anHr (e:Cod.Ear) (book:q0e) (p:Cod.Pt) (text:List UInt8):Nat→List (Nat×Ann):=λf =>
 bif Nat.beq f 33 then anDelH book p
 else bif Nat.beq f 84 then anFarH book p
 else anHe hfHere (bkHere book p) e (book.filter (Hea.q02 p)) text f
end Go.Proofs.YtlfaaoalgcbcoaaGreatDoor
namespace Go.Proofs.YtlfaaoalgcbcoaaGreatDoor
open Go.RowKit R
abbrev q2c (book:q0e) (e:Cod.Ear) (p_1:Nat×List (List UInt8)) (pt:Cod.Pt):Prop :=
 ((zT3)∧(zE e.c∧True)∧(zE e.lang∧zE e.ws∧True)∧(zE (((Q0 (Hea.q02 pt) book).getD (p_1.1:Int).toNat Cod.noG).1)∧zE (((Q0 (Hea.q02 pt) book).getD (p_1.1:Int).toNat Cod.noG).2.1)∧zE (((Q0 (Hea.q02 pt) book).getD (p_1.1:Int).toNat Cod.noG).2.2.1)∧zE (((Q0 (Hea.q02 pt) book).getD (p_1.1:Int).toNat Cod.noG).2.2.2.1)∧zE (((Q0 (Hea.q02 pt) book).getD (p_1.1:Int).toNat Cod.noG).2.2.2.2)∧True)∧(True∧True)∧True)
abbrev q3y (book:q0e) (p_1:Nat×List (List UInt8)) (p_3:Nat) (pt:Cod.Pt):Prop :=
 (True∧True∧zE (p_3:Int)∧zE (↑[((102:Nat),[(nat_lit 30011,nat_lit 0)].length,[(nat_lit 30011,nat_lit 0)]++[]),((103:Nat),[(nat_lit 30011,nat_lit 0)].length,[(nat_lit 30011,nat_lit 0)]++[]),((104:Nat),[(nat_lit 30011,nat_lit 0)].length,[(nat_lit 30011,nat_lit 0)]++[])].length:Int)∧zE (p_3:Int)∧True∧True∧True∧True∧True∧True∧zE (↑(Q0 (Hea.q02 pt) book).length:Int)∧zE (p_1.1:Int)∧True)
abbrev q9i (p':Nat) (p_3:Nat):Prop :=
 ((p_3:Int)+1=(p':Int)∧True∧True∧zE (↑[((102:Nat),[(nat_lit 30011,nat_lit 0)].length,[(nat_lit 30011,nat_lit 0)]++[]),((103:Nat),[(nat_lit 30011,nat_lit 0)].length,[(nat_lit 30011,nat_lit 0)]++[]),((104:Nat),[(nat_lit 30011,nat_lit 0)].length,[(nat_lit 30011,nat_lit 0)]++[])].length:Int)∧True)
abbrev q7p (book:q0e) (e:Cod.Ear) (p':Nat×List (List UInt8)) (pt:Cod.Pt) (w:List (List UInt8)):Prop :=
 (p'.1≤(Q0 (Hea.q02 pt) book).length∧p'.2.length≤p'.1∧Hea.q0l (Hea.q07 e) e.ws w (Q0 (Hea.q02 pt) book) []=Hea.q0l (Hea.q07 e) e.ws w (Qf p'.1 (Q0 (Hea.q02 pt) book)) p'.2)
abbrev q7m (e:Cod.Ear) (p':Nat) (p_2:Nat×List (List UInt8)) (w:List (List UInt8)):Prop :=
 (p'≤(3:Nat)∧((1:Nat)≤p'→Hea.q3r (Hea.q07 e) p_2.2 w=false)∧((2:Nat)≤p'→Hea.q46 p_2.2 w=false)∧((3:Nat)≤p'→Hea.q47 p_2.2 w=false))
abbrev q2f (book:q0e) (p_1:Nat×List (List UInt8)) (p_2:Nat×List (List UInt8)) (pt:Cod.Pt) (w:List (List UInt8)):Prop :=
 (w=w∧zE p_1.2∧zE p_2.2∧zE (Q0 (Hea.q02 pt) book)∧True)
abbrev q7t (book:q0e) (p_1:Nat×List (List UInt8)) (pt:Cod.Pt):Prop :=
 (True∧True∧True∧True∧True∧True∧zE (↑(Q0 (Hea.q02 pt) book).length:Int)∧zE (p_1.1:Int)∧True)
abbrev qjm (book:q0e) (e:Cod.Ear) (p_1:Nat×List (List UInt8)) (pt:Cod.Pt):Prop :=
 ((True∧True)∧(zT3)∧(zE e.c∧True)∧(zE e.lang∧zE e.ws∧True)∧(zE (((Q0 (Hea.q02 pt) book).getD (p_1.1:Int).toNat Cod.noG).1)∧zE (((Q0 (Hea.q02 pt) book).getD (p_1.1:Int).toNat Cod.noG).2.1)∧zE (((Q0 (Hea.q02 pt) book).getD (p_1.1:Int).toNat Cod.noG).2.2.1)∧zE (((Q0 (Hea.q02 pt) book).getD (p_1.1:Int).toNat Cod.noG).2.2.2.1)∧zE (((Q0 (Hea.q02 pt) book).getD (p_1.1:Int).toNat Cod.noG).2.2.2.2)∧True)∧True)
abbrev q7r (book:q0e) (p':Nat×List (List UInt8)) (p_1:Nat×List (List UInt8)) (pt:Cod.Pt):Prop :=
 ((p_1.1:Int)+1=(p'.1:Int)∧True∧zE (↑(Q0 (Hea.q02 pt) book).length:Int)∧zT5)
abbrev q9f (book:q0e) (p':Nat×List (List UInt8)) (p_1:Nat×List (List UInt8)) (pt:Cod.Pt) (w:List (List UInt8)):Prop :=
 (w=w∧p_1.2++[((Q0 (Hea.q02 pt) book).getD (p_1.1:Int).toNat Cod.noG).1]=p'.2∧zE (Q0 (Hea.q02 pt) book)∧True)
abbrev q6j (e:Cod.Ear):Prop :=
 ((zT3)∧(zE e.c∧True)∧(zE e.lang∧zE e.ws∧True)∧True)
abbrev qcx (e:Cod.Ear) (p':Nat×Nat) (p_2:Nat×List (List UInt8)) (w:List (List UInt8)):Prop :=
 (p'.1≤w.length∧p'.2=(Hea.diff (Q8 p'.1 p_2.2) (Q8 p'.1 w)).length∧((Hea.diff (Q8 p'.1 p_2.2) (Q8 p'.1 w)).all λ(q:Hea.Str×Hea.Str)=>Hea.q07 e q.1 q.2)=true)
set_option maxRecDepth 100000 in
def q76 (e:Cod.Ear) (book:q0e) (pt:Cod.Pt) (w:List (List UInt8)) (R:List UInt8×Bool×Int):Prop :=
  ∀ (p_1:Nat×List (List UInt8)),p_1.1≤(Q0 (Hea.q02 pt) book).length∧p_1.2.length≤p_1.1∧Hea.q0l (Hea.q07 e) e.ws w (Q0 (Hea.q02 pt) book) []=Hea.q0l (Hea.q07 e) e.ws w (Qf p_1.1 (Q0 (Hea.q02 pt) book)) p_1.2→bif decide ((p_1.1:Int)<(↑(Q0 (Hea.q02 pt) book).length:Int)) then (0≤(p_1.1:Int)∧(p_1.1:Int)<(↑(Q0 (Hea.q02 pt) book).length:Int))∧(∃ (p':Nat×List (List UInt8)),(p'.1≤((Q0 (Hea.q02 pt) book).getD (p_1.1:Int).toNat Cod.noG).2.1.length∧p'.2=Hea.ownW e.ws (Q8 p'.1 ((Q0 (Hea.q02 pt) book).getD (p_1.1:Int).toNat Cod.noG).2.1))∧((0:Int)=(p'.1:Int)∧True∧True∧True∧True∧True∧True∧True∧zE (↑(Q0 (Hea.q02 pt) book).length:Int)∧zE (p_1.1:Int)∧zE (((Q0 (Hea.q02 pt) book).getD (p_1.1:Int).toNat Cod.noG).2.1)∧zE (↑((Q0 (Hea.q02 pt) book).getD (p_1.1:Int).toNat Cod.noG).2.1.length:Int)∧True)∧(qjm book e p_1 pt)∧(p'.2=[]∧w=w∧zE p_1.2∧zE (Q0 (Hea.q02 pt) book)∧True)∧zT7)∧∀ (p_2:Nat×List (List UInt8)),p_2.1≤((Q0 (Hea.q02 pt) book).getD (p_1.1:Int).toNat Cod.noG).2.1.length∧p_2.2=Hea.ownW e.ws (Q8 p_2.1 ((Q0 (Hea.q02 pt) book).getD (p_1.1:Int).toNat Cod.noG).2.1)→bif decide ((p_2.1:Int)<(↑((Q0 (Hea.q02 pt) book).getD (p_1.1:Int).toNat Cod.noG).2.1.length:Int)) then (0≤(p_2.1:Int)∧(p_2.1:Int)<(↑((Q0 (Hea.q02 pt) book).getD (p_1.1:Int).toNat Cod.noG).2.1.length:Int))∧((0:Int)≤((Q0 (Hea.q02 pt) book).getD (p_1.1:Int).toNat Cod.noG).2.1.getD (p_2.1:Int).toNat (0:Int)∧((Q0 (Hea.q02 pt) book).getD (p_1.1:Int).toNat Cod.noG).2.1.getD (p_2.1:Int).toNat 0<(e.ws.length:Int))∧(p_2.2.length+[e.ws.getD (((Q0 (Hea.q02 pt) book).getD (p_1.1:Int).toNat Cod.noG).2.1.getD (p_2.1:Int).toNat (0:Int)).toNat []].length)*(16:Nat)≤(140737488355328:Nat)∧(zFit ((p_2.1:Int)+1))∧∃ (p':Nat×List (List UInt8)),(p'.1≤((Q0 (Hea.q02 pt) book).getD (p_1.1:Int).toNat Cod.noG).2.1.length∧p'.2=Hea.ownW e.ws (Q8 p'.1 ((Q0 (Hea.q02 pt) book).getD (p_1.1:Int).toNat Cod.noG).2.1))∧((Q0 (Hea.q02 pt) book).getD (p_1.1:Int).toNat Cod.noG).2.1.length-p'.1<((Q0 (Hea.q02 pt) book).getD (p_1.1:Int).toNat Cod.noG).2.1.length-p_2.1∧((p_2.1:Int)+1=(p'.1:Int)∧True∧True∧True∧True∧True∧True∧True∧zE (↑(Q0 (Hea.q02 pt) book).length:Int)∧zE (p_1.1:Int)∧zE (((Q0 (Hea.q02 pt) book).getD (p_1.1:Int).toNat Cod.noG).2.1)∧zE (↑((Q0 (Hea.q02 pt) book).getD (p_1.1:Int).toNat Cod.noG).2.1.length:Int)∧True)∧(qjm book e p_1 pt)∧(p_2.2++[e.ws.getD (((Q0 (Hea.q02 pt) book).getD (p_1.1:Int).toNat Cod.noG).2.1.getD (p_2.1:Int).toNat (0:Int)).toNat []]=p'.2∧w=w∧zE p_1.2∧zE (Q0 (Hea.q02 pt) book)∧True)∧zT7 else (p_2.2.length≤(1000000:Nat)∧w.length≤(1000000:Nat))∧bif p_2.2==w then (((Q0 (Hea.q02 pt) book).getD (p_1.1:Int).toNat Cod.noG).1,false,(0:Int))=R else (∃ (p':Nat),(q7m e p' p_2 w)∧((0:Int)=(p':Int)∧True∧True∧zE (↑[((102:Nat),[(nat_lit 30011,nat_lit 0)].length,[(nat_lit 30011,nat_lit 0)]++[]),((103:Nat),[(nat_lit 30011,nat_lit 0)].length,[(nat_lit 30011,nat_lit 0)]++[]),((104:Nat),[(nat_lit 30011,nat_lit 0)].length,[(nat_lit 30011,nat_lit 0)]++[])].length:Int)∧True)∧(q2c book e p_1 pt)∧(q2f book p_1 p_2 pt w)∧True∧True∧(q7t book p_1 pt)∧zT4)∧∀ (p_3:Nat),p_3≤(3:Nat)∧((1:Nat)≤p_3→Hea.q3r (Hea.q07 e) p_2.2 w=false)∧((2:Nat)≤p_3→Hea.q46 p_2.2 w=false)∧((3:Nat)≤p_3→Hea.q47 p_2.2 w=false)→bif decide ((p_3:Int)<(↑[((102:Nat),[(nat_lit 30011,nat_lit 0)].length,[(nat_lit 30011,nat_lit 0)]++[]),((103:Nat),[(nat_lit 30011,nat_lit 0)].length,[(nat_lit 30011,nat_lit 0)]++[]),((104:Nat),[(nat_lit 30011,nat_lit 0)].length,[(nat_lit 30011,nat_lit 0)]++[])].length:Int)) then (0≤(p_3:Int)∧(p_3:Int)<(↑[((102:Nat),[(nat_lit 30011,nat_lit 0)].length,[(nat_lit 30011,nat_lit 0)]++[]),((103:Nat),[(nat_lit 30011,nat_lit 0)].length,[(nat_lit 30011,nat_lit 0)]++[]),((104:Nat),[(nat_lit 30011,nat_lit 0)].length,[(nat_lit 30011,nat_lit 0)]++[])].length:Int))∧((p_3:Int)=(↑(nat_lit 0):Int)→bif (p_2.2.length:Int) != (w.length:Int) then (zFit ((p_3:Int)+1))∧∃ (p':Nat),(q7m e p' p_2 w)∧(3:Nat)-p'<(3:Nat)-p_3∧(q9i p' p_3)∧(q2c book e p_1 pt)∧(q2f book p_1 p_2 pt w)∧True∧True∧(q7t book p_1 pt)∧zT4 else (∃ (p':Nat×Nat),(qcx e p' p_2 w)∧((0:Int)=(p'.1:Int)∧(0:Int)=(p'.2:Int)∧True∧True∧True∧zE (w.length:Int)∧True)∧(q2c book e p_1 pt)∧(q2f book p_1 p_2 pt w)∧True∧True∧(q3y book p_1 p_3 pt)∧zT4)∧∀ (p_4:Nat×Nat),p_4.1≤w.length∧p_4.2=(Hea.diff (Q8 p_4.1 p_2.2) (Q8 p_4.1 w)).length∧((Hea.diff (Q8 p_4.1 p_2.2) (Q8 p_4.1 w)).all λ(q:Hea.Str×Hea.Str)=>Hea.q07 e q.1 q.2)=true→bif decide ((p_4.1:Int)<(w.length:Int)) then (0≤(p_4.1:Int)∧(p_4.1:Int)<(w.length:Int))∧(0≤(p_4.1:Int)∧(p_4.1:Int)<(p_2.2.length:Int))∧bif !w.getD (p_4.1:Int).toNat []==p_2.2.getD (p_4.1:Int).toNat [] then (zFit ((p_4.2:Int)+1))∧(0≤(p_4.1:Int)∧(p_4.1:Int)<(p_2.2.length:Int))∧(q0n e.c∧(p_2.2.getD (p_4.1:Int).toNat []).length≤(1000000:Nat)∧(w.getD (p_4.1:Int).toNat []).length≤(1000000:Nat))∧bif !Snd.q0m e.c (p_2.2.getD (p_4.1:Int).toNat []) (w.getD (p_4.1:Int).toNat []) then (zFit ((p_3:Int)+1))∧∃ (p':Nat),(q7m e p' p_2 w)∧(3:Nat)-p'<(3:Nat)-p_3∧(q9i p' p_3)∧(q2c book e p_1 pt)∧(q2f book p_1 p_2 pt w)∧True∧True∧(q7t book p_1 pt)∧zT4 else (zFit ((p_4.1:Int)+1))∧∃ (p':Nat×Nat),(qcx e p' p_2 w)∧w.length-p'.1<w.length-p_4.1∧((p_4.1:Int)+1=(p'.1:Int)∧(p_4.2:Int)+1=(p'.2:Int)∧True∧True∧True∧zE (w.length:Int)∧True)∧(q2c book e p_1 pt)∧(q2f book p_1 p_2 pt w)∧True∧True∧(q3y book p_1 p_3 pt)∧zT4 else (zFit ((p_4.1:Int)+1))∧∃ (p':Nat×Nat),(qcx e p' p_2 w)∧w.length-p'.1<w.length-p_4.1∧((p_4.1:Int)+1=(p'.1:Int)∧(p_4.2:Int)=(p'.2:Int)∧True∧True∧True∧zE (w.length:Int)∧True)∧(q2c book e p_1 pt)∧(q2f book p_1 p_2 pt w)∧True∧True∧(q3y book p_1 p_3 pt)∧zT4 else bif (p_4.2:Int)==(1:Int) then (p_1.2.length+[((Q0 (Hea.q02 pt) book).getD (p_1.1:Int).toNat Cod.noG).1].length)*(16:Nat)≤(140737488355328:Nat)∧(zFit ((p_1.1:Int)+1))∧∃ (p':Nat×List (List UInt8)),(q7p book e p' pt w)∧(Q0 (Hea.q02 pt) book).length-p'.1<(Q0 (Hea.q02 pt) book).length-p_1.1∧(q7r book p' p_1 pt)∧(q6j e)∧(q9f book p' p_1 pt w)∧zT7 else (zFit ((p_3:Int)+1))∧∃ (p':Nat),(q7m e p' p_2 w)∧(3:Nat)-p'<(3:Nat)-p_3∧(q9i p' p_3)∧(q2c book e p_1 pt)∧(q2f book p_1 p_2 pt w)∧True∧True∧(q7t book p_1 pt)∧zT4)∧((p_3:Int)=(↑(nat_lit 1):Int)→(∃ (p':Nat),(p'≤p_2.2.length∧∀ (i:Nat),i<p'→(p_2.2.eraseIdx i==w)=false)∧((0:Int)=(p':Int)∧True∧True∧zE (p_2.2.length:Int)∧True)∧(q2c book e p_1 pt)∧(q2f book p_1 p_2 pt w)∧True∧True∧(q3y book p_1 p_3 pt)∧zT4)∧∀ (p_4:Nat),(p_4≤p_2.2.length∧∀ (i:Nat),i<p_4→(p_2.2.eraseIdx i==w)=false)→bif decide ((p_4:Int)<(p_2.2.length:Int)) then (zFit ((p_4:Int)+1))∧(p_2.2.length≤(1000000:Nat)∧((zE ((p_4:Int)+1)∧0≤(p_4:Int)∧(p_4:Int)<(p_2.2.length:Int))∧((p_2.2.eraseIdx (p_4:Int).toNat).length≤(1000000:Nat)∧w.length≤(1000000:Nat))∧bif p_2.2.eraseIdx (p_4:Int).toNat==w then (p_1.2.length+[((Q0 (Hea.q02 pt) book).getD (p_1.1:Int).toNat Cod.noG).1].length)*(16:Nat)≤(140737488355328:Nat)∧(zFit ((p_1.1:Int)+1))∧∃ (p':Nat×List (List UInt8)),(q7p book e p' pt w)∧(Q0 (Hea.q02 pt) book).length-p'.1<(Q0 (Hea.q02 pt) book).length-p_1.1∧(q7r book p' p_1 pt)∧(q6j e)∧(q9f book p' p_1 pt w)∧zT7 else (zFit ((p_4:Int)+1))∧∃ (p':Nat),(p'≤p_2.2.length∧∀ (i:Nat),i<p'→(p_2.2.eraseIdx i==w)=false)∧p_2.2.length-p'<p_2.2.length-p_4∧((p_4:Int)+1=(p':Int)∧True∧True∧zE (p_2.2.length:Int)∧True)∧(q2c book e p_1 pt)∧(q2f book p_1 p_2 pt w)∧True∧True∧(q3y book p_1 p_3 pt)∧zT4)∧(zE ((p_4:Int)+1)∧0≤(p_4:Int)∧(p_4:Int)<(p_2.2.length:Int))∧((p_2.2.eraseIdx (p_4:Int).toNat).length≤(1000000:Nat)∧w.length≤(1000000:Nat))∧bif p_2.2.eraseIdx (p_4:Int).toNat==w then (p_1.2.length+[((Q0 (Hea.q02 pt) book).getD (p_1.1:Int).toNat Cod.noG).1].length)*(16:Nat)≤(140737488355328:Nat)∧(zFit ((p_1.1:Int)+1))∧∃ (p':Nat×List (List UInt8)),(q7p book e p' pt w)∧(Q0 (Hea.q02 pt) book).length-p'.1<(Q0 (Hea.q02 pt) book).length-p_1.1∧(q7r book p' p_1 pt)∧(q6j e)∧(q9f book p' p_1 pt w)∧zT7 else (zFit ((p_4:Int)+1))∧∃ (p':Nat),(p'≤p_2.2.length∧∀ (i:Nat),i<p'→(p_2.2.eraseIdx i==w)=false)∧p_2.2.length-p'<p_2.2.length-p_4∧((p_4:Int)+1=(p':Int)∧True∧True∧zE (p_2.2.length:Int)∧True)∧(q2c book e p_1 pt)∧(q2f book p_1 p_2 pt w)∧True∧True∧(q3y book p_1 p_3 pt)∧zT4)∧p_2.2.length≤(1000000:Nat)∧(zE ((p_4:Int)+1)∧0≤(p_4:Int)∧(p_4:Int)<(p_2.2.length:Int))∧((p_2.2.eraseIdx (p_4:Int).toNat).length≤(1000000:Nat)∧w.length≤(1000000:Nat))∧bif p_2.2.eraseIdx (p_4:Int).toNat==w then (p_1.2.length+[((Q0 (Hea.q02 pt) book).getD (p_1.1:Int).toNat Cod.noG).1].length)*(16:Nat)≤(140737488355328:Nat)∧(zFit ((p_1.1:Int)+1))∧∃ (p':Nat×List (List UInt8)),(q7p book e p' pt w)∧(Q0 (Hea.q02 pt) book).length-p'.1<(Q0 (Hea.q02 pt) book).length-p_1.1∧(q7r book p' p_1 pt)∧(q6j e)∧(q9f book p' p_1 pt w)∧zT7 else (zFit ((p_4:Int)+1))∧∃ (p':Nat),(p'≤p_2.2.length∧∀ (i:Nat),i<p'→(p_2.2.eraseIdx i==w)=false)∧p_2.2.length-p'<p_2.2.length-p_4∧((p_4:Int)+1=(p':Int)∧True∧True∧zE (p_2.2.length:Int)∧True)∧(q2c book e p_1 pt)∧(q2f book p_1 p_2 pt w)∧True∧True∧(q3y book p_1 p_3 pt)∧zT4 else (zFit ((p_3:Int)+1))∧∃ (p':Nat),(q7m e p' p_2 w)∧(3:Nat)-p'<(3:Nat)-p_3∧(q9i p' p_3)∧(q2c book e p_1 pt)∧(q2f book p_1 p_2 pt w)∧True∧True∧(q7t book p_1 pt)∧zT4)∧((p_3:Int)=(↑(nat_lit 2):Int)→(zFit ((p_2.2.length:Int)-1))∧(∃ (p':Nat),(p'≤p_2.2.length-(1:Nat)∧∀ (i:Nat),i<p'→(Hea.q1c p_2.2 i==w&&p_2.2.getD i [] != p_2.2.getD (i+(1:Nat)) [])=false)∧((0:Int)=(p':Int)∧True∧True∧zE ((p_2.2.length:Int)-1)∧True)∧(q2c book e p_1 pt)∧(q2f book p_1 p_2 pt w)∧True∧True∧(q3y book p_1 p_3 pt)∧zT4)∧∀ (p_4:Nat),(p_4≤p_2.2.length-(1:Nat)∧∀ (i:Nat),i<p_4→(Hea.q1c p_2.2 i==w&&p_2.2.getD i [] != p_2.2.getD (i+(1:Nat)) [])=false)→bif decide ((p_4:Int)<(p_2.2.length:Int)-1) then p_2.2.length≤(1000000:Nat)∧((zFit ((p_4:Int)+1))∧(0≤(p_4:Int)+1∧(p_4:Int)+1<(p_2.2.length:Int))∧(0≤(p_4:Int)∧(p_4:Int)<(p_2.2.length:Int))∧(0≤(p_4:Int)∧(p_4:Int)<(p_2.2.length:Int))∧(zFit ((p_4:Int)+1))∧bif (p_4:Int).toNat.beq (p_4:Int).toNat then (0≤(p_4:Int)+1∧(p_4:Int)+1<(↑(p_2.2.set (p_4:Int).toNat (p_2.2.getD ((p_4:Int)+1).toNat [])).length:Int))∧bif ((p_4:Int)+1).toNat.beq ((p_4:Int)+1).toNat then ∃ (p':Unit),True∧(True∧True∧zE (p_4:Int)∧True∧zE ((p_2.2.length:Int)-1)∧zE (p_4:Int)∧True)∧(q2c book e p_1 pt)∧((p_2.2.set (p_4:Int).toNat (p_2.2.getD ((p_4:Int)+1).toNat [])).set ((p_4:Int)+1).toNat (p_2.2.getD (p_4:Int).toNat [])=Hea.q1c p_2.2 (p_4:Int).toNat∧w=w∧zE p_1.2∧zE p_2.2∧zE (Q0 (Hea.q02 pt) book)∧True)∧True∧True∧(q3y book p_1 p_3 pt)∧zT4 else False else False)∧∀ (p_5:Unit),True→((Hea.q1c p_2.2 (p_4:Int).toNat).length≤(1000000:Nat)∧w.length≤(1000000:Nat))∧bif Hea.q1c p_2.2 (p_4:Int).toNat==w then (0≤(p_4:Int)∧(p_4:Int)<(p_2.2.length:Int))∧(zFit ((p_4:Int)+1))∧(0≤(p_4:Int)+1∧(p_4:Int)+1<(p_2.2.length:Int))∧bif !p_2.2.getD (p_4:Int).toNat []==p_2.2.getD ((p_4:Int)+1).toNat [] then (p_1.2.length+[((Q0 (Hea.q02 pt) book).getD (p_1.1:Int).toNat Cod.noG).1].length)*(16:Nat)≤(140737488355328:Nat)∧(zFit ((p_1.1:Int)+1))∧∃ (p':Nat×List (List UInt8)),(q7p book e p' pt w)∧(Q0 (Hea.q02 pt) book).length-p'.1<(Q0 (Hea.q02 pt) book).length-p_1.1∧(q7r book p' p_1 pt)∧(q6j e)∧(q9f book p' p_1 pt w)∧zT7 else (zFit ((p_4:Int)+1))∧∃ (p':Nat),(p'≤p_2.2.length-(1:Nat)∧∀ (i:Nat),i<p'→(Hea.q1c p_2.2 i==w&&p_2.2.getD i [] != p_2.2.getD (i+(1:Nat)) [])=false)∧p_2.2.length-(1:Nat)-p'<p_2.2.length-(1:Nat)-p_4∧((p_4:Int)+1=(p':Int)∧True∧True∧zE ((p_2.2.length:Int)-1)∧True)∧(q2c book e p_1 pt)∧(q2f book p_1 p_2 pt w)∧True∧True∧(q3y book p_1 p_3 pt)∧zT4 else (zFit ((p_4:Int)+1))∧∃ (p':Nat),(p'≤p_2.2.length-(1:Nat)∧∀ (i:Nat),i<p'→(Hea.q1c p_2.2 i==w&&p_2.2.getD i [] != p_2.2.getD (i+(1:Nat)) [])=false)∧p_2.2.length-(1:Nat)-p'<p_2.2.length-(1:Nat)-p_4∧((p_4:Int)+1=(p':Int)∧True∧True∧zE ((p_2.2.length:Int)-1)∧True)∧(q2c book e p_1 pt)∧(q2f book p_1 p_2 pt w)∧True∧True∧(q3y book p_1 p_3 pt)∧zT4 else (zFit ((p_3:Int)+1))∧∃ (p':Nat),(q7m e p' p_2 w)∧(3:Nat)-p'<(3:Nat)-p_3∧(q9i p' p_3)∧(q2c book e p_1 pt)∧(q2f book p_1 p_2 pt w)∧True∧True∧(q7t book p_1 pt)∧zT4) else (zFit ((p_1.1:Int)+1))∧∃ (p':Nat×List (List UInt8)),(q7p book e p' pt w)∧(Q0 (Hea.q02 pt) book).length-p'.1<(Q0 (Hea.q02 pt) book).length-p_1.1∧(q7r book p' p_1 pt)∧(q6j e)∧(w=w∧p_1.2=p'.2∧zE (Q0 (Hea.q02 pt) book)∧True)∧zT7 else bif (p_1.2.length:Int)==(0:Int) then ([],false,(10:Int))=R else bif (p_1.2.length:Int)==(1:Int) then ((0:Int)≤0∧0<(p_1.2.length:Int))∧(p_1.2.getD (nat_lit 0) [],true,(0:Int))=R else ([],false,(8:Int))=R
set_option maxRecDepth 100000 in
def DelR1 (e:Cod.Ear) (book:q0e) (pt:Cod.Pt) (w:List (List UInt8)) (R:List UInt8×Bool×Int):Prop :=
  ∀ (p_1:Nat×Nat×q0e),q4i book pt p_1.1 p_1.2.1 p_1.2.2→bif decide ((p_1.2.1:Int)<(↑(Q4 p_1.2.2):Int)) then ((0:Int)≤(p_1.2.1:Int)∧(p_1.2.1:Int) <
  (↑(Q4 p_1.2.2):Int))∧bif !(Q7 p_1.2.2 (p_1.2.1:Int).toNat Cod.noG).2.2.1 then ((-9223372036854775808:Int)≤(p_1.2.1:Int)+(1:Int)∧(p_1.2.1:Int)+(1 :
  Int)≤(9223372036854775807:Int))∧∃ (p':Nat×Nat×q0e),q4i book pt p'.1 p'.2.1 p'.2.2∧Q4 book-p'.2.1<Q4 book-p_1.2.1∧((p_1.1:Int)=(p'.1:Int)
  ∧ (p_1.2.1:Int)+(1:Int)=(p'.2.1:Int)∧True∧True∧True)∧((e.lang=e.lang∧e.ws=e.ws∧True)∧(pt.1=pt.1∧pt.2=pt.2∧True)∧(True∧True∧True)∧(e.c=e.c ∧
  True)∧True)∧(p_1.2.2=p'.2.2∧w=w∧True)∧True∧True∧(True∧True∧(e.lang=e.lang∧e.ws=e.ws∧True)∧True)∧True∧True∧True∧True else True∧bif !decide ((250000 :
  Int)<Cod.q1n (Q7 p_1.2.2 (p_1.2.1:Int).toNat Cod.noG).2.2.2 pt) then ((0:Int)≤(p_1.1:Int)∧(p_1.1:Int)<(↑(Q4 p_1.2.2):Int))∧bif (↑p_1.1 :
  Int).toNat.beq (p_1.1:Int).toNat then ((-9223372036854775808:Int)≤(p_1.1:Int)+(1:Int)∧(p_1.1:Int)+(1:Int)≤(9223372036854775807:Int))∧((-9223372036854775808 :
  Int)≤(p_1.2.1:Int)+(1:Int)∧(p_1.2.1:Int)+(1:Int)≤(9223372036854775807:Int))∧∃ (p':Nat×Nat×q0e),q4i book pt p'.1 p'.2.1 p'.2.2∧Q4 book-p'.2.1 <
  Q4 book-p_1.2.1∧((p_1.1:Int)+(1:Int)=(p'.1:Int)∧(p_1.2.1:Int)+(1:Int)=(p'.2.1:Int)∧True∧True∧True)∧((e.lang=e.lang∧e.ws=e.ws∧True) ∧
  (pt.1=pt.1∧pt.2=pt.2∧True)∧(True∧True∧True)∧(e.c=e.c∧True)∧True)∧(List.set p_1.2.2 (p_1.1:Int).toNat (Q7 p_1.2.2 (p_1.2.1:Int).toNat Cod.noG)=p'.2.2 ∧
  w=w∧True)∧True∧True∧(True∧True∧(e.lang=e.lang∧e.ws=e.ws∧True)∧True)∧True∧True∧True∧True else False else ((-9223372036854775808:Int)≤(p_1.2.1:Int)+(1
  : Int)∧(p_1.2.1:Int)+(1:Int)≤(9223372036854775807:Int))∧∃ (p':Nat×Nat×q0e),q4i book pt p'.1 p'.2.1 p'.2.2∧Q4 book-p'.2.1<Q4 book-p_1.2.1 ∧
  ((p_1.1:Int)=(p'.1:Int)∧(p_1.2.1:Int)+(1:Int)=(p'.2.1:Int)∧True∧True∧True)∧((e.lang=e.lang∧e.ws=e.ws∧True)∧(pt.1=pt.1∧pt.2=pt.2∧True)∧(True
  ∧ True∧True)∧(e.c=e.c∧True)∧True)∧(p_1.2.2=p'.2.2∧w=w∧True)∧True∧True∧(True∧True∧(e.lang=e.lang∧e.ws=e.ws∧True)∧True)∧True∧True∧True∧True else
  ((0:Int)≤(p_1.1:Int)∧(p_1.1:Int)<(↑(Q4 p_1.2.2):Int))∧((0:Int)≤(p_1.1:Int)∧(p_1.1:Int)≤(↑(Q8 (p_1.1:Int).toNat p_1.2.2++Q9
  (Q4 p_1.2.2-(p_1.1:Int).toNat) Cod.noG).length:Int))∧(∃ (p':Nat×List (List UInt8)),(p'.1≤(Q0 (Hea.q02 pt) book).length∧p'.2.length≤p'.1∧Hea.q0l
  (Hea.q07 e) e.ws w (Q0 (Hea.q02 pt) book) []=Hea.q0l (Hea.q07 e) e.ws w (Qf p'.1 (Q0 (Hea.q02 pt) book)) p'.2)∧((0:Int)=(p'.1:Int)∧True ∧
  (↑(Q8 (p_1.1:Int).toNat (Q8 (p_1.1:Int).toNat p_1.2.2++Q9 (Q4 p_1.2.2-(p_1.1:Int).toNat) Cod.noG)).length:Int)=(↑(Q0 (Hea.q02
  pt) book).length:Int)∧True∧True∧True∧True∧True)∧((True∧True∧True)∧(e.c=e.c∧True)∧(e.lang=e.lang∧e.ws=e.ws∧True)∧True)∧(w=w∧p'.2=[]∧Q8
  (p_1.1:Int).toNat (Q8 (p_1.1:Int).toNat p_1.2.2++Q9 (Q4 p_1.2.2-(p_1.1:Int).toNat) Cod.noG)=Q0 (Hea.q02 pt) book∧True)∧True∧True ∧
  True∧True∧True∧True∧True)∧q76 e book pt w (R)
set_option maxRecDepth 100000 in
def DelR2 (e:Cod.Ear) (book:q0e) (pt:Cod.Pt) (w:List (List UInt8)) (R:List UInt8×Bool×Int):Prop :=
  ∀ (p_1:Nat×Nat×q0e),q4i book pt p_1.1 p_1.2.1 p_1.2.2→bif decide ((p_1.2.1:Int)<(↑(Q4 p_1.2.2):Int)) then ((0:Int)≤(p_1.2.1:Int)∧(p_1.2.1:Int) <
  (↑(Q4 p_1.2.2):Int))∧bif !(Q7 p_1.2.2 (p_1.2.1:Int).toNat Cod.noG).2.2.1 then ((-9223372036854775808:Int)≤(p_1.2.1:Int)+(1:Int)∧(p_1.2.1:Int)+(1 :
  Int)≤(9223372036854775807:Int))∧∃ (p':Nat×Nat×q0e),q4i book pt p'.1 p'.2.1 p'.2.2∧Q4 book-p'.2.1<Q4 book-p_1.2.1∧((p_1.1:Int)=(p'.1:Int)
  ∧ (p_1.2.1:Int)+(1:Int)=(p'.2.1:Int)∧True∧True∧True)∧((e.lang=e.lang∧e.ws=e.ws∧True)∧(pt.1=pt.1∧pt.2=pt.2∧True)∧(True∧True∧True)∧(e.c=e.c ∧
  True)∧True)∧(p_1.2.2=p'.2.2∧w=w∧True)∧True∧True∧(True∧True∧True∧True)∧True∧True∧True∧True else True∧bif !decide ((250000:Int)<Cod.q1n (Q7
  p_1.2.2 (p_1.2.1:Int).toNat Cod.noG).2.2.2 pt) then ((0:Int)≤(p_1.1:Int)∧(p_1.1:Int)<(↑(Q4 p_1.2.2):Int))∧bif (p_1.1:Int).toNat.beq (p_1.1:Int).toNat then
  ((-9223372036854775808:Int)≤(p_1.1:Int)+(1:Int)∧(p_1.1:Int)+(1:Int)≤(9223372036854775807:Int))∧((-9223372036854775808:Int)≤(p_1.2.1:Int)+(1:Int) ∧
  (p_1.2.1:Int)+(1:Int)≤(9223372036854775807:Int))∧∃ (p':Nat×Nat×q0e),q4i book pt p'.1 p'.2.1 p'.2.2∧Q4 book-p'.2.1<Q4 book-p_1.2.1∧((↑p_1.1
  : Int)+(1:Int)=(p'.1:Int)∧(p_1.2.1:Int)+(1:Int)=(p'.2.1:Int)∧True∧True∧True)∧((e.lang=e.lang∧e.ws=e.ws∧True)∧(pt.1=pt.1∧pt.2=pt.2∧True) ∧
  (True∧True∧True)∧(e.c=e.c∧True)∧True)∧(List.set p_1.2.2 (p_1.1:Int).toNat (Q7 p_1.2.2 (p_1.2.1:Int).toNat Cod.noG)=p'.2.2∧w=w∧True)∧True∧True∧(True ∧
  True∧True∧True)∧True∧True∧True∧True else False else ((-9223372036854775808:Int)≤(p_1.2.1:Int)+(1:Int)∧(p_1.2.1:Int)+(1:Int)≤(9223372036854775807:Int))∧∃
  (p':Nat×Nat×q0e),q4i book pt p'.1 p'.2.1 p'.2.2∧Q4 book-p'.2.1<Q4 book-p_1.2.1∧((p_1.1:Int)=(p'.1:Int)∧(p_1.2.1:Int)+(1:Int) =
  (p'.2.1:Int)∧True∧True∧True)∧((e.lang=e.lang∧e.ws=e.ws∧True)∧(pt.1=pt.1∧pt.2=pt.2∧True)∧(True∧True∧True)∧(e.c=e.c∧True)∧True)∧(p_1.2.2=p'.2.2 ∧
  w=w∧True)∧True∧True∧(True∧True∧True∧True)∧True∧True∧True∧True else ((0:Int)≤(p_1.1:Int)∧(p_1.1:Int)<(↑(Q4 p_1.2.2):Int))∧((0:Int) ≤
  (p_1.1:Int)∧(p_1.1:Int)≤(↑(Q8 (p_1.1:Int).toNat p_1.2.2++Q9 (Q4 p_1.2.2-(p_1.1:Int).toNat) Cod.noG).length:Int))∧(∃ (p':Nat×List (List
  UInt8)),(p'.1≤(Q0 (Hea.q02 pt) book).length∧p'.2.length≤p'.1∧Hea.q0l (Hea.q07 e) e.ws w (Q0 (Hea.q02 pt) book) []=Hea.q0l (Hea.q07 e) e.ws w
  (Qf p'.1 (Q0 (Hea.q02 pt) book)) p'.2)∧((0:Int)=(p'.1:Int)∧True∧(↑(Q8 (p_1.1:Int).toNat (Q8 (p_1.1:Int).toNat p_1.2.2++Q9
  (Q4 p_1.2.2-(p_1.1:Int).toNat) Cod.noG)).length:Int)=(↑(Q0 (Hea.q02 pt) book).length:Int)∧True∧True∧True∧True∧True)∧((True∧True∧True)∧(e.c =
  e.c∧True)∧(e.lang=e.lang∧e.ws=e.ws∧True)∧True)∧(w=w∧p'.2=[]∧Q8 (p_1.1:Int).toNat (Q8 (p_1.1:Int).toNat p_1.2.2++Q9 (Q4
  p_1.2.2-(p_1.1:Int).toNat) Cod.noG)=Q0 (Hea.q02 pt) book∧True)∧True∧True∧True∧True∧True∧True∧True)∧q76 e book pt w (R)
abbrev qjd (book:q0e) (e:Cod.Ear) (p_1:Nat) (pt:Cod.Pt) (w:List (List UInt8)):Prop :=
 (∃ (p':Nat×Nat×q0e),q4i book pt p'.1 p'.2.1 p'.2.2∧((p_1:Int)=(p'.1:Int)∧(p_1:Int)+1=(p'.2.1:Int)∧zT3)∧((zE e.lang∧zE e.ws∧True)∧(zE pt.1∧zE pt.2∧True)∧(zT3)∧(zE e.c∧True)∧True)∧(book=p'.2.2∧w=w∧True)∧True∧True∧(True∧True∧(zE e.lang∧zE e.ws∧True)∧True)∧zT4)
set_option maxRecDepth 100000 in
def FarR1 (e:Cod.Ear) (book:q0e) (pt:Cod.Pt) (w:List (List UInt8)) (R:List UInt8×Bool×Int):Prop :=
  (∃ (p':Nat),(p'≤Q4 book∧(Q8 p' book).all (Hea.q02 pt)=true)∧((0:Int)=(p':Int)∧True∧True∧zE (↑(Q4 book):Int)∧True)∧((zE e.lang∧zE e.ws∧True)∧(zE pt.1∧zE pt.2∧True)∧(zT3)∧(zE e.c∧True)∧True)∧(zE book∧w=w∧True)∧True∧True∧(True∧True∧True∧True∧(zE e.lang∧zE e.ws∧True)∧True)∧zT4)∧∀ (p_1:Nat),p_1≤Q4 book∧(Q8 p_1 book).all (Hea.q02 pt)=true→bif decide ((p_1:Int)<(↑(Q4 book):Int)) then (0≤(p_1:Int)∧(p_1:Int)<(↑(Q4 book):Int))∧bif !(Q7 book (p_1:Int).toNat Cod.noG).2.2.1 then (zFit ((p_1:Int)+1))∧(qjd book e p_1 pt w)∧DelR1 e book pt w (R) else True∧bif decide ((250000:Int)<Cod.q1n (Q7 book (p_1:Int).toNat Cod.noG).2.2.2 pt) then (zFit ((p_1:Int)+1))∧(qjd book e p_1 pt w)∧DelR1 e book pt w (R) else (zFit ((p_1:Int)+1))∧∃ (p':Nat),(p'≤Q4 book∧(Q8 p' book).all (Hea.q02 pt)=true)∧Q4 book-p'<Q4 book-p_1∧((p_1:Int)+1=(p':Int)∧True∧True∧zE (↑(Q4 book):Int)∧True)∧((zE e.lang∧zE e.ws∧True)∧(zE pt.1∧zE pt.2∧True)∧(zT3)∧(zE e.c∧True)∧True)∧(zE book∧w=w∧True)∧True∧True∧(True∧True∧True∧True∧(zE e.lang∧zE e.ws∧True)∧True)∧zT4 else (∃ (p':Nat×List (List UInt8)),(p'.1≤(Q0 (Hea.q02 pt) book).length∧p'.2.length≤p'.1∧Hea.q0l (Hea.q07 e) e.ws w (Q0 (Hea.q02 pt) book) []=Hea.q0l (Hea.q07 e) e.ws w (Qf p'.1 (Q0 (Hea.q02 pt) book)) p'.2)∧((0:Int)=(p'.1:Int)∧True∧(↑(Q4 book):Int)=(↑(Q0 (Hea.q02 pt) book).length:Int)∧zT5)∧((zT3)∧(zE e.c∧True)∧(zE e.lang∧zE e.ws∧True)∧True)∧(w=w∧p'.2=[]∧book=Q0 (Hea.q02 pt) book∧True)∧zT7)∧q76 e book pt w (R)
abbrev qjw (book:q0e) (e:Cod.Ear) (p_1:Nat) (pt:Cod.Pt) (w:List (List UInt8)):Prop :=
 (∃ (p':Nat×Nat×q0e),q4i book pt p'.1 p'.2.1 p'.2.2∧((p_1:Int)=(p'.1:Int)∧(p_1:Int)+1=(p'.2.1:Int)∧zT3)∧((zE e.lang∧zE e.ws∧True)∧(zE pt.1∧zE pt.2∧True)∧(zT3)∧(zE e.c∧True)∧True)∧(book=p'.2.2∧w=w∧True)∧True∧True∧(zT4)∧zT4)
set_option maxRecDepth 100000 in
def FarR2 (e:Cod.Ear) (book:q0e) (pt:Cod.Pt) (w:List (List UInt8)) (R:List UInt8×Bool×Int):Prop :=
  (∃ (p':Nat),(p'≤Q4 book∧(Q8 p' book).all (Hea.q02 pt)=true)∧((0:Int)=(p':Int)∧True∧True∧zE (↑(Q4 book):Int)∧True)∧((zE e.lang∧zE e.ws∧True)∧(zE pt.1∧zE pt.2∧True)∧(zT3)∧(zE e.c∧True)∧True)∧(zE book∧w=w∧True)∧True∧True∧(zT6)∧zT4)∧∀ (p_1:Nat),p_1≤Q4 book∧(Q8 p_1 book).all (Hea.q02 pt)=true→bif decide ((p_1:Int)<(↑(Q4 book):Int)) then (0≤(p_1:Int)∧(p_1:Int)<(↑(Q4 book):Int))∧bif !(Q7 book (p_1:Int).toNat Cod.noG).2.2.1 then (zFit ((p_1:Int)+1))∧(qjw book e p_1 pt w)∧DelR2 e book pt w (R) else True∧bif decide ((250000:Int)<Cod.q1n (Q7 book (p_1:Int).toNat Cod.noG).2.2.2 pt) then (zFit ((p_1:Int)+1))∧(qjw book e p_1 pt w)∧DelR2 e book pt w (R) else (zFit ((p_1:Int)+1))∧∃ (p':Nat),(p'≤Q4 book∧(Q8 p' book).all (Hea.q02 pt)=true)∧Q4 book-p'<Q4 book-p_1∧((p_1:Int)+1=(p':Int)∧True∧True∧zE (↑(Q4 book):Int)∧True)∧((zE e.lang∧zE e.ws∧True)∧(zE pt.1∧zE pt.2∧True)∧(zT3)∧(zE e.c∧True)∧True)∧(zE book∧w=w∧True)∧True∧True∧(zT6)∧zT4 else (∃ (p':Nat×List (List UInt8)),(p'.1≤(Q0 (Hea.q02 pt) book).length∧p'.2.length≤p'.1∧Hea.q0l (Hea.q07 e) e.ws w (Q0 (Hea.q02 pt) book) []=Hea.q0l (Hea.q07 e) e.ws w (Qf p'.1 (Q0 (Hea.q02 pt) book)) p'.2)∧((0:Int)=(p'.1:Int)∧True∧(↑(Q4 book):Int)=(↑(Q0 (Hea.q02 pt) book).length:Int)∧zT5)∧((zT3)∧(zE e.c∧True)∧(zE e.lang∧zE e.ws∧True)∧True)∧(w=w∧p'.2=[]∧book=Q0 (Hea.q02 pt) book∧True)∧zT7)∧q76 e book pt w (R)
theorem findR_ok {e:Cod.Ear} {book:q0e} {pt:Cod.Pt} {w:List (List UInt8)} {R:List UInt8×Bool×Int} (hp:e.proper book=true) (hC:q0n e.c) (hW:∀ s∈e.ws,s.length≤1000000) (hw:w.length≤5) (hwl:∀ s∈w,s.length≤1000000) (hB:book.length≤1000000)
  (hR:R=Hea.q0l (Hea.q07 e) e.ws w (book.filter (Hea.q02 pt)) []):q76 e book pt w R:=by
 unfold q76
 delta q2c q3y q9i q7p q7m q2f q7t qjm q7r q9f q6j qcx zFit zE zT3 zT4 zT5 zT7
 simp only [true_and,and_true];exact (qkd e (book.filter (Hea.q02 pt)) w R _ rfl (Hea.qlq hp _) hC hW hw hwl (Nat.le_trans (Qs _ _) hB) hR).2
theorem del_step {book:q0e} {pt:Cod.Pt} {k j:Nat} {l:q0e} (h:q4i book pt k j l) (hj:j<book.length):l.getD j Cod.noG=book.getD j Cod.noG∧(Hea.q02 pt (l.getD j Cod.noG)=false→q4i book pt k (j+1) l)∧(Hea.q02 pt (l.getD j Cod.noG)=true→q4i book pt (k+1) (j+1) (l.set k (l.getD j Cod.noG))):=by
 obtain ⟨h1,h2,h3,h4,h5⟩:=h;have hg:l.getD j Cod.noG=book.getD j Cod.noG:=by
  have:=congrArg (λz=>Q7 z 0 Cod.noG) h5
  simpa using this
 have hdrop:l.drop (j+1)=book.drop (j+1):=by
  have:=congrArg (Qf 1) h5
  rwa [Qv,Qv] at this
 refine ⟨hg,λhn=>?_,λhn=>?_⟩
 ·refine ⟨by omega,hj,h3,?_,hdrop⟩
  rw [Snd.q0q book Cod.noG j hj,Qh,← hg,Qj (by rw [hn];decide),Ql,Qq,h4]
 ·refine ⟨by omega,hj,by rw [Qu];exact h3,?_,?_⟩
  ·rw [Snd.q0q book Cod.noG j hj,Qh,← hg,List.filter_cons_of_pos hn,Ql,← h4,Snd.q0q (l.set k (l.getD j Cod.noG)) Cod.noG k (by rw [Qu];omega),List.take_set_of_le (Qb _)]
   congr 2
   rw [List.getD_eq_getElem?_getD (l:=l.set k _),List.getElem?_set_self (by omega)];rfl
  ·rw [List.drop_set_of_lt (by omega),hdrop]
theorem del1_ok {e:Cod.Ear} {book:q0e} {pt:Cod.Pt} {w:List (List UInt8)} {R:List UInt8×Bool×Int} (hb:book.length≤1000000) (hF:q76 e book pt w R):DelR1 e book pt w R:=by
 unfold DelR1;simp only [true_and,and_true];rintro ⟨k,j,l⟩ hd;have hd:q4i book pt k j l:=hd;obtain ⟨h1,h2,h3,h4,h5⟩:=hd;dsimp only;have hti:((k:Int).toNat)=k:=rfl;have htj:((j:Int).toNat)=j:=rfl;simp only [hti,htj];refine bifP (λhb2=>?_) λhb2=>?_
 ·have hj:j<book.length:=by have:=of_decide_eq_true hb2;omega
  obtain ⟨hg,hst0,hst1⟩:=del_step ⟨h1,h2,h3,h4,h5⟩ hj;refine ⟨⟨by omega,by omega⟩,bifP (λhp=>?_) λhp=>bifP (λhq=>?_) λhq=>?_⟩
  ·refine ⟨⟨by omega,by omega⟩,(k,j+1,l),hst0 ?_,by show book.length-(j+1)<book.length-j;omega,⟨rfl,by push_cast;rfl⟩,rfl⟩
   unfold Hea.q02;rw [show (l.getD j Cod.noG).2.2.1=false by simpa using hp];rfl
  ·have hn:Hea.q02 pt (l.getD j Cod.noG)=true:=by
    unfold Hea.q02 Cod.ptOf;rw [show (l.getD j Cod.noG).2.2.1=true by simpa using hp,decide_eq_true (p:=Cod.q1n (l.getD j Cod.noG).2.2.2 pt≤250000) (by
     have:decide (250000<Cod.q1n (l.getD j Cod.noG).2.2.2 pt)=false:=by simpa using hq
     have:=of_decide_eq_false this;omega)];rfl
   refine ⟨⟨by omega,by omega⟩,?_⟩
   rw [show k.beq k=true from Nat.beq_refl k,cond_true];exact ⟨⟨by omega,by omega⟩,⟨by omega,by omega⟩,(k+1,j+1,l.set k (l.getD j Cod.noG)),hst1 hn,by show book.length-(j+1)<book.length-j;omega,⟨by push_cast;rfl,by push_cast;rfl⟩,rfl⟩
  ·refine ⟨⟨by omega,by omega⟩,(k,j+1,l),hst0 ?_,by show book.length-(j+1)<book.length-j;omega,⟨rfl,by push_cast;rfl⟩,rfl⟩
   unfold Hea.q02 Cod.ptOf;have:decide (250000<Cod.q1n (l.getD j Cod.noG).2.2.2 pt)=true:=by simpa using hq
   rw [decide_eq_false (p:=Cod.q1n (l.getD j Cod.noG).2.2.2 pt≤250000) (by have:=of_decide_eq_true this;omega),Qn]
 ·have hle:l.length≤j:=by have:=of_decide_eq_false hb2;omega
  have hfl:book.filter (Hea.q02 pt)=l.take k:=by rw [h4,Qe (by omega)]
  have hlen:(l.take k++Q9 (l.length-k) Cod.noG).length=l.length:=by rw [Qi,Qc,Qt];omega
  have htk:(l.take k++Q9 (l.length-k) Cod.noG).take k=l.take k:=by rw [Qm (by rw [Qc];omega),Qw,Nat.min_self]
  refine ⟨⟨by omega,by omega⟩,⟨by omega,by rw [hlen];omega⟩,⟨(0,[]),⟨Qa _,Qb _,rfl⟩,⟨rfl,by rw [htk,hfl]⟩,rfl,by rw [htk,hfl]⟩,hF⟩
theorem del2_ok {e:Cod.Ear} {book:q0e} {pt:Cod.Pt} {w:List (List UInt8)} {R:List UInt8×Bool×Int} (hb:book.length≤1000000) (hF:q76 e book pt w R):DelR2 e book pt w R:=by
 unfold DelR2;simp only [true_and,and_true];rintro ⟨k,j,l⟩ hd;have hd:q4i book pt k j l:=hd;obtain ⟨h1,h2,h3,h4,h5⟩:=hd;dsimp only;have hti:((k:Int).toNat)=k:=rfl;have htj:((j:Int).toNat)=j:=rfl;simp only [hti,htj];refine bifP (λhb2=>?_) λhb2=>?_
 ·have hj:j<book.length:=by have:=of_decide_eq_true hb2;omega
  obtain ⟨hg,hst0,hst1⟩:=del_step ⟨h1,h2,h3,h4,h5⟩ hj;refine ⟨⟨by omega,by omega⟩,bifP (λhp=>?_) λhp=>bifP (λhq=>?_) λhq=>?_⟩
  ·refine ⟨⟨by omega,by omega⟩,(k,j+1,l),hst0 ?_,by show book.length-(j+1)<book.length-j;omega,⟨rfl,by push_cast;rfl⟩,rfl⟩
   unfold Hea.q02;rw [show (l.getD j Cod.noG).2.2.1=false by simpa using hp];rfl
  ·have hn:Hea.q02 pt (l.getD j Cod.noG)=true:=by
    unfold Hea.q02 Cod.ptOf;rw [show (l.getD j Cod.noG).2.2.1=true by simpa using hp,decide_eq_true (p:=Cod.q1n (l.getD j Cod.noG).2.2.2 pt≤250000) (by
     have:decide (250000<Cod.q1n (l.getD j Cod.noG).2.2.2 pt)=false:=by simpa using hq
     have:=of_decide_eq_false this;omega)];rfl
   refine ⟨⟨by omega,by omega⟩,?_⟩
   rw [show k.beq k=true from Nat.beq_refl k,cond_true];exact ⟨⟨by omega,by omega⟩,⟨by omega,by omega⟩,(k+1,j+1,l.set k (l.getD j Cod.noG)),hst1 hn,by show book.length-(j+1)<book.length-j;omega,⟨by push_cast;rfl,by push_cast;rfl⟩,rfl⟩
  ·refine ⟨⟨by omega,by omega⟩,(k,j+1,l),hst0 ?_,by show book.length-(j+1)<book.length-j;omega,⟨rfl,by push_cast;rfl⟩,rfl⟩
   unfold Hea.q02 Cod.ptOf;have:decide (250000<Cod.q1n (l.getD j Cod.noG).2.2.2 pt)=true:=by simpa using hq
   rw [decide_eq_false (p:=Cod.q1n (l.getD j Cod.noG).2.2.2 pt≤250000) (by have:=of_decide_eq_true this;omega),Qn]
 ·have hle:l.length≤j:=by have:=of_decide_eq_false hb2;omega
  have hfl:book.filter (Hea.q02 pt)=l.take k:=by rw [h4,Qe (by omega)]
  have hlen:(l.take k++Q9 (l.length-k) Cod.noG).length=l.length:=by rw [Qi,Qc,Qt];omega
  have htk:(l.take k++Q9 (l.length-k) Cod.noG).take k=l.take k:=by rw [Qm (by rw [Qc];omega),Qw,Nat.min_self]
  refine ⟨⟨by omega,by omega⟩,⟨by omega,by rw [hlen];omega⟩,⟨(0,[]),⟨Qa _,Qb _,rfl⟩,⟨rfl,by rw [htk,hfl]⟩,rfl,by rw [htk,hfl]⟩,hF⟩
theorem far1_ok {e:Cod.Ear} {book:q0e} {pt:Cod.Pt} {w:List (List UInt8)} {R:List UInt8×Bool×Int} (hb:book.length≤1000000) (hF:q76 e book pt w R) (hR:R=Hea.q0l (Hea.q07 e) e.ws w (book.filter (Hea.q02 pt)) []):FarR1 e book pt w R:=by
 unfold FarR1
 delta qjd zFit zE zT3 zT4 zT5 zT7
 simp only [true_and,and_true];refine ⟨⟨0,⟨Qa _,rfl⟩,rfl⟩,?_⟩;rintro k ⟨hk,ha⟩;have hti:((k:Int).toNat)=k:=rfl;simp only [hti];refine bifP (λhb2=>?_) λhb2=>?_
 ·have hlt:k<book.length:=by have:=of_decide_eq_true hb2;omega
  have hst:∀ h:Hea.q02 pt (book.getD k Cod.noG)=false,q4i book pt k (k+1) book:=λh=>by
   refine ⟨by omega,hlt,rfl,?_,rfl⟩
   rw [Snd.q0q book Cod.noG k hlt,Qh,Qj (by rw [h];decide),Ql,Qq,Qg.2 (Qd.1 ha)]
  refine ⟨⟨by omega,by omega⟩,bifP (λhp=>?_) λhp=>bifP (λhd=>?_) λhd=>?_⟩
  ·refine ⟨⟨by omega,by omega⟩,⟨(k,k+1,book),hst ?_,⟨rfl,by push_cast;rfl⟩,rfl⟩,del1_ok hb hF⟩
   unfold Hea.q02;rw [show (book.getD k Cod.noG).2.2.1=false by simpa using hp];rfl
  ·refine ⟨⟨by omega,by omega⟩,⟨(k,k+1,book),hst ?_,⟨rfl,by push_cast;rfl⟩,rfl⟩,del1_ok hb hF⟩
   unfold Hea.q02 Cod.ptOf;rw [decide_eq_false (p:=Cod.q1n (book.getD k Cod.noG).2.2.2 pt≤250000) (by have:=of_decide_eq_true hd;omega),Qn]
  ·refine ⟨⟨by omega,by omega⟩,k+1,⟨hlt,?_⟩,by omega,by push_cast;rfl⟩
   rw [Snd.q3k book Cod.noG _ k hlt,ha,Bool.true_and];unfold Hea.q02 Cod.ptOf;rw [show (book.getD k Cod.noG).2.2.1=true by simpa using hp,decide_eq_true (p:=Cod.q1n (book.getD k Cod.noG).2.2.2 pt≤250000) (by have:=of_decide_eq_false hd;omega)];rfl
 ·have hle:book.length≤k:=by have:=of_decide_eq_false hb2;omega
  rw [Snd.q5f book _ k hle] at ha;have hfl:book.filter (Hea.q02 pt)=book:=Qg.2 (Qd.1 ha);refine ⟨⟨(0,[]),⟨Qa _,Qb _,rfl⟩,⟨rfl,by rw [hfl]⟩,rfl,hfl.symm⟩,hF⟩
theorem far2_ok {e:Cod.Ear} {book:q0e} {pt:Cod.Pt} {w:List (List UInt8)} {R:List UInt8×Bool×Int} (hb:book.length≤1000000) (hF:q76 e book pt w R) (hR:R=Hea.q0l (Hea.q07 e) e.ws w (book.filter (Hea.q02 pt)) []):FarR2 e book pt w R:=by
 unfold FarR2
 delta qjw zFit zE zT3 zT4 zT5 zT6 zT7
 simp only [true_and,and_true];refine ⟨⟨0,⟨Qa _,rfl⟩,rfl⟩,?_⟩;rintro k ⟨hk,ha⟩;have hti:((k:Int).toNat)=k:=rfl;simp only [hti];refine bifP (λhb2=>?_) λhb2=>?_
 ·have hlt:k<book.length:=by have:=of_decide_eq_true hb2;omega
  have hst:∀ h:Hea.q02 pt (book.getD k Cod.noG)=false,q4i book pt k (k+1) book:=λh=>by
   refine ⟨by omega,hlt,rfl,?_,rfl⟩
   rw [Snd.q0q book Cod.noG k hlt,Qh,Qj (by rw [h];decide),Ql,Qq,Qg.2 (Qd.1 ha)]
  refine ⟨⟨by omega,by omega⟩,bifP (λhp=>?_) λhp=>bifP (λhd=>?_) λhd=>?_⟩
  ·refine ⟨⟨by omega,by omega⟩,⟨(k,k+1,book),hst ?_,⟨rfl,by push_cast;rfl⟩,rfl⟩,del2_ok hb hF⟩
   unfold Hea.q02;rw [show (book.getD k Cod.noG).2.2.1=false by simpa using hp];rfl
  ·refine ⟨⟨by omega,by omega⟩,⟨(k,k+1,book),hst ?_,⟨rfl,by push_cast;rfl⟩,rfl⟩,del2_ok hb hF⟩
   unfold Hea.q02 Cod.ptOf;rw [decide_eq_false (p:=Cod.q1n (book.getD k Cod.noG).2.2.2 pt≤250000) (by have:=of_decide_eq_true hd;omega),Qn]
  ·refine ⟨⟨by omega,by omega⟩,k+1,⟨hlt,?_⟩,by omega,by push_cast;rfl⟩
   rw [Snd.q3k book Cod.noG _ k hlt,ha,Bool.true_and];unfold Hea.q02 Cod.ptOf;rw [show (book.getD k Cod.noG).2.2.1=true by simpa using hp,decide_eq_true (p:=Cod.q1n (book.getD k Cod.noG).2.2.2 pt≤250000) (by have:=of_decide_eq_false hd;omega)];rfl
 ·have hle:book.length≤k:=by have:=of_decide_eq_false hb2;omega
  rw [Snd.q5f book _ k hle] at ha;have hfl:book.filter (Hea.q02 pt)=book:=Qg.2 (Qd.1 ha);refine ⟨⟨(0,[]),⟨Qa _,Qb _,rfl⟩,⟨rfl,by rw [hfl]⟩,rfl,hfl.symm⟩,hF⟩
set_option maxRecDepth 100000 in
theorem here_vc (e:Cod.Ear) (book:q0e) (pt:Cod.Pt) (text:List UInt8) (h:cHere.pre ((e.lang,e.ws),e.c,book,pt,text)) :
  (q0w (e.lang,e.ws)∧q0n e.c∧q6g book)∧bif !e.proper book then ([],false,(1:Int))=Hea.q29 e book pt text else True∧bif !Cod.onB pt then ([],false,(1:Int)) =
  Hea.q29 e book pt text else (∃ (p':Bool×List UInt8×List (List UInt8)),q4h text p'.1 p'.2.1 p'.2.2∧(true=p'.1∧True∧True∧True)∧((text=p'.2.1∧True)∧(True∧True ∧
  True)∧(e.c=e.c∧True)∧(True∧True)∧(false=false∧True)∧(True∧True)∧(e.lang=e.lang∧e.ws=e.ws∧True)∧(pt.1=pt.1∧pt.2=pt.2∧True)∧True)∧(p'.2.2=[] ∧
  True)∧True∧True∧(True∧True∧True∧book=book∧True∧True∧True)∧True∧True∧True∧True∧(True∧True∧True∧True)∧True)∧∀ (p:Bool×List UInt8×List (List
  UInt8)),q4h text p.1 p.2.1 p.2.2→bif p.1 then (p.2.1.length≤(1000000:Nat)∧[(32:UInt8)]=[(32:UInt8)])∧(cutF p.2.1).1.length≤(1000000:Nat)∧bif (cutF p.2.1).1.any fun
  (c:UInt8)=>!Snd.letB c then ([],false,(5:Int))=Hea.q29 e book pt text else bif (cutF p.2.1).1==[] then ([],false,(5:Int))=Hea.q29 e book pt text else bif decide ((12 :
  Int)<(↑(cutF p.2.1).1.length:Int)) then ([],false,(5:Int))=Hea.q29 e book pt text else bif (p.2.2.length:Int)==(5:Int) then ([],false,(5:Int))=Hea.q29 e book pt
  text else ((p.2.2.length+[(cutF p.2.1).1].length)*(16:Nat)≤(140737488355328:Nat)∧∃ (p':Bool×List UInt8×List (List UInt8)),q4h text p'.1 p'.2.1 p'.2.2∧((if p'.1=true
  then p'.2.1.length+(1:Nat) else (0:Nat))<if p.1=true then p.2.1.length+(1:Nat) else (0:Nat))∧((cutF p.2.1).2.2=p'.1∧True∧True∧True)∧(((cutF p.2.1).2.1=p'.2.1 ∧
  True)∧(True∧True∧True)∧(e.c=e.c∧True)∧(True∧True)∧(false=false∧True)∧(True∧True)∧(e.lang=e.lang∧e.ws=e.ws∧True)∧(pt.1=pt.1∧pt.2=pt.2∧True) ∧
  True)∧(p.2.2++[(cutF p.2.1).1]=p'.2.2∧True)∧True∧True∧(True∧True∧True∧book=book∧True∧True∧True)∧True∧True∧True∧True∧(True∧True∧True∧True)∧True)
  ∧ ((p.2.2.length+[(cutF p.2.1).1].length)*(16:Nat)≤(140737488355328:Nat)∧∃ (p':Bool×List UInt8×List (List UInt8)),q4h text p'.1 p'.2.1 p'.2.2∧((if p'.1=true then
  p'.2.1.length+(1:Nat) else (0:Nat))<if p.1=true then p.2.1.length+(1:Nat) else (0:Nat))∧((cutF p.2.1).2.2=p'.1∧True∧True∧True)∧(((cutF p.2.1).2.1=p'.2.1∧True)
  ∧ (True∧True∧True)∧(e.c=e.c∧True)∧(True∧True)∧(false=false∧True)∧(True∧True)∧(e.lang=e.lang∧e.ws=e.ws∧True)∧(pt.1=pt.1∧pt.2=pt.2∧True)∧True) ∧
  (p.2.2++[(cutF p.2.1).1]=p'.2.2∧True)∧True∧True∧(True∧True∧True∧book=book∧True∧True∧True)∧True∧True∧True∧True∧(True∧True∧True∧True)∧True) ∧
  (p.2.2.length+[(cutF p.2.1).1].length)*(16:Nat)≤(140737488355328:Nat)∧∃ (p':Bool×List UInt8×List (List UInt8)),q4h text p'.1 p'.2.1 p'.2.2∧((if p'.1=true then
  p'.2.1.length+(1:Nat) else (0:Nat))<if p.1=true then p.2.1.length+(1:Nat) else (0:Nat))∧((cutF p.2.1).2.2=p'.1∧True∧True∧True)∧(((cutF p.2.1).2.1=p'.2.1∧True)
  ∧ (True∧True∧True)∧(e.c=e.c∧True)∧(True∧True)∧(false=false∧True)∧(True∧True)∧(e.lang=e.lang∧e.ws=e.ws∧True)∧(pt.1=pt.1∧pt.2=pt.2∧True)∧True) ∧
  (p.2.2++[(cutF p.2.1).1]=p'.2.2∧True)∧True∧True∧(True∧True∧True∧book=book∧True∧True∧True)∧True∧True∧True∧True∧(True∧True∧True∧True)∧True else
  (Q4 book≤(1000000:Nat)∧FarR1 e book pt p.2.2 (Hea.q29 e book pt text))∧Q4 book≤(1000000:Nat)∧(FarR1 e book pt p.2.2 (Hea.q29 e book pt text))∧FarR2 e
  book pt p.2.2 (Hea.q29 e book pt text)
  := by
 obtain ⟨hW,hC,hB,hT⟩:=h;have hT:text.length≤1000:=hT;simp only [true_and,and_true];refine ⟨⟨hW,hC,hB⟩,bifP (λhb=>?_) λhb=>?_⟩
 ·unfold Hea.q29
  rw [show e.proper book=false by simpa using hb];rfl
 have hp:e.proper book=true:=by simpa using hb
 refine bifP (λhb=>?_) λhb=>?_
 ·unfold Hea.q29
  rw [hp,show Cod.onB pt=false by simpa using hb];rfl
 have ho:Cod.onB pt=true:=by simpa using hb
 have hh:Hea.q29 e book pt text=match Hea.q5b text with
   | none=>([],false,5)
   | some words=>Hea.q0l (Hea.q07 e) e.ws words (book.filter (Hea.q02 pt)) []:=by
  unfold Hea.q29;rw [hp,ho];rfl
 refine ⟨⟨(true,text,[]),⟨rfl,rfl,Qa _,Qb _⟩,rfl,rfl,rfl⟩,?_⟩;rintro ⟨more,rest,w⟩ hlis;have hlis:q4h text more rest w:=hlis;have hlw:w.length≤5:=hlis.2.2.1;have hlr:rest.length≤text.length:=hlis.2.2.2;dsimp only;refine bifP (λhb=>?_) λhb=>?_
 ·obtain rfl:more=true:=hb
  have bad:Hea.q5e (cutF rest).1=false∨w.length=5→([],false,(5:Int))=Hea.q29 e book pt text:=λh=>by
   rw [hh,Hea.lis_bad hlis h]
  have hcl:(cutF rest).1.length≤1000000:=by
   unfold cutF;split
   ·dsimp only;rw [Qc];omega
   ·dsimp only;omega
  refine ⟨by omega,hcl,bifP (λhb=>bad (.inl (Hea.q9o (.inl hb)))) λh1=>bifP (λhb=>bad (.inl (Hea.q9o (.inr (.inl hb))))) λh2=>bifP (λhb=>bad (.inl (Hea.q9o (.inr (.inr (of_decide_eq_true hb)))))) λh3=>bifP (λhb=>bad (.inr (by have:=eq_of_beq hb;omega))) λh4=>?_⟩
  have h5:w.length<5:=by rw [beq_eq_false_iff_ne] at h4;omega
  have hst:=Hea.lis_step hlis (Hea.word_of h1 h2 (of_decide_eq_false h3)) h5;have hg:(w.length+[(cutF rest).1].length)*16≤140737488355328∧∃ p':Bool×List UInt8×List (List UInt8),q4h text p'.1 p'.2.1 p'.2.2∧((if p'.1=true then p'.2.1.length+1 else 0)<if true=true then rest.length+1 else 0)∧(cutF rest).2.2=p'.1∧(cutF rest).2.1=p'.2.1∧w++[(cutF rest).1]=p'.2.2 :=
   ⟨by rw [Qk];omega,((cutF rest).2.2,(cutF rest).2.1,w++[(cutF rest).1]),hst,Hea.lis_less,rfl,rfl,rfl⟩
  exact ⟨hg,hg,hg⟩
 ·obtain rfl:more=false:=hb
  have hv:Hea.q29 e book pt text=Hea.q0l (Hea.q07 e) e.ws w (book.filter (Hea.q02 pt)) []:=by rw [hh,Hea.lis_end hlis]
  have hwl:∀ s∈w,s.length≤1000000:=λs hs=>by
   have:=Qd.1 hlis.2.1 s hs
   unfold Hea.q5e at this;simp only [Qo,decide_eq_true_eq] at this;omega
  have hF:=findR_ok (pt:=pt) hp hC hW.2.2 hlw hwl hB.1 hv;exact ⟨⟨hB.1,far1_ok hB.1 hF hv⟩,hB.1,far1_ok hB.1 hF hv,far2_ok hB.1 hF hv⟩
theorem q0i.app {P:Program}:∀ {l m:List (Nat×Func)},q0i P l→q0i P m→q0i P (l++m)
 | [],m,_,h=>h
 | (k,fn)::l,m,hl,hm=>λf g hg=>by
  rw [Qp,look?_cons] at hg;split at hg
  ·rename_i e
   subst e;exact hl k g (by rw [look?_cons,if_pos rfl];exact hg)
  ·rename_i hne
   by_cases hin:∃ y,look? f l=some y
   ·obtain ⟨y,hy⟩:=hin
    have:∀ {l m:List (Nat×Func)},look? f l=some y→look? f (l++m)=some y:=λ{l m} h=>by
     induction l with
     | nil=>cases h
     | cons z l ih =>
      obtain ⟨k2,f2⟩:=z;rw [Qp,look?_cons];rw [look?_cons] at h;split
      ·rename_i e2;rw [if_pos e2] at h;exact h
      ·rename_i e2;rw [if_neg e2] at h;exact ih h
    rw [this hy] at hg;injection hg with hg;subst hg;exact hl f y (by rw [look?_cons,if_neg hne];exact hy)
   ·have:∀ {l m:List (Nat×Func)},(¬ ∃ y,look? f l=some y)→look? f (l++m)=look? f m:=λ{l m} h=>by
     induction l with
     | nil=>rfl
     | cons z l ih =>
      obtain ⟨k2,f2⟩:=z;rw [look?_cons] at h;rw [Qp,look?_cons];split
      ·rename_i e2;exact absurd ⟨f2,by rw [if_pos e2]⟩ h
      ·rename_i e2
       refine ih λ⟨y,hy⟩=>h ⟨y,by rw [if_neg e2];exact hy⟩
    rw [this hin] at hg;exact hm f g hg
theorem kitHr_ok:kitHr.Ok Tryz.prog where
 cons:=all_cons qfu (all_cons qj1 (all_cons cut_holds (all_cons (show cEqS.lent.Holds Tryz.prog from eqS_holds) (all_cons qjv (all_cons qkt all_nil)))))
 ns:=all_cons qge (all_cons cloneG_holds all_nil)
 os:=all_cons qg0 all_nil
 fcs:=all_cons qkr all_nil
 rcs:=all_nil
 inls:=q0i.app inlHe_ok (q0i.more Tryz.func31 (by kernel_rfl) (by kernel_rfl) (q0i.more Tryz.func33 (by kernel_rfl) (by kernel_rfl) (q0i.more Tryz.func84 (by kernel_rfl) (by kernel_rfl) q0i.nil)))
set_option maxRecDepth 100000000 in
theorem ql9:cHere.Holds Tryz.prog:=by
 refine holdsX (T:=kitHr) (λp=>anHr ⟨p.1.1,p.1.2,p.2.1⟩ p.2.2.1 p.2.2.2.1 p.2.2.2.2) Tryz.func9 (by kernel_rfl) (by kernel_rfl) mixed (by kernel_rfl) kitHr_ok (λ_=>[q65 7]) λp hp=>?_
 obtain ⟨⟨lang,ws⟩,c,book,pt,text⟩:=p;refine cast ?_ (here_vc ⟨lang,ws,c⟩ book pt text hp)
 kernel_rfl
theorem part_len (e:Cod.Ear) (code:List Int) (i k:Nat) (hw:e.ws.length≤1000000):(q3n e code i k).length≤1000000:=by
 unfold q3n;rw [List.length_map];have h1:=Qs (λx=>!(x==code.getD i 0)) ((e.near (code.getD i 0)).take k)
 have h2:=qef e (code.getD i 0);rw [Qc] at h1;omega
theorem qb4 (e:Cod.Ear) (code:List Int) (i:Nat) (hw:e.ws.length≤1000000):(e.q40 code i).length≤1000002:=by
 rw [qhe (Qb _),Qi,List.length_cons];have:=part_len e code i (e.near (code.getD i 0)).length hw;split
 ·rw [List.length_nil];omega
 ·rw [Qk];omega
theorem qgy (e:Cod.Ear) (code:List Int) (hw:e.ws.length≤1000000):∀ k,(e.q1a code k 0).length≤k*1000002
 | 0=>by rw [Cod.Ear.q1a];simp
 | k+1=>by
  rw [qar,Qi];have:=qgy e code hw k;have:=qb4 e code k hw;omega
open Go.Lib
def IntsIn (w:World) (ok:Nat→Prop) (A:Option Addr) (n:Nat) (xs:List Int):Prop :=
 n=xs.length∧(0<n→∃ g off,A=some ⟨g,off,none⟩∧g<w.heap.size∧ok g∧∀ j,j<xs.length→w.cell? ⟨g,off+j,none⟩=some (.int .i64 (xs.getD j 0)))
open Go.Sort
structure SV (w:World) (S:Nat→Prop) where
 A:Option Addr
 c:Nat
 l:List Int
 small:l.length≤9223372036854775807
 cap:l.length≤c
 ok:IntsIn w S A l.length l
instance (w:World) (S:Nat→Prop):Inhabited (SV w S):=⟨⟨none,0,[],Qa _,Qb _,rfl,λh=>absurd h (Nat.lt_irrefl _)⟩⟩
end Go.Proofs.YtlfaaoalgcbcoaaGreatDoor
namespace Go.Proofs.YtlfaaoalgcbcoaaGreatDoor
open Go.RowKit R
open Go.Lib Go.Sort
end Go.Proofs.YtlfaaoalgcbcoaaGreatDoor
namespace Go.Proofs.YtlfaaoalgcbcoaaGreatDoor
open Go.RowKit R
theorem few_out41 {lang:List UInt8} {ws:List (List UInt8)} {c:CfP} {book:q0e} {m:Int} (h:q6c (lang,ws) c book m=true):q0w (lang,ws)∧q0n c∧(∀ g∈book,g.2.1.length≤8∧g.1.length≤60)∧(book.length:Int)≤m∧ws.length≤8:=by
 unfold q6c q7c q6u at h;simp only [Qo,Qd,decide_eq_true_eq] at h;obtain ⟨⟨h1,h2,h3⟩,⟨h4,h5⟩,h6,h7,h8,h9⟩:=h;exact ⟨⟨by show lang.length≤_;omega,by show ws.length≤_;omega,λs hs=>Nat.le_trans (h3 s hs) (by omega)⟩,⟨by omega,λx hx=>by have:=h5 x hx;omega⟩,h9,h8,h6⟩
theorem longB_of {book:q0e} {m:Int} (h:∀ g∈book,g.2.1.length≤8∧g.1.length≤60) (hm:(book.length:Int)≤m) (hm2:m≤1000):q6g book:=⟨by omega,λg hg=>by have:=h g hg;omega⟩
def cNear42:Con:=.of 36 [q43,ckPt] [q43] (λp=>Q4 p.1≤1000) (λp=>Q0 (Hea.q02 p.2) p.1)
def anNear42 (book:q0e) (p:Cod.Pt):List (Nat×Ann) :=
 [annX 0 Nat (λst k=>st.hd { live:=[0,3],sav:=[],box:=[3] } [(5,ownAV 34),(6,R.int .i64 k)] [] [(34,qbz ((book.take k).filter (Hea.q02 p)))] [] none)
  (λ_ k=>k≤book.length)
  (λ_ k=>book.length-k)]
def fewH (l:WlP) (c:CfP) (book:q0e) (text:List UInt8):Bool:=q6c l c book 8&&decide (text.length≤100)
def cFew42:Con:=.of 6 [ckWl,ckCf,q43,q28] [q13] (λ_=>True) (λp=>fewH p.1 p.2.1 p.2.2.1 p.2.2.2)
def bk42:q0e:=[([101,49],[0,0,3],false,0,0),([101,50],[1,3,0],false,0,0)]
def q25:List (List UInt8):=[[98,97,100,32,98,97,100,32,115,101,97],[98,97,100,32,112,97,100,32,115,101,97],[98,97,100,32,115,101,97],[98,97,100,32,115,101,97,32,98,97,100],[115,101,97,32,98,97,110,32,98,97,100],[112,97,110,32,115,101,97,32,98,97,100]]
def q37:List (List UInt8):=[[101,49],[101,49],[101,49],[101,49],[101,50],[101,50]]
def wd42:List (List UInt8):=[[98,97,100],[98,97,110],[112,97,110],[115,101,97]]
def cf42:CfP:=[([98],[112])]
def e42:Cod.Ear:=⟨[101,110],wd42,cf42⟩
def confRow (l:CfP):Row:=⟨53,kCf,l⟩
def cHead42:Con:=.of 5 [] [q13] (λ_=>True) (λ_=>true)
def anHead42:List (Nat×Ann) :=
  [annX 0 Nat (λst k=>st.hd { live:=[1,2,3,5,6],sav:=[],box:=[1] } [(4,R.bool true),(7,R.int .i64 k)] [] [(20,q4d wd42),(23,confRow cf42),(28,qbz bk42),(29,q4d q25),(30,q4d q37)] [] none)
    (λ_ k=>k≤6)
    (λ_ k=>6-k),
   q65 10]
theorem ex_hear0:Hea.q1f e42 bk42 (q25.getD 0 [])=(q37.getD 0 [],false,0):=by kernel_rfl
theorem ex_hear1:Hea.q1f e42 bk42 (q25.getD 1 [])=(q37.getD 1 [],true,0):=by kernel_rfl
theorem ex_hear2:Hea.q1f e42 bk42 (q25.getD 2 [])=(q37.getD 2 [],true,0):=by kernel_rfl
theorem ex_hear3:Hea.q1f e42 bk42 (q25.getD 3 [])=(q37.getD 3 [],true,0):=by kernel_rfl
theorem ex_hear4:Hea.q1f e42 bk42 (q25.getD 4 [])=(q37.getD 4 [],true,0):=by kernel_rfl
theorem ex_hear5:Hea.q1f e42 bk42 (q25.getD 5 [])=(q37.getD 5 [],true,0):=by kernel_rfl
theorem ex_hear {k:Nat} (hk:k<6):Hea.q1f e42 bk42 (q25.getD k [])=(q37.getD k [],decide ((0:Int)<(k:Int)),0):=by
 match k with
 | 0=>exact ex_hear0
 | 1=>exact ex_hear1
 | 2=>exact ex_hear2
 | 3=>exact ex_hear3
 | 4=>exact ex_hear4
 | 5=>exact ex_hear5
 | n+6=>omega
def cSameW:Con:=.of 119 [qac,qac] [q13] (λp=>Q4 p.1≤1000000000000000) (λp=>p.1==p.2)
def anSameW (a b:List (List UInt8)):List (Nat×Ann) :=
 [ann 0 Nat [0,1] (λk=>[(5,R.int .i64 k)]) (λk=>k≤a.length∧a.take k=b.take k) (λk=>a.length-k)]
def cExact:Con:=.of 79 [ckWl,q44,qac] [q13] (λp=>Q4 p.2.1≤1000000∧Cod.inB p.1.2.length p.2.1=true) (λp=>Hea.ownW p.1.2 p.2.1==p.2.2)
def anExact (ws:List (List UInt8)) (code:List Int):List (Nat×Ann) :=
 [annX 0 Nat (λst k=>st.hd { live:=[1,2,3],sav:=[],box:=[3] } [(7,ownAV 25),(8,R.int .i64 k)] [] [(25,q4d (Hea.ownW ws (code.take k)))] [] none)
  (λ_ k=>k≤code.length) (λ_ k=>code.length-k),q65 5]
set_option maxRecDepth 100000 in
theorem sameW_vc (a b:List (List UInt8)) (h:cSameW.pre (a,b)) :
    bif (a.length:Int) != (b.length:Int) then false=(a==b) else (∃ (p':Nat),(p'≤a.length∧Q8 p' a=Q8 p' b)∧((0:Int)=(p':Int)∧a=a∧b=b∧True) ∧
    True∧True∧True∧True∧True∧True∧True∧True∧True)∧∀ (p:Nat),p≤a.length∧Q8 p a=Q8 p b→bif decide ((p:Int)<(a.length:Int)) then ((0:Int)≤(↑p
    : Int)∧(p:Int)<(a.length:Int))∧((0:Int)≤(p:Int)∧(p:Int)<(b.length:Int))∧bif !a.getD (p:Int).toNat []==b.getD (p:Int).toNat [] then false=(a==b)
    else ((-9223372036854775808:Int)≤(p:Int)+(1:Int)∧(p:Int)+(1:Int)≤(9223372036854775807:Int))∧∃ (p':Nat),(p'≤a.length∧Q8 p' a=Q8 p' b) ∧
    a.length-p'<a.length-p∧((p:Int)+(1:Int)=(p':Int)∧a=a∧b=b∧True)∧True∧True∧True∧True∧True∧True∧True∧True∧True else true=(a==b)
     := by
  have h:a.length≤1000000000000000:=h;simp only [true_and,and_true,eq_self];refine bifP (λhb=>?_) λhb=>?_
  · have hl:a.length≠b.length:=by have:=bne_iff_ne.1 hb;omega
    symm
    rw [beq_eq_false_iff_ne];intro e;exact hl (by rw [e])
  have hl:a.length=b.length:=by have:=bne_eq_false_iff_eq.1 hb;omega
  refine ⟨⟨0,⟨Qa _,rfl⟩,rfl⟩,?_⟩;rintro p ⟨hp,ht⟩;have hti:((p:Int).toNat)=p:=rfl;simp only [hti];refine bifP (λhb=>?_) λhb=>?_
  · have hlt:p<a.length:=by have:=of_decide_eq_true hb;omega
    refine ⟨⟨by omega,by omega⟩,⟨by omega,by omega⟩,bifP (λhb=>?_) λh1=>⟨⟨by omega,by omega⟩,p+1,⟨by omega,?_⟩,by omega,by omega⟩⟩
    · symm
      rw [beq_eq_false_iff_ne];intro e;rw [e] at hb;exact (bne_iff_ne.1 hb) rfl
    · rw [Snd.q0q a [] p hlt,Snd.q0q b [] p (by omega),ht,bne_eq_false_iff_eq.1 h1]
  · have hle:a.length≤p:=by have:=of_decide_eq_false hb;omega
    rw [Qe hle,Qe (by omega)] at ht
    rw [ht,beq_self_eq_true]
set_option maxRecDepth 100000 in
theorem qif:cSameW.Holds Tryz.prog:=by
 refine q0o (cons:=[]) Tryz.func119 (by kernel_rfl) (by kernel_rfl) mixed (by kernel_rfl) all_nil (λp=>anSameW p.1 p.2) λp hp=>?_
 obtain ⟨a,b⟩:=p;refine cast ?_ (sameW_vc a b hp)
 kernel_rfl
end Go.Proofs.YtlfaaoalgcbcoaaGreatDoor

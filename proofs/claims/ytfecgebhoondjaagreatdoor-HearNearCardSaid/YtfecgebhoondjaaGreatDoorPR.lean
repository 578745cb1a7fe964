/-
  Several texts in one: HeJ, HeM, HeN, HeNV, HeO, HeQ, CoGL, CoGB, CoGC, CoS.
-/
import Derived.Test.YtfecgebhoondjaaGreatDoorPQ
import Derived.Test.YtfecgebhoondjaaGreatDoorPP
import Derived.Test.YtfecgebhoondjaaGreatDoorPA
import Derived.Test.YtfecgebhoondjaaGreatDoorPN
import Derived.Test.YtfecgebhoondjaaGreatDoorPO
set_option linter.unusedVariables false
namespace Go.Proofs.YtfecgebhoondjaaGreatDoor
open Go.RowKit R
abbrev q2i (book:q0d) (e:Cod.Ear) (p_1:Nat×List (List UInt8)):Prop :=
 ((True∧True∧True)∧(e.c=e.c∧True)∧(e.lang=e.lang∧e.ws=e.ws∧True)∧((List.getD book (p_1.1:Int).toNat Cod.noG).1=(List.getD book (p_1.1:Int).toNat Cod.noG).1∧(List.getD book (p_1.1:Int).toNat Cod.noG).2.1=(List.getD book (p_1.1:Int).toNat Cod.noG).2.1∧(List.getD book (p_1.1:Int).toNat Cod.noG).2.2.1=(List.getD book (p_1.1:Int).toNat Cod.noG).2.2.1∧(List.getD book (p_1.1:Int).toNat Cod.noG).2.2.2.1=(List.getD book (p_1.1:Int).toNat Cod.noG).2.2.2.1∧(List.getD book (p_1.1:Int).toNat Cod.noG).2.2.2.2=(List.getD book (p_1.1:Int).toNat Cod.noG).2.2.2.2∧True)∧(True∧True)∧True)
abbrev q4c (book:q0d) (p_1:Nat×List (List UInt8)) (p_3:Nat):Prop :=
 (True∧True∧(p_3:Int)=(p_3:Int)∧(↑[((102:Nat),[(nat_lit 22011,nat_lit 0)].length,[(nat_lit 22011,nat_lit 0)]++[]),((103:Nat),[(nat_lit 22011,nat_lit 0)].length,[(nat_lit 22011,nat_lit 0)]++[]),((104:Nat),[(nat_lit 22011,nat_lit 0)].length,[(nat_lit 22011,nat_lit 0)]++[])].length:Int)=(↑[((102:Nat),[(nat_lit 22011,nat_lit 0)].length,[(nat_lit 22011,nat_lit 0)]++[]),((103:Nat),[(nat_lit 22011,nat_lit 0)].length,[(nat_lit 22011,nat_lit 0)]++[]),((104:Nat),[(nat_lit 22011,nat_lit 0)].length,[(nat_lit 22011,nat_lit 0)]++[])].length:Int)∧(p_3:Int)=(p_3:Int)∧True∧True∧True∧True∧True∧book=book∧(↑(List.length book):Int)=(↑(List.length book):Int)∧(p_1.1:Int)=(p_1.1:Int)∧True)
abbrev qba (p':Nat) (p_3:Nat):Prop :=
 ((p_3:Int)+1=(p':Int)∧True∧True∧(↑[((102:Nat),[(nat_lit 22011,nat_lit 0)].length,[(nat_lit 22011,nat_lit 0)]++[]),((103:Nat),[(nat_lit 22011,nat_lit 0)].length,[(nat_lit 22011,nat_lit 0)]++[]),((104:Nat),[(nat_lit 22011,nat_lit 0)].length,[(nat_lit 22011,nat_lit 0)]++[])].length:Int)=(↑[((102:Nat),[(nat_lit 22011,nat_lit 0)].length,[(nat_lit 22011,nat_lit 0)]++[]),((103:Nat),[(nat_lit 22011,nat_lit 0)].length,[(nat_lit 22011,nat_lit 0)]++[]),((104:Nat),[(nat_lit 22011,nat_lit 0)].length,[(nat_lit 22011,nat_lit 0)]++[])].length:Int)∧True)
abbrev q9d (e:Cod.Ear) (p:Bool×List UInt8×List (List UInt8)) (p':Nat) (p_2:Nat×List (List UInt8)):Prop :=
 (p'≤(3:Nat)∧((1:Nat)≤p'→Hea.q3k (Hea.q05 e) p_2.2 p.2.2=false)∧((2:Nat)≤p'→Hea.q3w p_2.2 p.2.2=false)∧((3:Nat)≤p'→Hea.q3x p_2.2 p.2.2=false))
abbrev q7r (book:q0d) (e:Cod.Ear) (p:Bool×List UInt8×List (List UInt8)) (p':Nat×List (List UInt8)):Prop :=
 (p'.1≤List.length book∧p'.2.length≤p'.1∧Hea.q0i (Hea.q05 e) e.ws p.2.2 book []=Hea.q0i (Hea.q05 e) e.ws p.2.2 (List.drop p'.1 book) p'.2)
abbrev zHeJ0_5 (book:q0d) (e:Cod.Ear) (p:Bool×List UInt8×List (List UInt8)) (text:List UInt8):Prop :=
 ((p.2.2.length+[(cutF p.2.1).1].length)*(16:Nat)≤(140737488355328:Nat)∧∃ (p':Bool×List UInt8×List (List UInt8)),q49 text p'.1 p'.2.1 p'.2.2∧((if p'.1=true then p'.2.1.length+(1:Nat) else (0:Nat))<if p.1=true then p.2.1.length+(1:Nat) else (0:Nat))∧((cutF p.2.1).2.2=p'.1∧True∧True∧True)∧(((cutF p.2.1).2.1=p'.2.1∧True)∧(True∧True∧True)∧(e.c=e.c∧True)∧(True∧True)∧(false=false∧True)∧(True∧True)∧(e.lang=e.lang∧e.ws=e.ws∧True)∧True)∧(p.2.2++[(cutF p.2.1).1]=p'.2.2∧True)∧True∧True∧(True∧True∧True∧book=book∧True∧True)∧True∧True∧True∧True∧(True∧True∧True∧True)∧True)
abbrev q9g (book:q0d) (p_1:Nat×List (List UInt8)):Prop :=
 (True∧True∧True∧True∧True∧book=book∧(↑(List.length book):Int)=(↑(List.length book):Int)∧(p_1.1:Int)=(p_1.1:Int)∧True)
abbrev q9s (book:q0d) (p':Nat×List (List UInt8)) (p_1:Nat×List (List UInt8)):Prop :=
 ((p_1.1:Int)+1=(p'.1:Int)∧True∧(↑(List.length book):Int)=(↑(List.length book):Int)∧True∧True∧True∧book=book∧True)
abbrev zHeJ0_8 (book:q0d) (e:Cod.Ear) (p_1:Nat×List (List UInt8)):Prop :=
 ((True∧True)∧(True∧True∧True)∧(e.c=e.c∧True)∧(e.lang=e.lang∧e.ws=e.ws∧True)∧((List.getD book (p_1.1:Int).toNat Cod.noG).1=(List.getD book (p_1.1:Int).toNat Cod.noG).1∧(List.getD book (p_1.1:Int).toNat Cod.noG).2.1=(List.getD book (p_1.1:Int).toNat Cod.noG).2.1∧(List.getD book (p_1.1:Int).toNat Cod.noG).2.2.1=(List.getD book (p_1.1:Int).toNat Cod.noG).2.2.1∧(List.getD book (p_1.1:Int).toNat Cod.noG).2.2.2.1=(List.getD book (p_1.1:Int).toNat Cod.noG).2.2.2.1∧(List.getD book (p_1.1:Int).toNat Cod.noG).2.2.2.2=(List.getD book (p_1.1:Int).toNat Cod.noG).2.2.2.2∧True)∧True)
abbrev q7v (e:Cod.Ear):Prop :=
 ((True∧True∧True)∧(e.c=e.c∧True)∧(e.lang=e.lang∧e.ws=e.ws∧True)∧True)
abbrev q25 (p:Bool×List UInt8×List (List UInt8)) (p_1:Nat×List (List UInt8)) (p_2:Nat×List (List UInt8)):Prop :=
 (p.2.2=p.2.2∧p_1.2=p_1.2∧p_2.2=p_2.2∧True)
abbrev qem (e:Cod.Ear) (p:Bool×List UInt8×List (List UInt8)) (p':Nat×Nat) (p_2:Nat×List (List UInt8)):Prop :=
 (p'.1≤p.2.2.length∧p'.2=(Hea.diff (List.take p'.1 p_2.2) (List.take p'.1 p.2.2)).length∧((Hea.diff (List.take p'.1 p_2.2) (List.take p'.1 p.2.2)).all λ(q:Hea.Str×Hea.Str)=>Hea.q05 e q.1 q.2)=true)
abbrev qey (p_2:Nat×List (List UInt8)) (p_4:Nat):Prop :=
 ((p_4:Int)+1=(p_4:Int)+1∧0≤(p_4:Int)∧(p_4:Int)<(p_2.2.length:Int))
set_option maxRecDepth 100000 in
theorem hear_vc (e:Cod.Ear) (book:q0d) (text:List UInt8) (h:cHear.pre ((e.lang,e.ws),e.c,book,text)) :
  (q0x (e.lang,e.ws)∧q0o e.c∧q5l book)∧bif !e.proper book then ([],false,(1:Int))=Hea.q2e e book text else (∃ (p':Bool×List UInt8×List (List UInt8)),q49 text p'.1 p'.2.1 p'.2.2∧(true=p'.1∧True∧True∧True)∧((text=p'.2.1∧True)∧(True∧True∧True)∧(e.c=e.c∧True)∧(True∧True)∧(false=false∧True)∧(True∧True)∧(e.lang=e.lang∧e.ws=e.ws∧True)∧True)∧(p'.2.2=[]∧True)∧True∧True∧(True∧True∧True∧book=book∧True∧True)∧True∧True∧True∧True∧(True∧True∧True∧True)∧True)∧∀ (p:Bool×List UInt8×List (List UInt8)),q49 text p.1 p.2.1 p.2.2→bif p.1 then (p.2.1.length≤(1000000:Nat)∧[(32:UInt8)]=[(32:UInt8)])∧(cutF p.2.1).1.length≤(1000000:Nat)∧bif (cutF p.2.1).1.any λ(c:UInt8)=>!Snd.letB c then ([],false,(5:Int))=Hea.q2e e book text else bif (cutF p.2.1).1==[] then ([],false,(5:Int))=Hea.q2e e book text else bif decide ((12:Int)<(↑(cutF p.2.1).1.length:Int)) then ([],false,(5:Int))=Hea.q2e e book text else bif (p.2.2.length:Int)==(5:Int) then ([],false,(5:Int))=Hea.q2e e book text else (zHeJ0_5 book e p text)∧(zHeJ0_5 book e p text)∧(p.2.2.length+[(cutF p.2.1).1].length)*(16:Nat)≤(140737488355328:Nat)∧∃ (p':Bool×List UInt8×List (List UInt8)),q49 text p'.1 p'.2.1 p'.2.2∧((if p'.1=true then p'.2.1.length+(1:Nat) else (0:Nat))<if p.1=true then p.2.1.length+(1:Nat) else (0:Nat))∧((cutF p.2.1).2.2=p'.1∧True∧True∧True)∧(((cutF p.2.1).2.1=p'.2.1∧True)∧(True∧True∧True)∧(e.c=e.c∧True)∧(True∧True)∧(false=false∧True)∧(True∧True)∧(e.lang=e.lang∧e.ws=e.ws∧True)∧True)∧(p.2.2++[(cutF p.2.1).1]=p'.2.2∧True)∧True∧True∧(True∧True∧True∧book=book∧True∧True)∧True∧True∧True∧True∧(True∧True∧True∧True)∧True else (∃ (p':Nat×List (List UInt8)),(q7r book e p p')∧((0:Int)=(p'.1:Int)∧True∧(↑(List.length book):Int)=(↑(List.length book):Int)∧True∧True∧True∧book=book∧True)∧(q7v e)∧(p.2.2=p.2.2∧p'.2=[]∧True)∧True∧True∧True∧True∧True∧True∧True)∧∀ (p_1:Nat×List (List UInt8)),p_1.1≤List.length book∧p_1.2.length≤p_1.1∧Hea.q0i (Hea.q05 e) e.ws p.2.2 book []=Hea.q0i (Hea.q05 e) e.ws p.2.2 (List.drop p_1.1 book) p_1.2→bif decide ((p_1.1:Int)<(↑(List.length book):Int)) then (0≤(p_1.1:Int)∧(p_1.1:Int)<(↑(List.length book):Int))∧(∃ (p':Nat×List (List UInt8)),(p'.1≤(List.getD book (p_1.1:Int).toNat Cod.noG).2.1.length∧p'.2=Hea.ownW e.ws (List.take p'.1 (List.getD book (p_1.1:Int).toNat Cod.noG).2.1))∧((0:Int)=(p'.1:Int)∧True∧True∧True∧True∧True∧True∧book=book∧(↑(List.length book):Int)=(↑(List.length book):Int)∧(p_1.1:Int)=(p_1.1:Int)∧(List.getD book (p_1.1:Int).toNat Cod.noG).2.1=(List.getD book (p_1.1:Int).toNat Cod.noG).2.1∧(↑(List.getD book (p_1.1:Int).toNat Cod.noG).2.1.length:Int)=(↑(List.getD book (p_1.1:Int).toNat Cod.noG).2.1.length:Int)∧True)∧(zHeJ0_8 book e p_1)∧(p'.2=[]∧p.2.2=p.2.2∧p_1.2=p_1.2∧True)∧True∧True∧True∧True∧True∧True∧True)∧∀ (p_2:Nat×List (List UInt8)),p_2.1≤(List.getD book (p_1.1:Int).toNat Cod.noG).2.1.length∧p_2.2=Hea.ownW e.ws (List.take p_2.1 (List.getD book (p_1.1:Int).toNat Cod.noG).2.1)→bif decide ((p_2.1:Int)<(↑(List.getD book (p_1.1:Int).toNat Cod.noG).2.1.length:Int)) then (0≤(p_2.1:Int)∧(p_2.1:Int)<(↑(List.getD book (p_1.1:Int).toNat Cod.noG).2.1.length:Int))∧((0:Int)≤(List.getD book (p_1.1:Int).toNat Cod.noG).2.1.getD (p_2.1:Int).toNat (0:Int)∧(List.getD book (p_1.1:Int).toNat Cod.noG).2.1.getD (p_2.1:Int).toNat 0<(e.ws.length:Int))∧(p_2.2.length+[e.ws.getD ((List.getD book (p_1.1:Int).toNat Cod.noG).2.1.getD (p_2.1:Int).toNat (0:Int)).toNat []].length)*(16:Nat)≤(140737488355328:Nat)∧(zFit ((p_2.1:Int)+1))∧∃ (p':Nat×List (List UInt8)),(p'.1≤(List.getD book (p_1.1:Int).toNat Cod.noG).2.1.length∧p'.2=Hea.ownW e.ws (List.take p'.1 (List.getD book (p_1.1:Int).toNat Cod.noG).2.1))∧(List.getD book (p_1.1:Int).toNat Cod.noG).2.1.length-p'.1<(List.getD book (p_1.1:Int).toNat Cod.noG).2.1.length-p_2.1∧((p_2.1:Int)+1=(p'.1:Int)∧True∧True∧True∧True∧True∧True∧book=book∧(↑(List.length book):Int)=(↑(List.length book):Int)∧(p_1.1:Int)=(p_1.1:Int)∧(List.getD book (p_1.1:Int).toNat Cod.noG).2.1=(List.getD book (p_1.1:Int).toNat Cod.noG).2.1∧(↑(List.getD book (p_1.1:Int).toNat Cod.noG).2.1.length:Int)=(↑(List.getD book (p_1.1:Int).toNat Cod.noG).2.1.length:Int)∧True)∧(zHeJ0_8 book e p_1)∧(p_2.2++[e.ws.getD ((List.getD book (p_1.1:Int).toNat Cod.noG).2.1.getD (p_2.1:Int).toNat (0:Int)).toNat []]=p'.2∧p.2.2=p.2.2∧p_1.2=p_1.2∧True)∧True∧True∧True∧True∧True∧True∧True else (p_2.2.length≤(1000000:Nat)∧p.2.2.length≤(1000000:Nat))∧bif p_2.2==p.2.2 then ((List.getD book (p_1.1:Int).toNat Cod.noG).1,false,(0:Int))=Hea.q2e e book text else (∃ (p':Nat),(q9d e p p' p_2)∧((0:Int)=(p':Int)∧True∧True∧(↑[((102:Nat),[(nat_lit 22011,nat_lit 0)].length,[(nat_lit 22011,nat_lit 0)]++[]),((103:Nat),[(nat_lit 22011,nat_lit 0)].length,[(nat_lit 22011,nat_lit 0)]++[]),((104:Nat),[(nat_lit 22011,nat_lit 0)].length,[(nat_lit 22011,nat_lit 0)]++[])].length:Int)=(↑[((102:Nat),[(nat_lit 22011,nat_lit 0)].length,[(nat_lit 22011,nat_lit 0)]++[]),((103:Nat),[(nat_lit 22011,nat_lit 0)].length,[(nat_lit 22011,nat_lit 0)]++[]),((104:Nat),[(nat_lit 22011,nat_lit 0)].length,[(nat_lit 22011,nat_lit 0)]++[])].length:Int)∧True)∧(q2i book e p_1)∧(q25 p p_1 p_2)∧True∧True∧(q9g book p_1)∧True∧True∧True∧True)∧∀ (p_3:Nat),p_3≤(3:Nat)∧((1:Nat)≤p_3→Hea.q3k (Hea.q05 e) p_2.2 p.2.2=false)∧((2:Nat)≤p_3→Hea.q3w p_2.2 p.2.2=false)∧((3:Nat)≤p_3→Hea.q3x p_2.2 p.2.2=false)→bif decide ((p_3:Int)<(↑[((102:Nat),[(nat_lit 22011,nat_lit 0)].length,[(nat_lit 22011,nat_lit 0)]++[]),((103:Nat),[(nat_lit 22011,nat_lit 0)].length,[(nat_lit 22011,nat_lit 0)]++[]),((104:Nat),[(nat_lit 22011,nat_lit 0)].length,[(nat_lit 22011,nat_lit 0)]++[])].length:Int)) then (0≤(p_3:Int)∧(p_3:Int)<(↑[((102:Nat),[(nat_lit 22011,nat_lit 0)].length,[(nat_lit 22011,nat_lit 0)]++[]),((103:Nat),[(nat_lit 22011,nat_lit 0)].length,[(nat_lit 22011,nat_lit 0)]++[]),((104:Nat),[(nat_lit 22011,nat_lit 0)].length,[(nat_lit 22011,nat_lit 0)]++[])].length:Int))∧((p_3:Int)=(↑(nat_lit 0):Int)→bif (p_2.2.length:Int) != (p.2.2.length:Int) then (zFit ((p_3:Int)+1))∧∃ (p':Nat),(q9d e p p' p_2)∧(3:Nat)-p'<(3:Nat)-p_3∧(qba p' p_3)∧(q2i book e p_1)∧(q25 p p_1 p_2)∧True∧True∧(q9g book p_1)∧True∧True∧True∧True else (∃ (p':Nat×Nat),(qem e p p' p_2)∧((0:Int)=(p'.1:Int)∧(0:Int)=(p'.2:Int)∧True∧True∧True∧(p.2.2.length:Int)=(p.2.2.length:Int)∧True)∧(q2i book e p_1)∧(q25 p p_1 p_2)∧True∧True∧(q4c book p_1 p_3)∧True∧True∧True∧True)∧∀ (p_4:Nat×Nat),p_4.1≤p.2.2.length∧p_4.2=(Hea.diff (List.take p_4.1 p_2.2) (List.take p_4.1 p.2.2)).length∧((Hea.diff (List.take p_4.1 p_2.2) (List.take p_4.1 p.2.2)).all λ(q:Hea.Str×Hea.Str)=>Hea.q05 e q.1 q.2)=true→bif decide ((p_4.1:Int)<(p.2.2.length:Int)) then (0≤(p_4.1:Int)∧(p_4.1:Int)<(p.2.2.length:Int))∧(0≤(p_4.1:Int)∧(p_4.1:Int)<(p_2.2.length:Int))∧bif !p.2.2.getD (p_4.1:Int).toNat []==p_2.2.getD (p_4.1:Int).toNat [] then (zFit ((p_4.2:Int)+1))∧(0≤(p_4.1:Int)∧(p_4.1:Int)<(p_2.2.length:Int))∧(q0o e.c∧(p_2.2.getD (p_4.1:Int).toNat []).length≤(1000000:Nat)∧(p.2.2.getD (p_4.1:Int).toNat []).length≤(1000000:Nat))∧bif !Snd.q29 e.c (p_2.2.getD (p_4.1:Int).toNat []) (p.2.2.getD (p_4.1:Int).toNat []) then (zFit ((p_3:Int)+1))∧∃ (p':Nat),(q9d e p p' p_2)∧(3:Nat)-p'<(3:Nat)-p_3∧(qba p' p_3)∧(q2i book e p_1)∧(q25 p p_1 p_2)∧True∧True∧(q9g book p_1)∧True∧True∧True∧True else (zFit ((p_4.1:Int)+1))∧∃ (p':Nat×Nat),(qem e p p' p_2)∧p.2.2.length-p'.1<p.2.2.length-p_4.1∧((p_4.1:Int)+1=(p'.1:Int)∧(p_4.2:Int)+1=(p'.2:Int)∧True∧True∧True∧(p.2.2.length:Int)=(p.2.2.length:Int)∧True)∧(q2i book e p_1)∧(q25 p p_1 p_2)∧True∧True∧(q4c book p_1 p_3)∧True∧True∧True∧True else (zFit ((p_4.1:Int)+1))∧∃ (p':Nat×Nat),(qem e p p' p_2)∧p.2.2.length-p'.1<p.2.2.length-p_4.1∧((p_4.1:Int)+1=(p'.1:Int)∧(p_4.2:Int)=(p'.2:Int)∧True∧True∧True∧(p.2.2.length:Int)=(p.2.2.length:Int)∧True)∧(q2i book e p_1)∧(q25 p p_1 p_2)∧True∧True∧(q4c book p_1 p_3)∧True∧True∧True∧True else bif (p_4.2:Int)==(1:Int) then (p_1.2.length+[(List.getD book (p_1.1:Int).toNat Cod.noG).1].length)*(16:Nat)≤(140737488355328:Nat)∧(zFit ((p_1.1:Int)+1))∧∃ (p':Nat×List (List UInt8)),(q7r book e p p')∧List.length book-p'.1<List.length book-p_1.1∧(q9s book p' p_1)∧(q7v e)∧(p.2.2=p.2.2∧p_1.2++[(List.getD book (p_1.1:Int).toNat Cod.noG).1]=p'.2∧True)∧True∧True∧True∧True∧True∧True∧True else (zFit ((p_3:Int)+1))∧∃ (p':Nat),(q9d e p p' p_2)∧(3:Nat)-p'<(3:Nat)-p_3∧(qba p' p_3)∧(q2i book e p_1)∧(q25 p p_1 p_2)∧True∧True∧(q9g book p_1)∧True∧True∧True∧True)∧((p_3:Int)=(↑(nat_lit 1):Int)→(∃ (p':Nat),(p'≤p_2.2.length∧∀ (i:Nat),i<p'→(p_2.2.eraseIdx i==p.2.2)=false)∧((0:Int)=(p':Int)∧True∧True∧(p_2.2.length:Int)=(p_2.2.length:Int)∧True)∧(q2i book e p_1)∧(q25 p p_1 p_2)∧True∧True∧(q4c book p_1 p_3)∧True∧True∧True∧True)∧∀ (p_4:Nat),(p_4≤p_2.2.length∧∀ (i:Nat),i<p_4→(p_2.2.eraseIdx i==p.2.2)=false)→bif decide ((p_4:Int)<(p_2.2.length:Int)) then (zFit ((p_4:Int)+1))∧(p_2.2.length≤(1000000:Nat)∧((qey p_2 p_4)∧((p_2.2.eraseIdx (p_4:Int).toNat).length≤(1000000:Nat)∧p.2.2.length≤(1000000:Nat))∧bif p_2.2.eraseIdx (p_4:Int).toNat==p.2.2 then (p_1.2.length+[(List.getD book (p_1.1:Int).toNat Cod.noG).1].length)*(16:Nat)≤(140737488355328:Nat)∧(zFit ((p_1.1:Int)+1))∧∃ (p':Nat×List (List UInt8)),(q7r book e p p')∧List.length book-p'.1<List.length book-p_1.1∧(q9s book p' p_1)∧(q7v e)∧(p.2.2=p.2.2∧p_1.2++[(List.getD book (p_1.1:Int).toNat Cod.noG).1]=p'.2∧True)∧True∧True∧True∧True∧True∧True∧True else (zFit ((p_4:Int)+1))∧∃ (p':Nat),(p'≤p_2.2.length∧∀ (i:Nat),i<p'→(p_2.2.eraseIdx i==p.2.2)=false)∧p_2.2.length-p'<p_2.2.length-p_4∧((p_4:Int)+1=(p':Int)∧True∧True∧(p_2.2.length:Int)=(p_2.2.length:Int)∧True)∧(q2i book e p_1)∧(q25 p p_1 p_2)∧True∧True∧(q4c book p_1 p_3)∧True∧True∧True∧True)∧(qey p_2 p_4)∧((p_2.2.eraseIdx (p_4:Int).toNat).length≤(1000000:Nat)∧p.2.2.length≤(1000000:Nat))∧bif p_2.2.eraseIdx (p_4:Int).toNat==p.2.2 then (p_1.2.length+[(List.getD book (p_1.1:Int).toNat Cod.noG).1].length)*(16:Nat)≤(140737488355328:Nat)∧(zFit ((p_1.1:Int)+1))∧∃ (p':Nat×List (List UInt8)),(q7r book e p p')∧List.length book-p'.1<List.length book-p_1.1∧(q9s book p' p_1)∧(q7v e)∧(p.2.2=p.2.2∧p_1.2++[(List.getD book (p_1.1:Int).toNat Cod.noG).1]=p'.2∧True)∧True∧True∧True∧True∧True∧True∧True else (zFit ((p_4:Int)+1))∧∃ (p':Nat),(p'≤p_2.2.length∧∀ (i:Nat),i<p'→(p_2.2.eraseIdx i==p.2.2)=false)∧p_2.2.length-p'<p_2.2.length-p_4∧((p_4:Int)+1=(p':Int)∧True∧True∧(p_2.2.length:Int)=(p_2.2.length:Int)∧True)∧(q2i book e p_1)∧(q25 p p_1 p_2)∧True∧True∧(q4c book p_1 p_3)∧True∧True∧True∧True)∧p_2.2.length≤(1000000:Nat)∧(qey p_2 p_4)∧((p_2.2.eraseIdx (p_4:Int).toNat).length≤(1000000:Nat)∧p.2.2.length≤(1000000:Nat))∧bif p_2.2.eraseIdx (p_4:Int).toNat==p.2.2 then (p_1.2.length+[(List.getD book (p_1.1:Int).toNat Cod.noG).1].length)*(16:Nat)≤(140737488355328:Nat)∧(zFit ((p_1.1:Int)+1))∧∃ (p':Nat×List (List UInt8)),(q7r book e p p')∧List.length book-p'.1<List.length book-p_1.1∧(q9s book p' p_1)∧(q7v e)∧(p.2.2=p.2.2∧p_1.2++[(List.getD book (p_1.1:Int).toNat Cod.noG).1]=p'.2∧True)∧True∧True∧True∧True∧True∧True∧True else (zFit ((p_4:Int)+1))∧∃ (p':Nat),(p'≤p_2.2.length∧∀ (i:Nat),i<p'→(p_2.2.eraseIdx i==p.2.2)=false)∧p_2.2.length-p'<p_2.2.length-p_4∧((p_4:Int)+1=(p':Int)∧True∧True∧(p_2.2.length:Int)=(p_2.2.length:Int)∧True)∧(q2i book e p_1)∧(q25 p p_1 p_2)∧True∧True∧(q4c book p_1 p_3)∧True∧True∧True∧True else (zFit ((p_3:Int)+1))∧∃ (p':Nat),(q9d e p p' p_2)∧(3:Nat)-p'<(3:Nat)-p_3∧(qba p' p_3)∧(q2i book e p_1)∧(q25 p p_1 p_2)∧True∧True∧(q9g book p_1)∧True∧True∧True∧True)∧((p_3:Int)=(↑(nat_lit 2):Int)→(zFit ((p_2.2.length:Int)-1))∧(∃ (p':Nat),(p'≤p_2.2.length-(1:Nat)∧∀ (i:Nat),i<p'→(Hea.q13 p_2.2 i==p.2.2&&p_2.2.getD i [] != p_2.2.getD (i+(1:Nat)) [])=false)∧((0:Int)=(p':Int)∧True∧True∧(p_2.2.length:Int)-1=(p_2.2.length:Int)-1∧True)∧(q2i book e p_1)∧(q25 p p_1 p_2)∧True∧True∧(q4c book p_1 p_3)∧True∧True∧True∧True)∧∀ (p_4:Nat),(p_4≤p_2.2.length-(1:Nat)∧∀ (i:Nat),i<p_4→(Hea.q13 p_2.2 i==p.2.2&&p_2.2.getD i [] != p_2.2.getD (i+(1:Nat)) [])=false)→bif decide ((p_4:Int)<(p_2.2.length:Int)-1) then p_2.2.length≤(1000000:Nat)∧((zFit ((p_4:Int)+1))∧(0≤(p_4:Int)+1∧(p_4:Int)+1<(p_2.2.length:Int))∧(0≤(p_4:Int)∧(p_4:Int)<(p_2.2.length:Int))∧(0≤(p_4:Int)∧(p_4:Int)<(p_2.2.length:Int))∧(zFit ((p_4:Int)+1))∧bif (p_4:Int).toNat.beq (p_4:Int).toNat then (0≤(p_4:Int)+1∧(p_4:Int)+1<(↑(p_2.2.set (p_4:Int).toNat (p_2.2.getD ((p_4:Int)+1).toNat [])).length:Int))∧bif ((p_4:Int)+1).toNat.beq ((p_4:Int)+1).toNat then ∃ (p':Unit),True∧(True∧True∧(p_4:Int)=(p_4:Int)∧True∧(p_2.2.length:Int)-1=(p_2.2.length:Int)-1∧(p_4:Int)=(p_4:Int)∧True)∧(q2i book e p_1)∧((p_2.2.set (p_4:Int).toNat (p_2.2.getD ((p_4:Int)+1).toNat [])).set ((p_4:Int)+1).toNat (p_2.2.getD (p_4:Int).toNat [])=Hea.q13 p_2.2 (p_4:Int).toNat∧p.2.2=p.2.2∧p_1.2=p_1.2∧p_2.2=p_2.2∧True)∧True∧True∧(q4c book p_1 p_3)∧True∧True∧True∧True else False else False)∧∀ (p_5:Unit),True→((Hea.q13 p_2.2 (p_4:Int).toNat).length≤(1000000:Nat)∧p.2.2.length≤(1000000:Nat))∧bif Hea.q13 p_2.2 (p_4:Int).toNat==p.2.2 then (0≤(p_4:Int)∧(p_4:Int)<(p_2.2.length:Int))∧(zFit ((p_4:Int)+1))∧(0≤(p_4:Int)+1∧(p_4:Int)+1<(p_2.2.length:Int))∧bif !p_2.2.getD (p_4:Int).toNat []==p_2.2.getD ((p_4:Int)+1).toNat [] then (p_1.2.length+[(List.getD book (p_1.1:Int).toNat Cod.noG).1].length)*(16:Nat)≤(140737488355328:Nat)∧(zFit ((p_1.1:Int)+1))∧∃ (p':Nat×List (List UInt8)),(q7r book e p p')∧List.length book-p'.1<List.length book-p_1.1∧(q9s book p' p_1)∧(q7v e)∧(p.2.2=p.2.2∧p_1.2++[(List.getD book (p_1.1:Int).toNat Cod.noG).1]=p'.2∧True)∧True∧True∧True∧True∧True∧True∧True else (zFit ((p_4:Int)+1))∧∃ (p':Nat),(p'≤p_2.2.length-(1:Nat)∧∀ (i:Nat),i<p'→(Hea.q13 p_2.2 i==p.2.2&&p_2.2.getD i [] != p_2.2.getD (i+(1:Nat)) [])=false)∧p_2.2.length-(1:Nat)-p'<p_2.2.length-(1:Nat)-p_4∧((p_4:Int)+1=(p':Int)∧True∧True∧(p_2.2.length:Int)-1=(p_2.2.length:Int)-1∧True)∧(q2i book e p_1)∧(q25 p p_1 p_2)∧True∧True∧(q4c book p_1 p_3)∧True∧True∧True∧True else (zFit ((p_4:Int)+1))∧∃ (p':Nat),(p'≤p_2.2.length-(1:Nat)∧∀ (i:Nat),i<p'→(Hea.q13 p_2.2 i==p.2.2&&p_2.2.getD i [] != p_2.2.getD (i+(1:Nat)) [])=false)∧p_2.2.length-(1:Nat)-p'<p_2.2.length-(1:Nat)-p_4∧((p_4:Int)+1=(p':Int)∧True∧True∧(p_2.2.length:Int)-1=(p_2.2.length:Int)-1∧True)∧(q2i book e p_1)∧(q25 p p_1 p_2)∧True∧True∧(q4c book p_1 p_3)∧True∧True∧True∧True else (zFit ((p_3:Int)+1))∧∃ (p':Nat),(q9d e p p' p_2)∧(3:Nat)-p'<(3:Nat)-p_3∧(qba p' p_3)∧(q2i book e p_1)∧(q25 p p_1 p_2)∧True∧True∧(q9g book p_1)∧True∧True∧True∧True) else (zFit ((p_1.1:Int)+1))∧∃ (p':Nat×List (List UInt8)),(q7r book e p p')∧List.length book-p'.1<List.length book-p_1.1∧(q9s book p' p_1)∧(q7v e)∧(p.2.2=p.2.2∧p_1.2=p'.2∧True)∧True∧True∧True∧True∧True∧True∧True else bif (p_1.2.length:Int)==(0:Int) then ([],false,(10:Int))=Hea.q2e e book text else bif (p_1.2.length:Int)==(1:Int) then ((0:Int)≤0∧0<(p_1.2.length:Int))∧(p_1.2.getD (nat_lit 0) [],true,(0:Int))=Hea.q2e e book text else ([],false,(8:Int))=Hea.q2e e book text:=by
 delta q2i q4c qba q9d q7r zHeJ0_5 q9g q9s zHeJ0_8 q7v q25 qem qey zFit
 obtain ⟨hW,hC,hB,hT⟩:=h;have hT:text.length≤1000:=hT;simp only [true_and,and_true];refine ⟨⟨hW,hC,hB⟩,bifP (λhb=>?_) λhb=>?_⟩
 ·unfold Hea.q2e
  rw [if_pos hb]
 have hp:e.proper book=true:=by simpa using hb
 have hh:Hea.q2e e book text=match Hea.q7b text with
   | none=>([],false,5)
   | some words=>Hea.q0i (Hea.q05 e) e.ws words book []:=by
  unfold Hea.q2e;rw [hp];rfl
 refine ⟨⟨(true,text,[]),⟨rfl,rfl,Nat.zero_le _,Nat.le_refl _⟩,rfl,rfl,rfl⟩,?_⟩;rintro ⟨more,rest,w⟩ hlis;have hlis:q49 text more rest w:=hlis;have hlw:w.length≤5:=hlis.2.2.1;have hlr:rest.length≤text.length:=hlis.2.2.2;dsimp only;refine bifP (λhb=>?_) λhb=>?_
 ·obtain rfl:more=true:=hb
  have bad:Hea.q4a (cutF rest).1=false∨w.length=5→([],false,(5:Int))=Hea.q2e e book text:=λh=>by
   rw [hh,Hea.lis_bad hlis h]
  have hcl:(cutF rest).1.length≤1000000:=by
   unfold cutF;split
   ·dsimp only;rw [List.length_take];omega
   ·dsimp only;omega
  refine ⟨by omega,hcl,bifP (λhb=>bad (.inl (Hea.q93 (.inl hb)))) λh1=>bifP (λhb=>bad (.inl (Hea.q93 (.inr (.inl hb))))) λh2=>bifP (λhb=>bad (.inl (Hea.q93 (.inr (.inr (of_decide_eq_true hb)))))) λh3=>bifP (λhb=>bad (.inr (by have:=eq_of_beq hb;omega))) λh4=>?_⟩
  have h5:w.length<5:=by rw [beq_eq_false_iff_ne] at h4;omega
  have hst:=Hea.lis_step hlis (Hea.word_of h1 h2 (of_decide_eq_false h3)) h5;have hg:(w.length+[(cutF rest).1].length)*16≤140737488355328∧∃ p':Bool×List UInt8×List (List UInt8),q49 text p'.1 p'.2.1 p'.2.2∧((if p'.1=true then p'.2.1.length+1 else 0)<if true=true then rest.length+1 else 0)∧(cutF rest).2.2=p'.1∧(cutF rest).2.1=p'.2.1∧w++[(cutF rest).1]=p'.2.2 :=
   ⟨by rw [List.length_singleton];omega,((cutF rest).2.2,(cutF rest).2.1,w++[(cutF rest).1]),hst,Hea.lis_less,rfl,rfl,rfl⟩
  exact ⟨hg,hg,hg⟩
 ·obtain rfl:more=false:=hb
  have hv:Hea.q2e e book text=Hea.q0i (Hea.q05 e) e.ws w book []:=by rw [hh,Hea.lis_end hlis]
  have hwl:∀ s∈w,s.length≤1000000:=λs hs=>by
   have:=List.all_eq_true.1 hlis.2.1 s hs
   unfold Hea.q4a at this;simp only [Bool.and_eq_true,decide_eq_true_eq] at this;omega
  exact qk8 e book w _ _ rfl hp hC hW.2.2 hlw hwl hB.1 hv
theorem inlHe_ok:q0e Tryz.prog inlHe:=q0e.more Tryz.func50 (by kernel_rfl) (by kernel_rfl) (q0e.more Tryz.func97 (by kernel_rfl) (by kernel_rfl) (q0e.more Tryz.func99 (by
  kernel_rfl) (by kernel_rfl) (q0e.more Tryz.func140 (by kernel_rfl) (by kernel_rfl) (q0e.more Tryz.func51 (by kernel_rfl) (by kernel_rfl) (q0e.more
  Tryz.func107 (by kernel_rfl) (by kernel_rfl) (q0e.more Tryz.func102 (by kernel_rfl) (by kernel_rfl) (q0e.more
  Tryz.func103 (by kernel_rfl) (by kernel_rfl) (q0e.more Tryz.func104 (by kernel_rfl) (by kernel_rfl) (q0e.more
  Tryz.func106 (by kernel_rfl) (by kernel_rfl) (q0e.more Tryz.func145 (by kernel_rfl) (by
  kernel_rfl) (q0e.nil)))))))))))
theorem kitHe_ok:kitHe.Ok Tryz.prog where
 cons:=all_cons qaw (all_cons qhq (all_cons cut_holds (all_cons (show cEqS.lent.Holds Tryz.prog from eqS_holds) all_nil)))
 ns:=all_cons qgy all_nil
 os:=all_cons qft all_nil
 fcs:=all_cons qkq all_nil
 rcs:=all_nil
 inls:=inlHe_ok
set_option maxRecDepth 100000000 in
theorem hear_holds:cHear.Holds Tryz.prog:=by
 refine holdsX (T:=kitHe) (λp=>anHe hfHear [] ⟨p.1.1,p.1.2,p.2.1⟩ p.2.2.1 p.2.2.2) Tryz.func18 (by kernel_rfl) (by kernel_rfl) mixed (by kernel_rfl) kitHe_ok (λ_=>[]) λp hp=>?_
 obtain ⟨⟨lang,ws⟩,c,book,text⟩:=p;refine cast ?_ (hear_vc ⟨lang,ws,c⟩ book text hp)
 kernel_rfl
open Go.Lib
set_option maxHeartbeats 2000000 in
set_option maxRecDepth 100000 in
theorem cloneG_any (it:TypeInfo) (z:Value) (hi:Tryz.prog.info? 42=some it) (hz0:it.zero=some z) (hz1:it.size=5) (hz2:it.bytes=64) (hzs:z.cells.size=5)
  (ad:Addr) (n c:Nat) (news:List Value) (w:World) (hl:news.length=n*5) (hn:n≤maxLen) (hbig:n*64≤140737488355328) (hc:∀ j u,news[j]? = some u→w.cell? (ad.add j)=some u) (h1:∀ u∈news,u.oneCell'=true) :
  Calls Tryz.prog 55 #[.slice (some ad) n c] w λe w'=>∃ v',e=.returned v'∧w'.ownsRow w.heap.size 42 5 v' n news∧Below w.heap.size w w':=by
 have t22:=Tryz.underlying26;have q22:∀ (w:World) (a:Option Addr) (n c n' c':Nat),(binOp .eql 26 (.slice a n c) (.slice none n' c')).run Tryz.prog w=.ok (.bool a.isNone) w:=λw a n c n' c'=>Lib.run_eql_slice_nil w _ _ a n c n' c' t22
 have u22:∀ w,Sem.run Tryz.prog (underlying 26) w=.ok (TypeDesc.slice 42) w:=run_underlying t22;have A:Aside (∀ j u,news[j]? = some u→w.cell? (ad.add j)=some u):=hc;clear hc
 go_enter Tryz.func55,Tryz.ntmps55
 go_wp2_with (at_builtin;refine wpList_append_own _ rfl _ _ 26 rfl w.heap.size 42 it z 5 64 t22 hi hz0 hz1 hz2 hzs (by decide) _ _ _ rfl (World.ownsRow_made w #[] 0 (Nat.le_refl _) (Nat.zero_le _) (by simp)) ad n c news rfl ?qc1 ?qc2 ?qc3 ?qc4 ?qc5 ?qc6 ?_)
 case qc1=>exact hl
 case qc2 =>
  intro j u hj;exact Lib.cell?_alloc_some _ (A.out j u hj)
 case qc3=>exact h1
 case qc4=>rw [Nat.zero_add];exact hn
 case qc5=>rw [Nat.zero_add];exact hbig
 case qc6=>simp
 intro v' w1 hown hgrow hnil
 go_wp2
 go_ret
 refine ⟨v',rfl,by simpa using hown,?_⟩
 exact ((Below.refl _ w).alloc (Nat.le_refl _) _).grown hgrow (by simp) (by intro k hk;simp [Value.ownBlock] at hk;omega)
set_option maxHeartbeats 2000000 in
set_option maxRecDepth 100000 in
theorem cloneG_nil (n c:Nat) (w:World):Calls Tryz.prog 55 #[.slice none n c] w λe w'=>e=.returned (.slice none 0 0)∧w'=w:=by
 have t22:=Tryz.underlying26;have q22:∀ (w:World) (a:Option Addr) (n c n' c':Nat),(binOp .eql 26 (.slice a n c) (.slice none n' c')).run Tryz.prog w=.ok (.bool a.isNone) w:=λw a n c n' c'=>Lib.run_eql_slice_nil w _ _ a n c n' c' t22
 go_enter Tryz.func55,Tryz.ntmps55
 go_wp2
 go_ret
 exact ⟨rfl,rfl⟩
def nCloneG:NCon:={ f:=55,args:=[q8p],e:=42,fs:=kGiv,pre:=λl _=>List.length l≤1000000,F:=λl _=>l }
theorem cloneG_holds:nCloneG.Holds Tryz.prog:=by
 refine ⟨⟨_,Tryz.func55,by kernel_rfl,by kernel_rfl⟩,λp b vs fvs w S hS hpre hvs hfa=>?_⟩
 have hfa:fvs=[]:=hfa;subst hfa;obtain ⟨v,rfl,hv⟩:=q15 hvs;obtain ⟨p,rfl⟩:∃ q:q0d,q=p:=⟨p,rfl⟩;have hpre:p.length≤1000000:=hpre;have hv:(Kd.sl kGiv).Rep w S p v:=hv;obtain ⟨it,z,hi,hz0,hzs,hsz,hby,e1,e2,hone⟩:=q5c (P:=Tryz.prog) (e:=42) (size:=5) (bytes:=64) (by kernel_rfl)
 rcases src_cells hv with ⟨c,rfl,hz⟩ | ⟨ad,c,news,rfl,hl,hc,h1,hrow⟩
 ·refine (cloneG_nil 0 c w).mono ?_
  rintro e w' ⟨rfl,rfl⟩;have hz:p=[]:=hz;subst hz;exact ⟨Below.refl _ _,_,[],rfl,World.ownsRow_nil _ _ _ _,λi x hx=>by cases hx⟩
 ·have hl:news.length=p.length*5:=hl
  refine (cloneG_any it z hi hz0 e1 e2 (by rw [hzs,e1]) ad p.length c news w hl (by unfold maxLen;omega) (by omega) hc h1).mono ?_
  rintro e w' ⟨v',rfl,ho,hb⟩;exact ⟨hb,v',news,rfl,ho,hrow⟩
def cHere:Con:=.of 20 [ckWl,ckCf,q8p,ckPt,q3e] [q3e,q3f,ckErr1] (λp=>q0x p.1∧q0o p.2.1∧q5l p.2.2.1∧List.length p.2.2.2.2≤1000) (λp=>Hea.q21 ⟨p.1.1,p.1.2,p.2.1⟩ p.2.2.1 p.2.2.2.1 p.2.2.2.2)
noncomputable def inlHr:List (Nat×Func):=inlHe++[(53,Tryz.f53),(54,Tryz.f54),(108,Tryz.f108)]
noncomputable def kitHr:Kit:={ cons:=[qbw,cAlike,cCut,cEqS.lent,cOn,cDist],ns:=[nCloneS,nCloneG],os:=[qjo],fcs:=[fOdd],inls:=inlHr }
def qdz (l:q0d):Row:=⟨42,kGiv,l⟩
abbrev bkR:Nat:=39000
def hfHere:Hf:={ L:=30000,F:=42000,upL:=[(45,[2,5,8])],upF:=[],boxL:=[5,8] }
def bkHere (book:q0d) (p:Cod.Pt):List (Nat×Row):=[(bkR,qdz (book.filter (Hea.q02 p)))]
abbrev liveHr:List (Nat×List Nat):=[(45,[5,35,36])]
def anFarH (book:q0d) (p:Cod.Pt):List (Nat×Ann) :=
 [annX 0 Nat (λst k=>st.hd { live:=[0,1,7],sav:=savK 0 ((42,[0,1])::liveHr),box:=[5,8,30011,30002] } [(8,R.int .i64 k)] [] [(bkR,qdz book),(hfHere.wr,q6d (Get.rowS hfHere.wr st))] [] none)
  (λ_ k=>k≤book.length∧(book.take k).all (Hea.q02 p)=true)
  (λ_ k=>book.length-k)]
def q4b (book:q0d) (p:Cod.Pt) (k j:Nat) (l:q0d):Prop:=k<j∧j≤book.length∧l.length=book.length∧l.take k=(book.take j).filter (Hea.q02 p)∧l.drop j=book.drop j
def anDelH (book:q0d) (p:Cod.Pt):List (Nat×Ann) :=
 [annX 0 (Nat×Nat×q0d) (λst q=>st.hd { live:=[0,1],sav:=savK 0 liveHr,box:=[5,8,30011,30002] } [(5,R.int .i64 q.1),(6,R.int .i64 q.2.1)] [] [(bkR,qdz q.2.2),(hfHere.wr,q6d (Get.rowS hfHere.wr st))] [] none)
  (λ_ q=>q4b book p q.1 q.2.1 q.2.2)
  (λ_ q=>book.length-q.2.1)]
def anHr (e:Cod.Ear) (book:q0d) (p:Cod.Pt) (text:List UInt8):Nat→List (Nat×Ann):=λf =>
 bif Nat.beq f 54 then anDelH book p
 else bif Nat.beq f 108 then anFarH book p
 else anHe hfHere (bkHere book p) e (book.filter (Hea.q02 p)) text f
end Go.Proofs.YtfecgebhoondjaaGreatDoor
namespace Go.Proofs.YtfecgebhoondjaaGreatDoor
open Go.RowKit R
abbrev q1y (book:q0d) (e:Cod.Ear) (p_1:Nat×List (List UInt8)) (pt:Cod.Pt):Prop :=
 ((True∧True∧True)∧(e.c=e.c∧True)∧(e.lang=e.lang∧e.ws=e.ws∧True)∧(((List.filter (Hea.q02 pt) book).getD (p_1.1:Int).toNat Cod.noG).1=((List.filter (Hea.q02 pt) book).getD (p_1.1:Int).toNat Cod.noG).1∧((List.filter (Hea.q02 pt) book).getD (p_1.1:Int).toNat Cod.noG).2.1=((List.filter (Hea.q02 pt) book).getD (p_1.1:Int).toNat Cod.noG).2.1∧((List.filter (Hea.q02 pt) book).getD (p_1.1:Int).toNat Cod.noG).2.2.1=((List.filter (Hea.q02 pt) book).getD (p_1.1:Int).toNat Cod.noG).2.2.1∧((List.filter (Hea.q02 pt) book).getD (p_1.1:Int).toNat Cod.noG).2.2.2.1=((List.filter (Hea.q02 pt) book).getD (p_1.1:Int).toNat Cod.noG).2.2.2.1∧((List.filter (Hea.q02 pt) book).getD (p_1.1:Int).toNat Cod.noG).2.2.2.2=((List.filter (Hea.q02 pt) book).getD (p_1.1:Int).toNat Cod.noG).2.2.2.2∧True)∧(True∧True)∧True)
abbrev q3r (book:q0d) (p_1:Nat×List (List UInt8)) (p_3:Nat) (pt:Cod.Pt):Prop :=
 (True∧True∧(p_3:Int)=(p_3:Int)∧(↑[((102:Nat),[(nat_lit 30011,nat_lit 0)].length,[(nat_lit 30011,nat_lit 0)]++[]),((103:Nat),[(nat_lit 30011,nat_lit 0)].length,[(nat_lit 30011,nat_lit 0)]++[]),((104:Nat),[(nat_lit 30011,nat_lit 0)].length,[(nat_lit 30011,nat_lit 0)]++[])].length:Int)=(↑[((102:Nat),[(nat_lit 30011,nat_lit 0)].length,[(nat_lit 30011,nat_lit 0)]++[]),((103:Nat),[(nat_lit 30011,nat_lit 0)].length,[(nat_lit 30011,nat_lit 0)]++[]),((104:Nat),[(nat_lit 30011,nat_lit 0)].length,[(nat_lit 30011,nat_lit 0)]++[])].length:Int)∧(p_3:Int)=(p_3:Int)∧True∧True∧True∧True∧True∧True∧(↑(List.filter (Hea.q02 pt) book).length:Int)=(↑(List.filter (Hea.q02 pt) book).length:Int)∧(p_1.1:Int)=(p_1.1:Int)∧True)
abbrev q92 (p':Nat) (p_3:Nat):Prop :=
 ((p_3:Int)+1=(p':Int)∧True∧True∧(↑[((102:Nat),[(nat_lit 30011,nat_lit 0)].length,[(nat_lit 30011,nat_lit 0)]++[]),((103:Nat),[(nat_lit 30011,nat_lit 0)].length,[(nat_lit 30011,nat_lit 0)]++[]),((104:Nat),[(nat_lit 30011,nat_lit 0)].length,[(nat_lit 30011,nat_lit 0)]++[])].length:Int)=(↑[((102:Nat),[(nat_lit 30011,nat_lit 0)].length,[(nat_lit 30011,nat_lit 0)]++[]),((103:Nat),[(nat_lit 30011,nat_lit 0)].length,[(nat_lit 30011,nat_lit 0)]++[]),((104:Nat),[(nat_lit 30011,nat_lit 0)].length,[(nat_lit 30011,nat_lit 0)]++[])].length:Int)∧True)
abbrev q26 (book:q0d) (p_1:Nat×List (List UInt8)) (p_2:Nat×List (List UInt8)) (pt:Cod.Pt) (w:List (List UInt8)):Prop :=
 (w=w∧p_1.2=p_1.2∧p_2.2=p_2.2∧List.filter (Hea.q02 pt) book=List.filter (Hea.q02 pt) book∧True)
abbrev q7o (book:q0d) (e:Cod.Ear) (p':Nat×List (List UInt8)) (pt:Cod.Pt) (w:List (List UInt8)):Prop :=
 (p'.1≤(List.filter (Hea.q02 pt) book).length∧p'.2.length≤p'.1∧Hea.q0i (Hea.q05 e) e.ws w (List.filter (Hea.q02 pt) book) []=Hea.q0i (Hea.q05 e) e.ws w (List.drop p'.1 (List.filter (Hea.q02 pt) book)) p'.2)
abbrev q7k (book:q0d) (p_1:Nat×List (List UInt8)) (pt:Cod.Pt):Prop :=
 (True∧True∧True∧True∧True∧True∧(↑(List.filter (Hea.q02 pt) book).length:Int)=(↑(List.filter (Hea.q02 pt) book).length:Int)∧(p_1.1:Int)=(p_1.1:Int)∧True)
abbrev qj6 (book:q0d) (e:Cod.Ear) (p_1:Nat×List (List UInt8)) (pt:Cod.Pt):Prop :=
 ((True∧True)∧(True∧True∧True)∧(e.c=e.c∧True)∧(e.lang=e.lang∧e.ws=e.ws∧True)∧(((List.filter (Hea.q02 pt) book).getD (p_1.1:Int).toNat Cod.noG).1=((List.filter (Hea.q02 pt) book).getD (p_1.1:Int).toNat Cod.noG).1∧((List.filter (Hea.q02 pt) book).getD (p_1.1:Int).toNat Cod.noG).2.1=((List.filter (Hea.q02 pt) book).getD (p_1.1:Int).toNat Cod.noG).2.1∧((List.filter (Hea.q02 pt) book).getD (p_1.1:Int).toNat Cod.noG).2.2.1=((List.filter (Hea.q02 pt) book).getD (p_1.1:Int).toNat Cod.noG).2.2.1∧((List.filter (Hea.q02 pt) book).getD (p_1.1:Int).toNat Cod.noG).2.2.2.1=((List.filter (Hea.q02 pt) book).getD (p_1.1:Int).toNat Cod.noG).2.2.2.1∧((List.filter (Hea.q02 pt) book).getD (p_1.1:Int).toNat Cod.noG).2.2.2.2=((List.filter (Hea.q02 pt) book).getD (p_1.1:Int).toNat Cod.noG).2.2.2.2∧True)∧True)
abbrev q7g (book:q0d) (p':Nat×List (List UInt8)) (p_1:Nat×List (List UInt8)) (pt:Cod.Pt):Prop :=
 ((p_1.1:Int)+1=(p'.1:Int)∧True∧(↑(List.filter (Hea.q02 pt) book).length:Int)=(↑(List.filter (Hea.q02 pt) book).length:Int)∧True∧True∧True∧True∧True)
abbrev q7m (e:Cod.Ear) (p':Nat) (p_2:Nat×List (List UInt8)) (w:List (List UInt8)):Prop :=
 (p'≤(3:Nat)∧((1:Nat)≤p'→Hea.q3k (Hea.q05 e) p_2.2 w=false)∧((2:Nat)≤p'→Hea.q3w p_2.2 w=false)∧((3:Nat)≤p'→Hea.q3x p_2.2 w=false))
abbrev q9i (book:q0d) (p':Nat×List (List UInt8)) (p_1:Nat×List (List UInt8)) (pt:Cod.Pt) (w:List (List UInt8)):Prop :=
 (w=w∧p_1.2++[((List.filter (Hea.q02 pt) book).getD (p_1.1:Int).toNat Cod.noG).1]=p'.2∧List.filter (Hea.q02 pt) book=List.filter (Hea.q02 pt) book∧True)
abbrev q6c (e:Cod.Ear):Prop :=
 ((True∧True∧True)∧(e.c=e.c∧True)∧(e.lang=e.lang∧e.ws=e.ws∧True)∧True)
abbrev qcd (e:Cod.Ear) (p':Nat×Nat) (p_2:Nat×List (List UInt8)) (w:List (List UInt8)):Prop :=
 (p'.1≤w.length∧p'.2=(Hea.diff (List.take p'.1 p_2.2) (List.take p'.1 w)).length∧((Hea.diff (List.take p'.1 p_2.2) (List.take p'.1 w)).all λ(q:Hea.Str×Hea.Str)=>Hea.q05 e q.1 q.2)=true)
set_option maxRecDepth 100000 in
def q72 (e:Cod.Ear) (book:q0d) (pt:Cod.Pt) (w:List (List UInt8)) (R:List UInt8×Bool×Int):Prop :=
  ∀ (p_1:Nat×List (List UInt8)),p_1.1≤(List.filter (Hea.q02 pt) book).length∧p_1.2.length≤p_1.1∧Hea.q0i (Hea.q05 e) e.ws w (List.filter (Hea.q02 pt) book) []=Hea.q0i (Hea.q05 e) e.ws w (List.drop p_1.1 (List.filter (Hea.q02 pt) book)) p_1.2→bif decide ((p_1.1:Int)<(↑(List.filter (Hea.q02 pt) book).length:Int)) then (0≤(p_1.1:Int)∧(p_1.1:Int)<(↑(List.filter (Hea.q02 pt) book).length:Int))∧(∃ (p':Nat×List (List UInt8)),(p'.1≤((List.filter (Hea.q02 pt) book).getD (p_1.1:Int).toNat Cod.noG).2.1.length∧p'.2=Hea.ownW e.ws (List.take p'.1 ((List.filter (Hea.q02 pt) book).getD (p_1.1:Int).toNat Cod.noG).2.1))∧((0:Int)=(p'.1:Int)∧True∧True∧True∧True∧True∧True∧True∧(↑(List.filter (Hea.q02 pt) book).length:Int)=(↑(List.filter (Hea.q02 pt) book).length:Int)∧(p_1.1:Int)=(p_1.1:Int)∧((List.filter (Hea.q02 pt) book).getD (p_1.1:Int).toNat Cod.noG).2.1=((List.filter (Hea.q02 pt) book).getD (p_1.1:Int).toNat Cod.noG).2.1∧(↑((List.filter (Hea.q02 pt) book).getD (p_1.1:Int).toNat Cod.noG).2.1.length:Int)=(↑((List.filter (Hea.q02 pt) book).getD (p_1.1:Int).toNat Cod.noG).2.1.length:Int)∧True)∧(qj6 book e p_1 pt)∧(p'.2=[]∧w=w∧p_1.2=p_1.2∧List.filter (Hea.q02 pt) book=List.filter (Hea.q02 pt) book∧True)∧True∧True∧True∧True∧True∧True∧True)∧∀ (p_2:Nat×List (List UInt8)),p_2.1≤((List.filter (Hea.q02 pt) book).getD (p_1.1:Int).toNat Cod.noG).2.1.length∧p_2.2=Hea.ownW e.ws (List.take p_2.1 ((List.filter (Hea.q02 pt) book).getD (p_1.1:Int).toNat Cod.noG).2.1)→bif decide ((p_2.1:Int)<(↑((List.filter (Hea.q02 pt) book).getD (p_1.1:Int).toNat Cod.noG).2.1.length:Int)) then (0≤(p_2.1:Int)∧(p_2.1:Int)<(↑((List.filter (Hea.q02 pt) book).getD (p_1.1:Int).toNat Cod.noG).2.1.length:Int))∧((0:Int)≤((List.filter (Hea.q02 pt) book).getD (p_1.1:Int).toNat Cod.noG).2.1.getD (p_2.1:Int).toNat (0:Int)∧((List.filter (Hea.q02 pt) book).getD (p_1.1:Int).toNat Cod.noG).2.1.getD (p_2.1:Int).toNat 0<(e.ws.length:Int))∧(p_2.2.length+[e.ws.getD (((List.filter (Hea.q02 pt) book).getD (p_1.1:Int).toNat Cod.noG).2.1.getD (p_2.1:Int).toNat (0:Int)).toNat []].length)*(16:Nat)≤(140737488355328:Nat)∧(zFit ((p_2.1:Int)+1))∧∃ (p':Nat×List (List UInt8)),(p'.1≤((List.filter (Hea.q02 pt) book).getD (p_1.1:Int).toNat Cod.noG).2.1.length∧p'.2=Hea.ownW e.ws (List.take p'.1 ((List.filter (Hea.q02 pt) book).getD (p_1.1:Int).toNat Cod.noG).2.1))∧((List.filter (Hea.q02 pt) book).getD (p_1.1:Int).toNat Cod.noG).2.1.length-p'.1<((List.filter (Hea.q02 pt) book).getD (p_1.1:Int).toNat Cod.noG).2.1.length-p_2.1∧((p_2.1:Int)+1=(p'.1:Int)∧True∧True∧True∧True∧True∧True∧True∧(↑(List.filter (Hea.q02 pt) book).length:Int)=(↑(List.filter (Hea.q02 pt) book).length:Int)∧(p_1.1:Int)=(p_1.1:Int)∧((List.filter (Hea.q02 pt) book).getD (p_1.1:Int).toNat Cod.noG).2.1=((List.filter (Hea.q02 pt) book).getD (p_1.1:Int).toNat Cod.noG).2.1∧(↑((List.filter (Hea.q02 pt) book).getD (p_1.1:Int).toNat Cod.noG).2.1.length:Int)=(↑((List.filter (Hea.q02 pt) book).getD (p_1.1:Int).toNat Cod.noG).2.1.length:Int)∧True)∧(qj6 book e p_1 pt)∧(p_2.2++[e.ws.getD (((List.filter (Hea.q02 pt) book).getD (p_1.1:Int).toNat Cod.noG).2.1.getD (p_2.1:Int).toNat (0:Int)).toNat []]=p'.2∧w=w∧p_1.2=p_1.2∧List.filter (Hea.q02 pt) book=List.filter (Hea.q02 pt) book∧True)∧True∧True∧True∧True∧True∧True∧True else (p_2.2.length≤(1000000:Nat)∧w.length≤(1000000:Nat))∧bif p_2.2==w then (((List.filter (Hea.q02 pt) book).getD (p_1.1:Int).toNat Cod.noG).1,false,(0:Int))=R else (∃ (p':Nat),(q7m e p' p_2 w)∧((0:Int)=(p':Int)∧True∧True∧(↑[((102:Nat),[(nat_lit 30011,nat_lit 0)].length,[(nat_lit 30011,nat_lit 0)]++[]),((103:Nat),[(nat_lit 30011,nat_lit 0)].length,[(nat_lit 30011,nat_lit 0)]++[]),((104:Nat),[(nat_lit 30011,nat_lit 0)].length,[(nat_lit 30011,nat_lit 0)]++[])].length:Int)=(↑[((102:Nat),[(nat_lit 30011,nat_lit 0)].length,[(nat_lit 30011,nat_lit 0)]++[]),((103:Nat),[(nat_lit 30011,nat_lit 0)].length,[(nat_lit 30011,nat_lit 0)]++[]),((104:Nat),[(nat_lit 30011,nat_lit 0)].length,[(nat_lit 30011,nat_lit 0)]++[])].length:Int)∧True)∧(q1y book e p_1 pt)∧(q26 book p_1 p_2 pt w)∧True∧True∧(q7k book p_1 pt)∧True∧True∧True∧True)∧∀ (p_3:Nat),p_3≤(3:Nat)∧((1:Nat)≤p_3→Hea.q3k (Hea.q05 e) p_2.2 w=false)∧((2:Nat)≤p_3→Hea.q3w p_2.2 w=false)∧((3:Nat)≤p_3→Hea.q3x p_2.2 w=false)→bif decide ((p_3:Int)<(↑[((102:Nat),[(nat_lit 30011,nat_lit 0)].length,[(nat_lit 30011,nat_lit 0)]++[]),((103:Nat),[(nat_lit 30011,nat_lit 0)].length,[(nat_lit 30011,nat_lit 0)]++[]),((104:Nat),[(nat_lit 30011,nat_lit 0)].length,[(nat_lit 30011,nat_lit 0)]++[])].length:Int)) then (0≤(p_3:Int)∧(p_3:Int)<(↑[((102:Nat),[(nat_lit 30011,nat_lit 0)].length,[(nat_lit 30011,nat_lit 0)]++[]),((103:Nat),[(nat_lit 30011,nat_lit 0)].length,[(nat_lit 30011,nat_lit 0)]++[]),((104:Nat),[(nat_lit 30011,nat_lit 0)].length,[(nat_lit 30011,nat_lit 0)]++[])].length:Int))∧((p_3:Int)=(↑(nat_lit 0):Int)→bif (p_2.2.length:Int) != (w.length:Int) then (zFit ((p_3:Int)+1))∧∃ (p':Nat),(q7m e p' p_2 w)∧(3:Nat)-p'<(3:Nat)-p_3∧(q92 p' p_3)∧(q1y book e p_1 pt)∧(q26 book p_1 p_2 pt w)∧True∧True∧(q7k book p_1 pt)∧True∧True∧True∧True else (∃ (p':Nat×Nat),(qcd e p' p_2 w)∧((0:Int)=(p'.1:Int)∧(0:Int)=(p'.2:Int)∧True∧True∧True∧(w.length:Int)=(w.length:Int)∧True)∧(q1y book e p_1 pt)∧(q26 book p_1 p_2 pt w)∧True∧True∧(q3r book p_1 p_3 pt)∧True∧True∧True∧True)∧∀ (p_4:Nat×Nat),p_4.1≤w.length∧p_4.2=(Hea.diff (List.take p_4.1 p_2.2) (List.take p_4.1 w)).length∧((Hea.diff (List.take p_4.1 p_2.2) (List.take p_4.1 w)).all λ(q:Hea.Str×Hea.Str)=>Hea.q05 e q.1 q.2)=true→bif decide ((p_4.1:Int)<(w.length:Int)) then (0≤(p_4.1:Int)∧(p_4.1:Int)<(w.length:Int))∧(0≤(p_4.1:Int)∧(p_4.1:Int)<(p_2.2.length:Int))∧bif !w.getD (p_4.1:Int).toNat []==p_2.2.getD (p_4.1:Int).toNat [] then (zFit ((p_4.2:Int)+1))∧(0≤(p_4.1:Int)∧(p_4.1:Int)<(p_2.2.length:Int))∧(q0o e.c∧(p_2.2.getD (p_4.1:Int).toNat []).length≤(1000000:Nat)∧(w.getD (p_4.1:Int).toNat []).length≤(1000000:Nat))∧bif !Snd.q29 e.c (p_2.2.getD (p_4.1:Int).toNat []) (w.getD (p_4.1:Int).toNat []) then (zFit ((p_3:Int)+1))∧∃ (p':Nat),(q7m e p' p_2 w)∧(3:Nat)-p'<(3:Nat)-p_3∧(q92 p' p_3)∧(q1y book e p_1 pt)∧(q26 book p_1 p_2 pt w)∧True∧True∧(q7k book p_1 pt)∧True∧True∧True∧True else (zFit ((p_4.1:Int)+1))∧∃ (p':Nat×Nat),(qcd e p' p_2 w)∧w.length-p'.1<w.length-p_4.1∧((p_4.1:Int)+1=(p'.1:Int)∧(p_4.2:Int)+1=(p'.2:Int)∧True∧True∧True∧(w.length:Int)=(w.length:Int)∧True)∧(q1y book e p_1 pt)∧(q26 book p_1 p_2 pt w)∧True∧True∧(q3r book p_1 p_3 pt)∧True∧True∧True∧True else (zFit ((p_4.1:Int)+1))∧∃ (p':Nat×Nat),(qcd e p' p_2 w)∧w.length-p'.1<w.length-p_4.1∧((p_4.1:Int)+1=(p'.1:Int)∧(p_4.2:Int)=(p'.2:Int)∧True∧True∧True∧(w.length:Int)=(w.length:Int)∧True)∧(q1y book e p_1 pt)∧(q26 book p_1 p_2 pt w)∧True∧True∧(q3r book p_1 p_3 pt)∧True∧True∧True∧True else bif (p_4.2:Int)==(1:Int) then (p_1.2.length+[((List.filter (Hea.q02 pt) book).getD (p_1.1:Int).toNat Cod.noG).1].length)*(16:Nat)≤(140737488355328:Nat)∧(zFit ((p_1.1:Int)+1))∧∃ (p':Nat×List (List UInt8)),(q7o book e p' pt w)∧(List.filter (Hea.q02 pt) book).length-p'.1<(List.filter (Hea.q02 pt) book).length-p_1.1∧(q7g book p' p_1 pt)∧(q6c e)∧(q9i book p' p_1 pt w)∧True∧True∧True∧True∧True∧True∧True else (zFit ((p_3:Int)+1))∧∃ (p':Nat),(q7m e p' p_2 w)∧(3:Nat)-p'<(3:Nat)-p_3∧(q92 p' p_3)∧(q1y book e p_1 pt)∧(q26 book p_1 p_2 pt w)∧True∧True∧(q7k book p_1 pt)∧True∧True∧True∧True)∧((p_3:Int)=(↑(nat_lit 1):Int)→(∃ (p':Nat),(p'≤p_2.2.length∧∀ (i:Nat),i<p'→(p_2.2.eraseIdx i==w)=false)∧((0:Int)=(p':Int)∧True∧True∧(p_2.2.length:Int)=(p_2.2.length:Int)∧True)∧(q1y book e p_1 pt)∧(q26 book p_1 p_2 pt w)∧True∧True∧(q3r book p_1 p_3 pt)∧True∧True∧True∧True)∧∀ (p_4:Nat),(p_4≤p_2.2.length∧∀ (i:Nat),i<p_4→(p_2.2.eraseIdx i==w)=false)→bif decide ((p_4:Int)<(p_2.2.length:Int)) then (zFit ((p_4:Int)+1))∧(p_2.2.length≤(1000000:Nat)∧(((p_4:Int)+1=(p_4:Int)+1∧0≤(p_4:Int)∧(p_4:Int)<(p_2.2.length:Int))∧((p_2.2.eraseIdx (p_4:Int).toNat).length≤(1000000:Nat)∧w.length≤(1000000:Nat))∧bif p_2.2.eraseIdx (p_4:Int).toNat==w then (p_1.2.length+[((List.filter (Hea.q02 pt) book).getD (p_1.1:Int).toNat Cod.noG).1].length)*(16:Nat)≤(140737488355328:Nat)∧(zFit ((p_1.1:Int)+1))∧∃ (p':Nat×List (List UInt8)),(q7o book e p' pt w)∧(List.filter (Hea.q02 pt) book).length-p'.1<(List.filter (Hea.q02 pt) book).length-p_1.1∧(q7g book p' p_1 pt)∧(q6c e)∧(q9i book p' p_1 pt w)∧True∧True∧True∧True∧True∧True∧True else (zFit ((p_4:Int)+1))∧∃ (p':Nat),(p'≤p_2.2.length∧∀ (i:Nat),i<p'→(p_2.2.eraseIdx i==w)=false)∧p_2.2.length-p'<p_2.2.length-p_4∧((p_4:Int)+1=(p':Int)∧True∧True∧(p_2.2.length:Int)=(p_2.2.length:Int)∧True)∧(q1y book e p_1 pt)∧(q26 book p_1 p_2 pt w)∧True∧True∧(q3r book p_1 p_3 pt)∧True∧True∧True∧True)∧((p_4:Int)+1=(p_4:Int)+1∧0≤(p_4:Int)∧(p_4:Int)<(p_2.2.length:Int))∧((p_2.2.eraseIdx (p_4:Int).toNat).length≤(1000000:Nat)∧w.length≤(1000000:Nat))∧bif p_2.2.eraseIdx (p_4:Int).toNat==w then (p_1.2.length+[((List.filter (Hea.q02 pt) book).getD (p_1.1:Int).toNat Cod.noG).1].length)*(16:Nat)≤(140737488355328:Nat)∧(zFit ((p_1.1:Int)+1))∧∃ (p':Nat×List (List UInt8)),(q7o book e p' pt w)∧(List.filter (Hea.q02 pt) book).length-p'.1<(List.filter (Hea.q02 pt) book).length-p_1.1∧(q7g book p' p_1 pt)∧(q6c e)∧(q9i book p' p_1 pt w)∧True∧True∧True∧True∧True∧True∧True else (zFit ((p_4:Int)+1))∧∃ (p':Nat),(p'≤p_2.2.length∧∀ (i:Nat),i<p'→(p_2.2.eraseIdx i==w)=false)∧p_2.2.length-p'<p_2.2.length-p_4∧((p_4:Int)+1=(p':Int)∧True∧True∧(p_2.2.length:Int)=(p_2.2.length:Int)∧True)∧(q1y book e p_1 pt)∧(q26 book p_1 p_2 pt w)∧True∧True∧(q3r book p_1 p_3 pt)∧True∧True∧True∧True)∧p_2.2.length≤(1000000:Nat)∧((p_4:Int)+1=(p_4:Int)+1∧0≤(p_4:Int)∧(p_4:Int)<(p_2.2.length:Int))∧((p_2.2.eraseIdx (p_4:Int).toNat).length≤(1000000:Nat)∧w.length≤(1000000:Nat))∧bif p_2.2.eraseIdx (p_4:Int).toNat==w then (p_1.2.length+[((List.filter (Hea.q02 pt) book).getD (p_1.1:Int).toNat Cod.noG).1].length)*(16:Nat)≤(140737488355328:Nat)∧(zFit ((p_1.1:Int)+1))∧∃ (p':Nat×List (List UInt8)),(q7o book e p' pt w)∧(List.filter (Hea.q02 pt) book).length-p'.1<(List.filter (Hea.q02 pt) book).length-p_1.1∧(q7g book p' p_1 pt)∧(q6c e)∧(q9i book p' p_1 pt w)∧True∧True∧True∧True∧True∧True∧True else (zFit ((p_4:Int)+1))∧∃ (p':Nat),(p'≤p_2.2.length∧∀ (i:Nat),i<p'→(p_2.2.eraseIdx i==w)=false)∧p_2.2.length-p'<p_2.2.length-p_4∧((p_4:Int)+1=(p':Int)∧True∧True∧(p_2.2.length:Int)=(p_2.2.length:Int)∧True)∧(q1y book e p_1 pt)∧(q26 book p_1 p_2 pt w)∧True∧True∧(q3r book p_1 p_3 pt)∧True∧True∧True∧True else (zFit ((p_3:Int)+1))∧∃ (p':Nat),(q7m e p' p_2 w)∧(3:Nat)-p'<(3:Nat)-p_3∧(q92 p' p_3)∧(q1y book e p_1 pt)∧(q26 book p_1 p_2 pt w)∧True∧True∧(q7k book p_1 pt)∧True∧True∧True∧True)∧((p_3:Int)=(↑(nat_lit 2):Int)→(zFit ((p_2.2.length:Int)-1))∧(∃ (p':Nat),(p'≤p_2.2.length-(1:Nat)∧∀ (i:Nat),i<p'→(Hea.q13 p_2.2 i==w&&p_2.2.getD i [] != p_2.2.getD (i+(1:Nat)) [])=false)∧((0:Int)=(p':Int)∧True∧True∧(p_2.2.length:Int)-1=(p_2.2.length:Int)-1∧True)∧(q1y book e p_1 pt)∧(q26 book p_1 p_2 pt w)∧True∧True∧(q3r book p_1 p_3 pt)∧True∧True∧True∧True)∧∀ (p_4:Nat),(p_4≤p_2.2.length-(1:Nat)∧∀ (i:Nat),i<p_4→(Hea.q13 p_2.2 i==w&&p_2.2.getD i [] != p_2.2.getD (i+(1:Nat)) [])=false)→bif decide ((p_4:Int)<(p_2.2.length:Int)-1) then p_2.2.length≤(1000000:Nat)∧((zFit ((p_4:Int)+1))∧(0≤(p_4:Int)+1∧(p_4:Int)+1<(p_2.2.length:Int))∧(0≤(p_4:Int)∧(p_4:Int)<(p_2.2.length:Int))∧(0≤(p_4:Int)∧(p_4:Int)<(p_2.2.length:Int))∧(zFit ((p_4:Int)+1))∧bif (p_4:Int).toNat.beq (p_4:Int).toNat then (0≤(p_4:Int)+1∧(p_4:Int)+1<(↑(p_2.2.set (p_4:Int).toNat (p_2.2.getD ((p_4:Int)+1).toNat [])).length:Int))∧bif ((p_4:Int)+1).toNat.beq ((p_4:Int)+1).toNat then ∃ (p':Unit),True∧(True∧True∧(p_4:Int)=(p_4:Int)∧True∧(p_2.2.length:Int)-1=(p_2.2.length:Int)-1∧(p_4:Int)=(p_4:Int)∧True)∧(q1y book e p_1 pt)∧((p_2.2.set (p_4:Int).toNat (p_2.2.getD ((p_4:Int)+1).toNat [])).set ((p_4:Int)+1).toNat (p_2.2.getD (p_4:Int).toNat [])=Hea.q13 p_2.2 (p_4:Int).toNat∧w=w∧p_1.2=p_1.2∧p_2.2=p_2.2∧List.filter (Hea.q02 pt) book=List.filter (Hea.q02 pt) book∧True)∧True∧True∧(q3r book p_1 p_3 pt)∧True∧True∧True∧True else False else False)∧∀ (p_5:Unit),True→((Hea.q13 p_2.2 (p_4:Int).toNat).length≤(1000000:Nat)∧w.length≤(1000000:Nat))∧bif Hea.q13 p_2.2 (p_4:Int).toNat==w then (0≤(p_4:Int)∧(p_4:Int)<(p_2.2.length:Int))∧(zFit ((p_4:Int)+1))∧(0≤(p_4:Int)+1∧(p_4:Int)+1<(p_2.2.length:Int))∧bif !p_2.2.getD (p_4:Int).toNat []==p_2.2.getD ((p_4:Int)+1).toNat [] then (p_1.2.length+[((List.filter (Hea.q02 pt) book).getD (p_1.1:Int).toNat Cod.noG).1].length)*(16:Nat)≤(140737488355328:Nat)∧(zFit ((p_1.1:Int)+1))∧∃ (p':Nat×List (List UInt8)),(q7o book e p' pt w)∧(List.filter (Hea.q02 pt) book).length-p'.1<(List.filter (Hea.q02 pt) book).length-p_1.1∧(q7g book p' p_1 pt)∧(q6c e)∧(q9i book p' p_1 pt w)∧True∧True∧True∧True∧True∧True∧True else (zFit ((p_4:Int)+1))∧∃ (p':Nat),(p'≤p_2.2.length-(1:Nat)∧∀ (i:Nat),i<p'→(Hea.q13 p_2.2 i==w&&p_2.2.getD i [] != p_2.2.getD (i+(1:Nat)) [])=false)∧p_2.2.length-(1:Nat)-p'<p_2.2.length-(1:Nat)-p_4∧((p_4:Int)+1=(p':Int)∧True∧True∧(p_2.2.length:Int)-1=(p_2.2.length:Int)-1∧True)∧(q1y book e p_1 pt)∧(q26 book p_1 p_2 pt w)∧True∧True∧(q3r book p_1 p_3 pt)∧True∧True∧True∧True else (zFit ((p_4:Int)+1))∧∃ (p':Nat),(p'≤p_2.2.length-(1:Nat)∧∀ (i:Nat),i<p'→(Hea.q13 p_2.2 i==w&&p_2.2.getD i [] != p_2.2.getD (i+(1:Nat)) [])=false)∧p_2.2.length-(1:Nat)-p'<p_2.2.length-(1:Nat)-p_4∧((p_4:Int)+1=(p':Int)∧True∧True∧(p_2.2.length:Int)-1=(p_2.2.length:Int)-1∧True)∧(q1y book e p_1 pt)∧(q26 book p_1 p_2 pt w)∧True∧True∧(q3r book p_1 p_3 pt)∧True∧True∧True∧True else (zFit ((p_3:Int)+1))∧∃ (p':Nat),(q7m e p' p_2 w)∧(3:Nat)-p'<(3:Nat)-p_3∧(q92 p' p_3)∧(q1y book e p_1 pt)∧(q26 book p_1 p_2 pt w)∧True∧True∧(q7k book p_1 pt)∧True∧True∧True∧True) else (zFit ((p_1.1:Int)+1))∧∃ (p':Nat×List (List UInt8)),(q7o book e p' pt w)∧(List.filter (Hea.q02 pt) book).length-p'.1<(List.filter (Hea.q02 pt) book).length-p_1.1∧(q7g book p' p_1 pt)∧(q6c e)∧(w=w∧p_1.2=p'.2∧List.filter (Hea.q02 pt) book=List.filter (Hea.q02 pt) book∧True)∧True∧True∧True∧True∧True∧True∧True else bif (p_1.2.length:Int)==(0:Int) then ([],false,(10:Int))=R else bif (p_1.2.length:Int)==(1:Int) then ((0:Int)≤0∧0<(p_1.2.length:Int))∧(p_1.2.getD (nat_lit 0) [],true,(0:Int))=R else ([],false,(8:Int))=R
abbrev qe7 (e:Cod.Ear) (pt:Cod.Pt):Prop :=
 ((e.lang=e.lang∧e.ws=e.ws∧True)∧(pt.1=pt.1∧pt.2=pt.2∧True)∧(True∧True∧True)∧(e.c=e.c∧True)∧True)
set_option maxRecDepth 100000 in
def DelR1 (e:Cod.Ear) (book:q0d) (pt:Cod.Pt) (w:List (List UInt8)) (R:List UInt8×Bool×Int):Prop :=
  ∀ (p_1:Nat×Nat×q0d),q4b book pt p_1.1 p_1.2.1 p_1.2.2→bif decide ((p_1.2.1:Int)<(↑(List.length p_1.2.2):Int)) then (0≤(p_1.2.1:Int)∧(p_1.2.1:Int)<(↑(List.length p_1.2.2):Int))∧bif !(List.getD p_1.2.2 (p_1.2.1:Int).toNat Cod.noG).2.2.1 then (zFit ((p_1.2.1:Int)+1))∧∃ (p':Nat×Nat×q0d),q4b book pt p'.1 p'.2.1 p'.2.2∧List.length book-p'.2.1<List.length book-p_1.2.1∧((p_1.1:Int)=(p'.1:Int)∧(p_1.2.1:Int)+1=(p'.2.1:Int)∧True∧True∧True)∧(qe7 e pt)∧(p_1.2.2=p'.2.2∧w=w∧True)∧True∧True∧(True∧True∧(e.lang=e.lang∧e.ws=e.ws∧True)∧True)∧True∧True∧True∧True else True∧bif !decide ((250000:Int)<Cod.q1l (List.getD p_1.2.2 (p_1.2.1:Int).toNat Cod.noG).2.2.2 pt) then (0≤(p_1.1:Int)∧(p_1.1:Int)<(↑(List.length p_1.2.2):Int))∧bif (p_1.1:Int).toNat.beq (p_1.1:Int).toNat then (zFit ((p_1.1:Int)+1))∧(zFit ((p_1.2.1:Int)+1))∧∃ (p':Nat×Nat×q0d),q4b book pt p'.1 p'.2.1 p'.2.2∧List.length book-p'.2.1<List.length book-p_1.2.1∧((p_1.1:Int)+1=(p'.1:Int)∧(p_1.2.1:Int)+1=(p'.2.1:Int)∧True∧True∧True)∧(qe7 e pt)∧(List.set p_1.2.2 (p_1.1:Int).toNat (List.getD p_1.2.2 (p_1.2.1:Int).toNat Cod.noG)=p'.2.2∧w=w∧True)∧True∧True∧(True∧True∧(e.lang=e.lang∧e.ws=e.ws∧True)∧True)∧True∧True∧True∧True else False else (zFit ((p_1.2.1:Int)+1))∧∃ (p':Nat×Nat×q0d),q4b book pt p'.1 p'.2.1 p'.2.2∧List.length book-p'.2.1<List.length book-p_1.2.1∧((p_1.1:Int)=(p'.1:Int)∧(p_1.2.1:Int)+1=(p'.2.1:Int)∧True∧True∧True)∧(qe7 e pt)∧(p_1.2.2=p'.2.2∧w=w∧True)∧True∧True∧(True∧True∧(e.lang=e.lang∧e.ws=e.ws∧True)∧True)∧True∧True∧True∧True else (0≤(p_1.1:Int)∧(p_1.1:Int)<(↑(List.length p_1.2.2):Int))∧(0≤(p_1.1:Int)∧(p_1.1:Int)≤(↑(List.take (p_1.1:Int).toNat p_1.2.2++List.replicate (List.length p_1.2.2-(p_1.1:Int).toNat) Cod.noG).length:Int))∧(∃ (p':Nat×List (List UInt8)),(p'.1≤(List.filter (Hea.q02 pt) book).length∧p'.2.length≤p'.1∧Hea.q0i (Hea.q05 e) e.ws w (List.filter (Hea.q02 pt) book) []=Hea.q0i (Hea.q05 e) e.ws w (List.drop p'.1 (List.filter (Hea.q02 pt) book)) p'.2)∧((0:Int)=(p'.1:Int)∧True∧(↑(List.take (p_1.1:Int).toNat (List.take (p_1.1:Int).toNat p_1.2.2++List.replicate (List.length p_1.2.2-(p_1.1:Int).toNat) Cod.noG)).length:Int)=(↑(List.filter (Hea.q02 pt) book).length:Int)∧True∧True∧True∧True∧True)∧((True∧True∧True)∧(e.c=e.c∧True)∧(e.lang=e.lang∧e.ws=e.ws∧True)∧True)∧(w=w∧p'.2=[]∧List.take (p_1.1:Int).toNat (List.take (p_1.1:Int).toNat p_1.2.2++List.replicate (List.length p_1.2.2-(p_1.1:Int).toNat) Cod.noG)=List.filter (Hea.q02 pt) book∧True)∧True∧True∧True∧True∧True∧True∧True)∧q72 e book pt w (R)
abbrev qe1 (e:Cod.Ear) (pt:Cod.Pt):Prop :=
 ((e.lang=e.lang∧e.ws=e.ws∧True)∧(pt.1=pt.1∧pt.2=pt.2∧True)∧(True∧True∧True)∧(e.c=e.c∧True)∧True)
set_option maxRecDepth 100000 in
def DelR2 (e:Cod.Ear) (book:q0d) (pt:Cod.Pt) (w:List (List UInt8)) (R:List UInt8×Bool×Int):Prop :=
  ∀ (p_1:Nat×Nat×q0d),q4b book pt p_1.1 p_1.2.1 p_1.2.2→bif decide ((p_1.2.1:Int)<(↑(List.length p_1.2.2):Int)) then (0≤(p_1.2.1:Int)∧(p_1.2.1:Int)<(↑(List.length p_1.2.2):Int))∧bif !(List.getD p_1.2.2 (p_1.2.1:Int).toNat Cod.noG).2.2.1 then (zFit ((p_1.2.1:Int)+1))∧∃ (p':Nat×Nat×q0d),q4b book pt p'.1 p'.2.1 p'.2.2∧List.length book-p'.2.1<List.length book-p_1.2.1∧((p_1.1:Int)=(p'.1:Int)∧(p_1.2.1:Int)+1=(p'.2.1:Int)∧True∧True∧True)∧(qe1 e pt)∧(p_1.2.2=p'.2.2∧w=w∧True)∧True∧True∧(True∧True∧True∧True)∧True∧True∧True∧True else True∧bif !decide ((250000:Int)<Cod.q1l (List.getD p_1.2.2 (p_1.2.1:Int).toNat Cod.noG).2.2.2 pt) then (0≤(p_1.1:Int)∧(p_1.1:Int)<(↑(List.length p_1.2.2):Int))∧bif (p_1.1:Int).toNat.beq (p_1.1:Int).toNat then (zFit ((p_1.1:Int)+1))∧(zFit ((p_1.2.1:Int)+1))∧∃ (p':Nat×Nat×q0d),q4b book pt p'.1 p'.2.1 p'.2.2∧List.length book-p'.2.1<List.length book-p_1.2.1∧((p_1.1:Int)+1=(p'.1:Int)∧(p_1.2.1:Int)+1=(p'.2.1:Int)∧True∧True∧True)∧(qe1 e pt)∧(List.set p_1.2.2 (p_1.1:Int).toNat (List.getD p_1.2.2 (p_1.2.1:Int).toNat Cod.noG)=p'.2.2∧w=w∧True)∧True∧True∧(True∧True∧True∧True)∧True∧True∧True∧True else False else (zFit ((p_1.2.1:Int)+1))∧∃ (p':Nat×Nat×q0d),q4b book pt p'.1 p'.2.1 p'.2.2∧List.length book-p'.2.1<List.length book-p_1.2.1∧((p_1.1:Int)=(p'.1:Int)∧(p_1.2.1:Int)+1=(p'.2.1:Int)∧True∧True∧True)∧(qe1 e pt)∧(p_1.2.2=p'.2.2∧w=w∧True)∧True∧True∧(True∧True∧True∧True)∧True∧True∧True∧True else (0≤(p_1.1:Int)∧(p_1.1:Int)<(↑(List.length p_1.2.2):Int))∧(0≤(p_1.1:Int)∧(p_1.1:Int)≤(↑(List.take (p_1.1:Int).toNat p_1.2.2++List.replicate (List.length p_1.2.2-(p_1.1:Int).toNat) Cod.noG).length:Int))∧(∃ (p':Nat×List (List UInt8)),(p'.1≤(List.filter (Hea.q02 pt) book).length∧p'.2.length≤p'.1∧Hea.q0i (Hea.q05 e) e.ws w (List.filter (Hea.q02 pt) book) []=Hea.q0i (Hea.q05 e) e.ws w (List.drop p'.1 (List.filter (Hea.q02 pt) book)) p'.2)∧((0:Int)=(p'.1:Int)∧True∧(↑(List.take (p_1.1:Int).toNat (List.take (p_1.1:Int).toNat p_1.2.2++List.replicate (List.length p_1.2.2-(p_1.1:Int).toNat) Cod.noG)).length:Int)=(↑(List.filter (Hea.q02 pt) book).length:Int)∧True∧True∧True∧True∧True)∧((True∧True∧True)∧(e.c=e.c∧True)∧(e.lang=e.lang∧e.ws=e.ws∧True)∧True)∧(w=w∧p'.2=[]∧List.take (p_1.1:Int).toNat (List.take (p_1.1:Int).toNat p_1.2.2++List.replicate (List.length p_1.2.2-(p_1.1:Int).toNat) Cod.noG)=List.filter (Hea.q02 pt) book∧True)∧True∧True∧True∧True∧True∧True∧True)∧q72 e book pt w (R)
abbrev qjg (book:q0d) (e:Cod.Ear) (p_1:Nat) (pt:Cod.Pt) (w:List (List UInt8)):Prop :=
 (∃ (p':Nat×Nat×q0d),q4b book pt p'.1 p'.2.1 p'.2.2∧((p_1:Int)=(p'.1:Int)∧(p_1:Int)+1=(p'.2.1:Int)∧True∧True∧True)∧((e.lang=e.lang∧e.ws=e.ws∧True)∧(pt.1=pt.1∧pt.2=pt.2∧True)∧(True∧True∧True)∧(e.c=e.c∧True)∧True)∧(book=p'.2.2∧w=w∧True)∧True∧True∧(True∧True∧(e.lang=e.lang∧e.ws=e.ws∧True)∧True)∧True∧True∧True∧True)
set_option maxRecDepth 100000 in
def FarR1 (e:Cod.Ear) (book:q0d) (pt:Cod.Pt) (w:List (List UInt8)) (R:List UInt8×Bool×Int):Prop :=
  (∃ (p':Nat),(p'≤List.length book∧(List.take p' book).all (Hea.q02 pt)=true)∧((0:Int)=(p':Int)∧True∧True∧(↑(List.length book):Int)=(↑(List.length book):Int)∧True)∧((e.lang=e.lang∧e.ws=e.ws∧True)∧(pt.1=pt.1∧pt.2=pt.2∧True)∧(True∧True∧True)∧(e.c=e.c∧True)∧True)∧(book=book∧w=w∧True)∧True∧True∧(True∧True∧True∧True∧(e.lang=e.lang∧e.ws=e.ws∧True)∧True)∧True∧True∧True∧True)∧∀ (p_1:Nat),p_1≤List.length book∧(List.take p_1 book).all (Hea.q02 pt)=true→bif decide ((p_1:Int)<(↑(List.length book):Int)) then (0≤(p_1:Int)∧(p_1:Int)<(↑(List.length book):Int))∧bif !(List.getD book (p_1:Int).toNat Cod.noG).2.2.1 then (zFit ((p_1:Int)+1))∧(qjg book e p_1 pt w)∧DelR1 e book pt w (R) else True∧bif decide ((250000:Int)<Cod.q1l (List.getD book (p_1:Int).toNat Cod.noG).2.2.2 pt) then (zFit ((p_1:Int)+1))∧(qjg book e p_1 pt w)∧DelR1 e book pt w (R) else (zFit ((p_1:Int)+1))∧∃ (p':Nat),(p'≤List.length book∧(List.take p' book).all (Hea.q02 pt)=true)∧List.length book-p'<List.length book-p_1∧((p_1:Int)+1=(p':Int)∧True∧True∧(↑(List.length book):Int)=(↑(List.length book):Int)∧True)∧((e.lang=e.lang∧e.ws=e.ws∧True)∧(pt.1=pt.1∧pt.2=pt.2∧True)∧(True∧True∧True)∧(e.c=e.c∧True)∧True)∧(book=book∧w=w∧True)∧True∧True∧(True∧True∧True∧True∧(e.lang=e.lang∧e.ws=e.ws∧True)∧True)∧True∧True∧True∧True else (∃ (p':Nat×List (List UInt8)),(p'.1≤(List.filter (Hea.q02 pt) book).length∧p'.2.length≤p'.1∧Hea.q0i (Hea.q05 e) e.ws w (List.filter (Hea.q02 pt) book) []=Hea.q0i (Hea.q05 e) e.ws w (List.drop p'.1 (List.filter (Hea.q02 pt) book)) p'.2)∧((0:Int)=(p'.1:Int)∧True∧(↑(List.length book):Int)=(↑(List.filter (Hea.q02 pt) book).length:Int)∧True∧True∧True∧True∧True)∧((True∧True∧True)∧(e.c=e.c∧True)∧(e.lang=e.lang∧e.ws=e.ws∧True)∧True)∧(w=w∧p'.2=[]∧book=List.filter (Hea.q02 pt) book∧True)∧True∧True∧True∧True∧True∧True∧True)∧q72 e book pt w (R)
abbrev qix (book:q0d) (e:Cod.Ear) (p_1:Nat) (pt:Cod.Pt) (w:List (List UInt8)):Prop :=
 (∃ (p':Nat×Nat×q0d),q4b book pt p'.1 p'.2.1 p'.2.2∧((p_1:Int)=(p'.1:Int)∧(p_1:Int)+1=(p'.2.1:Int)∧True∧True∧True)∧((e.lang=e.lang∧e.ws=e.ws∧True)∧(pt.1=pt.1∧pt.2=pt.2∧True)∧(True∧True∧True)∧(e.c=e.c∧True)∧True)∧(book=p'.2.2∧w=w∧True)∧True∧True∧(True∧True∧True∧True)∧True∧True∧True∧True)
set_option maxRecDepth 100000 in
def FarR2 (e:Cod.Ear) (book:q0d) (pt:Cod.Pt) (w:List (List UInt8)) (R:List UInt8×Bool×Int):Prop :=
  (∃ (p':Nat),(p'≤List.length book∧(List.take p' book).all (Hea.q02 pt)=true)∧((0:Int)=(p':Int)∧True∧True∧(↑(List.length book):Int)=(↑(List.length book):Int)∧True)∧((e.lang=e.lang∧e.ws=e.ws∧True)∧(pt.1=pt.1∧pt.2=pt.2∧True)∧(True∧True∧True)∧(e.c=e.c∧True)∧True)∧(book=book∧w=w∧True)∧True∧True∧(True∧True∧True∧True∧True∧True)∧True∧True∧True∧True)∧∀ (p_1:Nat),p_1≤List.length book∧(List.take p_1 book).all (Hea.q02 pt)=true→bif decide ((p_1:Int)<(↑(List.length book):Int)) then (0≤(p_1:Int)∧(p_1:Int)<(↑(List.length book):Int))∧bif !(List.getD book (p_1:Int).toNat Cod.noG).2.2.1 then (zFit ((p_1:Int)+1))∧(qix book e p_1 pt w)∧DelR2 e book pt w (R) else True∧bif decide ((250000:Int)<Cod.q1l (List.getD book (p_1:Int).toNat Cod.noG).2.2.2 pt) then (zFit ((p_1:Int)+1))∧(qix book e p_1 pt w)∧DelR2 e book pt w (R) else (zFit ((p_1:Int)+1))∧∃ (p':Nat),(p'≤List.length book∧(List.take p' book).all (Hea.q02 pt)=true)∧List.length book-p'<List.length book-p_1∧((p_1:Int)+1=(p':Int)∧True∧True∧(↑(List.length book):Int)=(↑(List.length book):Int)∧True)∧((e.lang=e.lang∧e.ws=e.ws∧True)∧(pt.1=pt.1∧pt.2=pt.2∧True)∧(True∧True∧True)∧(e.c=e.c∧True)∧True)∧(book=book∧w=w∧True)∧True∧True∧(True∧True∧True∧True∧True∧True)∧True∧True∧True∧True else (∃ (p':Nat×List (List UInt8)),(p'.1≤(List.filter (Hea.q02 pt) book).length∧p'.2.length≤p'.1∧Hea.q0i (Hea.q05 e) e.ws w (List.filter (Hea.q02 pt) book) []=Hea.q0i (Hea.q05 e) e.ws w (List.drop p'.1 (List.filter (Hea.q02 pt) book)) p'.2)∧((0:Int)=(p'.1:Int)∧True∧(↑(List.length book):Int)=(↑(List.filter (Hea.q02 pt) book).length:Int)∧True∧True∧True∧True∧True)∧((True∧True∧True)∧(e.c=e.c∧True)∧(e.lang=e.lang∧e.ws=e.ws∧True)∧True)∧(w=w∧p'.2=[]∧book=List.filter (Hea.q02 pt) book∧True)∧True∧True∧True∧True∧True∧True∧True)∧q72 e book pt w (R)
theorem findR_ok {e:Cod.Ear} {book:q0d} {pt:Cod.Pt} {w:List (List UInt8)} {R:List UInt8×Bool×Int} (hp:e.proper book=true) (hC:q0o e.c) (hW:∀ s∈e.ws,s.length≤1000000) (hw:w.length≤5) (hwl:∀ s∈w,s.length≤1000000) (hB:book.length≤1000000)
  (hR:R=Hea.q0i (Hea.q05 e) e.ws w (book.filter (Hea.q02 pt)) []):q72 e book pt w R:=by
 unfold q72
 delta q1y q3r q92 q26 q7o q7k qj6 q7g q7m q9i q6c qcd zFit
 simp only [true_and,and_true];exact (qk8 e (book.filter (Hea.q02 pt)) w R _ rfl (Hea.qau hp _) hC hW hw hwl (Nat.le_trans (List.length_filter_le _ _) hB) hR).2
theorem del_step {book:q0d} {pt:Cod.Pt} {k j:Nat} {l:q0d} (h:q4b book pt k j l) (hj:j<book.length):l.getD j Cod.noG=book.getD j Cod.noG∧(Hea.q02 pt (l.getD j Cod.noG)=false→q4b book pt k (j+1) l)∧(Hea.q02 pt (l.getD j Cod.noG)=true→q4b book pt (k+1) (j+1) (l.set k (l.getD j Cod.noG))):=by
 obtain ⟨h1,h2,h3,h4,h5⟩:=h;have hg:l.getD j Cod.noG=book.getD j Cod.noG:=by
  have:=congrArg (λz=>List.getD z 0 Cod.noG) h5
  simpa using this
 have hdrop:l.drop (j+1)=book.drop (j+1):=by
  have:=congrArg (List.drop 1) h5
  rwa [List.drop_drop,List.drop_drop] at this
 refine ⟨hg,λhn=>?_,λhn=>?_⟩
 ·refine ⟨by omega,hj,h3,?_,hdrop⟩
  rw [Snd.q1d book Cod.noG j hj,List.filter_append,← hg,List.filter_cons_of_neg (by rw [hn];decide),List.filter_nil,List.append_nil,h4]
 ·refine ⟨by omega,hj,by rw [List.length_set];exact h3,?_,?_⟩
  ·rw [Snd.q1d book Cod.noG j hj,List.filter_append,← hg,List.filter_cons_of_pos hn,List.filter_nil,← h4,Snd.q1d (l.set k (l.getD j Cod.noG)) Cod.noG k (by rw [List.length_set];omega),List.take_set_of_le (Nat.le_refl _)]
   congr 2
   rw [List.getD_eq_getElem?_getD (l:=l.set k _),List.getElem?_set_self (by omega)];rfl
  ·rw [List.drop_set_of_lt (by omega),hdrop]
theorem del1_ok {e:Cod.Ear} {book:q0d} {pt:Cod.Pt} {w:List (List UInt8)} {R:List UInt8×Bool×Int} (hb:book.length≤1000000) (hF:q72 e book pt w R):DelR1 e book pt w R:=by
 unfold DelR1
 delta qe7 zFit
 simp only [true_and,and_true];rintro ⟨k,j,l⟩ hd;have hd:q4b book pt k j l:=hd;obtain ⟨h1,h2,h3,h4,h5⟩:=hd;dsimp only;have hti:((k:Int).toNat)=k:=rfl;have htj:((j:Int).toNat)=j:=rfl;simp only [hti,htj];refine bifP (λhb2=>?_) λhb2=>?_
 ·have hj:j<book.length:=by have:=of_decide_eq_true hb2;omega
  obtain ⟨hg,hst0,hst1⟩:=del_step ⟨h1,h2,h3,h4,h5⟩ hj;refine ⟨⟨by omega,by omega⟩,bifP (λhp=>?_) λhp=>bifP (λhq=>?_) λhq=>?_⟩
  ·refine ⟨⟨by omega,by omega⟩,(k,j+1,l),hst0 ?_,by show book.length-(j+1)<book.length-j;omega,⟨rfl,by push_cast;rfl⟩,rfl⟩
   unfold Hea.q02;rw [show (l.getD j Cod.noG).2.2.1=false by simpa using hp];rfl
  ·have hn:Hea.q02 pt (l.getD j Cod.noG)=true:=by
    unfold Hea.q02 Cod.ptOf;rw [show (l.getD j Cod.noG).2.2.1=true by simpa using hp,decide_eq_true (p:=Cod.q1l (l.getD j Cod.noG).2.2.2 pt≤250000) (by
     have:decide (250000<Cod.q1l (l.getD j Cod.noG).2.2.2 pt)=false:=by simpa using hq
     have:=of_decide_eq_false this;omega)];rfl
   refine ⟨⟨by omega,by omega⟩,?_⟩
   rw [show k.beq k=true from Nat.beq_refl k,cond_true];exact ⟨⟨by omega,by omega⟩,⟨by omega,by omega⟩,(k+1,j+1,l.set k (l.getD j Cod.noG)),hst1 hn,by show book.length-(j+1)<book.length-j;omega,⟨by push_cast;rfl,by push_cast;rfl⟩,rfl⟩
  ·refine ⟨⟨by omega,by omega⟩,(k,j+1,l),hst0 ?_,by show book.length-(j+1)<book.length-j;omega,⟨rfl,by push_cast;rfl⟩,rfl⟩
   unfold Hea.q02 Cod.ptOf;have:decide (250000<Cod.q1l (l.getD j Cod.noG).2.2.2 pt)=true:=by simpa using hq
   rw [decide_eq_false (p:=Cod.q1l (l.getD j Cod.noG).2.2.2 pt≤250000) (by have:=of_decide_eq_true this;omega),Bool.and_false]
 ·have hle:l.length≤j:=by have:=of_decide_eq_false hb2;omega
  have hfl:book.filter (Hea.q02 pt)=l.take k:=by rw [h4,List.take_of_length_le (by omega)]
  have hlen:(l.take k++List.replicate (l.length-k) Cod.noG).length=l.length:=by rw [List.length_append,List.length_take,List.length_replicate];omega
  have htk:(l.take k++List.replicate (l.length-k) Cod.noG).take k=l.take k:=by rw [List.take_append_of_le_length (by rw [List.length_take];omega),List.take_take,Nat.min_self]
  refine ⟨⟨by omega,by omega⟩,⟨by omega,by rw [hlen];omega⟩,⟨(0,[]),⟨Nat.zero_le _,Nat.le_refl _,rfl⟩,⟨rfl,by rw [htk,hfl]⟩,rfl,by rw [htk,hfl]⟩,hF⟩
theorem del2_ok {e:Cod.Ear} {book:q0d} {pt:Cod.Pt} {w:List (List UInt8)} {R:List UInt8×Bool×Int} (hb:book.length≤1000000) (hF:q72 e book pt w R):DelR2 e book pt w R:=by
 unfold DelR2
 delta qe1 zFit
 simp only [true_and,and_true];rintro ⟨k,j,l⟩ hd;have hd:q4b book pt k j l:=hd;obtain ⟨h1,h2,h3,h4,h5⟩:=hd;dsimp only;have hti:((k:Int).toNat)=k:=rfl;have htj:((j:Int).toNat)=j:=rfl;simp only [hti,htj];refine bifP (λhb2=>?_) λhb2=>?_
 ·have hj:j<book.length:=by have:=of_decide_eq_true hb2;omega
  obtain ⟨hg,hst0,hst1⟩:=del_step ⟨h1,h2,h3,h4,h5⟩ hj;refine ⟨⟨by omega,by omega⟩,bifP (λhp=>?_) λhp=>bifP (λhq=>?_) λhq=>?_⟩
  ·refine ⟨⟨by omega,by omega⟩,(k,j+1,l),hst0 ?_,by show book.length-(j+1)<book.length-j;omega,⟨rfl,by push_cast;rfl⟩,rfl⟩
   unfold Hea.q02;rw [show (l.getD j Cod.noG).2.2.1=false by simpa using hp];rfl
  ·have hn:Hea.q02 pt (l.getD j Cod.noG)=true:=by
    unfold Hea.q02 Cod.ptOf;rw [show (l.getD j Cod.noG).2.2.1=true by simpa using hp,decide_eq_true (p:=Cod.q1l (l.getD j Cod.noG).2.2.2 pt≤250000) (by
     have:decide (250000<Cod.q1l (l.getD j Cod.noG).2.2.2 pt)=false:=by simpa using hq
     have:=of_decide_eq_false this;omega)];rfl
   refine ⟨⟨by omega,by omega⟩,?_⟩
   rw [show k.beq k=true from Nat.beq_refl k,cond_true];exact ⟨⟨by omega,by omega⟩,⟨by omega,by omega⟩,(k+1,j+1,l.set k (l.getD j Cod.noG)),hst1 hn,by show book.length-(j+1)<book.length-j;omega,⟨by push_cast;rfl,by push_cast;rfl⟩,rfl⟩
  ·refine ⟨⟨by omega,by omega⟩,(k,j+1,l),hst0 ?_,by show book.length-(j+1)<book.length-j;omega,⟨rfl,by push_cast;rfl⟩,rfl⟩
   unfold Hea.q02 Cod.ptOf;have:decide (250000<Cod.q1l (l.getD j Cod.noG).2.2.2 pt)=true:=by simpa using hq
   rw [decide_eq_false (p:=Cod.q1l (l.getD j Cod.noG).2.2.2 pt≤250000) (by have:=of_decide_eq_true this;omega),Bool.and_false]
 ·have hle:l.length≤j:=by have:=of_decide_eq_false hb2;omega
  have hfl:book.filter (Hea.q02 pt)=l.take k:=by rw [h4,List.take_of_length_le (by omega)]
  have hlen:(l.take k++List.replicate (l.length-k) Cod.noG).length=l.length:=by rw [List.length_append,List.length_take,List.length_replicate];omega
  have htk:(l.take k++List.replicate (l.length-k) Cod.noG).take k=l.take k:=by rw [List.take_append_of_le_length (by rw [List.length_take];omega),List.take_take,Nat.min_self]
  refine ⟨⟨by omega,by omega⟩,⟨by omega,by rw [hlen];omega⟩,⟨(0,[]),⟨Nat.zero_le _,Nat.le_refl _,rfl⟩,⟨rfl,by rw [htk,hfl]⟩,rfl,by rw [htk,hfl]⟩,hF⟩
theorem far1_ok {e:Cod.Ear} {book:q0d} {pt:Cod.Pt} {w:List (List UInt8)} {R:List UInt8×Bool×Int} (hb:book.length≤1000000) (hF:q72 e book pt w R) (hR:R=Hea.q0i (Hea.q05 e) e.ws w (book.filter (Hea.q02 pt)) []):FarR1 e book pt w R:=by
 unfold FarR1
 delta qjg zFit
 simp only [true_and,and_true];refine ⟨⟨0,⟨Nat.zero_le _,rfl⟩,rfl⟩,?_⟩;rintro k ⟨hk,ha⟩;have hti:((k:Int).toNat)=k:=rfl;simp only [hti];refine bifP (λhb2=>?_) λhb2=>?_
 ·have hlt:k<book.length:=by have:=of_decide_eq_true hb2;omega
  have hst:∀ h:Hea.q02 pt (book.getD k Cod.noG)=false,q4b book pt k (k+1) book:=λh=>by
   refine ⟨by omega,hlt,rfl,?_,rfl⟩
   rw [Snd.q1d book Cod.noG k hlt,List.filter_append,List.filter_cons_of_neg (by rw [h];decide),List.filter_nil,List.append_nil,List.filter_eq_self.2 (List.all_eq_true.1 ha)]
  refine ⟨⟨by omega,by omega⟩,bifP (λhp=>?_) λhp=>bifP (λhd=>?_) λhd=>?_⟩
  ·refine ⟨⟨by omega,by omega⟩,⟨(k,k+1,book),hst ?_,⟨rfl,by push_cast;rfl⟩,rfl⟩,del1_ok hb hF⟩
   unfold Hea.q02;rw [show (book.getD k Cod.noG).2.2.1=false by simpa using hp];rfl
  ·refine ⟨⟨by omega,by omega⟩,⟨(k,k+1,book),hst ?_,⟨rfl,by push_cast;rfl⟩,rfl⟩,del1_ok hb hF⟩
   unfold Hea.q02 Cod.ptOf;rw [decide_eq_false (p:=Cod.q1l (book.getD k Cod.noG).2.2.2 pt≤250000) (by have:=of_decide_eq_true hd;omega),Bool.and_false]
  ·refine ⟨⟨by omega,by omega⟩,k+1,⟨hlt,?_⟩,by omega,by push_cast;rfl⟩
   rw [Snd.q47 book Cod.noG _ k hlt,ha,Bool.true_and];unfold Hea.q02 Cod.ptOf;rw [show (book.getD k Cod.noG).2.2.1=true by simpa using hp,decide_eq_true (p:=Cod.q1l (book.getD k Cod.noG).2.2.2 pt≤250000) (by have:=of_decide_eq_false hd;omega)];rfl
 ·have hle:book.length≤k:=by have:=of_decide_eq_false hb2;omega
  rw [Snd.q82 book _ k hle] at ha;have hfl:book.filter (Hea.q02 pt)=book:=List.filter_eq_self.2 (List.all_eq_true.1 ha);refine ⟨⟨(0,[]),⟨Nat.zero_le _,Nat.le_refl _,rfl⟩,⟨rfl,by rw [hfl]⟩,rfl,hfl.symm⟩,hF⟩
theorem far2_ok {e:Cod.Ear} {book:q0d} {pt:Cod.Pt} {w:List (List UInt8)} {R:List UInt8×Bool×Int} (hb:book.length≤1000000) (hF:q72 e book pt w R) (hR:R=Hea.q0i (Hea.q05 e) e.ws w (book.filter (Hea.q02 pt)) []):FarR2 e book pt w R:=by
 unfold FarR2
 delta qix zFit
 simp only [true_and,and_true];refine ⟨⟨0,⟨Nat.zero_le _,rfl⟩,rfl⟩,?_⟩;rintro k ⟨hk,ha⟩;have hti:((k:Int).toNat)=k:=rfl;simp only [hti];refine bifP (λhb2=>?_) λhb2=>?_
 ·have hlt:k<book.length:=by have:=of_decide_eq_true hb2;omega
  have hst:∀ h:Hea.q02 pt (book.getD k Cod.noG)=false,q4b book pt k (k+1) book:=λh=>by
   refine ⟨by omega,hlt,rfl,?_,rfl⟩
   rw [Snd.q1d book Cod.noG k hlt,List.filter_append,List.filter_cons_of_neg (by rw [h];decide),List.filter_nil,List.append_nil,List.filter_eq_self.2 (List.all_eq_true.1 ha)]
  refine ⟨⟨by omega,by omega⟩,bifP (λhp=>?_) λhp=>bifP (λhd=>?_) λhd=>?_⟩
  ·refine ⟨⟨by omega,by omega⟩,⟨(k,k+1,book),hst ?_,⟨rfl,by push_cast;rfl⟩,rfl⟩,del2_ok hb hF⟩
   unfold Hea.q02;rw [show (book.getD k Cod.noG).2.2.1=false by simpa using hp];rfl
  ·refine ⟨⟨by omega,by omega⟩,⟨(k,k+1,book),hst ?_,⟨rfl,by push_cast;rfl⟩,rfl⟩,del2_ok hb hF⟩
   unfold Hea.q02 Cod.ptOf;rw [decide_eq_false (p:=Cod.q1l (book.getD k Cod.noG).2.2.2 pt≤250000) (by have:=of_decide_eq_true hd;omega),Bool.and_false]
  ·refine ⟨⟨by omega,by omega⟩,k+1,⟨hlt,?_⟩,by omega,by push_cast;rfl⟩
   rw [Snd.q47 book Cod.noG _ k hlt,ha,Bool.true_and];unfold Hea.q02 Cod.ptOf;rw [show (book.getD k Cod.noG).2.2.1=true by simpa using hp,decide_eq_true (p:=Cod.q1l (book.getD k Cod.noG).2.2.2 pt≤250000) (by have:=of_decide_eq_false hd;omega)];rfl
 ·have hle:book.length≤k:=by have:=of_decide_eq_false hb2;omega
  rw [Snd.q82 book _ k hle] at ha;have hfl:book.filter (Hea.q02 pt)=book:=List.filter_eq_self.2 (List.all_eq_true.1 ha);refine ⟨⟨(0,[]),⟨Nat.zero_le _,Nat.le_refl _,rfl⟩,⟨rfl,by rw [hfl]⟩,rfl,hfl.symm⟩,hF⟩
set_option maxRecDepth 100000 in
theorem here_vc (e:Cod.Ear) (book:q0d) (pt:Cod.Pt) (text:List UInt8) (h:cHere.pre ((e.lang,e.ws),e.c,book,pt,text)) :
  (q0x (e.lang,e.ws)∧q0o e.c∧q5l book)∧bif !e.proper book then ([],false,(1:Int))=Hea.q21 e book pt text else True∧bif !Cod.onB pt then ([],false,(1:Int)) =
  Hea.q21 e book pt text else (∃ (p':Bool×List UInt8×List (List UInt8)),q49 text p'.1 p'.2.1 p'.2.2∧(true=p'.1∧True∧True∧True)∧((text=p'.2.1∧True)∧(True∧True ∧
  True)∧(e.c=e.c∧True)∧(True∧True)∧(false=false∧True)∧(True∧True)∧(e.lang=e.lang∧e.ws=e.ws∧True)∧(pt.1=pt.1∧pt.2=pt.2∧True)∧True)∧(p'.2.2=[] ∧
  True)∧True∧True∧(True∧True∧True∧book=book∧True∧True∧True)∧True∧True∧True∧True∧(True∧True∧True∧True)∧True)∧∀ (p:Bool×List UInt8×List (List
  UInt8)),q49 text p.1 p.2.1 p.2.2→bif p.1 then (p.2.1.length≤(1000000:Nat)∧[(32:UInt8)]=[(32:UInt8)])∧(cutF p.2.1).1.length≤(1000000:Nat)∧bif (cutF p.2.1).1.any fun
  (c:UInt8)=>!Snd.letB c then ([],false,(5:Int))=Hea.q21 e book pt text else bif (cutF p.2.1).1==[] then ([],false,(5:Int))=Hea.q21 e book pt text else bif decide ((12 :
  Int)<(↑(cutF p.2.1).1.length:Int)) then ([],false,(5:Int))=Hea.q21 e book pt text else bif (p.2.2.length:Int)==(5:Int) then ([],false,(5:Int))=Hea.q21 e book pt
  text else ((p.2.2.length+[(cutF p.2.1).1].length)*(16:Nat)≤(140737488355328:Nat)∧∃ (p':Bool×List UInt8×List (List UInt8)),q49 text p'.1 p'.2.1 p'.2.2∧((if p'.1=true
  then p'.2.1.length+(1:Nat) else (0:Nat))<if p.1=true then p.2.1.length+(1:Nat) else (0:Nat))∧((cutF p.2.1).2.2=p'.1∧True∧True∧True)∧(((cutF p.2.1).2.1=p'.2.1 ∧
  True)∧(True∧True∧True)∧(e.c=e.c∧True)∧(True∧True)∧(false=false∧True)∧(True∧True)∧(e.lang=e.lang∧e.ws=e.ws∧True)∧(pt.1=pt.1∧pt.2=pt.2∧True) ∧
  True)∧(p.2.2++[(cutF p.2.1).1]=p'.2.2∧True)∧True∧True∧(True∧True∧True∧book=book∧True∧True∧True)∧True∧True∧True∧True∧(True∧True∧True∧True)∧True)
  ∧ ((p.2.2.length+[(cutF p.2.1).1].length)*(16:Nat)≤(140737488355328:Nat)∧∃ (p':Bool×List UInt8×List (List UInt8)),q49 text p'.1 p'.2.1 p'.2.2∧((if p'.1=true then
  p'.2.1.length+(1:Nat) else (0:Nat))<if p.1=true then p.2.1.length+(1:Nat) else (0:Nat))∧((cutF p.2.1).2.2=p'.1∧True∧True∧True)∧(((cutF p.2.1).2.1=p'.2.1∧True)
  ∧ (True∧True∧True)∧(e.c=e.c∧True)∧(True∧True)∧(false=false∧True)∧(True∧True)∧(e.lang=e.lang∧e.ws=e.ws∧True)∧(pt.1=pt.1∧pt.2=pt.2∧True)∧True) ∧
  (p.2.2++[(cutF p.2.1).1]=p'.2.2∧True)∧True∧True∧(True∧True∧True∧book=book∧True∧True∧True)∧True∧True∧True∧True∧(True∧True∧True∧True)∧True) ∧
  (p.2.2.length+[(cutF p.2.1).1].length)*(16:Nat)≤(140737488355328:Nat)∧∃ (p':Bool×List UInt8×List (List UInt8)),q49 text p'.1 p'.2.1 p'.2.2∧((if p'.1=true then
  p'.2.1.length+(1:Nat) else (0:Nat))<if p.1=true then p.2.1.length+(1:Nat) else (0:Nat))∧((cutF p.2.1).2.2=p'.1∧True∧True∧True)∧(((cutF p.2.1).2.1=p'.2.1∧True)
  ∧ (True∧True∧True)∧(e.c=e.c∧True)∧(True∧True)∧(false=false∧True)∧(True∧True)∧(e.lang=e.lang∧e.ws=e.ws∧True)∧(pt.1=pt.1∧pt.2=pt.2∧True)∧True) ∧
  (p.2.2++[(cutF p.2.1).1]=p'.2.2∧True)∧True∧True∧(True∧True∧True∧book=book∧True∧True∧True)∧True∧True∧True∧True∧(True∧True∧True∧True)∧True else
  (List.length book≤(1000000:Nat)∧FarR1 e book pt p.2.2 (Hea.q21 e book pt text))∧List.length book≤(1000000:Nat)∧(FarR1 e book pt p.2.2 (Hea.q21 e book pt text))∧FarR2 e
  book pt p.2.2 (Hea.q21 e book pt text)
  := by
 obtain ⟨hW,hC,hB,hT⟩:=h;have hT:text.length≤1000:=hT;simp only [true_and,and_true];refine ⟨⟨hW,hC,hB⟩,bifP (λhb=>?_) λhb=>?_⟩
 ·unfold Hea.q21
  rw [show e.proper book=false by simpa using hb];rfl
 have hp:e.proper book=true:=by simpa using hb
 refine bifP (λhb=>?_) λhb=>?_
 ·unfold Hea.q21
  rw [hp,show Cod.onB pt=false by simpa using hb];rfl
 have ho:Cod.onB pt=true:=by simpa using hb
 have hh:Hea.q21 e book pt text=match Hea.q7b text with
   | none=>([],false,5)
   | some words=>Hea.q0i (Hea.q05 e) e.ws words (book.filter (Hea.q02 pt)) []:=by
  unfold Hea.q21;rw [hp,ho];rfl
 refine ⟨⟨(true,text,[]),⟨rfl,rfl,Nat.zero_le _,Nat.le_refl _⟩,rfl,rfl,rfl⟩,?_⟩;rintro ⟨more,rest,w⟩ hlis;have hlis:q49 text more rest w:=hlis;have hlw:w.length≤5:=hlis.2.2.1;have hlr:rest.length≤text.length:=hlis.2.2.2;dsimp only;refine bifP (λhb=>?_) λhb=>?_
 ·obtain rfl:more=true:=hb
  have bad:Hea.q4a (cutF rest).1=false∨w.length=5→([],false,(5:Int))=Hea.q21 e book pt text:=λh=>by
   rw [hh,Hea.lis_bad hlis h]
  have hcl:(cutF rest).1.length≤1000000:=by
   unfold cutF;split
   ·dsimp only;rw [List.length_take];omega
   ·dsimp only;omega
  refine ⟨by omega,hcl,bifP (λhb=>bad (.inl (Hea.q93 (.inl hb)))) λh1=>bifP (λhb=>bad (.inl (Hea.q93 (.inr (.inl hb))))) λh2=>bifP (λhb=>bad (.inl (Hea.q93 (.inr (.inr (of_decide_eq_true hb)))))) λh3=>bifP (λhb=>bad (.inr (by have:=eq_of_beq hb;omega))) λh4=>?_⟩
  have h5:w.length<5:=by rw [beq_eq_false_iff_ne] at h4;omega
  have hst:=Hea.lis_step hlis (Hea.word_of h1 h2 (of_decide_eq_false h3)) h5;have hg:(w.length+[(cutF rest).1].length)*16≤140737488355328∧∃ p':Bool×List UInt8×List (List UInt8),q49 text p'.1 p'.2.1 p'.2.2∧((if p'.1=true then p'.2.1.length+1 else 0)<if true=true then rest.length+1 else 0)∧(cutF rest).2.2=p'.1∧(cutF rest).2.1=p'.2.1∧w++[(cutF rest).1]=p'.2.2 :=
   ⟨by rw [List.length_singleton];omega,((cutF rest).2.2,(cutF rest).2.1,w++[(cutF rest).1]),hst,Hea.lis_less,rfl,rfl,rfl⟩
  exact ⟨hg,hg,hg⟩
 ·obtain rfl:more=false:=hb
  have hv:Hea.q21 e book pt text=Hea.q0i (Hea.q05 e) e.ws w (book.filter (Hea.q02 pt)) []:=by rw [hh,Hea.lis_end hlis]
  have hwl:∀ s∈w,s.length≤1000000:=λs hs=>by
   have:=List.all_eq_true.1 hlis.2.1 s hs
   unfold Hea.q4a at this;simp only [Bool.and_eq_true,decide_eq_true_eq] at this;omega
  have hF:=findR_ok (pt:=pt) hp hC hW.2.2 hlw hwl hB.1 hv;exact ⟨⟨hB.1,far1_ok hB.1 hF hv⟩,hB.1,far1_ok hB.1 hF hv,far2_ok hB.1 hF hv⟩
theorem q0e.app {P:Program}:∀ {l m:List (Nat×Func)},q0e P l→q0e P m→q0e P (l++m)
 | [],m,_,h=>h
 | (k,fn)::l,m,hl,hm=>λf g hg=>by
  rw [List.cons_append,look?_cons] at hg;split at hg
  ·rename_i e
   subst e;exact hl k g (by rw [look?_cons,if_pos rfl];exact hg)
  ·rename_i hne
   by_cases hin:∃ y,look? f l=some y
   ·obtain ⟨y,hy⟩:=hin
    have:∀ {l m:List (Nat×Func)},look? f l=some y→look? f (l++m)=some y:=λ{l m} h=>by
     induction l with
     | nil=>cases h
     | cons z l ih =>
      obtain ⟨k2,f2⟩:=z;rw [List.cons_append,look?_cons];rw [look?_cons] at h;split
      ·rename_i e2;rw [if_pos e2] at h;exact h
      ·rename_i e2;rw [if_neg e2] at h;exact ih h
    rw [this hy] at hg;injection hg with hg;subst hg;exact hl f y (by rw [look?_cons,if_neg hne];exact hy)
   ·have:∀ {l m:List (Nat×Func)},(¬ ∃ y,look? f l=some y)→look? f (l++m)=look? f m:=λ{l m} h=>by
     induction l with
     | nil=>rfl
     | cons z l ih =>
      obtain ⟨k2,f2⟩:=z;rw [look?_cons] at h;rw [List.cons_append,look?_cons];split
      ·rename_i e2;exact absurd ⟨f2,by rw [if_pos e2]⟩ h
      ·rename_i e2
       refine ih λ⟨y,hy⟩=>h ⟨y,by rw [if_neg e2];exact hy⟩
    rw [this hin] at hg;exact hm f g hg
theorem kitHr_ok:kitHr.Ok Tryz.prog where
 cons:=all_cons qaw (all_cons qhq (all_cons cut_holds (all_cons (show cEqS.lent.Holds Tryz.prog from eqS_holds) (all_cons qf0 (all_cons qeh all_nil)))))
 ns:=all_cons qgy (all_cons cloneG_holds all_nil)
 os:=all_cons qft all_nil
 fcs:=all_cons qkq all_nil
 rcs:=all_nil
 inls:=q0e.app inlHe_ok (q0e.more Tryz.func53 (by kernel_rfl) (by kernel_rfl) (q0e.more Tryz.func54 (by kernel_rfl) (by kernel_rfl) (q0e.more Tryz.func108 (by kernel_rfl) (by kernel_rfl) q0e.nil)))
set_option maxRecDepth 100000000 in
theorem qkp:cHere.Holds Tryz.prog:=by
 refine holdsX (T:=kitHr) (λp=>anHr ⟨p.1.1,p.1.2,p.2.1⟩ p.2.2.1 p.2.2.2.1 p.2.2.2.2) Tryz.func20 (by kernel_rfl) (by kernel_rfl) mixed (by kernel_rfl) kitHr_ok (λ_=>[qa8 7]) λp hp=>?_
 obtain ⟨⟨lang,ws⟩,c,book,pt,text⟩:=p;refine cast ?_ (here_vc ⟨lang,ws,c⟩ book pt text hp)
 kernel_rfl
end Go.Proofs.YtfecgebhoondjaaGreatDoor
namespace Go.Proofs.YtfecgebhoondjaaGreatDoor
namespace Cod
theorem bump_app {n:Int}:∀ (a r:List Int),a.all (λd=>decide (n≤d+1))=true→bump n (a++r)=(List.replicate a.length 0++(bump n r).1,(bump n r).2)
 | [],r,_=>rfl
 | d::a,r,h=>by
  rw [List.all_cons,Bool.and_eq_true,decide_eq_true_eq] at h;rw [List.cons_append,bump,decide_eq_false (by omega),bump_app a r h.2]
  rfl
theorem all_rev {α:Type} (p:α→Bool) (l:List α):l.reverse.all p=l.all p:=List.all_reverse
theorem next_end {n:Int} {l:List Int} (ht:(l.drop (l.length-l.length)).all (λd=>decide (n≤d+1))=true):(nextL n l).2=false:=by
 rw [Nat.sub_self,List.drop_zero] at ht;unfold nextL;have:=bump_app l.reverse [] (by rw [all_rev];exact ht)
 rw [List.append_nil] at this;rw [this];rfl
end Cod
open Go.RowKit R
abbrev ckErr:CK:=.one (.int .i64)
def cMist:Con:=.of 32 [ckWl,ckCf,qdx] [ckLists,ckErr] (λp=>q0x p.1∧q0o p.2.1∧List.length p.2.2≤1000000) (λp=>Cod.Ear.q2g ⟨p.1.1,p.1.2,p.2.1⟩ p.2.2)
def ordL (l:List (List Int)):List (List Int):=l.mergeSort λa b=>decide (Cod.cmpL a b≤0)
def q0t:List (List Int)→List (List Int)
 | []=>[]
 | [x]=>[x]
 | x::y::r=>if x==y then q0t (y::r) else x::q0t (y::r)
def LongX (xs:List (List Int)):Prop:=xs.length≤1000000000∧∀ x∈xs,x.length≤1000000
def oSortL:OCon:={ f:=116,e:=40,fs:=kIs,args:=[],fa:=.fn 67,ret:=false,pre:=λxs _ _=>LongX xs,F:=λxs _ _=>ordL xs }
def oCompL:OCon:={ f:=68,e:=40,fs:=kIs,args:=[],fa:=.fn 69,ret:=true,pre:=λxs _ _=>LongX xs,F:=λxs _ _=>q0t xs }
noncomputable def inlMi:List (Nat×Func):=[(64,Tryz.f64),(66,Tryz.f66),(117,Tryz.f117),(118,Tryz.f118),(120,Tryz.f120),
 (65,Tryz.f65),(115,Tryz.f115),(149,Tryz.f149)]
noncomputable def kitMi:Kit:={ cons:=[qh0,cValid,cProper,cNear],ns:=[nClone],os:=[oDelete,oSortL,oCompL],inls:=inlMi }
def qhi (l:List (List Int)):Row:=⟨40,kIs,l⟩
abbrev miT:Nat:=29008005000
abbrev miR:Nat:=(miT+1)*1000+700+11
def R.Get.outAt (st:St):List (List Int):=match st.row miR with
 | some y=>match y.fs.deq kIs with
  | some ⟨h⟩=>q3b h y.xs
  | none=>[]
 | none=>[]
def R.Get.miNear (st:St):q04:=Get.mapOf (.one (.int .i64)) (.one (.sl (.one (.int .i64)))) 15007 st
def keepMi (live:List Nat) (ahead:List (Nat×List Nat)):Keep:={ live:=live,sav:=savK 0 (ahead++[(13,[2]),(5,[]),(12,[1])]),box:=[28002,28003,15010],lp:=[2] }
def overMi:List (Nat×List Cell):=[(miT+2,[.own miR])]
def anMiIter (e:Cod.Ear) (code:List Int):List (Nat×Ann) :=
 [annX 0 (Nat×q04×List (List Int))
    (λst p=>st.hd (keepMi [0,1,2,4,11,12] []) [(13,R.int .i64 p.1)] overMi [(miR,qhi p.2.2)] [(15007,q61 p.2.1)] none)
    (λ_ p=>p.1≤code.length∧q0q e p.2.1∧p.2.2=e.q0k code p.1 0)
    (λ_ p=>code.length-p.1),
 annX 2 (Nat×List (List Int))
    (λst p=>st.hd (keepMi [0,1,2,4,5,6,11,12,13,20,21] []) [(22,R.int .i64 p.1)] overMi [(miR,qhi p.2)] [(15007,q61 (Get.miNear st))] none)
    (λst p=>p.1≤(e.near (st.intOf 6)).length∧p.2=Get.outAt st++q1q e code (st.intOf 5).toNat p.1)
    (λst p=>(e.near (st.intOf 6)).length-p.1),
 annX 2000010 (List (List Int))
    (λst p=>st.hd (keepMi [0,1,2,4,5,6,11,12,13] []) [] overMi [(miR,qhi p)] [(15007,q61 (Get.miNear st))] none)
    (λst p=>p=Get.outAt st++[code.eraseIdx (st.intOf 5).toNat])
    (λ_ _=>0)]
def anMiHeard (e:Cod.Ear):List (Nat×Ann) :=
 [annX 2000005 (q04)
    (λst p=>st.hd (keepMi [] [(77,qhk)]) [(5,.c (.one (.val (.sl (.one (.int .i64))) (e.near (st.intOf 1)))))] overMi [(miR,qhi (Get.outAt st))] [(15007,q61 p)] none)
    (λ_ p=>q0q e p)
    (λ_ _=>0)]
def anMi (e:Cod.Ear) (code:List Int):Nat→List (Nat×Ann):=λf =>
 bif Nat.beq f 117 then anMiIter e code
 else bif Nat.beq f 120 then anMiHeard e
 else []
def anMist (e:Cod.Ear):List (Nat×Ann) :=
 [annX 2000002 Unit (λst _=>st.hd { live:=[2,3],sav:=[],box:=[3] } [(8,.c (.one (.ptr 15010 0))),(9,.c (.one (.val .bool (Snd.q0h e.lang e.ws&&Snd.q0l e.c))))] [(15010,[.val .str e.lang,.val (.sl (.one .str)) e.ws,.mref 15007,.val (.sl kCf) e.c])] [] [(15007,q61 [])] none) (λ_ _=>True) (λ_ _=>0)]
end Go.Proofs.YtfecgebhoondjaaGreatDoor

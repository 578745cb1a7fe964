/-
  Several texts in one: HeNV, HeO, HeQ, CoGL, CoGB, CoGC, CoS, CoTL, CoW, CoX, CoZA, CoY, CoZB, CoT, CoZ, CoZC, CoZD, CoZE, CoV, CoHd, CoJ.
-/
import Derived.Test.YtfecgebhoondjaaGreatDoorPQ
import Derived.Test.YtfecgebhoondjaaGreatDoorPA
import Derived.Test.YtfecgebhoondjaaGreatDoorPN
import Derived.Test.YtfecgebhoondjaaGreatDoorPO
import Derived.Test.YtfecgebhoondjaaGreatDoorPP
import Derived.Test.YtfecgebhoondjaaGreatDoorPB
import Derived.Deep.LoopGhost
import Derived.Lib.OwnBridge
import Derived.Shelf.SlSortCmp.NoneTotal
import Derived.Deep.QuietTactic
set_option linter.unusedVariables false
namespace Go.Proofs.YtfecgebhoondjaaGreatDoor
open Go.RowKit
open R
set_option maxRecDepth 100000 in
def q6f (e:Cod.Ear) (book:q0d) (pt:Cod.Pt) (w:List (List UInt8)) (R:List UInt8×Bool×Int):Prop :=
  ∀ (p_1:Nat×List (List UInt8)),p_1.1≤(List.filter (Hea.q00 pt) book).length∧p_1.2.length≤p_1.1∧Hea.q0f (Hea.q04 e) e.ws w (List.filter (Hea.q00 pt) book) []=Hea.q0f
  (Hea.q04 e) e.ws w (List.drop p_1.1 (List.filter (Hea.q00 pt) book)) p_1.2→bif decide ((p_1.1:Int)<(↑(List.filter (Hea.q00 pt) book).length:Int)) then ((0:Int)≤(↑p_1.1 :
  Int)∧(p_1.1:Int)<(↑(List.filter (Hea.q00 pt) book).length:Int))∧(∃ (p':Nat×List (List UInt8)),(p'.1≤((List.filter (Hea.q00 pt) book).getD (p_1.1:Int).toNat
  Cod.noG).2.1.length∧p'.2=Hea.ownW e.ws (List.take p'.1 ((List.filter (Hea.q00 pt) book).getD (p_1.1:Int).toNat Cod.noG).2.1))∧((0:Int)=(p'.1:Int)∧True∧True∧True ∧
  True∧True∧True∧True∧(↑(List.filter (Hea.q00 pt) book).length:Int)=(↑(List.filter (Hea.q00 pt) book).length:Int)∧(p_1.1:Int)=(p_1.1:Int)∧((List.filter (Hea.q00
  pt) book).getD (p_1.1:Int).toNat Cod.noG).2.1=((List.filter (Hea.q00 pt) book).getD (p_1.1:Int).toNat Cod.noG).2.1∧(↑((List.filter (Hea.q00 pt) book).getD (p_1.1:Int).toNat
  Cod.noG).2.1.length:Int)=(↑((List.filter (Hea.q00 pt) book).getD (p_1.1:Int).toNat Cod.noG).2.1.length:Int)∧True)∧((True∧True)∧(True∧True∧True)∧(e.c=e.c∧True) ∧
  (e.lang=e.lang∧e.ws=e.ws∧True)∧(((List.filter (Hea.q00 pt) book).getD (p_1.1:Int).toNat Cod.noG).1=((List.filter (Hea.q00 pt) book).getD (p_1.1:Int).toNat Cod.noG).1 ∧
  ((List.filter (Hea.q00 pt) book).getD (p_1.1:Int).toNat Cod.noG).2.1=((List.filter (Hea.q00 pt) book).getD (p_1.1:Int).toNat Cod.noG).2.1∧((List.filter (Hea.q00 pt)
  book).getD (p_1.1:Int).toNat Cod.noG).2.2.1=((List.filter (Hea.q00 pt) book).getD (p_1.1:Int).toNat Cod.noG).2.2.1∧((List.filter (Hea.q00 pt) book).getD (p_1.1:Int).toNat
  Cod.noG).2.2.2.1=((List.filter (Hea.q00 pt) book).getD (p_1.1:Int).toNat Cod.noG).2.2.2.1∧((List.filter (Hea.q00 pt) book).getD (p_1.1:Int).toNat Cod.noG).2.2.2.2 =
  ((List.filter (Hea.q00 pt) book).getD (p_1.1:Int).toNat Cod.noG).2.2.2.2∧True)∧True)∧(p'.2=[]∧w=w∧p_1.2=p_1.2∧List.filter (Hea.q00 pt) book=List.filter (Hea.q00
  pt) book∧True)∧True∧True∧True∧True∧True∧True∧True)∧∀ (p_2:Nat×List (List UInt8)),p_2.1≤((List.filter (Hea.q00 pt) book).getD (p_1.1:Int).toNat
  Cod.noG).2.1.length∧p_2.2=Hea.ownW e.ws (List.take p_2.1 ((List.filter (Hea.q00 pt) book).getD (p_1.1:Int).toNat Cod.noG).2.1)→bif decide ((p_2.1:Int)<(↑((List.filter
  (Hea.q00 pt) book).getD (p_1.1:Int).toNat Cod.noG).2.1.length:Int)) then ((0:Int)≤(p_2.1:Int)∧(p_2.1:Int)<(↑((List.filter (Hea.q00 pt) book).getD (p_1.1:Int).toNat
  Cod.noG).2.1.length:Int))∧((0:Int)≤((List.filter (Hea.q00 pt) book).getD (p_1.1:Int).toNat Cod.noG).2.1.getD (p_2.1:Int).toNat (0:Int)∧((List.filter (Hea.q00 pt)
  book).getD (p_1.1:Int).toNat Cod.noG).2.1.getD (p_2.1:Int).toNat (0:Int)<(e.ws.length:Int))∧(p_2.2.length+[e.ws.getD (((List.filter (Hea.q00 pt) book).getD (↑p_1.1 :
  Int).toNat Cod.noG).2.1.getD (p_2.1:Int).toNat (0:Int)).toNat []].length)*(16:Nat)≤(140737488355328:Nat)∧((-9223372036854775808:Int)≤(p_2.1:Int)+(1:Int)∧(↑p_2.1 :
  Int)+(1:Int)≤(9223372036854775807:Int))∧∃ (p':Nat×List (List UInt8)),(p'.1≤((List.filter (Hea.q00 pt) book).getD (p_1.1:Int).toNat Cod.noG).2.1.length∧p'.2=Hea.ownW
  e.ws (List.take p'.1 ((List.filter (Hea.q00 pt) book).getD (p_1.1:Int).toNat Cod.noG).2.1))∧((List.filter (Hea.q00 pt) book).getD (p_1.1:Int).toNat Cod.noG).2.1.length-p'.1 <
  ((List.filter (Hea.q00 pt) book).getD (p_1.1:Int).toNat Cod.noG).2.1.length-p_2.1∧((p_2.1:Int)+(1:Int)=(p'.1:Int)∧True∧True∧True∧True∧True∧True∧True ∧
  (↑(List.filter (Hea.q00 pt) book).length:Int)=(↑(List.filter (Hea.q00 pt) book).length:Int)∧(p_1.1:Int)=(p_1.1:Int)∧((List.filter (Hea.q00 pt) book).getD (↑p_1.1 :
  Int).toNat Cod.noG).2.1=((List.filter (Hea.q00 pt) book).getD (p_1.1:Int).toNat Cod.noG).2.1∧(↑((List.filter (Hea.q00 pt) book).getD (p_1.1:Int).toNat Cod.noG).2.1.length :
  Int)=(↑((List.filter (Hea.q00 pt) book).getD (p_1.1:Int).toNat Cod.noG).2.1.length:Int)∧True)∧((True∧True)∧(True∧True∧True)∧(e.c=e.c∧True)∧(e.lang=e.lang ∧
  e.ws=e.ws∧True)∧(((List.filter (Hea.q00 pt) book).getD (p_1.1:Int).toNat Cod.noG).1=((List.filter (Hea.q00 pt) book).getD (p_1.1:Int).toNat Cod.noG).1∧((List.filter
  (Hea.q00 pt) book).getD (p_1.1:Int).toNat Cod.noG).2.1=((List.filter (Hea.q00 pt) book).getD (p_1.1:Int).toNat Cod.noG).2.1∧((List.filter (Hea.q00 pt) book).getD (↑p_1.1 :
  Int).toNat Cod.noG).2.2.1=((List.filter (Hea.q00 pt) book).getD (p_1.1:Int).toNat Cod.noG).2.2.1∧((List.filter (Hea.q00 pt) book).getD (p_1.1:Int).toNat Cod.noG).2.2.2.1 =
  ((List.filter (Hea.q00 pt) book).getD (p_1.1:Int).toNat Cod.noG).2.2.2.1∧((List.filter (Hea.q00 pt) book).getD (p_1.1:Int).toNat Cod.noG).2.2.2.2=((List.filter (Hea.q00 pt)
  book).getD (p_1.1:Int).toNat Cod.noG).2.2.2.2∧True)∧True)∧(p_2.2++[e.ws.getD (((List.filter (Hea.q00 pt) book).getD (p_1.1:Int).toNat Cod.noG).2.1.getD (p_2.1:Int).toNat
  (0:Int)).toNat []]=p'.2∧w=w∧p_1.2=p_1.2∧List.filter (Hea.q00 pt) book=List.filter (Hea.q00 pt) book∧True)∧True∧True∧True∧True∧True∧True∧True else
  (p_2.2.length≤(1000000:Nat)∧w.length≤(1000000:Nat))∧bif p_2.2==w then (((List.filter (Hea.q00 pt) book).getD (p_1.1:Int).toNat Cod.noG).1,false,(0:Int))=R else (∃
  (p':Nat),(p'≤(3:Nat)∧((1:Nat)≤p'→Hea.q2s (Hea.q04 e) p_2.2 w=false)∧((2:Nat)≤p'→Hea.q38 p_2.2 w=false)∧((3:Nat)≤p'→Hea.q37 p_2.2 w=false))∧((0
  : Int)=(p':Int)∧True∧True∧(↑[((102:Nat),[(nat_lit 30011,nat_lit 0)].length,[(nat_lit 30011,nat_lit 0)]++[]),((103:Nat),[(nat_lit 30011,nat_lit 0)].length,[(nat_lit
  30011,nat_lit 0)]++[]),((104:Nat),[(nat_lit 30011,nat_lit 0)].length,[(nat_lit 30011,nat_lit 0)]++[])].length:Int)=(↑[((102:Nat),[(nat_lit 30011,nat_lit 0)].length,
  [(nat_lit 30011,nat_lit 0)]++[]),((103:Nat),[(nat_lit 30011,nat_lit 0)].length,[(nat_lit 30011,nat_lit 0)]++[]),((104:Nat),[(nat_lit 30011,nat_lit 0)].length,[(nat_lit
  30011,nat_lit 0)]++[])].length:Int)∧True)∧((True∧True∧True)∧(e.c=e.c∧True)∧(e.lang=e.lang∧e.ws=e.ws∧True)∧(((List.filter (Hea.q00 pt) book).getD (↑p_1.1 :
  Int).toNat Cod.noG).1=((List.filter (Hea.q00 pt) book).getD (p_1.1:Int).toNat Cod.noG).1∧((List.filter (Hea.q00 pt) book).getD (p_1.1:Int).toNat Cod.noG).2.1=((List.filter
  (Hea.q00 pt) book).getD (p_1.1:Int).toNat Cod.noG).2.1∧((List.filter (Hea.q00 pt) book).getD (p_1.1:Int).toNat Cod.noG).2.2.1=((List.filter (Hea.q00 pt) book).getD (↑p_1.1 :
  Int).toNat Cod.noG).2.2.1∧((List.filter (Hea.q00 pt) book).getD (p_1.1:Int).toNat Cod.noG).2.2.2.1=((List.filter (Hea.q00 pt) book).getD (p_1.1:Int).toNat Cod.noG).2.2.2.1 ∧
  ((List.filter (Hea.q00 pt) book).getD (p_1.1:Int).toNat Cod.noG).2.2.2.2=((List.filter (Hea.q00 pt) book).getD (p_1.1:Int).toNat Cod.noG).2.2.2.2∧True)∧(True∧True)∧True)
  ∧ (w=w∧p_1.2=p_1.2∧p_2.2=p_2.2∧List.filter (Hea.q00 pt) book=List.filter (Hea.q00 pt) book∧True)∧True∧True∧(True∧True∧True∧True∧True∧True∧(↑(List.filter
  (Hea.q00 pt) book).length:Int)=(↑(List.filter (Hea.q00 pt) book).length:Int)∧(p_1.1:Int)=(p_1.1:Int)∧True)∧True∧True∧True∧True)∧∀ (p_3:Nat),p_3≤(3:Nat)
  ∧ ((1:Nat)≤p_3→Hea.q2s (Hea.q04 e) p_2.2 w=false)∧((2:Nat)≤p_3→Hea.q38 p_2.2 w=false)∧((3:Nat)≤p_3→Hea.q37 p_2.2 w=false)→bif decide ((p_3:Int) <
  (↑[((102:Nat),[(nat_lit 30011,nat_lit 0)].length,[(nat_lit 30011,nat_lit 0)]++[]),((103:Nat),[(nat_lit 30011,nat_lit 0)].length,[(nat_lit 30011,nat_lit 0)]++[]),((104 :
  Nat),[(nat_lit 30011,nat_lit 0)].length,[(nat_lit 30011,nat_lit 0)]++[])].length:Int)) then ((0:Int)≤(p_3:Int)∧(p_3:Int)<(↑[((102:Nat),[(nat_lit 30011,nat_lit
  0)].length,[(nat_lit 30011,nat_lit 0)]++[]),((103:Nat),[(nat_lit 30011,nat_lit 0)].length,[(nat_lit 30011,nat_lit 0)]++[]),((104:Nat),[(nat_lit 30011,nat_lit 0)].length,
  [(nat_lit 30011,nat_lit 0)]++[])].length:Int))∧((p_3:Int)=(↑(nat_lit 0):Int)→bif (p_2.2.length:Int) != (w.length:Int) then ((-9223372036854775808:Int)≤(p_3:Int)
  + (1:Int)∧(p_3:Int)+(1:Int)≤(9223372036854775807:Int))∧∃ (p':Nat),(p'≤(3:Nat)∧((1:Nat)≤p'→Hea.q2s (Hea.q04 e) p_2.2 w=false)∧((2:Nat)≤p' →
  Hea.q38 p_2.2 w=false)∧((3:Nat)≤p'→Hea.q37 p_2.2 w=false))∧(3:Nat)-p'<(3:Nat)-p_3∧((p_3:Int)+(1:Int)=(p':Int)∧True∧True∧(↑[((102:Nat),
  [(nat_lit 30011,nat_lit 0)].length,[(nat_lit 30011,nat_lit 0)]++[]),((103:Nat),[(nat_lit 30011,nat_lit 0)].length,[(nat_lit 30011,nat_lit 0)]++[]),((104:Nat),[(nat_lit
  30011,nat_lit 0)].length,[(nat_lit 30011,nat_lit 0)]++[])].length:Int)=(↑[((102:Nat),[(nat_lit 30011,nat_lit 0)].length,[(nat_lit 30011,nat_lit 0)]++[]),((103:Nat),
  [(nat_lit 30011,nat_lit 0)].length,[(nat_lit 30011,nat_lit 0)]++[]),((104:Nat),[(nat_lit 30011,nat_lit 0)].length,[(nat_lit 30011,nat_lit 0)]++[])].length:Int)∧True) ∧
  ((True∧True∧True)∧(e.c=e.c∧True)∧(e.lang=e.lang∧e.ws=e.ws∧True)∧(((List.filter (Hea.q00 pt) book).getD (p_1.1:Int).toNat Cod.noG).1=((List.filter (Hea.q00 pt)
  book).getD (p_1.1:Int).toNat Cod.noG).1∧((List.filter (Hea.q00 pt) book).getD (p_1.1:Int).toNat Cod.noG).2.1=((List.filter (Hea.q00 pt) book).getD (p_1.1:Int).toNat
  Cod.noG).2.1∧((List.filter (Hea.q00 pt) book).getD (p_1.1:Int).toNat Cod.noG).2.2.1=((List.filter (Hea.q00 pt) book).getD (p_1.1:Int).toNat Cod.noG).2.2.1∧((List.filter
  (Hea.q00 pt) book).getD (p_1.1:Int).toNat Cod.noG).2.2.2.1=((List.filter (Hea.q00 pt) book).getD (p_1.1:Int).toNat Cod.noG).2.2.2.1∧((List.filter (Hea.q00 pt) book).getD
  (p_1.1:Int).toNat Cod.noG).2.2.2.2=((List.filter (Hea.q00 pt) book).getD (p_1.1:Int).toNat Cod.noG).2.2.2.2∧True)∧(True∧True)∧True)∧(w=w∧p_1.2=p_1.2∧p_2.2=p_2.2
  ∧ List.filter (Hea.q00 pt) book=List.filter (Hea.q00 pt) book∧True)∧True∧True∧(True∧True∧True∧True∧True∧True∧(↑(List.filter (Hea.q00 pt) book).length:Int) =
  (↑(List.filter (Hea.q00 pt) book).length:Int)∧(p_1.1:Int)=(p_1.1:Int)∧True)∧True∧True∧True∧True else (∃ (p':Nat×Nat),(p'.1≤w.length∧p'.2=(Hea.diff
  (List.take p'.1 p_2.2) (List.take p'.1 w)).length∧((Hea.diff (List.take p'.1 p_2.2) (List.take p'.1 w)).all fun (q:Hea.Str×Hea.Str)=>Hea.q04 e q.1 q.2)=true)∧((0:Int) =
  (p'.1:Int)∧(0:Int)=(p'.2:Int)∧True∧True∧True∧(w.length:Int)=(w.length:Int)∧True)∧((True∧True∧True)∧(e.c=e.c∧True)∧(e.lang=e.lang∧e.ws=e.ws ∧
  True)∧(((List.filter (Hea.q00 pt) book).getD (p_1.1:Int).toNat Cod.noG).1=((List.filter (Hea.q00 pt) book).getD (p_1.1:Int).toNat Cod.noG).1∧((List.filter (Hea.q00 pt)
  book).getD (p_1.1:Int).toNat Cod.noG).2.1=((List.filter (Hea.q00 pt) book).getD (p_1.1:Int).toNat Cod.noG).2.1∧((List.filter (Hea.q00 pt) book).getD (p_1.1:Int).toNat
  Cod.noG).2.2.1=((List.filter (Hea.q00 pt) book).getD (p_1.1:Int).toNat Cod.noG).2.2.1∧((List.filter (Hea.q00 pt) book).getD (p_1.1:Int).toNat Cod.noG).2.2.2.1=((List.filter
  (Hea.q00 pt) book).getD (p_1.1:Int).toNat Cod.noG).2.2.2.1∧((List.filter (Hea.q00 pt) book).getD (p_1.1:Int).toNat Cod.noG).2.2.2.2=((List.filter (Hea.q00 pt) book).getD
  (p_1.1:Int).toNat Cod.noG).2.2.2.2∧True)∧(True∧True)∧True)∧(w=w∧p_1.2=p_1.2∧p_2.2=p_2.2∧List.filter (Hea.q00 pt) book=List.filter (Hea.q00 pt) book∧True) ∧
  True∧True∧(True∧True∧(p_3:Int)=(p_3:Int)∧(↑[((102:Nat),[(nat_lit 30011,nat_lit 0)].length,[(nat_lit 30011,nat_lit 0)]++[]),((103:Nat),[(nat_lit 30011,nat_lit
  0)].length,[(nat_lit 30011,nat_lit 0)]++[]),((104:Nat),[(nat_lit 30011,nat_lit 0)].length,[(nat_lit 30011,nat_lit 0)]++[])].length:Int)=(↑[((102:Nat),[(nat_lit 30011,
  nat_lit 0)].length,[(nat_lit 30011,nat_lit 0)]++[]),((103:Nat),[(nat_lit 30011,nat_lit 0)].length,[(nat_lit 30011,nat_lit 0)]++[]),((104:Nat),[(nat_lit 30011,nat_lit
  0)].length,[(nat_lit 30011,nat_lit 0)]++[])].length:Int)∧(p_3:Int)=(p_3:Int)∧True∧True∧True∧True∧True∧True∧(↑(List.filter (Hea.q00 pt) book).length:Int) =
  (↑(List.filter (Hea.q00 pt) book).length:Int)∧(p_1.1:Int)=(p_1.1:Int)∧True)∧True∧True∧True∧True)∧∀ (p_4:Nat×Nat),p_4.1≤w.length∧p_4.2=(Hea.diff
  (List.take p_4.1 p_2.2) (List.take p_4.1 w)).length∧((Hea.diff (List.take p_4.1 p_2.2) (List.take p_4.1 w)).all fun (q:Hea.Str×Hea.Str)=>Hea.q04 e q.1 q.2)=true→bif decide
  ((p_4.1:Int)<(w.length:Int)) then ((0:Int)≤(p_4.1:Int)∧(p_4.1:Int)<(w.length:Int))∧((0:Int)≤(p_4.1:Int)∧(p_4.1:Int)<(p_2.2.length:Int))∧bif
  !w.getD (p_4.1:Int).toNat []==p_2.2.getD (p_4.1:Int).toNat [] then ((-9223372036854775808:Int)≤(p_4.2:Int)+(1:Int)∧(p_4.2:Int)+(1:Int)≤(9223372036854775807 :
  Int))∧((0:Int)≤(p_4.1:Int)∧(p_4.1:Int)<(p_2.2.length:Int))∧(q0t e.c∧(p_2.2.getD (p_4.1:Int).toNat []).length≤(1000000:Nat)∧(w.getD (p_4.1:Int).toNat
  []).length≤(1000000:Nat))∧bif !Snd.q27 e.c (p_2.2.getD (p_4.1:Int).toNat []) (w.getD (p_4.1:Int).toNat []) then ((-9223372036854775808:Int)≤(p_3:Int)+(1:Int) ∧
  (p_3:Int)+(1:Int)≤(9223372036854775807:Int))∧∃ (p':Nat),(p'≤(3:Nat)∧((1:Nat)≤p'→Hea.q2s (Hea.q04 e) p_2.2 w=false)∧((2:Nat)≤p'→Hea.q38 p_2.2 w =
  false)∧((3:Nat)≤p'→Hea.q37 p_2.2 w=false))∧(3:Nat)-p'<(3:Nat)-p_3∧((p_3:Int)+(1:Int)=(p':Int)∧True∧True∧(↑[((102:Nat),[(nat_lit 30011,nat_lit
  0)].length,[(nat_lit 30011,nat_lit 0)]++[]),((103:Nat),[(nat_lit 30011,nat_lit 0)].length,[(nat_lit 30011,nat_lit 0)]++[]),((104:Nat),[(nat_lit 30011,nat_lit 0)].length,
  [(nat_lit 30011,nat_lit 0)]++[])].length:Int)=(↑[((102:Nat),[(nat_lit 30011,nat_lit 0)].length,[(nat_lit 30011,nat_lit 0)]++[]),((103:Nat),[(nat_lit 30011,nat_lit
  0)].length,[(nat_lit 30011,nat_lit 0)]++[]),((104:Nat),[(nat_lit 30011,nat_lit 0)].length,[(nat_lit 30011,nat_lit 0)]++[])].length:Int)∧True)∧((True∧True∧True)∧(e.c
  = e.c∧True)∧(e.lang=e.lang∧e.ws=e.ws∧True)∧(((List.filter (Hea.q00 pt) book).getD (p_1.1:Int).toNat Cod.noG).1=((List.filter (Hea.q00 pt) book).getD (↑p_1.1 :
  Int).toNat Cod.noG).1∧((List.filter (Hea.q00 pt) book).getD (p_1.1:Int).toNat Cod.noG).2.1=((List.filter (Hea.q00 pt) book).getD (p_1.1:Int).toNat Cod.noG).2.1∧((List.filter
  (Hea.q00 pt) book).getD (p_1.1:Int).toNat Cod.noG).2.2.1=((List.filter (Hea.q00 pt) book).getD (p_1.1:Int).toNat Cod.noG).2.2.1∧((List.filter (Hea.q00 pt) book).getD (↑p_1.1
  : Int).toNat Cod.noG).2.2.2.1=((List.filter (Hea.q00 pt) book).getD (p_1.1:Int).toNat Cod.noG).2.2.2.1∧((List.filter (Hea.q00 pt) book).getD (p_1.1:Int).toNat Cod.noG).2.2.2.2
  = ((List.filter (Hea.q00 pt) book).getD (p_1.1:Int).toNat Cod.noG).2.2.2.2∧True)∧(True∧True)∧True)∧(w=w∧p_1.2=p_1.2∧p_2.2=p_2.2∧List.filter (Hea.q00 pt) book =
  List.filter (Hea.q00 pt) book∧True)∧True∧True∧(True∧True∧True∧True∧True∧True∧(↑(List.filter (Hea.q00 pt) book).length:Int)=(↑(List.filter (Hea.q00 pt)
  book).length:Int)∧(p_1.1:Int)=(p_1.1:Int)∧True)∧True∧True∧True∧True else ((-9223372036854775808:Int)≤(p_4.1:Int)+(1:Int)∧(p_4.1:Int)+(1:Int) ≤
  (9223372036854775807:Int))∧∃ (p':Nat×Nat),(p'.1≤w.length∧p'.2=(Hea.diff (List.take p'.1 p_2.2) (List.take p'.1 w)).length∧((Hea.diff (List.take p'.1 p_2.2) (List.take p'.1
  w)).all fun (q:Hea.Str×Hea.Str)=>Hea.q04 e q.1 q.2)=true)∧w.length-p'.1<w.length-p_4.1∧((p_4.1:Int)+(1:Int)=(p'.1:Int)∧(p_4.2:Int)+(1:Int)=(↑p'.2
  : Int)∧True∧True∧True∧(w.length:Int)=(w.length:Int)∧True)∧((True∧True∧True)∧(e.c=e.c∧True)∧(e.lang=e.lang∧e.ws=e.ws∧True)∧(((List.filter (Hea.q00
  pt) book).getD (p_1.1:Int).toNat Cod.noG).1=((List.filter (Hea.q00 pt) book).getD (p_1.1:Int).toNat Cod.noG).1∧((List.filter (Hea.q00 pt) book).getD (p_1.1:Int).toNat
  Cod.noG).2.1=((List.filter (Hea.q00 pt) book).getD (p_1.1:Int).toNat Cod.noG).2.1∧((List.filter (Hea.q00 pt) book).getD (p_1.1:Int).toNat Cod.noG).2.2.1=((List.filter
  (Hea.q00 pt) book).getD (p_1.1:Int).toNat Cod.noG).2.2.1∧((List.filter (Hea.q00 pt) book).getD (p_1.1:Int).toNat Cod.noG).2.2.2.1=((List.filter (Hea.q00 pt) book).getD
  (p_1.1:Int).toNat Cod.noG).2.2.2.1∧((List.filter (Hea.q00 pt) book).getD (p_1.1:Int).toNat Cod.noG).2.2.2.2=((List.filter (Hea.q00 pt) book).getD (p_1.1:Int).toNat
  Cod.noG).2.2.2.2∧True)∧(True∧True)∧True)∧(w=w∧p_1.2=p_1.2∧p_2.2=p_2.2∧List.filter (Hea.q00 pt) book=List.filter (Hea.q00 pt) book∧True)∧True∧True∧(True ∧
  True∧(p_3:Int)=(p_3:Int)∧(↑[((102:Nat),[(nat_lit 30011,nat_lit 0)].length,[(nat_lit 30011,nat_lit 0)]++[]),((103:Nat),[(nat_lit 30011,nat_lit 0)].length,[(nat_lit
  30011,nat_lit 0)]++[]),((104:Nat),[(nat_lit 30011,nat_lit 0)].length,[(nat_lit 30011,nat_lit 0)]++[])].length:Int)=(↑[((102:Nat),[(nat_lit 30011,nat_lit 0)].length,
  [(nat_lit 30011,nat_lit 0)]++[]),((103:Nat),[(nat_lit 30011,nat_lit 0)].length,[(nat_lit 30011,nat_lit 0)]++[]),((104:Nat),[(nat_lit 30011,nat_lit 0)].length,[(nat_lit
  30011,nat_lit 0)]++[])].length:Int)∧(p_3:Int)=(p_3:Int)∧True∧True∧True∧True∧True∧True∧(↑(List.filter (Hea.q00 pt) book).length:Int)=(↑(List.filter
  (Hea.q00 pt) book).length:Int)∧(p_1.1:Int)=(p_1.1:Int)∧True)∧True∧True∧True∧True else ((-9223372036854775808:Int)≤(p_4.1:Int)+(1:Int)∧(p_4.1:Int)+(1
  : Int)≤(9223372036854775807:Int))∧∃ (p':Nat×Nat),(p'.1≤w.length∧p'.2=(Hea.diff (List.take p'.1 p_2.2) (List.take p'.1 w)).length∧((Hea.diff (List.take p'.1 p_2.2)
  (List.take p'.1 w)).all fun (q:Hea.Str×Hea.Str)=>Hea.q04 e q.1 q.2)=true)∧w.length-p'.1<w.length-p_4.1∧((p_4.1:Int)+(1:Int)=(p'.1:Int)∧(p_4.2:Int) =
  (p'.2:Int)∧True∧True∧True∧(w.length:Int)=(w.length:Int)∧True)∧((True∧True∧True)∧(e.c=e.c∧True)∧(e.lang=e.lang∧e.ws=e.ws∧True)∧(((List.filter
  (Hea.q00 pt) book).getD (p_1.1:Int).toNat Cod.noG).1=((List.filter (Hea.q00 pt) book).getD (p_1.1:Int).toNat Cod.noG).1∧((List.filter (Hea.q00 pt) book).getD (↑p_1.1 :
  Int).toNat Cod.noG).2.1=((List.filter (Hea.q00 pt) book).getD (p_1.1:Int).toNat Cod.noG).2.1∧((List.filter (Hea.q00 pt) book).getD (p_1.1:Int).toNat Cod.noG).2.2.1 =
  ((List.filter (Hea.q00 pt) book).getD (p_1.1:Int).toNat Cod.noG).2.2.1∧((List.filter (Hea.q00 pt) book).getD (p_1.1:Int).toNat Cod.noG).2.2.2.1=((List.filter (Hea.q00 pt)
  book).getD (p_1.1:Int).toNat Cod.noG).2.2.2.1∧((List.filter (Hea.q00 pt) book).getD (p_1.1:Int).toNat Cod.noG).2.2.2.2=((List.filter (Hea.q00 pt) book).getD (↑p_1.1 :
  Int).toNat Cod.noG).2.2.2.2∧True)∧(True∧True)∧True)∧(w=w∧p_1.2=p_1.2∧p_2.2=p_2.2∧List.filter (Hea.q00 pt) book=List.filter (Hea.q00 pt) book∧True)∧True∧True
  ∧ (True∧True∧(p_3:Int)=(p_3:Int)∧(↑[((102:Nat),[(nat_lit 30011,nat_lit 0)].length,[(nat_lit 30011,nat_lit 0)]++[]),((103:Nat),[(nat_lit 30011,nat_lit 0)].length,
  [(nat_lit 30011,nat_lit 0)]++[]),((104:Nat),[(nat_lit 30011,nat_lit 0)].length,[(nat_lit 30011,nat_lit 0)]++[])].length:Int)=(↑[((102:Nat),[(nat_lit 30011,nat_lit
  0)].length,[(nat_lit 30011,nat_lit 0)]++[]),((103:Nat),[(nat_lit 30011,nat_lit 0)].length,[(nat_lit 30011,nat_lit 0)]++[]),((104:Nat),[(nat_lit 30011,nat_lit 0)].length,
  [(nat_lit 30011,nat_lit 0)]++[])].length:Int)∧(p_3:Int)=(p_3:Int)∧True∧True∧True∧True∧True∧True∧(↑(List.filter (Hea.q00 pt) book).length:Int) =
  (↑(List.filter (Hea.q00 pt) book).length:Int)∧(p_1.1:Int)=(p_1.1:Int)∧True)∧True∧True∧True∧True else bif (p_4.2:Int)==(1:Int) then (p_1.2.length +
  [((List.filter (Hea.q00 pt) book).getD (p_1.1:Int).toNat Cod.noG).1].length)*(16:Nat)≤(140737488355328:Nat)∧((-9223372036854775808:Int)≤(p_1.1:Int)+(1:Int) ∧
  (p_1.1:Int)+(1:Int)≤(9223372036854775807:Int))∧∃ (p':Nat×List (List UInt8)),(p'.1≤(List.filter (Hea.q00 pt) book).length∧p'.2.length≤p'.1∧Hea.q0f (Hea.q04 e)
  e.ws w (List.filter (Hea.q00 pt) book) []=Hea.q0f (Hea.q04 e) e.ws w (List.drop p'.1 (List.filter (Hea.q00 pt) book)) p'.2)∧(List.filter (Hea.q00 pt) book).length-p'.1 <
  (List.filter (Hea.q00 pt) book).length-p_1.1∧((p_1.1:Int)+(1:Int)=(p'.1:Int)∧True∧(↑(List.filter (Hea.q00 pt) book).length:Int)=(↑(List.filter (Hea.q00 pt)
  book).length:Int)∧True∧True∧True∧True∧True)∧((True∧True∧True)∧(e.c=e.c∧True)∧(e.lang=e.lang∧e.ws=e.ws∧True)∧True)∧(w=w∧p_1.2++[((List.filter
  (Hea.q00 pt) book).getD (p_1.1:Int).toNat Cod.noG).1]=p'.2∧List.filter (Hea.q00 pt) book=List.filter (Hea.q00 pt) book∧True)∧True∧True∧True∧True∧True∧True∧True
  else ((-9223372036854775808:Int)≤(p_3:Int)+(1:Int)∧(p_3:Int)+(1:Int)≤(9223372036854775807:Int))∧∃ (p':Nat),(p'≤(3:Nat)∧((1:Nat)≤p'→Hea.q2s
  (Hea.q04 e) p_2.2 w=false)∧((2:Nat)≤p'→Hea.q38 p_2.2 w=false)∧((3:Nat)≤p'→Hea.q37 p_2.2 w=false))∧(3:Nat)-p'<(3:Nat)-p_3∧((p_3:Int)+(1:Int)
  = (p':Int)∧True∧True∧(↑[((102:Nat),[(nat_lit 30011,nat_lit 0)].length,[(nat_lit 30011,nat_lit 0)]++[]),((103:Nat),[(nat_lit 30011,nat_lit 0)].length,[(nat_lit 30011,
  nat_lit 0)]++[]),((104:Nat),[(nat_lit 30011,nat_lit 0)].length,[(nat_lit 30011,nat_lit 0)]++[])].length:Int)=(↑[((102:Nat),[(nat_lit 30011,nat_lit 0)].length,[(nat_lit
  30011,nat_lit 0)]++[]),((103:Nat),[(nat_lit 30011,nat_lit 0)].length,[(nat_lit 30011,nat_lit 0)]++[]),((104:Nat),[(nat_lit 30011,nat_lit 0)].length,[(nat_lit 30011,nat_lit
  0)]++[])].length:Int)∧True)∧((True∧True∧True)∧(e.c=e.c∧True)∧(e.lang=e.lang∧e.ws=e.ws∧True)∧(((List.filter (Hea.q00 pt) book).getD (p_1.1:Int).toNat
  Cod.noG).1=((List.filter (Hea.q00 pt) book).getD (p_1.1:Int).toNat Cod.noG).1∧((List.filter (Hea.q00 pt) book).getD (p_1.1:Int).toNat Cod.noG).2.1=((List.filter (Hea.q00
  pt) book).getD (p_1.1:Int).toNat Cod.noG).2.1∧((List.filter (Hea.q00 pt) book).getD (p_1.1:Int).toNat Cod.noG).2.2.1=((List.filter (Hea.q00 pt) book).getD (p_1.1:Int).toNat
  Cod.noG).2.2.1∧((List.filter (Hea.q00 pt) book).getD (p_1.1:Int).toNat Cod.noG).2.2.2.1=((List.filter (Hea.q00 pt) book).getD (p_1.1:Int).toNat Cod.noG).2.2.2.1∧((List.filter
  (Hea.q00 pt) book).getD (p_1.1:Int).toNat Cod.noG).2.2.2.2=((List.filter (Hea.q00 pt) book).getD (p_1.1:Int).toNat Cod.noG).2.2.2.2∧True)∧(True∧True)∧True)∧(w=w ∧
  p_1.2=p_1.2∧p_2.2=p_2.2∧List.filter (Hea.q00 pt) book=List.filter (Hea.q00 pt) book∧True)∧True∧True∧(True∧True∧True∧True∧True∧True∧(↑(List.filter (Hea.q00
  pt) book).length:Int)=(↑(List.filter (Hea.q00 pt) book).length:Int)∧(p_1.1:Int)=(p_1.1:Int)∧True)∧True∧True∧True∧True)∧((p_3:Int)=(↑(nat_lit 1):Int)→(∃
  (p':Nat),(p'≤p_2.2.length∧∀ (i:Nat),i<p'→(p_2.2.eraseIdx i==w)=false)∧((0:Int)=(p':Int)∧True∧True∧(p_2.2.length:Int)=(p_2.2.length:Int)∧True) ∧
  ((True∧True∧True)∧(e.c=e.c∧True)∧(e.lang=e.lang∧e.ws=e.ws∧True)∧(((List.filter (Hea.q00 pt) book).getD (p_1.1:Int).toNat Cod.noG).1=((List.filter (Hea.q00 pt)
  book).getD (p_1.1:Int).toNat Cod.noG).1∧((List.filter (Hea.q00 pt) book).getD (p_1.1:Int).toNat Cod.noG).2.1=((List.filter (Hea.q00 pt) book).getD (p_1.1:Int).toNat
  Cod.noG).2.1∧((List.filter (Hea.q00 pt) book).getD (p_1.1:Int).toNat Cod.noG).2.2.1=((List.filter (Hea.q00 pt) book).getD (p_1.1:Int).toNat Cod.noG).2.2.1∧((List.filter
  (Hea.q00 pt) book).getD (p_1.1:Int).toNat Cod.noG).2.2.2.1=((List.filter (Hea.q00 pt) book).getD (p_1.1:Int).toNat Cod.noG).2.2.2.1∧((List.filter (Hea.q00 pt) book).getD
  (p_1.1:Int).toNat Cod.noG).2.2.2.2=((List.filter (Hea.q00 pt) book).getD (p_1.1:Int).toNat Cod.noG).2.2.2.2∧True)∧(True∧True)∧True)∧(w=w∧p_1.2=p_1.2∧p_2.2=p_2.2
  ∧ List.filter (Hea.q00 pt) book=List.filter (Hea.q00 pt) book∧True)∧True∧True∧(True∧True∧(p_3:Int)=(p_3:Int)∧(↑[((102:Nat),[(nat_lit 30011,nat_lit 0)].length,
  [(nat_lit 30011,nat_lit 0)]++[]),((103:Nat),[(nat_lit 30011,nat_lit 0)].length,[(nat_lit 30011,nat_lit 0)]++[]),((104:Nat),[(nat_lit 30011,nat_lit 0)].length,[(nat_lit
  30011,nat_lit 0)]++[])].length:Int)=(↑[((102:Nat),[(nat_lit 30011,nat_lit 0)].length,[(nat_lit 30011,nat_lit 0)]++[]),((103:Nat),[(nat_lit 30011,nat_lit 0)].length,
  [(nat_lit 30011,nat_lit 0)]++[]),((104:Nat),[(nat_lit 30011,nat_lit 0)].length,[(nat_lit 30011,nat_lit 0)]++[])].length:Int)∧(p_3:Int)=(p_3:Int)∧True∧True∧True
  ∧ True∧True∧True∧(↑(List.filter (Hea.q00 pt) book).length:Int)=(↑(List.filter (Hea.q00 pt) book).length:Int)∧(p_1.1:Int)=(p_1.1:Int)∧True)∧True∧True∧True ∧
  True)∧∀ (p_4:Nat),(p_4≤p_2.2.length∧∀ (i:Nat),i<p_4→(p_2.2.eraseIdx i==w)=false)→bif decide ((p_4:Int)<(p_2.2.length:Int)) then ((-9223372036854775808:Int) ≤
  (p_4:Int)+(1:Int)∧(p_4:Int)+(1:Int)≤(9223372036854775807:Int))∧(p_2.2.length≤(1000000:Nat)∧(((p_4:Int)+(1:Int)=(p_4:Int)+(1:Int)∧(0:Int) ≤
  (p_4:Int)∧(p_4:Int)<(p_2.2.length:Int))∧((p_2.2.eraseIdx (p_4:Int).toNat).length≤(1000000:Nat)∧w.length≤(1000000:Nat))∧bif p_2.2.eraseIdx (p_4:Int).toNat ==
  w then (p_1.2.length+[((List.filter (Hea.q00 pt) book).getD (p_1.1:Int).toNat Cod.noG).1].length)*(16:Nat)≤(140737488355328:Nat)∧((-9223372036854775808:Int)≤(↑p_1.1 :
  Int)+(1:Int)∧(p_1.1:Int)+(1:Int)≤(9223372036854775807:Int))∧∃ (p':Nat×List (List UInt8)),(p'.1≤(List.filter (Hea.q00 pt) book).length∧p'.2.length≤p'.1 ∧
  Hea.q0f (Hea.q04 e) e.ws w (List.filter (Hea.q00 pt) book) []=Hea.q0f (Hea.q04 e) e.ws w (List.drop p'.1 (List.filter (Hea.q00 pt) book)) p'.2)∧(List.filter (Hea.q00 pt)
  book).length-p'.1<(List.filter (Hea.q00 pt) book).length-p_1.1∧((p_1.1:Int)+(1:Int)=(p'.1:Int)∧True∧(↑(List.filter (Hea.q00 pt) book).length:Int) =
  (↑(List.filter (Hea.q00 pt) book).length:Int)∧True∧True∧True∧True∧True)∧((True∧True∧True)∧(e.c=e.c∧True)∧(e.lang=e.lang∧e.ws=e.ws∧True)∧True)∧(w=w ∧
  p_1.2++[((List.filter (Hea.q00 pt) book).getD (p_1.1:Int).toNat Cod.noG).1]=p'.2∧List.filter (Hea.q00 pt) book=List.filter (Hea.q00 pt) book∧True)∧True∧True∧True ∧
  True∧True∧True∧True else ((-9223372036854775808:Int)≤(p_4:Int)+(1:Int)∧(p_4:Int)+(1:Int)≤(9223372036854775807:Int))∧∃ (p':Nat),(p'≤p_2.2.length∧∀ (i :
  Nat),i<p'→(p_2.2.eraseIdx i==w)=false)∧p_2.2.length-p'<p_2.2.length-p_4∧((p_4:Int)+(1:Int)=(p':Int)∧True∧True∧(p_2.2.length:Int)=(↑p_2.2.length :
  Int)∧True)∧((True∧True∧True)∧(e.c=e.c∧True)∧(e.lang=e.lang∧e.ws=e.ws∧True)∧(((List.filter (Hea.q00 pt) book).getD (p_1.1:Int).toNat Cod.noG).1=((List.filter
  (Hea.q00 pt) book).getD (p_1.1:Int).toNat Cod.noG).1∧((List.filter (Hea.q00 pt) book).getD (p_1.1:Int).toNat Cod.noG).2.1=((List.filter (Hea.q00 pt) book).getD (↑p_1.1 :
  Int).toNat Cod.noG).2.1∧((List.filter (Hea.q00 pt) book).getD (p_1.1:Int).toNat Cod.noG).2.2.1=((List.filter (Hea.q00 pt) book).getD (p_1.1:Int).toNat Cod.noG).2.2.1 ∧
  ((List.filter (Hea.q00 pt) book).getD (p_1.1:Int).toNat Cod.noG).2.2.2.1=((List.filter (Hea.q00 pt) book).getD (p_1.1:Int).toNat Cod.noG).2.2.2.1∧((List.filter (Hea.q00 pt)
  book).getD (p_1.1:Int).toNat Cod.noG).2.2.2.2=((List.filter (Hea.q00 pt) book).getD (p_1.1:Int).toNat Cod.noG).2.2.2.2∧True)∧(True∧True)∧True)∧(w=w∧p_1.2=p_1.2 ∧
  p_2.2=p_2.2∧List.filter (Hea.q00 pt) book=List.filter (Hea.q00 pt) book∧True)∧True∧True∧(True∧True∧(p_3:Int)=(p_3:Int)∧(↑[((102:Nat),[(nat_lit 30011,
  nat_lit 0)].length,[(nat_lit 30011,nat_lit 0)]++[]),((103:Nat),[(nat_lit 30011,nat_lit 0)].length,[(nat_lit 30011,nat_lit 0)]++[]),((104:Nat),[(nat_lit 30011,nat_lit
  0)].length,[(nat_lit 30011,nat_lit 0)]++[])].length:Int)=(↑[((102:Nat),[(nat_lit 30011,nat_lit 0)].length,[(nat_lit 30011,nat_lit 0)]++[]),((103:Nat),[(nat_lit 30011,
  nat_lit 0)].length,[(nat_lit 30011,nat_lit 0)]++[]),((104:Nat),[(nat_lit 30011,nat_lit 0)].length,[(nat_lit 30011,nat_lit 0)]++[])].length:Int)∧(p_3:Int)=(p_3:Int) ∧
  True∧True∧True∧True∧True∧True∧(↑(List.filter (Hea.q00 pt) book).length:Int)=(↑(List.filter (Hea.q00 pt) book).length:Int)∧(p_1.1:Int)=(p_1.1:Int)∧True) ∧
  True∧True∧True∧True)∧((p_4:Int)+(1:Int)=(p_4:Int)+(1:Int)∧(0:Int)≤(p_4:Int)∧(p_4:Int)<(p_2.2.length:Int))∧((p_2.2.eraseIdx (↑p_4 :
  Int).toNat).length≤(1000000:Nat)∧w.length≤(1000000:Nat))∧bif p_2.2.eraseIdx (p_4:Int).toNat==w then (p_1.2.length+[((List.filter (Hea.q00 pt) book).getD (↑p_1.1 :
  Int).toNat Cod.noG).1].length)*(16:Nat)≤(140737488355328:Nat)∧((-9223372036854775808:Int)≤(p_1.1:Int)+(1:Int)∧(p_1.1:Int)+(1:Int)≤(9223372036854775807:Int))
  ∧ ∃ (p':Nat×List (List UInt8)),(p'.1≤(List.filter (Hea.q00 pt) book).length∧p'.2.length≤p'.1∧Hea.q0f (Hea.q04 e) e.ws w (List.filter (Hea.q00 pt) book) []=Hea.q0f
  (Hea.q04 e) e.ws w (List.drop p'.1 (List.filter (Hea.q00 pt) book)) p'.2)∧(List.filter (Hea.q00 pt) book).length-p'.1<(List.filter (Hea.q00 pt) book).length-p_1.1∧((↑p_1.1
  : Int)+(1:Int)=(p'.1:Int)∧True∧(↑(List.filter (Hea.q00 pt) book).length:Int)=(↑(List.filter (Hea.q00 pt) book).length:Int)∧True∧True∧True∧True∧True)∧((True
  ∧ True∧True)∧(e.c=e.c∧True)∧(e.lang=e.lang∧e.ws=e.ws∧True)∧True)∧(w=w∧p_1.2++[((List.filter (Hea.q00 pt) book).getD (p_1.1:Int).toNat Cod.noG).1]=p'.2 ∧
  List.filter (Hea.q00 pt) book=List.filter (Hea.q00 pt) book∧True)∧True∧True∧True∧True∧True∧True∧True else ((-9223372036854775808:Int)≤(p_4:Int)+(1:Int) ∧
  (p_4:Int)+(1:Int)≤(9223372036854775807:Int))∧∃ (p':Nat),(p'≤p_2.2.length∧∀ (i:Nat),i<p'→(p_2.2.eraseIdx i==w)=false)∧p_2.2.length-p'<p_2.2.length-p_4 ∧
  ((p_4:Int)+(1:Int)=(p':Int)∧True∧True∧(p_2.2.length:Int)=(p_2.2.length:Int)∧True)∧((True∧True∧True)∧(e.c=e.c∧True)∧(e.lang=e.lang∧e.ws=e.ws ∧
  True)∧(((List.filter (Hea.q00 pt) book).getD (p_1.1:Int).toNat Cod.noG).1=((List.filter (Hea.q00 pt) book).getD (p_1.1:Int).toNat Cod.noG).1∧((List.filter (Hea.q00 pt)
  book).getD (p_1.1:Int).toNat Cod.noG).2.1=((List.filter (Hea.q00 pt) book).getD (p_1.1:Int).toNat Cod.noG).2.1∧((List.filter (Hea.q00 pt) book).getD (p_1.1:Int).toNat
  Cod.noG).2.2.1=((List.filter (Hea.q00 pt) book).getD (p_1.1:Int).toNat Cod.noG).2.2.1∧((List.filter (Hea.q00 pt) book).getD (p_1.1:Int).toNat Cod.noG).2.2.2.1=((List.filter
  (Hea.q00 pt) book).getD (p_1.1:Int).toNat Cod.noG).2.2.2.1∧((List.filter (Hea.q00 pt) book).getD (p_1.1:Int).toNat Cod.noG).2.2.2.2=((List.filter (Hea.q00 pt) book).getD
  (p_1.1:Int).toNat Cod.noG).2.2.2.2∧True)∧(True∧True)∧True)∧(w=w∧p_1.2=p_1.2∧p_2.2=p_2.2∧List.filter (Hea.q00 pt) book=List.filter (Hea.q00 pt) book∧True) ∧
  True∧True∧(True∧True∧(p_3:Int)=(p_3:Int)∧(↑[((102:Nat),[(nat_lit 30011,nat_lit 0)].length,[(nat_lit 30011,nat_lit 0)]++[]),((103:Nat),[(nat_lit 30011,nat_lit
  0)].length,[(nat_lit 30011,nat_lit 0)]++[]),((104:Nat),[(nat_lit 30011,nat_lit 0)].length,[(nat_lit 30011,nat_lit 0)]++[])].length:Int)=(↑[((102:Nat),[(nat_lit 30011,
  nat_lit 0)].length,[(nat_lit 30011,nat_lit 0)]++[]),((103:Nat),[(nat_lit 30011,nat_lit 0)].length,[(nat_lit 30011,nat_lit 0)]++[]),((104:Nat),[(nat_lit 30011,nat_lit
  0)].length,[(nat_lit 30011,nat_lit 0)]++[])].length:Int)∧(p_3:Int)=(p_3:Int)∧True∧True∧True∧True∧True∧True∧(↑(List.filter (Hea.q00 pt) book).length:Int) =
  (↑(List.filter (Hea.q00 pt) book).length:Int)∧(p_1.1:Int)=(p_1.1:Int)∧True)∧True∧True∧True∧True)∧p_2.2.length≤(1000000:Nat)∧((p_4:Int)+(1:Int)=(↑p_4
  : Int)+(1:Int)∧(0:Int)≤(p_4:Int)∧(p_4:Int)<(p_2.2.length:Int))∧((p_2.2.eraseIdx (p_4:Int).toNat).length≤(1000000:Nat)∧w.length≤(1000000:Nat))∧bif
  p_2.2.eraseIdx (p_4:Int).toNat==w then (p_1.2.length+[((List.filter (Hea.q00 pt) book).getD (p_1.1:Int).toNat Cod.noG).1].length)*(16:Nat)≤(140737488355328:Nat) ∧
  ((-9223372036854775808:Int)≤(p_1.1:Int)+(1:Int)∧(p_1.1:Int)+(1:Int)≤(9223372036854775807:Int))∧∃ (p':Nat×List (List UInt8)),(p'.1≤(List.filter (Hea.q00 pt)
  book).length∧p'.2.length≤p'.1∧Hea.q0f (Hea.q04 e) e.ws w (List.filter (Hea.q00 pt) book) []=Hea.q0f (Hea.q04 e) e.ws w (List.drop p'.1 (List.filter (Hea.q00 pt) book))
  p'.2)∧(List.filter (Hea.q00 pt) book).length-p'.1<(List.filter (Hea.q00 pt) book).length-p_1.1∧((p_1.1:Int)+(1:Int)=(p'.1:Int)∧True∧(↑(List.filter (Hea.q00
  pt) book).length:Int)=(↑(List.filter (Hea.q00 pt) book).length:Int)∧True∧True∧True∧True∧True)∧((True∧True∧True)∧(e.c=e.c∧True)∧(e.lang=e.lang∧e.ws=e.ws
  ∧ True)∧True)∧(w=w∧p_1.2++[((List.filter (Hea.q00 pt) book).getD (p_1.1:Int).toNat Cod.noG).1]=p'.2∧List.filter (Hea.q00 pt) book=List.filter (Hea.q00 pt) book ∧
  True)∧True∧True∧True∧True∧True∧True∧True else ((-9223372036854775808:Int)≤(p_4:Int)+(1:Int)∧(p_4:Int)+(1:Int)≤(9223372036854775807:Int))∧∃ (p':Nat),
  (p'≤p_2.2.length∧∀ (i:Nat),i<p'→(p_2.2.eraseIdx i==w)=false)∧p_2.2.length-p'<p_2.2.length-p_4∧((p_4:Int)+(1:Int)=(p':Int)∧True∧True∧(↑p_2.2.length
  : Int)=(p_2.2.length:Int)∧True)∧((True∧True∧True)∧(e.c=e.c∧True)∧(e.lang=e.lang∧e.ws=e.ws∧True)∧(((List.filter (Hea.q00 pt) book).getD (p_1.1:Int).toNat
  Cod.noG).1=((List.filter (Hea.q00 pt) book).getD (p_1.1:Int).toNat Cod.noG).1∧((List.filter (Hea.q00 pt) book).getD (p_1.1:Int).toNat Cod.noG).2.1=((List.filter (Hea.q00
  pt) book).getD (p_1.1:Int).toNat Cod.noG).2.1∧((List.filter (Hea.q00 pt) book).getD (p_1.1:Int).toNat Cod.noG).2.2.1=((List.filter (Hea.q00 pt) book).getD (p_1.1:Int).toNat
  Cod.noG).2.2.1∧((List.filter (Hea.q00 pt) book).getD (p_1.1:Int).toNat Cod.noG).2.2.2.1=((List.filter (Hea.q00 pt) book).getD (p_1.1:Int).toNat Cod.noG).2.2.2.1∧((List.filter
  (Hea.q00 pt) book).getD (p_1.1:Int).toNat Cod.noG).2.2.2.2=((List.filter (Hea.q00 pt) book).getD (p_1.1:Int).toNat Cod.noG).2.2.2.2∧True)∧(True∧True)∧True)∧(w=w ∧
  p_1.2=p_1.2∧p_2.2=p_2.2∧List.filter (Hea.q00 pt) book=List.filter (Hea.q00 pt) book∧True)∧True∧True∧(True∧True∧(p_3:Int)=(p_3:Int)∧(↑[((102:Nat),
  [(nat_lit 30011,nat_lit 0)].length,[(nat_lit 30011,nat_lit 0)]++[]),((103:Nat),[(nat_lit 30011,nat_lit 0)].length,[(nat_lit 30011,nat_lit 0)]++[]),((104:Nat),[(nat_lit
  30011,nat_lit 0)].length,[(nat_lit 30011,nat_lit 0)]++[])].length:Int)=(↑[((102:Nat),[(nat_lit 30011,nat_lit 0)].length,[(nat_lit 30011,nat_lit 0)]++[]),((103:Nat),
  [(nat_lit 30011,nat_lit 0)].length,[(nat_lit 30011,nat_lit 0)]++[]),((104:Nat),[(nat_lit 30011,nat_lit 0)].length,[(nat_lit 30011,nat_lit 0)]++[])].length:Int)∧(p_3:Int)
  = (p_3:Int)∧True∧True∧True∧True∧True∧True∧(↑(List.filter (Hea.q00 pt) book).length:Int)=(↑(List.filter (Hea.q00 pt) book).length:Int)∧(p_1.1:Int)=(↑p_1.1 :
  Int)∧True)∧True∧True∧True∧True else ((-9223372036854775808:Int)≤(p_3:Int)+(1:Int)∧(p_3:Int)+(1:Int)≤(9223372036854775807:Int))∧∃ (p':Nat),(p'≤(3 :
  Nat)∧((1:Nat)≤p'→Hea.q2s (Hea.q04 e) p_2.2 w=false)∧((2:Nat)≤p'→Hea.q38 p_2.2 w=false)∧((3:Nat)≤p'→Hea.q37 p_2.2 w=false))∧(3:Nat)-p'<(3:Nat)
  - p_3∧((p_3:Int)+(1:Int)=(p':Int)∧True∧True∧(↑[((102:Nat),[(nat_lit 30011,nat_lit 0)].length,[(nat_lit 30011,nat_lit 0)]++[]),((103:Nat),[(nat_lit 30011,
  nat_lit 0)].length,[(nat_lit 30011,nat_lit 0)]++[]),((104:Nat),[(nat_lit 30011,nat_lit 0)].length,[(nat_lit 30011,nat_lit 0)]++[])].length:Int)=(↑[((102:Nat),[(nat_lit
  30011,nat_lit 0)].length,[(nat_lit 30011,nat_lit 0)]++[]),((103:Nat),[(nat_lit 30011,nat_lit 0)].length,[(nat_lit 30011,nat_lit 0)]++[]),((104:Nat),[(nat_lit 30011,nat_lit
  0)].length,[(nat_lit 30011,nat_lit 0)]++[])].length:Int)∧True)∧((True∧True∧True)∧(e.c=e.c∧True)∧(e.lang=e.lang∧e.ws=e.ws∧True)∧(((List.filter (Hea.q00 pt)
  book).getD (p_1.1:Int).toNat Cod.noG).1=((List.filter (Hea.q00 pt) book).getD (p_1.1:Int).toNat Cod.noG).1∧((List.filter (Hea.q00 pt) book).getD (p_1.1:Int).toNat
  Cod.noG).2.1=((List.filter (Hea.q00 pt) book).getD (p_1.1:Int).toNat Cod.noG).2.1∧((List.filter (Hea.q00 pt) book).getD (p_1.1:Int).toNat Cod.noG).2.2.1=((List.filter
  (Hea.q00 pt) book).getD (p_1.1:Int).toNat Cod.noG).2.2.1∧((List.filter (Hea.q00 pt) book).getD (p_1.1:Int).toNat Cod.noG).2.2.2.1=((List.filter (Hea.q00 pt) book).getD
  (p_1.1:Int).toNat Cod.noG).2.2.2.1∧((List.filter (Hea.q00 pt) book).getD (p_1.1:Int).toNat Cod.noG).2.2.2.2=((List.filter (Hea.q00 pt) book).getD (p_1.1:Int).toNat
  Cod.noG).2.2.2.2∧True)∧(True∧True)∧True)∧(w=w∧p_1.2=p_1.2∧p_2.2=p_2.2∧List.filter (Hea.q00 pt) book=List.filter (Hea.q00 pt) book∧True)∧True∧True∧(True ∧
  True∧True∧True∧True∧True∧(↑(List.filter (Hea.q00 pt) book).length:Int)=(↑(List.filter (Hea.q00 pt) book).length:Int)∧(p_1.1:Int)=(p_1.1:Int)∧True)∧True ∧
  True∧True∧True)∧((p_3:Int)=(↑(nat_lit 2):Int)→((-9223372036854775808:Int)≤(p_2.2.length:Int)-(1:Int)∧(p_2.2.length:Int)-(1:Int)≤(9223372036854775807 :
  Int))∧(∃ (p':Nat),(p'≤p_2.2.length-(1:Nat)∧∀ (i:Nat),i<p'→(Hea.q18 p_2.2 i==w&&p_2.2.getD i [] != p_2.2.getD (i+(1:Nat)) [])=false)∧((0:Int)=(p':Int)
  ∧ True∧True∧(p_2.2.length:Int)-(1:Int)=(p_2.2.length:Int)-(1:Int)∧True)∧((True∧True∧True)∧(e.c=e.c∧True)∧(e.lang=e.lang∧e.ws=e.ws∧True) ∧
  (((List.filter (Hea.q00 pt) book).getD (p_1.1:Int).toNat Cod.noG).1=((List.filter (Hea.q00 pt) book).getD (p_1.1:Int).toNat Cod.noG).1∧((List.filter (Hea.q00 pt) book).getD
  (p_1.1:Int).toNat Cod.noG).2.1=((List.filter (Hea.q00 pt) book).getD (p_1.1:Int).toNat Cod.noG).2.1∧((List.filter (Hea.q00 pt) book).getD (p_1.1:Int).toNat Cod.noG).2.2.1 =
  ((List.filter (Hea.q00 pt) book).getD (p_1.1:Int).toNat Cod.noG).2.2.1∧((List.filter (Hea.q00 pt) book).getD (p_1.1:Int).toNat Cod.noG).2.2.2.1=((List.filter (Hea.q00 pt)
  book).getD (p_1.1:Int).toNat Cod.noG).2.2.2.1∧((List.filter (Hea.q00 pt) book).getD (p_1.1:Int).toNat Cod.noG).2.2.2.2=((List.filter (Hea.q00 pt) book).getD (↑p_1.1 :
  Int).toNat Cod.noG).2.2.2.2∧True)∧(True∧True)∧True)∧(w=w∧p_1.2=p_1.2∧p_2.2=p_2.2∧List.filter (Hea.q00 pt) book=List.filter (Hea.q00 pt) book∧True)∧True∧True
  ∧ (True∧True∧(p_3:Int)=(p_3:Int)∧(↑[((102:Nat),[(nat_lit 30011,nat_lit 0)].length,[(nat_lit 30011,nat_lit 0)]++[]),((103:Nat),[(nat_lit 30011,nat_lit 0)].length,
  [(nat_lit 30011,nat_lit 0)]++[]),((104:Nat),[(nat_lit 30011,nat_lit 0)].length,[(nat_lit 30011,nat_lit 0)]++[])].length:Int)=(↑[((102:Nat),[(nat_lit 30011,nat_lit
  0)].length,[(nat_lit 30011,nat_lit 0)]++[]),((103:Nat),[(nat_lit 30011,nat_lit 0)].length,[(nat_lit 30011,nat_lit 0)]++[]),((104:Nat),[(nat_lit 30011,nat_lit 0)].length,
  [(nat_lit 30011,nat_lit 0)]++[])].length:Int)∧(p_3:Int)=(p_3:Int)∧True∧True∧True∧True∧True∧True∧(↑(List.filter (Hea.q00 pt) book).length:Int) =
  (↑(List.filter (Hea.q00 pt) book).length:Int)∧(p_1.1:Int)=(p_1.1:Int)∧True)∧True∧True∧True∧True)∧∀ (p_4:Nat),(p_4≤p_2.2.length-(1:Nat)∧∀ (i:Nat),i <
  p_4→(Hea.q18 p_2.2 i==w&&p_2.2.getD i [] != p_2.2.getD (i+(1:Nat)) [])=false)→bif decide ((p_4:Int)<(p_2.2.length:Int)-(1:Int)) then p_2.2.length≤(1000000 :
  Nat)∧(((-9223372036854775808:Int)≤(p_4:Int)+(1:Int)∧(p_4:Int)+(1:Int)≤(9223372036854775807:Int))∧((0:Int)≤(p_4:Int)+(1:Int)∧(p_4:Int)+(1:Int)
  < (p_2.2.length:Int))∧((0:Int)≤(p_4:Int)∧(p_4:Int)<(p_2.2.length:Int))∧((0:Int)≤(p_4:Int)∧(p_4:Int)<(p_2.2.length:Int))∧((-9223372036854775808 :
  Int)≤(p_4:Int)+(1:Int)∧(p_4:Int)+(1:Int)≤(9223372036854775807:Int))∧bif (p_4:Int).toNat.beq (p_4:Int).toNat then ((0:Int)≤(p_4:Int)+(1:Int)∧(↑p_4 :
  Int)+(1:Int)<(↑(p_2.2.set (p_4:Int).toNat (p_2.2.getD ((p_4:Int)+(1:Int)).toNat [])).length:Int))∧bif ((p_4:Int)+(1:Int)).toNat.beq ((p_4:Int)+(1 :
  Int)).toNat then ∃ (p':Unit),True∧(True∧True∧(p_4:Int)=(p_4:Int)∧True∧(p_2.2.length:Int)-(1:Int)=(p_2.2.length:Int)-(1:Int)∧(p_4:Int)=(p_4:Int)
  ∧ True)∧((True∧True∧True)∧(e.c=e.c∧True)∧(e.lang=e.lang∧e.ws=e.ws∧True)∧(((List.filter (Hea.q00 pt) book).getD (p_1.1:Int).toNat Cod.noG).1=((List.filter
  (Hea.q00 pt) book).getD (p_1.1:Int).toNat Cod.noG).1∧((List.filter (Hea.q00 pt) book).getD (p_1.1:Int).toNat Cod.noG).2.1=((List.filter (Hea.q00 pt) book).getD (↑p_1.1 :
  Int).toNat Cod.noG).2.1∧((List.filter (Hea.q00 pt) book).getD (p_1.1:Int).toNat Cod.noG).2.2.1=((List.filter (Hea.q00 pt) book).getD (p_1.1:Int).toNat Cod.noG).2.2.1 ∧
  ((List.filter (Hea.q00 pt) book).getD (p_1.1:Int).toNat Cod.noG).2.2.2.1=((List.filter (Hea.q00 pt) book).getD (p_1.1:Int).toNat Cod.noG).2.2.2.1∧((List.filter (Hea.q00 pt)
  book).getD (p_1.1:Int).toNat Cod.noG).2.2.2.2=((List.filter (Hea.q00 pt) book).getD (p_1.1:Int).toNat Cod.noG).2.2.2.2∧True)∧(True∧True)∧True)∧((p_2.2.set (↑p_4 :
  Int).toNat (p_2.2.getD ((p_4:Int)+(1:Int)).toNat [])).set ((p_4:Int)+(1:Int)).toNat (p_2.2.getD (p_4:Int).toNat [])=Hea.q18 p_2.2 (p_4:Int).toNat∧w=w∧p_1.2 =
  p_1.2∧p_2.2=p_2.2∧List.filter (Hea.q00 pt) book=List.filter (Hea.q00 pt) book∧True)∧True∧True∧(True∧True∧(p_3:Int)=(p_3:Int)∧(↑[((102:Nat),[(nat_lit
  30011,nat_lit 0)].length,[(nat_lit 30011,nat_lit 0)]++[]),((103:Nat),[(nat_lit 30011,nat_lit 0)].length,[(nat_lit 30011,nat_lit 0)]++[]),((104:Nat),[(nat_lit 30011,nat_lit
  0)].length,[(nat_lit 30011,nat_lit 0)]++[])].length:Int)=(↑[((102:Nat),[(nat_lit 30011,nat_lit 0)].length,[(nat_lit 30011,nat_lit 0)]++[]),((103:Nat),[(nat_lit 30011,
  nat_lit 0)].length,[(nat_lit 30011,nat_lit 0)]++[]),((104:Nat),[(nat_lit 30011,nat_lit 0)].length,[(nat_lit 30011,nat_lit 0)]++[])].length:Int)∧(p_3:Int)=(p_3:Int) ∧
  True∧True∧True∧True∧True∧True∧(↑(List.filter (Hea.q00 pt) book).length:Int)=(↑(List.filter (Hea.q00 pt) book).length:Int)∧(p_1.1:Int)=(p_1.1:Int)∧True) ∧
  True∧True∧True∧True else False else False)∧∀ (p_5:Unit),True→((Hea.q18 p_2.2 (p_4:Int).toNat).length≤(1000000:Nat)∧w.length≤(1000000:Nat))∧bif Hea.q18 p_2.2
  (p_4:Int).toNat==w then ((0:Int)≤(p_4:Int)∧(p_4:Int)<(p_2.2.length:Int))∧((-9223372036854775808:Int)≤(p_4:Int)+(1:Int)∧(p_4:Int)+(1:Int) ≤
  (9223372036854775807:Int))∧((0:Int)≤(p_4:Int)+(1:Int)∧(p_4:Int)+(1:Int)<(p_2.2.length:Int))∧bif !p_2.2.getD (p_4:Int).toNat []==p_2.2.getD ((p_4:Int) +
  (1:Int)).toNat [] then (p_1.2.length+[((List.filter (Hea.q00 pt) book).getD (p_1.1:Int).toNat Cod.noG).1].length)*(16:Nat)≤(140737488355328:Nat)∧((-9223372036854775808 :
  Int)≤(p_1.1:Int)+(1:Int)∧(p_1.1:Int)+(1:Int)≤(9223372036854775807:Int))∧∃ (p':Nat×List (List UInt8)),(p'.1≤(List.filter (Hea.q00 pt) book).length ∧
  p'.2.length≤p'.1∧Hea.q0f (Hea.q04 e) e.ws w (List.filter (Hea.q00 pt) book) []=Hea.q0f (Hea.q04 e) e.ws w (List.drop p'.1 (List.filter (Hea.q00 pt) book)) p'.2) ∧
  (List.filter (Hea.q00 pt) book).length-p'.1<(List.filter (Hea.q00 pt) book).length-p_1.1∧((p_1.1:Int)+(1:Int)=(p'.1:Int)∧True∧(↑(List.filter (Hea.q00 pt)
  book).length:Int)=(↑(List.filter (Hea.q00 pt) book).length:Int)∧True∧True∧True∧True∧True)∧((True∧True∧True)∧(e.c=e.c∧True)∧(e.lang=e.lang∧e.ws=e.ws ∧
  True)∧True)∧(w=w∧p_1.2++[((List.filter (Hea.q00 pt) book).getD (p_1.1:Int).toNat Cod.noG).1]=p'.2∧List.filter (Hea.q00 pt) book=List.filter (Hea.q00 pt) book∧True)
  ∧ True∧True∧True∧True∧True∧True∧True else ((-9223372036854775808:Int)≤(p_4:Int)+(1:Int)∧(p_4:Int)+(1:Int)≤(9223372036854775807:Int))∧∃ (p':Nat),(p' ≤
  p_2.2.length-(1:Nat)∧∀ (i:Nat),i<p'→(Hea.q18 p_2.2 i==w&&p_2.2.getD i [] != p_2.2.getD (i+(1:Nat)) [])=false)∧p_2.2.length-(1:Nat)-p'<p_2.2.length-(1 :
  Nat)-p_4∧((p_4:Int)+(1:Int)=(p':Int)∧True∧True∧(p_2.2.length:Int)-(1:Int)=(p_2.2.length:Int)-(1:Int)∧True)∧((True∧True∧True)∧(e.c=e.c ∧
  True)∧(e.lang=e.lang∧e.ws=e.ws∧True)∧(((List.filter (Hea.q00 pt) book).getD (p_1.1:Int).toNat Cod.noG).1=((List.filter (Hea.q00 pt) book).getD (p_1.1:Int).toNat
  Cod.noG).1∧((List.filter (Hea.q00 pt) book).getD (p_1.1:Int).toNat Cod.noG).2.1=((List.filter (Hea.q00 pt) book).getD (p_1.1:Int).toNat Cod.noG).2.1∧((List.filter (Hea.q00
  pt) book).getD (p_1.1:Int).toNat Cod.noG).2.2.1=((List.filter (Hea.q00 pt) book).getD (p_1.1:Int).toNat Cod.noG).2.2.1∧((List.filter (Hea.q00 pt) book).getD (↑p_1.1 :
  Int).toNat Cod.noG).2.2.2.1=((List.filter (Hea.q00 pt) book).getD (p_1.1:Int).toNat Cod.noG).2.2.2.1∧((List.filter (Hea.q00 pt) book).getD (p_1.1:Int).toNat Cod.noG).2.2.2.2 =
  ((List.filter (Hea.q00 pt) book).getD (p_1.1:Int).toNat Cod.noG).2.2.2.2∧True)∧(True∧True)∧True)∧(w=w∧p_1.2=p_1.2∧p_2.2=p_2.2∧List.filter (Hea.q00 pt) book =
  List.filter (Hea.q00 pt) book∧True)∧True∧True∧(True∧True∧(p_3:Int)=(p_3:Int)∧(↑[((102:Nat),[(nat_lit 30011,nat_lit 0)].length,[(nat_lit 30011,nat_lit 0)] ++
  []),((103:Nat),[(nat_lit 30011,nat_lit 0)].length,[(nat_lit 30011,nat_lit 0)]++[]),((104:Nat),[(nat_lit 30011,nat_lit 0)].length,[(nat_lit 30011,nat_lit 0)]++[])].length :
  Int)=(↑[((102:Nat),[(nat_lit 30011,nat_lit 0)].length,[(nat_lit 30011,nat_lit 0)]++[]),((103:Nat),[(nat_lit 30011,nat_lit 0)].length,[(nat_lit 30011,nat_lit 0)]++[]),
  ((104:Nat),[(nat_lit 30011,nat_lit 0)].length,[(nat_lit 30011,nat_lit 0)]++[])].length:Int)∧(p_3:Int)=(p_3:Int)∧True∧True∧True∧True∧True∧True∧(↑(List.filter
  (Hea.q00 pt) book).length:Int)=(↑(List.filter (Hea.q00 pt) book).length:Int)∧(p_1.1:Int)=(p_1.1:Int)∧True)∧True∧True∧True∧True else ((-9223372036854775808 :
  Int)≤(p_4:Int)+(1:Int)∧(p_4:Int)+(1:Int)≤(9223372036854775807:Int))∧∃ (p':Nat),(p'≤p_2.2.length-(1:Nat)∧∀ (i:Nat),i<p'→(Hea.q18 p_2.2 i==w &&
  p_2.2.getD i [] != p_2.2.getD (i+(1:Nat)) [])=false)∧p_2.2.length-(1:Nat)-p'<p_2.2.length-(1:Nat)-p_4∧((p_4:Int)+(1:Int)=(p':Int)∧True∧True ∧
  (p_2.2.length:Int)-(1:Int)=(p_2.2.length:Int)-(1:Int)∧True)∧((True∧True∧True)∧(e.c=e.c∧True)∧(e.lang=e.lang∧e.ws=e.ws∧True)∧(((List.filter
  (Hea.q00 pt) book).getD (p_1.1:Int).toNat Cod.noG).1=((List.filter (Hea.q00 pt) book).getD (p_1.1:Int).toNat Cod.noG).1∧((List.filter (Hea.q00 pt) book).getD (↑p_1.1 :
  Int).toNat Cod.noG).2.1=((List.filter (Hea.q00 pt) book).getD (p_1.1:Int).toNat Cod.noG).2.1∧((List.filter (Hea.q00 pt) book).getD (p_1.1:Int).toNat Cod.noG).2.2.1 =
  ((List.filter (Hea.q00 pt) book).getD (p_1.1:Int).toNat Cod.noG).2.2.1∧((List.filter (Hea.q00 pt) book).getD (p_1.1:Int).toNat Cod.noG).2.2.2.1=((List.filter (Hea.q00 pt)
  book).getD (p_1.1:Int).toNat Cod.noG).2.2.2.1∧((List.filter (Hea.q00 pt) book).getD (p_1.1:Int).toNat Cod.noG).2.2.2.2=((List.filter (Hea.q00 pt) book).getD (↑p_1.1 :
  Int).toNat Cod.noG).2.2.2.2∧True)∧(True∧True)∧True)∧(w=w∧p_1.2=p_1.2∧p_2.2=p_2.2∧List.filter (Hea.q00 pt) book=List.filter (Hea.q00 pt) book∧True)∧True∧True
  ∧ (True∧True∧(p_3:Int)=(p_3:Int)∧(↑[((102:Nat),[(nat_lit 30011,nat_lit 0)].length,[(nat_lit 30011,nat_lit 0)]++[]),((103:Nat),[(nat_lit 30011,nat_lit 0)].length,
  [(nat_lit 30011,nat_lit 0)]++[]),((104:Nat),[(nat_lit 30011,nat_lit 0)].length,[(nat_lit 30011,nat_lit 0)]++[])].length:Int)=(↑[((102:Nat),[(nat_lit 30011,nat_lit
  0)].length,[(nat_lit 30011,nat_lit 0)]++[]),((103:Nat),[(nat_lit 30011,nat_lit 0)].length,[(nat_lit 30011,nat_lit 0)]++[]),((104:Nat),[(nat_lit 30011,nat_lit 0)].length,
  [(nat_lit 30011,nat_lit 0)]++[])].length:Int)∧(p_3:Int)=(p_3:Int)∧True∧True∧True∧True∧True∧True∧(↑(List.filter (Hea.q00 pt) book).length:Int) =
  (↑(List.filter (Hea.q00 pt) book).length:Int)∧(p_1.1:Int)=(p_1.1:Int)∧True)∧True∧True∧True∧True else ((-9223372036854775808:Int)≤(p_3:Int)+(1:Int)∧(↑p_3
  : Int)+(1:Int)≤(9223372036854775807:Int))∧∃ (p':Nat),(p'≤(3:Nat)∧((1:Nat)≤p'→Hea.q2s (Hea.q04 e) p_2.2 w=false)∧((2:Nat)≤p'→Hea.q38 p_2.2 w=false)
  ∧ ((3:Nat)≤p'→Hea.q37 p_2.2 w=false))∧(3:Nat)-p'<(3:Nat)-p_3∧((p_3:Int)+(1:Int)=(p':Int)∧True∧True∧(↑[((102:Nat),[(nat_lit 30011,nat_lit
  0)].length,[(nat_lit 30011,nat_lit 0)]++[]),((103:Nat),[(nat_lit 30011,nat_lit 0)].length,[(nat_lit 30011,nat_lit 0)]++[]),((104:Nat),[(nat_lit 30011,nat_lit 0)].length,
  [(nat_lit 30011,nat_lit 0)]++[])].length:Int)=(↑[((102:Nat),[(nat_lit 30011,nat_lit 0)].length,[(nat_lit 30011,nat_lit 0)]++[]),((103:Nat),[(nat_lit 30011,nat_lit
  0)].length,[(nat_lit 30011,nat_lit 0)]++[]),((104:Nat),[(nat_lit 30011,nat_lit 0)].length,[(nat_lit 30011,nat_lit 0)]++[])].length:Int)∧True)∧((True∧True∧True)∧(e.c
  = e.c∧True)∧(e.lang=e.lang∧e.ws=e.ws∧True)∧(((List.filter (Hea.q00 pt) book).getD (p_1.1:Int).toNat Cod.noG).1=((List.filter (Hea.q00 pt) book).getD (↑p_1.1 :
  Int).toNat Cod.noG).1∧((List.filter (Hea.q00 pt) book).getD (p_1.1:Int).toNat Cod.noG).2.1=((List.filter (Hea.q00 pt) book).getD (p_1.1:Int).toNat Cod.noG).2.1∧((List.filter
  (Hea.q00 pt) book).getD (p_1.1:Int).toNat Cod.noG).2.2.1=((List.filter (Hea.q00 pt) book).getD (p_1.1:Int).toNat Cod.noG).2.2.1∧((List.filter (Hea.q00 pt) book).getD (↑p_1.1
  : Int).toNat Cod.noG).2.2.2.1=((List.filter (Hea.q00 pt) book).getD (p_1.1:Int).toNat Cod.noG).2.2.2.1∧((List.filter (Hea.q00 pt) book).getD (p_1.1:Int).toNat Cod.noG).2.2.2.2
  = ((List.filter (Hea.q00 pt) book).getD (p_1.1:Int).toNat Cod.noG).2.2.2.2∧True)∧(True∧True)∧True)∧(w=w∧p_1.2=p_1.2∧p_2.2=p_2.2∧List.filter (Hea.q00 pt) book =
  List.filter (Hea.q00 pt) book∧True)∧True∧True∧(True∧True∧True∧True∧True∧True∧(↑(List.filter (Hea.q00 pt) book).length:Int)=(↑(List.filter (Hea.q00 pt)
  book).length:Int)∧(p_1.1:Int)=(p_1.1:Int)∧True)∧True∧True∧True∧True) else ((-9223372036854775808:Int)≤(p_1.1:Int)+(1:Int)∧(p_1.1:Int)+(1:Int) ≤
  (9223372036854775807:Int))∧∃ (p':Nat×List (List UInt8)),(p'.1≤(List.filter (Hea.q00 pt) book).length∧p'.2.length≤p'.1∧Hea.q0f (Hea.q04 e) e.ws w (List.filter
  (Hea.q00 pt) book) []=Hea.q0f (Hea.q04 e) e.ws w (List.drop p'.1 (List.filter (Hea.q00 pt) book)) p'.2)∧(List.filter (Hea.q00 pt) book).length-p'.1<(List.filter (Hea.q00
  pt) book).length-p_1.1∧((p_1.1:Int)+(1:Int)=(p'.1:Int)∧True∧(↑(List.filter (Hea.q00 pt) book).length:Int)=(↑(List.filter (Hea.q00 pt) book).length:Int)∧True ∧
  True∧True∧True∧True)∧((True∧True∧True)∧(e.c=e.c∧True)∧(e.lang=e.lang∧e.ws=e.ws∧True)∧True)∧(w=w∧p_1.2=p'.2∧List.filter (Hea.q00 pt) book =
  List.filter (Hea.q00 pt) book∧True)∧True∧True∧True∧True∧True∧True∧True else bif (p_1.2.length:Int)==(0:Int) then ([],false,(10:Int))=R else bif (↑p_1.2.length
  : Int)==(1:Int) then ((0:Int)≤(0:Int)∧(0:Int)<(p_1.2.length:Int))∧(p_1.2.getD (nat_lit 0) [],true,(0:Int))=R else ([],false,(8:Int))=R
set_option maxRecDepth 100000 in
def DelR1 (e:Cod.Ear) (book:q0d) (pt:Cod.Pt) (w:List (List UInt8)) (R:List UInt8×Bool×Int):Prop :=
  ∀ (p_1:Nat×Nat×q0d),q3h book pt p_1.1 p_1.2.1 p_1.2.2→bif decide ((p_1.2.1:Int)<(↑(List.length p_1.2.2):Int)) then ((0:Int)≤(p_1.2.1:Int)∧(p_1.2.1:Int) <
  (↑(List.length p_1.2.2):Int))∧bif !(List.getD p_1.2.2 (p_1.2.1:Int).toNat Cod.noG).2.2.1 then ((-9223372036854775808:Int)≤(p_1.2.1:Int)+(1:Int)∧(p_1.2.1:Int)+(1 :
  Int)≤(9223372036854775807:Int))∧∃ (p':Nat×Nat×q0d),q3h book pt p'.1 p'.2.1 p'.2.2∧List.length book-p'.2.1<List.length book-p_1.2.1∧((p_1.1:Int)=(p'.1:Int)
  ∧ (p_1.2.1:Int)+(1:Int)=(p'.2.1:Int)∧True∧True∧True)∧((e.lang=e.lang∧e.ws=e.ws∧True)∧(pt.1=pt.1∧pt.2=pt.2∧True)∧(True∧True∧True)∧(e.c=e.c ∧
  True)∧True)∧(p_1.2.2=p'.2.2∧w=w∧True)∧True∧True∧(True∧True∧(e.lang=e.lang∧e.ws=e.ws∧True)∧True)∧True∧True∧True∧True else True∧bif !decide ((250000 :
  Int)<Cod.q1d (List.getD p_1.2.2 (p_1.2.1:Int).toNat Cod.noG).2.2.2 pt) then ((0:Int)≤(p_1.1:Int)∧(p_1.1:Int)<(↑(List.length p_1.2.2):Int))∧bif (↑p_1.1 :
  Int).toNat.beq (p_1.1:Int).toNat then ((-9223372036854775808:Int)≤(p_1.1:Int)+(1:Int)∧(p_1.1:Int)+(1:Int)≤(9223372036854775807:Int))∧((-9223372036854775808 :
  Int)≤(p_1.2.1:Int)+(1:Int)∧(p_1.2.1:Int)+(1:Int)≤(9223372036854775807:Int))∧∃ (p':Nat×Nat×q0d),q3h book pt p'.1 p'.2.1 p'.2.2∧List.length book-p'.2.1 <
  List.length book-p_1.2.1∧((p_1.1:Int)+(1:Int)=(p'.1:Int)∧(p_1.2.1:Int)+(1:Int)=(p'.2.1:Int)∧True∧True∧True)∧((e.lang=e.lang∧e.ws=e.ws∧True) ∧
  (pt.1=pt.1∧pt.2=pt.2∧True)∧(True∧True∧True)∧(e.c=e.c∧True)∧True)∧(List.set p_1.2.2 (p_1.1:Int).toNat (List.getD p_1.2.2 (p_1.2.1:Int).toNat Cod.noG)=p'.2.2 ∧
  w=w∧True)∧True∧True∧(True∧True∧(e.lang=e.lang∧e.ws=e.ws∧True)∧True)∧True∧True∧True∧True else False else ((-9223372036854775808:Int)≤(p_1.2.1:Int)+(1
  : Int)∧(p_1.2.1:Int)+(1:Int)≤(9223372036854775807:Int))∧∃ (p':Nat×Nat×q0d),q3h book pt p'.1 p'.2.1 p'.2.2∧List.length book-p'.2.1<List.length book-p_1.2.1 ∧
  ((p_1.1:Int)=(p'.1:Int)∧(p_1.2.1:Int)+(1:Int)=(p'.2.1:Int)∧True∧True∧True)∧((e.lang=e.lang∧e.ws=e.ws∧True)∧(pt.1=pt.1∧pt.2=pt.2∧True)∧(True
  ∧ True∧True)∧(e.c=e.c∧True)∧True)∧(p_1.2.2=p'.2.2∧w=w∧True)∧True∧True∧(True∧True∧(e.lang=e.lang∧e.ws=e.ws∧True)∧True)∧True∧True∧True∧True else
  ((0:Int)≤(p_1.1:Int)∧(p_1.1:Int)<(↑(List.length p_1.2.2):Int))∧((0:Int)≤(p_1.1:Int)∧(p_1.1:Int)≤(↑(List.take (p_1.1:Int).toNat p_1.2.2++List.replicate
  (List.length p_1.2.2-(p_1.1:Int).toNat) Cod.noG).length:Int))∧(∃ (p':Nat×List (List UInt8)),(p'.1≤(List.filter (Hea.q00 pt) book).length∧p'.2.length≤p'.1∧Hea.q0f
  (Hea.q04 e) e.ws w (List.filter (Hea.q00 pt) book) []=Hea.q0f (Hea.q04 e) e.ws w (List.drop p'.1 (List.filter (Hea.q00 pt) book)) p'.2)∧((0:Int)=(p'.1:Int)∧True ∧
  (↑(List.take (p_1.1:Int).toNat (List.take (p_1.1:Int).toNat p_1.2.2++List.replicate (List.length p_1.2.2-(p_1.1:Int).toNat) Cod.noG)).length:Int)=(↑(List.filter (Hea.q00
  pt) book).length:Int)∧True∧True∧True∧True∧True)∧((True∧True∧True)∧(e.c=e.c∧True)∧(e.lang=e.lang∧e.ws=e.ws∧True)∧True)∧(w=w∧p'.2=[]∧List.take
  (p_1.1:Int).toNat (List.take (p_1.1:Int).toNat p_1.2.2++List.replicate (List.length p_1.2.2-(p_1.1:Int).toNat) Cod.noG)=List.filter (Hea.q00 pt) book∧True)∧True∧True ∧
  True∧True∧True∧True∧True)∧q6f e book pt w (R)
set_option maxRecDepth 100000 in
def DelR2 (e:Cod.Ear) (book:q0d) (pt:Cod.Pt) (w:List (List UInt8)) (R:List UInt8×Bool×Int):Prop :=
  ∀ (p_1:Nat×Nat×q0d),q3h book pt p_1.1 p_1.2.1 p_1.2.2→bif decide ((p_1.2.1:Int)<(↑(List.length p_1.2.2):Int)) then ((0:Int)≤(p_1.2.1:Int)∧(p_1.2.1:Int) <
  (↑(List.length p_1.2.2):Int))∧bif !(List.getD p_1.2.2 (p_1.2.1:Int).toNat Cod.noG).2.2.1 then ((-9223372036854775808:Int)≤(p_1.2.1:Int)+(1:Int)∧(p_1.2.1:Int)+(1 :
  Int)≤(9223372036854775807:Int))∧∃ (p':Nat×Nat×q0d),q3h book pt p'.1 p'.2.1 p'.2.2∧List.length book-p'.2.1<List.length book-p_1.2.1∧((p_1.1:Int)=(p'.1:Int)
  ∧ (p_1.2.1:Int)+(1:Int)=(p'.2.1:Int)∧True∧True∧True)∧((e.lang=e.lang∧e.ws=e.ws∧True)∧(pt.1=pt.1∧pt.2=pt.2∧True)∧(True∧True∧True)∧(e.c=e.c ∧
  True)∧True)∧(p_1.2.2=p'.2.2∧w=w∧True)∧True∧True∧(True∧True∧True∧True)∧True∧True∧True∧True else True∧bif !decide ((250000:Int)<Cod.q1d (List.getD
  p_1.2.2 (p_1.2.1:Int).toNat Cod.noG).2.2.2 pt) then ((0:Int)≤(p_1.1:Int)∧(p_1.1:Int)<(↑(List.length p_1.2.2):Int))∧bif (p_1.1:Int).toNat.beq (p_1.1:Int).toNat then
  ((-9223372036854775808:Int)≤(p_1.1:Int)+(1:Int)∧(p_1.1:Int)+(1:Int)≤(9223372036854775807:Int))∧((-9223372036854775808:Int)≤(p_1.2.1:Int)+(1:Int) ∧
  (p_1.2.1:Int)+(1:Int)≤(9223372036854775807:Int))∧∃ (p':Nat×Nat×q0d),q3h book pt p'.1 p'.2.1 p'.2.2∧List.length book-p'.2.1<List.length book-p_1.2.1∧((↑p_1.1
  : Int)+(1:Int)=(p'.1:Int)∧(p_1.2.1:Int)+(1:Int)=(p'.2.1:Int)∧True∧True∧True)∧((e.lang=e.lang∧e.ws=e.ws∧True)∧(pt.1=pt.1∧pt.2=pt.2∧True) ∧
  (True∧True∧True)∧(e.c=e.c∧True)∧True)∧(List.set p_1.2.2 (p_1.1:Int).toNat (List.getD p_1.2.2 (p_1.2.1:Int).toNat Cod.noG)=p'.2.2∧w=w∧True)∧True∧True∧(True ∧
  True∧True∧True)∧True∧True∧True∧True else False else ((-9223372036854775808:Int)≤(p_1.2.1:Int)+(1:Int)∧(p_1.2.1:Int)+(1:Int)≤(9223372036854775807:Int))∧∃
  (p':Nat×Nat×q0d),q3h book pt p'.1 p'.2.1 p'.2.2∧List.length book-p'.2.1<List.length book-p_1.2.1∧((p_1.1:Int)=(p'.1:Int)∧(p_1.2.1:Int)+(1:Int) =
  (p'.2.1:Int)∧True∧True∧True)∧((e.lang=e.lang∧e.ws=e.ws∧True)∧(pt.1=pt.1∧pt.2=pt.2∧True)∧(True∧True∧True)∧(e.c=e.c∧True)∧True)∧(p_1.2.2=p'.2.2 ∧
  w=w∧True)∧True∧True∧(True∧True∧True∧True)∧True∧True∧True∧True else ((0:Int)≤(p_1.1:Int)∧(p_1.1:Int)<(↑(List.length p_1.2.2):Int))∧((0:Int) ≤
  (p_1.1:Int)∧(p_1.1:Int)≤(↑(List.take (p_1.1:Int).toNat p_1.2.2++List.replicate (List.length p_1.2.2-(p_1.1:Int).toNat) Cod.noG).length:Int))∧(∃ (p':Nat×List (List
  UInt8)),(p'.1≤(List.filter (Hea.q00 pt) book).length∧p'.2.length≤p'.1∧Hea.q0f (Hea.q04 e) e.ws w (List.filter (Hea.q00 pt) book) []=Hea.q0f (Hea.q04 e) e.ws w
  (List.drop p'.1 (List.filter (Hea.q00 pt) book)) p'.2)∧((0:Int)=(p'.1:Int)∧True∧(↑(List.take (p_1.1:Int).toNat (List.take (p_1.1:Int).toNat p_1.2.2++List.replicate
  (List.length p_1.2.2-(p_1.1:Int).toNat) Cod.noG)).length:Int)=(↑(List.filter (Hea.q00 pt) book).length:Int)∧True∧True∧True∧True∧True)∧((True∧True∧True)∧(e.c =
  e.c∧True)∧(e.lang=e.lang∧e.ws=e.ws∧True)∧True)∧(w=w∧p'.2=[]∧List.take (p_1.1:Int).toNat (List.take (p_1.1:Int).toNat p_1.2.2++List.replicate (List.length
  p_1.2.2-(p_1.1:Int).toNat) Cod.noG)=List.filter (Hea.q00 pt) book∧True)∧True∧True∧True∧True∧True∧True∧True)∧q6f e book pt w (R)
set_option maxRecDepth 100000 in
def FarR1 (e:Cod.Ear) (book:q0d) (pt:Cod.Pt) (w:List (List UInt8)) (R:List UInt8×Bool×Int):Prop :=
  (∃ (p':Nat),(p'≤List.length book∧(List.take p' book).all (Hea.q00 pt)=true)∧((0:Int)=(p':Int)∧True∧True∧(↑(List.length book):Int)=(↑(List.length book):Int) ∧
  True)∧((e.lang=e.lang∧e.ws=e.ws∧True)∧(pt.1=pt.1∧pt.2=pt.2∧True)∧(True∧True∧True)∧(e.c=e.c∧True)∧True)∧(book=book∧w=w∧True)∧True∧True∧(True
  ∧ True∧True∧True∧(e.lang=e.lang∧e.ws=e.ws∧True)∧True)∧True∧True∧True∧True)∧∀ (p_1:Nat),p_1≤List.length book∧(List.take p_1 book).all (Hea.q00 pt)=true →
  bif decide ((p_1:Int)<(↑(List.length book):Int)) then ((0:Int)≤(p_1:Int)∧(p_1:Int)<(↑(List.length book):Int))∧bif !(List.getD book (p_1:Int).toNat Cod.noG).2.2.1
  then ((-9223372036854775808:Int)≤(p_1:Int)+(1:Int)∧(p_1:Int)+(1:Int)≤(9223372036854775807:Int))∧(∃ (p':Nat×Nat×q0d),q3h book pt p'.1 p'.2.1 p'.2.2 ∧
  ((p_1:Int)=(p'.1:Int)∧(p_1:Int)+(1:Int)=(p'.2.1:Int)∧True∧True∧True)∧((e.lang=e.lang∧e.ws=e.ws∧True)∧(pt.1=pt.1∧pt.2=pt.2∧True)∧(True∧True
  ∧ True)∧(e.c=e.c∧True)∧True)∧(book=p'.2.2∧w=w∧True)∧True∧True∧(True∧True∧(e.lang=e.lang∧e.ws=e.ws∧True)∧True)∧True∧True∧True∧True)∧DelR1 e
  book pt w (R) else True∧bif decide ((250000:Int)<Cod.q1d (List.getD book (p_1:Int).toNat Cod.noG).2.2.2 pt) then ((-9223372036854775808:Int)≤(p_1:Int)+(1:Int)∧(↑p_1 :
  Int)+(1:Int)≤(9223372036854775807:Int))∧(∃ (p':Nat×Nat×q0d),q3h book pt p'.1 p'.2.1 p'.2.2∧((p_1:Int)=(p'.1:Int)∧(p_1:Int)+(1:Int)=(p'.2.1:Int) ∧
  True∧True∧True)∧((e.lang=e.lang∧e.ws=e.ws∧True)∧(pt.1=pt.1∧pt.2=pt.2∧True)∧(True∧True∧True)∧(e.c=e.c∧True)∧True)∧(book=p'.2.2∧w=w∧True)∧True
  ∧ True∧(True∧True∧(e.lang=e.lang∧e.ws=e.ws∧True)∧True)∧True∧True∧True∧True)∧DelR1 e book pt w (R) else ((-9223372036854775808:Int)≤(p_1:Int)+(1:Int) ∧
  (p_1:Int)+(1:Int)≤(9223372036854775807:Int))∧∃ (p':Nat),(p'≤List.length book∧(List.take p' book).all (Hea.q00 pt)=true)∧List.length book-p'<List.length book -
  p_1∧((p_1:Int)+(1:Int)=(p':Int)∧True∧True∧(↑(List.length book):Int)=(↑(List.length book):Int)∧True)∧((e.lang=e.lang∧e.ws=e.ws∧True)∧(pt.1=pt.1 ∧
  pt.2=pt.2∧True)∧(True∧True∧True)∧(e.c=e.c∧True)∧True)∧(book=book∧w=w∧True)∧True∧True∧(True∧True∧True∧True∧(e.lang=e.lang∧e.ws=e.ws∧True) ∧
  True)∧True∧True∧True∧True else (∃ (p':Nat×List (List UInt8)),(p'.1≤(List.filter (Hea.q00 pt) book).length∧p'.2.length≤p'.1∧Hea.q0f (Hea.q04 e) e.ws w (List.filter
  (Hea.q00 pt) book) []=Hea.q0f (Hea.q04 e) e.ws w (List.drop p'.1 (List.filter (Hea.q00 pt) book)) p'.2)∧((0:Int)=(p'.1:Int)∧True∧(↑(List.length book):Int) =
  (↑(List.filter (Hea.q00 pt) book).length:Int)∧True∧True∧True∧True∧True)∧((True∧True∧True)∧(e.c=e.c∧True)∧(e.lang=e.lang∧e.ws=e.ws∧True)∧True)∧(w=w ∧
  p'.2=[]∧book=List.filter (Hea.q00 pt) book∧True)∧True∧True∧True∧True∧True∧True∧True)∧q6f e book pt w (R)
set_option maxRecDepth 100000 in
def FarR2 (e:Cod.Ear) (book:q0d) (pt:Cod.Pt) (w:List (List UInt8)) (R:List UInt8×Bool×Int):Prop :=
  (∃ (p':Nat),(p'≤List.length book∧(List.take p' book).all (Hea.q00 pt)=true)∧((0:Int)=(p':Int)∧True∧True∧(↑(List.length book):Int)=(↑(List.length book):Int) ∧
  True)∧((e.lang=e.lang∧e.ws=e.ws∧True)∧(pt.1=pt.1∧pt.2=pt.2∧True)∧(True∧True∧True)∧(e.c=e.c∧True)∧True)∧(book=book∧w=w∧True)∧True∧True∧(True
  ∧ True∧True∧True∧True∧True)∧True∧True∧True∧True)∧∀ (p_1:Nat),p_1≤List.length book∧(List.take p_1 book).all (Hea.q00 pt)=true→bif decide ((p_1:Int) <
  (↑(List.length book):Int)) then ((0:Int)≤(p_1:Int)∧(p_1:Int)<(↑(List.length book):Int))∧bif !(List.getD book (p_1:Int).toNat Cod.noG).2.2.1 then ((-9223372036854775808
  : Int)≤(p_1:Int)+(1:Int)∧(p_1:Int)+(1:Int)≤(9223372036854775807:Int))∧(∃ (p':Nat×Nat×q0d),q3h book pt p'.1 p'.2.1 p'.2.2∧((p_1:Int)=(p'.1:Int) ∧
  (p_1:Int)+(1:Int)=(p'.2.1:Int)∧True∧True∧True)∧((e.lang=e.lang∧e.ws=e.ws∧True)∧(pt.1=pt.1∧pt.2=pt.2∧True)∧(True∧True∧True)∧(e.c=e.c∧True) ∧
  True)∧(book=p'.2.2∧w=w∧True)∧True∧True∧(True∧True∧True∧True)∧True∧True∧True∧True)∧DelR2 e book pt w (R) else True∧bif decide ((250000:Int)<Cod.q1d
  (List.getD book (p_1:Int).toNat Cod.noG).2.2.2 pt) then ((-9223372036854775808:Int)≤(p_1:Int)+(1:Int)∧(p_1:Int)+(1:Int)≤(9223372036854775807:Int))∧(∃ (p':Nat ×
  Nat×q0d),q3h book pt p'.1 p'.2.1 p'.2.2∧((p_1:Int)=(p'.1:Int)∧(p_1:Int)+(1:Int)=(p'.2.1:Int)∧True∧True∧True)∧((e.lang=e.lang∧e.ws=e.ws∧True) ∧
  (pt.1=pt.1∧pt.2=pt.2∧True)∧(True∧True∧True)∧(e.c=e.c∧True)∧True)∧(book=p'.2.2∧w=w∧True)∧True∧True∧(True∧True∧True∧True)∧True∧True∧True ∧
  True)∧DelR2 e book pt w (R) else ((-9223372036854775808:Int)≤(p_1:Int)+(1:Int)∧(p_1:Int)+(1:Int)≤(9223372036854775807:Int))∧∃ (p':Nat),(p'≤List.length book ∧
  (List.take p' book).all (Hea.q00 pt)=true)∧List.length book-p'<List.length book-p_1∧((p_1:Int)+(1:Int)=(p':Int)∧True∧True∧(↑(List.length book):Int) =
  (↑(List.length book):Int)∧True)∧((e.lang=e.lang∧e.ws=e.ws∧True)∧(pt.1=pt.1∧pt.2=pt.2∧True)∧(True∧True∧True)∧(e.c=e.c∧True)∧True)∧(book=book∧w=w
  ∧ True)∧True∧True∧(True∧True∧True∧True∧True∧True)∧True∧True∧True∧True else (∃ (p':Nat×List (List UInt8)),(p'.1≤(List.filter (Hea.q00 pt) book).length ∧
  p'.2.length≤p'.1∧Hea.q0f (Hea.q04 e) e.ws w (List.filter (Hea.q00 pt) book) []=Hea.q0f (Hea.q04 e) e.ws w (List.drop p'.1 (List.filter (Hea.q00 pt) book)) p'.2)∧((0 :
  Int)=(p'.1:Int)∧True∧(↑(List.length book):Int)=(↑(List.filter (Hea.q00 pt) book).length:Int)∧True∧True∧True∧True∧True)∧((True∧True∧True)∧(e.c=e.c∧True)
  ∧ (e.lang=e.lang∧e.ws=e.ws∧True)∧True)∧(w=w∧p'.2=[]∧book=List.filter (Hea.q00 pt) book∧True)∧True∧True∧True∧True∧True∧True∧True)∧q6f e book pt w
  (R)
theorem findR_ok {e:Cod.Ear} {book:q0d} {pt:Cod.Pt} {w:List (List UInt8)} {R:List UInt8×Bool×Int} (hp:e.proper book=true) (hC:q0t e.c) (hW:∀ s∈e.ws,s.length≤1000000) (hw:w.length≤5) (hwl:∀ s∈w,s.length≤1000000) (hB:book.length≤1000000)
  (hR:R=Hea.q0f (Hea.q04 e) e.ws w (book.filter (Hea.q00 pt)) []):q6f e book pt w R:=by
 unfold q6f
 simp only [true_and,and_true]
 exact (qie e (book.filter (Hea.q00 pt)) w R _ rfl (Hea.qec hp _) hC hW hw hwl (Nat.le_trans (List.length_filter_le _ _) hB) hR).2
theorem del_step {book:q0d} {pt:Cod.Pt} {k j:Nat} {l:q0d} (h:q3h book pt k j l) (hj:j<book.length):l.getD j Cod.noG=book.getD j Cod.noG∧(Hea.q00 pt (l.getD j Cod.noG)=false→q3h book pt k (j+1) l)∧(Hea.q00 pt (l.getD j Cod.noG)=true→q3h book pt (k+1) (j+1) (l.set k (l.getD j Cod.noG))):=by
 obtain ⟨h1,h2,h3,h4,h5⟩:=h
 have hg:l.getD j Cod.noG=book.getD j Cod.noG:=by
  have:=congrArg (fun z=>List.getD z 0 Cod.noG) h5
  simpa using this
 have hdrop:l.drop (j+1)=book.drop (j+1):=by
  have:=congrArg (List.drop 1) h5
  rwa [List.drop_drop,List.drop_drop] at this
 refine ⟨hg,fun hn=>?_,fun hn=>?_⟩
 ·refine ⟨by omega,hj,h3,?_,hdrop⟩
  rw [Snd.q1s book Cod.noG j hj,List.filter_append,← hg,List.filter_cons_of_neg (by rw [hn]; decide),List.filter_nil,List.append_nil,h4]
 ·refine ⟨by omega,hj,by rw [List.length_set]; exact h3,?_,?_⟩
  ·rw [Snd.q1s book Cod.noG j hj,List.filter_append,← hg,List.filter_cons_of_pos hn,List.filter_nil,← h4,Snd.q1s (l.set k (l.getD j Cod.noG)) Cod.noG k (by rw [List.length_set]; omega),List.take_set_of_le (Nat.le_refl _)]
   congr 2
   rw [List.getD_eq_getElem?_getD (l:=l.set k _),List.getElem?_set_self (by omega)]; rfl
  ·rw [List.drop_set_of_lt (by omega),hdrop]
theorem del1_ok {e:Cod.Ear} {book:q0d} {pt:Cod.Pt} {w:List (List UInt8)} {R:List UInt8×Bool×Int} (hb:book.length≤1000000) (hF:q6f e book pt w R):DelR1 e book pt w R:=by
 unfold DelR1
 simp only [true_and,and_true]
 rintro ⟨k,j,l⟩ hd
 have hd:q3h book pt k j l:=hd
 obtain ⟨h1,h2,h3,h4,h5⟩:=hd
 dsimp only
 have hti:((k:Int).toNat)=k:=rfl
 have htj:((j:Int).toNat)=j:=rfl
 simp only [hti,htj]
 refine bifP (fun hb2=>?_) fun hb2=>?_
 ·have hj:j<book.length:=by have:=of_decide_eq_true hb2; omega
  obtain ⟨hg,hst0,hst1⟩:=del_step ⟨h1,h2,h3,h4,h5⟩ hj
  refine ⟨⟨by omega,by omega⟩,bifP (fun hp=>?_) fun hp=>bifP (fun hq=>?_) fun hq=>?_⟩
  ·refine ⟨⟨by omega,by omega⟩,(k,j+1,l),hst0 ?_,by show book.length-(j+1)<book.length-j; omega,⟨rfl,by push_cast; rfl⟩,rfl⟩
   unfold Hea.q00
   rw [show (l.getD j Cod.noG).2.2.1=false by simpa using hp]; rfl
  ·have hn:Hea.q00 pt (l.getD j Cod.noG)=true:=by
    unfold Hea.q00 Cod.ptOf
    rw [show (l.getD j Cod.noG).2.2.1=true by simpa using hp,decide_eq_true (p:=Cod.q1d (l.getD j Cod.noG).2.2.2 pt≤250000) (by
     have:decide (250000<Cod.q1d (l.getD j Cod.noG).2.2.2 pt)=false:=by simpa using hq
     have:=of_decide_eq_false this; omega)]; rfl
   refine ⟨⟨by omega,by omega⟩,?_⟩
   rw [show k.beq k=true from Nat.beq_refl k,cond_true]
   exact ⟨⟨by omega,by omega⟩,⟨by omega,by omega⟩,(k+1,j+1,l.set k (l.getD j Cod.noG)),hst1 hn,by show book.length-(j+1)<book.length-j; omega,⟨by push_cast; rfl,by push_cast; rfl⟩,rfl⟩
  ·refine ⟨⟨by omega,by omega⟩,(k,j+1,l),hst0 ?_,by show book.length-(j+1)<book.length-j; omega,⟨rfl,by push_cast; rfl⟩,rfl⟩
   unfold Hea.q00 Cod.ptOf
   have:decide (250000<Cod.q1d (l.getD j Cod.noG).2.2.2 pt)=true:=by simpa using hq
   rw [decide_eq_false (p:=Cod.q1d (l.getD j Cod.noG).2.2.2 pt≤250000) (by have:=of_decide_eq_true this; omega),Bool.and_false]
 ·have hle:l.length≤j:=by have:=of_decide_eq_false hb2; omega
  have hfl:book.filter (Hea.q00 pt)=l.take k:=by rw [h4,List.take_of_length_le (by omega)]
  have hlen:(l.take k++List.replicate (l.length-k) Cod.noG).length=l.length:=by rw [List.length_append,List.length_take,List.length_replicate]; omega
  have htk:(l.take k++List.replicate (l.length-k) Cod.noG).take k=l.take k:=by rw [List.take_append_of_le_length (by rw [List.length_take]; omega),List.take_take,Nat.min_self]
  refine ⟨⟨by omega,by omega⟩,⟨by omega,by rw [hlen]; omega⟩,⟨(0,[]),⟨Nat.zero_le _,Nat.le_refl _,rfl⟩,⟨rfl,by rw [htk,hfl]⟩,rfl,by rw [htk,hfl]⟩,hF⟩
theorem del2_ok {e:Cod.Ear} {book:q0d} {pt:Cod.Pt} {w:List (List UInt8)} {R:List UInt8×Bool×Int} (hb:book.length≤1000000) (hF:q6f e book pt w R):DelR2 e book pt w R:=by
 unfold DelR2
 simp only [true_and,and_true]
 rintro ⟨k,j,l⟩ hd
 have hd:q3h book pt k j l:=hd
 obtain ⟨h1,h2,h3,h4,h5⟩:=hd
 dsimp only
 have hti:((k:Int).toNat)=k:=rfl
 have htj:((j:Int).toNat)=j:=rfl
 simp only [hti,htj]
 refine bifP (fun hb2=>?_) fun hb2=>?_
 ·have hj:j<book.length:=by have:=of_decide_eq_true hb2; omega
  obtain ⟨hg,hst0,hst1⟩:=del_step ⟨h1,h2,h3,h4,h5⟩ hj
  refine ⟨⟨by omega,by omega⟩,bifP (fun hp=>?_) fun hp=>bifP (fun hq=>?_) fun hq=>?_⟩
  ·refine ⟨⟨by omega,by omega⟩,(k,j+1,l),hst0 ?_,by show book.length-(j+1)<book.length-j; omega,⟨rfl,by push_cast; rfl⟩,rfl⟩
   unfold Hea.q00
   rw [show (l.getD j Cod.noG).2.2.1=false by simpa using hp]; rfl
  ·have hn:Hea.q00 pt (l.getD j Cod.noG)=true:=by
    unfold Hea.q00 Cod.ptOf
    rw [show (l.getD j Cod.noG).2.2.1=true by simpa using hp,decide_eq_true (p:=Cod.q1d (l.getD j Cod.noG).2.2.2 pt≤250000) (by
     have:decide (250000<Cod.q1d (l.getD j Cod.noG).2.2.2 pt)=false:=by simpa using hq
     have:=of_decide_eq_false this; omega)]; rfl
   refine ⟨⟨by omega,by omega⟩,?_⟩
   rw [show k.beq k=true from Nat.beq_refl k,cond_true]
   exact ⟨⟨by omega,by omega⟩,⟨by omega,by omega⟩,(k+1,j+1,l.set k (l.getD j Cod.noG)),hst1 hn,by show book.length-(j+1)<book.length-j; omega,⟨by push_cast; rfl,by push_cast; rfl⟩,rfl⟩
  ·refine ⟨⟨by omega,by omega⟩,(k,j+1,l),hst0 ?_,by show book.length-(j+1)<book.length-j; omega,⟨rfl,by push_cast; rfl⟩,rfl⟩
   unfold Hea.q00 Cod.ptOf
   have:decide (250000<Cod.q1d (l.getD j Cod.noG).2.2.2 pt)=true:=by simpa using hq
   rw [decide_eq_false (p:=Cod.q1d (l.getD j Cod.noG).2.2.2 pt≤250000) (by have:=of_decide_eq_true this; omega),Bool.and_false]
 ·have hle:l.length≤j:=by have:=of_decide_eq_false hb2; omega
  have hfl:book.filter (Hea.q00 pt)=l.take k:=by rw [h4,List.take_of_length_le (by omega)]
  have hlen:(l.take k++List.replicate (l.length-k) Cod.noG).length=l.length:=by rw [List.length_append,List.length_take,List.length_replicate]; omega
  have htk:(l.take k++List.replicate (l.length-k) Cod.noG).take k=l.take k:=by rw [List.take_append_of_le_length (by rw [List.length_take]; omega),List.take_take,Nat.min_self]
  refine ⟨⟨by omega,by omega⟩,⟨by omega,by rw [hlen]; omega⟩,⟨(0,[]),⟨Nat.zero_le _,Nat.le_refl _,rfl⟩,⟨rfl,by rw [htk,hfl]⟩,rfl,by rw [htk,hfl]⟩,hF⟩
theorem far1_ok {e:Cod.Ear} {book:q0d} {pt:Cod.Pt} {w:List (List UInt8)} {R:List UInt8×Bool×Int} (hb:book.length≤1000000) (hF:q6f e book pt w R) (hR:R=Hea.q0f (Hea.q04 e) e.ws w (book.filter (Hea.q00 pt)) []):FarR1 e book pt w R:=by
 unfold FarR1
 simp only [true_and,and_true]
 refine ⟨⟨0,⟨Nat.zero_le _,rfl⟩,rfl⟩,?_⟩
 rintro k ⟨hk,ha⟩
 have hti:((k:Int).toNat)=k:=rfl
 simp only [hti]
 refine bifP (fun hb2=>?_) fun hb2=>?_
 ·have hlt:k<book.length:=by have:=of_decide_eq_true hb2; omega
  have hst:∀ h:Hea.q00 pt (book.getD k Cod.noG)=false,q3h book pt k (k+1) book:=fun h=>by
   refine ⟨by omega,hlt,rfl,?_,rfl⟩
   rw [Snd.q1s book Cod.noG k hlt,List.filter_append,List.filter_cons_of_neg (by rw [h]; decide),List.filter_nil,List.append_nil,List.filter_eq_self.2 (List.all_eq_true.1 ha)]
  refine ⟨⟨by omega,by omega⟩,bifP (fun hp=>?_) fun hp=>bifP (fun hd=>?_) fun hd=>?_⟩
  ·refine ⟨⟨by omega,by omega⟩,⟨(k,k+1,book),hst ?_,⟨rfl,by push_cast; rfl⟩,rfl⟩,del1_ok hb hF⟩
   unfold Hea.q00
   rw [show (book.getD k Cod.noG).2.2.1=false by simpa using hp]; rfl
  ·refine ⟨⟨by omega,by omega⟩,⟨(k,k+1,book),hst ?_,⟨rfl,by push_cast; rfl⟩,rfl⟩,del1_ok hb hF⟩
   unfold Hea.q00 Cod.ptOf
   rw [decide_eq_false (p:=Cod.q1d (book.getD k Cod.noG).2.2.2 pt≤250000) (by have:=of_decide_eq_true hd; omega),Bool.and_false]
  ·refine ⟨⟨by omega,by omega⟩,k+1,⟨hlt,?_⟩,by omega,by push_cast; rfl⟩
   rw [Snd.q4i book Cod.noG _ k hlt,ha,Bool.true_and]
   unfold Hea.q00 Cod.ptOf
   rw [show (book.getD k Cod.noG).2.2.1=true by simpa using hp,decide_eq_true (p:=Cod.q1d (book.getD k Cod.noG).2.2.2 pt≤250000) (by have:=of_decide_eq_false hd; omega)]; rfl
 ·have hle:book.length≤k:=by have:=of_decide_eq_false hb2; omega
  rw [Snd.q73 book _ k hle] at ha
  have hfl:book.filter (Hea.q00 pt)=book:=List.filter_eq_self.2 (List.all_eq_true.1 ha)
  refine ⟨⟨(0,[]),⟨Nat.zero_le _,Nat.le_refl _,rfl⟩,⟨rfl,by rw [hfl]⟩,rfl,hfl.symm⟩,hF⟩
theorem far2_ok {e:Cod.Ear} {book:q0d} {pt:Cod.Pt} {w:List (List UInt8)} {R:List UInt8×Bool×Int} (hb:book.length≤1000000) (hF:q6f e book pt w R) (hR:R=Hea.q0f (Hea.q04 e) e.ws w (book.filter (Hea.q00 pt)) []):FarR2 e book pt w R:=by
 unfold FarR2
 simp only [true_and,and_true]
 refine ⟨⟨0,⟨Nat.zero_le _,rfl⟩,rfl⟩,?_⟩
 rintro k ⟨hk,ha⟩
 have hti:((k:Int).toNat)=k:=rfl
 simp only [hti]
 refine bifP (fun hb2=>?_) fun hb2=>?_
 ·have hlt:k<book.length:=by have:=of_decide_eq_true hb2; omega
  have hst:∀ h:Hea.q00 pt (book.getD k Cod.noG)=false,q3h book pt k (k+1) book:=fun h=>by
   refine ⟨by omega,hlt,rfl,?_,rfl⟩
   rw [Snd.q1s book Cod.noG k hlt,List.filter_append,List.filter_cons_of_neg (by rw [h]; decide),List.filter_nil,List.append_nil,List.filter_eq_self.2 (List.all_eq_true.1 ha)]
  refine ⟨⟨by omega,by omega⟩,bifP (fun hp=>?_) fun hp=>bifP (fun hd=>?_) fun hd=>?_⟩
  ·refine ⟨⟨by omega,by omega⟩,⟨(k,k+1,book),hst ?_,⟨rfl,by push_cast; rfl⟩,rfl⟩,del2_ok hb hF⟩
   unfold Hea.q00
   rw [show (book.getD k Cod.noG).2.2.1=false by simpa using hp]; rfl
  ·refine ⟨⟨by omega,by omega⟩,⟨(k,k+1,book),hst ?_,⟨rfl,by push_cast; rfl⟩,rfl⟩,del2_ok hb hF⟩
   unfold Hea.q00 Cod.ptOf
   rw [decide_eq_false (p:=Cod.q1d (book.getD k Cod.noG).2.2.2 pt≤250000) (by have:=of_decide_eq_true hd; omega),Bool.and_false]
  ·refine ⟨⟨by omega,by omega⟩,k+1,⟨hlt,?_⟩,by omega,by push_cast; rfl⟩
   rw [Snd.q4i book Cod.noG _ k hlt,ha,Bool.true_and]
   unfold Hea.q00 Cod.ptOf
   rw [show (book.getD k Cod.noG).2.2.1=true by simpa using hp,decide_eq_true (p:=Cod.q1d (book.getD k Cod.noG).2.2.2 pt≤250000) (by have:=of_decide_eq_false hd; omega)]; rfl
 ·have hle:book.length≤k:=by have:=of_decide_eq_false hb2; omega
  rw [Snd.q73 book _ k hle] at ha
  have hfl:book.filter (Hea.q00 pt)=book:=List.filter_eq_self.2 (List.all_eq_true.1 ha)
  refine ⟨⟨(0,[]),⟨Nat.zero_le _,Nat.le_refl _,rfl⟩,⟨rfl,by rw [hfl]⟩,rfl,hfl.symm⟩,hF⟩
end Go.Proofs.YtfecgebhoondjaaGreatDoor
set_option linter.unusedVariables false
namespace Go.Proofs.YtfecgebhoondjaaGreatDoor
open Go.RowKit
open R
set_option maxRecDepth 100000 in
theorem here_vc (e:Cod.Ear) (book:q0d) (pt:Cod.Pt) (text:List UInt8) (h:cHere.pre ((e.lang,e.ws),e.c,book,pt,text)) :
  (q1g (e.lang,e.ws)∧q0t e.c∧q3y book)∧bif !e.proper book then ([],false,(1:Int))=Hea.q2l e book pt text else True∧bif !Cod.onB pt then ([],false,(1:Int)) =
  Hea.q2l e book pt text else (∃ (p':Bool×List UInt8×List (List UInt8)),q3x text p'.1 p'.2.1 p'.2.2∧(true=p'.1∧True∧True∧True)∧((text=p'.2.1∧True)∧(True∧True ∧
  True)∧(e.c=e.c∧True)∧(True∧True)∧(false=false∧True)∧(True∧True)∧(e.lang=e.lang∧e.ws=e.ws∧True)∧(pt.1=pt.1∧pt.2=pt.2∧True)∧True)∧(p'.2.2=[] ∧
  True)∧True∧True∧(True∧True∧True∧book=book∧True∧True∧True)∧True∧True∧True∧True∧(True∧True∧True∧True)∧True)∧∀ (p:Bool×List UInt8×List (List
  UInt8)),q3x text p.1 p.2.1 p.2.2→bif p.1 then (p.2.1.length≤(1000000:Nat)∧[(32:UInt8)]=[(32:UInt8)])∧(cutF p.2.1).1.length≤(1000000:Nat)∧bif (cutF p.2.1).1.any fun
  (c:UInt8)=>!Snd.letB c then ([],false,(5:Int))=Hea.q2l e book pt text else bif (cutF p.2.1).1==[] then ([],false,(5:Int))=Hea.q2l e book pt text else bif decide ((12 :
  Int)<(↑(cutF p.2.1).1.length:Int)) then ([],false,(5:Int))=Hea.q2l e book pt text else bif (p.2.2.length:Int)==(5:Int) then ([],false,(5:Int))=Hea.q2l e book pt
  text else ((p.2.2.length+[(cutF p.2.1).1].length)*(16:Nat)≤(140737488355328:Nat)∧∃ (p':Bool×List UInt8×List (List UInt8)),q3x text p'.1 p'.2.1 p'.2.2∧((if p'.1=true
  then p'.2.1.length+(1:Nat) else (0:Nat))<if p.1=true then p.2.1.length+(1:Nat) else (0:Nat))∧((cutF p.2.1).2.2=p'.1∧True∧True∧True)∧(((cutF p.2.1).2.1=p'.2.1 ∧
  True)∧(True∧True∧True)∧(e.c=e.c∧True)∧(True∧True)∧(false=false∧True)∧(True∧True)∧(e.lang=e.lang∧e.ws=e.ws∧True)∧(pt.1=pt.1∧pt.2=pt.2∧True) ∧
  True)∧(p.2.2++[(cutF p.2.1).1]=p'.2.2∧True)∧True∧True∧(True∧True∧True∧book=book∧True∧True∧True)∧True∧True∧True∧True∧(True∧True∧True∧True)∧True)
  ∧ ((p.2.2.length+[(cutF p.2.1).1].length)*(16:Nat)≤(140737488355328:Nat)∧∃ (p':Bool×List UInt8×List (List UInt8)),q3x text p'.1 p'.2.1 p'.2.2∧((if p'.1=true then
  p'.2.1.length+(1:Nat) else (0:Nat))<if p.1=true then p.2.1.length+(1:Nat) else (0:Nat))∧((cutF p.2.1).2.2=p'.1∧True∧True∧True)∧(((cutF p.2.1).2.1=p'.2.1∧True)
  ∧ (True∧True∧True)∧(e.c=e.c∧True)∧(True∧True)∧(false=false∧True)∧(True∧True)∧(e.lang=e.lang∧e.ws=e.ws∧True)∧(pt.1=pt.1∧pt.2=pt.2∧True)∧True) ∧
  (p.2.2++[(cutF p.2.1).1]=p'.2.2∧True)∧True∧True∧(True∧True∧True∧book=book∧True∧True∧True)∧True∧True∧True∧True∧(True∧True∧True∧True)∧True) ∧
  (p.2.2.length+[(cutF p.2.1).1].length)*(16:Nat)≤(140737488355328:Nat)∧∃ (p':Bool×List UInt8×List (List UInt8)),q3x text p'.1 p'.2.1 p'.2.2∧((if p'.1=true then
  p'.2.1.length+(1:Nat) else (0:Nat))<if p.1=true then p.2.1.length+(1:Nat) else (0:Nat))∧((cutF p.2.1).2.2=p'.1∧True∧True∧True)∧(((cutF p.2.1).2.1=p'.2.1∧True)
  ∧ (True∧True∧True)∧(e.c=e.c∧True)∧(True∧True)∧(false=false∧True)∧(True∧True)∧(e.lang=e.lang∧e.ws=e.ws∧True)∧(pt.1=pt.1∧pt.2=pt.2∧True)∧True) ∧
  (p.2.2++[(cutF p.2.1).1]=p'.2.2∧True)∧True∧True∧(True∧True∧True∧book=book∧True∧True∧True)∧True∧True∧True∧True∧(True∧True∧True∧True)∧True else
  (List.length book≤(1000000:Nat)∧FarR1 e book pt p.2.2 (Hea.q2l e book pt text))∧List.length book≤(1000000:Nat)∧(FarR1 e book pt p.2.2 (Hea.q2l e book pt text))∧FarR2 e
  book pt p.2.2 (Hea.q2l e book pt text)
  := by
 obtain ⟨hW,hC,hB,hT⟩:=h
 have hT:text.length≤1000:=hT
 simp only [true_and,and_true]
 refine ⟨⟨hW,hC,hB⟩,bifP (fun hb=>?_) fun hb=>?_⟩
 ·unfold Hea.q2l
  rw [show e.proper book=false by simpa using hb]; rfl
 have hp:e.proper book=true:=by simpa using hb
 refine bifP (fun hb=>?_) fun hb=>?_
 ·unfold Hea.q2l
  rw [hp,show Cod.onB pt=false by simpa using hb]; rfl
 have ho:Cod.onB pt=true:=by simpa using hb
 have hh:Hea.q2l e book pt text=match Hea.q6n text with
   | none=>([],false,5)
   | some words=>Hea.q0f (Hea.q04 e) e.ws words (book.filter (Hea.q00 pt)) []:=by
  unfold Hea.q2l
  rw [hp,ho]; rfl
 refine ⟨⟨(true,text,[]),⟨rfl,rfl,Nat.zero_le _,Nat.le_refl _⟩,rfl,rfl,rfl⟩,?_⟩
 rintro ⟨more,rest,w⟩ hlis
 have hlis:q3x text more rest w:=hlis
 have hlw:w.length≤5:=hlis.2.2.1
 have hlr:rest.length≤text.length:=hlis.2.2.2
 dsimp only
 refine bifP (fun hb=>?_) fun hb=>?_
 ·obtain rfl:more=true:=hb
  have bad:Hea.q6o (cutF rest).1=false∨w.length=5→([],false,(5:Int))=Hea.q2l e book pt text:=fun h=>by
   rw [hh,Hea.lis_bad hlis h]
  have hcl:(cutF rest).1.length≤1000000:=by
   unfold cutF
   split
   ·dsimp only; rw [List.length_take]; omega
   ·dsimp only; omega
  refine ⟨by omega,hcl,bifP (fun hb=>bad (.inl (Hea.q8e (.inl hb)))) fun h1=>bifP (fun hb=>bad (.inl (Hea.q8e (.inr (.inl hb))))) fun h2=>bifP (fun hb=>bad (.inl (Hea.q8e (.inr (.inr (of_decide_eq_true hb)))))) fun h3=>bifP (fun hb=>bad (.inr (by have:=eq_of_beq hb; omega))) fun h4=>?_⟩
  have h5:w.length<5:=by rw [beq_eq_false_iff_ne] at h4; omega
  have hst:=Hea.lis_step hlis (Hea.word_of h1 h2 (of_decide_eq_false h3)) h5
  have hg:(w.length+[(cutF rest).1].length)*16≤140737488355328∧∃ p':Bool×List UInt8×List (List UInt8),q3x text p'.1 p'.2.1 p'.2.2∧((if p'.1=true then p'.2.1.length+1 else 0)<if true=true then rest.length+1 else 0)∧(cutF rest).2.2=p'.1∧(cutF rest).2.1=p'.2.1∧w++[(cutF rest).1]=p'.2.2 :=
   ⟨by rw [List.length_singleton]; omega,((cutF rest).2.2,(cutF rest).2.1,w++[(cutF rest).1]),hst,Hea.lis_less,rfl,rfl,rfl⟩
  exact ⟨hg,hg,hg⟩
 ·obtain rfl:more=false:=hb
  have hv:Hea.q2l e book pt text=Hea.q0f (Hea.q04 e) e.ws w (book.filter (Hea.q00 pt)) []:=by rw [hh,Hea.lis_end hlis]
  have hwl:∀ s∈w,s.length≤1000000:=fun s hs=>by
   have:=List.all_eq_true.1 hlis.2.1 s hs
   unfold Hea.q6o at this
   simp only [Bool.and_eq_true,decide_eq_true_eq] at this
   omega
  have hF:=findR_ok (pt:=pt) hp hC hW.2.2 hlw hwl hB.1 hv
  exact ⟨⟨hB.1,far1_ok hB.1 hF hv⟩,hB.1,far1_ok hB.1 hF hv,far2_ok hB.1 hF hv⟩
end Go.Proofs.YtfecgebhoondjaaGreatDoor
set_option linter.unusedVariables false
namespace Go.Proofs.YtfecgebhoondjaaGreatDoor
open Go.RowKit
open R
theorem q0g.app {P:Program}:∀ {l m:List (Nat×Func)},q0g P l→q0g P m→q0g P (l++m)
 | [],m,_,h=>h
 | (k,fn)::l,m,hl,hm=>fun f g hg=>by
  rw [List.cons_append,look?_cons] at hg
  split at hg
  ·rename_i e
   subst e
   exact hl k g (by rw [look?_cons,if_pos rfl]; exact hg)
  ·rename_i hne
   by_cases hin:∃ y,look? f l=some y
   ·obtain ⟨y,hy⟩:=hin
    have:∀ {l m:List (Nat×Func)},look? f l=some y→look? f (l++m)=some y:=fun {l m} h=>by
     induction l with
     | nil=>cases h
     | cons z l ih =>
      obtain ⟨k2,f2⟩:=z
      rw [List.cons_append,look?_cons]
      rw [look?_cons] at h
      split
      ·rename_i e2; rw [if_pos e2] at h; exact h
      ·rename_i e2; rw [if_neg e2] at h; exact ih h
    rw [this hy] at hg
    injection hg with hg
    subst hg
    exact hl f y (by rw [look?_cons,if_neg hne]; exact hy)
   ·have:∀ {l m:List (Nat×Func)},(¬ ∃ y,look? f l=some y)→look? f (l++m)=look? f m:=fun {l m} h=>by
     induction l with
     | nil=>rfl
     | cons z l ih =>
      obtain ⟨k2,f2⟩:=z
      rw [look?_cons] at h
      rw [List.cons_append,look?_cons]
      split
      ·rename_i e2; exact absurd ⟨f2,by rw [if_pos e2]⟩ h
      ·rename_i e2
       refine ih fun ⟨y,hy⟩=>h ⟨y,by rw [if_neg e2]; exact hy⟩
    rw [this hin] at hg
    exact hm f g hg
theorem kitHr_ok:kitHr.Ok Tryz.prog where
 cons:=all_cons qe5 (all_cons qgg (all_cons cut_holds (all_cons (show cEqS.lent.Holds Tryz.prog from eqS_holds) (all_cons qdp (all_cons qif all_nil)))))
 ns:=all_cons qes (all_cons cloneG_holds all_nil)
 os:=all_cons qea all_nil
 fcs:=all_cons qi2 all_nil
 rcs:=all_nil
 inls:=q0g.app inlHe_ok (q0g.more Tryz.func53 (by kernel_rfl) (by kernel_rfl) (q0g.more Tryz.func54 (by kernel_rfl) (by kernel_rfl) (q0g.more Tryz.func108 (by kernel_rfl) (by kernel_rfl) q0g.nil)))
set_option maxRecDepth 100000000 in
theorem qip:cHere.Holds Tryz.prog:=by
 refine holdsX (T:=kitHr) (fun p=>anHr ⟨p.1.1,p.1.2,p.2.1⟩ p.2.2.1 p.2.2.2.1 p.2.2.2.2) Tryz.func20 (by kernel_rfl) (by kernel_rfl) mixed (by kernel_rfl) kitHr_ok (fun _=>[q9g 7]) fun p hp=>?_
 obtain ⟨⟨lang,ws⟩,c,book,pt,text⟩:=p
 refine cast ?_ (here_vc ⟨lang,ws,c⟩ book pt text hp)
 kernel_rfl
end Go.Proofs.YtfecgebhoondjaaGreatDoor
set_option linter.unusedVariables false
namespace Go.Proofs.YtfecgebhoondjaaGreatDoor
namespace Cod
theorem bump_app {n:Int}:∀ (a r:List Int),a.all (fun d=>decide (n≤d+1))=true→bump n (a++r)=(List.replicate a.length 0++(bump n r).1,(bump n r).2)
 | [],r,_=>rfl
 | d::a,r,h=>by
  rw [List.all_cons,Bool.and_eq_true,decide_eq_true_eq] at h
  rw [List.cons_append,bump,decide_eq_false (by omega),bump_app a r h.2]
  rfl
theorem all_rev {α:Type} (p:α→Bool) (l:List α):l.reverse.all p=l.all p:=List.all_reverse
theorem next_end {n:Int} {l:List Int} (ht:(l.drop (l.length-l.length)).all (fun d=>decide (n≤d+1))=true):(nextL n l).2=false:=by
 rw [Nat.sub_self,List.drop_zero] at ht
 unfold nextL
 have:=bump_app l.reverse [] (by rw [all_rev]; exact ht)
 rw [List.append_nil] at this
 rw [this]; rfl
end Cod
end Go.Proofs.YtfecgebhoondjaaGreatDoor
set_option linter.unusedVariables false
namespace Go.Proofs.YtfecgebhoondjaaGreatDoor
open Go.RowKit
open R
end Go.Proofs.YtfecgebhoondjaaGreatDoor
set_option linter.unusedVariables false
namespace Go.Proofs.YtfecgebhoondjaaGreatDoor
open Go.RowKit
open R
end Go.Proofs.YtfecgebhoondjaaGreatDoor
set_option linter.unusedVariables false
namespace Go.Proofs.YtfecgebhoondjaaGreatDoor
open Go.RowKit
open R
end Go.Proofs.YtfecgebhoondjaaGreatDoor
set_option linter.unusedVariables false
namespace Go.Proofs.YtfecgebhoondjaaGreatDoor
open Go.RowKit
open R
theorem part_len (e:Cod.Ear) (code:List Int) (i k:Nat) (hw:e.ws.length≤1000000):(q3a e code i k).length≤1000000:=by
 unfold q3a
 rw [List.length_map]
 have h1:=List.length_filter_le (fun x=>!(x==code.getD i 0)) ((e.near (code.getD i 0)).take k)
 have h2:=qha e (code.getD i 0)
 rw [List.length_take] at h1
 omega
theorem qin (e:Cod.Ear) (code:List Int) (i:Nat) (hw:e.ws.length≤1000000):(e.q3w code i).length≤1000002:=by
 rw [qfh (Nat.le_refl _),List.length_append,List.length_cons]
 have:=part_len e code i (e.near (code.getD i 0)).length hw
 split
 ·rw [List.length_nil]; omega
 ·rw [List.length_singleton]; omega
end Go.Proofs.YtfecgebhoondjaaGreatDoor
set_option linter.unusedVariables false
namespace Go.Proofs.YtfecgebhoondjaaGreatDoor
open Go.RowKit Go.Lib
open R
def IntsIn (w:World) (ok:Nat→Prop) (A:Option Addr) (n:Nat) (xs:List Int):Prop :=
 n=xs.length∧(0<n→∃ g off,A=some ⟨g,off,none⟩∧g<w.heap.size∧ok g∧∀ j,j<xs.length→w.cell? ⟨g,off+j,none⟩=some (.int .i64 (xs.getD j 0)))
end Go.Proofs.YtfecgebhoondjaaGreatDoor
set_option linter.unusedVariables false
namespace Go.Proofs.YtfecgebhoondjaaGreatDoor
open Go.RowKit Go.Lib Go.Sort
open R
structure SV (w:World) (S:Nat→Prop) where
 A:Option Addr
 c:Nat
 l:List Int
 small:l.length≤9223372036854775807
 cap:l.length≤c
 ok:IntsIn w S A l.length l
instance (w:World) (S:Nat→Prop):Inhabited (SV w S):=⟨⟨none,0,[],Nat.zero_le _,Nat.le_refl _,rfl,fun h=>absurd h (Nat.lt_irrefl _)⟩⟩
def SV.enc {w:World} {S:Nat→Prop} (x:SV w S):Value:=.slice x.A x.l.length x.c
end Go.Proofs.YtfecgebhoondjaaGreatDoor
set_option linter.unusedVariables false
namespace Go.Proofs.YtfecgebhoondjaaGreatDoor
open Go.RowKit Go.Lib Go.Sort
open R
end Go.Proofs.YtfecgebhoondjaaGreatDoor
set_option linter.unusedVariables false
namespace Go.Proofs.YtfecgebhoondjaaGreatDoor
open Go.RowKit Go.Lib Go.Sort
open R
end Go.Proofs.YtfecgebhoondjaaGreatDoor
set_option linter.unusedVariables false
namespace Go.Proofs.YtfecgebhoondjaaGreatDoor
open Go.RowKit Go.Lib Go.Sort
open R
end Go.Proofs.YtfecgebhoondjaaGreatDoor
set_option linter.unusedVariables false
namespace Go.Proofs.YtfecgebhoondjaaGreatDoor
open Go.RowKit
open R
end Go.Proofs.YtfecgebhoondjaaGreatDoor
set_option linter.unusedVariables false
namespace Go.Proofs.YtfecgebhoondjaaGreatDoor
open Go.RowKit
open R
end Go.Proofs.YtfecgebhoondjaaGreatDoor
set_option linter.unusedVariables false
namespace Go.Proofs.YtfecgebhoondjaaGreatDoor
open Go.RowKit Go.Lib Go.Sort
open R
end Go.Proofs.YtfecgebhoondjaaGreatDoor
set_option linter.unusedVariables false
namespace Go.Proofs.YtfecgebhoondjaaGreatDoor
open Go.RowKit
open R
end Go.Proofs.YtfecgebhoondjaaGreatDoor
set_option linter.unusedVariables false
namespace Go.Proofs.YtfecgebhoondjaaGreatDoor
open Go.RowKit
open R
end Go.Proofs.YtfecgebhoondjaaGreatDoor
set_option linter.unusedVariables false
namespace Go.Proofs.YtfecgebhoondjaaGreatDoor
open Go.RowKit
open R
end Go.Proofs.YtfecgebhoondjaaGreatDoor
set_option linter.unusedVariables false
namespace Go.Proofs.YtfecgebhoondjaaGreatDoor
open Go.RowKit
open R
end Go.Proofs.YtfecgebhoondjaaGreatDoor
set_option linter.unusedVariables false
namespace Go.Proofs.YtfecgebhoondjaaGreatDoor
open Go.RowKit
open R
theorem few_out41 {lang:List UInt8} {ws:List (List UInt8)} {c:CfP} {book:q0d} {m:Int} (h:q5l (lang,ws) c book m=true):q1g (lang,ws)∧q0t c∧(∀ g∈book,g.2.1.length≤8∧g.1.length≤60)∧(book.length:Int)≤m∧ws.length≤8:=by
 unfold q5l q6m q68 at h
 simp only [Bool.and_eq_true,List.all_eq_true,decide_eq_true_eq] at h
 obtain ⟨⟨h1,h2,h3⟩,⟨h4,h5⟩,h6,h7,h8,h9⟩:=h
 exact ⟨⟨by show lang.length≤_; omega,by show ws.length≤_; omega,fun s hs=>Nat.le_trans (h3 s hs) (by omega)⟩,⟨by omega,fun x hx=>by have:=h5 x hx; omega⟩,h9,h8,h6⟩
theorem longB_of {book:q0d} {m:Int} (h:∀ g∈book,g.2.1.length≤8∧g.1.length≤60) (hm:(book.length:Int)≤m) (hm2:m≤1000):q3y book:=⟨by omega,fun g hg=>by have:=h g hg; omega⟩
theorem any_eq_false {l:List (List Int)} {x:List Int} (h:x ∉ l):l.any (fun y=>y==x)=false:=by
 rw [List.any_eq_false]
 intro y hy
 rw [beq_iff_eq]
 rintro rfl
 exact h hy
end Go.Proofs.YtfecgebhoondjaaGreatDoor
